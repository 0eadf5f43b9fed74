/- The contracts of the small functions of the slots. -/
import Derived.Test.YtippclnmijelfaaSlA
namespace Go.Proofs.Ytippclnmijelfaa.Sl
open Go.RowKit Go.Proofs.YtippclnmijelfaaW.PrintWords Go.Proofs.YtippclnmijelfaaW.PrintLast Go.Proofs.YtippclnmijelfaaW.PrintMore
open Go.Proofs.Ytippclnmijelfaa.En Go.Proofs.Ytippclnmijelfaa.Rf Go.Proofs.Ytippclnmijelfaa.Wi Go.Proofs.Ytippclnmijelfaa.Rc Go.Proofs.Ytippclnmijelfaa.Sa
set_option linter.unusedVariables false
set_option linter.unusedSimpArgs false

/-- A slot with an unconfirmed image that has tries left; one with a confirmed image. -/
def pend (x : Slot) : Prop := (x.s = 1 ∨ x.s = 2) ∧ x.t < 3
instance (x : Slot) : Decidable (pend x) := by unfold pend; infer_instance
def conf (x : Slot) : Prop := x.s = 3
instance (x : Slot) : Decidable (conf x) := by unfold conf; infer_instance
def rep (x y : Slot) : Prop := x.s = 3 → y.s = 3
instance (x y : Slot) : Decidable (rep x y) := by unfold rep; infer_instance
/-- The right arguments of a step. -/
def right (a b : Slot) (i : Int) : Prop := ok a b ∧ (i = 0 ∨ i = 1)
instance (a b : Slot) (i : Int) : Decidable (right a b i) := by unfold right; infer_instance

set_option maxHeartbeats 4000000 in
set_option maxRecDepth 100000 in
theorem pending_any (x : Slot) (w : World) : Calls Try.prog 71 #[slV x] w fun e w' => e = .returned (.bool (decide (pend x))) ∧ Below w.heap.size w w' := by
  go_enter Try.func71, Try.ntmps71
  go_wp2
  all_goals (go_ret; refine ⟨?_, below_alloc (Below.refl _ _) _⟩; unfold pend; simp_all)

set_option maxHeartbeats 4000000 in
set_option maxRecDepth 100000 in
theorem confirmed_any (x : Slot) (w : World) : Calls Try.prog 73 #[slV x] w fun e w' => e = .returned (.bool (decide (conf x))) ∧ Below w.heap.size w w' := by
  go_enter Try.func73, Try.ntmps73
  go_wp2
  all_goals (go_ret; refine ⟨?_, below_alloc (Below.refl _ _) _⟩; unfold conf; by_cases h3 : x.s = 3 <;> simp_all)

set_option maxHeartbeats 4000000 in
set_option maxRecDepth 100000 in
theorem wrong_any (a b : Slot) (i : Int) (w : World) : Calls Try.prog 77 #[stV a b, .int .i64 i] w fun e w' => e = .returned (.bool (!decide (right a b i))) ∧ Below w.heap.size w w' := by
  go_enter Try.func77, Try.ntmps77
  go_wp2_with fail
  refine (rValid_any a b _).mono ?_
  rintro e w1 ⟨rfl, hb1⟩
  have HB1 := Aside0.mk (below_step (below_alloc (Below.refl w.heap.size w) _) hb1)
  clear hb1
  by_cases hok : ok a b
  · by_cases h0 : i = 0
    · subst h0
      go_wp2
      go_ret
      exact ⟨by simp [right, hok], HB1.out⟩
    · by_cases h1 : i = 1
      · subst h1
        go_wp2
        go_ret
        exact ⟨by simp [right, hok], HB1.out⟩
      · go_wp2
        all_goals (go_ret; refine ⟨?_, HB1.out⟩; simp_all [right])
  · go_wp2
    all_goals (go_ret; refine ⟨?_, HB1.out⟩; simp_all [right])

set_option maxHeartbeats 4000000 in
set_option maxRecDepth 100000 in
theorem kept0_any (a b : Slot) (w : World) : Calls Try.prog 78 #[stV a b, .int .i64 0] w fun e w' => e = .returned (.bool (!decide (rep a b))) ∧ Below w.heap.size w w' := by
  go_enter Try.func78, Try.ntmps78
  go_wp2
  all_goals (go_ret; refine ⟨?_, below_alloc (Below.refl _ _) _⟩; unfold rep; by_cases h3 : b.s = 3 <;> simp_all)
set_option maxHeartbeats 4000000 in
set_option maxRecDepth 100000 in
theorem kept1_any (a b : Slot) (w : World) : Calls Try.prog 78 #[stV a b, .int .i64 1] w fun e w' => e = .returned (.bool (!decide (rep b a))) ∧ Below w.heap.size w w' := by
  go_enter Try.func78, Try.ntmps78
  go_wp2
  all_goals (go_ret; refine ⟨?_, below_alloc (Below.refl _ _) _⟩; unfold rep; by_cases h3 : a.s = 3 <;> simp_all)

/-- The rank of a slot. -/
def rk (x : Slot) (f : Int) : Int := if x.v < f then 0 else if pend x then 2 else if x.s = 3 then 1 else 0
set_option maxHeartbeats 4000000 in
set_option maxRecDepth 100000 in
theorem rank_any (x : Slot) (f : Int) (w : World) : Calls Try.prog 81 #[slV x, .int .i64 f] w fun e w' => e = .returned (.int .i64 (rk x f)) ∧ Below w.heap.size w w' := by
  go_enter Try.func81, Try.ntmps81
  go_wp2
  all_goals (go_ret; refine ⟨?_, below_alloc (Below.refl _ _) _⟩; unfold rk pend; simp_all)
  all_goals (try (split <;> first | rfl | omega))
  all_goals (try omega)

set_option maxHeartbeats 4000000 in
set_option maxRecDepth 100000 in
theorem replaceable_any (x y : Slot) (w : World) : Calls Try.prog 68 #[slV x, slV y] w fun e w' => e = .returned (.bool (decide (rep x y))) ∧ Below w.heap.size w w' := by
  go_enter Try.func68, Try.ntmps68
  go_wp2_with fail
  refine (confirmed_any x _).mono ?_
  rintro e w1 ⟨rfl, hb1⟩
  have HB1 := Aside0.mk (below_step (below_alloc (below_alloc (Below.refl w.heap.size w) (Obj.cells #[.int .i64 x.s, .int .i64 x.v, .int .i64 x.t] 46)) (Obj.cells #[.int .i64 y.s, .int .i64 y.v, .int .i64 y.t] 46)) hb1)
  have HG0 := Aside0.mk (blk_below (blk_new (w.alloc (Obj.cells #[.int .i64 x.s, .int .i64 x.v, .int .i64 x.t] 46)) (Obj.cells #[.int .i64 y.s, .int .i64 y.v, .int .i64 y.t] 46)) hb1)
  have hsz : (w.alloc (Obj.cells #[.int .i64 x.s, .int .i64 x.v, .int .i64 x.t] 46)).heap.size = w.heap.size + 1 := by simp
  rw [hsz] at HG0
  have hc0 : w1.cell? ⟨w.heap.size + 1, 0, none⟩ = some (.int .i64 y.s) := by rw [blk_cell HG0.out]; rfl
  have hc1 : w1.cell? ⟨w.heap.size + 1, 1, none⟩ = some (.int .i64 y.v) := by rw [blk_cell HG0.out]; rfl
  have hc2 : w1.cell? ⟨w.heap.size + 1, 2, none⟩ = some (.int .i64 y.t) := by rw [blk_cell HG0.out]; rfl
  clear hb1 hsz HG0
  by_cases hx : conf x
  · go_wp2_with fail
    refine (confirmed_any y _).mono ?_
    rintro e w2 ⟨rfl, hb2⟩
    have HB2 := Aside0.mk (below_step HB1.out hb2)
    clear hb2
    go_wp2
    go_ret
    exact ⟨by unfold conf at *; unfold rep; simp_all, HB2.out⟩
  · go_wp2
    go_ret
    exact ⟨by unfold conf at *; unfold rep; simp_all, HB1.out⟩

set_option maxHeartbeats 4000000 in
set_option maxRecDepth 100000 in
theorem begin1_any (x y : Slot) (w : World) : Calls Try.prog 70 #[slV x, slV y] w fun e w' => e = .returned (.bool (decide (pend x))) ∧ Below w.heap.size w w' := by
  go_enter Try.func70, Try.ntmps70
  go_wp2_with fail
  refine (pending_any x _).mono ?_
  rintro e w1 ⟨rfl, hb1⟩
  have HB1 := Aside0.mk (below_step (below_alloc (below_alloc (Below.refl w.heap.size w) _) _) hb1)
  clear hb1
  go_wp2
  go_ret
  exact ⟨rfl, HB1.out⟩

set_option maxHeartbeats 4000000 in
set_option maxRecDepth 100000 in
theorem fail1_any (x y : Slot) (w : World) : Calls Try.prog 74 #[slV x, slV y] w fun e w' => e = .returned (.bool (decide (x.s ≠ 0 ∧ x.s ≠ 4))) ∧ Below w.heap.size w w' := by
  go_enter Try.func74, Try.ntmps74
  go_wp2
  all_goals (go_ret; refine ⟨?_, below_alloc (below_alloc (Below.refl _ _) _) _⟩; by_cases h4 : x.s = 4 <;> simp_all)

set_option maxHeartbeats 4000000 in
set_option maxRecDepth 100000 in
theorem confirm1_any (x y : Slot) (w : World) : Calls Try.prog 79 #[slV x, slV y] w fun e w' => e = .returned (.bool (decide (x.s = 2 ∨ x.s = 3))) ∧ Below w.heap.size w w' := by
  by_cases hx : x.s = 2
  · go_enter Try.func79, Try.ntmps79
    go_wp2
    go_ret
    exact ⟨by simp [hx], below_alloc (below_alloc (Below.refl _ _) _) _⟩
  · go_enter Try.func79, Try.ntmps79
    go_wp2_with fail
    refine (confirmed_any x _).mono ?_
    rintro e w1 ⟨rfl, hb1⟩
    have HB1 := Aside0.mk (below_step (below_alloc (below_alloc (Below.refl w.heap.size w) _) _) hb1)
    clear hb1
    go_wp2
    go_ret
    exact ⟨by simp [hx, conf], HB1.out⟩

set_option maxHeartbeats 4000000 in
set_option maxRecDepth 100000 in
theorem begin2_any (x : Slot) (w : World) (h : 0 ≤ x.t ∧ x.t ≤ 3) : Calls Try.prog 72 #[slV x] w fun e w' => e = .returned (slV ⟨2, x.v, x.t + 1⟩) ∧ Below w.heap.size w w' := by
  obtain ⟨h1, h2⟩ := h
  go_enter Try.func72, Try.ntmps72
  go_wp2
  refine bodyPost_ret (v := slV ⟨2, x.v, x.t + 1⟩) (by simp [results, Try.results72, go_sem]) rfl ⟨rfl, ?_⟩
  repeat (first | exact below_alloc (below_alloc (Below.refl _ _) _) _ | refine below_set ?_ (by simp))
set_option maxHeartbeats 4000000 in
set_option maxRecDepth 100000 in
theorem fail2_any (x : Slot) (w : World) : Calls Try.prog 75 #[slV x] w fun e w' => e = .returned (slV ⟨4, x.v, x.t⟩) ∧ Below w.heap.size w w' := by
  go_enter Try.func75, Try.ntmps75
  go_wp2
  refine bodyPost_ret (v := slV ⟨4, x.v, x.t⟩) (by simp [results, Try.results75, go_sem]) rfl ⟨rfl, ?_⟩
  repeat (first | exact below_alloc (below_alloc (Below.refl _ _) _) _ | refine below_set ?_ (by simp))
set_option maxHeartbeats 4000000 in
set_option maxRecDepth 100000 in
theorem clear1_any (x : Slot) (w : World) : Calls Try.prog 76 #[slV x] w fun e w' => e = .returned (slV ⟨0, 0, 0⟩) ∧ Below w.heap.size w w' := by
  go_enter Try.func76, Try.ntmps76
  go_wp2
  refine bodyPost_ret (v := slV ⟨0, 0, 0⟩) (by simp [results, Try.results76, go_sem]) rfl ⟨rfl, ?_⟩
  repeat (first | exact below_alloc (below_alloc (Below.refl _ _) _) _ | refine below_set ?_ (by simp))
set_option maxHeartbeats 4000000 in
set_option maxRecDepth 100000 in
theorem confirm2_any (x : Slot) (w : World) : Calls Try.prog 80 #[slV x] w fun e w' => e = .returned (slV ⟨3, x.v, 0⟩) ∧ Below w.heap.size w w' := by
  go_enter Try.func80, Try.ntmps80
  go_wp2
  refine bodyPost_ret (v := slV ⟨3, x.v, 0⟩) (by simp [results, Try.results80, go_sem]) rfl ⟨rfl, ?_⟩
  repeat (first | exact below_alloc (below_alloc (Below.refl _ _) _) _ | refine below_set ?_ (by simp))
set_option maxHeartbeats 4000000 in
set_option maxRecDepth 100000 in
theorem stage1_any (x : Slot) (g : Nat) (v : Int) (w : World) (hg : w.heap[g]? = some (.cells #[.int .i64 v] 3 (0, 0))) : Calls Try.prog 69 #[slV x, .pointer (some ⟨g, 0, none⟩)] w fun e w' => e = .returned (slV ⟨1, v, 0⟩) ∧ Below w.heap.size w w' := by
  have hgl := blk_lt hg
  have hc : w.cell? ⟨g, 0, none⟩ = some (.int .i64 v) := by rw [blk_cell hg]; rfl
  have hc2 : ∀ o o', ((w.alloc o).alloc o').cell? ⟨g, 0, none⟩ = some (.int .i64 v) := fun o o' => by rw [blk_cell (blk_alloc (blk_alloc hg o) o')]; rfl
  clear hg
  go_enter Try.func69, Try.ntmps69
  go_wp2
  refine bodyPost_ret (v := slV ⟨1, v, 0⟩) (by simp [results, Try.results69, go_sem]) rfl ⟨rfl, ?_⟩
  repeat (first | exact below_alloc (below_alloc (Below.refl _ _) _) _ | refine below_set ?_ (by simp))
end Go.Proofs.Ytippclnmijelfaa.Sl
