/- The walk of the statement that the chosen slot is the right one. -/
import Derived.Test.YtippclnmijelfaaSlN
import Derived.Deep.DeepCutAuto
namespace Go.Proofs.Ytippclnmijelfaa.LCho
open Go.RowKit Go.Proofs.YtippclnmijelfaaW.PrintWords Go.Proofs.YtippclnmijelfaaW.PrintLast Go.Proofs.YtippclnmijelfaaW.PrintMore
open Go.Proofs.Ytippclnmijelfaa.En Go.Proofs.Ytippclnmijelfaa.Rf Go.Proofs.Ytippclnmijelfaa.Wi Go.Proofs.Ytippclnmijelfaa.Rc Go.Proofs.Ytippclnmijelfaa.Sa Go.Proofs.Ytippclnmijelfaa.Op Go.Proofs.Ytippclnmijelfaa.Sl
set_option linter.unusedVariables false
set_option linter.unusedSimpArgs false
/-- A slot is unconfirmed with tries left and its version serves; it is confirmed and its version serves. -/
def pf (x : Slot) (f : Int) : Prop := pend x ∧ f ≤ x.v
instance (x : Slot) (f : Int) : Decidable (pf x f) := by unfold pf; infer_instance
def cf (x : Slot) (f : Int) : Prop := conf x ∧ f ≤ x.v
instance (x : Slot) (f : Int) : Decidable (cf x f) := by unfold cf; infer_instance
theorem pf_is (x : Slot) (g : Nat) (f : Int) (r : Bool) (h : decide (pf x f) = r) (w : World) (hg : w.heap[g]? = some (.cells #[.int .i64 f] 3 (0, 0))) : Calls Try.prog 58 #[slV x, .pointer (some ⟨g, 0, none⟩)] w fun e w' => e = .returned (.bool r) ∧ Below w.heap.size w w' := by
  have := pendf_any x g f w hg
  rw [show decide (pend x ∧ f ≤ x.v) = r from h ▸ decide_eq_decide.2 Iff.rfl] at this
  exact this
theorem cf_is (x : Slot) (g : Nat) (f : Int) (r : Bool) (h : decide (cf x f) = r) (w : World) (hg : w.heap[g]? = some (.cells #[.int .i64 f] 3 (0, 0))) : Calls Try.prog 59 #[slV x, .pointer (some ⟨g, 0, none⟩)] w fun e w' => e = .returned (.bool r) ∧ Below w.heap.size w w' := by
  have := conff_any x g f w hg
  rw [show decide (conf x ∧ f ≤ x.v) = r from h ▸ decide_eq_decide.2 Iff.rfl] at this
  exact this
theorem rk_cases (x : Slot) (f : Int) : (pf x f ∧ ¬ cf x f ∧ rk x f = 2) ∨ (¬ pf x f ∧ cf x f ∧ rk x f = 1) ∨ (¬ pf x f ∧ ¬ cf x f ∧ rk x f = 0) := by
  unfold pf cf conf rk
  by_cases hv : x.v < f
  · right; right
    rw [if_pos hv]
    exact ⟨fun h => by omega, fun h => by omega, rfl⟩
  · rw [if_neg hv]
    by_cases hp : pend x
    · left
      rw [if_pos hp]
      exact ⟨⟨hp, by omega⟩, fun h => by have := hp.1; omega, rfl⟩
    · rw [if_neg hp]
      right
      by_cases h3 : x.s = 3
      · left
        rw [if_pos h3]
        exact ⟨fun h => hp h.1, ⟨h3, by omega⟩, rfl⟩
      · right
        rw [if_neg h3]
        exact ⟨fun h => hp h.1, fun h => h3 h.1, rfl⟩
theorem cho_no {a b : Slot} {f : Int} (h : cho a b f = -1) : ¬ pf a f ∧ ¬ pf b f ∧ ¬ cf a f ∧ ¬ cf b f := by
  unfold cho at h
  rcases rk_cases a f with ⟨h1, h2, h3⟩ | ⟨h1, h2, h3⟩ | ⟨h1, h2, h3⟩ <;> rcases rk_cases b f with ⟨k1, k2, k3⟩ | ⟨k1, k2, k3⟩ | ⟨k1, k2, k3⟩ <;> rw [h3, k3] at h <;> first | exact ⟨h1, k1, h2, k2⟩ | (simp at h; done) | (exfalso; revert h; split <;> (try split) <;> simp_all)
theorem cho_a {a b : Slot} {f : Int} (h : cho a b f = 0) : (pf a f ∧ (¬ pf b f ∨ (pf b f ∧ b.v < a.v) ∨ (pf b f ∧ a.v = b.v))) ∨ (¬ pf a f ∧ cf a f ∧ ¬ pf b f ∧ (¬ cf b f ∨ (cf b f ∧ b.v < a.v) ∨ (cf b f ∧ a.v = b.v))) := by
  unfold cho at h
  have hv : b.v < a.v ∨ a.v = b.v ∨ a.v < b.v := by omega
  rcases rk_cases a f with ⟨h1, h2, h3⟩ | ⟨h1, h2, h3⟩ | ⟨h1, h2, h3⟩ <;> rcases rk_cases b f with ⟨k1, k2, k3⟩ | ⟨k1, k2, k3⟩ | ⟨k1, k2, k3⟩ <;> rw [h3, k3] at h <;> rcases hv with hv | hv | hv <;> simp_all
theorem cho_b {a b : Slot} {f : Int} (h : cho a b f = 1) : (pf b f ∧ (¬ pf a f ∨ (pf a f ∧ a.v < b.v))) ∨ (¬ pf b f ∧ cf b f ∧ ¬ pf a f ∧ (¬ cf a f ∨ (cf a f ∧ a.v < b.v))) := by
  unfold cho at h
  have hv : b.v < a.v ∨ a.v = b.v ∨ a.v < b.v := by omega
  rcases rk_cases a f with ⟨h1, h2, h3⟩ | ⟨h1, h2, h3⟩ | ⟨h1, h2, h3⟩ <;> rcases rk_cases b f with ⟨k1, k2, k3⟩ | ⟨k1, k2, k3⟩ | ⟨k1, k2, k3⟩ <;> rw [h3, k3] at h <;> rcases hv with hv | hv | hv <;> simp_all
@[reducible] def o3 (x : Slot) : Obj := .cells #[.int .i64 x.s, .int .i64 x.v, .int .i64 x.t] 46 (0, 0)
@[reducible] def oF (f : Int) : Obj := .cells #[.int .i64 f] 3 (0, 0)
theorem two3 (w : World) (x y : Slot) : ((w.alloc (o3 x)).alloc (o3 y)).drew.heap[w.heap.size]? = some (o3 x) ∧ ((w.alloc (o3 x)).alloc (o3 y)).drew.heap[w.heap.size + 1]? = some (o3 y) ∧ Below w.heap.size w ((w.alloc (o3 x)).alloc (o3 y)).drew := by
  refine ⟨blk_drew (blk_alloc (blk_new w (o3 x)) (o3 y)), ?_, below_drew1 (below_alloc (below_alloc (Below.refl _ _) _) _)⟩
  have h := blk_new (w.alloc (o3 x)) (o3 y)
  have hs : (w.alloc (o3 x)).heap.size = w.heap.size + 1 := by simp
  rw [hs] at h
  exact blk_drew h
structure Three (w : World) (g : Nat) (x : Slot) : Prop where
  c0 : w.cell? ⟨g, 0, none⟩ = some (.int .i64 x.s)
  c1 : w.cell? ⟨g, 1, none⟩ = some (.int .i64 x.v)
  c2 : w.cell? ⟨g, 2, none⟩ = some (.int .i64 x.t)
theorem three {w : World} {g : Nat} {x : Slot} (h : w.heap[g]? = some (o3 x)) : Three w g x := ⟨by rw [blk_cell h]; rfl, by rw [blk_cell h]; rfl, by rw [blk_cell h]; rfl⟩

set_option maxHeartbeats 32000000 in
set_option maxRecDepth 100000 in
theorem noneChosen (a b : Slot) (f : Int) (w : World) (hk : cho a b f = -1) : Calls Try.prog 15 #[stV a b, .int .i64 f] w fun e w' => e = .returned (.bool true) ∧ Below w.heap.size w w' := by
  obtain ⟨h1, h2, h3, h4⟩ := cho_no hk
  have HK := Aside0.mk hk
  have P1 := Aside0.mk (decide_eq_false h1)
  have P2 := Aside0.mk (decide_eq_false h2)
  have C1 := Aside0.mk (decide_eq_false h3)
  have C2 := Aside0.mk (decide_eq_false h4)
  clear hk h1 h2 h3 h4
  have hf0 := blk_new (w.alloc (oS a b)) (oF f)
  have hs1 : (w.alloc (oS a b)).heap.size = w.heap.size + 1 := by simp
  rw [hs1] at hf0
  have HF0 := Aside0.mk hf0
  have HA0 := Aside0.mk ((At6.new w a.s a.v a.t b.s b.v b.t).alloc (oF f))
  have HB0 := Aside0.mk (below_alloc (below_alloc (Below.refl w.heap.size w) (oS a b)) (oF f))
  clear hf0 hs1
  have hmf : ∀ (fn : Fn) (first cap : Array Value) (w : World), (Instr.makeFunc fn first cap).run Try.prog w = .ok (.func fn first cap) w := fun _ _ _ _ => rfl
  go_enter Try.func15, Try.ntmps15
  go_wp2_with fail
  refine (Choose_is a b f (-1) HK.out _).mono ?_
  rintro e' w1 ⟨rfl, hb⟩
  have HB1 := Aside0.mk (below_step HB0.out hb)
  have HA1 := Aside0.mk (HA0.out.below hb)
  have HF1 := Aside0.mk (blk_below HF0.out hb)
  clear hb HB0 HA0 HF0
  obtain ⟨ca0, ca1, ca2, ca3, ca4, ca5⟩ := (HA1.out).six
  go_wp2_with fail
  go_cut [8, 9] (fun x8 x9 wx => ∃ gx gy : Nat, x8 = .pointer (some ⟨gx, 0, none⟩) ∧ x9 = .pointer (some ⟨gy, 0, none⟩) ∧ Aside0 (wx.heap[gx]? = some (o3 a)) ∧ Aside0 (wx.heap[gy]? = some (o3 b)) ∧ Aside0 (Below w1.heap.size w1 wx))
  case first =>
    have n0 := World.new_ne w1 _ ca0
    go_region_held3 (fun w' => w'.cell? ⟨w.heap.size, 0, none⟩ = some (.int .i64 a.s) ∧ w'.cell? ⟨w.heap.size, 1, none⟩ = some (.int .i64 a.v) ∧ w'.cell? ⟨w.heap.size, 2, none⟩ = some (.int .i64 a.t) ∧ w'.cell? ⟨w.heap.size, 3, none⟩ = some (.int .i64 b.s) ∧ w'.cell? ⟨w.heap.size, 4, none⟩ = some (.int .i64 b.v) ∧ w'.cell? ⟨w.heap.size, 5, none⟩ = some (.int .i64 b.t)) (go_keep) (fail)
    all_goals (go_wp2_with fail; go_meet)
    all_goals first
      | exact ⟨w1.heap.size, w1.heap.size + 1, rfl, rfl, ⟨(two3 w1 a b).1⟩, ⟨(two3 w1 a b).2.1⟩, ⟨(two3 w1 a b).2.2⟩⟩
      | exact ⟨w1.heap.size + 1, w1.heap.size, rfl, rfl, ⟨(two3 w1 b a).2.1⟩, ⟨(two3 w1 b a).1⟩, ⟨(two3 w1 b a).2.2⟩⟩
  case rest =>
    clear ca0 ca1 ca2 ca3 ca4 ca5
    obtain ⟨gx, gy, rfl, rfl, HX2, HY2, HBc⟩ := hcut
    obtain ⟨v1, rfl⟩ : ∃ v, v = wc := ⟨_, rfl⟩
    have HB2 := Aside0.mk (below_step HB1.out HBc.out)
    have HA2 := Aside0.mk (HA1.out.below HBc.out)
    have HF2 := Aside0.mk (blk_below HF1.out HBc.out)
    clear HBc HB1 HA1 HF1
    obtain ⟨cx0, cx1, cx2⟩ := three HX2.out
    obtain ⟨cy0, cy1, cy2⟩ := three HY2.out
    go_wp2_with fail
    refine (sanity25_any _).mono ?_
    rintro e' w3 ⟨rfl, hb⟩
    have HB3 := Aside0.mk (below_step HB2.out hb)
    have HX3 := Aside0.mk (blk_below HX2.out hb)
    have HY3 := Aside0.mk (blk_below HY2.out hb)
    have HF3 := Aside0.mk (blk_below HF2.out hb)
    clear hb HB2 HX2 HY2 HF2 cx0 cx1 cx2 cy0 cy1 cy2
    obtain ⟨cx0, cx1, cx2⟩ := three HX3.out
    obtain ⟨cy0, cy1, cy2⟩ := three HY3.out
    go_wp2_with fail
    refine (pf_is a (w.heap.size + 1) f false P1.out _ HF3.out).mono ?_
    rintro e' w4 ⟨rfl, hb⟩
    have HB4 := Aside0.mk (below_step HB3.out hb)
    have HX4 := Aside0.mk (blk_below HX3.out hb)
    have HY4 := Aside0.mk (blk_below HY3.out hb)
    have HF4 := Aside0.mk (blk_below HF3.out hb)
    clear hb HB3 HX3 HY3 HF3 cx0 cx1 cx2 cy0 cy1 cy2
    obtain ⟨cx0, cx1, cx2⟩ := three HX4.out
    obtain ⟨cy0, cy1, cy2⟩ := three HY4.out
    go_wp2_with fail
    refine (pf_is b (w.heap.size + 1) f false P2.out _ HF4.out).mono ?_
    rintro e' w5 ⟨rfl, hb⟩
    have HB5 := Aside0.mk (below_step HB4.out hb)
    have HX5 := Aside0.mk (blk_below HX4.out hb)
    have HY5 := Aside0.mk (blk_below HY4.out hb)
    have HF5 := Aside0.mk (blk_below HF4.out hb)
    clear hb HB4 HX4 HY4 HF4 cx0 cx1 cx2 cy0 cy1 cy2
    obtain ⟨cx0, cx1, cx2⟩ := three HX5.out
    obtain ⟨cy0, cy1, cy2⟩ := three HY5.out
    go_wp2_with fail
    refine (cf_is a (w.heap.size + 1) f false C1.out _ HF5.out).mono ?_
    rintro e' w6 ⟨rfl, hb⟩
    have HB6 := Aside0.mk (below_step HB5.out hb)
    have HX6 := Aside0.mk (blk_below HX5.out hb)
    have HY6 := Aside0.mk (blk_below HY5.out hb)
    have HF6 := Aside0.mk (blk_below HF5.out hb)
    clear hb HB5 HX5 HY5 HF5 cx0 cx1 cx2 cy0 cy1 cy2
    obtain ⟨cx0, cx1, cx2⟩ := three HX6.out
    obtain ⟨cy0, cy1, cy2⟩ := three HY6.out
    go_wp2_with fail
    refine (cf_is b (w.heap.size + 1) f false C2.out _ HF6.out).mono ?_
    rintro e' w7 ⟨rfl, hb⟩
    have HB7 := Aside0.mk (below_step HB6.out hb)
    have HX7 := Aside0.mk (blk_below HX6.out hb)
    have HY7 := Aside0.mk (blk_below HY6.out hb)
    have HF7 := Aside0.mk (blk_below HF6.out hb)
    clear hb HB6 HX6 HY6 HF6 cx0 cx1 cx2 cy0 cy1 cy2
    obtain ⟨cx0, cx1, cx2⟩ := three HX7.out
    obtain ⟨cy0, cy1, cy2⟩ := three HY7.out
    go_wp2_with fail
    go_ret
    exact ⟨rfl, HB7.out⟩

set_option maxHeartbeats 32000000 in
set_option maxRecDepth 100000 in
theorem chosen0 (a b : Slot) (f : Int) (w : World) (hk : cho a b f = 0) : Calls Try.prog 15 #[stV a b, .int .i64 f] w fun e w' => e = .returned (.bool true) ∧ Below w.heap.size w w' := by
  have hcs := cho_a hk
  have HCS := Aside0.mk hcs
  have HK := Aside0.mk hk
  have hw1 : IntKind.i64.wrap 1 = 1 := by decide
  have hw0 : IntKind.i64.wrap 0 = 0 := by decide
  clear hk hcs
  have hf0 := blk_new (w.alloc (oS a b)) (oF f)
  have hs1 : (w.alloc (oS a b)).heap.size = w.heap.size + 1 := by simp
  rw [hs1] at hf0
  have HF0 := Aside0.mk hf0
  have HA0 := Aside0.mk ((At6.new w a.s a.v a.t b.s b.v b.t).alloc (oF f))
  have HB0 := Aside0.mk (below_alloc (below_alloc (Below.refl w.heap.size w) (oS a b)) (oF f))
  clear hf0 hs1
  have hmf : ∀ (fn : Fn) (first cap : Array Value) (w : World), (Instr.makeFunc fn first cap).run Try.prog w = .ok (.func fn first cap) w := fun _ _ _ _ => rfl
  go_enter Try.func15, Try.ntmps15
  go_wp2_with fail
  refine (Choose_is a b f 0 HK.out _).mono ?_
  rintro e' w1 ⟨rfl, hb⟩
  have HB1 := Aside0.mk (below_step HB0.out hb)
  have HA1 := Aside0.mk (HA0.out.below hb)
  have HF1 := Aside0.mk (blk_below HF0.out hb)
  clear hb HB0 HA0 HF0
  obtain ⟨ca0, ca1, ca2, ca3, ca4, ca5⟩ := (HA1.out).six
  go_wp2_with fail
  go_cut [8, 9] (fun x8 x9 wx => ∃ gx gy : Nat, x8 = .pointer (some ⟨gx, 0, none⟩) ∧ x9 = .pointer (some ⟨gy, 0, none⟩) ∧ Aside0 (wx.heap[gx]? = some (o3 a)) ∧ Aside0 (wx.heap[gy]? = some (o3 b)) ∧ Aside0 (Below w1.heap.size w1 wx))
  case first =>
    have n0 := World.new_ne w1 _ ca0
    go_region_held3 (fun w' => w'.cell? ⟨w.heap.size, 0, none⟩ = some (.int .i64 a.s) ∧ w'.cell? ⟨w.heap.size, 1, none⟩ = some (.int .i64 a.v) ∧ w'.cell? ⟨w.heap.size, 2, none⟩ = some (.int .i64 a.t) ∧ w'.cell? ⟨w.heap.size, 3, none⟩ = some (.int .i64 b.s) ∧ w'.cell? ⟨w.heap.size, 4, none⟩ = some (.int .i64 b.v) ∧ w'.cell? ⟨w.heap.size, 5, none⟩ = some (.int .i64 b.t)) (go_keep) (fail)
    all_goals (go_wp2_with fail; go_meet)
    all_goals first
      | exact ⟨w1.heap.size, w1.heap.size + 1, rfl, rfl, ⟨(two3 w1 a b).1⟩, ⟨(two3 w1 a b).2.1⟩, ⟨(two3 w1 a b).2.2⟩⟩
      | exact ⟨w1.heap.size + 1, w1.heap.size, rfl, rfl, ⟨(two3 w1 b a).2.1⟩, ⟨(two3 w1 b a).1⟩, ⟨(two3 w1 b a).2.2⟩⟩
  case rest =>
    clear ca0 ca1 ca2 ca3 ca4 ca5
    obtain ⟨gx, gy, rfl, rfl, HX2, HY2, HBc⟩ := hcut
    obtain ⟨v1, rfl⟩ : ∃ v, v = wc := ⟨_, rfl⟩
    have HB2 := Aside0.mk (below_step HB1.out HBc.out)
    have HA2 := Aside0.mk (HA1.out.below HBc.out)
    have HF2 := Aside0.mk (blk_below HF1.out HBc.out)
    clear HBc HB1 HA1 HF1
    clear HX2 HY2
    obtain ⟨ca0, ca1, ca2, ca3, ca4, ca5⟩ := (HA2.out).six
    go_wp2_with fail
    go_cut [10, 11] (fun x8 x9 wx => ∃ gx gy : Nat, x8 = .pointer (some ⟨gx, 0, none⟩) ∧ x9 = .pointer (some ⟨gy, 0, none⟩) ∧ Aside0 (wx.heap[gx]? = some (o3 a)) ∧ Aside0 (wx.heap[gy]? = some (o3 b)) ∧ Aside0 (Below v1.heap.size v1 wx))
    case first =>
      have n0 := World.new_ne v1 _ ca0
      go_region_held3 (fun w' => w'.cell? ⟨w.heap.size, 0, none⟩ = some (.int .i64 a.s) ∧ w'.cell? ⟨w.heap.size, 1, none⟩ = some (.int .i64 a.v) ∧ w'.cell? ⟨w.heap.size, 2, none⟩ = some (.int .i64 a.t) ∧ w'.cell? ⟨w.heap.size, 3, none⟩ = some (.int .i64 b.s) ∧ w'.cell? ⟨w.heap.size, 4, none⟩ = some (.int .i64 b.v) ∧ w'.cell? ⟨w.heap.size, 5, none⟩ = some (.int .i64 b.t)) (go_keep) (fail)
      all_goals (go_wp2_with fail; go_meet)
      all_goals first
        | exact ⟨v1.heap.size, v1.heap.size + 1, rfl, rfl, ⟨(two3 v1 a b).1⟩, ⟨(two3 v1 a b).2.1⟩, ⟨(two3 v1 a b).2.2⟩⟩
        | exact ⟨v1.heap.size + 1, v1.heap.size, rfl, rfl, ⟨(two3 v1 b a).2.1⟩, ⟨(two3 v1 b a).1⟩, ⟨(two3 v1 b a).2.2⟩⟩
    case rest =>
      clear ca0 ca1 ca2 ca3 ca4 ca5
      obtain ⟨gx, gy, rfl, rfl, HX3, HY3, HBc⟩ := hcut
      obtain ⟨v2, rfl⟩ : ∃ v, v = wc := ⟨_, rfl⟩
      have HB3 := Aside0.mk (below_step HB2.out HBc.out)
      have HA3 := Aside0.mk (HA2.out.below HBc.out)
      have HF3 := Aside0.mk (blk_below HF2.out HBc.out)
      clear HBc HB2 HA2 HF2
      rcases HCS.out with ⟨h1, h2 | ⟨h2, hv⟩ | ⟨h2, hv⟩⟩ | ⟨h1, h2, h3, h4 | ⟨h4, hv⟩ | ⟨h4, hv⟩⟩
      · have P1 := Aside0.mk (decide_eq_true h1)
        clear h1
        have P2 := Aside0.mk (decide_eq_false h2)
        clear h2
        obtain ⟨cx0, cx1, cx2⟩ := three HX3.out
        obtain ⟨cy0, cy1, cy2⟩ := three HY3.out
        go_wp2_with fail
        refine (pf_is a (w.heap.size + 1) f true P1.out _ HF3.out).mono ?_
        rintro e' w4 ⟨rfl, hb⟩
        have HB4 := Aside0.mk (below_step HB3.out hb)
        have HX4 := Aside0.mk (blk_below HX3.out hb)
        have HY4 := Aside0.mk (blk_below HY3.out hb)
        have HF4 := Aside0.mk (blk_below HF3.out hb)
        clear hb HB3 HX3 HY3 HF3 cx0 cx1 cx2 cy0 cy1 cy2
        obtain ⟨cx0, cx1, cx2⟩ := three HX4.out
        obtain ⟨cy0, cy1, cy2⟩ := three HY4.out
        go_wp2_with fail
        refine (sanity25_any _).mono ?_
        rintro e' w5 ⟨rfl, hb⟩
        have HB5 := Aside0.mk (below_step HB4.out hb)
        have HX5 := Aside0.mk (blk_below HX4.out hb)
        have HY5 := Aside0.mk (blk_below HY4.out hb)
        have HF5 := Aside0.mk (blk_below HF4.out hb)
        clear hb HB4 HX4 HY4 HF4 cx0 cx1 cx2 cy0 cy1 cy2
        obtain ⟨cx0, cx1, cx2⟩ := three HX5.out
        obtain ⟨cy0, cy1, cy2⟩ := three HY5.out
        go_wp2_with fail
        refine (pf_is b (w.heap.size + 1) f false P2.out _ HF5.out).mono ?_
        rintro e' w6 ⟨rfl, hb⟩
        have HB6 := Aside0.mk (below_step HB5.out hb)
        have HX6 := Aside0.mk (blk_below HX5.out hb)
        have HY6 := Aside0.mk (blk_below HY5.out hb)
        have HF6 := Aside0.mk (blk_below HF5.out hb)
        clear hb HB5 HX5 HY5 HF5 cx0 cx1 cx2 cy0 cy1 cy2
        obtain ⟨cx0, cx1, cx2⟩ := three HX6.out
        obtain ⟨cy0, cy1, cy2⟩ := three HY6.out
        go_wp2_with fail
        go_ret
        exact ⟨rfl, HB6.out⟩
      · have P1 := Aside0.mk (decide_eq_true h1)
        clear h1
        have hg : decide (b.v < a.v) = true := decide_eq_true hv
        clear hv
        have P2 := Aside0.mk (decide_eq_true h2)
        clear h2
        obtain ⟨cx0, cx1, cx2⟩ := three HX3.out
        obtain ⟨cy0, cy1, cy2⟩ := three HY3.out
        go_wp2_with fail
        refine (pf_is a (w.heap.size + 1) f true P1.out _ HF3.out).mono ?_
        rintro e' w4 ⟨rfl, hb⟩
        have HB4 := Aside0.mk (below_step HB3.out hb)
        have HX4 := Aside0.mk (blk_below HX3.out hb)
        have HY4 := Aside0.mk (blk_below HY3.out hb)
        have HF4 := Aside0.mk (blk_below HF3.out hb)
        clear hb HB3 HX3 HY3 HF3 cx0 cx1 cx2 cy0 cy1 cy2
        obtain ⟨cx0, cx1, cx2⟩ := three HX4.out
        obtain ⟨cy0, cy1, cy2⟩ := three HY4.out
        go_wp2_with fail
        refine (sanity25_any _).mono ?_
        rintro e' w5 ⟨rfl, hb⟩
        have HB5 := Aside0.mk (below_step HB4.out hb)
        have HX5 := Aside0.mk (blk_below HX4.out hb)
        have HY5 := Aside0.mk (blk_below HY4.out hb)
        have HF5 := Aside0.mk (blk_below HF4.out hb)
        clear hb HB4 HX4 HY4 HF4 cx0 cx1 cx2 cy0 cy1 cy2
        obtain ⟨cx0, cx1, cx2⟩ := three HX5.out
        obtain ⟨cy0, cy1, cy2⟩ := three HY5.out
        go_wp2_with fail
        refine (pf_is b (w.heap.size + 1) f true P2.out _ HF5.out).mono ?_
        rintro e' w6 ⟨rfl, hb⟩
        have HB6 := Aside0.mk (below_step HB5.out hb)
        have HX6 := Aside0.mk (blk_below HX5.out hb)
        have HY6 := Aside0.mk (blk_below HY5.out hb)
        have HF6 := Aside0.mk (blk_below HF5.out hb)
        clear hb HB5 HX5 HY5 HF5 cx0 cx1 cx2 cy0 cy1 cy2
        obtain ⟨cx0, cx1, cx2⟩ := three HX6.out
        obtain ⟨cy0, cy1, cy2⟩ := three HY6.out
        go_wp2_with fail
        go_ret
        exact ⟨rfl, HB6.out⟩
      · have P1 := Aside0.mk (decide_eq_true h1)
        clear h1
        have hg : decide (b.v < a.v) = false := decide_eq_false (by omega)
        have hq : (a.v == b.v) = true := beq_iff_eq.2 hv
        clear hv
        have P2 := Aside0.mk (decide_eq_true h2)
        clear h2
        obtain ⟨cx0, cx1, cx2⟩ := three HX3.out
        obtain ⟨cy0, cy1, cy2⟩ := three HY3.out
        go_wp2_with fail
        refine (pf_is a (w.heap.size + 1) f true P1.out _ HF3.out).mono ?_
        rintro e' w4 ⟨rfl, hb⟩
        have HB4 := Aside0.mk (below_step HB3.out hb)
        have HX4 := Aside0.mk (blk_below HX3.out hb)
        have HY4 := Aside0.mk (blk_below HY3.out hb)
        have HF4 := Aside0.mk (blk_below HF3.out hb)
        clear hb HB3 HX3 HY3 HF3 cx0 cx1 cx2 cy0 cy1 cy2
        obtain ⟨cx0, cx1, cx2⟩ := three HX4.out
        obtain ⟨cy0, cy1, cy2⟩ := three HY4.out
        go_wp2_with fail
        refine (sanity25_any _).mono ?_
        rintro e' w5 ⟨rfl, hb⟩
        have HB5 := Aside0.mk (below_step HB4.out hb)
        have HX5 := Aside0.mk (blk_below HX4.out hb)
        have HY5 := Aside0.mk (blk_below HY4.out hb)
        have HF5 := Aside0.mk (blk_below HF4.out hb)
        clear hb HB4 HX4 HY4 HF4 cx0 cx1 cx2 cy0 cy1 cy2
        obtain ⟨cx0, cx1, cx2⟩ := three HX5.out
        obtain ⟨cy0, cy1, cy2⟩ := three HY5.out
        go_wp2_with fail
        refine (pf_is b (w.heap.size + 1) f true P2.out _ HF5.out).mono ?_
        rintro e' w6 ⟨rfl, hb⟩
        have HB6 := Aside0.mk (below_step HB5.out hb)
        have HX6 := Aside0.mk (blk_below HX5.out hb)
        have HY6 := Aside0.mk (blk_below HY5.out hb)
        have HF6 := Aside0.mk (blk_below HF5.out hb)
        clear hb HB5 HX5 HY5 HF5 cx0 cx1 cx2 cy0 cy1 cy2
        obtain ⟨cx0, cx1, cx2⟩ := three HX6.out
        obtain ⟨cy0, cy1, cy2⟩ := three HY6.out
        go_wp2_with fail
        go_ret
        exact ⟨rfl, HB6.out⟩
      · have P1 := Aside0.mk (decide_eq_false h1)
        have C1 := Aside0.mk (decide_eq_true h2)
        have P2 := Aside0.mk (decide_eq_false h3)
        clear h1 h2 h3
        have C2 := Aside0.mk (decide_eq_false h4)
        clear h4
        obtain ⟨cx0, cx1, cx2⟩ := three HX3.out
        obtain ⟨cy0, cy1, cy2⟩ := three HY3.out
        go_wp2_with fail
        refine (pf_is a (w.heap.size + 1) f false P1.out _ HF3.out).mono ?_
        rintro e' w4 ⟨rfl, hb⟩
        have HB4 := Aside0.mk (below_step HB3.out hb)
        have HX4 := Aside0.mk (blk_below HX3.out hb)
        have HY4 := Aside0.mk (blk_below HY3.out hb)
        have HF4 := Aside0.mk (blk_below HF3.out hb)
        clear hb HB3 HX3 HY3 HF3 cx0 cx1 cx2 cy0 cy1 cy2
        obtain ⟨cx0, cx1, cx2⟩ := three HX4.out
        obtain ⟨cy0, cy1, cy2⟩ := three HY4.out
        go_wp2_with fail
        refine (sanity25_any _).mono ?_
        rintro e' w5 ⟨rfl, hb⟩
        have HB5 := Aside0.mk (below_step HB4.out hb)
        have HX5 := Aside0.mk (blk_below HX4.out hb)
        have HY5 := Aside0.mk (blk_below HY4.out hb)
        have HF5 := Aside0.mk (blk_below HF4.out hb)
        clear hb HB4 HX4 HY4 HF4 cx0 cx1 cx2 cy0 cy1 cy2
        obtain ⟨cx0, cx1, cx2⟩ := three HX5.out
        obtain ⟨cy0, cy1, cy2⟩ := three HY5.out
        go_wp2_with fail
        refine (cf_is a (w.heap.size + 1) f true C1.out _ HF5.out).mono ?_
        rintro e' w6 ⟨rfl, hb⟩
        have HB6 := Aside0.mk (below_step HB5.out hb)
        have HX6 := Aside0.mk (blk_below HX5.out hb)
        have HY6 := Aside0.mk (blk_below HY5.out hb)
        have HF6 := Aside0.mk (blk_below HF5.out hb)
        clear hb HB5 HX5 HY5 HF5 cx0 cx1 cx2 cy0 cy1 cy2
        obtain ⟨cx0, cx1, cx2⟩ := three HX6.out
        obtain ⟨cy0, cy1, cy2⟩ := three HY6.out
        go_wp2_with fail
        refine (pf_is b (w.heap.size + 1) f false P2.out _ HF6.out).mono ?_
        rintro e' w7 ⟨rfl, hb⟩
        have HB7 := Aside0.mk (below_step HB6.out hb)
        have HX7 := Aside0.mk (blk_below HX6.out hb)
        have HY7 := Aside0.mk (blk_below HY6.out hb)
        have HF7 := Aside0.mk (blk_below HF6.out hb)
        clear hb HB6 HX6 HY6 HF6 cx0 cx1 cx2 cy0 cy1 cy2
        obtain ⟨cx0, cx1, cx2⟩ := three HX7.out
        obtain ⟨cy0, cy1, cy2⟩ := three HY7.out
        go_wp2_with fail
        refine (cf_is b (w.heap.size + 1) f false C2.out _ HF7.out).mono ?_
        rintro e' w8 ⟨rfl, hb⟩
        have HB8 := Aside0.mk (below_step HB7.out hb)
        have HX8 := Aside0.mk (blk_below HX7.out hb)
        have HY8 := Aside0.mk (blk_below HY7.out hb)
        have HF8 := Aside0.mk (blk_below HF7.out hb)
        clear hb HB7 HX7 HY7 HF7 cx0 cx1 cx2 cy0 cy1 cy2
        obtain ⟨cx0, cx1, cx2⟩ := three HX8.out
        obtain ⟨cy0, cy1, cy2⟩ := three HY8.out
        go_wp2_with fail
        go_ret
        exact ⟨rfl, HB8.out⟩
      · have P1 := Aside0.mk (decide_eq_false h1)
        have C1 := Aside0.mk (decide_eq_true h2)
        have P2 := Aside0.mk (decide_eq_false h3)
        clear h1 h2 h3
        have hg : decide (b.v < a.v) = true := decide_eq_true hv
        clear hv
        have C2 := Aside0.mk (decide_eq_true h4)
        clear h4
        obtain ⟨cx0, cx1, cx2⟩ := three HX3.out
        obtain ⟨cy0, cy1, cy2⟩ := three HY3.out
        go_wp2_with fail
        refine (pf_is a (w.heap.size + 1) f false P1.out _ HF3.out).mono ?_
        rintro e' w4 ⟨rfl, hb⟩
        have HB4 := Aside0.mk (below_step HB3.out hb)
        have HX4 := Aside0.mk (blk_below HX3.out hb)
        have HY4 := Aside0.mk (blk_below HY3.out hb)
        have HF4 := Aside0.mk (blk_below HF3.out hb)
        clear hb HB3 HX3 HY3 HF3 cx0 cx1 cx2 cy0 cy1 cy2
        obtain ⟨cx0, cx1, cx2⟩ := three HX4.out
        obtain ⟨cy0, cy1, cy2⟩ := three HY4.out
        go_wp2_with fail
        refine (sanity25_any _).mono ?_
        rintro e' w5 ⟨rfl, hb⟩
        have HB5 := Aside0.mk (below_step HB4.out hb)
        have HX5 := Aside0.mk (blk_below HX4.out hb)
        have HY5 := Aside0.mk (blk_below HY4.out hb)
        have HF5 := Aside0.mk (blk_below HF4.out hb)
        clear hb HB4 HX4 HY4 HF4 cx0 cx1 cx2 cy0 cy1 cy2
        obtain ⟨cx0, cx1, cx2⟩ := three HX5.out
        obtain ⟨cy0, cy1, cy2⟩ := three HY5.out
        go_wp2_with fail
        refine (cf_is a (w.heap.size + 1) f true C1.out _ HF5.out).mono ?_
        rintro e' w6 ⟨rfl, hb⟩
        have HB6 := Aside0.mk (below_step HB5.out hb)
        have HX6 := Aside0.mk (blk_below HX5.out hb)
        have HY6 := Aside0.mk (blk_below HY5.out hb)
        have HF6 := Aside0.mk (blk_below HF5.out hb)
        clear hb HB5 HX5 HY5 HF5 cx0 cx1 cx2 cy0 cy1 cy2
        obtain ⟨cx0, cx1, cx2⟩ := three HX6.out
        obtain ⟨cy0, cy1, cy2⟩ := three HY6.out
        go_wp2_with fail
        refine (pf_is b (w.heap.size + 1) f false P2.out _ HF6.out).mono ?_
        rintro e' w7 ⟨rfl, hb⟩
        have HB7 := Aside0.mk (below_step HB6.out hb)
        have HX7 := Aside0.mk (blk_below HX6.out hb)
        have HY7 := Aside0.mk (blk_below HY6.out hb)
        have HF7 := Aside0.mk (blk_below HF6.out hb)
        clear hb HB6 HX6 HY6 HF6 cx0 cx1 cx2 cy0 cy1 cy2
        obtain ⟨cx0, cx1, cx2⟩ := three HX7.out
        obtain ⟨cy0, cy1, cy2⟩ := three HY7.out
        go_wp2_with fail
        refine (cf_is b (w.heap.size + 1) f true C2.out _ HF7.out).mono ?_
        rintro e' w8 ⟨rfl, hb⟩
        have HB8 := Aside0.mk (below_step HB7.out hb)
        have HX8 := Aside0.mk (blk_below HX7.out hb)
        have HY8 := Aside0.mk (blk_below HY7.out hb)
        have HF8 := Aside0.mk (blk_below HF7.out hb)
        clear hb HB7 HX7 HY7 HF7 cx0 cx1 cx2 cy0 cy1 cy2
        obtain ⟨cx0, cx1, cx2⟩ := three HX8.out
        obtain ⟨cy0, cy1, cy2⟩ := three HY8.out
        go_wp2_with fail
        go_ret
        exact ⟨rfl, HB8.out⟩
      · have P1 := Aside0.mk (decide_eq_false h1)
        have C1 := Aside0.mk (decide_eq_true h2)
        have P2 := Aside0.mk (decide_eq_false h3)
        clear h1 h2 h3
        have hg : decide (b.v < a.v) = false := decide_eq_false (by omega)
        have hq : (a.v == b.v) = true := beq_iff_eq.2 hv
        clear hv
        have C2 := Aside0.mk (decide_eq_true h4)
        clear h4
        obtain ⟨cx0, cx1, cx2⟩ := three HX3.out
        obtain ⟨cy0, cy1, cy2⟩ := three HY3.out
        go_wp2_with fail
        refine (pf_is a (w.heap.size + 1) f false P1.out _ HF3.out).mono ?_
        rintro e' w4 ⟨rfl, hb⟩
        have HB4 := Aside0.mk (below_step HB3.out hb)
        have HX4 := Aside0.mk (blk_below HX3.out hb)
        have HY4 := Aside0.mk (blk_below HY3.out hb)
        have HF4 := Aside0.mk (blk_below HF3.out hb)
        clear hb HB3 HX3 HY3 HF3 cx0 cx1 cx2 cy0 cy1 cy2
        obtain ⟨cx0, cx1, cx2⟩ := three HX4.out
        obtain ⟨cy0, cy1, cy2⟩ := three HY4.out
        go_wp2_with fail
        refine (sanity25_any _).mono ?_
        rintro e' w5 ⟨rfl, hb⟩
        have HB5 := Aside0.mk (below_step HB4.out hb)
        have HX5 := Aside0.mk (blk_below HX4.out hb)
        have HY5 := Aside0.mk (blk_below HY4.out hb)
        have HF5 := Aside0.mk (blk_below HF4.out hb)
        clear hb HB4 HX4 HY4 HF4 cx0 cx1 cx2 cy0 cy1 cy2
        obtain ⟨cx0, cx1, cx2⟩ := three HX5.out
        obtain ⟨cy0, cy1, cy2⟩ := three HY5.out
        go_wp2_with fail
        refine (cf_is a (w.heap.size + 1) f true C1.out _ HF5.out).mono ?_
        rintro e' w6 ⟨rfl, hb⟩
        have HB6 := Aside0.mk (below_step HB5.out hb)
        have HX6 := Aside0.mk (blk_below HX5.out hb)
        have HY6 := Aside0.mk (blk_below HY5.out hb)
        have HF6 := Aside0.mk (blk_below HF5.out hb)
        clear hb HB5 HX5 HY5 HF5 cx0 cx1 cx2 cy0 cy1 cy2
        obtain ⟨cx0, cx1, cx2⟩ := three HX6.out
        obtain ⟨cy0, cy1, cy2⟩ := three HY6.out
        go_wp2_with fail
        refine (pf_is b (w.heap.size + 1) f false P2.out _ HF6.out).mono ?_
        rintro e' w7 ⟨rfl, hb⟩
        have HB7 := Aside0.mk (below_step HB6.out hb)
        have HX7 := Aside0.mk (blk_below HX6.out hb)
        have HY7 := Aside0.mk (blk_below HY6.out hb)
        have HF7 := Aside0.mk (blk_below HF6.out hb)
        clear hb HB6 HX6 HY6 HF6 cx0 cx1 cx2 cy0 cy1 cy2
        obtain ⟨cx0, cx1, cx2⟩ := three HX7.out
        obtain ⟨cy0, cy1, cy2⟩ := three HY7.out
        go_wp2_with fail
        refine (cf_is b (w.heap.size + 1) f true C2.out _ HF7.out).mono ?_
        rintro e' w8 ⟨rfl, hb⟩
        have HB8 := Aside0.mk (below_step HB7.out hb)
        have HX8 := Aside0.mk (blk_below HX7.out hb)
        have HY8 := Aside0.mk (blk_below HY7.out hb)
        have HF8 := Aside0.mk (blk_below HF7.out hb)
        clear hb HB7 HX7 HY7 HF7 cx0 cx1 cx2 cy0 cy1 cy2
        obtain ⟨cx0, cx1, cx2⟩ := three HX8.out
        obtain ⟨cy0, cy1, cy2⟩ := three HY8.out
        go_wp2_with fail
        go_ret
        exact ⟨rfl, HB8.out⟩

set_option maxHeartbeats 32000000 in
set_option maxRecDepth 100000 in
theorem chosen1 (a b : Slot) (f : Int) (w : World) (hk : cho a b f = 1) : Calls Try.prog 15 #[stV a b, .int .i64 f] w fun e w' => e = .returned (.bool true) ∧ Below w.heap.size w w' := by
  have hcs := cho_b hk
  have HCS := Aside0.mk hcs
  have HK := Aside0.mk hk
  have hw1 : IntKind.i64.wrap 1 = 1 := by decide
  have hw0 : IntKind.i64.wrap 0 = 0 := by decide
  clear hk hcs
  have hf0 := blk_new (w.alloc (oS a b)) (oF f)
  have hs1 : (w.alloc (oS a b)).heap.size = w.heap.size + 1 := by simp
  rw [hs1] at hf0
  have HF0 := Aside0.mk hf0
  have HA0 := Aside0.mk ((At6.new w a.s a.v a.t b.s b.v b.t).alloc (oF f))
  have HB0 := Aside0.mk (below_alloc (below_alloc (Below.refl w.heap.size w) (oS a b)) (oF f))
  clear hf0 hs1
  have hmf : ∀ (fn : Fn) (first cap : Array Value) (w : World), (Instr.makeFunc fn first cap).run Try.prog w = .ok (.func fn first cap) w := fun _ _ _ _ => rfl
  go_enter Try.func15, Try.ntmps15
  go_wp2_with fail
  refine (Choose_is a b f 1 HK.out _).mono ?_
  rintro e' w1 ⟨rfl, hb⟩
  have HB1 := Aside0.mk (below_step HB0.out hb)
  have HA1 := Aside0.mk (HA0.out.below hb)
  have HF1 := Aside0.mk (blk_below HF0.out hb)
  clear hb HB0 HA0 HF0
  obtain ⟨ca0, ca1, ca2, ca3, ca4, ca5⟩ := (HA1.out).six
  go_wp2_with fail
  go_cut [8, 9] (fun x8 x9 wx => ∃ gx gy : Nat, x8 = .pointer (some ⟨gx, 0, none⟩) ∧ x9 = .pointer (some ⟨gy, 0, none⟩) ∧ Aside0 (wx.heap[gx]? = some (o3 a)) ∧ Aside0 (wx.heap[gy]? = some (o3 b)) ∧ Aside0 (Below w1.heap.size w1 wx))
  case first =>
    have n0 := World.new_ne w1 _ ca0
    go_region_held3 (fun w' => w'.cell? ⟨w.heap.size, 0, none⟩ = some (.int .i64 a.s) ∧ w'.cell? ⟨w.heap.size, 1, none⟩ = some (.int .i64 a.v) ∧ w'.cell? ⟨w.heap.size, 2, none⟩ = some (.int .i64 a.t) ∧ w'.cell? ⟨w.heap.size, 3, none⟩ = some (.int .i64 b.s) ∧ w'.cell? ⟨w.heap.size, 4, none⟩ = some (.int .i64 b.v) ∧ w'.cell? ⟨w.heap.size, 5, none⟩ = some (.int .i64 b.t)) (go_keep) (fail)
    all_goals (go_wp2_with fail; go_meet)
    all_goals first
      | exact ⟨w1.heap.size, w1.heap.size + 1, rfl, rfl, ⟨(two3 w1 a b).1⟩, ⟨(two3 w1 a b).2.1⟩, ⟨(two3 w1 a b).2.2⟩⟩
      | exact ⟨w1.heap.size + 1, w1.heap.size, rfl, rfl, ⟨(two3 w1 b a).2.1⟩, ⟨(two3 w1 b a).1⟩, ⟨(two3 w1 b a).2.2⟩⟩
  case rest =>
    clear ca0 ca1 ca2 ca3 ca4 ca5
    obtain ⟨gx, gy, rfl, rfl, HX2, HY2, HBc⟩ := hcut
    obtain ⟨v1, rfl⟩ : ∃ v, v = wc := ⟨_, rfl⟩
    have HB2 := Aside0.mk (below_step HB1.out HBc.out)
    have HA2 := Aside0.mk (HA1.out.below HBc.out)
    have HF2 := Aside0.mk (blk_below HF1.out HBc.out)
    clear HBc HB1 HA1 HF1
    clear HX2 HY2
    obtain ⟨ca0, ca1, ca2, ca3, ca4, ca5⟩ := (HA2.out).six
    go_wp2_with fail
    go_cut [10, 11] (fun x8 x9 wx => ∃ gx gy : Nat, x8 = .pointer (some ⟨gx, 0, none⟩) ∧ x9 = .pointer (some ⟨gy, 0, none⟩) ∧ Aside0 (wx.heap[gx]? = some (o3 b)) ∧ Aside0 (wx.heap[gy]? = some (o3 a)) ∧ Aside0 (Below v1.heap.size v1 wx))
    case first =>
      have n0 := World.new_ne v1 _ ca0
      go_region_held3 (fun w' => w'.cell? ⟨w.heap.size, 0, none⟩ = some (.int .i64 a.s) ∧ w'.cell? ⟨w.heap.size, 1, none⟩ = some (.int .i64 a.v) ∧ w'.cell? ⟨w.heap.size, 2, none⟩ = some (.int .i64 a.t) ∧ w'.cell? ⟨w.heap.size, 3, none⟩ = some (.int .i64 b.s) ∧ w'.cell? ⟨w.heap.size, 4, none⟩ = some (.int .i64 b.v) ∧ w'.cell? ⟨w.heap.size, 5, none⟩ = some (.int .i64 b.t)) (go_keep) (fail)
      all_goals (go_wp2_with fail; go_meet)
      all_goals first
        | exact ⟨v1.heap.size, v1.heap.size + 1, rfl, rfl, ⟨(two3 v1 b a).1⟩, ⟨(two3 v1 b a).2.1⟩, ⟨(two3 v1 b a).2.2⟩⟩
        | exact ⟨v1.heap.size + 1, v1.heap.size, rfl, rfl, ⟨(two3 v1 a b).2.1⟩, ⟨(two3 v1 a b).1⟩, ⟨(two3 v1 a b).2.2⟩⟩
    case rest =>
      clear ca0 ca1 ca2 ca3 ca4 ca5
      obtain ⟨gx, gy, rfl, rfl, HX3, HY3, HBc⟩ := hcut
      obtain ⟨v2, rfl⟩ : ∃ v, v = wc := ⟨_, rfl⟩
      have HB3 := Aside0.mk (below_step HB2.out HBc.out)
      have HA3 := Aside0.mk (HA2.out.below HBc.out)
      have HF3 := Aside0.mk (blk_below HF2.out HBc.out)
      clear HBc HB2 HA2 HF2
      rcases HCS.out with ⟨h1, h2 | ⟨h2, hv⟩⟩ | ⟨h1, h2, h3, h4 | ⟨h4, hv⟩⟩
      · have P1 := Aside0.mk (decide_eq_true h1)
        clear h1
        have P2 := Aside0.mk (decide_eq_false h2)
        clear h2
        obtain ⟨cx0, cx1, cx2⟩ := three HX3.out
        obtain ⟨cy0, cy1, cy2⟩ := three HY3.out
        go_wp2_with fail
        refine (pf_is b (w.heap.size + 1) f true P1.out _ HF3.out).mono ?_
        rintro e' w4 ⟨rfl, hb⟩
        have HB4 := Aside0.mk (below_step HB3.out hb)
        have HX4 := Aside0.mk (blk_below HX3.out hb)
        have HY4 := Aside0.mk (blk_below HY3.out hb)
        have HF4 := Aside0.mk (blk_below HF3.out hb)
        clear hb HB3 HX3 HY3 HF3 cx0 cx1 cx2 cy0 cy1 cy2
        obtain ⟨cx0, cx1, cx2⟩ := three HX4.out
        obtain ⟨cy0, cy1, cy2⟩ := three HY4.out
        go_wp2_with fail
        refine (sanity25_any _).mono ?_
        rintro e' w5 ⟨rfl, hb⟩
        have HB5 := Aside0.mk (below_step HB4.out hb)
        have HX5 := Aside0.mk (blk_below HX4.out hb)
        have HY5 := Aside0.mk (blk_below HY4.out hb)
        have HF5 := Aside0.mk (blk_below HF4.out hb)
        clear hb HB4 HX4 HY4 HF4 cx0 cx1 cx2 cy0 cy1 cy2
        obtain ⟨cx0, cx1, cx2⟩ := three HX5.out
        obtain ⟨cy0, cy1, cy2⟩ := three HY5.out
        go_wp2_with fail
        refine (pf_is a (w.heap.size + 1) f false P2.out _ HF5.out).mono ?_
        rintro e' w6 ⟨rfl, hb⟩
        have HB6 := Aside0.mk (below_step HB5.out hb)
        have HX6 := Aside0.mk (blk_below HX5.out hb)
        have HY6 := Aside0.mk (blk_below HY5.out hb)
        have HF6 := Aside0.mk (blk_below HF5.out hb)
        clear hb HB5 HX5 HY5 HF5 cx0 cx1 cx2 cy0 cy1 cy2
        obtain ⟨cx0, cx1, cx2⟩ := three HX6.out
        obtain ⟨cy0, cy1, cy2⟩ := three HY6.out
        go_wp2_with fail
        go_ret
        exact ⟨rfl, HB6.out⟩
      · have P1 := Aside0.mk (decide_eq_true h1)
        clear h1
        have hg : decide (a.v < b.v) = true := decide_eq_true hv
        clear hv
        have P2 := Aside0.mk (decide_eq_true h2)
        clear h2
        obtain ⟨cx0, cx1, cx2⟩ := three HX3.out
        obtain ⟨cy0, cy1, cy2⟩ := three HY3.out
        go_wp2_with fail
        refine (pf_is b (w.heap.size + 1) f true P1.out _ HF3.out).mono ?_
        rintro e' w4 ⟨rfl, hb⟩
        have HB4 := Aside0.mk (below_step HB3.out hb)
        have HX4 := Aside0.mk (blk_below HX3.out hb)
        have HY4 := Aside0.mk (blk_below HY3.out hb)
        have HF4 := Aside0.mk (blk_below HF3.out hb)
        clear hb HB3 HX3 HY3 HF3 cx0 cx1 cx2 cy0 cy1 cy2
        obtain ⟨cx0, cx1, cx2⟩ := three HX4.out
        obtain ⟨cy0, cy1, cy2⟩ := three HY4.out
        go_wp2_with fail
        refine (sanity25_any _).mono ?_
        rintro e' w5 ⟨rfl, hb⟩
        have HB5 := Aside0.mk (below_step HB4.out hb)
        have HX5 := Aside0.mk (blk_below HX4.out hb)
        have HY5 := Aside0.mk (blk_below HY4.out hb)
        have HF5 := Aside0.mk (blk_below HF4.out hb)
        clear hb HB4 HX4 HY4 HF4 cx0 cx1 cx2 cy0 cy1 cy2
        obtain ⟨cx0, cx1, cx2⟩ := three HX5.out
        obtain ⟨cy0, cy1, cy2⟩ := three HY5.out
        go_wp2_with fail
        refine (pf_is a (w.heap.size + 1) f true P2.out _ HF5.out).mono ?_
        rintro e' w6 ⟨rfl, hb⟩
        have HB6 := Aside0.mk (below_step HB5.out hb)
        have HX6 := Aside0.mk (blk_below HX5.out hb)
        have HY6 := Aside0.mk (blk_below HY5.out hb)
        have HF6 := Aside0.mk (blk_below HF5.out hb)
        clear hb HB5 HX5 HY5 HF5 cx0 cx1 cx2 cy0 cy1 cy2
        obtain ⟨cx0, cx1, cx2⟩ := three HX6.out
        obtain ⟨cy0, cy1, cy2⟩ := three HY6.out
        go_wp2_with fail
        go_ret
        exact ⟨rfl, HB6.out⟩
      · have P1 := Aside0.mk (decide_eq_false h1)
        have C1 := Aside0.mk (decide_eq_true h2)
        have P2 := Aside0.mk (decide_eq_false h3)
        clear h1 h2 h3
        have C2 := Aside0.mk (decide_eq_false h4)
        clear h4
        obtain ⟨cx0, cx1, cx2⟩ := three HX3.out
        obtain ⟨cy0, cy1, cy2⟩ := three HY3.out
        go_wp2_with fail
        refine (pf_is b (w.heap.size + 1) f false P1.out _ HF3.out).mono ?_
        rintro e' w4 ⟨rfl, hb⟩
        have HB4 := Aside0.mk (below_step HB3.out hb)
        have HX4 := Aside0.mk (blk_below HX3.out hb)
        have HY4 := Aside0.mk (blk_below HY3.out hb)
        have HF4 := Aside0.mk (blk_below HF3.out hb)
        clear hb HB3 HX3 HY3 HF3 cx0 cx1 cx2 cy0 cy1 cy2
        obtain ⟨cx0, cx1, cx2⟩ := three HX4.out
        obtain ⟨cy0, cy1, cy2⟩ := three HY4.out
        go_wp2_with fail
        refine (sanity25_any _).mono ?_
        rintro e' w5 ⟨rfl, hb⟩
        have HB5 := Aside0.mk (below_step HB4.out hb)
        have HX5 := Aside0.mk (blk_below HX4.out hb)
        have HY5 := Aside0.mk (blk_below HY4.out hb)
        have HF5 := Aside0.mk (blk_below HF4.out hb)
        clear hb HB4 HX4 HY4 HF4 cx0 cx1 cx2 cy0 cy1 cy2
        obtain ⟨cx0, cx1, cx2⟩ := three HX5.out
        obtain ⟨cy0, cy1, cy2⟩ := three HY5.out
        go_wp2_with fail
        refine (cf_is b (w.heap.size + 1) f true C1.out _ HF5.out).mono ?_
        rintro e' w6 ⟨rfl, hb⟩
        have HB6 := Aside0.mk (below_step HB5.out hb)
        have HX6 := Aside0.mk (blk_below HX5.out hb)
        have HY6 := Aside0.mk (blk_below HY5.out hb)
        have HF6 := Aside0.mk (blk_below HF5.out hb)
        clear hb HB5 HX5 HY5 HF5 cx0 cx1 cx2 cy0 cy1 cy2
        obtain ⟨cx0, cx1, cx2⟩ := three HX6.out
        obtain ⟨cy0, cy1, cy2⟩ := three HY6.out
        go_wp2_with fail
        refine (pf_is a (w.heap.size + 1) f false P2.out _ HF6.out).mono ?_
        rintro e' w7 ⟨rfl, hb⟩
        have HB7 := Aside0.mk (below_step HB6.out hb)
        have HX7 := Aside0.mk (blk_below HX6.out hb)
        have HY7 := Aside0.mk (blk_below HY6.out hb)
        have HF7 := Aside0.mk (blk_below HF6.out hb)
        clear hb HB6 HX6 HY6 HF6 cx0 cx1 cx2 cy0 cy1 cy2
        obtain ⟨cx0, cx1, cx2⟩ := three HX7.out
        obtain ⟨cy0, cy1, cy2⟩ := three HY7.out
        go_wp2_with fail
        refine (cf_is a (w.heap.size + 1) f false C2.out _ HF7.out).mono ?_
        rintro e' w8 ⟨rfl, hb⟩
        have HB8 := Aside0.mk (below_step HB7.out hb)
        have HX8 := Aside0.mk (blk_below HX7.out hb)
        have HY8 := Aside0.mk (blk_below HY7.out hb)
        have HF8 := Aside0.mk (blk_below HF7.out hb)
        clear hb HB7 HX7 HY7 HF7 cx0 cx1 cx2 cy0 cy1 cy2
        obtain ⟨cx0, cx1, cx2⟩ := three HX8.out
        obtain ⟨cy0, cy1, cy2⟩ := three HY8.out
        go_wp2_with fail
        go_ret
        exact ⟨rfl, HB8.out⟩
      · have P1 := Aside0.mk (decide_eq_false h1)
        have C1 := Aside0.mk (decide_eq_true h2)
        have P2 := Aside0.mk (decide_eq_false h3)
        clear h1 h2 h3
        have hg : decide (a.v < b.v) = true := decide_eq_true hv
        clear hv
        have C2 := Aside0.mk (decide_eq_true h4)
        clear h4
        obtain ⟨cx0, cx1, cx2⟩ := three HX3.out
        obtain ⟨cy0, cy1, cy2⟩ := three HY3.out
        go_wp2_with fail
        refine (pf_is b (w.heap.size + 1) f false P1.out _ HF3.out).mono ?_
        rintro e' w4 ⟨rfl, hb⟩
        have HB4 := Aside0.mk (below_step HB3.out hb)
        have HX4 := Aside0.mk (blk_below HX3.out hb)
        have HY4 := Aside0.mk (blk_below HY3.out hb)
        have HF4 := Aside0.mk (blk_below HF3.out hb)
        clear hb HB3 HX3 HY3 HF3 cx0 cx1 cx2 cy0 cy1 cy2
        obtain ⟨cx0, cx1, cx2⟩ := three HX4.out
        obtain ⟨cy0, cy1, cy2⟩ := three HY4.out
        go_wp2_with fail
        refine (sanity25_any _).mono ?_
        rintro e' w5 ⟨rfl, hb⟩
        have HB5 := Aside0.mk (below_step HB4.out hb)
        have HX5 := Aside0.mk (blk_below HX4.out hb)
        have HY5 := Aside0.mk (blk_below HY4.out hb)
        have HF5 := Aside0.mk (blk_below HF4.out hb)
        clear hb HB4 HX4 HY4 HF4 cx0 cx1 cx2 cy0 cy1 cy2
        obtain ⟨cx0, cx1, cx2⟩ := three HX5.out
        obtain ⟨cy0, cy1, cy2⟩ := three HY5.out
        go_wp2_with fail
        refine (cf_is b (w.heap.size + 1) f true C1.out _ HF5.out).mono ?_
        rintro e' w6 ⟨rfl, hb⟩
        have HB6 := Aside0.mk (below_step HB5.out hb)
        have HX6 := Aside0.mk (blk_below HX5.out hb)
        have HY6 := Aside0.mk (blk_below HY5.out hb)
        have HF6 := Aside0.mk (blk_below HF5.out hb)
        clear hb HB5 HX5 HY5 HF5 cx0 cx1 cx2 cy0 cy1 cy2
        obtain ⟨cx0, cx1, cx2⟩ := three HX6.out
        obtain ⟨cy0, cy1, cy2⟩ := three HY6.out
        go_wp2_with fail
        refine (pf_is a (w.heap.size + 1) f false P2.out _ HF6.out).mono ?_
        rintro e' w7 ⟨rfl, hb⟩
        have HB7 := Aside0.mk (below_step HB6.out hb)
        have HX7 := Aside0.mk (blk_below HX6.out hb)
        have HY7 := Aside0.mk (blk_below HY6.out hb)
        have HF7 := Aside0.mk (blk_below HF6.out hb)
        clear hb HB6 HX6 HY6 HF6 cx0 cx1 cx2 cy0 cy1 cy2
        obtain ⟨cx0, cx1, cx2⟩ := three HX7.out
        obtain ⟨cy0, cy1, cy2⟩ := three HY7.out
        go_wp2_with fail
        refine (cf_is a (w.heap.size + 1) f true C2.out _ HF7.out).mono ?_
        rintro e' w8 ⟨rfl, hb⟩
        have HB8 := Aside0.mk (below_step HB7.out hb)
        have HX8 := Aside0.mk (blk_below HX7.out hb)
        have HY8 := Aside0.mk (blk_below HY7.out hb)
        have HF8 := Aside0.mk (blk_below HF7.out hb)
        clear hb HB7 HX7 HY7 HF7 cx0 cx1 cx2 cy0 cy1 cy2
        obtain ⟨cx0, cx1, cx2⟩ := three HX8.out
        obtain ⟨cy0, cy1, cy2⟩ := three HY8.out
        go_wp2_with fail
        go_ret
        exact ⟨rfl, HB8.out⟩

theorem walk (a b : Slot) (f : Int) (w : World) (ha : M64 a) (hb : M64 b) (hf : I64 f) : Calls Try.prog 15 #[stV a b, .int .i64 f] w fun e w' => e = .returned (.bool true) ∧ Below w.heap.size w w' := by
  have h3 : cho a b f = -1 ∨ cho a b f = 0 ∨ cho a b f = 1 := by
    unfold cho
    split
    · exact .inl rfl
    · split
      · exact .inr (.inr rfl)
      · exact .inr (.inl rfl)
  rcases h3 with hk | hk | hk
  · exact noneChosen a b f w hk
  · exact chosen0 a b f w hk
  · exact chosen1 a b f w hk
end Go.Proofs.Ytippclnmijelfaa.LCho
