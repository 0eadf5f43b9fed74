/- The contracts of the steps of the slots. -/
import Derived.Test.YtippclnmijelfaaSlDclear
import Derived.Test.YtippclnmijelfaaSlDstage
import Derived.Test.YtippclnmijelfaaSlDbegn
import Derived.Test.YtippclnmijelfaaSlDconfm
import Derived.Test.YtippclnmijelfaaSlDfal
import Derived.Deep.RegionHeld3
import Derived.StillTailTactics
import Derived.Deep.RegionLaw
import Derived.Deep.QuietTactic
import Derived.BigQuiet
namespace Go.Proofs.Ytippclnmijelfaa.Sl
open Go.RowKit Go.Proofs.YtippclnmijelfaaW.PrintWords Go.Proofs.YtippclnmijelfaaW.PrintLast Go.Proofs.YtippclnmijelfaaW.PrintMore
open Go.Proofs.Ytippclnmijelfaa.En Go.Proofs.Ytippclnmijelfaa.Rf Go.Proofs.Ytippclnmijelfaa.Wi Go.Proofs.Ytippclnmijelfaa.Rc Go.Proofs.Ytippclnmijelfaa.Sa
set_option linter.unusedVariables false
set_option linter.unusedSimpArgs false

set_option maxHeartbeats 8000000 in
set_option maxRecDepth 100000 in
theorem Clear_any (a b : Slot) (i : Int) (w : World) : Calls Try.prog 45 #[stV a b, .int .i64 i] w fun e w' => e = .returned (res (clear a b i)) ∧ Below w.heap.size w w' := by
  have ht := two_new w a b
  have HB0 := Aside0.mk (below_alloc (below_alloc (Below.refl w.heap.size w) (oS a b)) (oS Z Z))
  have HT := Aside0.mk ht
  clear ht
  obtain ⟨p, q, c, hpq⟩ : ∃ p q c, clear a b i = (p, q, c) := ⟨_, _, _, rfl⟩
  have HP := Aside0.mk hpq
  clear hpq
  go_enter Try.func45, Try.ntmps45
  go_wp2_with fail
  refine (apply_clear a b i _).mono ?_
  rintro e w1 ⟨rfl, hb1⟩
  have HB1 := Aside0.mk (below_step HB0.out hb1)
  obtain ⟨c0, c1, c2, c3, c4, c5, d0, d1, d2, d3, d4, d5, f0, f1, hlt⟩ := two_of (blk_below HT.out.1 hb1) (blk_below HT.out.2 hb1)
  simp only [Z] at d0 d1 d2 d3 d4 d5
  clear hb1 HB0 HT
  rw [HP.out]
  go_wp2_with fail
  refine bodyPost_ret (v := .tuple #[stV p q, .int .i64 c]) (by simp [results, Try.results45, go_sem, c0, c1, c2, c3, c4, c5, d0, d1, d2, d3, d4, d5]) rfl ⟨by rw [HP.out], ?_⟩
  repeat (first | (with_reducible exact HB1.out) | refine below_set ?_ (by omega))

set_option maxHeartbeats 8000000 in
set_option maxRecDepth 100000 in
theorem Begin_any (a b : Slot) (i : Int) (w : World) : Calls Try.prog 41 #[stV a b, .int .i64 i] w fun e w' => e = .returned (res (begn a b i)) ∧ Below w.heap.size w w' := by
  have ht := two_new w a b
  have HB0 := Aside0.mk (below_alloc (below_alloc (Below.refl w.heap.size w) (oS a b)) (oS Z Z))
  have HT := Aside0.mk ht
  clear ht
  obtain ⟨p, q, c, hpq⟩ : ∃ p q c, begn a b i = (p, q, c) := ⟨_, _, _, rfl⟩
  have HP := Aside0.mk hpq
  clear hpq
  go_enter Try.func41, Try.ntmps41
  go_wp2_with fail
  refine (apply_begn a b i _).mono ?_
  rintro e w1 ⟨rfl, hb1⟩
  have HB1 := Aside0.mk (below_step HB0.out hb1)
  obtain ⟨c0, c1, c2, c3, c4, c5, d0, d1, d2, d3, d4, d5, f0, f1, hlt⟩ := two_of (blk_below HT.out.1 hb1) (blk_below HT.out.2 hb1)
  simp only [Z] at d0 d1 d2 d3 d4 d5
  clear hb1 HB0 HT
  rw [HP.out]
  go_wp2_with fail
  refine bodyPost_ret (v := .tuple #[stV p q, .int .i64 c]) (by simp [results, Try.results41, go_sem, c0, c1, c2, c3, c4, c5, d0, d1, d2, d3, d4, d5]) rfl ⟨by rw [HP.out], ?_⟩
  repeat (first | (with_reducible exact HB1.out) | refine below_set ?_ (by omega))

set_option maxHeartbeats 8000000 in
set_option maxRecDepth 100000 in
theorem Confirm_any (a b : Slot) (i : Int) (w : World) : Calls Try.prog 49 #[stV a b, .int .i64 i] w fun e w' => e = .returned (res (confm a b i)) ∧ Below w.heap.size w w' := by
  have ht := two_new w a b
  have HB0 := Aside0.mk (below_alloc (below_alloc (Below.refl w.heap.size w) (oS a b)) (oS Z Z))
  have HT := Aside0.mk ht
  clear ht
  obtain ⟨p, q, c, hpq⟩ : ∃ p q c, confm a b i = (p, q, c) := ⟨_, _, _, rfl⟩
  have HP := Aside0.mk hpq
  clear hpq
  go_enter Try.func49, Try.ntmps49
  go_wp2_with fail
  refine (apply_confm a b i _).mono ?_
  rintro e w1 ⟨rfl, hb1⟩
  have HB1 := Aside0.mk (below_step HB0.out hb1)
  obtain ⟨c0, c1, c2, c3, c4, c5, d0, d1, d2, d3, d4, d5, f0, f1, hlt⟩ := two_of (blk_below HT.out.1 hb1) (blk_below HT.out.2 hb1)
  simp only [Z] at d0 d1 d2 d3 d4 d5
  clear hb1 HB0 HT
  rw [HP.out]
  go_wp2_with fail
  refine bodyPost_ret (v := .tuple #[stV p q, .int .i64 c]) (by simp [results, Try.results49, go_sem, c0, c1, c2, c3, c4, c5, d0, d1, d2, d3, d4, d5]) rfl ⟨by rw [HP.out], ?_⟩
  repeat (first | (with_reducible exact HB1.out) | refine below_set ?_ (by omega))

set_option maxHeartbeats 8000000 in
set_option maxRecDepth 100000 in
theorem Fail_any (a b : Slot) (i : Int) (w : World) : Calls Try.prog 43 #[stV a b, .int .i64 i] w fun e w' => e = .returned (res (fal a b i)) ∧ Below w.heap.size w w' := by
  have ht := two_new w a b
  have HB0 := Aside0.mk (below_alloc (below_alloc (Below.refl w.heap.size w) (oS a b)) (oS Z Z))
  have HT := Aside0.mk ht
  clear ht
  obtain ⟨p, q, c, hpq⟩ : ∃ p q c, fal a b i = (p, q, c) := ⟨_, _, _, rfl⟩
  have HP := Aside0.mk hpq
  clear hpq
  go_enter Try.func43, Try.ntmps43
  go_wp2_with fail
  refine (apply_fal a b i _).mono ?_
  rintro e w1 ⟨rfl, hb1⟩
  have HB1 := Aside0.mk (below_step HB0.out hb1)
  obtain ⟨c0, c1, c2, c3, c4, c5, d0, d1, d2, d3, d4, d5, f0, f1, hlt⟩ := two_of (blk_below HT.out.1 hb1) (blk_below HT.out.2 hb1)
  simp only [Z] at d0 d1 d2 d3 d4 d5
  clear hb1 HB0 HT
  rw [HP.out]
  go_wp2_with fail
  refine bodyPost_ret (v := .tuple #[stV p q, .int .i64 c]) (by simp [results, Try.results43, go_sem, c0, c1, c2, c3, c4, c5, d0, d1, d2, d3, d4, d5]) rfl ⟨by rw [HP.out], ?_⟩
  repeat (first | (with_reducible exact HB1.out) | refine below_set ?_ (by omega))

set_option maxHeartbeats 8000000 in
set_option maxRecDepth 100000 in
theorem Stage_any (a b : Slot) (i v : Int) (w : World) : Calls Try.prog 38 #[stV a b, .int .i64 i, .int .i64 v] w fun e w' => e = .returned (res (stage v a b i)) ∧ Below w.heap.size w w' := by
  have hv0 := blk_new (w.alloc (oS a b)) (.cells #[.int .i64 v] 3 (0, 0))
  have hz0 := blk_new ((w.alloc (oS a b)).alloc (.cells #[.int .i64 v] 3 (0, 0))) (oS Z Z)
  have hs1 : (w.alloc (oS a b)).heap.size = w.heap.size + 1 := by simp
  have hs2 : ((w.alloc (oS a b)).alloc (.cells #[.int .i64 v] 3 (0, 0))).heap.size = w.heap.size + 1 + 1 := by simp
  rw [hs1] at hv0
  rw [hs2] at hz0
  have HB0 := Aside0.mk (below_alloc (below_alloc (below_alloc (Below.refl w.heap.size w) (oS a b)) (.cells #[.int .i64 v] 3 (0, 0))) (oS Z Z))
  have HT := Aside0.mk (And.intro (blk_alloc (blk_alloc (blk_new w (oS a b)) (.cells #[.int .i64 v] 3 (0, 0))) (oS Z Z)) (And.intro (blk_alloc hv0 (oS Z Z)) hz0))
  clear hv0 hz0 hs1 hs2
  obtain ⟨p, q, c, hpq⟩ : ∃ p q c, stage v a b i = (p, q, c) := ⟨_, _, _, rfl⟩
  have HP := Aside0.mk hpq
  clear hpq
  have hmf : ∀ (fn : Fn) (first cap : Array Value) (w : World), (Instr.makeFunc fn first cap).run Try.prog w = .ok (.func fn first cap) w := fun _ _ _ _ => rfl
  by_cases hv : v < 1 ∨ 16 < v
  · have HV := Aside0.mk hv
    by_cases hv1 : v < 1
    · go_enter Try.func38, Try.ntmps38
      go_wp2_with fail
      refine bodyPost_ret (v := .tuple #[stV a b, .int .i64 1]) (by simp [results, Try.results38, go_sem]) rfl ⟨by unfold stage; rw [if_pos HV.out], ?_⟩
      repeat (first | (with_reducible exact HB0.out) | (with_reducible exact Below.refl _ _) | (with_reducible refine below_alloc ?_ _) | refine below_set ?_ (by omega))
    · have hv2 : 16 < v := by omega
      go_enter Try.func38, Try.ntmps38
      go_wp2_with fail
      refine bodyPost_ret (v := .tuple #[stV a b, .int .i64 1]) (by simp [results, Try.results38, go_sem]) rfl ⟨by unfold stage; rw [if_pos HV.out], ?_⟩
      repeat (first | (with_reducible exact HB0.out) | (with_reducible exact Below.refl _ _) | (with_reducible refine below_alloc ?_ _) | refine below_set ?_ (by omega))
  · have HV := Aside0.mk hv
    have hv1 : ¬ v < 1 := by omega
    have hv2 : ¬ 16 < v := by omega
    clear hv
    go_enter Try.func38, Try.ntmps38
    go_wp2_with fail
    refine (apply_stage (w.heap.size + 1) v a b i _ HT.out.2.1 HV.out).mono ?_
    rintro e w1 ⟨rfl, hb1⟩
    have HB1 := Aside0.mk (below_step HB0.out hb1)
    have h2 := blk_below HT.out.2.2 hb1
    have d0 : w1.cell? ⟨w.heap.size + 1 + 1, 0, none⟩ = some (.int .i64 0) := by rw [blk_cell h2]; rfl
    have d1 : w1.cell? ⟨w.heap.size + 1 + 1, 1, none⟩ = some (.int .i64 0) := by rw [blk_cell h2]; rfl
    have d2 : w1.cell? ⟨w.heap.size + 1 + 1, 2, none⟩ = some (.int .i64 0) := by rw [blk_cell h2]; rfl
    have d3 : w1.cell? ⟨w.heap.size + 1 + 1, 3, none⟩ = some (.int .i64 0) := by rw [blk_cell h2]; rfl
    have d4 : w1.cell? ⟨w.heap.size + 1 + 1, 4, none⟩ = some (.int .i64 0) := by rw [blk_cell h2]; rfl
    have d5 : w1.cell? ⟨w.heap.size + 1 + 1, 5, none⟩ = some (.int .i64 0) := by rw [blk_cell h2]; rfl
    have f1 : ∀ j, w1.frozen? ⟨w.heap.size + 1 + 1, j, none⟩ = false := fun j => blk_frozen h2 j
    clear hb1 HB0 HT h2
    rw [HP.out]
    go_wp2_with fail
    refine bodyPost_ret (v := .tuple #[stV p q, .int .i64 c]) (by simp [results, Try.results38, go_sem, d0, d1, d2, d3, d4, d5]) rfl ⟨by rw [HP.out], ?_⟩
    repeat (first | (with_reducible exact HB1.out) | refine below_set ?_ (by omega))
end Go.Proofs.Ytippclnmijelfaa.Sl
