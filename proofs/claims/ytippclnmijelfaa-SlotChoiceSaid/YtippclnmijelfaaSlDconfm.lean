/- The contracts of the steps of the slots, and of the choices. -/
import Derived.Test.YtippclnmijelfaaSlD
import Derived.Deep.RegionHeld3
import Derived.StillTailTactics
import Derived.Deep.RegionLaw
import Derived.Deep.QuietTactic
import Derived.BigQuiet
namespace Go.Proofs.Ytippclnmijelfaa.Sl
open Go.RowKit Go.Proofs.YtippclnmijelfaaW.PrintWords Go.Proofs.YtippclnmijelfaaW.PrintLast Go.Proofs.YtippclnmijelfaaW.PrintMore
open Go.Proofs.Ytippclnmijelfaa.En Go.Proofs.Ytippclnmijelfaa.Rf Go.Proofs.Ytippclnmijelfaa.Wi Go.Proofs.Ytippclnmijelfaa.Rc Go.Proofs.Ytippclnmijelfaa.Sa
set_option linter.unusedVariables false
set_option linter.unusedSimpArgs false

set_option maxHeartbeats 16000000 in
set_option maxRecDepth 100000 in
theorem apply_confm (a b : Slot) (i : Int) (w : World) : Calls Try.prog 67 #[stV a b, .int .i64 i, .agg #[.func (.func 79) #[] #[], .func (.func 80) #[] #[]]] w fun e w' => e = .returned (res (confm a b i)) ∧ Below w.heap.size w w' := by
  have HB0 := Aside0.mk (below_alloc (below_alloc (below_alloc (Below.refl w.heap.size w) (oS a b)) (oR (.func (.func 79) #[] #[]) (.func (.func 80) #[] #[]))) (oS Z Z))
  have HT := Aside0.mk (thr_new w a b (.func (.func 79) #[] #[]) (.func (.func 80) #[] #[]))
  go_enter Try.func67, Try.ntmps67
  go_wp2_with fail
  refine (Valid_any a b _).mono ?_
  rintro e w1 ⟨rfl, hb1⟩
  have HB1 := Aside0.mk (below_step HB0.out hb1)
  have HT1 := Aside0.mk (thr_below HT.out hb1)
  obtain ⟨c0, c1, c2, c3, c4, c5, r0, r1, d0, d1, d2, d3, d4, d5, f0, f1, hlt⟩ := three_of HT1.out
  simp only [Z] at d0 d1 d2 d3 d4 d5
  clear hb1 HB0 HT
  by_cases hr : right a b i
  · have hok := hr.1
    rcases hr.2 with hi | hi
    · subst hi
      simp only [hok, decide_true]
      go_wp2_with fail
      have hw1 : IntKind.i64.wrap 1 = 1 := by decide
      have hw0 : IntKind.i64.wrap 0 = 0 := by decide
      go_still_tail 11, (by kernel_rfl)
      clear c0 c1 c2 c3 c4 c5 r0 r1 d0 d1 d2 d3 d4 d5 f0 f1 hlt
      change wpList _ _ _ _ _ w1.drew
      have HB2 := Aside0.mk (below_drew1 HB1.out)
      have HT2 : Aside0 (Thr w1.drew w.heap.size a b Z Z _ _) := ⟨HT1.out⟩
      clear HB1 HT1
      generalize w1.drew = w2 at *
      go_wp2_with fail
      refine (confirm1_any a b _).mono ?_
      rintro e w3 ⟨rfl, hb3⟩
      have HB3 := Aside0.mk (below_step HB2.out hb3)
      have HT3 := Aside0.mk (thr_below HT2.out hb3)
      obtain ⟨c0, c1, c2, c3, c4, c5, r0, r1, d0, d1, d2, d3, d4, d5, f0, f1, hlt⟩ := three_of HT3.out
      simp only [Z] at d0 d1 d2 d3 d4 d5
      clear hb3 HB2 HT2
      by_cases hm : a.s = 2 ∨ a.s = 3
      · simp only [hm, decide_true, ne_eq, not_false_eq_true, and_self]
        have HM := Aside0.mk hm
        clear hm
        go_wp2_with fail
        go_region_law (first | (go_simp; go_at_call 80; refine (confirm2_any a _).mono ?_; rintro e w4 ⟨rfl, hb4⟩; have HB4 := Aside0.mk (below_step (below_drew1 HB3.out) hb4); have HT4 := Aside0.mk (thr_below (show Thr w3.drew w.heap.size a b Z Z _ _ from HT3.out) hb4); clear c0 c1 c2 c3 c4 c5 r0 r1 d0 d1 d2 d3 d4 d5 f0 f1 hlt hb4 HB3 HT3; obtain ⟨c0, c1, c2, c3, c4, c5, r0, r1, d0, d1, d2, d3, d4, d5, f0, f1, hlt⟩ := three_of HT4.out; simp only [Z] at d0 d1 d2 d3 d4 d5))
        all_goals (
          go_wp2_with fail
          refine bodyPost_ret (v := .tuple #[stV ⟨3, a.v, 0⟩ b, .int .i64 0]) (by simp [results, Try.results67, go_sem, c0, c1, c2, c3, c4, c5, r0, r1, d0, d1, d2, d3, d4, d5]) rfl ⟨by unfold confm tr; have hm := HM.out; simp [hr, hm], ?_⟩
          repeat (first | (with_reducible exact HB4.out) | refine below_set ?_ (by omega)))
      · simp only [hm, decide_false]
        have HM := Aside0.mk hm
        clear hm
        go_wp2_with fail
        refine bodyPost_ret (v := .tuple #[stV a b, .int .i64 21]) (by simp [results, Try.results67, go_sem, c0, c1, c2, c3, c4, c5, r0, r1, d0, d1, d2, d3, d4, d5]) rfl ⟨by unfold confm tr; have hm := HM.out; simp [hr, hm], ?_⟩
        repeat (first | (with_reducible exact HB3.out) | refine below_set ?_ (by omega))
    · subst hi
      simp only [hok, decide_true]
      go_wp2_with fail
      have hw1 : IntKind.i64.wrap 1 = 1 := by decide
      have hw0 : IntKind.i64.wrap 0 = 0 := by decide
      go_still_tail 11, (by kernel_rfl)
      clear c0 c1 c2 c3 c4 c5 r0 r1 d0 d1 d2 d3 d4 d5 f0 f1 hlt
      change wpList _ _ _ _ _ w1.drew
      have HB2 := Aside0.mk (below_drew1 HB1.out)
      have HT2 : Aside0 (Thr w1.drew w.heap.size a b Z Z _ _) := ⟨HT1.out⟩
      clear HB1 HT1
      generalize w1.drew = w2 at *
      go_wp2_with fail
      refine (confirm1_any b a _).mono ?_
      rintro e w3 ⟨rfl, hb3⟩
      have HB3 := Aside0.mk (below_step HB2.out hb3)
      have HT3 := Aside0.mk (thr_below HT2.out hb3)
      obtain ⟨c0, c1, c2, c3, c4, c5, r0, r1, d0, d1, d2, d3, d4, d5, f0, f1, hlt⟩ := three_of HT3.out
      simp only [Z] at d0 d1 d2 d3 d4 d5
      clear hb3 HB2 HT2
      by_cases hm : b.s = 2 ∨ b.s = 3
      · simp only [hm, decide_true, ne_eq, not_false_eq_true, and_self]
        have HM := Aside0.mk hm
        clear hm
        go_wp2_with fail
        go_region_law (first | (go_simp; go_at_call 80; refine (confirm2_any b _).mono ?_; rintro e w4 ⟨rfl, hb4⟩; have HB4 := Aside0.mk (below_step (below_drew1 HB3.out) hb4); have HT4 := Aside0.mk (thr_below (show Thr w3.drew w.heap.size a b Z Z _ _ from HT3.out) hb4); clear c0 c1 c2 c3 c4 c5 r0 r1 d0 d1 d2 d3 d4 d5 f0 f1 hlt hb4 HB3 HT3; obtain ⟨c0, c1, c2, c3, c4, c5, r0, r1, d0, d1, d2, d3, d4, d5, f0, f1, hlt⟩ := three_of HT4.out; simp only [Z] at d0 d1 d2 d3 d4 d5))
        all_goals (
          go_wp2_with fail
          refine bodyPost_ret (v := .tuple #[stV a ⟨3, b.v, 0⟩, .int .i64 0]) (by simp [results, Try.results67, go_sem, c0, c1, c2, c3, c4, c5, r0, r1, d0, d1, d2, d3, d4, d5]) rfl ⟨by unfold confm tr; have hm := HM.out; simp [hr, hm], ?_⟩
          repeat (first | (with_reducible exact HB4.out) | refine below_set ?_ (by omega)))
      · simp only [hm, decide_false]
        have HM := Aside0.mk hm
        clear hm
        go_wp2_with fail
        refine bodyPost_ret (v := .tuple #[stV a b, .int .i64 21]) (by simp [results, Try.results67, go_sem, c0, c1, c2, c3, c4, c5, r0, r1, d0, d1, d2, d3, d4, d5]) rfl ⟨by unfold confm tr; have hm := HM.out; simp [hr, hm], ?_⟩
        repeat (first | (with_reducible exact HB3.out) | refine below_set ?_ (by omega))
  · by_cases hok : ok a b
    · have hi0 : i ≠ 0 := fun h => hr ⟨hok, .inl h⟩
      have hi1 : i ≠ 1 := fun h => hr ⟨hok, .inr h⟩
      simp only [hok, decide_true]
      by_cases hlo : i < 0
      · go_wp2_with fail
        refine bodyPost_ret (v := .tuple #[stV a b, .int .i64 1]) (by simp [results, Try.results67, go_sem, c0, c1, c2, c3, c4, c5, r0, r1, d0, d1, d2, d3, d4, d5]) rfl ⟨by unfold confm tr; rw [if_neg hr], ?_⟩
        repeat (first | (with_reducible exact HB1.out) | refine below_set ?_ (by omega))
      · have hhi : 1 < i := by omega
        go_wp2_with fail
        refine bodyPost_ret (v := .tuple #[stV a b, .int .i64 1]) (by simp [results, Try.results67, go_sem, c0, c1, c2, c3, c4, c5, r0, r1, d0, d1, d2, d3, d4, d5]) rfl ⟨by unfold confm tr; rw [if_neg hr], ?_⟩
        repeat (first | (with_reducible exact HB1.out) | refine below_set ?_ (by omega))
    · simp only [hok, decide_false]
      go_wp2_with fail
      refine bodyPost_ret (v := .tuple #[stV a b, .int .i64 1]) (by simp [results, Try.results67, go_sem, c0, c1, c2, c3, c4, c5, r0, r1, d0, d1, d2, d3, d4, d5]) rfl ⟨by unfold confm tr; rw [if_neg hr], ?_⟩
      repeat (first | (with_reducible exact HB1.out) | refine below_set ?_ (by omega))

end Go.Proofs.Ytippclnmijelfaa.Sl
