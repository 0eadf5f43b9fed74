/- The contracts of the reference's steps of the slots. -/
import Derived.Test.YtippclnmijelfaaSlB
namespace Go.Proofs.Ytippclnmijelfaa.Sl
open Go.RowKit Go.Proofs.YtippclnmijelfaaW.PrintWords Go.Proofs.YtippclnmijelfaaW.PrintLast Go.Proofs.YtippclnmijelfaaW.PrintMore
open Go.Proofs.Ytippclnmijelfaa.En Go.Proofs.Ytippclnmijelfaa.Rf Go.Proofs.Ytippclnmijelfaa.Wi Go.Proofs.Ytippclnmijelfaa.Rc Go.Proofs.Ytippclnmijelfaa.Sa
set_option linter.unusedVariables false
set_option linter.unusedSimpArgs false

/-- A step: whether it may be made is told by the slot and the other one; what the slot is then, by the slot. -/
def tr (m : Slot → Slot → Bool) (n : Slot → Slot) (a b : Slot) (i : Int) : Slot × Slot × Int :=
  if right a b i then (if i = 0 then (if m a b then (n a, b, 0) else (a, b, 21)) else (if m b a then (a, n b, 0) else (a, b, 21))) else (a, b, 1)
def clear : Slot → Slot → Int → Slot × Slot × Int := tr (fun x y => decide (rep x y)) (fun _ => ⟨0, 0, 0⟩)
def begn : Slot → Slot → Int → Slot × Slot × Int := tr (fun x _ => decide (pend x)) (fun x => ⟨2, x.v, x.t + 1⟩)
def confm : Slot → Slot → Int → Slot × Slot × Int := tr (fun x _ => decide (x.s = 2 ∨ x.s = 3)) (fun x => ⟨3, x.v, 0⟩)
def fal : Slot → Slot → Int → Slot × Slot × Int := tr (fun x _ => decide (x.s ≠ 0 ∧ x.s ≠ 4)) (fun x => ⟨4, x.v, x.t⟩)
def stage (v : Int) (a b : Slot) (i : Int) : Slot × Slot × Int := if v < 1 ∨ 16 < v then (a, b, 1) else tr (fun x y => decide (rep x y)) (fun _ => ⟨1, v, 0⟩) a b i
@[reducible] def res (r : Slot × Slot × Int) : Value := .tuple #[stV r.1 r.2.1, .int .i64 r.2.2]
def Z : Slot := ⟨0, 0, 0⟩
@[reducible] def oS (a b : Slot) : Obj := .cells #[.int .i64 a.s, .int .i64 a.v, .int .i64 a.t, .int .i64 b.s, .int .i64 b.v, .int .i64 b.t] 49 (0, 0)

/-- What stands in memory: the state's box and the result's. -/
structure Two (w : World) (g : Nat) (a b p q : Slot) : Prop where
  c0 : w.cell? ⟨g, 0, none⟩ = some (.int .i64 a.s)
  c1 : w.cell? ⟨g, 1, none⟩ = some (.int .i64 a.v)
  c2 : w.cell? ⟨g, 2, none⟩ = some (.int .i64 a.t)
  c3 : w.cell? ⟨g, 3, none⟩ = some (.int .i64 b.s)
  c4 : w.cell? ⟨g, 4, none⟩ = some (.int .i64 b.v)
  c5 : w.cell? ⟨g, 5, none⟩ = some (.int .i64 b.t)
  d0 : w.cell? ⟨g + 1, 0, none⟩ = some (.int .i64 p.s)
  d1 : w.cell? ⟨g + 1, 1, none⟩ = some (.int .i64 p.v)
  d2 : w.cell? ⟨g + 1, 2, none⟩ = some (.int .i64 p.t)
  d3 : w.cell? ⟨g + 1, 3, none⟩ = some (.int .i64 q.s)
  d4 : w.cell? ⟨g + 1, 4, none⟩ = some (.int .i64 q.v)
  d5 : w.cell? ⟨g + 1, 5, none⟩ = some (.int .i64 q.t)
  f0 : ∀ j, w.frozen? ⟨g, j, none⟩ = false
  f1 : ∀ j, w.frozen? ⟨g + 1, j, none⟩ = false
  lt : g + 1 < w.heap.size
theorem two_of {w : World} {g : Nat} {a b p q : Slot} (h0 : w.heap[g]? = some (oS a b)) (h1 : w.heap[g + 1]? = some (oS p q)) : Two w g a b p q :=
  ⟨by rw [blk_cell h0]; rfl, by rw [blk_cell h0]; rfl, by rw [blk_cell h0]; rfl, by rw [blk_cell h0]; rfl, by rw [blk_cell h0]; rfl, by rw [blk_cell h0]; rfl,
    by rw [blk_cell h1]; rfl, by rw [blk_cell h1]; rfl, by rw [blk_cell h1]; rfl, by rw [blk_cell h1]; rfl, by rw [blk_cell h1]; rfl, by rw [blk_cell h1]; rfl,
    fun j => blk_frozen h0 j, fun j => blk_frozen h1 j, blk_lt h1⟩
theorem two_new (w : World) (a b : Slot) : ((w.alloc (oS a b)).alloc (oS Z Z)).heap[w.heap.size]? = some (oS a b) ∧ ((w.alloc (oS a b)).alloc (oS Z Z)).heap[w.heap.size + 1]? = some (oS Z Z) := by
  refine ⟨blk_alloc (blk_new w _) _, ?_⟩
  have h := blk_new (w.alloc (oS a b)) (oS Z Z)
  simpa using h

set_option maxHeartbeats 16000000 in
set_option maxRecDepth 100000 in
theorem rClear_any (a b : Slot) (i : Int) (w : World) : Calls Try.prog 46 #[stV a b, .int .i64 i] w fun e w' => e = .returned (res (clear a b i)) ∧ Below w.heap.size w w' := by
  have ht := two_new w a b
  have HB0 := Aside0.mk (below_alloc (below_alloc (Below.refl w.heap.size w) (oS a b)) (oS Z Z))
  have HT := Aside0.mk ht
  clear ht
  go_enter Try.func46, Try.ntmps46
  go_wp2_with fail
  refine (wrong_any a b i _).mono ?_
  rintro e w1 ⟨rfl, hb1⟩
  have HB1 := Aside0.mk (below_step HB0.out hb1)
  obtain ⟨c0, c1, c2, c3, c4, c5, d0, d1, d2, d3, d4, d5, f0, f1, hlt⟩ := two_of (blk_below HT.out.1 hb1) (blk_below HT.out.2 hb1)
  have HT1 := Aside0.mk (And.intro (blk_below HT.out.1 hb1) (blk_below HT.out.2 hb1))
  have HLT := Aside0.mk hlt
  simp only [Z] at d0 d1 d2 d3 d4 d5
  clear hb1 HB0 HT hlt
  by_cases hr : right a b i
  · have hi' := hr.2
    rcases hi' with hi | hi
    · subst hi
      go_wp2_with fail
      refine (kept0_any a b _).mono ?_
      rintro e w2 ⟨rfl, hb2⟩
      clear c0 c1 c2 c3 c4 c5 d0 d1 d2 d3 d4 d5 f0 f1
      have HB2 := Aside0.mk (below_step HB1.out hb2)
      obtain ⟨c0, c1, c2, c3, c4, c5, d0, d1, d2, d3, d4, d5, f0, f1, hlt⟩ := two_of (blk_below HT1.out.1 hb2) (blk_below HT1.out.2 hb2)
      simp only [Z] at d0 d1 d2 d3 d4 d5
      clear hb2 HB1 HT1
      by_cases hm : rep a b
      · simp only [hm, decide_true, Bool.not_true]
        go_wp2_with fail
        refine bodyPost_ret (v := .tuple #[stV ⟨0, 0, 0⟩ b, .int .i64 0]) (by simp [results, Try.results46, go_sem, c0, c1, c2, c3, c4, c5, d0, d1, d2, d3, d4, d5]) rfl ⟨by unfold clear tr; simp [hr, hm], ?_⟩
        repeat (first | (with_reducible exact HB2.out) | (with_reducible refine below_alloc ?_ _) | refine below_set ?_ (by simp))
      · simp only [hm, decide_false, Bool.not_false]
        go_wp2_with fail
        refine bodyPost_ret (v := .tuple #[stV a b, .int .i64 21]) (by simp [results, Try.results46, go_sem, c0, c1, c2, c3, c4, c5, d0, d1, d2, d3, d4, d5]) rfl ⟨by unfold clear tr; simp [hr, hm], ?_⟩
        repeat (first | (with_reducible exact HB2.out) | (with_reducible refine below_alloc ?_ _) | refine below_set ?_ (by simp))
    · subst hi
      go_wp2_with fail
      refine (kept1_any a b _).mono ?_
      rintro e w2 ⟨rfl, hb2⟩
      clear c0 c1 c2 c3 c4 c5 d0 d1 d2 d3 d4 d5 f0 f1
      have HB2 := Aside0.mk (below_step HB1.out hb2)
      obtain ⟨c0, c1, c2, c3, c4, c5, d0, d1, d2, d3, d4, d5, f0, f1, hlt⟩ := two_of (blk_below HT1.out.1 hb2) (blk_below HT1.out.2 hb2)
      simp only [Z] at d0 d1 d2 d3 d4 d5
      clear hb2 HB1 HT1
      by_cases hm : rep b a
      · simp only [hm, decide_true, Bool.not_true]
        go_wp2_with fail
        refine bodyPost_ret (v := .tuple #[stV a ⟨0, 0, 0⟩, .int .i64 0]) (by simp [results, Try.results46, go_sem, c0, c1, c2, c3, c4, c5, d0, d1, d2, d3, d4, d5]) rfl ⟨by unfold clear tr; simp [hr, hm], ?_⟩
        repeat (first | (with_reducible exact HB2.out) | (with_reducible refine below_alloc ?_ _) | refine below_set ?_ (by simp))
      · simp only [hm, decide_false, Bool.not_false]
        go_wp2_with fail
        refine bodyPost_ret (v := .tuple #[stV a b, .int .i64 21]) (by simp [results, Try.results46, go_sem, c0, c1, c2, c3, c4, c5, d0, d1, d2, d3, d4, d5]) rfl ⟨by unfold clear tr; simp [hr, hm], ?_⟩
        repeat (first | (with_reducible exact HB2.out) | (with_reducible refine below_alloc ?_ _) | refine below_set ?_ (by simp))
  · go_wp2_with fail
    refine bodyPost_ret (v := .tuple #[stV a b, .int .i64 1]) (by simp [results, Try.results46, go_sem, c0, c1, c2, c3, c4, c5, d0, d1, d2, d3, d4, d5]) rfl ⟨by unfold clear tr; rw [if_neg hr], ?_⟩
    repeat (first | (with_reducible exact HB1.out) | (with_reducible refine below_alloc ?_ _) | refine below_set ?_ (by simp))

set_option maxHeartbeats 16000000 in
set_option maxRecDepth 100000 in
theorem rStage_any (a b : Slot) (i : Int) (v : Int) (w : World) : Calls Try.prog 47 #[stV a b, .int .i64 i, .int .i64 v] w fun e w' => e = .returned (res (stage v a b i)) ∧ Below w.heap.size w w' := by
  have ht := two_new w a b
  have HB0 := Aside0.mk (below_alloc (below_alloc (Below.refl w.heap.size w) (oS a b)) (oS Z Z))
  have HT := Aside0.mk ht
  clear ht
  go_enter Try.func47, Try.ntmps47
  go_wp2_with fail
  refine (wrong_any a b i _).mono ?_
  rintro e w1 ⟨rfl, hb1⟩
  have HB1 := Aside0.mk (below_step HB0.out hb1)
  obtain ⟨c0, c1, c2, c3, c4, c5, d0, d1, d2, d3, d4, d5, f0, f1, hlt⟩ := two_of (blk_below HT.out.1 hb1) (blk_below HT.out.2 hb1)
  have HT1 := Aside0.mk (And.intro (blk_below HT.out.1 hb1) (blk_below HT.out.2 hb1))
  have HLT := Aside0.mk hlt
  simp only [Z] at d0 d1 d2 d3 d4 d5
  clear hb1 HB0 HT hlt
  by_cases hr : right a b i
  · by_cases hv : v < 1 ∨ 16 < v
    · by_cases hv1 : v < 1
      · go_wp2_with fail
        refine bodyPost_ret (v := .tuple #[stV a b, .int .i64 1]) (by simp [results, Try.results47, go_sem, c0, c1, c2, c3, c4, c5, d0, d1, d2, d3, d4, d5]) rfl ⟨by unfold stage tr; rw [if_pos hv], ?_⟩
        repeat (first | (with_reducible exact HB1.out) | (with_reducible refine below_alloc ?_ _) | refine below_set ?_ (by simp))
      · have hv2 : 16 < v := by omega
        go_wp2_with fail
        refine bodyPost_ret (v := .tuple #[stV a b, .int .i64 1]) (by simp [results, Try.results47, go_sem, c0, c1, c2, c3, c4, c5, d0, d1, d2, d3, d4, d5]) rfl ⟨by unfold stage tr; rw [if_pos hv], ?_⟩
        repeat (first | (with_reducible exact HB1.out) | (with_reducible refine below_alloc ?_ _) | refine below_set ?_ (by simp))
    · have hv1 : ¬ v < 1 := by omega
      have hv2 : ¬ 16 < v := by omega
      have hi' := hr.2
      rcases hi' with hi | hi
      · subst hi
        go_wp2_with fail
        refine (kept0_any a b _).mono ?_
        rintro e w2 ⟨rfl, hb2⟩
        clear c0 c1 c2 c3 c4 c5 d0 d1 d2 d3 d4 d5 f0 f1
        have HB2 := Aside0.mk (below_step HB1.out hb2)
        obtain ⟨c0, c1, c2, c3, c4, c5, d0, d1, d2, d3, d4, d5, f0, f1, hlt⟩ := two_of (blk_below HT1.out.1 hb2) (blk_below HT1.out.2 hb2)
        simp only [Z] at d0 d1 d2 d3 d4 d5
        clear hb2 HB1 HT1
        by_cases hm : rep a b
        · simp only [hm, decide_true, Bool.not_true]
          go_wp2_with fail
          refine bodyPost_ret (v := .tuple #[stV ⟨1, v, 0⟩ b, .int .i64 0]) (by simp [results, Try.results47, go_sem, c0, c1, c2, c3, c4, c5, d0, d1, d2, d3, d4, d5]) rfl ⟨by unfold stage tr; rw [if_neg hv]; simp [hr, hm], ?_⟩
          repeat (first | (with_reducible exact HB2.out) | (with_reducible refine below_alloc ?_ _) | refine below_set ?_ (by simp))
        · simp only [hm, decide_false, Bool.not_false]
          go_wp2_with fail
          refine bodyPost_ret (v := .tuple #[stV a b, .int .i64 21]) (by simp [results, Try.results47, go_sem, c0, c1, c2, c3, c4, c5, d0, d1, d2, d3, d4, d5]) rfl ⟨by unfold stage tr; rw [if_neg hv]; simp [hr, hm], ?_⟩
          repeat (first | (with_reducible exact HB2.out) | (with_reducible refine below_alloc ?_ _) | refine below_set ?_ (by simp))
      · subst hi
        go_wp2_with fail
        refine (kept1_any a b _).mono ?_
        rintro e w2 ⟨rfl, hb2⟩
        clear c0 c1 c2 c3 c4 c5 d0 d1 d2 d3 d4 d5 f0 f1
        have HB2 := Aside0.mk (below_step HB1.out hb2)
        obtain ⟨c0, c1, c2, c3, c4, c5, d0, d1, d2, d3, d4, d5, f0, f1, hlt⟩ := two_of (blk_below HT1.out.1 hb2) (blk_below HT1.out.2 hb2)
        simp only [Z] at d0 d1 d2 d3 d4 d5
        clear hb2 HB1 HT1
        by_cases hm : rep b a
        · simp only [hm, decide_true, Bool.not_true]
          go_wp2_with fail
          refine bodyPost_ret (v := .tuple #[stV a ⟨1, v, 0⟩, .int .i64 0]) (by simp [results, Try.results47, go_sem, c0, c1, c2, c3, c4, c5, d0, d1, d2, d3, d4, d5]) rfl ⟨by unfold stage tr; rw [if_neg hv]; simp [hr, hm], ?_⟩
          repeat (first | (with_reducible exact HB2.out) | (with_reducible refine below_alloc ?_ _) | refine below_set ?_ (by simp))
        · simp only [hm, decide_false, Bool.not_false]
          go_wp2_with fail
          refine bodyPost_ret (v := .tuple #[stV a b, .int .i64 21]) (by simp [results, Try.results47, go_sem, c0, c1, c2, c3, c4, c5, d0, d1, d2, d3, d4, d5]) rfl ⟨by unfold stage tr; rw [if_neg hv]; simp [hr, hm], ?_⟩
          repeat (first | (with_reducible exact HB2.out) | (with_reducible refine below_alloc ?_ _) | refine below_set ?_ (by simp))
  · go_wp2_with fail
    refine bodyPost_ret (v := .tuple #[stV a b, .int .i64 1]) (by simp [results, Try.results47, go_sem, c0, c1, c2, c3, c4, c5, d0, d1, d2, d3, d4, d5]) rfl ⟨by unfold stage tr; simp [hr], ?_⟩
    repeat (first | (with_reducible exact HB1.out) | (with_reducible refine below_alloc ?_ _) | refine below_set ?_ (by simp))

set_option maxHeartbeats 16000000 in
set_option maxRecDepth 100000 in
theorem rBegin_any (a b : Slot) (i : Int) (w : World) : Calls Try.prog 48 #[stV a b, .int .i64 i] w fun e w' => e = .returned (res (begn a b i)) ∧ Below w.heap.size w w' := by
  have ht := two_new w a b
  have HB0 := Aside0.mk (below_alloc (below_alloc (Below.refl w.heap.size w) (oS a b)) (oS Z Z))
  have HT := Aside0.mk ht
  clear ht
  go_enter Try.func48, Try.ntmps48
  go_wp2_with fail
  refine (wrong_any a b i _).mono ?_
  rintro e w1 ⟨rfl, hb1⟩
  have HB1 := Aside0.mk (below_step HB0.out hb1)
  obtain ⟨c0, c1, c2, c3, c4, c5, d0, d1, d2, d3, d4, d5, f0, f1, hlt⟩ := two_of (blk_below HT.out.1 hb1) (blk_below HT.out.2 hb1)
  have HT1 := Aside0.mk (And.intro (blk_below HT.out.1 hb1) (blk_below HT.out.2 hb1))
  have HLT := Aside0.mk hlt
  simp only [Z] at d0 d1 d2 d3 d4 d5
  clear hb1 HB0 HT hlt
  by_cases hr : right a b i
  · have hi' := hr.2
    rcases hi' with hi | hi
    · subst hi
      obtain ⟨e0, e1, e2, e3, e4, e5, g0, g1, g2, g3, g4, g5, k0, k1, klt⟩ := two_of (blk_alloc HT1.out.1 (.cells #[.int .i64 a.s, .int .i64 a.v, .int .i64 a.t] 46)) (blk_alloc HT1.out.2 (.cells #[.int .i64 a.s, .int .i64 a.v, .int .i64 a.t] 46))
      simp only [Z] at g0 g1 g2 g3 g4 g5
      have hok := hr.1.1
      obtain ⟨o1, o2, o3, o4, o5, o6⟩ := hok
      by_cases hm : pend a
      · have hmm := hm
        unfold pend at hmm
        go_wp2_with fail
        all_goals (
          refine bodyPost_ret (v := .tuple #[stV ⟨2, a.v, a.t + 1⟩ b, .int .i64 0]) (by simp [results, Try.results48, go_sem, e0, e1, e2, e3, e4, e5, g0, g1, g2, g3, g4, g5, c0, c1, c2, c3, c4, c5, d0, d1, d2, d3, d4, d5]) rfl ⟨by unfold begn tr; simp [hr, hm], ?_⟩
          repeat (first | (with_reducible exact HB1.out) | (with_reducible refine below_alloc ?_ _) | refine below_set ?_ (by simp)))
      · have hmm := hm
        unfold pend at hmm
        go_wp2_with fail
        all_goals (
          refine bodyPost_ret (v := .tuple #[stV a b, .int .i64 21]) (by simp [results, Try.results48, go_sem, e0, e1, e2, e3, e4, e5, g0, g1, g2, g3, g4, g5, c0, c1, c2, c3, c4, c5, d0, d1, d2, d3, d4, d5]) rfl ⟨by unfold begn tr; simp [hr, hm], ?_⟩
          repeat (first | (with_reducible exact HB1.out) | (with_reducible refine below_alloc ?_ _) | refine below_set ?_ (by simp)))
    · subst hi
      obtain ⟨e0, e1, e2, e3, e4, e5, g0, g1, g2, g3, g4, g5, k0, k1, klt⟩ := two_of (blk_alloc HT1.out.1 (.cells #[.int .i64 b.s, .int .i64 b.v, .int .i64 b.t] 46)) (blk_alloc HT1.out.2 (.cells #[.int .i64 b.s, .int .i64 b.v, .int .i64 b.t] 46))
      simp only [Z] at g0 g1 g2 g3 g4 g5
      have hok := hr.1.2
      obtain ⟨o1, o2, o3, o4, o5, o6⟩ := hok
      by_cases hm : pend b
      · have hmm := hm
        unfold pend at hmm
        go_wp2_with fail
        all_goals (
          refine bodyPost_ret (v := .tuple #[stV a ⟨2, b.v, b.t + 1⟩, .int .i64 0]) (by simp [results, Try.results48, go_sem, e0, e1, e2, e3, e4, e5, g0, g1, g2, g3, g4, g5, c0, c1, c2, c3, c4, c5, d0, d1, d2, d3, d4, d5]) rfl ⟨by unfold begn tr; simp [hr, hm], ?_⟩
          repeat (first | (with_reducible exact HB1.out) | (with_reducible refine below_alloc ?_ _) | refine below_set ?_ (by simp)))
      · have hmm := hm
        unfold pend at hmm
        go_wp2_with fail
        all_goals (
          refine bodyPost_ret (v := .tuple #[stV a b, .int .i64 21]) (by simp [results, Try.results48, go_sem, e0, e1, e2, e3, e4, e5, g0, g1, g2, g3, g4, g5, c0, c1, c2, c3, c4, c5, d0, d1, d2, d3, d4, d5]) rfl ⟨by unfold begn tr; simp [hr, hm], ?_⟩
          repeat (first | (with_reducible exact HB1.out) | (with_reducible refine below_alloc ?_ _) | refine below_set ?_ (by simp)))
  · go_wp2_with fail
    refine bodyPost_ret (v := .tuple #[stV a b, .int .i64 1]) (by simp [results, Try.results48, go_sem, c0, c1, c2, c3, c4, c5, d0, d1, d2, d3, d4, d5]) rfl ⟨by unfold begn tr; rw [if_neg hr], ?_⟩
    repeat (first | (with_reducible exact HB1.out) | (with_reducible refine below_alloc ?_ _) | refine below_set ?_ (by simp))

set_option maxHeartbeats 16000000 in
set_option maxRecDepth 100000 in
theorem rConfirm_any (a b : Slot) (i : Int) (w : World) : Calls Try.prog 50 #[stV a b, .int .i64 i] w fun e w' => e = .returned (res (confm a b i)) ∧ Below w.heap.size w w' := by
  have ht := two_new w a b
  have HB0 := Aside0.mk (below_alloc (below_alloc (Below.refl w.heap.size w) (oS a b)) (oS Z Z))
  have HT := Aside0.mk ht
  clear ht
  go_enter Try.func50, Try.ntmps50
  go_wp2_with fail
  refine (wrong_any a b i _).mono ?_
  rintro e w1 ⟨rfl, hb1⟩
  have HB1 := Aside0.mk (below_step HB0.out hb1)
  obtain ⟨c0, c1, c2, c3, c4, c5, d0, d1, d2, d3, d4, d5, f0, f1, hlt⟩ := two_of (blk_below HT.out.1 hb1) (blk_below HT.out.2 hb1)
  have HT1 := Aside0.mk (And.intro (blk_below HT.out.1 hb1) (blk_below HT.out.2 hb1))
  have HLT := Aside0.mk hlt
  simp only [Z] at d0 d1 d2 d3 d4 d5
  clear hb1 HB0 HT hlt
  by_cases hr : right a b i
  · have hi' := hr.2
    rcases hi' with hi | hi
    · subst hi
      obtain ⟨e0, e1, e2, e3, e4, e5, g0, g1, g2, g3, g4, g5, k0, k1, klt⟩ := two_of (blk_alloc HT1.out.1 (.cells #[.int .i64 a.s, .int .i64 a.v, .int .i64 a.t] 46)) (blk_alloc HT1.out.2 (.cells #[.int .i64 a.s, .int .i64 a.v, .int .i64 a.t] 46))
      simp only [Z] at g0 g1 g2 g3 g4 g5
      obtain hm | hm | hm : (a.s = 2) ∨ (a.s = 3) ∨ (a.s ≠ 2 ∧ a.s ≠ 3) := by omega
      · have HM := Aside0.mk hm
        have hd0 : (a.s != 2) = false := by simp; omega
        clear hm
        go_wp2_with fail
        refine bodyPost_ret (v := .tuple #[stV ⟨3, a.v, 0⟩ b, .int .i64 0]) (by simp [results, Try.results50, go_sem, e0, e1, e2, e3, e4, e5, g0, g1, g2, g3, g4, g5, c0, c1, c2, c3, c4, c5, d0, d1, d2, d3, d4, d5]) rfl ⟨by unfold confm tr; have hm := HM.out; simp [hr, hm], ?_⟩
        repeat (first | (with_reducible exact HB1.out) | (with_reducible refine below_alloc ?_ _) | refine below_set ?_ (by simp))
      · have HM := Aside0.mk hm
        have hd0 : (a.s != 2) = true := by simp; omega
        have hd1 : (a.s != 3) = false := by simp; omega
        clear hm
        go_wp2_with fail
        refine bodyPost_ret (v := .tuple #[stV ⟨3, a.v, 0⟩ b, .int .i64 0]) (by simp [results, Try.results50, go_sem, e0, e1, e2, e3, e4, e5, g0, g1, g2, g3, g4, g5, c0, c1, c2, c3, c4, c5, d0, d1, d2, d3, d4, d5]) rfl ⟨by unfold confm tr; have hm := HM.out; simp [hr, hm], ?_⟩
        repeat (first | (with_reducible exact HB1.out) | (with_reducible refine below_alloc ?_ _) | refine below_set ?_ (by simp))
      · have HM := Aside0.mk hm
        have hd0 : (a.s != 2) = true := by simp; omega
        have hd1 : (a.s != 3) = true := by simp; omega
        clear hm
        go_wp2_with fail
        refine bodyPost_ret (v := .tuple #[stV a b, .int .i64 21]) (by simp [results, Try.results50, go_sem, e0, e1, e2, e3, e4, e5, g0, g1, g2, g3, g4, g5, c0, c1, c2, c3, c4, c5, d0, d1, d2, d3, d4, d5]) rfl ⟨by unfold confm tr; have hm := HM.out; simp [hr, hm], ?_⟩
        repeat (first | (with_reducible exact HB1.out) | (with_reducible refine below_alloc ?_ _) | refine below_set ?_ (by simp))
    · subst hi
      obtain ⟨e0, e1, e2, e3, e4, e5, g0, g1, g2, g3, g4, g5, k0, k1, klt⟩ := two_of (blk_alloc HT1.out.1 (.cells #[.int .i64 b.s, .int .i64 b.v, .int .i64 b.t] 46)) (blk_alloc HT1.out.2 (.cells #[.int .i64 b.s, .int .i64 b.v, .int .i64 b.t] 46))
      simp only [Z] at g0 g1 g2 g3 g4 g5
      obtain hm | hm | hm : (b.s = 2) ∨ (b.s = 3) ∨ (b.s ≠ 2 ∧ b.s ≠ 3) := by omega
      · have HM := Aside0.mk hm
        have hd0 : (b.s != 2) = false := by simp; omega
        clear hm
        go_wp2_with fail
        refine bodyPost_ret (v := .tuple #[stV a ⟨3, b.v, 0⟩, .int .i64 0]) (by simp [results, Try.results50, go_sem, e0, e1, e2, e3, e4, e5, g0, g1, g2, g3, g4, g5, c0, c1, c2, c3, c4, c5, d0, d1, d2, d3, d4, d5]) rfl ⟨by unfold confm tr; have hm := HM.out; simp [hr, hm], ?_⟩
        repeat (first | (with_reducible exact HB1.out) | (with_reducible refine below_alloc ?_ _) | refine below_set ?_ (by simp))
      · have HM := Aside0.mk hm
        have hd0 : (b.s != 2) = true := by simp; omega
        have hd1 : (b.s != 3) = false := by simp; omega
        clear hm
        go_wp2_with fail
        refine bodyPost_ret (v := .tuple #[stV a ⟨3, b.v, 0⟩, .int .i64 0]) (by simp [results, Try.results50, go_sem, e0, e1, e2, e3, e4, e5, g0, g1, g2, g3, g4, g5, c0, c1, c2, c3, c4, c5, d0, d1, d2, d3, d4, d5]) rfl ⟨by unfold confm tr; have hm := HM.out; simp [hr, hm], ?_⟩
        repeat (first | (with_reducible exact HB1.out) | (with_reducible refine below_alloc ?_ _) | refine below_set ?_ (by simp))
      · have HM := Aside0.mk hm
        have hd0 : (b.s != 2) = true := by simp; omega
        have hd1 : (b.s != 3) = true := by simp; omega
        clear hm
        go_wp2_with fail
        refine bodyPost_ret (v := .tuple #[stV a b, .int .i64 21]) (by simp [results, Try.results50, go_sem, e0, e1, e2, e3, e4, e5, g0, g1, g2, g3, g4, g5, c0, c1, c2, c3, c4, c5, d0, d1, d2, d3, d4, d5]) rfl ⟨by unfold confm tr; have hm := HM.out; simp [hr, hm], ?_⟩
        repeat (first | (with_reducible exact HB1.out) | (with_reducible refine below_alloc ?_ _) | refine below_set ?_ (by simp))
  · go_wp2_with fail
    refine bodyPost_ret (v := .tuple #[stV a b, .int .i64 1]) (by simp [results, Try.results50, go_sem, c0, c1, c2, c3, c4, c5, d0, d1, d2, d3, d4, d5]) rfl ⟨by unfold confm tr; rw [if_neg hr], ?_⟩
    repeat (first | (with_reducible exact HB1.out) | (with_reducible refine below_alloc ?_ _) | refine below_set ?_ (by simp))

set_option maxHeartbeats 16000000 in
set_option maxRecDepth 100000 in
theorem rFail_any (a b : Slot) (i : Int) (w : World) : Calls Try.prog 51 #[stV a b, .int .i64 i] w fun e w' => e = .returned (res (fal a b i)) ∧ Below w.heap.size w w' := by
  have ht := two_new w a b
  have HB0 := Aside0.mk (below_alloc (below_alloc (Below.refl w.heap.size w) (oS a b)) (oS Z Z))
  have HT := Aside0.mk ht
  clear ht
  go_enter Try.func51, Try.ntmps51
  go_wp2_with fail
  refine (wrong_any a b i _).mono ?_
  rintro e w1 ⟨rfl, hb1⟩
  have HB1 := Aside0.mk (below_step HB0.out hb1)
  obtain ⟨c0, c1, c2, c3, c4, c5, d0, d1, d2, d3, d4, d5, f0, f1, hlt⟩ := two_of (blk_below HT.out.1 hb1) (blk_below HT.out.2 hb1)
  have HT1 := Aside0.mk (And.intro (blk_below HT.out.1 hb1) (blk_below HT.out.2 hb1))
  have HLT := Aside0.mk hlt
  simp only [Z] at d0 d1 d2 d3 d4 d5
  clear hb1 HB0 HT hlt
  by_cases hr : right a b i
  · have hi' := hr.2
    rcases hi' with hi | hi
    · subst hi
      obtain ⟨e0, e1, e2, e3, e4, e5, g0, g1, g2, g3, g4, g5, k0, k1, klt⟩ := two_of (blk_alloc HT1.out.1 (.cells #[.int .i64 a.s, .int .i64 a.v, .int .i64 a.t] 46)) (blk_alloc HT1.out.2 (.cells #[.int .i64 a.s, .int .i64 a.v, .int .i64 a.t] 46))
      simp only [Z] at g0 g1 g2 g3 g4 g5
      obtain hm | hm | hm : (a.s = 0) ∨ (a.s = 4) ∨ (a.s ≠ 0 ∧ a.s ≠ 4) := by omega
      · have HM := Aside0.mk hm
        have hd0 : (a.s == 0) = true := by simp; omega
        clear hm
        go_wp2_with fail
        refine bodyPost_ret (v := .tuple #[stV a b, .int .i64 21]) (by simp [results, Try.results51, go_sem, e0, e1, e2, e3, e4, e5, g0, g1, g2, g3, g4, g5, c0, c1, c2, c3, c4, c5, d0, d1, d2, d3, d4, d5]) rfl ⟨by unfold fal tr; have hm := HM.out; simp [hr, hm], ?_⟩
        repeat (first | (with_reducible exact HB1.out) | (with_reducible refine below_alloc ?_ _) | refine below_set ?_ (by simp))
      · have HM := Aside0.mk hm
        have hd0 : (a.s == 0) = false := by simp; omega
        have hd1 : (a.s == 4) = true := by simp; omega
        clear hm
        go_wp2_with fail
        refine bodyPost_ret (v := .tuple #[stV a b, .int .i64 21]) (by simp [results, Try.results51, go_sem, e0, e1, e2, e3, e4, e5, g0, g1, g2, g3, g4, g5, c0, c1, c2, c3, c4, c5, d0, d1, d2, d3, d4, d5]) rfl ⟨by unfold fal tr; have hm := HM.out; simp [hr, hm], ?_⟩
        repeat (first | (with_reducible exact HB1.out) | (with_reducible refine below_alloc ?_ _) | refine below_set ?_ (by simp))
      · have HM := Aside0.mk hm
        have hd0 : (a.s == 0) = false := by simp; omega
        have hd1 : (a.s == 4) = false := by simp; omega
        clear hm
        go_wp2_with fail
        refine bodyPost_ret (v := .tuple #[stV ⟨4, a.v, a.t⟩ b, .int .i64 0]) (by simp [results, Try.results51, go_sem, e0, e1, e2, e3, e4, e5, g0, g1, g2, g3, g4, g5, c0, c1, c2, c3, c4, c5, d0, d1, d2, d3, d4, d5]) rfl ⟨by unfold fal tr; have hm := HM.out; simp [hr, hm], ?_⟩
        repeat (first | (with_reducible exact HB1.out) | (with_reducible refine below_alloc ?_ _) | refine below_set ?_ (by simp))
    · subst hi
      obtain ⟨e0, e1, e2, e3, e4, e5, g0, g1, g2, g3, g4, g5, k0, k1, klt⟩ := two_of (blk_alloc HT1.out.1 (.cells #[.int .i64 b.s, .int .i64 b.v, .int .i64 b.t] 46)) (blk_alloc HT1.out.2 (.cells #[.int .i64 b.s, .int .i64 b.v, .int .i64 b.t] 46))
      simp only [Z] at g0 g1 g2 g3 g4 g5
      obtain hm | hm | hm : (b.s = 0) ∨ (b.s = 4) ∨ (b.s ≠ 0 ∧ b.s ≠ 4) := by omega
      · have HM := Aside0.mk hm
        have hd0 : (b.s == 0) = true := by simp; omega
        clear hm
        go_wp2_with fail
        refine bodyPost_ret (v := .tuple #[stV a b, .int .i64 21]) (by simp [results, Try.results51, go_sem, e0, e1, e2, e3, e4, e5, g0, g1, g2, g3, g4, g5, c0, c1, c2, c3, c4, c5, d0, d1, d2, d3, d4, d5]) rfl ⟨by unfold fal tr; have hm := HM.out; simp [hr, hm], ?_⟩
        repeat (first | (with_reducible exact HB1.out) | (with_reducible refine below_alloc ?_ _) | refine below_set ?_ (by simp))
      · have HM := Aside0.mk hm
        have hd0 : (b.s == 0) = false := by simp; omega
        have hd1 : (b.s == 4) = true := by simp; omega
        clear hm
        go_wp2_with fail
        refine bodyPost_ret (v := .tuple #[stV a b, .int .i64 21]) (by simp [results, Try.results51, go_sem, e0, e1, e2, e3, e4, e5, g0, g1, g2, g3, g4, g5, c0, c1, c2, c3, c4, c5, d0, d1, d2, d3, d4, d5]) rfl ⟨by unfold fal tr; have hm := HM.out; simp [hr, hm], ?_⟩
        repeat (first | (with_reducible exact HB1.out) | (with_reducible refine below_alloc ?_ _) | refine below_set ?_ (by simp))
      · have HM := Aside0.mk hm
        have hd0 : (b.s == 0) = false := by simp; omega
        have hd1 : (b.s == 4) = false := by simp; omega
        clear hm
        go_wp2_with fail
        refine bodyPost_ret (v := .tuple #[stV a ⟨4, b.v, b.t⟩, .int .i64 0]) (by simp [results, Try.results51, go_sem, e0, e1, e2, e3, e4, e5, g0, g1, g2, g3, g4, g5, c0, c1, c2, c3, c4, c5, d0, d1, d2, d3, d4, d5]) rfl ⟨by unfold fal tr; have hm := HM.out; simp [hr, hm], ?_⟩
        repeat (first | (with_reducible exact HB1.out) | (with_reducible refine below_alloc ?_ _) | refine below_set ?_ (by simp))
  · go_wp2_with fail
    refine bodyPost_ret (v := .tuple #[stV a b, .int .i64 1]) (by simp [results, Try.results51, go_sem, c0, c1, c2, c3, c4, c5, d0, d1, d2, d3, d4, d5]) rfl ⟨by unfold fal tr; rw [if_neg hr], ?_⟩
    repeat (first | (with_reducible exact HB1.out) | (with_reducible refine below_alloc ?_ _) | refine below_set ?_ (by simp))

end Go.Proofs.Ytippclnmijelfaa.Sl
