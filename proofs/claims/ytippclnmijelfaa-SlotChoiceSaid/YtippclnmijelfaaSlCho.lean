/- The contract of the choice of a slot. -/
import Derived.Test.YtippclnmijelfaaSlD
import Derived.Deep.RegionHeld3
import Derived.StillTailTactics
import Derived.Deep.RegionLaw
import Derived.Deep.QuietTactic
import Derived.BigQuiet
namespace Go.Proofs.Ytippclnmijelfaa.Sl
open Go.RowKit Go.Proofs.YtippclnmijelfaaW.PrintWords Go.Proofs.YtippclnmijelfaaW.PrintLast Go.Proofs.YtippclnmijelfaaW.PrintMore
open Go.Proofs.Ytippclnmijelfaa.En Go.Proofs.Ytippclnmijelfaa.Rf Go.Proofs.Ytippclnmijelfaa.Wi Go.Proofs.Ytippclnmijelfaa.Rc Go.Proofs.Ytippclnmijelfaa.Sa
set_option linter.unusedVariables false
set_option linter.unusedSimpArgs false

/-- The best of the slots of a kind. -/
def best (m : Slot → Bool) (a b : Slot) (f : Int) : Int := if m b = true ∧ f ≤ b.v ∧ (¬ (m a = true ∧ f ≤ a.v) ∨ a.v < b.v) then 1 else if m a = true ∧ f ≤ a.v then 0 else -1
theorem cho_best (a b : Slot) (f : Int) : cho a b f = if best (fun x => decide (pend x)) a b f < 0 then best (fun x => decide (conf x)) a b f else best (fun x => decide (pend x)) a b f := by
  have e1 : pend a → a.s ≠ 3 := fun h => by rcases h.1 with h | h <;> omega
  have e2 : pend b → b.s ≠ 3 := fun h => by rcases h.1 with h | h <;> omega
  unfold cho rk best conf
  by_cases h1 : pend a <;> by_cases h2 : pend b <;> by_cases h3 : a.s = 3 <;> by_cases h4 : b.s = 3 <;> by_cases h5 : a.v < f <;> by_cases h6 : b.v < f <;> by_cases h7 : a.v < b.v <;> simp [h1, h2, h3, h4, h5, h6, h7] <;> (try omega) <;> (try (exact absurd h3 (e1 h1))) <;> (try (exact absurd h4 (e2 h2))) <;> (try (split <;> omega))
end Go.Proofs.Ytippclnmijelfaa.Sl
namespace Go.Proofs.Ytippclnmijelfaa.Sl
open Go.RowKit Go.Proofs.YtippclnmijelfaaW.PrintWords Go.Proofs.YtippclnmijelfaaW.PrintLast Go.Proofs.YtippclnmijelfaaW.PrintMore
open Go.Proofs.Ytippclnmijelfaa.En Go.Proofs.Ytippclnmijelfaa.Rf Go.Proofs.Ytippclnmijelfaa.Wi Go.Proofs.Ytippclnmijelfaa.Rc Go.Proofs.Ytippclnmijelfaa.Sa
set_option linter.unusedVariables false
set_option linter.unusedSimpArgs false

def bst (m : Slot → Bool) (a b : Slot) (f : Int) (j : Nat) : Int := if j = 0 then -1 else if j = 1 then (if m a = true ∧ f ≤ a.v then 0 else -1) else best m a b f
@[reducible] def oFs : Obj := .cells #[.func (.func 71) #[] #[], .func (.func 73) #[] #[]] 66 (0, 0)
theorem best_three (m : Slot → Bool) (a b : Slot) (f : Int) : best m a b f = -1 ∨ best m a b f = 0 ∨ best m a b f = 1 := by
  unfold best
  split
  · exact .inr (.inr rfl)
  · split
    · exact .inr (.inl rfl)
    · exact .inl rfl

attribute [local go_sem] ix0 ix1
set_option maxHeartbeats 32000000 in
set_option maxRecDepth 100000 in
theorem Choose_any (a b : Slot) (f : Int) (w : World) : Calls Try.prog 42 #[stV a b, .int .i64 f] w fun e w' => e = .returned (.int .i64 (cho a b f)) ∧ Below w.heap.size w w' := by
  have HB0 := Aside0.mk (below_alloc (below_alloc (Below.refl w.heap.size w) (oS a b)) oFs)
  have hf0 := blk_new (w.alloc (oS a b)) oFs
  have hs1 : (w.alloc (oS a b)).heap.size = w.heap.size + 1 := by simp
  rw [hs1] at hf0
  have HG := Aside0.mk (And.intro (blk_alloc (blk_new w (oS a b)) oFs) hf0)
  clear hf0 hs1
  go_enter Try.func42, Try.ntmps42
  go_wp2_with fail
  generalize (w.alloc (Obj.cells #[Value.int IntKind.i64 a.s, Value.int IntKind.i64 a.v, Value.int IntKind.i64 a.t, Value.int IntKind.i64 b.s, Value.int IntKind.i64 b.v, Value.int IntKind.i64 b.t] 49)).alloc (Obj.cells #[Value.func (Fn.func 71) #[] #[], Value.func (Fn.func 73) #[] #[]] 66) = W0 at *
  go_loopw [12] (fun x wr => ∃ k : Nat, x = .int .i64 (k : Int) ∧ k ≤ 2 ∧ Aside0 (1 ≤ k → best (fun x => decide (pend x)) a b f < 0) ∧ Aside0 (2 ≤ k → best (fun x => decide (conf x)) a b f < 0) ∧ Aside0 (Below W0.heap.size W0 wr)) (fun i _ => 2 - (intOf i).toNat)
  case atStart => exact ⟨0, rfl, by omega, ⟨fun h => absurd h (by omega)⟩, ⟨fun h => absurd h (by omega)⟩, ⟨Below.refl _ _⟩⟩
  case round =>
    obtain ⟨k, rfl, hk, H1, H2, HBr⟩ := hrel
    obtain rfl | rfl | rfl : k = 0 ∨ k = 1 ∨ k = 2 := by omega
    · have hfn : wr.cell? ⟨w.heap.size + 1, 0, none⟩ = some (.func (.func 71) #[] #[]) := by rw [blk_cell (blk_below HG.out.2 HBr.out)]; rfl
      have hcs : ∀ j : Nat, wr.cell? ⟨w.heap.size, j, none⟩ = (#[Value.int IntKind.i64 a.s, Value.int IntKind.i64 a.v, Value.int IntKind.i64 a.t, Value.int IntKind.i64 b.s, Value.int IntKind.i64 b.v, Value.int IntKind.i64 b.t] : Array Value)[j]? := fun j => blk_cell (blk_below HG.out.1 HBr.out) j
      have c0 : wr.cell? ⟨w.heap.size, 0, none⟩ = some (.int .i64 a.s) := hcs 0
      have c1 : wr.cell? ⟨w.heap.size, 1, none⟩ = some (.int .i64 a.v) := hcs 1
      have c2 : wr.cell? ⟨w.heap.size, 2, none⟩ = some (.int .i64 a.t) := hcs 2
      have c3 : wr.cell? ⟨w.heap.size, 3, none⟩ = some (.int .i64 b.s) := hcs 3
      have c4 : wr.cell? ⟨w.heap.size, 4, none⟩ = some (.int .i64 b.v) := hcs 4
      have c5 : wr.cell? ⟨w.heap.size, 5, none⟩ = some (.int .i64 b.t) := hcs 5
      clear hcs
      go_wp2_with fail
      clear hfn c0 c1 c2 c3 c4 c5
      go_loopw [7, 18] (fun x7 x18 wq => ∃ j : Nat, x18 = .int .i64 (j : Int) ∧ j ≤ 2 ∧ x7 = .int .i64 (bst (fun x => decide (pend x)) a b f j) ∧ Aside0 (Below W0.heap.size W0 wq)) (fun _ i _ => 2 - (intOf i).toNat)
      case atStart => exact ⟨0, rfl, by omega, rfl, HBr⟩
      case round =>
        clear HBr
        obtain ⟨j, rfl, hj, rfl, HBr⟩ := hrel
        obtain rfl | rfl | rfl : j = 0 ∨ j = 1 ∨ j = 2 := by omega
        · have hb0 : bst (fun x => decide (pend x)) a b f 0 = -1 := rfl
          rw [hb0]
          clear hb0
          go_wp2_with fail
          by_cases hm : pend a
          · have HM := Aside0.mk hm
            by_cases hv : f ≤ a.v
            · have HV := Aside0.mk hv
              have hd : decide (f ≤ a.v) = true := decide_eq_true hv
              have k0 : ((wr.alloc (.cells #[.int .i64 a.s, .int .i64 a.v, .int .i64 a.t] 46 (0, 0))).drew).cell? ⟨wr.heap.size, 0, none⟩ = some (.int .i64 a.s) ∧ ((wr.alloc (.cells #[.int .i64 a.s, .int .i64 a.v, .int .i64 a.t] 46 (0, 0))).drew).cell? ⟨wr.heap.size, 1, none⟩ = some (.int .i64 a.v) ∧ ((wr.alloc (.cells #[.int .i64 a.s, .int .i64 a.v, .int .i64 a.t] 46 (0, 0))).drew).cell? ⟨wr.heap.size, 2, none⟩ = some (.int .i64 a.t) ∧ ((wr.alloc (.cells #[.int .i64 a.s, .int .i64 a.v, .int .i64 a.t] 46 (0, 0))).drew).cell? ⟨w.heap.size, 1, none⟩ = some (.int .i64 a.v) := ⟨by rw [blk_cell (show (((wr.alloc (.cells #[.int .i64 a.s, .int .i64 a.v, .int .i64 a.t] 46 (0, 0))).drew)).heap[wr.heap.size]? = _ from blk_new wr (.cells #[.int .i64 a.s, .int .i64 a.v, .int .i64 a.t] 46 (0, 0)))]; rfl, by rw [blk_cell (show (((wr.alloc (.cells #[.int .i64 a.s, .int .i64 a.v, .int .i64 a.t] 46 (0, 0))).drew)).heap[wr.heap.size]? = _ from blk_new wr (.cells #[.int .i64 a.s, .int .i64 a.v, .int .i64 a.t] 46 (0, 0)))]; rfl, by rw [blk_cell (show (((wr.alloc (.cells #[.int .i64 a.s, .int .i64 a.v, .int .i64 a.t] 46 (0, 0))).drew)).heap[wr.heap.size]? = _ from blk_new wr (.cells #[.int .i64 a.s, .int .i64 a.v, .int .i64 a.t] 46 (0, 0)))]; rfl, by rw [blk_cell (show (((wr.alloc (.cells #[.int .i64 a.s, .int .i64 a.v, .int .i64 a.t] 46 (0, 0))).drew)).heap[w.heap.size]? = _ from blk_alloc (blk_below HG.out.1 HBr.out) (.cells #[.int .i64 a.s, .int .i64 a.v, .int .i64 a.t] 46 (0, 0)))]; rfl⟩
              refine wp_region_held_drew (S := fun w' => w'.cell? ⟨wr.heap.size, 0, none⟩ = some (.int .i64 a.s) ∧ w'.cell? ⟨wr.heap.size, 1, none⟩ = some (.int .i64 a.v) ∧ w'.cell? ⟨wr.heap.size, 2, none⟩ = some (.int .i64 a.t) ∧ w'.cell? ⟨w.heap.size, 1, none⟩ = some (.int .i64 a.v)) (by kernel_rfl) k0 (fun hHeld => ?_)
              refine wpAnyH_take (i := 0) (v := (.func (.func 71) #[] #[])) rfl (by kernel_rfl) (by kernel_rfl) (by kernel_rfl) (fun _ _ _ h => h) (Or.inl ⟨by rfl, fun w' hSw => ?_⟩) (by assumption) ?_
              · go_simp
              try simp only [Act.put, List.getElem_toArray, List.getElem_cons_zero, List.getElem_cons_succ, List.setIfInBounds_toArray, List.set_cons_zero, List.set_cons_succ]
              refine wpAnyH_take (i := 1) (v := (slV a)) rfl (by kernel_rfl) (by kernel_rfl) (by kernel_rfl) (fun _ _ _ h => h) (Or.inl ⟨by rfl, fun w' hSw => ?_⟩) (by assumption) ?_
              · obtain ⟨s0, s1, s2, s3⟩ := hSw; go_simp
              try simp only [Act.put, List.getElem_toArray, List.getElem_cons_zero, List.getElem_cons_succ, List.setIfInBounds_toArray, List.set_cons_zero, List.set_cons_succ]
              refine wpAnyH_ready (rs := [2]) (by kernel_rfl) (by simp) ?_
              refine AllReadyH.cons rfl (fun K hK => ?_) AllReadyH.nil
              go_simp
              go_at_call 71
              refine (pending_any a _).mono ?_
              rintro e w4 ⟨rfl, hb4⟩
              simp only [hm, decide_true, decide_false]
              have HB4 := Aside0.mk (below_step (below_drew1 (below_alloc HBr.out (.cells #[.int .i64 a.s, .int .i64 a.v, .int .i64 a.t] 46 (0, 0)))) hb4)
              have HN4 := Aside0.mk (blk_below (show (((wr.alloc (.cells #[.int .i64 a.s, .int .i64 a.v, .int .i64 a.t] 46 (0, 0))).drew)).heap[wr.heap.size]? = _ from blk_new wr (.cells #[.int .i64 a.s, .int .i64 a.v, .int .i64 a.t] 46 (0, 0))) hb4)
              have k4 : w4.cell? ⟨wr.heap.size, 0, none⟩ = some (.int .i64 a.s) ∧ w4.cell? ⟨wr.heap.size, 1, none⟩ = some (.int .i64 a.v) ∧ w4.cell? ⟨wr.heap.size, 2, none⟩ = some (.int .i64 a.t) ∧ w4.cell? ⟨w.heap.size, 1, none⟩ = some (.int .i64 a.v) := ⟨by rw [blk_cell HN4.out]; rfl, by rw [blk_cell HN4.out]; rfl, by rw [blk_cell HN4.out]; rfl, by rw [blk_cell (blk_below HG.out.1 HB4.out)]; rfl⟩
              clear k0 hHeld hb4
              refine hK.out _ _ k4 (fun hHeld => ?_)
              clear hK K
              try simp only [Act.put, List.getElem_toArray, List.getElem_cons_zero, List.getElem_cons_succ, List.setIfInBounds_toArray, List.set_cons_zero, List.set_cons_succ]
              refine wpAnyH_take (i := 3) (v := (.bool true)) rfl (by kernel_rfl) (by kernel_rfl) (by kernel_rfl) (fun _ _ _ h => h) (Or.inl ⟨by rfl, fun w' hSw => ?_⟩) (by assumption) ?_
              · go_simp
              try simp only [Act.put, List.getElem_toArray, List.getElem_cons_zero, List.getElem_cons_succ, List.setIfInBounds_toArray, List.set_cons_zero, List.set_cons_succ]
              refine wpAnyH_take (i := 4) (v := ?_) rfl (by kernel_rfl) (by kernel_rfl) (by kernel_rfl) (fun _ _ _ h => h) (Or.inl ⟨by rfl, ?_⟩) (by assumption) ?_
              rotate_left
              · intro w' hSw; go_simp; with_reducible rfl
              try simp only [Act.put, List.getElem_toArray, List.getElem_cons_zero, List.getElem_cons_succ, List.setIfInBounds_toArray, List.set_cons_zero, List.set_cons_succ]
              refine wpAnyH_take (i := 5) (v := (.int .i64 a.v)) rfl (by kernel_rfl) (by kernel_rfl) (by kernel_rfl) (fun _ _ _ h => h) (Or.inl ⟨by rfl, fun w' hSw => ?_⟩) (by assumption) ?_
              · obtain ⟨s0, s1, s2, s3⟩ := hSw; go_simp
              try simp only [Act.put, List.getElem_toArray, List.getElem_cons_zero, List.getElem_cons_succ, List.setIfInBounds_toArray, List.set_cons_zero, List.set_cons_succ]
              refine wpAnyH_take (i := 6) (v := (.int .i64 f)) rfl (by kernel_rfl) (by kernel_rfl) (by kernel_rfl) (fun _ _ _ h => h) (Or.inl ⟨by rfl, fun w' hSw => ?_⟩) (by assumption) ?_
              · go_simp
              try simp only [Act.put, List.getElem_toArray, List.getElem_cons_zero, List.getElem_cons_succ, List.setIfInBounds_toArray, List.set_cons_zero, List.set_cons_succ]
              refine wpAnyH_take (i := 7) (v := (.bool true)) rfl (by kernel_rfl) (by kernel_rfl) (by kernel_rfl) (fun _ _ _ h => h) (Or.inl ⟨by rfl, fun w' hSw => ?_⟩) (by assumption) ?_
              · go_simp
              try simp only [Act.put, List.getElem_toArray, List.getElem_cons_zero, List.getElem_cons_succ, List.setIfInBounds_toArray, List.set_cons_zero, List.set_cons_succ]
              refine wpAnyH_take (i := 8) (v := (.bool true)) rfl (by kernel_rfl) (by kernel_rfl) (by kernel_rfl) (fun _ _ _ h => h) (Or.inl ⟨by rfl, fun w' hSw => ?_⟩) (by assumption) ?_
              · go_simp
              try simp only [Act.put, List.getElem_toArray, List.getElem_cons_zero, List.getElem_cons_succ, List.setIfInBounds_toArray, List.set_cons_zero, List.set_cons_succ]
              refine wpAnyH_take (i := 9) (v := (.bool true)) rfl (by kernel_rfl) (by kernel_rfl) (by kernel_rfl) (fun _ _ _ h => h) (Or.inl ⟨by rfl, fun w' hSw => ?_⟩) (by assumption) ?_
              · go_simp
              try simp only [Act.put, List.getElem_toArray, List.getElem_cons_zero, List.getElem_cons_succ, List.setIfInBounds_toArray, List.set_cons_zero, List.set_cons_succ]
              refine wpAnyH_take (i := 10) (v := (.int .i64 (-1))) rfl (by kernel_rfl) (by kernel_rfl) (by kernel_rfl) (fun _ _ _ h => h) (Or.inl ⟨by rfl, fun w' hSw => ?_⟩) (by assumption) ?_
              · go_simp
              try simp only [Act.put, List.getElem_toArray, List.getElem_cons_zero, List.getElem_cons_succ, List.setIfInBounds_toArray, List.set_cons_zero, List.set_cons_succ]
              refine wpAnyH_take (i := 11) (v := (.bool true)) rfl (by kernel_rfl) (by kernel_rfl) (by kernel_rfl) (fun _ _ _ h => h) (Or.inl ⟨by rfl, fun w' hSw => ?_⟩) (by assumption) ?_
              · go_simp
              try simp only [Act.put, List.getElem_toArray, List.getElem_cons_zero, List.getElem_cons_succ, List.setIfInBounds_toArray, List.set_cons_zero, List.set_cons_succ]
              refine wpAnyH_take (i := 12) (v := (.bool true)) rfl (by kernel_rfl) (by kernel_rfl) (by kernel_rfl) (fun _ _ _ h => h) (Or.inl ⟨by rfl, fun w' hSw => ?_⟩) (by assumption) ?_
              · go_simp
              try simp only [Act.put, List.getElem_toArray, List.getElem_cons_zero, List.getElem_cons_succ, List.setIfInBounds_toArray, List.set_cons_zero, List.set_cons_succ]
              refine wpAnyH_take (i := 13) (v := undef) rfl (by kernel_rfl) (by kernel_rfl) (by kernel_rfl) (fun _ _ _ h => h) (Or.inr ⟨by rfl, rfl⟩) (by assumption) ?_
              try simp only [Act.put, List.getElem_toArray, List.getElem_cons_zero, List.getElem_cons_succ, List.setIfInBounds_toArray, List.set_cons_zero, List.set_cons_succ]
              refine wpAnyH_take (i := 14) (v := undef) rfl (by kernel_rfl) (by kernel_rfl) (by kernel_rfl) (fun _ _ _ h => h) (Or.inr ⟨by rfl, rfl⟩) (by assumption) ?_
              try simp only [Act.put, List.getElem_toArray, List.getElem_cons_zero, List.getElem_cons_succ, List.setIfInBounds_toArray, List.set_cons_zero, List.set_cons_succ]
              refine wpAnyH_take (i := 15) (v := undef) rfl (by kernel_rfl) (by kernel_rfl) (by kernel_rfl) (fun _ _ _ h => h) (Or.inr ⟨by rfl, rfl⟩) (by assumption) ?_
              try simp only [Act.put, List.getElem_toArray, List.getElem_cons_zero, List.getElem_cons_succ, List.setIfInBounds_toArray, List.set_cons_zero, List.set_cons_succ]
              refine wpAnyH_take (i := 16) (v := undef) rfl (by kernel_rfl) (by kernel_rfl) (by kernel_rfl) (fun _ _ _ h => h) (Or.inr ⟨by rfl, rfl⟩) (by assumption) ?_
              try simp only [Act.put, List.getElem_toArray, List.getElem_cons_zero, List.getElem_cons_succ, List.setIfInBounds_toArray, List.set_cons_zero, List.set_cons_succ]
              refine wpAnyH_take (i := 17) (v := undef) rfl (by kernel_rfl) (by kernel_rfl) (by kernel_rfl) (fun _ _ _ h => h) (Or.inr ⟨by rfl, rfl⟩) (by assumption) ?_
              try simp only [Act.put, List.getElem_toArray, List.getElem_cons_zero, List.getElem_cons_succ, List.setIfInBounds_toArray, List.set_cons_zero, List.set_cons_succ]
              refine wpAnyH_take (i := 18) (v := undef) rfl (by kernel_rfl) (by kernel_rfl) (by kernel_rfl) (fun _ _ _ h => h) (Or.inr ⟨by rfl, rfl⟩) (by assumption) ?_
              try simp only [Act.put, List.getElem_toArray, List.getElem_cons_zero, List.getElem_cons_succ, List.setIfInBounds_toArray, List.set_cons_zero, List.set_cons_succ]
              refine wpAnyH_take (i := 19) (v := undef) rfl (by kernel_rfl) (by kernel_rfl) (by kernel_rfl) (fun _ _ _ h => h) (Or.inr ⟨by rfl, rfl⟩) (by assumption) ?_
              try simp only [Act.put, List.getElem_toArray, List.getElem_cons_zero, List.getElem_cons_succ, List.setIfInBounds_toArray, List.set_cons_zero, List.set_cons_succ]
              refine wpAnyH_take (i := 20) (v := undef) rfl (by kernel_rfl) (by kernel_rfl) (by kernel_rfl) (fun _ _ _ h => h) (Or.inr ⟨by rfl, rfl⟩) (by assumption) ?_
              try simp only [Act.put, List.getElem_toArray, List.getElem_cons_zero, List.getElem_cons_succ, List.setIfInBounds_toArray, List.set_cons_zero, List.set_cons_succ]
              refine wpAnyH_take (i := 21) (v := (.bool true)) rfl (by kernel_rfl) (by kernel_rfl) (by kernel_rfl) (fun _ _ _ h => h) (Or.inl ⟨by rfl, fun w' hSw => ?_⟩) (by assumption) ?_
              · go_simp
              try simp only [Act.put, List.getElem_toArray, List.getElem_cons_zero, List.getElem_cons_succ, List.setIfInBounds_toArray, List.set_cons_zero, List.set_cons_succ]
              refine wpAnyH_take (i := 22) (v := (.bool true)) rfl (by kernel_rfl) (by kernel_rfl) (by kernel_rfl) (fun _ _ _ h => h) (Or.inl ⟨by rfl, fun w' hSw => ?_⟩) (by assumption) ?_
              · go_simp
              try simp only [Act.put, List.getElem_toArray, List.getElem_cons_zero, List.getElem_cons_succ, List.setIfInBounds_toArray, List.set_cons_zero, List.set_cons_succ]
              refine wpAnyH_done (by kernel_rfl) ?_ _
              go_wp2_with fail
              have HE : Aside0 (bst (fun x => decide (pend x)) a b f 1 = 0) := ⟨by have k1 := HM.out; have k2 := HV.out; unfold bst best; simp [HM.out, HV.out] <;> omega⟩
              first
              | exact ⟨⟨1, by go_num, by omega, by rw [HE.out], HB4⟩, by simp [intOf]⟩
              | (refine ⟨?_, ?_⟩
                 · repeat apply Exists.intro
                   refine ⟨?_, ?_⟩
                   rotate_left
                   · repeat' (first | exact rfl | apply And.intro)
                   first | exact ⟨1, by go_num, by omega, by rw [HE.out], HB4⟩ | exact ⟨1, by go_num, by omega, by rw [HE.out]⟩
                 · simp [intOf])
            · have HV := Aside0.mk hv
              have hd : decide (f ≤ a.v) = false := decide_eq_false hv
              have k0 : ((wr.alloc (.cells #[.int .i64 a.s, .int .i64 a.v, .int .i64 a.t] 46 (0, 0))).drew).cell? ⟨wr.heap.size, 0, none⟩ = some (.int .i64 a.s) ∧ ((wr.alloc (.cells #[.int .i64 a.s, .int .i64 a.v, .int .i64 a.t] 46 (0, 0))).drew).cell? ⟨wr.heap.size, 1, none⟩ = some (.int .i64 a.v) ∧ ((wr.alloc (.cells #[.int .i64 a.s, .int .i64 a.v, .int .i64 a.t] 46 (0, 0))).drew).cell? ⟨wr.heap.size, 2, none⟩ = some (.int .i64 a.t) ∧ ((wr.alloc (.cells #[.int .i64 a.s, .int .i64 a.v, .int .i64 a.t] 46 (0, 0))).drew).cell? ⟨w.heap.size, 1, none⟩ = some (.int .i64 a.v) := ⟨by rw [blk_cell (show (((wr.alloc (.cells #[.int .i64 a.s, .int .i64 a.v, .int .i64 a.t] 46 (0, 0))).drew)).heap[wr.heap.size]? = _ from blk_new wr (.cells #[.int .i64 a.s, .int .i64 a.v, .int .i64 a.t] 46 (0, 0)))]; rfl, by rw [blk_cell (show (((wr.alloc (.cells #[.int .i64 a.s, .int .i64 a.v, .int .i64 a.t] 46 (0, 0))).drew)).heap[wr.heap.size]? = _ from blk_new wr (.cells #[.int .i64 a.s, .int .i64 a.v, .int .i64 a.t] 46 (0, 0)))]; rfl, by rw [blk_cell (show (((wr.alloc (.cells #[.int .i64 a.s, .int .i64 a.v, .int .i64 a.t] 46 (0, 0))).drew)).heap[wr.heap.size]? = _ from blk_new wr (.cells #[.int .i64 a.s, .int .i64 a.v, .int .i64 a.t] 46 (0, 0)))]; rfl, by rw [blk_cell (show (((wr.alloc (.cells #[.int .i64 a.s, .int .i64 a.v, .int .i64 a.t] 46 (0, 0))).drew)).heap[w.heap.size]? = _ from blk_alloc (blk_below HG.out.1 HBr.out) (.cells #[.int .i64 a.s, .int .i64 a.v, .int .i64 a.t] 46 (0, 0)))]; rfl⟩
              refine wp_region_held_drew (S := fun w' => w'.cell? ⟨wr.heap.size, 0, none⟩ = some (.int .i64 a.s) ∧ w'.cell? ⟨wr.heap.size, 1, none⟩ = some (.int .i64 a.v) ∧ w'.cell? ⟨wr.heap.size, 2, none⟩ = some (.int .i64 a.t) ∧ w'.cell? ⟨w.heap.size, 1, none⟩ = some (.int .i64 a.v)) (by kernel_rfl) k0 (fun hHeld => ?_)
              refine wpAnyH_take (i := 0) (v := (.func (.func 71) #[] #[])) rfl (by kernel_rfl) (by kernel_rfl) (by kernel_rfl) (fun _ _ _ h => h) (Or.inl ⟨by rfl, fun w' hSw => ?_⟩) (by assumption) ?_
              · go_simp
              try simp only [Act.put, List.getElem_toArray, List.getElem_cons_zero, List.getElem_cons_succ, List.setIfInBounds_toArray, List.set_cons_zero, List.set_cons_succ]
              refine wpAnyH_take (i := 1) (v := (slV a)) rfl (by kernel_rfl) (by kernel_rfl) (by kernel_rfl) (fun _ _ _ h => h) (Or.inl ⟨by rfl, fun w' hSw => ?_⟩) (by assumption) ?_
              · obtain ⟨s0, s1, s2, s3⟩ := hSw; go_simp
              try simp only [Act.put, List.getElem_toArray, List.getElem_cons_zero, List.getElem_cons_succ, List.setIfInBounds_toArray, List.set_cons_zero, List.set_cons_succ]
              refine wpAnyH_ready (rs := [2]) (by kernel_rfl) (by simp) ?_
              refine AllReadyH.cons rfl (fun K hK => ?_) AllReadyH.nil
              go_simp
              go_at_call 71
              refine (pending_any a _).mono ?_
              rintro e w4 ⟨rfl, hb4⟩
              simp only [hm, decide_true, decide_false]
              have HB4 := Aside0.mk (below_step (below_drew1 (below_alloc HBr.out (.cells #[.int .i64 a.s, .int .i64 a.v, .int .i64 a.t] 46 (0, 0)))) hb4)
              have HN4 := Aside0.mk (blk_below (show (((wr.alloc (.cells #[.int .i64 a.s, .int .i64 a.v, .int .i64 a.t] 46 (0, 0))).drew)).heap[wr.heap.size]? = _ from blk_new wr (.cells #[.int .i64 a.s, .int .i64 a.v, .int .i64 a.t] 46 (0, 0))) hb4)
              have k4 : w4.cell? ⟨wr.heap.size, 0, none⟩ = some (.int .i64 a.s) ∧ w4.cell? ⟨wr.heap.size, 1, none⟩ = some (.int .i64 a.v) ∧ w4.cell? ⟨wr.heap.size, 2, none⟩ = some (.int .i64 a.t) ∧ w4.cell? ⟨w.heap.size, 1, none⟩ = some (.int .i64 a.v) := ⟨by rw [blk_cell HN4.out]; rfl, by rw [blk_cell HN4.out]; rfl, by rw [blk_cell HN4.out]; rfl, by rw [blk_cell (blk_below HG.out.1 HB4.out)]; rfl⟩
              clear k0 hHeld hb4
              refine hK.out _ _ k4 (fun hHeld => ?_)
              clear hK K
              try simp only [Act.put, List.getElem_toArray, List.getElem_cons_zero, List.getElem_cons_succ, List.setIfInBounds_toArray, List.set_cons_zero, List.set_cons_succ]
              refine wpAnyH_take (i := 3) (v := (.bool true)) rfl (by kernel_rfl) (by kernel_rfl) (by kernel_rfl) (fun _ _ _ h => h) (Or.inl ⟨by rfl, fun w' hSw => ?_⟩) (by assumption) ?_
              · go_simp
              try simp only [Act.put, List.getElem_toArray, List.getElem_cons_zero, List.getElem_cons_succ, List.setIfInBounds_toArray, List.set_cons_zero, List.set_cons_succ]
              refine wpAnyH_take (i := 4) (v := ?_) rfl (by kernel_rfl) (by kernel_rfl) (by kernel_rfl) (fun _ _ _ h => h) (Or.inl ⟨by rfl, ?_⟩) (by assumption) ?_
              rotate_left
              · intro w' hSw; go_simp; with_reducible rfl
              try simp only [Act.put, List.getElem_toArray, List.getElem_cons_zero, List.getElem_cons_succ, List.setIfInBounds_toArray, List.set_cons_zero, List.set_cons_succ]
              refine wpAnyH_take (i := 5) (v := (.int .i64 a.v)) rfl (by kernel_rfl) (by kernel_rfl) (by kernel_rfl) (fun _ _ _ h => h) (Or.inl ⟨by rfl, fun w' hSw => ?_⟩) (by assumption) ?_
              · obtain ⟨s0, s1, s2, s3⟩ := hSw; go_simp
              try simp only [Act.put, List.getElem_toArray, List.getElem_cons_zero, List.getElem_cons_succ, List.setIfInBounds_toArray, List.set_cons_zero, List.set_cons_succ]
              refine wpAnyH_take (i := 6) (v := (.int .i64 f)) rfl (by kernel_rfl) (by kernel_rfl) (by kernel_rfl) (fun _ _ _ h => h) (Or.inl ⟨by rfl, fun w' hSw => ?_⟩) (by assumption) ?_
              · go_simp
              try simp only [Act.put, List.getElem_toArray, List.getElem_cons_zero, List.getElem_cons_succ, List.setIfInBounds_toArray, List.set_cons_zero, List.set_cons_succ]
              refine wpAnyH_take (i := 7) (v := (.bool false)) rfl (by kernel_rfl) (by kernel_rfl) (by kernel_rfl) (fun _ _ _ h => h) (Or.inl ⟨by rfl, fun w' hSw => ?_⟩) (by assumption) ?_
              · go_simp
              try simp only [Act.put, List.getElem_toArray, List.getElem_cons_zero, List.getElem_cons_succ, List.setIfInBounds_toArray, List.set_cons_zero, List.set_cons_succ]
              refine wpAnyH_take (i := 8) (v := (.bool false)) rfl (by kernel_rfl) (by kernel_rfl) (by kernel_rfl) (fun _ _ _ h => h) (Or.inl ⟨by rfl, fun w' hSw => ?_⟩) (by assumption) ?_
              · go_simp
              try simp only [Act.put, List.getElem_toArray, List.getElem_cons_zero, List.getElem_cons_succ, List.setIfInBounds_toArray, List.set_cons_zero, List.set_cons_succ]
              refine wpAnyH_take (i := 9) (v := (.bool false)) rfl (by kernel_rfl) (by kernel_rfl) (by kernel_rfl) (fun _ _ _ h => h) (Or.inl ⟨by rfl, fun w' hSw => ?_⟩) (by assumption) ?_
              · go_simp
              try simp only [Act.put, List.getElem_toArray, List.getElem_cons_zero, List.getElem_cons_succ, List.setIfInBounds_toArray, List.set_cons_zero, List.set_cons_succ]
              refine wpAnyH_take (i := 10) (v := undef) rfl (by kernel_rfl) (by kernel_rfl) (by kernel_rfl) (fun _ _ _ h => h) (Or.inr ⟨by rfl, rfl⟩) (by assumption) ?_
              try simp only [Act.put, List.getElem_toArray, List.getElem_cons_zero, List.getElem_cons_succ, List.setIfInBounds_toArray, List.set_cons_zero, List.set_cons_succ]
              refine wpAnyH_take (i := 11) (v := undef) rfl (by kernel_rfl) (by kernel_rfl) (by kernel_rfl) (fun _ _ _ h => h) (Or.inr ⟨by rfl, rfl⟩) (by assumption) ?_
              try simp only [Act.put, List.getElem_toArray, List.getElem_cons_zero, List.getElem_cons_succ, List.setIfInBounds_toArray, List.set_cons_zero, List.set_cons_succ]
              refine wpAnyH_take (i := 12) (v := undef) rfl (by kernel_rfl) (by kernel_rfl) (by kernel_rfl) (fun _ _ _ h => h) (Or.inr ⟨by rfl, rfl⟩) (by assumption) ?_
              try simp only [Act.put, List.getElem_toArray, List.getElem_cons_zero, List.getElem_cons_succ, List.setIfInBounds_toArray, List.set_cons_zero, List.set_cons_succ]
              refine wpAnyH_take (i := 13) (v := undef) rfl (by kernel_rfl) (by kernel_rfl) (by kernel_rfl) (fun _ _ _ h => h) (Or.inr ⟨by rfl, rfl⟩) (by assumption) ?_
              try simp only [Act.put, List.getElem_toArray, List.getElem_cons_zero, List.getElem_cons_succ, List.setIfInBounds_toArray, List.set_cons_zero, List.set_cons_succ]
              refine wpAnyH_take (i := 14) (v := undef) rfl (by kernel_rfl) (by kernel_rfl) (by kernel_rfl) (fun _ _ _ h => h) (Or.inr ⟨by rfl, rfl⟩) (by assumption) ?_
              try simp only [Act.put, List.getElem_toArray, List.getElem_cons_zero, List.getElem_cons_succ, List.setIfInBounds_toArray, List.set_cons_zero, List.set_cons_succ]
              refine wpAnyH_take (i := 15) (v := undef) rfl (by kernel_rfl) (by kernel_rfl) (by kernel_rfl) (fun _ _ _ h => h) (Or.inr ⟨by rfl, rfl⟩) (by assumption) ?_
              try simp only [Act.put, List.getElem_toArray, List.getElem_cons_zero, List.getElem_cons_succ, List.setIfInBounds_toArray, List.set_cons_zero, List.set_cons_succ]
              refine wpAnyH_take (i := 16) (v := undef) rfl (by kernel_rfl) (by kernel_rfl) (by kernel_rfl) (fun _ _ _ h => h) (Or.inr ⟨by rfl, rfl⟩) (by assumption) ?_
              try simp only [Act.put, List.getElem_toArray, List.getElem_cons_zero, List.getElem_cons_succ, List.setIfInBounds_toArray, List.set_cons_zero, List.set_cons_succ]
              refine wpAnyH_take (i := 17) (v := undef) rfl (by kernel_rfl) (by kernel_rfl) (by kernel_rfl) (fun _ _ _ h => h) (Or.inr ⟨by rfl, rfl⟩) (by assumption) ?_
              try simp only [Act.put, List.getElem_toArray, List.getElem_cons_zero, List.getElem_cons_succ, List.setIfInBounds_toArray, List.set_cons_zero, List.set_cons_succ]
              refine wpAnyH_take (i := 18) (v := undef) rfl (by kernel_rfl) (by kernel_rfl) (by kernel_rfl) (fun _ _ _ h => h) (Or.inr ⟨by rfl, rfl⟩) (by assumption) ?_
              try simp only [Act.put, List.getElem_toArray, List.getElem_cons_zero, List.getElem_cons_succ, List.setIfInBounds_toArray, List.set_cons_zero, List.set_cons_succ]
              refine wpAnyH_take (i := 19) (v := undef) rfl (by kernel_rfl) (by kernel_rfl) (by kernel_rfl) (fun _ _ _ h => h) (Or.inr ⟨by rfl, rfl⟩) (by assumption) ?_
              try simp only [Act.put, List.getElem_toArray, List.getElem_cons_zero, List.getElem_cons_succ, List.setIfInBounds_toArray, List.set_cons_zero, List.set_cons_succ]
              refine wpAnyH_take (i := 20) (v := undef) rfl (by kernel_rfl) (by kernel_rfl) (by kernel_rfl) (fun _ _ _ h => h) (Or.inr ⟨by rfl, rfl⟩) (by assumption) ?_
              try simp only [Act.put, List.getElem_toArray, List.getElem_cons_zero, List.getElem_cons_succ, List.setIfInBounds_toArray, List.set_cons_zero, List.set_cons_succ]
              refine wpAnyH_take (i := 21) (v := undef) rfl (by kernel_rfl) (by kernel_rfl) (by kernel_rfl) (fun _ _ _ h => h) (Or.inr ⟨by rfl, rfl⟩) (by assumption) ?_
              try simp only [Act.put, List.getElem_toArray, List.getElem_cons_zero, List.getElem_cons_succ, List.setIfInBounds_toArray, List.set_cons_zero, List.set_cons_succ]
              refine wpAnyH_take (i := 22) (v := (.bool false)) rfl (by kernel_rfl) (by kernel_rfl) (by kernel_rfl) (fun _ _ _ h => h) (Or.inl ⟨by rfl, fun w' hSw => ?_⟩) (by assumption) ?_
              · go_simp
              try simp only [Act.put, List.getElem_toArray, List.getElem_cons_zero, List.getElem_cons_succ, List.setIfInBounds_toArray, List.set_cons_zero, List.set_cons_succ]
              refine wpAnyH_done (by kernel_rfl) ?_ _
              go_wp2_with fail
              have HE : Aside0 (bst (fun x => decide (pend x)) a b f 1 = -1) := ⟨by have k1 := HM.out; have k2 := HV.out; unfold bst best; simp [HM.out, HV.out] <;> omega⟩
              first
              | exact ⟨⟨1, by go_num, by omega, by rw [HE.out], HB4⟩, by simp [intOf]⟩
              | (refine ⟨?_, ?_⟩
                 · repeat apply Exists.intro
                   refine ⟨?_, ?_⟩
                   rotate_left
                   · repeat' (first | exact rfl | apply And.intro)
                   first | exact ⟨1, by go_num, by omega, by rw [HE.out], HB4⟩ | exact ⟨1, by go_num, by omega, by rw [HE.out]⟩
                 · simp [intOf])
          · have HM := Aside0.mk hm
            have HV := HM
            have k0 : ((wr.alloc (.cells #[.int .i64 a.s, .int .i64 a.v, .int .i64 a.t] 46 (0, 0))).drew).cell? ⟨wr.heap.size, 0, none⟩ = some (.int .i64 a.s) ∧ ((wr.alloc (.cells #[.int .i64 a.s, .int .i64 a.v, .int .i64 a.t] 46 (0, 0))).drew).cell? ⟨wr.heap.size, 1, none⟩ = some (.int .i64 a.v) ∧ ((wr.alloc (.cells #[.int .i64 a.s, .int .i64 a.v, .int .i64 a.t] 46 (0, 0))).drew).cell? ⟨wr.heap.size, 2, none⟩ = some (.int .i64 a.t) ∧ ((wr.alloc (.cells #[.int .i64 a.s, .int .i64 a.v, .int .i64 a.t] 46 (0, 0))).drew).cell? ⟨w.heap.size, 1, none⟩ = some (.int .i64 a.v) := ⟨by rw [blk_cell (show (((wr.alloc (.cells #[.int .i64 a.s, .int .i64 a.v, .int .i64 a.t] 46 (0, 0))).drew)).heap[wr.heap.size]? = _ from blk_new wr (.cells #[.int .i64 a.s, .int .i64 a.v, .int .i64 a.t] 46 (0, 0)))]; rfl, by rw [blk_cell (show (((wr.alloc (.cells #[.int .i64 a.s, .int .i64 a.v, .int .i64 a.t] 46 (0, 0))).drew)).heap[wr.heap.size]? = _ from blk_new wr (.cells #[.int .i64 a.s, .int .i64 a.v, .int .i64 a.t] 46 (0, 0)))]; rfl, by rw [blk_cell (show (((wr.alloc (.cells #[.int .i64 a.s, .int .i64 a.v, .int .i64 a.t] 46 (0, 0))).drew)).heap[wr.heap.size]? = _ from blk_new wr (.cells #[.int .i64 a.s, .int .i64 a.v, .int .i64 a.t] 46 (0, 0)))]; rfl, by rw [blk_cell (show (((wr.alloc (.cells #[.int .i64 a.s, .int .i64 a.v, .int .i64 a.t] 46 (0, 0))).drew)).heap[w.heap.size]? = _ from blk_alloc (blk_below HG.out.1 HBr.out) (.cells #[.int .i64 a.s, .int .i64 a.v, .int .i64 a.t] 46 (0, 0)))]; rfl⟩
            refine wp_region_held_drew (S := fun w' => w'.cell? ⟨wr.heap.size, 0, none⟩ = some (.int .i64 a.s) ∧ w'.cell? ⟨wr.heap.size, 1, none⟩ = some (.int .i64 a.v) ∧ w'.cell? ⟨wr.heap.size, 2, none⟩ = some (.int .i64 a.t) ∧ w'.cell? ⟨w.heap.size, 1, none⟩ = some (.int .i64 a.v)) (by kernel_rfl) k0 (fun hHeld => ?_)
            refine wpAnyH_take (i := 0) (v := (.func (.func 71) #[] #[])) rfl (by kernel_rfl) (by kernel_rfl) (by kernel_rfl) (fun _ _ _ h => h) (Or.inl ⟨by rfl, fun w' hSw => ?_⟩) (by assumption) ?_
            · go_simp
            try simp only [Act.put, List.getElem_toArray, List.getElem_cons_zero, List.getElem_cons_succ, List.setIfInBounds_toArray, List.set_cons_zero, List.set_cons_succ]
            refine wpAnyH_take (i := 1) (v := (slV a)) rfl (by kernel_rfl) (by kernel_rfl) (by kernel_rfl) (fun _ _ _ h => h) (Or.inl ⟨by rfl, fun w' hSw => ?_⟩) (by assumption) ?_
            · obtain ⟨s0, s1, s2, s3⟩ := hSw; go_simp
            try simp only [Act.put, List.getElem_toArray, List.getElem_cons_zero, List.getElem_cons_succ, List.setIfInBounds_toArray, List.set_cons_zero, List.set_cons_succ]
            refine wpAnyH_ready (rs := [2]) (by kernel_rfl) (by simp) ?_
            refine AllReadyH.cons rfl (fun K hK => ?_) AllReadyH.nil
            go_simp
            go_at_call 71
            refine (pending_any a _).mono ?_
            rintro e w4 ⟨rfl, hb4⟩
            simp only [hm, decide_true, decide_false]
            have HB4 := Aside0.mk (below_step (below_drew1 (below_alloc HBr.out (.cells #[.int .i64 a.s, .int .i64 a.v, .int .i64 a.t] 46 (0, 0)))) hb4)
            have HN4 := Aside0.mk (blk_below (show (((wr.alloc (.cells #[.int .i64 a.s, .int .i64 a.v, .int .i64 a.t] 46 (0, 0))).drew)).heap[wr.heap.size]? = _ from blk_new wr (.cells #[.int .i64 a.s, .int .i64 a.v, .int .i64 a.t] 46 (0, 0))) hb4)
            have k4 : w4.cell? ⟨wr.heap.size, 0, none⟩ = some (.int .i64 a.s) ∧ w4.cell? ⟨wr.heap.size, 1, none⟩ = some (.int .i64 a.v) ∧ w4.cell? ⟨wr.heap.size, 2, none⟩ = some (.int .i64 a.t) ∧ w4.cell? ⟨w.heap.size, 1, none⟩ = some (.int .i64 a.v) := ⟨by rw [blk_cell HN4.out]; rfl, by rw [blk_cell HN4.out]; rfl, by rw [blk_cell HN4.out]; rfl, by rw [blk_cell (blk_below HG.out.1 HB4.out)]; rfl⟩
            clear k0 hHeld hb4
            refine hK.out _ _ k4 (fun hHeld => ?_)
            clear hK K
            try simp only [Act.put, List.getElem_toArray, List.getElem_cons_zero, List.getElem_cons_succ, List.setIfInBounds_toArray, List.set_cons_zero, List.set_cons_succ]
            refine wpAnyH_take (i := 3) (v := (.bool false)) rfl (by kernel_rfl) (by kernel_rfl) (by kernel_rfl) (fun _ _ _ h => h) (Or.inl ⟨by rfl, fun w' hSw => ?_⟩) (by assumption) ?_
            · go_simp
            try simp only [Act.put, List.getElem_toArray, List.getElem_cons_zero, List.getElem_cons_succ, List.setIfInBounds_toArray, List.set_cons_zero, List.set_cons_succ]
            refine wpAnyH_take (i := 4) (v := undef) rfl (by kernel_rfl) (by kernel_rfl) (by kernel_rfl) (fun _ _ _ h => h) (Or.inr ⟨by rfl, rfl⟩) (by assumption) ?_
            try simp only [Act.put, List.getElem_toArray, List.getElem_cons_zero, List.getElem_cons_succ, List.setIfInBounds_toArray, List.set_cons_zero, List.set_cons_succ]
            refine wpAnyH_take (i := 5) (v := undef) rfl (by kernel_rfl) (by kernel_rfl) (by kernel_rfl) (fun _ _ _ h => h) (Or.inr ⟨by rfl, rfl⟩) (by assumption) ?_
            try simp only [Act.put, List.getElem_toArray, List.getElem_cons_zero, List.getElem_cons_succ, List.setIfInBounds_toArray, List.set_cons_zero, List.set_cons_succ]
            refine wpAnyH_take (i := 6) (v := undef) rfl (by kernel_rfl) (by kernel_rfl) (by kernel_rfl) (fun _ _ _ h => h) (Or.inr ⟨by rfl, rfl⟩) (by assumption) ?_
            try simp only [Act.put, List.getElem_toArray, List.getElem_cons_zero, List.getElem_cons_succ, List.setIfInBounds_toArray, List.set_cons_zero, List.set_cons_succ]
            refine wpAnyH_take (i := 7) (v := undef) rfl (by kernel_rfl) (by kernel_rfl) (by kernel_rfl) (fun _ _ _ h => h) (Or.inr ⟨by rfl, rfl⟩) (by assumption) ?_
            try simp only [Act.put, List.getElem_toArray, List.getElem_cons_zero, List.getElem_cons_succ, List.setIfInBounds_toArray, List.set_cons_zero, List.set_cons_succ]
            refine wpAnyH_take (i := 8) (v := (.bool false)) rfl (by kernel_rfl) (by kernel_rfl) (by kernel_rfl) (fun _ _ _ h => h) (Or.inl ⟨by rfl, fun w' hSw => ?_⟩) (by assumption) ?_
            · go_simp
            try simp only [Act.put, List.getElem_toArray, List.getElem_cons_zero, List.getElem_cons_succ, List.setIfInBounds_toArray, List.set_cons_zero, List.set_cons_succ]
            refine wpAnyH_take (i := 9) (v := (.bool false)) rfl (by kernel_rfl) (by kernel_rfl) (by kernel_rfl) (fun _ _ _ h => h) (Or.inl ⟨by rfl, fun w' hSw => ?_⟩) (by assumption) ?_
            · go_simp
            try simp only [Act.put, List.getElem_toArray, List.getElem_cons_zero, List.getElem_cons_succ, List.setIfInBounds_toArray, List.set_cons_zero, List.set_cons_succ]
            refine wpAnyH_take (i := 10) (v := undef) rfl (by kernel_rfl) (by kernel_rfl) (by kernel_rfl) (fun _ _ _ h => h) (Or.inr ⟨by rfl, rfl⟩) (by assumption) ?_
            try simp only [Act.put, List.getElem_toArray, List.getElem_cons_zero, List.getElem_cons_succ, List.setIfInBounds_toArray, List.set_cons_zero, List.set_cons_succ]
            refine wpAnyH_take (i := 11) (v := undef) rfl (by kernel_rfl) (by kernel_rfl) (by kernel_rfl) (fun _ _ _ h => h) (Or.inr ⟨by rfl, rfl⟩) (by assumption) ?_
            try simp only [Act.put, List.getElem_toArray, List.getElem_cons_zero, List.getElem_cons_succ, List.setIfInBounds_toArray, List.set_cons_zero, List.set_cons_succ]
            refine wpAnyH_take (i := 12) (v := undef) rfl (by kernel_rfl) (by kernel_rfl) (by kernel_rfl) (fun _ _ _ h => h) (Or.inr ⟨by rfl, rfl⟩) (by assumption) ?_
            try simp only [Act.put, List.getElem_toArray, List.getElem_cons_zero, List.getElem_cons_succ, List.setIfInBounds_toArray, List.set_cons_zero, List.set_cons_succ]
            refine wpAnyH_take (i := 13) (v := undef) rfl (by kernel_rfl) (by kernel_rfl) (by kernel_rfl) (fun _ _ _ h => h) (Or.inr ⟨by rfl, rfl⟩) (by assumption) ?_
            try simp only [Act.put, List.getElem_toArray, List.getElem_cons_zero, List.getElem_cons_succ, List.setIfInBounds_toArray, List.set_cons_zero, List.set_cons_succ]
            refine wpAnyH_take (i := 14) (v := undef) rfl (by kernel_rfl) (by kernel_rfl) (by kernel_rfl) (fun _ _ _ h => h) (Or.inr ⟨by rfl, rfl⟩) (by assumption) ?_
            try simp only [Act.put, List.getElem_toArray, List.getElem_cons_zero, List.getElem_cons_succ, List.setIfInBounds_toArray, List.set_cons_zero, List.set_cons_succ]
            refine wpAnyH_take (i := 15) (v := undef) rfl (by kernel_rfl) (by kernel_rfl) (by kernel_rfl) (fun _ _ _ h => h) (Or.inr ⟨by rfl, rfl⟩) (by assumption) ?_
            try simp only [Act.put, List.getElem_toArray, List.getElem_cons_zero, List.getElem_cons_succ, List.setIfInBounds_toArray, List.set_cons_zero, List.set_cons_succ]
            refine wpAnyH_take (i := 16) (v := undef) rfl (by kernel_rfl) (by kernel_rfl) (by kernel_rfl) (fun _ _ _ h => h) (Or.inr ⟨by rfl, rfl⟩) (by assumption) ?_
            try simp only [Act.put, List.getElem_toArray, List.getElem_cons_zero, List.getElem_cons_succ, List.setIfInBounds_toArray, List.set_cons_zero, List.set_cons_succ]
            refine wpAnyH_take (i := 17) (v := undef) rfl (by kernel_rfl) (by kernel_rfl) (by kernel_rfl) (fun _ _ _ h => h) (Or.inr ⟨by rfl, rfl⟩) (by assumption) ?_
            try simp only [Act.put, List.getElem_toArray, List.getElem_cons_zero, List.getElem_cons_succ, List.setIfInBounds_toArray, List.set_cons_zero, List.set_cons_succ]
            refine wpAnyH_take (i := 18) (v := undef) rfl (by kernel_rfl) (by kernel_rfl) (by kernel_rfl) (fun _ _ _ h => h) (Or.inr ⟨by rfl, rfl⟩) (by assumption) ?_
            try simp only [Act.put, List.getElem_toArray, List.getElem_cons_zero, List.getElem_cons_succ, List.setIfInBounds_toArray, List.set_cons_zero, List.set_cons_succ]
            refine wpAnyH_take (i := 19) (v := undef) rfl (by kernel_rfl) (by kernel_rfl) (by kernel_rfl) (fun _ _ _ h => h) (Or.inr ⟨by rfl, rfl⟩) (by assumption) ?_
            try simp only [Act.put, List.getElem_toArray, List.getElem_cons_zero, List.getElem_cons_succ, List.setIfInBounds_toArray, List.set_cons_zero, List.set_cons_succ]
            refine wpAnyH_take (i := 20) (v := undef) rfl (by kernel_rfl) (by kernel_rfl) (by kernel_rfl) (fun _ _ _ h => h) (Or.inr ⟨by rfl, rfl⟩) (by assumption) ?_
            try simp only [Act.put, List.getElem_toArray, List.getElem_cons_zero, List.getElem_cons_succ, List.setIfInBounds_toArray, List.set_cons_zero, List.set_cons_succ]
            refine wpAnyH_take (i := 21) (v := undef) rfl (by kernel_rfl) (by kernel_rfl) (by kernel_rfl) (fun _ _ _ h => h) (Or.inr ⟨by rfl, rfl⟩) (by assumption) ?_
            try simp only [Act.put, List.getElem_toArray, List.getElem_cons_zero, List.getElem_cons_succ, List.setIfInBounds_toArray, List.set_cons_zero, List.set_cons_succ]
            refine wpAnyH_take (i := 22) (v := (.bool false)) rfl (by kernel_rfl) (by kernel_rfl) (by kernel_rfl) (fun _ _ _ h => h) (Or.inl ⟨by rfl, fun w' hSw => ?_⟩) (by assumption) ?_
            · go_simp
            try simp only [Act.put, List.getElem_toArray, List.getElem_cons_zero, List.getElem_cons_succ, List.setIfInBounds_toArray, List.set_cons_zero, List.set_cons_succ]
            refine wpAnyH_done (by kernel_rfl) ?_ _
            go_wp2_with fail
            have HE : Aside0 (bst (fun x => decide (pend x)) a b f 1 = -1) := ⟨by have k1 := HM.out; have k2 := HV.out; unfold bst best; simp [HM.out, HV.out] <;> omega⟩
            first
            | exact ⟨⟨1, by go_num, by omega, by rw [HE.out], HB4⟩, by simp [intOf]⟩
            | (refine ⟨?_, ?_⟩
               · repeat apply Exists.intro
                 refine ⟨?_, ?_⟩
                 rotate_left
                 · repeat' (first | exact rfl | apply And.intro)
                 first | exact ⟨1, by go_num, by omega, by rw [HE.out], HB4⟩ | exact ⟨1, by go_num, by omega, by rw [HE.out]⟩
               · simp [intOf])
        · by_cases hw : pend a ∧ f ≤ a.v
          · have HW := Aside0.mk hw
            have hb1 : bst (fun x => decide (pend x)) a b f 1 = 0 := by unfold bst; simp [hw]
            rw [hb1]
            clear hb1 hw
            go_wp2_with fail
            by_cases hm : pend b
            · have HM := Aside0.mk hm
              by_cases hv : f ≤ b.v
              · have HV := Aside0.mk hv
                have hd : decide (f ≤ b.v) = true := decide_eq_true hv
                by_cases hg : a.v < b.v
                · have HT := Aside0.mk hg
                  have hd2 : decide (a.v < b.v) = true := decide_eq_true hg
                  have k0 : ((wr.alloc (.cells #[.int .i64 b.s, .int .i64 b.v, .int .i64 b.t] 46 (0, 0))).drew).cell? ⟨wr.heap.size, 0, none⟩ = some (.int .i64 b.s) ∧ ((wr.alloc (.cells #[.int .i64 b.s, .int .i64 b.v, .int .i64 b.t] 46 (0, 0))).drew).cell? ⟨wr.heap.size, 1, none⟩ = some (.int .i64 b.v) ∧ ((wr.alloc (.cells #[.int .i64 b.s, .int .i64 b.v, .int .i64 b.t] 46 (0, 0))).drew).cell? ⟨wr.heap.size, 2, none⟩ = some (.int .i64 b.t) ∧ ((wr.alloc (.cells #[.int .i64 b.s, .int .i64 b.v, .int .i64 b.t] 46 (0, 0))).drew).cell? ⟨w.heap.size, 1, none⟩ = some (.int .i64 a.v) := ⟨by rw [blk_cell (show (((wr.alloc (.cells #[.int .i64 b.s, .int .i64 b.v, .int .i64 b.t] 46 (0, 0))).drew)).heap[wr.heap.size]? = _ from blk_new wr (.cells #[.int .i64 b.s, .int .i64 b.v, .int .i64 b.t] 46 (0, 0)))]; rfl, by rw [blk_cell (show (((wr.alloc (.cells #[.int .i64 b.s, .int .i64 b.v, .int .i64 b.t] 46 (0, 0))).drew)).heap[wr.heap.size]? = _ from blk_new wr (.cells #[.int .i64 b.s, .int .i64 b.v, .int .i64 b.t] 46 (0, 0)))]; rfl, by rw [blk_cell (show (((wr.alloc (.cells #[.int .i64 b.s, .int .i64 b.v, .int .i64 b.t] 46 (0, 0))).drew)).heap[wr.heap.size]? = _ from blk_new wr (.cells #[.int .i64 b.s, .int .i64 b.v, .int .i64 b.t] 46 (0, 0)))]; rfl, by rw [blk_cell (show (((wr.alloc (.cells #[.int .i64 b.s, .int .i64 b.v, .int .i64 b.t] 46 (0, 0))).drew)).heap[w.heap.size]? = _ from blk_alloc (blk_below HG.out.1 HBr.out) (.cells #[.int .i64 b.s, .int .i64 b.v, .int .i64 b.t] 46 (0, 0)))]; rfl⟩
                  refine wp_region_held_drew (S := fun w' => w'.cell? ⟨wr.heap.size, 0, none⟩ = some (.int .i64 b.s) ∧ w'.cell? ⟨wr.heap.size, 1, none⟩ = some (.int .i64 b.v) ∧ w'.cell? ⟨wr.heap.size, 2, none⟩ = some (.int .i64 b.t) ∧ w'.cell? ⟨w.heap.size, 1, none⟩ = some (.int .i64 a.v)) (by kernel_rfl) k0 (fun hHeld => ?_)
                  refine wpAnyH_take (i := 0) (v := (.func (.func 71) #[] #[])) rfl (by kernel_rfl) (by kernel_rfl) (by kernel_rfl) (fun _ _ _ h => h) (Or.inl ⟨by rfl, fun w' hSw => ?_⟩) (by assumption) ?_
                  · go_simp
                  try simp only [Act.put, List.getElem_toArray, List.getElem_cons_zero, List.getElem_cons_succ, List.setIfInBounds_toArray, List.set_cons_zero, List.set_cons_succ]
                  refine wpAnyH_take (i := 1) (v := (slV b)) rfl (by kernel_rfl) (by kernel_rfl) (by kernel_rfl) (fun _ _ _ h => h) (Or.inl ⟨by rfl, fun w' hSw => ?_⟩) (by assumption) ?_
                  · obtain ⟨s0, s1, s2, s3⟩ := hSw; go_simp
                  try simp only [Act.put, List.getElem_toArray, List.getElem_cons_zero, List.getElem_cons_succ, List.setIfInBounds_toArray, List.set_cons_zero, List.set_cons_succ]
                  refine wpAnyH_ready (rs := [2]) (by kernel_rfl) (by simp) ?_
                  refine AllReadyH.cons rfl (fun K hK => ?_) AllReadyH.nil
                  go_simp
                  go_at_call 71
                  refine (pending_any b _).mono ?_
                  rintro e w4 ⟨rfl, hb4⟩
                  simp only [hm, decide_true, decide_false]
                  have HB4 := Aside0.mk (below_step (below_drew1 (below_alloc HBr.out (.cells #[.int .i64 b.s, .int .i64 b.v, .int .i64 b.t] 46 (0, 0)))) hb4)
                  have HN4 := Aside0.mk (blk_below (show (((wr.alloc (.cells #[.int .i64 b.s, .int .i64 b.v, .int .i64 b.t] 46 (0, 0))).drew)).heap[wr.heap.size]? = _ from blk_new wr (.cells #[.int .i64 b.s, .int .i64 b.v, .int .i64 b.t] 46 (0, 0))) hb4)
                  have k4 : w4.cell? ⟨wr.heap.size, 0, none⟩ = some (.int .i64 b.s) ∧ w4.cell? ⟨wr.heap.size, 1, none⟩ = some (.int .i64 b.v) ∧ w4.cell? ⟨wr.heap.size, 2, none⟩ = some (.int .i64 b.t) ∧ w4.cell? ⟨w.heap.size, 1, none⟩ = some (.int .i64 a.v) := ⟨by rw [blk_cell HN4.out]; rfl, by rw [blk_cell HN4.out]; rfl, by rw [blk_cell HN4.out]; rfl, by rw [blk_cell (blk_below HG.out.1 HB4.out)]; rfl⟩
                  clear k0 hHeld hb4
                  refine hK.out _ _ k4 (fun hHeld => ?_)
                  clear hK K
                  try simp only [Act.put, List.getElem_toArray, List.getElem_cons_zero, List.getElem_cons_succ, List.setIfInBounds_toArray, List.set_cons_zero, List.set_cons_succ]
                  refine wpAnyH_take (i := 3) (v := (.bool true)) rfl (by kernel_rfl) (by kernel_rfl) (by kernel_rfl) (fun _ _ _ h => h) (Or.inl ⟨by rfl, fun w' hSw => ?_⟩) (by assumption) ?_
                  · go_simp
                  try simp only [Act.put, List.getElem_toArray, List.getElem_cons_zero, List.getElem_cons_succ, List.setIfInBounds_toArray, List.set_cons_zero, List.set_cons_succ]
                  refine wpAnyH_take (i := 4) (v := ?_) rfl (by kernel_rfl) (by kernel_rfl) (by kernel_rfl) (fun _ _ _ h => h) (Or.inl ⟨by rfl, ?_⟩) (by assumption) ?_
                  rotate_left
                  · intro w' hSw; go_simp; with_reducible rfl
                  try simp only [Act.put, List.getElem_toArray, List.getElem_cons_zero, List.getElem_cons_succ, List.setIfInBounds_toArray, List.set_cons_zero, List.set_cons_succ]
                  refine wpAnyH_take (i := 5) (v := (.int .i64 b.v)) rfl (by kernel_rfl) (by kernel_rfl) (by kernel_rfl) (fun _ _ _ h => h) (Or.inl ⟨by rfl, fun w' hSw => ?_⟩) (by assumption) ?_
                  · obtain ⟨s0, s1, s2, s3⟩ := hSw; go_simp
                  try simp only [Act.put, List.getElem_toArray, List.getElem_cons_zero, List.getElem_cons_succ, List.setIfInBounds_toArray, List.set_cons_zero, List.set_cons_succ]
                  refine wpAnyH_take (i := 6) (v := (.int .i64 f)) rfl (by kernel_rfl) (by kernel_rfl) (by kernel_rfl) (fun _ _ _ h => h) (Or.inl ⟨by rfl, fun w' hSw => ?_⟩) (by assumption) ?_
                  · go_simp
                  try simp only [Act.put, List.getElem_toArray, List.getElem_cons_zero, List.getElem_cons_succ, List.setIfInBounds_toArray, List.set_cons_zero, List.set_cons_succ]
                  refine wpAnyH_take (i := 7) (v := (.bool true)) rfl (by kernel_rfl) (by kernel_rfl) (by kernel_rfl) (fun _ _ _ h => h) (Or.inl ⟨by rfl, fun w' hSw => ?_⟩) (by assumption) ?_
                  · go_simp
                  try simp only [Act.put, List.getElem_toArray, List.getElem_cons_zero, List.getElem_cons_succ, List.setIfInBounds_toArray, List.set_cons_zero, List.set_cons_succ]
                  refine wpAnyH_take (i := 8) (v := (.bool true)) rfl (by kernel_rfl) (by kernel_rfl) (by kernel_rfl) (fun _ _ _ h => h) (Or.inl ⟨by rfl, fun w' hSw => ?_⟩) (by assumption) ?_
                  · go_simp
                  try simp only [Act.put, List.getElem_toArray, List.getElem_cons_zero, List.getElem_cons_succ, List.setIfInBounds_toArray, List.set_cons_zero, List.set_cons_succ]
                  refine wpAnyH_take (i := 9) (v := (.bool true)) rfl (by kernel_rfl) (by kernel_rfl) (by kernel_rfl) (fun _ _ _ h => h) (Or.inl ⟨by rfl, fun w' hSw => ?_⟩) (by assumption) ?_
                  · go_simp
                  try simp only [Act.put, List.getElem_toArray, List.getElem_cons_zero, List.getElem_cons_succ, List.setIfInBounds_toArray, List.set_cons_zero, List.set_cons_succ]
                  refine wpAnyH_take (i := 10) (v := (.int .i64 (0))) rfl (by kernel_rfl) (by kernel_rfl) (by kernel_rfl) (fun _ _ _ h => h) (Or.inl ⟨by rfl, fun w' hSw => ?_⟩) (by assumption) ?_
                  · go_simp
                  try simp only [Act.put, List.getElem_toArray, List.getElem_cons_zero, List.getElem_cons_succ, List.setIfInBounds_toArray, List.set_cons_zero, List.set_cons_succ]
                  refine wpAnyH_take (i := 11) (v := (.bool false)) rfl (by kernel_rfl) (by kernel_rfl) (by kernel_rfl) (fun _ _ _ h => h) (Or.inl ⟨by rfl, fun w' hSw => ?_⟩) (by assumption) ?_
                  · go_simp
                  try simp only [Act.put, List.getElem_toArray, List.getElem_cons_zero, List.getElem_cons_succ, List.setIfInBounds_toArray, List.set_cons_zero, List.set_cons_succ]
                  refine wpAnyH_take (i := 12) (v := (.bool false)) rfl (by kernel_rfl) (by kernel_rfl) (by kernel_rfl) (fun _ _ _ h => h) (Or.inl ⟨by rfl, fun w' hSw => ?_⟩) (by assumption) ?_
                  · go_simp
                  try simp only [Act.put, List.getElem_toArray, List.getElem_cons_zero, List.getElem_cons_succ, List.setIfInBounds_toArray, List.set_cons_zero, List.set_cons_succ]
                  refine wpAnyH_take (i := 13) (v := ?_) rfl (by kernel_rfl) (by kernel_rfl) (by kernel_rfl) (fun _ _ _ h => h) (Or.inl ⟨by rfl, ?_⟩) (by assumption) ?_
                  rotate_left
                  · intro w' hSw; go_simp; with_reducible rfl
                  try simp only [Act.put, List.getElem_toArray, List.getElem_cons_zero, List.getElem_cons_succ, List.setIfInBounds_toArray, List.set_cons_zero, List.set_cons_succ]
                  refine wpAnyH_take (i := 14) (v := (.int .i64 b.v)) rfl (by kernel_rfl) (by kernel_rfl) (by kernel_rfl) (fun _ _ _ h => h) (Or.inl ⟨by rfl, fun w' hSw => ?_⟩) (by assumption) ?_
                  · obtain ⟨s0, s1, s2, s3⟩ := hSw; go_simp
                  try simp only [Act.put, List.getElem_toArray, List.getElem_cons_zero, List.getElem_cons_succ, List.setIfInBounds_toArray, List.set_cons_zero, List.set_cons_succ]
                  refine wpAnyH_take (i := 15) (v := (.int .i64 (0))) rfl (by kernel_rfl) (by kernel_rfl) (by kernel_rfl) (fun _ _ _ h => h) (Or.inl ⟨by rfl, fun w' hSw => ?_⟩) (by assumption) ?_
                  · go_simp
                  try simp only [Act.put, List.getElem_toArray, List.getElem_cons_zero, List.getElem_cons_succ, List.setIfInBounds_toArray, List.set_cons_zero, List.set_cons_succ]
                  refine wpAnyH_take (i := 16) (v := ?_) rfl (by kernel_rfl) (by kernel_rfl) (by kernel_rfl) (fun _ _ _ h => h) (Or.inl ⟨by rfl, ?_⟩) (by assumption) ?_
                  rotate_left
                  · intro w' hSw; go_simp; with_reducible rfl
                  try simp only [Act.put, List.getElem_toArray, List.getElem_cons_zero, List.getElem_cons_succ, List.setIfInBounds_toArray, List.set_cons_zero, List.set_cons_succ]
                  refine wpAnyH_take (i := 17) (v := ?_) rfl (by kernel_rfl) (by kernel_rfl) (by kernel_rfl) (fun _ _ _ h => h) (Or.inl ⟨by rfl, ?_⟩) (by assumption) ?_
                  rotate_left
                  · intro w' hSw; go_simp; with_reducible rfl
                  try simp only [Act.put, List.getElem_toArray, List.getElem_cons_zero, List.getElem_cons_succ, List.setIfInBounds_toArray, List.set_cons_zero, List.set_cons_succ]
                  refine wpAnyH_take (i := 18) (v := ?_) rfl (by kernel_rfl) (by kernel_rfl) (by kernel_rfl) (fun _ _ _ h => h) (Or.inl ⟨by rfl, ?_⟩) (by assumption) ?_
                  rotate_left
                  · intro w' hSw; go_simp; with_reducible rfl
                  try simp only [Act.put, List.getElem_toArray, List.getElem_cons_zero, List.getElem_cons_succ, List.setIfInBounds_toArray, List.set_cons_zero, List.set_cons_succ]
                  refine wpAnyH_take (i := 19) (v := (.int .i64 a.v)) rfl (by kernel_rfl) (by kernel_rfl) (by kernel_rfl) (fun _ _ _ h => h) (Or.inl ⟨by rfl, fun w' hSw => ?_⟩) (by assumption) ?_
                  · obtain ⟨s0, s1, s2, s3⟩ := hSw; go_simp
                  try simp only [Act.put, List.getElem_toArray, List.getElem_cons_zero, List.getElem_cons_succ, List.setIfInBounds_toArray, List.set_cons_zero, List.set_cons_succ]
                  refine wpAnyH_take (i := 20) (v := (.bool true)) rfl (by kernel_rfl) (by kernel_rfl) (by kernel_rfl) (fun _ _ _ h => h) (Or.inl ⟨by rfl, fun w' hSw => ?_⟩) (by assumption) ?_
                  · go_simp
                  try simp only [Act.put, List.getElem_toArray, List.getElem_cons_zero, List.getElem_cons_succ, List.setIfInBounds_toArray, List.set_cons_zero, List.set_cons_succ]
                  refine wpAnyH_take (i := 21) (v := (.bool true)) rfl (by kernel_rfl) (by kernel_rfl) (by kernel_rfl) (fun _ _ _ h => h) (Or.inl ⟨by rfl, fun w' hSw => ?_⟩) (by assumption) ?_
                  · go_simp
                  try simp only [Act.put, List.getElem_toArray, List.getElem_cons_zero, List.getElem_cons_succ, List.setIfInBounds_toArray, List.set_cons_zero, List.set_cons_succ]
                  refine wpAnyH_take (i := 22) (v := (.bool true)) rfl (by kernel_rfl) (by kernel_rfl) (by kernel_rfl) (fun _ _ _ h => h) (Or.inl ⟨by rfl, fun w' hSw => ?_⟩) (by assumption) ?_
                  · go_simp
                  try simp only [Act.put, List.getElem_toArray, List.getElem_cons_zero, List.getElem_cons_succ, List.setIfInBounds_toArray, List.set_cons_zero, List.set_cons_succ]
                  refine wpAnyH_done (by kernel_rfl) ?_ _
                  go_wp2_with fail
                  have HE : Aside0 (bst (fun x => decide (pend x)) a b f 2 = 1) := ⟨by have k1 := HM.out; have k2 := HV.out; have k3 := HT.out; unfold bst best; simp [HW.out, HM.out, HV.out, HT.out] <;> omega⟩
                  first
                  | exact ⟨⟨2, by go_num, by omega, by rw [HE.out], HB4⟩, by simp [intOf]⟩
                  | (refine ⟨?_, ?_⟩
                     · repeat apply Exists.intro
                       refine ⟨?_, ?_⟩
                       rotate_left
                       · repeat' (first | exact rfl | apply And.intro)
                       first | exact ⟨2, by go_num, by omega, by rw [HE.out], HB4⟩ | exact ⟨2, by go_num, by omega, by rw [HE.out]⟩
                     · simp [intOf])
                · have HT := Aside0.mk hg
                  have hd2 : decide (a.v < b.v) = false := decide_eq_false hg
                  have k0 : ((wr.alloc (.cells #[.int .i64 b.s, .int .i64 b.v, .int .i64 b.t] 46 (0, 0))).drew).cell? ⟨wr.heap.size, 0, none⟩ = some (.int .i64 b.s) ∧ ((wr.alloc (.cells #[.int .i64 b.s, .int .i64 b.v, .int .i64 b.t] 46 (0, 0))).drew).cell? ⟨wr.heap.size, 1, none⟩ = some (.int .i64 b.v) ∧ ((wr.alloc (.cells #[.int .i64 b.s, .int .i64 b.v, .int .i64 b.t] 46 (0, 0))).drew).cell? ⟨wr.heap.size, 2, none⟩ = some (.int .i64 b.t) ∧ ((wr.alloc (.cells #[.int .i64 b.s, .int .i64 b.v, .int .i64 b.t] 46 (0, 0))).drew).cell? ⟨w.heap.size, 1, none⟩ = some (.int .i64 a.v) := ⟨by rw [blk_cell (show (((wr.alloc (.cells #[.int .i64 b.s, .int .i64 b.v, .int .i64 b.t] 46 (0, 0))).drew)).heap[wr.heap.size]? = _ from blk_new wr (.cells #[.int .i64 b.s, .int .i64 b.v, .int .i64 b.t] 46 (0, 0)))]; rfl, by rw [blk_cell (show (((wr.alloc (.cells #[.int .i64 b.s, .int .i64 b.v, .int .i64 b.t] 46 (0, 0))).drew)).heap[wr.heap.size]? = _ from blk_new wr (.cells #[.int .i64 b.s, .int .i64 b.v, .int .i64 b.t] 46 (0, 0)))]; rfl, by rw [blk_cell (show (((wr.alloc (.cells #[.int .i64 b.s, .int .i64 b.v, .int .i64 b.t] 46 (0, 0))).drew)).heap[wr.heap.size]? = _ from blk_new wr (.cells #[.int .i64 b.s, .int .i64 b.v, .int .i64 b.t] 46 (0, 0)))]; rfl, by rw [blk_cell (show (((wr.alloc (.cells #[.int .i64 b.s, .int .i64 b.v, .int .i64 b.t] 46 (0, 0))).drew)).heap[w.heap.size]? = _ from blk_alloc (blk_below HG.out.1 HBr.out) (.cells #[.int .i64 b.s, .int .i64 b.v, .int .i64 b.t] 46 (0, 0)))]; rfl⟩
                  refine wp_region_held_drew (S := fun w' => w'.cell? ⟨wr.heap.size, 0, none⟩ = some (.int .i64 b.s) ∧ w'.cell? ⟨wr.heap.size, 1, none⟩ = some (.int .i64 b.v) ∧ w'.cell? ⟨wr.heap.size, 2, none⟩ = some (.int .i64 b.t) ∧ w'.cell? ⟨w.heap.size, 1, none⟩ = some (.int .i64 a.v)) (by kernel_rfl) k0 (fun hHeld => ?_)
                  refine wpAnyH_take (i := 0) (v := (.func (.func 71) #[] #[])) rfl (by kernel_rfl) (by kernel_rfl) (by kernel_rfl) (fun _ _ _ h => h) (Or.inl ⟨by rfl, fun w' hSw => ?_⟩) (by assumption) ?_
                  · go_simp
                  try simp only [Act.put, List.getElem_toArray, List.getElem_cons_zero, List.getElem_cons_succ, List.setIfInBounds_toArray, List.set_cons_zero, List.set_cons_succ]
                  refine wpAnyH_take (i := 1) (v := (slV b)) rfl (by kernel_rfl) (by kernel_rfl) (by kernel_rfl) (fun _ _ _ h => h) (Or.inl ⟨by rfl, fun w' hSw => ?_⟩) (by assumption) ?_
                  · obtain ⟨s0, s1, s2, s3⟩ := hSw; go_simp
                  try simp only [Act.put, List.getElem_toArray, List.getElem_cons_zero, List.getElem_cons_succ, List.setIfInBounds_toArray, List.set_cons_zero, List.set_cons_succ]
                  refine wpAnyH_ready (rs := [2]) (by kernel_rfl) (by simp) ?_
                  refine AllReadyH.cons rfl (fun K hK => ?_) AllReadyH.nil
                  go_simp
                  go_at_call 71
                  refine (pending_any b _).mono ?_
                  rintro e w4 ⟨rfl, hb4⟩
                  simp only [hm, decide_true, decide_false]
                  have HB4 := Aside0.mk (below_step (below_drew1 (below_alloc HBr.out (.cells #[.int .i64 b.s, .int .i64 b.v, .int .i64 b.t] 46 (0, 0)))) hb4)
                  have HN4 := Aside0.mk (blk_below (show (((wr.alloc (.cells #[.int .i64 b.s, .int .i64 b.v, .int .i64 b.t] 46 (0, 0))).drew)).heap[wr.heap.size]? = _ from blk_new wr (.cells #[.int .i64 b.s, .int .i64 b.v, .int .i64 b.t] 46 (0, 0))) hb4)
                  have k4 : w4.cell? ⟨wr.heap.size, 0, none⟩ = some (.int .i64 b.s) ∧ w4.cell? ⟨wr.heap.size, 1, none⟩ = some (.int .i64 b.v) ∧ w4.cell? ⟨wr.heap.size, 2, none⟩ = some (.int .i64 b.t) ∧ w4.cell? ⟨w.heap.size, 1, none⟩ = some (.int .i64 a.v) := ⟨by rw [blk_cell HN4.out]; rfl, by rw [blk_cell HN4.out]; rfl, by rw [blk_cell HN4.out]; rfl, by rw [blk_cell (blk_below HG.out.1 HB4.out)]; rfl⟩
                  clear k0 hHeld hb4
                  refine hK.out _ _ k4 (fun hHeld => ?_)
                  clear hK K
                  try simp only [Act.put, List.getElem_toArray, List.getElem_cons_zero, List.getElem_cons_succ, List.setIfInBounds_toArray, List.set_cons_zero, List.set_cons_succ]
                  refine wpAnyH_take (i := 3) (v := (.bool true)) rfl (by kernel_rfl) (by kernel_rfl) (by kernel_rfl) (fun _ _ _ h => h) (Or.inl ⟨by rfl, fun w' hSw => ?_⟩) (by assumption) ?_
                  · go_simp
                  try simp only [Act.put, List.getElem_toArray, List.getElem_cons_zero, List.getElem_cons_succ, List.setIfInBounds_toArray, List.set_cons_zero, List.set_cons_succ]
                  refine wpAnyH_take (i := 4) (v := ?_) rfl (by kernel_rfl) (by kernel_rfl) (by kernel_rfl) (fun _ _ _ h => h) (Or.inl ⟨by rfl, ?_⟩) (by assumption) ?_
                  rotate_left
                  · intro w' hSw; go_simp; with_reducible rfl
                  try simp only [Act.put, List.getElem_toArray, List.getElem_cons_zero, List.getElem_cons_succ, List.setIfInBounds_toArray, List.set_cons_zero, List.set_cons_succ]
                  refine wpAnyH_take (i := 5) (v := (.int .i64 b.v)) rfl (by kernel_rfl) (by kernel_rfl) (by kernel_rfl) (fun _ _ _ h => h) (Or.inl ⟨by rfl, fun w' hSw => ?_⟩) (by assumption) ?_
                  · obtain ⟨s0, s1, s2, s3⟩ := hSw; go_simp
                  try simp only [Act.put, List.getElem_toArray, List.getElem_cons_zero, List.getElem_cons_succ, List.setIfInBounds_toArray, List.set_cons_zero, List.set_cons_succ]
                  refine wpAnyH_take (i := 6) (v := (.int .i64 f)) rfl (by kernel_rfl) (by kernel_rfl) (by kernel_rfl) (fun _ _ _ h => h) (Or.inl ⟨by rfl, fun w' hSw => ?_⟩) (by assumption) ?_
                  · go_simp
                  try simp only [Act.put, List.getElem_toArray, List.getElem_cons_zero, List.getElem_cons_succ, List.setIfInBounds_toArray, List.set_cons_zero, List.set_cons_succ]
                  refine wpAnyH_take (i := 7) (v := (.bool true)) rfl (by kernel_rfl) (by kernel_rfl) (by kernel_rfl) (fun _ _ _ h => h) (Or.inl ⟨by rfl, fun w' hSw => ?_⟩) (by assumption) ?_
                  · go_simp
                  try simp only [Act.put, List.getElem_toArray, List.getElem_cons_zero, List.getElem_cons_succ, List.setIfInBounds_toArray, List.set_cons_zero, List.set_cons_succ]
                  refine wpAnyH_take (i := 8) (v := (.bool true)) rfl (by kernel_rfl) (by kernel_rfl) (by kernel_rfl) (fun _ _ _ h => h) (Or.inl ⟨by rfl, fun w' hSw => ?_⟩) (by assumption) ?_
                  · go_simp
                  try simp only [Act.put, List.getElem_toArray, List.getElem_cons_zero, List.getElem_cons_succ, List.setIfInBounds_toArray, List.set_cons_zero, List.set_cons_succ]
                  refine wpAnyH_take (i := 9) (v := (.bool true)) rfl (by kernel_rfl) (by kernel_rfl) (by kernel_rfl) (fun _ _ _ h => h) (Or.inl ⟨by rfl, fun w' hSw => ?_⟩) (by assumption) ?_
                  · go_simp
                  try simp only [Act.put, List.getElem_toArray, List.getElem_cons_zero, List.getElem_cons_succ, List.setIfInBounds_toArray, List.set_cons_zero, List.set_cons_succ]
                  refine wpAnyH_take (i := 10) (v := (.int .i64 (0))) rfl (by kernel_rfl) (by kernel_rfl) (by kernel_rfl) (fun _ _ _ h => h) (Or.inl ⟨by rfl, fun w' hSw => ?_⟩) (by assumption) ?_
                  · go_simp
                  try simp only [Act.put, List.getElem_toArray, List.getElem_cons_zero, List.getElem_cons_succ, List.setIfInBounds_toArray, List.set_cons_zero, List.set_cons_succ]
                  refine wpAnyH_take (i := 11) (v := (.bool false)) rfl (by kernel_rfl) (by kernel_rfl) (by kernel_rfl) (fun _ _ _ h => h) (Or.inl ⟨by rfl, fun w' hSw => ?_⟩) (by assumption) ?_
                  · go_simp
                  try simp only [Act.put, List.getElem_toArray, List.getElem_cons_zero, List.getElem_cons_succ, List.setIfInBounds_toArray, List.set_cons_zero, List.set_cons_succ]
                  refine wpAnyH_take (i := 12) (v := (.bool false)) rfl (by kernel_rfl) (by kernel_rfl) (by kernel_rfl) (fun _ _ _ h => h) (Or.inl ⟨by rfl, fun w' hSw => ?_⟩) (by assumption) ?_
                  · go_simp
                  try simp only [Act.put, List.getElem_toArray, List.getElem_cons_zero, List.getElem_cons_succ, List.setIfInBounds_toArray, List.set_cons_zero, List.set_cons_succ]
                  refine wpAnyH_take (i := 13) (v := ?_) rfl (by kernel_rfl) (by kernel_rfl) (by kernel_rfl) (fun _ _ _ h => h) (Or.inl ⟨by rfl, ?_⟩) (by assumption) ?_
                  rotate_left
                  · intro w' hSw; go_simp; with_reducible rfl
                  try simp only [Act.put, List.getElem_toArray, List.getElem_cons_zero, List.getElem_cons_succ, List.setIfInBounds_toArray, List.set_cons_zero, List.set_cons_succ]
                  refine wpAnyH_take (i := 14) (v := (.int .i64 b.v)) rfl (by kernel_rfl) (by kernel_rfl) (by kernel_rfl) (fun _ _ _ h => h) (Or.inl ⟨by rfl, fun w' hSw => ?_⟩) (by assumption) ?_
                  · obtain ⟨s0, s1, s2, s3⟩ := hSw; go_simp
                  try simp only [Act.put, List.getElem_toArray, List.getElem_cons_zero, List.getElem_cons_succ, List.setIfInBounds_toArray, List.set_cons_zero, List.set_cons_succ]
                  refine wpAnyH_take (i := 15) (v := (.int .i64 (0))) rfl (by kernel_rfl) (by kernel_rfl) (by kernel_rfl) (fun _ _ _ h => h) (Or.inl ⟨by rfl, fun w' hSw => ?_⟩) (by assumption) ?_
                  · go_simp
                  try simp only [Act.put, List.getElem_toArray, List.getElem_cons_zero, List.getElem_cons_succ, List.setIfInBounds_toArray, List.set_cons_zero, List.set_cons_succ]
                  refine wpAnyH_take (i := 16) (v := ?_) rfl (by kernel_rfl) (by kernel_rfl) (by kernel_rfl) (fun _ _ _ h => h) (Or.inl ⟨by rfl, ?_⟩) (by assumption) ?_
                  rotate_left
                  · intro w' hSw; go_simp; with_reducible rfl
                  try simp only [Act.put, List.getElem_toArray, List.getElem_cons_zero, List.getElem_cons_succ, List.setIfInBounds_toArray, List.set_cons_zero, List.set_cons_succ]
                  refine wpAnyH_take (i := 17) (v := ?_) rfl (by kernel_rfl) (by kernel_rfl) (by kernel_rfl) (fun _ _ _ h => h) (Or.inl ⟨by rfl, ?_⟩) (by assumption) ?_
                  rotate_left
                  · intro w' hSw; go_simp; with_reducible rfl
                  try simp only [Act.put, List.getElem_toArray, List.getElem_cons_zero, List.getElem_cons_succ, List.setIfInBounds_toArray, List.set_cons_zero, List.set_cons_succ]
                  refine wpAnyH_take (i := 18) (v := ?_) rfl (by kernel_rfl) (by kernel_rfl) (by kernel_rfl) (fun _ _ _ h => h) (Or.inl ⟨by rfl, ?_⟩) (by assumption) ?_
                  rotate_left
                  · intro w' hSw; go_simp; with_reducible rfl
                  try simp only [Act.put, List.getElem_toArray, List.getElem_cons_zero, List.getElem_cons_succ, List.setIfInBounds_toArray, List.set_cons_zero, List.set_cons_succ]
                  refine wpAnyH_take (i := 19) (v := (.int .i64 a.v)) rfl (by kernel_rfl) (by kernel_rfl) (by kernel_rfl) (fun _ _ _ h => h) (Or.inl ⟨by rfl, fun w' hSw => ?_⟩) (by assumption) ?_
                  · obtain ⟨s0, s1, s2, s3⟩ := hSw; go_simp
                  try simp only [Act.put, List.getElem_toArray, List.getElem_cons_zero, List.getElem_cons_succ, List.setIfInBounds_toArray, List.set_cons_zero, List.set_cons_succ]
                  refine wpAnyH_take (i := 20) (v := (.bool false)) rfl (by kernel_rfl) (by kernel_rfl) (by kernel_rfl) (fun _ _ _ h => h) (Or.inl ⟨by rfl, fun w' hSw => ?_⟩) (by assumption) ?_
                  · go_simp
                  try simp only [Act.put, List.getElem_toArray, List.getElem_cons_zero, List.getElem_cons_succ, List.setIfInBounds_toArray, List.set_cons_zero, List.set_cons_succ]
                  refine wpAnyH_take (i := 21) (v := (.bool false)) rfl (by kernel_rfl) (by kernel_rfl) (by kernel_rfl) (fun _ _ _ h => h) (Or.inl ⟨by rfl, fun w' hSw => ?_⟩) (by assumption) ?_
                  · go_simp
                  try simp only [Act.put, List.getElem_toArray, List.getElem_cons_zero, List.getElem_cons_succ, List.setIfInBounds_toArray, List.set_cons_zero, List.set_cons_succ]
                  refine wpAnyH_take (i := 22) (v := (.bool false)) rfl (by kernel_rfl) (by kernel_rfl) (by kernel_rfl) (fun _ _ _ h => h) (Or.inl ⟨by rfl, fun w' hSw => ?_⟩) (by assumption) ?_
                  · go_simp
                  try simp only [Act.put, List.getElem_toArray, List.getElem_cons_zero, List.getElem_cons_succ, List.setIfInBounds_toArray, List.set_cons_zero, List.set_cons_succ]
                  refine wpAnyH_done (by kernel_rfl) ?_ _
                  go_wp2_with fail
                  have HE : Aside0 (bst (fun x => decide (pend x)) a b f 2 = 0) := ⟨by have k1 := HM.out; have k2 := HV.out; have k3 := HT.out; unfold bst best; simp [HW.out, HM.out, HV.out, HT.out] <;> omega⟩
                  first
                  | exact ⟨⟨2, by go_num, by omega, by rw [HE.out], HB4⟩, by simp [intOf]⟩
                  | (refine ⟨?_, ?_⟩
                     · repeat apply Exists.intro
                       refine ⟨?_, ?_⟩
                       rotate_left
                       · repeat' (first | exact rfl | apply And.intro)
                       first | exact ⟨2, by go_num, by omega, by rw [HE.out], HB4⟩ | exact ⟨2, by go_num, by omega, by rw [HE.out]⟩
                     · simp [intOf])
              · have HV := Aside0.mk hv
                have HT := HM
                have hd : decide (f ≤ b.v) = false := decide_eq_false hv
                have k0 : ((wr.alloc (.cells #[.int .i64 b.s, .int .i64 b.v, .int .i64 b.t] 46 (0, 0))).drew).cell? ⟨wr.heap.size, 0, none⟩ = some (.int .i64 b.s) ∧ ((wr.alloc (.cells #[.int .i64 b.s, .int .i64 b.v, .int .i64 b.t] 46 (0, 0))).drew).cell? ⟨wr.heap.size, 1, none⟩ = some (.int .i64 b.v) ∧ ((wr.alloc (.cells #[.int .i64 b.s, .int .i64 b.v, .int .i64 b.t] 46 (0, 0))).drew).cell? ⟨wr.heap.size, 2, none⟩ = some (.int .i64 b.t) ∧ ((wr.alloc (.cells #[.int .i64 b.s, .int .i64 b.v, .int .i64 b.t] 46 (0, 0))).drew).cell? ⟨w.heap.size, 1, none⟩ = some (.int .i64 a.v) := ⟨by rw [blk_cell (show (((wr.alloc (.cells #[.int .i64 b.s, .int .i64 b.v, .int .i64 b.t] 46 (0, 0))).drew)).heap[wr.heap.size]? = _ from blk_new wr (.cells #[.int .i64 b.s, .int .i64 b.v, .int .i64 b.t] 46 (0, 0)))]; rfl, by rw [blk_cell (show (((wr.alloc (.cells #[.int .i64 b.s, .int .i64 b.v, .int .i64 b.t] 46 (0, 0))).drew)).heap[wr.heap.size]? = _ from blk_new wr (.cells #[.int .i64 b.s, .int .i64 b.v, .int .i64 b.t] 46 (0, 0)))]; rfl, by rw [blk_cell (show (((wr.alloc (.cells #[.int .i64 b.s, .int .i64 b.v, .int .i64 b.t] 46 (0, 0))).drew)).heap[wr.heap.size]? = _ from blk_new wr (.cells #[.int .i64 b.s, .int .i64 b.v, .int .i64 b.t] 46 (0, 0)))]; rfl, by rw [blk_cell (show (((wr.alloc (.cells #[.int .i64 b.s, .int .i64 b.v, .int .i64 b.t] 46 (0, 0))).drew)).heap[w.heap.size]? = _ from blk_alloc (blk_below HG.out.1 HBr.out) (.cells #[.int .i64 b.s, .int .i64 b.v, .int .i64 b.t] 46 (0, 0)))]; rfl⟩
                refine wp_region_held_drew (S := fun w' => w'.cell? ⟨wr.heap.size, 0, none⟩ = some (.int .i64 b.s) ∧ w'.cell? ⟨wr.heap.size, 1, none⟩ = some (.int .i64 b.v) ∧ w'.cell? ⟨wr.heap.size, 2, none⟩ = some (.int .i64 b.t) ∧ w'.cell? ⟨w.heap.size, 1, none⟩ = some (.int .i64 a.v)) (by kernel_rfl) k0 (fun hHeld => ?_)
                refine wpAnyH_take (i := 0) (v := (.func (.func 71) #[] #[])) rfl (by kernel_rfl) (by kernel_rfl) (by kernel_rfl) (fun _ _ _ h => h) (Or.inl ⟨by rfl, fun w' hSw => ?_⟩) (by assumption) ?_
                · go_simp
                try simp only [Act.put, List.getElem_toArray, List.getElem_cons_zero, List.getElem_cons_succ, List.setIfInBounds_toArray, List.set_cons_zero, List.set_cons_succ]
                refine wpAnyH_take (i := 1) (v := (slV b)) rfl (by kernel_rfl) (by kernel_rfl) (by kernel_rfl) (fun _ _ _ h => h) (Or.inl ⟨by rfl, fun w' hSw => ?_⟩) (by assumption) ?_
                · obtain ⟨s0, s1, s2, s3⟩ := hSw; go_simp
                try simp only [Act.put, List.getElem_toArray, List.getElem_cons_zero, List.getElem_cons_succ, List.setIfInBounds_toArray, List.set_cons_zero, List.set_cons_succ]
                refine wpAnyH_ready (rs := [2]) (by kernel_rfl) (by simp) ?_
                refine AllReadyH.cons rfl (fun K hK => ?_) AllReadyH.nil
                go_simp
                go_at_call 71
                refine (pending_any b _).mono ?_
                rintro e w4 ⟨rfl, hb4⟩
                simp only [hm, decide_true, decide_false]
                have HB4 := Aside0.mk (below_step (below_drew1 (below_alloc HBr.out (.cells #[.int .i64 b.s, .int .i64 b.v, .int .i64 b.t] 46 (0, 0)))) hb4)
                have HN4 := Aside0.mk (blk_below (show (((wr.alloc (.cells #[.int .i64 b.s, .int .i64 b.v, .int .i64 b.t] 46 (0, 0))).drew)).heap[wr.heap.size]? = _ from blk_new wr (.cells #[.int .i64 b.s, .int .i64 b.v, .int .i64 b.t] 46 (0, 0))) hb4)
                have k4 : w4.cell? ⟨wr.heap.size, 0, none⟩ = some (.int .i64 b.s) ∧ w4.cell? ⟨wr.heap.size, 1, none⟩ = some (.int .i64 b.v) ∧ w4.cell? ⟨wr.heap.size, 2, none⟩ = some (.int .i64 b.t) ∧ w4.cell? ⟨w.heap.size, 1, none⟩ = some (.int .i64 a.v) := ⟨by rw [blk_cell HN4.out]; rfl, by rw [blk_cell HN4.out]; rfl, by rw [blk_cell HN4.out]; rfl, by rw [blk_cell (blk_below HG.out.1 HB4.out)]; rfl⟩
                clear k0 hHeld hb4
                refine hK.out _ _ k4 (fun hHeld => ?_)
                clear hK K
                try simp only [Act.put, List.getElem_toArray, List.getElem_cons_zero, List.getElem_cons_succ, List.setIfInBounds_toArray, List.set_cons_zero, List.set_cons_succ]
                refine wpAnyH_take (i := 3) (v := (.bool true)) rfl (by kernel_rfl) (by kernel_rfl) (by kernel_rfl) (fun _ _ _ h => h) (Or.inl ⟨by rfl, fun w' hSw => ?_⟩) (by assumption) ?_
                · go_simp
                try simp only [Act.put, List.getElem_toArray, List.getElem_cons_zero, List.getElem_cons_succ, List.setIfInBounds_toArray, List.set_cons_zero, List.set_cons_succ]
                refine wpAnyH_take (i := 4) (v := ?_) rfl (by kernel_rfl) (by kernel_rfl) (by kernel_rfl) (fun _ _ _ h => h) (Or.inl ⟨by rfl, ?_⟩) (by assumption) ?_
                rotate_left
                · intro w' hSw; go_simp; with_reducible rfl
                try simp only [Act.put, List.getElem_toArray, List.getElem_cons_zero, List.getElem_cons_succ, List.setIfInBounds_toArray, List.set_cons_zero, List.set_cons_succ]
                refine wpAnyH_take (i := 5) (v := (.int .i64 b.v)) rfl (by kernel_rfl) (by kernel_rfl) (by kernel_rfl) (fun _ _ _ h => h) (Or.inl ⟨by rfl, fun w' hSw => ?_⟩) (by assumption) ?_
                · obtain ⟨s0, s1, s2, s3⟩ := hSw; go_simp
                try simp only [Act.put, List.getElem_toArray, List.getElem_cons_zero, List.getElem_cons_succ, List.setIfInBounds_toArray, List.set_cons_zero, List.set_cons_succ]
                refine wpAnyH_take (i := 6) (v := (.int .i64 f)) rfl (by kernel_rfl) (by kernel_rfl) (by kernel_rfl) (fun _ _ _ h => h) (Or.inl ⟨by rfl, fun w' hSw => ?_⟩) (by assumption) ?_
                · go_simp
                try simp only [Act.put, List.getElem_toArray, List.getElem_cons_zero, List.getElem_cons_succ, List.setIfInBounds_toArray, List.set_cons_zero, List.set_cons_succ]
                refine wpAnyH_take (i := 7) (v := (.bool false)) rfl (by kernel_rfl) (by kernel_rfl) (by kernel_rfl) (fun _ _ _ h => h) (Or.inl ⟨by rfl, fun w' hSw => ?_⟩) (by assumption) ?_
                · go_simp
                try simp only [Act.put, List.getElem_toArray, List.getElem_cons_zero, List.getElem_cons_succ, List.setIfInBounds_toArray, List.set_cons_zero, List.set_cons_succ]
                refine wpAnyH_take (i := 8) (v := (.bool false)) rfl (by kernel_rfl) (by kernel_rfl) (by kernel_rfl) (fun _ _ _ h => h) (Or.inl ⟨by rfl, fun w' hSw => ?_⟩) (by assumption) ?_
                · go_simp
                try simp only [Act.put, List.getElem_toArray, List.getElem_cons_zero, List.getElem_cons_succ, List.setIfInBounds_toArray, List.set_cons_zero, List.set_cons_succ]
                refine wpAnyH_take (i := 9) (v := (.bool false)) rfl (by kernel_rfl) (by kernel_rfl) (by kernel_rfl) (fun _ _ _ h => h) (Or.inl ⟨by rfl, fun w' hSw => ?_⟩) (by assumption) ?_
                · go_simp
                try simp only [Act.put, List.getElem_toArray, List.getElem_cons_zero, List.getElem_cons_succ, List.setIfInBounds_toArray, List.set_cons_zero, List.set_cons_succ]
                refine wpAnyH_take (i := 10) (v := undef) rfl (by kernel_rfl) (by kernel_rfl) (by kernel_rfl) (fun _ _ _ h => h) (Or.inr ⟨by rfl, rfl⟩) (by assumption) ?_
                try simp only [Act.put, List.getElem_toArray, List.getElem_cons_zero, List.getElem_cons_succ, List.setIfInBounds_toArray, List.set_cons_zero, List.set_cons_succ]
                refine wpAnyH_take (i := 11) (v := undef) rfl (by kernel_rfl) (by kernel_rfl) (by kernel_rfl) (fun _ _ _ h => h) (Or.inr ⟨by rfl, rfl⟩) (by assumption) ?_
                try simp only [Act.put, List.getElem_toArray, List.getElem_cons_zero, List.getElem_cons_succ, List.setIfInBounds_toArray, List.set_cons_zero, List.set_cons_succ]
                refine wpAnyH_take (i := 12) (v := undef) rfl (by kernel_rfl) (by kernel_rfl) (by kernel_rfl) (fun _ _ _ h => h) (Or.inr ⟨by rfl, rfl⟩) (by assumption) ?_
                try simp only [Act.put, List.getElem_toArray, List.getElem_cons_zero, List.getElem_cons_succ, List.setIfInBounds_toArray, List.set_cons_zero, List.set_cons_succ]
                refine wpAnyH_take (i := 13) (v := undef) rfl (by kernel_rfl) (by kernel_rfl) (by kernel_rfl) (fun _ _ _ h => h) (Or.inr ⟨by rfl, rfl⟩) (by assumption) ?_
                try simp only [Act.put, List.getElem_toArray, List.getElem_cons_zero, List.getElem_cons_succ, List.setIfInBounds_toArray, List.set_cons_zero, List.set_cons_succ]
                refine wpAnyH_take (i := 14) (v := undef) rfl (by kernel_rfl) (by kernel_rfl) (by kernel_rfl) (fun _ _ _ h => h) (Or.inr ⟨by rfl, rfl⟩) (by assumption) ?_
                try simp only [Act.put, List.getElem_toArray, List.getElem_cons_zero, List.getElem_cons_succ, List.setIfInBounds_toArray, List.set_cons_zero, List.set_cons_succ]
                refine wpAnyH_take (i := 15) (v := undef) rfl (by kernel_rfl) (by kernel_rfl) (by kernel_rfl) (fun _ _ _ h => h) (Or.inr ⟨by rfl, rfl⟩) (by assumption) ?_
                try simp only [Act.put, List.getElem_toArray, List.getElem_cons_zero, List.getElem_cons_succ, List.setIfInBounds_toArray, List.set_cons_zero, List.set_cons_succ]
                refine wpAnyH_take (i := 16) (v := undef) rfl (by kernel_rfl) (by kernel_rfl) (by kernel_rfl) (fun _ _ _ h => h) (Or.inr ⟨by rfl, rfl⟩) (by assumption) ?_
                try simp only [Act.put, List.getElem_toArray, List.getElem_cons_zero, List.getElem_cons_succ, List.setIfInBounds_toArray, List.set_cons_zero, List.set_cons_succ]
                refine wpAnyH_take (i := 17) (v := undef) rfl (by kernel_rfl) (by kernel_rfl) (by kernel_rfl) (fun _ _ _ h => h) (Or.inr ⟨by rfl, rfl⟩) (by assumption) ?_
                try simp only [Act.put, List.getElem_toArray, List.getElem_cons_zero, List.getElem_cons_succ, List.setIfInBounds_toArray, List.set_cons_zero, List.set_cons_succ]
                refine wpAnyH_take (i := 18) (v := undef) rfl (by kernel_rfl) (by kernel_rfl) (by kernel_rfl) (fun _ _ _ h => h) (Or.inr ⟨by rfl, rfl⟩) (by assumption) ?_
                try simp only [Act.put, List.getElem_toArray, List.getElem_cons_zero, List.getElem_cons_succ, List.setIfInBounds_toArray, List.set_cons_zero, List.set_cons_succ]
                refine wpAnyH_take (i := 19) (v := undef) rfl (by kernel_rfl) (by kernel_rfl) (by kernel_rfl) (fun _ _ _ h => h) (Or.inr ⟨by rfl, rfl⟩) (by assumption) ?_
                try simp only [Act.put, List.getElem_toArray, List.getElem_cons_zero, List.getElem_cons_succ, List.setIfInBounds_toArray, List.set_cons_zero, List.set_cons_succ]
                refine wpAnyH_take (i := 20) (v := undef) rfl (by kernel_rfl) (by kernel_rfl) (by kernel_rfl) (fun _ _ _ h => h) (Or.inr ⟨by rfl, rfl⟩) (by assumption) ?_
                try simp only [Act.put, List.getElem_toArray, List.getElem_cons_zero, List.getElem_cons_succ, List.setIfInBounds_toArray, List.set_cons_zero, List.set_cons_succ]
                refine wpAnyH_take (i := 21) (v := undef) rfl (by kernel_rfl) (by kernel_rfl) (by kernel_rfl) (fun _ _ _ h => h) (Or.inr ⟨by rfl, rfl⟩) (by assumption) ?_
                try simp only [Act.put, List.getElem_toArray, List.getElem_cons_zero, List.getElem_cons_succ, List.setIfInBounds_toArray, List.set_cons_zero, List.set_cons_succ]
                refine wpAnyH_take (i := 22) (v := (.bool false)) rfl (by kernel_rfl) (by kernel_rfl) (by kernel_rfl) (fun _ _ _ h => h) (Or.inl ⟨by rfl, fun w' hSw => ?_⟩) (by assumption) ?_
                · go_simp
                try simp only [Act.put, List.getElem_toArray, List.getElem_cons_zero, List.getElem_cons_succ, List.setIfInBounds_toArray, List.set_cons_zero, List.set_cons_succ]
                refine wpAnyH_done (by kernel_rfl) ?_ _
                go_wp2_with fail
                have HE : Aside0 (bst (fun x => decide (pend x)) a b f 2 = 0) := ⟨by have k1 := HM.out; have k2 := HV.out; have k3 := HT.out; unfold bst best; simp [HW.out, HM.out, HV.out, HT.out] <;> omega⟩
                first
                | exact ⟨⟨2, by go_num, by omega, by rw [HE.out], HB4⟩, by simp [intOf]⟩
                | (refine ⟨?_, ?_⟩
                   · repeat apply Exists.intro
                     refine ⟨?_, ?_⟩
                     rotate_left
                     · repeat' (first | exact rfl | apply And.intro)
                     first | exact ⟨2, by go_num, by omega, by rw [HE.out], HB4⟩ | exact ⟨2, by go_num, by omega, by rw [HE.out]⟩
                   · simp [intOf])
            · have HM := Aside0.mk hm
              have HV := HM
              have HT := HM
              have k0 : ((wr.alloc (.cells #[.int .i64 b.s, .int .i64 b.v, .int .i64 b.t] 46 (0, 0))).drew).cell? ⟨wr.heap.size, 0, none⟩ = some (.int .i64 b.s) ∧ ((wr.alloc (.cells #[.int .i64 b.s, .int .i64 b.v, .int .i64 b.t] 46 (0, 0))).drew).cell? ⟨wr.heap.size, 1, none⟩ = some (.int .i64 b.v) ∧ ((wr.alloc (.cells #[.int .i64 b.s, .int .i64 b.v, .int .i64 b.t] 46 (0, 0))).drew).cell? ⟨wr.heap.size, 2, none⟩ = some (.int .i64 b.t) ∧ ((wr.alloc (.cells #[.int .i64 b.s, .int .i64 b.v, .int .i64 b.t] 46 (0, 0))).drew).cell? ⟨w.heap.size, 1, none⟩ = some (.int .i64 a.v) := ⟨by rw [blk_cell (show (((wr.alloc (.cells #[.int .i64 b.s, .int .i64 b.v, .int .i64 b.t] 46 (0, 0))).drew)).heap[wr.heap.size]? = _ from blk_new wr (.cells #[.int .i64 b.s, .int .i64 b.v, .int .i64 b.t] 46 (0, 0)))]; rfl, by rw [blk_cell (show (((wr.alloc (.cells #[.int .i64 b.s, .int .i64 b.v, .int .i64 b.t] 46 (0, 0))).drew)).heap[wr.heap.size]? = _ from blk_new wr (.cells #[.int .i64 b.s, .int .i64 b.v, .int .i64 b.t] 46 (0, 0)))]; rfl, by rw [blk_cell (show (((wr.alloc (.cells #[.int .i64 b.s, .int .i64 b.v, .int .i64 b.t] 46 (0, 0))).drew)).heap[wr.heap.size]? = _ from blk_new wr (.cells #[.int .i64 b.s, .int .i64 b.v, .int .i64 b.t] 46 (0, 0)))]; rfl, by rw [blk_cell (show (((wr.alloc (.cells #[.int .i64 b.s, .int .i64 b.v, .int .i64 b.t] 46 (0, 0))).drew)).heap[w.heap.size]? = _ from blk_alloc (blk_below HG.out.1 HBr.out) (.cells #[.int .i64 b.s, .int .i64 b.v, .int .i64 b.t] 46 (0, 0)))]; rfl⟩
              refine wp_region_held_drew (S := fun w' => w'.cell? ⟨wr.heap.size, 0, none⟩ = some (.int .i64 b.s) ∧ w'.cell? ⟨wr.heap.size, 1, none⟩ = some (.int .i64 b.v) ∧ w'.cell? ⟨wr.heap.size, 2, none⟩ = some (.int .i64 b.t) ∧ w'.cell? ⟨w.heap.size, 1, none⟩ = some (.int .i64 a.v)) (by kernel_rfl) k0 (fun hHeld => ?_)
              refine wpAnyH_take (i := 0) (v := (.func (.func 71) #[] #[])) rfl (by kernel_rfl) (by kernel_rfl) (by kernel_rfl) (fun _ _ _ h => h) (Or.inl ⟨by rfl, fun w' hSw => ?_⟩) (by assumption) ?_
              · go_simp
              try simp only [Act.put, List.getElem_toArray, List.getElem_cons_zero, List.getElem_cons_succ, List.setIfInBounds_toArray, List.set_cons_zero, List.set_cons_succ]
              refine wpAnyH_take (i := 1) (v := (slV b)) rfl (by kernel_rfl) (by kernel_rfl) (by kernel_rfl) (fun _ _ _ h => h) (Or.inl ⟨by rfl, fun w' hSw => ?_⟩) (by assumption) ?_
              · obtain ⟨s0, s1, s2, s3⟩ := hSw; go_simp
              try simp only [Act.put, List.getElem_toArray, List.getElem_cons_zero, List.getElem_cons_succ, List.setIfInBounds_toArray, List.set_cons_zero, List.set_cons_succ]
              refine wpAnyH_ready (rs := [2]) (by kernel_rfl) (by simp) ?_
              refine AllReadyH.cons rfl (fun K hK => ?_) AllReadyH.nil
              go_simp
              go_at_call 71
              refine (pending_any b _).mono ?_
              rintro e w4 ⟨rfl, hb4⟩
              simp only [hm, decide_true, decide_false]
              have HB4 := Aside0.mk (below_step (below_drew1 (below_alloc HBr.out (.cells #[.int .i64 b.s, .int .i64 b.v, .int .i64 b.t] 46 (0, 0)))) hb4)
              have HN4 := Aside0.mk (blk_below (show (((wr.alloc (.cells #[.int .i64 b.s, .int .i64 b.v, .int .i64 b.t] 46 (0, 0))).drew)).heap[wr.heap.size]? = _ from blk_new wr (.cells #[.int .i64 b.s, .int .i64 b.v, .int .i64 b.t] 46 (0, 0))) hb4)
              have k4 : w4.cell? ⟨wr.heap.size, 0, none⟩ = some (.int .i64 b.s) ∧ w4.cell? ⟨wr.heap.size, 1, none⟩ = some (.int .i64 b.v) ∧ w4.cell? ⟨wr.heap.size, 2, none⟩ = some (.int .i64 b.t) ∧ w4.cell? ⟨w.heap.size, 1, none⟩ = some (.int .i64 a.v) := ⟨by rw [blk_cell HN4.out]; rfl, by rw [blk_cell HN4.out]; rfl, by rw [blk_cell HN4.out]; rfl, by rw [blk_cell (blk_below HG.out.1 HB4.out)]; rfl⟩
              clear k0 hHeld hb4
              refine hK.out _ _ k4 (fun hHeld => ?_)
              clear hK K
              try simp only [Act.put, List.getElem_toArray, List.getElem_cons_zero, List.getElem_cons_succ, List.setIfInBounds_toArray, List.set_cons_zero, List.set_cons_succ]
              refine wpAnyH_take (i := 3) (v := (.bool false)) rfl (by kernel_rfl) (by kernel_rfl) (by kernel_rfl) (fun _ _ _ h => h) (Or.inl ⟨by rfl, fun w' hSw => ?_⟩) (by assumption) ?_
              · go_simp
              try simp only [Act.put, List.getElem_toArray, List.getElem_cons_zero, List.getElem_cons_succ, List.setIfInBounds_toArray, List.set_cons_zero, List.set_cons_succ]
              refine wpAnyH_take (i := 4) (v := undef) rfl (by kernel_rfl) (by kernel_rfl) (by kernel_rfl) (fun _ _ _ h => h) (Or.inr ⟨by rfl, rfl⟩) (by assumption) ?_
              try simp only [Act.put, List.getElem_toArray, List.getElem_cons_zero, List.getElem_cons_succ, List.setIfInBounds_toArray, List.set_cons_zero, List.set_cons_succ]
              refine wpAnyH_take (i := 5) (v := undef) rfl (by kernel_rfl) (by kernel_rfl) (by kernel_rfl) (fun _ _ _ h => h) (Or.inr ⟨by rfl, rfl⟩) (by assumption) ?_
              try simp only [Act.put, List.getElem_toArray, List.getElem_cons_zero, List.getElem_cons_succ, List.setIfInBounds_toArray, List.set_cons_zero, List.set_cons_succ]
              refine wpAnyH_take (i := 6) (v := undef) rfl (by kernel_rfl) (by kernel_rfl) (by kernel_rfl) (fun _ _ _ h => h) (Or.inr ⟨by rfl, rfl⟩) (by assumption) ?_
              try simp only [Act.put, List.getElem_toArray, List.getElem_cons_zero, List.getElem_cons_succ, List.setIfInBounds_toArray, List.set_cons_zero, List.set_cons_succ]
              refine wpAnyH_take (i := 7) (v := undef) rfl (by kernel_rfl) (by kernel_rfl) (by kernel_rfl) (fun _ _ _ h => h) (Or.inr ⟨by rfl, rfl⟩) (by assumption) ?_
              try simp only [Act.put, List.getElem_toArray, List.getElem_cons_zero, List.getElem_cons_succ, List.setIfInBounds_toArray, List.set_cons_zero, List.set_cons_succ]
              refine wpAnyH_take (i := 8) (v := (.bool false)) rfl (by kernel_rfl) (by kernel_rfl) (by kernel_rfl) (fun _ _ _ h => h) (Or.inl ⟨by rfl, fun w' hSw => ?_⟩) (by assumption) ?_
              · go_simp
              try simp only [Act.put, List.getElem_toArray, List.getElem_cons_zero, List.getElem_cons_succ, List.setIfInBounds_toArray, List.set_cons_zero, List.set_cons_succ]
              refine wpAnyH_take (i := 9) (v := (.bool false)) rfl (by kernel_rfl) (by kernel_rfl) (by kernel_rfl) (fun _ _ _ h => h) (Or.inl ⟨by rfl, fun w' hSw => ?_⟩) (by assumption) ?_
              · go_simp
              try simp only [Act.put, List.getElem_toArray, List.getElem_cons_zero, List.getElem_cons_succ, List.setIfInBounds_toArray, List.set_cons_zero, List.set_cons_succ]
              refine wpAnyH_take (i := 10) (v := undef) rfl (by kernel_rfl) (by kernel_rfl) (by kernel_rfl) (fun _ _ _ h => h) (Or.inr ⟨by rfl, rfl⟩) (by assumption) ?_
              try simp only [Act.put, List.getElem_toArray, List.getElem_cons_zero, List.getElem_cons_succ, List.setIfInBounds_toArray, List.set_cons_zero, List.set_cons_succ]
              refine wpAnyH_take (i := 11) (v := undef) rfl (by kernel_rfl) (by kernel_rfl) (by kernel_rfl) (fun _ _ _ h => h) (Or.inr ⟨by rfl, rfl⟩) (by assumption) ?_
              try simp only [Act.put, List.getElem_toArray, List.getElem_cons_zero, List.getElem_cons_succ, List.setIfInBounds_toArray, List.set_cons_zero, List.set_cons_succ]
              refine wpAnyH_take (i := 12) (v := undef) rfl (by kernel_rfl) (by kernel_rfl) (by kernel_rfl) (fun _ _ _ h => h) (Or.inr ⟨by rfl, rfl⟩) (by assumption) ?_
              try simp only [Act.put, List.getElem_toArray, List.getElem_cons_zero, List.getElem_cons_succ, List.setIfInBounds_toArray, List.set_cons_zero, List.set_cons_succ]
              refine wpAnyH_take (i := 13) (v := undef) rfl (by kernel_rfl) (by kernel_rfl) (by kernel_rfl) (fun _ _ _ h => h) (Or.inr ⟨by rfl, rfl⟩) (by assumption) ?_
              try simp only [Act.put, List.getElem_toArray, List.getElem_cons_zero, List.getElem_cons_succ, List.setIfInBounds_toArray, List.set_cons_zero, List.set_cons_succ]
              refine wpAnyH_take (i := 14) (v := undef) rfl (by kernel_rfl) (by kernel_rfl) (by kernel_rfl) (fun _ _ _ h => h) (Or.inr ⟨by rfl, rfl⟩) (by assumption) ?_
              try simp only [Act.put, List.getElem_toArray, List.getElem_cons_zero, List.getElem_cons_succ, List.setIfInBounds_toArray, List.set_cons_zero, List.set_cons_succ]
              refine wpAnyH_take (i := 15) (v := undef) rfl (by kernel_rfl) (by kernel_rfl) (by kernel_rfl) (fun _ _ _ h => h) (Or.inr ⟨by rfl, rfl⟩) (by assumption) ?_
              try simp only [Act.put, List.getElem_toArray, List.getElem_cons_zero, List.getElem_cons_succ, List.setIfInBounds_toArray, List.set_cons_zero, List.set_cons_succ]
              refine wpAnyH_take (i := 16) (v := undef) rfl (by kernel_rfl) (by kernel_rfl) (by kernel_rfl) (fun _ _ _ h => h) (Or.inr ⟨by rfl, rfl⟩) (by assumption) ?_
              try simp only [Act.put, List.getElem_toArray, List.getElem_cons_zero, List.getElem_cons_succ, List.setIfInBounds_toArray, List.set_cons_zero, List.set_cons_succ]
              refine wpAnyH_take (i := 17) (v := undef) rfl (by kernel_rfl) (by kernel_rfl) (by kernel_rfl) (fun _ _ _ h => h) (Or.inr ⟨by rfl, rfl⟩) (by assumption) ?_
              try simp only [Act.put, List.getElem_toArray, List.getElem_cons_zero, List.getElem_cons_succ, List.setIfInBounds_toArray, List.set_cons_zero, List.set_cons_succ]
              refine wpAnyH_take (i := 18) (v := undef) rfl (by kernel_rfl) (by kernel_rfl) (by kernel_rfl) (fun _ _ _ h => h) (Or.inr ⟨by rfl, rfl⟩) (by assumption) ?_
              try simp only [Act.put, List.getElem_toArray, List.getElem_cons_zero, List.getElem_cons_succ, List.setIfInBounds_toArray, List.set_cons_zero, List.set_cons_succ]
              refine wpAnyH_take (i := 19) (v := undef) rfl (by kernel_rfl) (by kernel_rfl) (by kernel_rfl) (fun _ _ _ h => h) (Or.inr ⟨by rfl, rfl⟩) (by assumption) ?_
              try simp only [Act.put, List.getElem_toArray, List.getElem_cons_zero, List.getElem_cons_succ, List.setIfInBounds_toArray, List.set_cons_zero, List.set_cons_succ]
              refine wpAnyH_take (i := 20) (v := undef) rfl (by kernel_rfl) (by kernel_rfl) (by kernel_rfl) (fun _ _ _ h => h) (Or.inr ⟨by rfl, rfl⟩) (by assumption) ?_
              try simp only [Act.put, List.getElem_toArray, List.getElem_cons_zero, List.getElem_cons_succ, List.setIfInBounds_toArray, List.set_cons_zero, List.set_cons_succ]
              refine wpAnyH_take (i := 21) (v := undef) rfl (by kernel_rfl) (by kernel_rfl) (by kernel_rfl) (fun _ _ _ h => h) (Or.inr ⟨by rfl, rfl⟩) (by assumption) ?_
              try simp only [Act.put, List.getElem_toArray, List.getElem_cons_zero, List.getElem_cons_succ, List.setIfInBounds_toArray, List.set_cons_zero, List.set_cons_succ]
              refine wpAnyH_take (i := 22) (v := (.bool false)) rfl (by kernel_rfl) (by kernel_rfl) (by kernel_rfl) (fun _ _ _ h => h) (Or.inl ⟨by rfl, fun w' hSw => ?_⟩) (by assumption) ?_
              · go_simp
              try simp only [Act.put, List.getElem_toArray, List.getElem_cons_zero, List.getElem_cons_succ, List.setIfInBounds_toArray, List.set_cons_zero, List.set_cons_succ]
              refine wpAnyH_done (by kernel_rfl) ?_ _
              go_wp2_with fail
              have HE : Aside0 (bst (fun x => decide (pend x)) a b f 2 = 0) := ⟨by have k1 := HM.out; have k2 := HV.out; have k3 := HT.out; unfold bst best; simp [HW.out, HM.out, HV.out, HT.out] <;> omega⟩
              first
              | exact ⟨⟨2, by go_num, by omega, by rw [HE.out], HB4⟩, by simp [intOf]⟩
              | (refine ⟨?_, ?_⟩
                 · repeat apply Exists.intro
                   refine ⟨?_, ?_⟩
                   rotate_left
                   · repeat' (first | exact rfl | apply And.intro)
                   first | exact ⟨2, by go_num, by omega, by rw [HE.out], HB4⟩ | exact ⟨2, by go_num, by omega, by rw [HE.out]⟩
                 · simp [intOf])
          · have HW := Aside0.mk hw
            have hb1 : bst (fun x => decide (pend x)) a b f 1 = -1 := by unfold bst; simp [hw]
            rw [hb1]
            clear hb1 hw
            go_wp2_with fail
            have HT := HW
            by_cases hm : pend b
            · have HM := Aside0.mk hm
              by_cases hv : f ≤ b.v
              · have HV := Aside0.mk hv
                have hd : decide (f ≤ b.v) = true := decide_eq_true hv
                have k0 : ((wr.alloc (.cells #[.int .i64 b.s, .int .i64 b.v, .int .i64 b.t] 46 (0, 0))).drew).cell? ⟨wr.heap.size, 0, none⟩ = some (.int .i64 b.s) ∧ ((wr.alloc (.cells #[.int .i64 b.s, .int .i64 b.v, .int .i64 b.t] 46 (0, 0))).drew).cell? ⟨wr.heap.size, 1, none⟩ = some (.int .i64 b.v) ∧ ((wr.alloc (.cells #[.int .i64 b.s, .int .i64 b.v, .int .i64 b.t] 46 (0, 0))).drew).cell? ⟨wr.heap.size, 2, none⟩ = some (.int .i64 b.t) ∧ ((wr.alloc (.cells #[.int .i64 b.s, .int .i64 b.v, .int .i64 b.t] 46 (0, 0))).drew).cell? ⟨w.heap.size, 1, none⟩ = some (.int .i64 a.v) := ⟨by rw [blk_cell (show (((wr.alloc (.cells #[.int .i64 b.s, .int .i64 b.v, .int .i64 b.t] 46 (0, 0))).drew)).heap[wr.heap.size]? = _ from blk_new wr (.cells #[.int .i64 b.s, .int .i64 b.v, .int .i64 b.t] 46 (0, 0)))]; rfl, by rw [blk_cell (show (((wr.alloc (.cells #[.int .i64 b.s, .int .i64 b.v, .int .i64 b.t] 46 (0, 0))).drew)).heap[wr.heap.size]? = _ from blk_new wr (.cells #[.int .i64 b.s, .int .i64 b.v, .int .i64 b.t] 46 (0, 0)))]; rfl, by rw [blk_cell (show (((wr.alloc (.cells #[.int .i64 b.s, .int .i64 b.v, .int .i64 b.t] 46 (0, 0))).drew)).heap[wr.heap.size]? = _ from blk_new wr (.cells #[.int .i64 b.s, .int .i64 b.v, .int .i64 b.t] 46 (0, 0)))]; rfl, by rw [blk_cell (show (((wr.alloc (.cells #[.int .i64 b.s, .int .i64 b.v, .int .i64 b.t] 46 (0, 0))).drew)).heap[w.heap.size]? = _ from blk_alloc (blk_below HG.out.1 HBr.out) (.cells #[.int .i64 b.s, .int .i64 b.v, .int .i64 b.t] 46 (0, 0)))]; rfl⟩
                refine wp_region_held_drew (S := fun w' => w'.cell? ⟨wr.heap.size, 0, none⟩ = some (.int .i64 b.s) ∧ w'.cell? ⟨wr.heap.size, 1, none⟩ = some (.int .i64 b.v) ∧ w'.cell? ⟨wr.heap.size, 2, none⟩ = some (.int .i64 b.t) ∧ w'.cell? ⟨w.heap.size, 1, none⟩ = some (.int .i64 a.v)) (by kernel_rfl) k0 (fun hHeld => ?_)
                refine wpAnyH_take (i := 0) (v := (.func (.func 71) #[] #[])) rfl (by kernel_rfl) (by kernel_rfl) (by kernel_rfl) (fun _ _ _ h => h) (Or.inl ⟨by rfl, fun w' hSw => ?_⟩) (by assumption) ?_
                · go_simp
                try simp only [Act.put, List.getElem_toArray, List.getElem_cons_zero, List.getElem_cons_succ, List.setIfInBounds_toArray, List.set_cons_zero, List.set_cons_succ]
                refine wpAnyH_take (i := 1) (v := (slV b)) rfl (by kernel_rfl) (by kernel_rfl) (by kernel_rfl) (fun _ _ _ h => h) (Or.inl ⟨by rfl, fun w' hSw => ?_⟩) (by assumption) ?_
                · obtain ⟨s0, s1, s2, s3⟩ := hSw; go_simp
                try simp only [Act.put, List.getElem_toArray, List.getElem_cons_zero, List.getElem_cons_succ, List.setIfInBounds_toArray, List.set_cons_zero, List.set_cons_succ]
                refine wpAnyH_ready (rs := [2]) (by kernel_rfl) (by simp) ?_
                refine AllReadyH.cons rfl (fun K hK => ?_) AllReadyH.nil
                go_simp
                go_at_call 71
                refine (pending_any b _).mono ?_
                rintro e w4 ⟨rfl, hb4⟩
                simp only [hm, decide_true, decide_false]
                have HB4 := Aside0.mk (below_step (below_drew1 (below_alloc HBr.out (.cells #[.int .i64 b.s, .int .i64 b.v, .int .i64 b.t] 46 (0, 0)))) hb4)
                have HN4 := Aside0.mk (blk_below (show (((wr.alloc (.cells #[.int .i64 b.s, .int .i64 b.v, .int .i64 b.t] 46 (0, 0))).drew)).heap[wr.heap.size]? = _ from blk_new wr (.cells #[.int .i64 b.s, .int .i64 b.v, .int .i64 b.t] 46 (0, 0))) hb4)
                have k4 : w4.cell? ⟨wr.heap.size, 0, none⟩ = some (.int .i64 b.s) ∧ w4.cell? ⟨wr.heap.size, 1, none⟩ = some (.int .i64 b.v) ∧ w4.cell? ⟨wr.heap.size, 2, none⟩ = some (.int .i64 b.t) ∧ w4.cell? ⟨w.heap.size, 1, none⟩ = some (.int .i64 a.v) := ⟨by rw [blk_cell HN4.out]; rfl, by rw [blk_cell HN4.out]; rfl, by rw [blk_cell HN4.out]; rfl, by rw [blk_cell (blk_below HG.out.1 HB4.out)]; rfl⟩
                clear k0 hHeld hb4
                refine hK.out _ _ k4 (fun hHeld => ?_)
                clear hK K
                try simp only [Act.put, List.getElem_toArray, List.getElem_cons_zero, List.getElem_cons_succ, List.setIfInBounds_toArray, List.set_cons_zero, List.set_cons_succ]
                refine wpAnyH_take (i := 3) (v := (.bool true)) rfl (by kernel_rfl) (by kernel_rfl) (by kernel_rfl) (fun _ _ _ h => h) (Or.inl ⟨by rfl, fun w' hSw => ?_⟩) (by assumption) ?_
                · go_simp
                try simp only [Act.put, List.getElem_toArray, List.getElem_cons_zero, List.getElem_cons_succ, List.setIfInBounds_toArray, List.set_cons_zero, List.set_cons_succ]
                refine wpAnyH_take (i := 4) (v := ?_) rfl (by kernel_rfl) (by kernel_rfl) (by kernel_rfl) (fun _ _ _ h => h) (Or.inl ⟨by rfl, ?_⟩) (by assumption) ?_
                rotate_left
                · intro w' hSw; go_simp; with_reducible rfl
                try simp only [Act.put, List.getElem_toArray, List.getElem_cons_zero, List.getElem_cons_succ, List.setIfInBounds_toArray, List.set_cons_zero, List.set_cons_succ]
                refine wpAnyH_take (i := 5) (v := (.int .i64 b.v)) rfl (by kernel_rfl) (by kernel_rfl) (by kernel_rfl) (fun _ _ _ h => h) (Or.inl ⟨by rfl, fun w' hSw => ?_⟩) (by assumption) ?_
                · obtain ⟨s0, s1, s2, s3⟩ := hSw; go_simp
                try simp only [Act.put, List.getElem_toArray, List.getElem_cons_zero, List.getElem_cons_succ, List.setIfInBounds_toArray, List.set_cons_zero, List.set_cons_succ]
                refine wpAnyH_take (i := 6) (v := (.int .i64 f)) rfl (by kernel_rfl) (by kernel_rfl) (by kernel_rfl) (fun _ _ _ h => h) (Or.inl ⟨by rfl, fun w' hSw => ?_⟩) (by assumption) ?_
                · go_simp
                try simp only [Act.put, List.getElem_toArray, List.getElem_cons_zero, List.getElem_cons_succ, List.setIfInBounds_toArray, List.set_cons_zero, List.set_cons_succ]
                refine wpAnyH_take (i := 7) (v := (.bool true)) rfl (by kernel_rfl) (by kernel_rfl) (by kernel_rfl) (fun _ _ _ h => h) (Or.inl ⟨by rfl, fun w' hSw => ?_⟩) (by assumption) ?_
                · go_simp
                try simp only [Act.put, List.getElem_toArray, List.getElem_cons_zero, List.getElem_cons_succ, List.setIfInBounds_toArray, List.set_cons_zero, List.set_cons_succ]
                refine wpAnyH_take (i := 8) (v := (.bool true)) rfl (by kernel_rfl) (by kernel_rfl) (by kernel_rfl) (fun _ _ _ h => h) (Or.inl ⟨by rfl, fun w' hSw => ?_⟩) (by assumption) ?_
                · go_simp
                try simp only [Act.put, List.getElem_toArray, List.getElem_cons_zero, List.getElem_cons_succ, List.setIfInBounds_toArray, List.set_cons_zero, List.set_cons_succ]
                refine wpAnyH_take (i := 9) (v := (.bool true)) rfl (by kernel_rfl) (by kernel_rfl) (by kernel_rfl) (fun _ _ _ h => h) (Or.inl ⟨by rfl, fun w' hSw => ?_⟩) (by assumption) ?_
                · go_simp
                try simp only [Act.put, List.getElem_toArray, List.getElem_cons_zero, List.getElem_cons_succ, List.setIfInBounds_toArray, List.set_cons_zero, List.set_cons_succ]
                refine wpAnyH_take (i := 10) (v := (.int .i64 (-1))) rfl (by kernel_rfl) (by kernel_rfl) (by kernel_rfl) (fun _ _ _ h => h) (Or.inl ⟨by rfl, fun w' hSw => ?_⟩) (by assumption) ?_
                · go_simp
                try simp only [Act.put, List.getElem_toArray, List.getElem_cons_zero, List.getElem_cons_succ, List.setIfInBounds_toArray, List.set_cons_zero, List.set_cons_succ]
                refine wpAnyH_take (i := 11) (v := (.bool true)) rfl (by kernel_rfl) (by kernel_rfl) (by kernel_rfl) (fun _ _ _ h => h) (Or.inl ⟨by rfl, fun w' hSw => ?_⟩) (by assumption) ?_
                · go_simp
                try simp only [Act.put, List.getElem_toArray, List.getElem_cons_zero, List.getElem_cons_succ, List.setIfInBounds_toArray, List.set_cons_zero, List.set_cons_succ]
                refine wpAnyH_take (i := 12) (v := (.bool true)) rfl (by kernel_rfl) (by kernel_rfl) (by kernel_rfl) (fun _ _ _ h => h) (Or.inl ⟨by rfl, fun w' hSw => ?_⟩) (by assumption) ?_
                · go_simp
                try simp only [Act.put, List.getElem_toArray, List.getElem_cons_zero, List.getElem_cons_succ, List.setIfInBounds_toArray, List.set_cons_zero, List.set_cons_succ]
                refine wpAnyH_take (i := 13) (v := undef) rfl (by kernel_rfl) (by kernel_rfl) (by kernel_rfl) (fun _ _ _ h => h) (Or.inr ⟨by rfl, rfl⟩) (by assumption) ?_
                try simp only [Act.put, List.getElem_toArray, List.getElem_cons_zero, List.getElem_cons_succ, List.setIfInBounds_toArray, List.set_cons_zero, List.set_cons_succ]
                refine wpAnyH_take (i := 14) (v := undef) rfl (by kernel_rfl) (by kernel_rfl) (by kernel_rfl) (fun _ _ _ h => h) (Or.inr ⟨by rfl, rfl⟩) (by assumption) ?_
                try simp only [Act.put, List.getElem_toArray, List.getElem_cons_zero, List.getElem_cons_succ, List.setIfInBounds_toArray, List.set_cons_zero, List.set_cons_succ]
                refine wpAnyH_take (i := 15) (v := undef) rfl (by kernel_rfl) (by kernel_rfl) (by kernel_rfl) (fun _ _ _ h => h) (Or.inr ⟨by rfl, rfl⟩) (by assumption) ?_
                try simp only [Act.put, List.getElem_toArray, List.getElem_cons_zero, List.getElem_cons_succ, List.setIfInBounds_toArray, List.set_cons_zero, List.set_cons_succ]
                refine wpAnyH_take (i := 16) (v := undef) rfl (by kernel_rfl) (by kernel_rfl) (by kernel_rfl) (fun _ _ _ h => h) (Or.inr ⟨by rfl, rfl⟩) (by assumption) ?_
                try simp only [Act.put, List.getElem_toArray, List.getElem_cons_zero, List.getElem_cons_succ, List.setIfInBounds_toArray, List.set_cons_zero, List.set_cons_succ]
                refine wpAnyH_take (i := 17) (v := undef) rfl (by kernel_rfl) (by kernel_rfl) (by kernel_rfl) (fun _ _ _ h => h) (Or.inr ⟨by rfl, rfl⟩) (by assumption) ?_
                try simp only [Act.put, List.getElem_toArray, List.getElem_cons_zero, List.getElem_cons_succ, List.setIfInBounds_toArray, List.set_cons_zero, List.set_cons_succ]
                refine wpAnyH_take (i := 18) (v := undef) rfl (by kernel_rfl) (by kernel_rfl) (by kernel_rfl) (fun _ _ _ h => h) (Or.inr ⟨by rfl, rfl⟩) (by assumption) ?_
                try simp only [Act.put, List.getElem_toArray, List.getElem_cons_zero, List.getElem_cons_succ, List.setIfInBounds_toArray, List.set_cons_zero, List.set_cons_succ]
                refine wpAnyH_take (i := 19) (v := undef) rfl (by kernel_rfl) (by kernel_rfl) (by kernel_rfl) (fun _ _ _ h => h) (Or.inr ⟨by rfl, rfl⟩) (by assumption) ?_
                try simp only [Act.put, List.getElem_toArray, List.getElem_cons_zero, List.getElem_cons_succ, List.setIfInBounds_toArray, List.set_cons_zero, List.set_cons_succ]
                refine wpAnyH_take (i := 20) (v := undef) rfl (by kernel_rfl) (by kernel_rfl) (by kernel_rfl) (fun _ _ _ h => h) (Or.inr ⟨by rfl, rfl⟩) (by assumption) ?_
                try simp only [Act.put, List.getElem_toArray, List.getElem_cons_zero, List.getElem_cons_succ, List.setIfInBounds_toArray, List.set_cons_zero, List.set_cons_succ]
                refine wpAnyH_take (i := 21) (v := (.bool true)) rfl (by kernel_rfl) (by kernel_rfl) (by kernel_rfl) (fun _ _ _ h => h) (Or.inl ⟨by rfl, fun w' hSw => ?_⟩) (by assumption) ?_
                · go_simp
                try simp only [Act.put, List.getElem_toArray, List.getElem_cons_zero, List.getElem_cons_succ, List.setIfInBounds_toArray, List.set_cons_zero, List.set_cons_succ]
                refine wpAnyH_take (i := 22) (v := (.bool true)) rfl (by kernel_rfl) (by kernel_rfl) (by kernel_rfl) (fun _ _ _ h => h) (Or.inl ⟨by rfl, fun w' hSw => ?_⟩) (by assumption) ?_
                · go_simp
                try simp only [Act.put, List.getElem_toArray, List.getElem_cons_zero, List.getElem_cons_succ, List.setIfInBounds_toArray, List.set_cons_zero, List.set_cons_succ]
                refine wpAnyH_done (by kernel_rfl) ?_ _
                go_wp2_with fail
                have HE : Aside0 (bst (fun x => decide (pend x)) a b f 2 = 1) := ⟨by have k1 := HM.out; have k2 := HV.out; have k3 := HT.out; unfold bst best; simp [HW.out, HM.out, HV.out, HT.out] <;> omega⟩
                first
                | exact ⟨⟨2, by go_num, by omega, by rw [HE.out], HB4⟩, by simp [intOf]⟩
                | (refine ⟨?_, ?_⟩
                   · repeat apply Exists.intro
                     refine ⟨?_, ?_⟩
                     rotate_left
                     · repeat' (first | exact rfl | apply And.intro)
                     first | exact ⟨2, by go_num, by omega, by rw [HE.out], HB4⟩ | exact ⟨2, by go_num, by omega, by rw [HE.out]⟩
                   · simp [intOf])
              · have HV := Aside0.mk hv
                have hd : decide (f ≤ b.v) = false := decide_eq_false hv
                have k0 : ((wr.alloc (.cells #[.int .i64 b.s, .int .i64 b.v, .int .i64 b.t] 46 (0, 0))).drew).cell? ⟨wr.heap.size, 0, none⟩ = some (.int .i64 b.s) ∧ ((wr.alloc (.cells #[.int .i64 b.s, .int .i64 b.v, .int .i64 b.t] 46 (0, 0))).drew).cell? ⟨wr.heap.size, 1, none⟩ = some (.int .i64 b.v) ∧ ((wr.alloc (.cells #[.int .i64 b.s, .int .i64 b.v, .int .i64 b.t] 46 (0, 0))).drew).cell? ⟨wr.heap.size, 2, none⟩ = some (.int .i64 b.t) ∧ ((wr.alloc (.cells #[.int .i64 b.s, .int .i64 b.v, .int .i64 b.t] 46 (0, 0))).drew).cell? ⟨w.heap.size, 1, none⟩ = some (.int .i64 a.v) := ⟨by rw [blk_cell (show (((wr.alloc (.cells #[.int .i64 b.s, .int .i64 b.v, .int .i64 b.t] 46 (0, 0))).drew)).heap[wr.heap.size]? = _ from blk_new wr (.cells #[.int .i64 b.s, .int .i64 b.v, .int .i64 b.t] 46 (0, 0)))]; rfl, by rw [blk_cell (show (((wr.alloc (.cells #[.int .i64 b.s, .int .i64 b.v, .int .i64 b.t] 46 (0, 0))).drew)).heap[wr.heap.size]? = _ from blk_new wr (.cells #[.int .i64 b.s, .int .i64 b.v, .int .i64 b.t] 46 (0, 0)))]; rfl, by rw [blk_cell (show (((wr.alloc (.cells #[.int .i64 b.s, .int .i64 b.v, .int .i64 b.t] 46 (0, 0))).drew)).heap[wr.heap.size]? = _ from blk_new wr (.cells #[.int .i64 b.s, .int .i64 b.v, .int .i64 b.t] 46 (0, 0)))]; rfl, by rw [blk_cell (show (((wr.alloc (.cells #[.int .i64 b.s, .int .i64 b.v, .int .i64 b.t] 46 (0, 0))).drew)).heap[w.heap.size]? = _ from blk_alloc (blk_below HG.out.1 HBr.out) (.cells #[.int .i64 b.s, .int .i64 b.v, .int .i64 b.t] 46 (0, 0)))]; rfl⟩
                refine wp_region_held_drew (S := fun w' => w'.cell? ⟨wr.heap.size, 0, none⟩ = some (.int .i64 b.s) ∧ w'.cell? ⟨wr.heap.size, 1, none⟩ = some (.int .i64 b.v) ∧ w'.cell? ⟨wr.heap.size, 2, none⟩ = some (.int .i64 b.t) ∧ w'.cell? ⟨w.heap.size, 1, none⟩ = some (.int .i64 a.v)) (by kernel_rfl) k0 (fun hHeld => ?_)
                refine wpAnyH_take (i := 0) (v := (.func (.func 71) #[] #[])) rfl (by kernel_rfl) (by kernel_rfl) (by kernel_rfl) (fun _ _ _ h => h) (Or.inl ⟨by rfl, fun w' hSw => ?_⟩) (by assumption) ?_
                · go_simp
                try simp only [Act.put, List.getElem_toArray, List.getElem_cons_zero, List.getElem_cons_succ, List.setIfInBounds_toArray, List.set_cons_zero, List.set_cons_succ]
                refine wpAnyH_take (i := 1) (v := (slV b)) rfl (by kernel_rfl) (by kernel_rfl) (by kernel_rfl) (fun _ _ _ h => h) (Or.inl ⟨by rfl, fun w' hSw => ?_⟩) (by assumption) ?_
                · obtain ⟨s0, s1, s2, s3⟩ := hSw; go_simp
                try simp only [Act.put, List.getElem_toArray, List.getElem_cons_zero, List.getElem_cons_succ, List.setIfInBounds_toArray, List.set_cons_zero, List.set_cons_succ]
                refine wpAnyH_ready (rs := [2]) (by kernel_rfl) (by simp) ?_
                refine AllReadyH.cons rfl (fun K hK => ?_) AllReadyH.nil
                go_simp
                go_at_call 71
                refine (pending_any b _).mono ?_
                rintro e w4 ⟨rfl, hb4⟩
                simp only [hm, decide_true, decide_false]
                have HB4 := Aside0.mk (below_step (below_drew1 (below_alloc HBr.out (.cells #[.int .i64 b.s, .int .i64 b.v, .int .i64 b.t] 46 (0, 0)))) hb4)
                have HN4 := Aside0.mk (blk_below (show (((wr.alloc (.cells #[.int .i64 b.s, .int .i64 b.v, .int .i64 b.t] 46 (0, 0))).drew)).heap[wr.heap.size]? = _ from blk_new wr (.cells #[.int .i64 b.s, .int .i64 b.v, .int .i64 b.t] 46 (0, 0))) hb4)
                have k4 : w4.cell? ⟨wr.heap.size, 0, none⟩ = some (.int .i64 b.s) ∧ w4.cell? ⟨wr.heap.size, 1, none⟩ = some (.int .i64 b.v) ∧ w4.cell? ⟨wr.heap.size, 2, none⟩ = some (.int .i64 b.t) ∧ w4.cell? ⟨w.heap.size, 1, none⟩ = some (.int .i64 a.v) := ⟨by rw [blk_cell HN4.out]; rfl, by rw [blk_cell HN4.out]; rfl, by rw [blk_cell HN4.out]; rfl, by rw [blk_cell (blk_below HG.out.1 HB4.out)]; rfl⟩
                clear k0 hHeld hb4
                refine hK.out _ _ k4 (fun hHeld => ?_)
                clear hK K
                try simp only [Act.put, List.getElem_toArray, List.getElem_cons_zero, List.getElem_cons_succ, List.setIfInBounds_toArray, List.set_cons_zero, List.set_cons_succ]
                refine wpAnyH_take (i := 3) (v := (.bool true)) rfl (by kernel_rfl) (by kernel_rfl) (by kernel_rfl) (fun _ _ _ h => h) (Or.inl ⟨by rfl, fun w' hSw => ?_⟩) (by assumption) ?_
                · go_simp
                try simp only [Act.put, List.getElem_toArray, List.getElem_cons_zero, List.getElem_cons_succ, List.setIfInBounds_toArray, List.set_cons_zero, List.set_cons_succ]
                refine wpAnyH_take (i := 4) (v := ?_) rfl (by kernel_rfl) (by kernel_rfl) (by kernel_rfl) (fun _ _ _ h => h) (Or.inl ⟨by rfl, ?_⟩) (by assumption) ?_
                rotate_left
                · intro w' hSw; go_simp; with_reducible rfl
                try simp only [Act.put, List.getElem_toArray, List.getElem_cons_zero, List.getElem_cons_succ, List.setIfInBounds_toArray, List.set_cons_zero, List.set_cons_succ]
                refine wpAnyH_take (i := 5) (v := (.int .i64 b.v)) rfl (by kernel_rfl) (by kernel_rfl) (by kernel_rfl) (fun _ _ _ h => h) (Or.inl ⟨by rfl, fun w' hSw => ?_⟩) (by assumption) ?_
                · obtain ⟨s0, s1, s2, s3⟩ := hSw; go_simp
                try simp only [Act.put, List.getElem_toArray, List.getElem_cons_zero, List.getElem_cons_succ, List.setIfInBounds_toArray, List.set_cons_zero, List.set_cons_succ]
                refine wpAnyH_take (i := 6) (v := (.int .i64 f)) rfl (by kernel_rfl) (by kernel_rfl) (by kernel_rfl) (fun _ _ _ h => h) (Or.inl ⟨by rfl, fun w' hSw => ?_⟩) (by assumption) ?_
                · go_simp
                try simp only [Act.put, List.getElem_toArray, List.getElem_cons_zero, List.getElem_cons_succ, List.setIfInBounds_toArray, List.set_cons_zero, List.set_cons_succ]
                refine wpAnyH_take (i := 7) (v := (.bool false)) rfl (by kernel_rfl) (by kernel_rfl) (by kernel_rfl) (fun _ _ _ h => h) (Or.inl ⟨by rfl, fun w' hSw => ?_⟩) (by assumption) ?_
                · go_simp
                try simp only [Act.put, List.getElem_toArray, List.getElem_cons_zero, List.getElem_cons_succ, List.setIfInBounds_toArray, List.set_cons_zero, List.set_cons_succ]
                refine wpAnyH_take (i := 8) (v := (.bool false)) rfl (by kernel_rfl) (by kernel_rfl) (by kernel_rfl) (fun _ _ _ h => h) (Or.inl ⟨by rfl, fun w' hSw => ?_⟩) (by assumption) ?_
                · go_simp
                try simp only [Act.put, List.getElem_toArray, List.getElem_cons_zero, List.getElem_cons_succ, List.setIfInBounds_toArray, List.set_cons_zero, List.set_cons_succ]
                refine wpAnyH_take (i := 9) (v := (.bool false)) rfl (by kernel_rfl) (by kernel_rfl) (by kernel_rfl) (fun _ _ _ h => h) (Or.inl ⟨by rfl, fun w' hSw => ?_⟩) (by assumption) ?_
                · go_simp
                try simp only [Act.put, List.getElem_toArray, List.getElem_cons_zero, List.getElem_cons_succ, List.setIfInBounds_toArray, List.set_cons_zero, List.set_cons_succ]
                refine wpAnyH_take (i := 10) (v := undef) rfl (by kernel_rfl) (by kernel_rfl) (by kernel_rfl) (fun _ _ _ h => h) (Or.inr ⟨by rfl, rfl⟩) (by assumption) ?_
                try simp only [Act.put, List.getElem_toArray, List.getElem_cons_zero, List.getElem_cons_succ, List.setIfInBounds_toArray, List.set_cons_zero, List.set_cons_succ]
                refine wpAnyH_take (i := 11) (v := undef) rfl (by kernel_rfl) (by kernel_rfl) (by kernel_rfl) (fun _ _ _ h => h) (Or.inr ⟨by rfl, rfl⟩) (by assumption) ?_
                try simp only [Act.put, List.getElem_toArray, List.getElem_cons_zero, List.getElem_cons_succ, List.setIfInBounds_toArray, List.set_cons_zero, List.set_cons_succ]
                refine wpAnyH_take (i := 12) (v := undef) rfl (by kernel_rfl) (by kernel_rfl) (by kernel_rfl) (fun _ _ _ h => h) (Or.inr ⟨by rfl, rfl⟩) (by assumption) ?_
                try simp only [Act.put, List.getElem_toArray, List.getElem_cons_zero, List.getElem_cons_succ, List.setIfInBounds_toArray, List.set_cons_zero, List.set_cons_succ]
                refine wpAnyH_take (i := 13) (v := undef) rfl (by kernel_rfl) (by kernel_rfl) (by kernel_rfl) (fun _ _ _ h => h) (Or.inr ⟨by rfl, rfl⟩) (by assumption) ?_
                try simp only [Act.put, List.getElem_toArray, List.getElem_cons_zero, List.getElem_cons_succ, List.setIfInBounds_toArray, List.set_cons_zero, List.set_cons_succ]
                refine wpAnyH_take (i := 14) (v := undef) rfl (by kernel_rfl) (by kernel_rfl) (by kernel_rfl) (fun _ _ _ h => h) (Or.inr ⟨by rfl, rfl⟩) (by assumption) ?_
                try simp only [Act.put, List.getElem_toArray, List.getElem_cons_zero, List.getElem_cons_succ, List.setIfInBounds_toArray, List.set_cons_zero, List.set_cons_succ]
                refine wpAnyH_take (i := 15) (v := undef) rfl (by kernel_rfl) (by kernel_rfl) (by kernel_rfl) (fun _ _ _ h => h) (Or.inr ⟨by rfl, rfl⟩) (by assumption) ?_
                try simp only [Act.put, List.getElem_toArray, List.getElem_cons_zero, List.getElem_cons_succ, List.setIfInBounds_toArray, List.set_cons_zero, List.set_cons_succ]
                refine wpAnyH_take (i := 16) (v := undef) rfl (by kernel_rfl) (by kernel_rfl) (by kernel_rfl) (fun _ _ _ h => h) (Or.inr ⟨by rfl, rfl⟩) (by assumption) ?_
                try simp only [Act.put, List.getElem_toArray, List.getElem_cons_zero, List.getElem_cons_succ, List.setIfInBounds_toArray, List.set_cons_zero, List.set_cons_succ]
                refine wpAnyH_take (i := 17) (v := undef) rfl (by kernel_rfl) (by kernel_rfl) (by kernel_rfl) (fun _ _ _ h => h) (Or.inr ⟨by rfl, rfl⟩) (by assumption) ?_
                try simp only [Act.put, List.getElem_toArray, List.getElem_cons_zero, List.getElem_cons_succ, List.setIfInBounds_toArray, List.set_cons_zero, List.set_cons_succ]
                refine wpAnyH_take (i := 18) (v := undef) rfl (by kernel_rfl) (by kernel_rfl) (by kernel_rfl) (fun _ _ _ h => h) (Or.inr ⟨by rfl, rfl⟩) (by assumption) ?_
                try simp only [Act.put, List.getElem_toArray, List.getElem_cons_zero, List.getElem_cons_succ, List.setIfInBounds_toArray, List.set_cons_zero, List.set_cons_succ]
                refine wpAnyH_take (i := 19) (v := undef) rfl (by kernel_rfl) (by kernel_rfl) (by kernel_rfl) (fun _ _ _ h => h) (Or.inr ⟨by rfl, rfl⟩) (by assumption) ?_
                try simp only [Act.put, List.getElem_toArray, List.getElem_cons_zero, List.getElem_cons_succ, List.setIfInBounds_toArray, List.set_cons_zero, List.set_cons_succ]
                refine wpAnyH_take (i := 20) (v := undef) rfl (by kernel_rfl) (by kernel_rfl) (by kernel_rfl) (fun _ _ _ h => h) (Or.inr ⟨by rfl, rfl⟩) (by assumption) ?_
                try simp only [Act.put, List.getElem_toArray, List.getElem_cons_zero, List.getElem_cons_succ, List.setIfInBounds_toArray, List.set_cons_zero, List.set_cons_succ]
                refine wpAnyH_take (i := 21) (v := undef) rfl (by kernel_rfl) (by kernel_rfl) (by kernel_rfl) (fun _ _ _ h => h) (Or.inr ⟨by rfl, rfl⟩) (by assumption) ?_
                try simp only [Act.put, List.getElem_toArray, List.getElem_cons_zero, List.getElem_cons_succ, List.setIfInBounds_toArray, List.set_cons_zero, List.set_cons_succ]
                refine wpAnyH_take (i := 22) (v := (.bool false)) rfl (by kernel_rfl) (by kernel_rfl) (by kernel_rfl) (fun _ _ _ h => h) (Or.inl ⟨by rfl, fun w' hSw => ?_⟩) (by assumption) ?_
                · go_simp
                try simp only [Act.put, List.getElem_toArray, List.getElem_cons_zero, List.getElem_cons_succ, List.setIfInBounds_toArray, List.set_cons_zero, List.set_cons_succ]
                refine wpAnyH_done (by kernel_rfl) ?_ _
                go_wp2_with fail
                have HE : Aside0 (bst (fun x => decide (pend x)) a b f 2 = -1) := ⟨by have k1 := HM.out; have k2 := HV.out; have k3 := HT.out; unfold bst best; simp [HW.out, HM.out, HV.out, HT.out] <;> omega⟩
                first
                | exact ⟨⟨2, by go_num, by omega, by rw [HE.out], HB4⟩, by simp [intOf]⟩
                | (refine ⟨?_, ?_⟩
                   · repeat apply Exists.intro
                     refine ⟨?_, ?_⟩
                     rotate_left
                     · repeat' (first | exact rfl | apply And.intro)
                     first | exact ⟨2, by go_num, by omega, by rw [HE.out], HB4⟩ | exact ⟨2, by go_num, by omega, by rw [HE.out]⟩
                   · simp [intOf])
            · have HM := Aside0.mk hm
              have HV := HM
              have k0 : ((wr.alloc (.cells #[.int .i64 b.s, .int .i64 b.v, .int .i64 b.t] 46 (0, 0))).drew).cell? ⟨wr.heap.size, 0, none⟩ = some (.int .i64 b.s) ∧ ((wr.alloc (.cells #[.int .i64 b.s, .int .i64 b.v, .int .i64 b.t] 46 (0, 0))).drew).cell? ⟨wr.heap.size, 1, none⟩ = some (.int .i64 b.v) ∧ ((wr.alloc (.cells #[.int .i64 b.s, .int .i64 b.v, .int .i64 b.t] 46 (0, 0))).drew).cell? ⟨wr.heap.size, 2, none⟩ = some (.int .i64 b.t) ∧ ((wr.alloc (.cells #[.int .i64 b.s, .int .i64 b.v, .int .i64 b.t] 46 (0, 0))).drew).cell? ⟨w.heap.size, 1, none⟩ = some (.int .i64 a.v) := ⟨by rw [blk_cell (show (((wr.alloc (.cells #[.int .i64 b.s, .int .i64 b.v, .int .i64 b.t] 46 (0, 0))).drew)).heap[wr.heap.size]? = _ from blk_new wr (.cells #[.int .i64 b.s, .int .i64 b.v, .int .i64 b.t] 46 (0, 0)))]; rfl, by rw [blk_cell (show (((wr.alloc (.cells #[.int .i64 b.s, .int .i64 b.v, .int .i64 b.t] 46 (0, 0))).drew)).heap[wr.heap.size]? = _ from blk_new wr (.cells #[.int .i64 b.s, .int .i64 b.v, .int .i64 b.t] 46 (0, 0)))]; rfl, by rw [blk_cell (show (((wr.alloc (.cells #[.int .i64 b.s, .int .i64 b.v, .int .i64 b.t] 46 (0, 0))).drew)).heap[wr.heap.size]? = _ from blk_new wr (.cells #[.int .i64 b.s, .int .i64 b.v, .int .i64 b.t] 46 (0, 0)))]; rfl, by rw [blk_cell (show (((wr.alloc (.cells #[.int .i64 b.s, .int .i64 b.v, .int .i64 b.t] 46 (0, 0))).drew)).heap[w.heap.size]? = _ from blk_alloc (blk_below HG.out.1 HBr.out) (.cells #[.int .i64 b.s, .int .i64 b.v, .int .i64 b.t] 46 (0, 0)))]; rfl⟩
              refine wp_region_held_drew (S := fun w' => w'.cell? ⟨wr.heap.size, 0, none⟩ = some (.int .i64 b.s) ∧ w'.cell? ⟨wr.heap.size, 1, none⟩ = some (.int .i64 b.v) ∧ w'.cell? ⟨wr.heap.size, 2, none⟩ = some (.int .i64 b.t) ∧ w'.cell? ⟨w.heap.size, 1, none⟩ = some (.int .i64 a.v)) (by kernel_rfl) k0 (fun hHeld => ?_)
              refine wpAnyH_take (i := 0) (v := (.func (.func 71) #[] #[])) rfl (by kernel_rfl) (by kernel_rfl) (by kernel_rfl) (fun _ _ _ h => h) (Or.inl ⟨by rfl, fun w' hSw => ?_⟩) (by assumption) ?_
              · go_simp
              try simp only [Act.put, List.getElem_toArray, List.getElem_cons_zero, List.getElem_cons_succ, List.setIfInBounds_toArray, List.set_cons_zero, List.set_cons_succ]
              refine wpAnyH_take (i := 1) (v := (slV b)) rfl (by kernel_rfl) (by kernel_rfl) (by kernel_rfl) (fun _ _ _ h => h) (Or.inl ⟨by rfl, fun w' hSw => ?_⟩) (by assumption) ?_
              · obtain ⟨s0, s1, s2, s3⟩ := hSw; go_simp
              try simp only [Act.put, List.getElem_toArray, List.getElem_cons_zero, List.getElem_cons_succ, List.setIfInBounds_toArray, List.set_cons_zero, List.set_cons_succ]
              refine wpAnyH_ready (rs := [2]) (by kernel_rfl) (by simp) ?_
              refine AllReadyH.cons rfl (fun K hK => ?_) AllReadyH.nil
              go_simp
              go_at_call 71
              refine (pending_any b _).mono ?_
              rintro e w4 ⟨rfl, hb4⟩
              simp only [hm, decide_true, decide_false]
              have HB4 := Aside0.mk (below_step (below_drew1 (below_alloc HBr.out (.cells #[.int .i64 b.s, .int .i64 b.v, .int .i64 b.t] 46 (0, 0)))) hb4)
              have HN4 := Aside0.mk (blk_below (show (((wr.alloc (.cells #[.int .i64 b.s, .int .i64 b.v, .int .i64 b.t] 46 (0, 0))).drew)).heap[wr.heap.size]? = _ from blk_new wr (.cells #[.int .i64 b.s, .int .i64 b.v, .int .i64 b.t] 46 (0, 0))) hb4)
              have k4 : w4.cell? ⟨wr.heap.size, 0, none⟩ = some (.int .i64 b.s) ∧ w4.cell? ⟨wr.heap.size, 1, none⟩ = some (.int .i64 b.v) ∧ w4.cell? ⟨wr.heap.size, 2, none⟩ = some (.int .i64 b.t) ∧ w4.cell? ⟨w.heap.size, 1, none⟩ = some (.int .i64 a.v) := ⟨by rw [blk_cell HN4.out]; rfl, by rw [blk_cell HN4.out]; rfl, by rw [blk_cell HN4.out]; rfl, by rw [blk_cell (blk_below HG.out.1 HB4.out)]; rfl⟩
              clear k0 hHeld hb4
              refine hK.out _ _ k4 (fun hHeld => ?_)
              clear hK K
              try simp only [Act.put, List.getElem_toArray, List.getElem_cons_zero, List.getElem_cons_succ, List.setIfInBounds_toArray, List.set_cons_zero, List.set_cons_succ]
              refine wpAnyH_take (i := 3) (v := (.bool false)) rfl (by kernel_rfl) (by kernel_rfl) (by kernel_rfl) (fun _ _ _ h => h) (Or.inl ⟨by rfl, fun w' hSw => ?_⟩) (by assumption) ?_
              · go_simp
              try simp only [Act.put, List.getElem_toArray, List.getElem_cons_zero, List.getElem_cons_succ, List.setIfInBounds_toArray, List.set_cons_zero, List.set_cons_succ]
              refine wpAnyH_take (i := 4) (v := undef) rfl (by kernel_rfl) (by kernel_rfl) (by kernel_rfl) (fun _ _ _ h => h) (Or.inr ⟨by rfl, rfl⟩) (by assumption) ?_
              try simp only [Act.put, List.getElem_toArray, List.getElem_cons_zero, List.getElem_cons_succ, List.setIfInBounds_toArray, List.set_cons_zero, List.set_cons_succ]
              refine wpAnyH_take (i := 5) (v := undef) rfl (by kernel_rfl) (by kernel_rfl) (by kernel_rfl) (fun _ _ _ h => h) (Or.inr ⟨by rfl, rfl⟩) (by assumption) ?_
              try simp only [Act.put, List.getElem_toArray, List.getElem_cons_zero, List.getElem_cons_succ, List.setIfInBounds_toArray, List.set_cons_zero, List.set_cons_succ]
              refine wpAnyH_take (i := 6) (v := undef) rfl (by kernel_rfl) (by kernel_rfl) (by kernel_rfl) (fun _ _ _ h => h) (Or.inr ⟨by rfl, rfl⟩) (by assumption) ?_
              try simp only [Act.put, List.getElem_toArray, List.getElem_cons_zero, List.getElem_cons_succ, List.setIfInBounds_toArray, List.set_cons_zero, List.set_cons_succ]
              refine wpAnyH_take (i := 7) (v := undef) rfl (by kernel_rfl) (by kernel_rfl) (by kernel_rfl) (fun _ _ _ h => h) (Or.inr ⟨by rfl, rfl⟩) (by assumption) ?_
              try simp only [Act.put, List.getElem_toArray, List.getElem_cons_zero, List.getElem_cons_succ, List.setIfInBounds_toArray, List.set_cons_zero, List.set_cons_succ]
              refine wpAnyH_take (i := 8) (v := (.bool false)) rfl (by kernel_rfl) (by kernel_rfl) (by kernel_rfl) (fun _ _ _ h => h) (Or.inl ⟨by rfl, fun w' hSw => ?_⟩) (by assumption) ?_
              · go_simp
              try simp only [Act.put, List.getElem_toArray, List.getElem_cons_zero, List.getElem_cons_succ, List.setIfInBounds_toArray, List.set_cons_zero, List.set_cons_succ]
              refine wpAnyH_take (i := 9) (v := (.bool false)) rfl (by kernel_rfl) (by kernel_rfl) (by kernel_rfl) (fun _ _ _ h => h) (Or.inl ⟨by rfl, fun w' hSw => ?_⟩) (by assumption) ?_
              · go_simp
              try simp only [Act.put, List.getElem_toArray, List.getElem_cons_zero, List.getElem_cons_succ, List.setIfInBounds_toArray, List.set_cons_zero, List.set_cons_succ]
              refine wpAnyH_take (i := 10) (v := undef) rfl (by kernel_rfl) (by kernel_rfl) (by kernel_rfl) (fun _ _ _ h => h) (Or.inr ⟨by rfl, rfl⟩) (by assumption) ?_
              try simp only [Act.put, List.getElem_toArray, List.getElem_cons_zero, List.getElem_cons_succ, List.setIfInBounds_toArray, List.set_cons_zero, List.set_cons_succ]
              refine wpAnyH_take (i := 11) (v := undef) rfl (by kernel_rfl) (by kernel_rfl) (by kernel_rfl) (fun _ _ _ h => h) (Or.inr ⟨by rfl, rfl⟩) (by assumption) ?_
              try simp only [Act.put, List.getElem_toArray, List.getElem_cons_zero, List.getElem_cons_succ, List.setIfInBounds_toArray, List.set_cons_zero, List.set_cons_succ]
              refine wpAnyH_take (i := 12) (v := undef) rfl (by kernel_rfl) (by kernel_rfl) (by kernel_rfl) (fun _ _ _ h => h) (Or.inr ⟨by rfl, rfl⟩) (by assumption) ?_
              try simp only [Act.put, List.getElem_toArray, List.getElem_cons_zero, List.getElem_cons_succ, List.setIfInBounds_toArray, List.set_cons_zero, List.set_cons_succ]
              refine wpAnyH_take (i := 13) (v := undef) rfl (by kernel_rfl) (by kernel_rfl) (by kernel_rfl) (fun _ _ _ h => h) (Or.inr ⟨by rfl, rfl⟩) (by assumption) ?_
              try simp only [Act.put, List.getElem_toArray, List.getElem_cons_zero, List.getElem_cons_succ, List.setIfInBounds_toArray, List.set_cons_zero, List.set_cons_succ]
              refine wpAnyH_take (i := 14) (v := undef) rfl (by kernel_rfl) (by kernel_rfl) (by kernel_rfl) (fun _ _ _ h => h) (Or.inr ⟨by rfl, rfl⟩) (by assumption) ?_
              try simp only [Act.put, List.getElem_toArray, List.getElem_cons_zero, List.getElem_cons_succ, List.setIfInBounds_toArray, List.set_cons_zero, List.set_cons_succ]
              refine wpAnyH_take (i := 15) (v := undef) rfl (by kernel_rfl) (by kernel_rfl) (by kernel_rfl) (fun _ _ _ h => h) (Or.inr ⟨by rfl, rfl⟩) (by assumption) ?_
              try simp only [Act.put, List.getElem_toArray, List.getElem_cons_zero, List.getElem_cons_succ, List.setIfInBounds_toArray, List.set_cons_zero, List.set_cons_succ]
              refine wpAnyH_take (i := 16) (v := undef) rfl (by kernel_rfl) (by kernel_rfl) (by kernel_rfl) (fun _ _ _ h => h) (Or.inr ⟨by rfl, rfl⟩) (by assumption) ?_
              try simp only [Act.put, List.getElem_toArray, List.getElem_cons_zero, List.getElem_cons_succ, List.setIfInBounds_toArray, List.set_cons_zero, List.set_cons_succ]
              refine wpAnyH_take (i := 17) (v := undef) rfl (by kernel_rfl) (by kernel_rfl) (by kernel_rfl) (fun _ _ _ h => h) (Or.inr ⟨by rfl, rfl⟩) (by assumption) ?_
              try simp only [Act.put, List.getElem_toArray, List.getElem_cons_zero, List.getElem_cons_succ, List.setIfInBounds_toArray, List.set_cons_zero, List.set_cons_succ]
              refine wpAnyH_take (i := 18) (v := undef) rfl (by kernel_rfl) (by kernel_rfl) (by kernel_rfl) (fun _ _ _ h => h) (Or.inr ⟨by rfl, rfl⟩) (by assumption) ?_
              try simp only [Act.put, List.getElem_toArray, List.getElem_cons_zero, List.getElem_cons_succ, List.setIfInBounds_toArray, List.set_cons_zero, List.set_cons_succ]
              refine wpAnyH_take (i := 19) (v := undef) rfl (by kernel_rfl) (by kernel_rfl) (by kernel_rfl) (fun _ _ _ h => h) (Or.inr ⟨by rfl, rfl⟩) (by assumption) ?_
              try simp only [Act.put, List.getElem_toArray, List.getElem_cons_zero, List.getElem_cons_succ, List.setIfInBounds_toArray, List.set_cons_zero, List.set_cons_succ]
              refine wpAnyH_take (i := 20) (v := undef) rfl (by kernel_rfl) (by kernel_rfl) (by kernel_rfl) (fun _ _ _ h => h) (Or.inr ⟨by rfl, rfl⟩) (by assumption) ?_
              try simp only [Act.put, List.getElem_toArray, List.getElem_cons_zero, List.getElem_cons_succ, List.setIfInBounds_toArray, List.set_cons_zero, List.set_cons_succ]
              refine wpAnyH_take (i := 21) (v := undef) rfl (by kernel_rfl) (by kernel_rfl) (by kernel_rfl) (fun _ _ _ h => h) (Or.inr ⟨by rfl, rfl⟩) (by assumption) ?_
              try simp only [Act.put, List.getElem_toArray, List.getElem_cons_zero, List.getElem_cons_succ, List.setIfInBounds_toArray, List.set_cons_zero, List.set_cons_succ]
              refine wpAnyH_take (i := 22) (v := (.bool false)) rfl (by kernel_rfl) (by kernel_rfl) (by kernel_rfl) (fun _ _ _ h => h) (Or.inl ⟨by rfl, fun w' hSw => ?_⟩) (by assumption) ?_
              · go_simp
              try simp only [Act.put, List.getElem_toArray, List.getElem_cons_zero, List.getElem_cons_succ, List.setIfInBounds_toArray, List.set_cons_zero, List.set_cons_succ]
              refine wpAnyH_done (by kernel_rfl) ?_ _
              go_wp2_with fail
              have HE : Aside0 (bst (fun x => decide (pend x)) a b f 2 = -1) := ⟨by have k1 := HM.out; have k2 := HV.out; have k3 := HT.out; unfold bst best; simp [HW.out, HM.out, HV.out, HT.out] <;> omega⟩
              first
              | exact ⟨⟨2, by go_num, by omega, by rw [HE.out], HB4⟩, by simp [intOf]⟩
              | (refine ⟨?_, ?_⟩
                 · repeat apply Exists.intro
                   refine ⟨?_, ?_⟩
                   rotate_left
                   · repeat' (first | exact rfl | apply And.intro)
                   first | exact ⟨2, by go_num, by omega, by rw [HE.out], HB4⟩ | exact ⟨2, by go_num, by omega, by rw [HE.out]⟩
                 · simp [intOf])
        · have hb2 : bst (fun x => decide (pend x)) a b f 2 = best (fun x => decide (pend x)) a b f := rfl
          rcases best_three (fun x => decide (pend x)) a b f with hbe | hbe | hbe
          · have HBE := Aside0.mk hbe
            rw [hb2, hbe]
            clear hb2 hbe
            go_wp2_with fail
            first
            | exact ⟨⟨1, by go_num, by omega, ⟨fun _ => by rw [HBE.out]; decide⟩, ⟨fun h => absurd h (by omega)⟩, HBr⟩, by simp [intOf]⟩
            | (refine ⟨?_, ?_⟩
               · repeat apply Exists.intro
                 refine ⟨?_, ?_⟩
                 rotate_left
                 · repeat' (first | exact rfl | apply And.intro)
                 first | exact ⟨1, by go_num, by omega, ⟨fun _ => by rw [HBE.out]; decide⟩, ⟨fun h => absurd h (by omega)⟩, HBr⟩ | exact ⟨1, by go_num, by omega, ⟨fun _ => by rw [HBE.out]; decide⟩, ⟨fun h => absurd h (by omega)⟩⟩
               · simp [intOf])
          · have HBE := Aside0.mk hbe
            rw [hb2, hbe]
            clear hb2 hbe
            go_wp2_with fail
            go_ret
            exact ⟨by (rw [cho_best, if_neg (by rw [HBE.out]; decide), HBE.out]; try rfl), below_step HB0.out HBr.out⟩
          · have HBE := Aside0.mk hbe
            rw [hb2, hbe]
            clear hb2 hbe
            go_wp2_with fail
            go_ret
            exact ⟨by (rw [cho_best, if_neg (by rw [HBE.out]; decide), HBE.out]; try rfl), below_step HB0.out HBr.out⟩
    · have hfn : wr.cell? ⟨w.heap.size + 1, 1, none⟩ = some (.func (.func 73) #[] #[]) := by rw [blk_cell (blk_below HG.out.2 HBr.out)]; rfl
      have hcs : ∀ j : Nat, wr.cell? ⟨w.heap.size, j, none⟩ = (#[Value.int IntKind.i64 a.s, Value.int IntKind.i64 a.v, Value.int IntKind.i64 a.t, Value.int IntKind.i64 b.s, Value.int IntKind.i64 b.v, Value.int IntKind.i64 b.t] : Array Value)[j]? := fun j => blk_cell (blk_below HG.out.1 HBr.out) j
      have c0 : wr.cell? ⟨w.heap.size, 0, none⟩ = some (.int .i64 a.s) := hcs 0
      have c1 : wr.cell? ⟨w.heap.size, 1, none⟩ = some (.int .i64 a.v) := hcs 1
      have c2 : wr.cell? ⟨w.heap.size, 2, none⟩ = some (.int .i64 a.t) := hcs 2
      have c3 : wr.cell? ⟨w.heap.size, 3, none⟩ = some (.int .i64 b.s) := hcs 3
      have c4 : wr.cell? ⟨w.heap.size, 4, none⟩ = some (.int .i64 b.v) := hcs 4
      have c5 : wr.cell? ⟨w.heap.size, 5, none⟩ = some (.int .i64 b.t) := hcs 5
      clear hcs
      go_wp2_with fail
      clear hfn c0 c1 c2 c3 c4 c5
      go_loopw [7, 18] (fun x7 x18 wq => ∃ j : Nat, x18 = .int .i64 (j : Int) ∧ j ≤ 2 ∧ x7 = .int .i64 (bst (fun x => decide (conf x)) a b f j) ∧ Aside0 (Below W0.heap.size W0 wq)) (fun _ i _ => 2 - (intOf i).toNat)
      case atStart => exact ⟨0, rfl, by omega, rfl, HBr⟩
      case round =>
        clear HBr
        obtain ⟨j, rfl, hj, rfl, HBr⟩ := hrel
        obtain rfl | rfl | rfl : j = 0 ∨ j = 1 ∨ j = 2 := by omega
        · have hb0 : bst (fun x => decide (conf x)) a b f 0 = -1 := rfl
          rw [hb0]
          clear hb0
          go_wp2_with fail
          by_cases hm : conf a
          · have HM := Aside0.mk hm
            by_cases hv : f ≤ a.v
            · have HV := Aside0.mk hv
              have hd : decide (f ≤ a.v) = true := decide_eq_true hv
              have k0 : ((wr.alloc (.cells #[.int .i64 a.s, .int .i64 a.v, .int .i64 a.t] 46 (0, 0))).drew).cell? ⟨wr.heap.size, 0, none⟩ = some (.int .i64 a.s) ∧ ((wr.alloc (.cells #[.int .i64 a.s, .int .i64 a.v, .int .i64 a.t] 46 (0, 0))).drew).cell? ⟨wr.heap.size, 1, none⟩ = some (.int .i64 a.v) ∧ ((wr.alloc (.cells #[.int .i64 a.s, .int .i64 a.v, .int .i64 a.t] 46 (0, 0))).drew).cell? ⟨wr.heap.size, 2, none⟩ = some (.int .i64 a.t) ∧ ((wr.alloc (.cells #[.int .i64 a.s, .int .i64 a.v, .int .i64 a.t] 46 (0, 0))).drew).cell? ⟨w.heap.size, 1, none⟩ = some (.int .i64 a.v) := ⟨by rw [blk_cell (show (((wr.alloc (.cells #[.int .i64 a.s, .int .i64 a.v, .int .i64 a.t] 46 (0, 0))).drew)).heap[wr.heap.size]? = _ from blk_new wr (.cells #[.int .i64 a.s, .int .i64 a.v, .int .i64 a.t] 46 (0, 0)))]; rfl, by rw [blk_cell (show (((wr.alloc (.cells #[.int .i64 a.s, .int .i64 a.v, .int .i64 a.t] 46 (0, 0))).drew)).heap[wr.heap.size]? = _ from blk_new wr (.cells #[.int .i64 a.s, .int .i64 a.v, .int .i64 a.t] 46 (0, 0)))]; rfl, by rw [blk_cell (show (((wr.alloc (.cells #[.int .i64 a.s, .int .i64 a.v, .int .i64 a.t] 46 (0, 0))).drew)).heap[wr.heap.size]? = _ from blk_new wr (.cells #[.int .i64 a.s, .int .i64 a.v, .int .i64 a.t] 46 (0, 0)))]; rfl, by rw [blk_cell (show (((wr.alloc (.cells #[.int .i64 a.s, .int .i64 a.v, .int .i64 a.t] 46 (0, 0))).drew)).heap[w.heap.size]? = _ from blk_alloc (blk_below HG.out.1 HBr.out) (.cells #[.int .i64 a.s, .int .i64 a.v, .int .i64 a.t] 46 (0, 0)))]; rfl⟩
              refine wp_region_held_drew (S := fun w' => w'.cell? ⟨wr.heap.size, 0, none⟩ = some (.int .i64 a.s) ∧ w'.cell? ⟨wr.heap.size, 1, none⟩ = some (.int .i64 a.v) ∧ w'.cell? ⟨wr.heap.size, 2, none⟩ = some (.int .i64 a.t) ∧ w'.cell? ⟨w.heap.size, 1, none⟩ = some (.int .i64 a.v)) (by kernel_rfl) k0 (fun hHeld => ?_)
              refine wpAnyH_take (i := 0) (v := (.func (.func 73) #[] #[])) rfl (by kernel_rfl) (by kernel_rfl) (by kernel_rfl) (fun _ _ _ h => h) (Or.inl ⟨by rfl, fun w' hSw => ?_⟩) (by assumption) ?_
              · go_simp
              try simp only [Act.put, List.getElem_toArray, List.getElem_cons_zero, List.getElem_cons_succ, List.setIfInBounds_toArray, List.set_cons_zero, List.set_cons_succ]
              refine wpAnyH_take (i := 1) (v := (slV a)) rfl (by kernel_rfl) (by kernel_rfl) (by kernel_rfl) (fun _ _ _ h => h) (Or.inl ⟨by rfl, fun w' hSw => ?_⟩) (by assumption) ?_
              · obtain ⟨s0, s1, s2, s3⟩ := hSw; go_simp
              try simp only [Act.put, List.getElem_toArray, List.getElem_cons_zero, List.getElem_cons_succ, List.setIfInBounds_toArray, List.set_cons_zero, List.set_cons_succ]
              refine wpAnyH_ready (rs := [2]) (by kernel_rfl) (by simp) ?_
              refine AllReadyH.cons rfl (fun K hK => ?_) AllReadyH.nil
              go_simp
              go_at_call 73
              refine (confirmed_any a _).mono ?_
              rintro e w4 ⟨rfl, hb4⟩
              simp only [hm, decide_true, decide_false]
              have HB4 := Aside0.mk (below_step (below_drew1 (below_alloc HBr.out (.cells #[.int .i64 a.s, .int .i64 a.v, .int .i64 a.t] 46 (0, 0)))) hb4)
              have HN4 := Aside0.mk (blk_below (show (((wr.alloc (.cells #[.int .i64 a.s, .int .i64 a.v, .int .i64 a.t] 46 (0, 0))).drew)).heap[wr.heap.size]? = _ from blk_new wr (.cells #[.int .i64 a.s, .int .i64 a.v, .int .i64 a.t] 46 (0, 0))) hb4)
              have k4 : w4.cell? ⟨wr.heap.size, 0, none⟩ = some (.int .i64 a.s) ∧ w4.cell? ⟨wr.heap.size, 1, none⟩ = some (.int .i64 a.v) ∧ w4.cell? ⟨wr.heap.size, 2, none⟩ = some (.int .i64 a.t) ∧ w4.cell? ⟨w.heap.size, 1, none⟩ = some (.int .i64 a.v) := ⟨by rw [blk_cell HN4.out]; rfl, by rw [blk_cell HN4.out]; rfl, by rw [blk_cell HN4.out]; rfl, by rw [blk_cell (blk_below HG.out.1 HB4.out)]; rfl⟩
              clear k0 hHeld hb4
              refine hK.out _ _ k4 (fun hHeld => ?_)
              clear hK K
              try simp only [Act.put, List.getElem_toArray, List.getElem_cons_zero, List.getElem_cons_succ, List.setIfInBounds_toArray, List.set_cons_zero, List.set_cons_succ]
              refine wpAnyH_take (i := 3) (v := (.bool true)) rfl (by kernel_rfl) (by kernel_rfl) (by kernel_rfl) (fun _ _ _ h => h) (Or.inl ⟨by rfl, fun w' hSw => ?_⟩) (by assumption) ?_
              · go_simp
              try simp only [Act.put, List.getElem_toArray, List.getElem_cons_zero, List.getElem_cons_succ, List.setIfInBounds_toArray, List.set_cons_zero, List.set_cons_succ]
              refine wpAnyH_take (i := 4) (v := ?_) rfl (by kernel_rfl) (by kernel_rfl) (by kernel_rfl) (fun _ _ _ h => h) (Or.inl ⟨by rfl, ?_⟩) (by assumption) ?_
              rotate_left
              · intro w' hSw; go_simp; with_reducible rfl
              try simp only [Act.put, List.getElem_toArray, List.getElem_cons_zero, List.getElem_cons_succ, List.setIfInBounds_toArray, List.set_cons_zero, List.set_cons_succ]
              refine wpAnyH_take (i := 5) (v := (.int .i64 a.v)) rfl (by kernel_rfl) (by kernel_rfl) (by kernel_rfl) (fun _ _ _ h => h) (Or.inl ⟨by rfl, fun w' hSw => ?_⟩) (by assumption) ?_
              · obtain ⟨s0, s1, s2, s3⟩ := hSw; go_simp
              try simp only [Act.put, List.getElem_toArray, List.getElem_cons_zero, List.getElem_cons_succ, List.setIfInBounds_toArray, List.set_cons_zero, List.set_cons_succ]
              refine wpAnyH_take (i := 6) (v := (.int .i64 f)) rfl (by kernel_rfl) (by kernel_rfl) (by kernel_rfl) (fun _ _ _ h => h) (Or.inl ⟨by rfl, fun w' hSw => ?_⟩) (by assumption) ?_
              · go_simp
              try simp only [Act.put, List.getElem_toArray, List.getElem_cons_zero, List.getElem_cons_succ, List.setIfInBounds_toArray, List.set_cons_zero, List.set_cons_succ]
              refine wpAnyH_take (i := 7) (v := (.bool true)) rfl (by kernel_rfl) (by kernel_rfl) (by kernel_rfl) (fun _ _ _ h => h) (Or.inl ⟨by rfl, fun w' hSw => ?_⟩) (by assumption) ?_
              · go_simp
              try simp only [Act.put, List.getElem_toArray, List.getElem_cons_zero, List.getElem_cons_succ, List.setIfInBounds_toArray, List.set_cons_zero, List.set_cons_succ]
              refine wpAnyH_take (i := 8) (v := (.bool true)) rfl (by kernel_rfl) (by kernel_rfl) (by kernel_rfl) (fun _ _ _ h => h) (Or.inl ⟨by rfl, fun w' hSw => ?_⟩) (by assumption) ?_
              · go_simp
              try simp only [Act.put, List.getElem_toArray, List.getElem_cons_zero, List.getElem_cons_succ, List.setIfInBounds_toArray, List.set_cons_zero, List.set_cons_succ]
              refine wpAnyH_take (i := 9) (v := (.bool true)) rfl (by kernel_rfl) (by kernel_rfl) (by kernel_rfl) (fun _ _ _ h => h) (Or.inl ⟨by rfl, fun w' hSw => ?_⟩) (by assumption) ?_
              · go_simp
              try simp only [Act.put, List.getElem_toArray, List.getElem_cons_zero, List.getElem_cons_succ, List.setIfInBounds_toArray, List.set_cons_zero, List.set_cons_succ]
              refine wpAnyH_take (i := 10) (v := (.int .i64 (-1))) rfl (by kernel_rfl) (by kernel_rfl) (by kernel_rfl) (fun _ _ _ h => h) (Or.inl ⟨by rfl, fun w' hSw => ?_⟩) (by assumption) ?_
              · go_simp
              try simp only [Act.put, List.getElem_toArray, List.getElem_cons_zero, List.getElem_cons_succ, List.setIfInBounds_toArray, List.set_cons_zero, List.set_cons_succ]
              refine wpAnyH_take (i := 11) (v := (.bool true)) rfl (by kernel_rfl) (by kernel_rfl) (by kernel_rfl) (fun _ _ _ h => h) (Or.inl ⟨by rfl, fun w' hSw => ?_⟩) (by assumption) ?_
              · go_simp
              try simp only [Act.put, List.getElem_toArray, List.getElem_cons_zero, List.getElem_cons_succ, List.setIfInBounds_toArray, List.set_cons_zero, List.set_cons_succ]
              refine wpAnyH_take (i := 12) (v := (.bool true)) rfl (by kernel_rfl) (by kernel_rfl) (by kernel_rfl) (fun _ _ _ h => h) (Or.inl ⟨by rfl, fun w' hSw => ?_⟩) (by assumption) ?_
              · go_simp
              try simp only [Act.put, List.getElem_toArray, List.getElem_cons_zero, List.getElem_cons_succ, List.setIfInBounds_toArray, List.set_cons_zero, List.set_cons_succ]
              refine wpAnyH_take (i := 13) (v := undef) rfl (by kernel_rfl) (by kernel_rfl) (by kernel_rfl) (fun _ _ _ h => h) (Or.inr ⟨by rfl, rfl⟩) (by assumption) ?_
              try simp only [Act.put, List.getElem_toArray, List.getElem_cons_zero, List.getElem_cons_succ, List.setIfInBounds_toArray, List.set_cons_zero, List.set_cons_succ]
              refine wpAnyH_take (i := 14) (v := undef) rfl (by kernel_rfl) (by kernel_rfl) (by kernel_rfl) (fun _ _ _ h => h) (Or.inr ⟨by rfl, rfl⟩) (by assumption) ?_
              try simp only [Act.put, List.getElem_toArray, List.getElem_cons_zero, List.getElem_cons_succ, List.setIfInBounds_toArray, List.set_cons_zero, List.set_cons_succ]
              refine wpAnyH_take (i := 15) (v := undef) rfl (by kernel_rfl) (by kernel_rfl) (by kernel_rfl) (fun _ _ _ h => h) (Or.inr ⟨by rfl, rfl⟩) (by assumption) ?_
              try simp only [Act.put, List.getElem_toArray, List.getElem_cons_zero, List.getElem_cons_succ, List.setIfInBounds_toArray, List.set_cons_zero, List.set_cons_succ]
              refine wpAnyH_take (i := 16) (v := undef) rfl (by kernel_rfl) (by kernel_rfl) (by kernel_rfl) (fun _ _ _ h => h) (Or.inr ⟨by rfl, rfl⟩) (by assumption) ?_
              try simp only [Act.put, List.getElem_toArray, List.getElem_cons_zero, List.getElem_cons_succ, List.setIfInBounds_toArray, List.set_cons_zero, List.set_cons_succ]
              refine wpAnyH_take (i := 17) (v := undef) rfl (by kernel_rfl) (by kernel_rfl) (by kernel_rfl) (fun _ _ _ h => h) (Or.inr ⟨by rfl, rfl⟩) (by assumption) ?_
              try simp only [Act.put, List.getElem_toArray, List.getElem_cons_zero, List.getElem_cons_succ, List.setIfInBounds_toArray, List.set_cons_zero, List.set_cons_succ]
              refine wpAnyH_take (i := 18) (v := undef) rfl (by kernel_rfl) (by kernel_rfl) (by kernel_rfl) (fun _ _ _ h => h) (Or.inr ⟨by rfl, rfl⟩) (by assumption) ?_
              try simp only [Act.put, List.getElem_toArray, List.getElem_cons_zero, List.getElem_cons_succ, List.setIfInBounds_toArray, List.set_cons_zero, List.set_cons_succ]
              refine wpAnyH_take (i := 19) (v := undef) rfl (by kernel_rfl) (by kernel_rfl) (by kernel_rfl) (fun _ _ _ h => h) (Or.inr ⟨by rfl, rfl⟩) (by assumption) ?_
              try simp only [Act.put, List.getElem_toArray, List.getElem_cons_zero, List.getElem_cons_succ, List.setIfInBounds_toArray, List.set_cons_zero, List.set_cons_succ]
              refine wpAnyH_take (i := 20) (v := undef) rfl (by kernel_rfl) (by kernel_rfl) (by kernel_rfl) (fun _ _ _ h => h) (Or.inr ⟨by rfl, rfl⟩) (by assumption) ?_
              try simp only [Act.put, List.getElem_toArray, List.getElem_cons_zero, List.getElem_cons_succ, List.setIfInBounds_toArray, List.set_cons_zero, List.set_cons_succ]
              refine wpAnyH_take (i := 21) (v := (.bool true)) rfl (by kernel_rfl) (by kernel_rfl) (by kernel_rfl) (fun _ _ _ h => h) (Or.inl ⟨by rfl, fun w' hSw => ?_⟩) (by assumption) ?_
              · go_simp
              try simp only [Act.put, List.getElem_toArray, List.getElem_cons_zero, List.getElem_cons_succ, List.setIfInBounds_toArray, List.set_cons_zero, List.set_cons_succ]
              refine wpAnyH_take (i := 22) (v := (.bool true)) rfl (by kernel_rfl) (by kernel_rfl) (by kernel_rfl) (fun _ _ _ h => h) (Or.inl ⟨by rfl, fun w' hSw => ?_⟩) (by assumption) ?_
              · go_simp
              try simp only [Act.put, List.getElem_toArray, List.getElem_cons_zero, List.getElem_cons_succ, List.setIfInBounds_toArray, List.set_cons_zero, List.set_cons_succ]
              refine wpAnyH_done (by kernel_rfl) ?_ _
              go_wp2_with fail
              have HE : Aside0 (bst (fun x => decide (conf x)) a b f 1 = 0) := ⟨by have k1 := HM.out; have k2 := HV.out; unfold bst best; simp [HM.out, HV.out] <;> omega⟩
              first
              | exact ⟨⟨1, by go_num, by omega, by rw [HE.out], HB4⟩, by simp [intOf]⟩
              | (refine ⟨?_, ?_⟩
                 · repeat apply Exists.intro
                   refine ⟨?_, ?_⟩
                   rotate_left
                   · repeat' (first | exact rfl | apply And.intro)
                   first | exact ⟨1, by go_num, by omega, by rw [HE.out], HB4⟩ | exact ⟨1, by go_num, by omega, by rw [HE.out]⟩
                 · simp [intOf])
            · have HV := Aside0.mk hv
              have hd : decide (f ≤ a.v) = false := decide_eq_false hv
              have k0 : ((wr.alloc (.cells #[.int .i64 a.s, .int .i64 a.v, .int .i64 a.t] 46 (0, 0))).drew).cell? ⟨wr.heap.size, 0, none⟩ = some (.int .i64 a.s) ∧ ((wr.alloc (.cells #[.int .i64 a.s, .int .i64 a.v, .int .i64 a.t] 46 (0, 0))).drew).cell? ⟨wr.heap.size, 1, none⟩ = some (.int .i64 a.v) ∧ ((wr.alloc (.cells #[.int .i64 a.s, .int .i64 a.v, .int .i64 a.t] 46 (0, 0))).drew).cell? ⟨wr.heap.size, 2, none⟩ = some (.int .i64 a.t) ∧ ((wr.alloc (.cells #[.int .i64 a.s, .int .i64 a.v, .int .i64 a.t] 46 (0, 0))).drew).cell? ⟨w.heap.size, 1, none⟩ = some (.int .i64 a.v) := ⟨by rw [blk_cell (show (((wr.alloc (.cells #[.int .i64 a.s, .int .i64 a.v, .int .i64 a.t] 46 (0, 0))).drew)).heap[wr.heap.size]? = _ from blk_new wr (.cells #[.int .i64 a.s, .int .i64 a.v, .int .i64 a.t] 46 (0, 0)))]; rfl, by rw [blk_cell (show (((wr.alloc (.cells #[.int .i64 a.s, .int .i64 a.v, .int .i64 a.t] 46 (0, 0))).drew)).heap[wr.heap.size]? = _ from blk_new wr (.cells #[.int .i64 a.s, .int .i64 a.v, .int .i64 a.t] 46 (0, 0)))]; rfl, by rw [blk_cell (show (((wr.alloc (.cells #[.int .i64 a.s, .int .i64 a.v, .int .i64 a.t] 46 (0, 0))).drew)).heap[wr.heap.size]? = _ from blk_new wr (.cells #[.int .i64 a.s, .int .i64 a.v, .int .i64 a.t] 46 (0, 0)))]; rfl, by rw [blk_cell (show (((wr.alloc (.cells #[.int .i64 a.s, .int .i64 a.v, .int .i64 a.t] 46 (0, 0))).drew)).heap[w.heap.size]? = _ from blk_alloc (blk_below HG.out.1 HBr.out) (.cells #[.int .i64 a.s, .int .i64 a.v, .int .i64 a.t] 46 (0, 0)))]; rfl⟩
              refine wp_region_held_drew (S := fun w' => w'.cell? ⟨wr.heap.size, 0, none⟩ = some (.int .i64 a.s) ∧ w'.cell? ⟨wr.heap.size, 1, none⟩ = some (.int .i64 a.v) ∧ w'.cell? ⟨wr.heap.size, 2, none⟩ = some (.int .i64 a.t) ∧ w'.cell? ⟨w.heap.size, 1, none⟩ = some (.int .i64 a.v)) (by kernel_rfl) k0 (fun hHeld => ?_)
              refine wpAnyH_take (i := 0) (v := (.func (.func 73) #[] #[])) rfl (by kernel_rfl) (by kernel_rfl) (by kernel_rfl) (fun _ _ _ h => h) (Or.inl ⟨by rfl, fun w' hSw => ?_⟩) (by assumption) ?_
              · go_simp
              try simp only [Act.put, List.getElem_toArray, List.getElem_cons_zero, List.getElem_cons_succ, List.setIfInBounds_toArray, List.set_cons_zero, List.set_cons_succ]
              refine wpAnyH_take (i := 1) (v := (slV a)) rfl (by kernel_rfl) (by kernel_rfl) (by kernel_rfl) (fun _ _ _ h => h) (Or.inl ⟨by rfl, fun w' hSw => ?_⟩) (by assumption) ?_
              · obtain ⟨s0, s1, s2, s3⟩ := hSw; go_simp
              try simp only [Act.put, List.getElem_toArray, List.getElem_cons_zero, List.getElem_cons_succ, List.setIfInBounds_toArray, List.set_cons_zero, List.set_cons_succ]
              refine wpAnyH_ready (rs := [2]) (by kernel_rfl) (by simp) ?_
              refine AllReadyH.cons rfl (fun K hK => ?_) AllReadyH.nil
              go_simp
              go_at_call 73
              refine (confirmed_any a _).mono ?_
              rintro e w4 ⟨rfl, hb4⟩
              simp only [hm, decide_true, decide_false]
              have HB4 := Aside0.mk (below_step (below_drew1 (below_alloc HBr.out (.cells #[.int .i64 a.s, .int .i64 a.v, .int .i64 a.t] 46 (0, 0)))) hb4)
              have HN4 := Aside0.mk (blk_below (show (((wr.alloc (.cells #[.int .i64 a.s, .int .i64 a.v, .int .i64 a.t] 46 (0, 0))).drew)).heap[wr.heap.size]? = _ from blk_new wr (.cells #[.int .i64 a.s, .int .i64 a.v, .int .i64 a.t] 46 (0, 0))) hb4)
              have k4 : w4.cell? ⟨wr.heap.size, 0, none⟩ = some (.int .i64 a.s) ∧ w4.cell? ⟨wr.heap.size, 1, none⟩ = some (.int .i64 a.v) ∧ w4.cell? ⟨wr.heap.size, 2, none⟩ = some (.int .i64 a.t) ∧ w4.cell? ⟨w.heap.size, 1, none⟩ = some (.int .i64 a.v) := ⟨by rw [blk_cell HN4.out]; rfl, by rw [blk_cell HN4.out]; rfl, by rw [blk_cell HN4.out]; rfl, by rw [blk_cell (blk_below HG.out.1 HB4.out)]; rfl⟩
              clear k0 hHeld hb4
              refine hK.out _ _ k4 (fun hHeld => ?_)
              clear hK K
              try simp only [Act.put, List.getElem_toArray, List.getElem_cons_zero, List.getElem_cons_succ, List.setIfInBounds_toArray, List.set_cons_zero, List.set_cons_succ]
              refine wpAnyH_take (i := 3) (v := (.bool true)) rfl (by kernel_rfl) (by kernel_rfl) (by kernel_rfl) (fun _ _ _ h => h) (Or.inl ⟨by rfl, fun w' hSw => ?_⟩) (by assumption) ?_
              · go_simp
              try simp only [Act.put, List.getElem_toArray, List.getElem_cons_zero, List.getElem_cons_succ, List.setIfInBounds_toArray, List.set_cons_zero, List.set_cons_succ]
              refine wpAnyH_take (i := 4) (v := ?_) rfl (by kernel_rfl) (by kernel_rfl) (by kernel_rfl) (fun _ _ _ h => h) (Or.inl ⟨by rfl, ?_⟩) (by assumption) ?_
              rotate_left
              · intro w' hSw; go_simp; with_reducible rfl
              try simp only [Act.put, List.getElem_toArray, List.getElem_cons_zero, List.getElem_cons_succ, List.setIfInBounds_toArray, List.set_cons_zero, List.set_cons_succ]
              refine wpAnyH_take (i := 5) (v := (.int .i64 a.v)) rfl (by kernel_rfl) (by kernel_rfl) (by kernel_rfl) (fun _ _ _ h => h) (Or.inl ⟨by rfl, fun w' hSw => ?_⟩) (by assumption) ?_
              · obtain ⟨s0, s1, s2, s3⟩ := hSw; go_simp
              try simp only [Act.put, List.getElem_toArray, List.getElem_cons_zero, List.getElem_cons_succ, List.setIfInBounds_toArray, List.set_cons_zero, List.set_cons_succ]
              refine wpAnyH_take (i := 6) (v := (.int .i64 f)) rfl (by kernel_rfl) (by kernel_rfl) (by kernel_rfl) (fun _ _ _ h => h) (Or.inl ⟨by rfl, fun w' hSw => ?_⟩) (by assumption) ?_
              · go_simp
              try simp only [Act.put, List.getElem_toArray, List.getElem_cons_zero, List.getElem_cons_succ, List.setIfInBounds_toArray, List.set_cons_zero, List.set_cons_succ]
              refine wpAnyH_take (i := 7) (v := (.bool false)) rfl (by kernel_rfl) (by kernel_rfl) (by kernel_rfl) (fun _ _ _ h => h) (Or.inl ⟨by rfl, fun w' hSw => ?_⟩) (by assumption) ?_
              · go_simp
              try simp only [Act.put, List.getElem_toArray, List.getElem_cons_zero, List.getElem_cons_succ, List.setIfInBounds_toArray, List.set_cons_zero, List.set_cons_succ]
              refine wpAnyH_take (i := 8) (v := (.bool false)) rfl (by kernel_rfl) (by kernel_rfl) (by kernel_rfl) (fun _ _ _ h => h) (Or.inl ⟨by rfl, fun w' hSw => ?_⟩) (by assumption) ?_
              · go_simp
              try simp only [Act.put, List.getElem_toArray, List.getElem_cons_zero, List.getElem_cons_succ, List.setIfInBounds_toArray, List.set_cons_zero, List.set_cons_succ]
              refine wpAnyH_take (i := 9) (v := (.bool false)) rfl (by kernel_rfl) (by kernel_rfl) (by kernel_rfl) (fun _ _ _ h => h) (Or.inl ⟨by rfl, fun w' hSw => ?_⟩) (by assumption) ?_
              · go_simp
              try simp only [Act.put, List.getElem_toArray, List.getElem_cons_zero, List.getElem_cons_succ, List.setIfInBounds_toArray, List.set_cons_zero, List.set_cons_succ]
              refine wpAnyH_take (i := 10) (v := undef) rfl (by kernel_rfl) (by kernel_rfl) (by kernel_rfl) (fun _ _ _ h => h) (Or.inr ⟨by rfl, rfl⟩) (by assumption) ?_
              try simp only [Act.put, List.getElem_toArray, List.getElem_cons_zero, List.getElem_cons_succ, List.setIfInBounds_toArray, List.set_cons_zero, List.set_cons_succ]
              refine wpAnyH_take (i := 11) (v := undef) rfl (by kernel_rfl) (by kernel_rfl) (by kernel_rfl) (fun _ _ _ h => h) (Or.inr ⟨by rfl, rfl⟩) (by assumption) ?_
              try simp only [Act.put, List.getElem_toArray, List.getElem_cons_zero, List.getElem_cons_succ, List.setIfInBounds_toArray, List.set_cons_zero, List.set_cons_succ]
              refine wpAnyH_take (i := 12) (v := undef) rfl (by kernel_rfl) (by kernel_rfl) (by kernel_rfl) (fun _ _ _ h => h) (Or.inr ⟨by rfl, rfl⟩) (by assumption) ?_
              try simp only [Act.put, List.getElem_toArray, List.getElem_cons_zero, List.getElem_cons_succ, List.setIfInBounds_toArray, List.set_cons_zero, List.set_cons_succ]
              refine wpAnyH_take (i := 13) (v := undef) rfl (by kernel_rfl) (by kernel_rfl) (by kernel_rfl) (fun _ _ _ h => h) (Or.inr ⟨by rfl, rfl⟩) (by assumption) ?_
              try simp only [Act.put, List.getElem_toArray, List.getElem_cons_zero, List.getElem_cons_succ, List.setIfInBounds_toArray, List.set_cons_zero, List.set_cons_succ]
              refine wpAnyH_take (i := 14) (v := undef) rfl (by kernel_rfl) (by kernel_rfl) (by kernel_rfl) (fun _ _ _ h => h) (Or.inr ⟨by rfl, rfl⟩) (by assumption) ?_
              try simp only [Act.put, List.getElem_toArray, List.getElem_cons_zero, List.getElem_cons_succ, List.setIfInBounds_toArray, List.set_cons_zero, List.set_cons_succ]
              refine wpAnyH_take (i := 15) (v := undef) rfl (by kernel_rfl) (by kernel_rfl) (by kernel_rfl) (fun _ _ _ h => h) (Or.inr ⟨by rfl, rfl⟩) (by assumption) ?_
              try simp only [Act.put, List.getElem_toArray, List.getElem_cons_zero, List.getElem_cons_succ, List.setIfInBounds_toArray, List.set_cons_zero, List.set_cons_succ]
              refine wpAnyH_take (i := 16) (v := undef) rfl (by kernel_rfl) (by kernel_rfl) (by kernel_rfl) (fun _ _ _ h => h) (Or.inr ⟨by rfl, rfl⟩) (by assumption) ?_
              try simp only [Act.put, List.getElem_toArray, List.getElem_cons_zero, List.getElem_cons_succ, List.setIfInBounds_toArray, List.set_cons_zero, List.set_cons_succ]
              refine wpAnyH_take (i := 17) (v := undef) rfl (by kernel_rfl) (by kernel_rfl) (by kernel_rfl) (fun _ _ _ h => h) (Or.inr ⟨by rfl, rfl⟩) (by assumption) ?_
              try simp only [Act.put, List.getElem_toArray, List.getElem_cons_zero, List.getElem_cons_succ, List.setIfInBounds_toArray, List.set_cons_zero, List.set_cons_succ]
              refine wpAnyH_take (i := 18) (v := undef) rfl (by kernel_rfl) (by kernel_rfl) (by kernel_rfl) (fun _ _ _ h => h) (Or.inr ⟨by rfl, rfl⟩) (by assumption) ?_
              try simp only [Act.put, List.getElem_toArray, List.getElem_cons_zero, List.getElem_cons_succ, List.setIfInBounds_toArray, List.set_cons_zero, List.set_cons_succ]
              refine wpAnyH_take (i := 19) (v := undef) rfl (by kernel_rfl) (by kernel_rfl) (by kernel_rfl) (fun _ _ _ h => h) (Or.inr ⟨by rfl, rfl⟩) (by assumption) ?_
              try simp only [Act.put, List.getElem_toArray, List.getElem_cons_zero, List.getElem_cons_succ, List.setIfInBounds_toArray, List.set_cons_zero, List.set_cons_succ]
              refine wpAnyH_take (i := 20) (v := undef) rfl (by kernel_rfl) (by kernel_rfl) (by kernel_rfl) (fun _ _ _ h => h) (Or.inr ⟨by rfl, rfl⟩) (by assumption) ?_
              try simp only [Act.put, List.getElem_toArray, List.getElem_cons_zero, List.getElem_cons_succ, List.setIfInBounds_toArray, List.set_cons_zero, List.set_cons_succ]
              refine wpAnyH_take (i := 21) (v := undef) rfl (by kernel_rfl) (by kernel_rfl) (by kernel_rfl) (fun _ _ _ h => h) (Or.inr ⟨by rfl, rfl⟩) (by assumption) ?_
              try simp only [Act.put, List.getElem_toArray, List.getElem_cons_zero, List.getElem_cons_succ, List.setIfInBounds_toArray, List.set_cons_zero, List.set_cons_succ]
              refine wpAnyH_take (i := 22) (v := (.bool false)) rfl (by kernel_rfl) (by kernel_rfl) (by kernel_rfl) (fun _ _ _ h => h) (Or.inl ⟨by rfl, fun w' hSw => ?_⟩) (by assumption) ?_
              · go_simp
              try simp only [Act.put, List.getElem_toArray, List.getElem_cons_zero, List.getElem_cons_succ, List.setIfInBounds_toArray, List.set_cons_zero, List.set_cons_succ]
              refine wpAnyH_done (by kernel_rfl) ?_ _
              go_wp2_with fail
              have HE : Aside0 (bst (fun x => decide (conf x)) a b f 1 = -1) := ⟨by have k1 := HM.out; have k2 := HV.out; unfold bst best; simp [HM.out, HV.out] <;> omega⟩
              first
              | exact ⟨⟨1, by go_num, by omega, by rw [HE.out], HB4⟩, by simp [intOf]⟩
              | (refine ⟨?_, ?_⟩
                 · repeat apply Exists.intro
                   refine ⟨?_, ?_⟩
                   rotate_left
                   · repeat' (first | exact rfl | apply And.intro)
                   first | exact ⟨1, by go_num, by omega, by rw [HE.out], HB4⟩ | exact ⟨1, by go_num, by omega, by rw [HE.out]⟩
                 · simp [intOf])
          · have HM := Aside0.mk hm
            have HV := HM
            have k0 : ((wr.alloc (.cells #[.int .i64 a.s, .int .i64 a.v, .int .i64 a.t] 46 (0, 0))).drew).cell? ⟨wr.heap.size, 0, none⟩ = some (.int .i64 a.s) ∧ ((wr.alloc (.cells #[.int .i64 a.s, .int .i64 a.v, .int .i64 a.t] 46 (0, 0))).drew).cell? ⟨wr.heap.size, 1, none⟩ = some (.int .i64 a.v) ∧ ((wr.alloc (.cells #[.int .i64 a.s, .int .i64 a.v, .int .i64 a.t] 46 (0, 0))).drew).cell? ⟨wr.heap.size, 2, none⟩ = some (.int .i64 a.t) ∧ ((wr.alloc (.cells #[.int .i64 a.s, .int .i64 a.v, .int .i64 a.t] 46 (0, 0))).drew).cell? ⟨w.heap.size, 1, none⟩ = some (.int .i64 a.v) := ⟨by rw [blk_cell (show (((wr.alloc (.cells #[.int .i64 a.s, .int .i64 a.v, .int .i64 a.t] 46 (0, 0))).drew)).heap[wr.heap.size]? = _ from blk_new wr (.cells #[.int .i64 a.s, .int .i64 a.v, .int .i64 a.t] 46 (0, 0)))]; rfl, by rw [blk_cell (show (((wr.alloc (.cells #[.int .i64 a.s, .int .i64 a.v, .int .i64 a.t] 46 (0, 0))).drew)).heap[wr.heap.size]? = _ from blk_new wr (.cells #[.int .i64 a.s, .int .i64 a.v, .int .i64 a.t] 46 (0, 0)))]; rfl, by rw [blk_cell (show (((wr.alloc (.cells #[.int .i64 a.s, .int .i64 a.v, .int .i64 a.t] 46 (0, 0))).drew)).heap[wr.heap.size]? = _ from blk_new wr (.cells #[.int .i64 a.s, .int .i64 a.v, .int .i64 a.t] 46 (0, 0)))]; rfl, by rw [blk_cell (show (((wr.alloc (.cells #[.int .i64 a.s, .int .i64 a.v, .int .i64 a.t] 46 (0, 0))).drew)).heap[w.heap.size]? = _ from blk_alloc (blk_below HG.out.1 HBr.out) (.cells #[.int .i64 a.s, .int .i64 a.v, .int .i64 a.t] 46 (0, 0)))]; rfl⟩
            refine wp_region_held_drew (S := fun w' => w'.cell? ⟨wr.heap.size, 0, none⟩ = some (.int .i64 a.s) ∧ w'.cell? ⟨wr.heap.size, 1, none⟩ = some (.int .i64 a.v) ∧ w'.cell? ⟨wr.heap.size, 2, none⟩ = some (.int .i64 a.t) ∧ w'.cell? ⟨w.heap.size, 1, none⟩ = some (.int .i64 a.v)) (by kernel_rfl) k0 (fun hHeld => ?_)
            refine wpAnyH_take (i := 0) (v := (.func (.func 73) #[] #[])) rfl (by kernel_rfl) (by kernel_rfl) (by kernel_rfl) (fun _ _ _ h => h) (Or.inl ⟨by rfl, fun w' hSw => ?_⟩) (by assumption) ?_
            · go_simp
            try simp only [Act.put, List.getElem_toArray, List.getElem_cons_zero, List.getElem_cons_succ, List.setIfInBounds_toArray, List.set_cons_zero, List.set_cons_succ]
            refine wpAnyH_take (i := 1) (v := (slV a)) rfl (by kernel_rfl) (by kernel_rfl) (by kernel_rfl) (fun _ _ _ h => h) (Or.inl ⟨by rfl, fun w' hSw => ?_⟩) (by assumption) ?_
            · obtain ⟨s0, s1, s2, s3⟩ := hSw; go_simp
            try simp only [Act.put, List.getElem_toArray, List.getElem_cons_zero, List.getElem_cons_succ, List.setIfInBounds_toArray, List.set_cons_zero, List.set_cons_succ]
            refine wpAnyH_ready (rs := [2]) (by kernel_rfl) (by simp) ?_
            refine AllReadyH.cons rfl (fun K hK => ?_) AllReadyH.nil
            go_simp
            go_at_call 73
            refine (confirmed_any a _).mono ?_
            rintro e w4 ⟨rfl, hb4⟩
            simp only [hm, decide_true, decide_false]
            have HB4 := Aside0.mk (below_step (below_drew1 (below_alloc HBr.out (.cells #[.int .i64 a.s, .int .i64 a.v, .int .i64 a.t] 46 (0, 0)))) hb4)
            have HN4 := Aside0.mk (blk_below (show (((wr.alloc (.cells #[.int .i64 a.s, .int .i64 a.v, .int .i64 a.t] 46 (0, 0))).drew)).heap[wr.heap.size]? = _ from blk_new wr (.cells #[.int .i64 a.s, .int .i64 a.v, .int .i64 a.t] 46 (0, 0))) hb4)
            have k4 : w4.cell? ⟨wr.heap.size, 0, none⟩ = some (.int .i64 a.s) ∧ w4.cell? ⟨wr.heap.size, 1, none⟩ = some (.int .i64 a.v) ∧ w4.cell? ⟨wr.heap.size, 2, none⟩ = some (.int .i64 a.t) ∧ w4.cell? ⟨w.heap.size, 1, none⟩ = some (.int .i64 a.v) := ⟨by rw [blk_cell HN4.out]; rfl, by rw [blk_cell HN4.out]; rfl, by rw [blk_cell HN4.out]; rfl, by rw [blk_cell (blk_below HG.out.1 HB4.out)]; rfl⟩
            clear k0 hHeld hb4
            refine hK.out _ _ k4 (fun hHeld => ?_)
            clear hK K
            try simp only [Act.put, List.getElem_toArray, List.getElem_cons_zero, List.getElem_cons_succ, List.setIfInBounds_toArray, List.set_cons_zero, List.set_cons_succ]
            refine wpAnyH_take (i := 3) (v := (.bool false)) rfl (by kernel_rfl) (by kernel_rfl) (by kernel_rfl) (fun _ _ _ h => h) (Or.inl ⟨by rfl, fun w' hSw => ?_⟩) (by assumption) ?_
            · go_simp
            try simp only [Act.put, List.getElem_toArray, List.getElem_cons_zero, List.getElem_cons_succ, List.setIfInBounds_toArray, List.set_cons_zero, List.set_cons_succ]
            refine wpAnyH_take (i := 4) (v := undef) rfl (by kernel_rfl) (by kernel_rfl) (by kernel_rfl) (fun _ _ _ h => h) (Or.inr ⟨by rfl, rfl⟩) (by assumption) ?_
            try simp only [Act.put, List.getElem_toArray, List.getElem_cons_zero, List.getElem_cons_succ, List.setIfInBounds_toArray, List.set_cons_zero, List.set_cons_succ]
            refine wpAnyH_take (i := 5) (v := undef) rfl (by kernel_rfl) (by kernel_rfl) (by kernel_rfl) (fun _ _ _ h => h) (Or.inr ⟨by rfl, rfl⟩) (by assumption) ?_
            try simp only [Act.put, List.getElem_toArray, List.getElem_cons_zero, List.getElem_cons_succ, List.setIfInBounds_toArray, List.set_cons_zero, List.set_cons_succ]
            refine wpAnyH_take (i := 6) (v := undef) rfl (by kernel_rfl) (by kernel_rfl) (by kernel_rfl) (fun _ _ _ h => h) (Or.inr ⟨by rfl, rfl⟩) (by assumption) ?_
            try simp only [Act.put, List.getElem_toArray, List.getElem_cons_zero, List.getElem_cons_succ, List.setIfInBounds_toArray, List.set_cons_zero, List.set_cons_succ]
            refine wpAnyH_take (i := 7) (v := undef) rfl (by kernel_rfl) (by kernel_rfl) (by kernel_rfl) (fun _ _ _ h => h) (Or.inr ⟨by rfl, rfl⟩) (by assumption) ?_
            try simp only [Act.put, List.getElem_toArray, List.getElem_cons_zero, List.getElem_cons_succ, List.setIfInBounds_toArray, List.set_cons_zero, List.set_cons_succ]
            refine wpAnyH_take (i := 8) (v := (.bool false)) rfl (by kernel_rfl) (by kernel_rfl) (by kernel_rfl) (fun _ _ _ h => h) (Or.inl ⟨by rfl, fun w' hSw => ?_⟩) (by assumption) ?_
            · go_simp
            try simp only [Act.put, List.getElem_toArray, List.getElem_cons_zero, List.getElem_cons_succ, List.setIfInBounds_toArray, List.set_cons_zero, List.set_cons_succ]
            refine wpAnyH_take (i := 9) (v := (.bool false)) rfl (by kernel_rfl) (by kernel_rfl) (by kernel_rfl) (fun _ _ _ h => h) (Or.inl ⟨by rfl, fun w' hSw => ?_⟩) (by assumption) ?_
            · go_simp
            try simp only [Act.put, List.getElem_toArray, List.getElem_cons_zero, List.getElem_cons_succ, List.setIfInBounds_toArray, List.set_cons_zero, List.set_cons_succ]
            refine wpAnyH_take (i := 10) (v := undef) rfl (by kernel_rfl) (by kernel_rfl) (by kernel_rfl) (fun _ _ _ h => h) (Or.inr ⟨by rfl, rfl⟩) (by assumption) ?_
            try simp only [Act.put, List.getElem_toArray, List.getElem_cons_zero, List.getElem_cons_succ, List.setIfInBounds_toArray, List.set_cons_zero, List.set_cons_succ]
            refine wpAnyH_take (i := 11) (v := undef) rfl (by kernel_rfl) (by kernel_rfl) (by kernel_rfl) (fun _ _ _ h => h) (Or.inr ⟨by rfl, rfl⟩) (by assumption) ?_
            try simp only [Act.put, List.getElem_toArray, List.getElem_cons_zero, List.getElem_cons_succ, List.setIfInBounds_toArray, List.set_cons_zero, List.set_cons_succ]
            refine wpAnyH_take (i := 12) (v := undef) rfl (by kernel_rfl) (by kernel_rfl) (by kernel_rfl) (fun _ _ _ h => h) (Or.inr ⟨by rfl, rfl⟩) (by assumption) ?_
            try simp only [Act.put, List.getElem_toArray, List.getElem_cons_zero, List.getElem_cons_succ, List.setIfInBounds_toArray, List.set_cons_zero, List.set_cons_succ]
            refine wpAnyH_take (i := 13) (v := undef) rfl (by kernel_rfl) (by kernel_rfl) (by kernel_rfl) (fun _ _ _ h => h) (Or.inr ⟨by rfl, rfl⟩) (by assumption) ?_
            try simp only [Act.put, List.getElem_toArray, List.getElem_cons_zero, List.getElem_cons_succ, List.setIfInBounds_toArray, List.set_cons_zero, List.set_cons_succ]
            refine wpAnyH_take (i := 14) (v := undef) rfl (by kernel_rfl) (by kernel_rfl) (by kernel_rfl) (fun _ _ _ h => h) (Or.inr ⟨by rfl, rfl⟩) (by assumption) ?_
            try simp only [Act.put, List.getElem_toArray, List.getElem_cons_zero, List.getElem_cons_succ, List.setIfInBounds_toArray, List.set_cons_zero, List.set_cons_succ]
            refine wpAnyH_take (i := 15) (v := undef) rfl (by kernel_rfl) (by kernel_rfl) (by kernel_rfl) (fun _ _ _ h => h) (Or.inr ⟨by rfl, rfl⟩) (by assumption) ?_
            try simp only [Act.put, List.getElem_toArray, List.getElem_cons_zero, List.getElem_cons_succ, List.setIfInBounds_toArray, List.set_cons_zero, List.set_cons_succ]
            refine wpAnyH_take (i := 16) (v := undef) rfl (by kernel_rfl) (by kernel_rfl) (by kernel_rfl) (fun _ _ _ h => h) (Or.inr ⟨by rfl, rfl⟩) (by assumption) ?_
            try simp only [Act.put, List.getElem_toArray, List.getElem_cons_zero, List.getElem_cons_succ, List.setIfInBounds_toArray, List.set_cons_zero, List.set_cons_succ]
            refine wpAnyH_take (i := 17) (v := undef) rfl (by kernel_rfl) (by kernel_rfl) (by kernel_rfl) (fun _ _ _ h => h) (Or.inr ⟨by rfl, rfl⟩) (by assumption) ?_
            try simp only [Act.put, List.getElem_toArray, List.getElem_cons_zero, List.getElem_cons_succ, List.setIfInBounds_toArray, List.set_cons_zero, List.set_cons_succ]
            refine wpAnyH_take (i := 18) (v := undef) rfl (by kernel_rfl) (by kernel_rfl) (by kernel_rfl) (fun _ _ _ h => h) (Or.inr ⟨by rfl, rfl⟩) (by assumption) ?_
            try simp only [Act.put, List.getElem_toArray, List.getElem_cons_zero, List.getElem_cons_succ, List.setIfInBounds_toArray, List.set_cons_zero, List.set_cons_succ]
            refine wpAnyH_take (i := 19) (v := undef) rfl (by kernel_rfl) (by kernel_rfl) (by kernel_rfl) (fun _ _ _ h => h) (Or.inr ⟨by rfl, rfl⟩) (by assumption) ?_
            try simp only [Act.put, List.getElem_toArray, List.getElem_cons_zero, List.getElem_cons_succ, List.setIfInBounds_toArray, List.set_cons_zero, List.set_cons_succ]
            refine wpAnyH_take (i := 20) (v := undef) rfl (by kernel_rfl) (by kernel_rfl) (by kernel_rfl) (fun _ _ _ h => h) (Or.inr ⟨by rfl, rfl⟩) (by assumption) ?_
            try simp only [Act.put, List.getElem_toArray, List.getElem_cons_zero, List.getElem_cons_succ, List.setIfInBounds_toArray, List.set_cons_zero, List.set_cons_succ]
            refine wpAnyH_take (i := 21) (v := undef) rfl (by kernel_rfl) (by kernel_rfl) (by kernel_rfl) (fun _ _ _ h => h) (Or.inr ⟨by rfl, rfl⟩) (by assumption) ?_
            try simp only [Act.put, List.getElem_toArray, List.getElem_cons_zero, List.getElem_cons_succ, List.setIfInBounds_toArray, List.set_cons_zero, List.set_cons_succ]
            refine wpAnyH_take (i := 22) (v := (.bool false)) rfl (by kernel_rfl) (by kernel_rfl) (by kernel_rfl) (fun _ _ _ h => h) (Or.inl ⟨by rfl, fun w' hSw => ?_⟩) (by assumption) ?_
            · go_simp
            try simp only [Act.put, List.getElem_toArray, List.getElem_cons_zero, List.getElem_cons_succ, List.setIfInBounds_toArray, List.set_cons_zero, List.set_cons_succ]
            refine wpAnyH_done (by kernel_rfl) ?_ _
            go_wp2_with fail
            have HE : Aside0 (bst (fun x => decide (conf x)) a b f 1 = -1) := ⟨by have k1 := HM.out; have k2 := HV.out; unfold bst best; simp [HM.out, HV.out] <;> omega⟩
            first
            | exact ⟨⟨1, by go_num, by omega, by rw [HE.out], HB4⟩, by simp [intOf]⟩
            | (refine ⟨?_, ?_⟩
               · repeat apply Exists.intro
                 refine ⟨?_, ?_⟩
                 rotate_left
                 · repeat' (first | exact rfl | apply And.intro)
                 first | exact ⟨1, by go_num, by omega, by rw [HE.out], HB4⟩ | exact ⟨1, by go_num, by omega, by rw [HE.out]⟩
               · simp [intOf])
        · by_cases hw : conf a ∧ f ≤ a.v
          · have HW := Aside0.mk hw
            have hb1 : bst (fun x => decide (conf x)) a b f 1 = 0 := by unfold bst; simp [hw]
            rw [hb1]
            clear hb1 hw
            go_wp2_with fail
            by_cases hm : conf b
            · have HM := Aside0.mk hm
              by_cases hv : f ≤ b.v
              · have HV := Aside0.mk hv
                have hd : decide (f ≤ b.v) = true := decide_eq_true hv
                by_cases hg : a.v < b.v
                · have HT := Aside0.mk hg
                  have hd2 : decide (a.v < b.v) = true := decide_eq_true hg
                  have k0 : ((wr.alloc (.cells #[.int .i64 b.s, .int .i64 b.v, .int .i64 b.t] 46 (0, 0))).drew).cell? ⟨wr.heap.size, 0, none⟩ = some (.int .i64 b.s) ∧ ((wr.alloc (.cells #[.int .i64 b.s, .int .i64 b.v, .int .i64 b.t] 46 (0, 0))).drew).cell? ⟨wr.heap.size, 1, none⟩ = some (.int .i64 b.v) ∧ ((wr.alloc (.cells #[.int .i64 b.s, .int .i64 b.v, .int .i64 b.t] 46 (0, 0))).drew).cell? ⟨wr.heap.size, 2, none⟩ = some (.int .i64 b.t) ∧ ((wr.alloc (.cells #[.int .i64 b.s, .int .i64 b.v, .int .i64 b.t] 46 (0, 0))).drew).cell? ⟨w.heap.size, 1, none⟩ = some (.int .i64 a.v) := ⟨by rw [blk_cell (show (((wr.alloc (.cells #[.int .i64 b.s, .int .i64 b.v, .int .i64 b.t] 46 (0, 0))).drew)).heap[wr.heap.size]? = _ from blk_new wr (.cells #[.int .i64 b.s, .int .i64 b.v, .int .i64 b.t] 46 (0, 0)))]; rfl, by rw [blk_cell (show (((wr.alloc (.cells #[.int .i64 b.s, .int .i64 b.v, .int .i64 b.t] 46 (0, 0))).drew)).heap[wr.heap.size]? = _ from blk_new wr (.cells #[.int .i64 b.s, .int .i64 b.v, .int .i64 b.t] 46 (0, 0)))]; rfl, by rw [blk_cell (show (((wr.alloc (.cells #[.int .i64 b.s, .int .i64 b.v, .int .i64 b.t] 46 (0, 0))).drew)).heap[wr.heap.size]? = _ from blk_new wr (.cells #[.int .i64 b.s, .int .i64 b.v, .int .i64 b.t] 46 (0, 0)))]; rfl, by rw [blk_cell (show (((wr.alloc (.cells #[.int .i64 b.s, .int .i64 b.v, .int .i64 b.t] 46 (0, 0))).drew)).heap[w.heap.size]? = _ from blk_alloc (blk_below HG.out.1 HBr.out) (.cells #[.int .i64 b.s, .int .i64 b.v, .int .i64 b.t] 46 (0, 0)))]; rfl⟩
                  refine wp_region_held_drew (S := fun w' => w'.cell? ⟨wr.heap.size, 0, none⟩ = some (.int .i64 b.s) ∧ w'.cell? ⟨wr.heap.size, 1, none⟩ = some (.int .i64 b.v) ∧ w'.cell? ⟨wr.heap.size, 2, none⟩ = some (.int .i64 b.t) ∧ w'.cell? ⟨w.heap.size, 1, none⟩ = some (.int .i64 a.v)) (by kernel_rfl) k0 (fun hHeld => ?_)
                  refine wpAnyH_take (i := 0) (v := (.func (.func 73) #[] #[])) rfl (by kernel_rfl) (by kernel_rfl) (by kernel_rfl) (fun _ _ _ h => h) (Or.inl ⟨by rfl, fun w' hSw => ?_⟩) (by assumption) ?_
                  · go_simp
                  try simp only [Act.put, List.getElem_toArray, List.getElem_cons_zero, List.getElem_cons_succ, List.setIfInBounds_toArray, List.set_cons_zero, List.set_cons_succ]
                  refine wpAnyH_take (i := 1) (v := (slV b)) rfl (by kernel_rfl) (by kernel_rfl) (by kernel_rfl) (fun _ _ _ h => h) (Or.inl ⟨by rfl, fun w' hSw => ?_⟩) (by assumption) ?_
                  · obtain ⟨s0, s1, s2, s3⟩ := hSw; go_simp
                  try simp only [Act.put, List.getElem_toArray, List.getElem_cons_zero, List.getElem_cons_succ, List.setIfInBounds_toArray, List.set_cons_zero, List.set_cons_succ]
                  refine wpAnyH_ready (rs := [2]) (by kernel_rfl) (by simp) ?_
                  refine AllReadyH.cons rfl (fun K hK => ?_) AllReadyH.nil
                  go_simp
                  go_at_call 73
                  refine (confirmed_any b _).mono ?_
                  rintro e w4 ⟨rfl, hb4⟩
                  simp only [hm, decide_true, decide_false]
                  have HB4 := Aside0.mk (below_step (below_drew1 (below_alloc HBr.out (.cells #[.int .i64 b.s, .int .i64 b.v, .int .i64 b.t] 46 (0, 0)))) hb4)
                  have HN4 := Aside0.mk (blk_below (show (((wr.alloc (.cells #[.int .i64 b.s, .int .i64 b.v, .int .i64 b.t] 46 (0, 0))).drew)).heap[wr.heap.size]? = _ from blk_new wr (.cells #[.int .i64 b.s, .int .i64 b.v, .int .i64 b.t] 46 (0, 0))) hb4)
                  have k4 : w4.cell? ⟨wr.heap.size, 0, none⟩ = some (.int .i64 b.s) ∧ w4.cell? ⟨wr.heap.size, 1, none⟩ = some (.int .i64 b.v) ∧ w4.cell? ⟨wr.heap.size, 2, none⟩ = some (.int .i64 b.t) ∧ w4.cell? ⟨w.heap.size, 1, none⟩ = some (.int .i64 a.v) := ⟨by rw [blk_cell HN4.out]; rfl, by rw [blk_cell HN4.out]; rfl, by rw [blk_cell HN4.out]; rfl, by rw [blk_cell (blk_below HG.out.1 HB4.out)]; rfl⟩
                  clear k0 hHeld hb4
                  refine hK.out _ _ k4 (fun hHeld => ?_)
                  clear hK K
                  try simp only [Act.put, List.getElem_toArray, List.getElem_cons_zero, List.getElem_cons_succ, List.setIfInBounds_toArray, List.set_cons_zero, List.set_cons_succ]
                  refine wpAnyH_take (i := 3) (v := (.bool true)) rfl (by kernel_rfl) (by kernel_rfl) (by kernel_rfl) (fun _ _ _ h => h) (Or.inl ⟨by rfl, fun w' hSw => ?_⟩) (by assumption) ?_
                  · go_simp
                  try simp only [Act.put, List.getElem_toArray, List.getElem_cons_zero, List.getElem_cons_succ, List.setIfInBounds_toArray, List.set_cons_zero, List.set_cons_succ]
                  refine wpAnyH_take (i := 4) (v := ?_) rfl (by kernel_rfl) (by kernel_rfl) (by kernel_rfl) (fun _ _ _ h => h) (Or.inl ⟨by rfl, ?_⟩) (by assumption) ?_
                  rotate_left
                  · intro w' hSw; go_simp; with_reducible rfl
                  try simp only [Act.put, List.getElem_toArray, List.getElem_cons_zero, List.getElem_cons_succ, List.setIfInBounds_toArray, List.set_cons_zero, List.set_cons_succ]
                  refine wpAnyH_take (i := 5) (v := (.int .i64 b.v)) rfl (by kernel_rfl) (by kernel_rfl) (by kernel_rfl) (fun _ _ _ h => h) (Or.inl ⟨by rfl, fun w' hSw => ?_⟩) (by assumption) ?_
                  · obtain ⟨s0, s1, s2, s3⟩ := hSw; go_simp
                  try simp only [Act.put, List.getElem_toArray, List.getElem_cons_zero, List.getElem_cons_succ, List.setIfInBounds_toArray, List.set_cons_zero, List.set_cons_succ]
                  refine wpAnyH_take (i := 6) (v := (.int .i64 f)) rfl (by kernel_rfl) (by kernel_rfl) (by kernel_rfl) (fun _ _ _ h => h) (Or.inl ⟨by rfl, fun w' hSw => ?_⟩) (by assumption) ?_
                  · go_simp
                  try simp only [Act.put, List.getElem_toArray, List.getElem_cons_zero, List.getElem_cons_succ, List.setIfInBounds_toArray, List.set_cons_zero, List.set_cons_succ]
                  refine wpAnyH_take (i := 7) (v := (.bool true)) rfl (by kernel_rfl) (by kernel_rfl) (by kernel_rfl) (fun _ _ _ h => h) (Or.inl ⟨by rfl, fun w' hSw => ?_⟩) (by assumption) ?_
                  · go_simp
                  try simp only [Act.put, List.getElem_toArray, List.getElem_cons_zero, List.getElem_cons_succ, List.setIfInBounds_toArray, List.set_cons_zero, List.set_cons_succ]
                  refine wpAnyH_take (i := 8) (v := (.bool true)) rfl (by kernel_rfl) (by kernel_rfl) (by kernel_rfl) (fun _ _ _ h => h) (Or.inl ⟨by rfl, fun w' hSw => ?_⟩) (by assumption) ?_
                  · go_simp
                  try simp only [Act.put, List.getElem_toArray, List.getElem_cons_zero, List.getElem_cons_succ, List.setIfInBounds_toArray, List.set_cons_zero, List.set_cons_succ]
                  refine wpAnyH_take (i := 9) (v := (.bool true)) rfl (by kernel_rfl) (by kernel_rfl) (by kernel_rfl) (fun _ _ _ h => h) (Or.inl ⟨by rfl, fun w' hSw => ?_⟩) (by assumption) ?_
                  · go_simp
                  try simp only [Act.put, List.getElem_toArray, List.getElem_cons_zero, List.getElem_cons_succ, List.setIfInBounds_toArray, List.set_cons_zero, List.set_cons_succ]
                  refine wpAnyH_take (i := 10) (v := (.int .i64 (0))) rfl (by kernel_rfl) (by kernel_rfl) (by kernel_rfl) (fun _ _ _ h => h) (Or.inl ⟨by rfl, fun w' hSw => ?_⟩) (by assumption) ?_
                  · go_simp
                  try simp only [Act.put, List.getElem_toArray, List.getElem_cons_zero, List.getElem_cons_succ, List.setIfInBounds_toArray, List.set_cons_zero, List.set_cons_succ]
                  refine wpAnyH_take (i := 11) (v := (.bool false)) rfl (by kernel_rfl) (by kernel_rfl) (by kernel_rfl) (fun _ _ _ h => h) (Or.inl ⟨by rfl, fun w' hSw => ?_⟩) (by assumption) ?_
                  · go_simp
                  try simp only [Act.put, List.getElem_toArray, List.getElem_cons_zero, List.getElem_cons_succ, List.setIfInBounds_toArray, List.set_cons_zero, List.set_cons_succ]
                  refine wpAnyH_take (i := 12) (v := (.bool false)) rfl (by kernel_rfl) (by kernel_rfl) (by kernel_rfl) (fun _ _ _ h => h) (Or.inl ⟨by rfl, fun w' hSw => ?_⟩) (by assumption) ?_
                  · go_simp
                  try simp only [Act.put, List.getElem_toArray, List.getElem_cons_zero, List.getElem_cons_succ, List.setIfInBounds_toArray, List.set_cons_zero, List.set_cons_succ]
                  refine wpAnyH_take (i := 13) (v := ?_) rfl (by kernel_rfl) (by kernel_rfl) (by kernel_rfl) (fun _ _ _ h => h) (Or.inl ⟨by rfl, ?_⟩) (by assumption) ?_
                  rotate_left
                  · intro w' hSw; go_simp; with_reducible rfl
                  try simp only [Act.put, List.getElem_toArray, List.getElem_cons_zero, List.getElem_cons_succ, List.setIfInBounds_toArray, List.set_cons_zero, List.set_cons_succ]
                  refine wpAnyH_take (i := 14) (v := (.int .i64 b.v)) rfl (by kernel_rfl) (by kernel_rfl) (by kernel_rfl) (fun _ _ _ h => h) (Or.inl ⟨by rfl, fun w' hSw => ?_⟩) (by assumption) ?_
                  · obtain ⟨s0, s1, s2, s3⟩ := hSw; go_simp
                  try simp only [Act.put, List.getElem_toArray, List.getElem_cons_zero, List.getElem_cons_succ, List.setIfInBounds_toArray, List.set_cons_zero, List.set_cons_succ]
                  refine wpAnyH_take (i := 15) (v := (.int .i64 (0))) rfl (by kernel_rfl) (by kernel_rfl) (by kernel_rfl) (fun _ _ _ h => h) (Or.inl ⟨by rfl, fun w' hSw => ?_⟩) (by assumption) ?_
                  · go_simp
                  try simp only [Act.put, List.getElem_toArray, List.getElem_cons_zero, List.getElem_cons_succ, List.setIfInBounds_toArray, List.set_cons_zero, List.set_cons_succ]
                  refine wpAnyH_take (i := 16) (v := ?_) rfl (by kernel_rfl) (by kernel_rfl) (by kernel_rfl) (fun _ _ _ h => h) (Or.inl ⟨by rfl, ?_⟩) (by assumption) ?_
                  rotate_left
                  · intro w' hSw; go_simp; with_reducible rfl
                  try simp only [Act.put, List.getElem_toArray, List.getElem_cons_zero, List.getElem_cons_succ, List.setIfInBounds_toArray, List.set_cons_zero, List.set_cons_succ]
                  refine wpAnyH_take (i := 17) (v := ?_) rfl (by kernel_rfl) (by kernel_rfl) (by kernel_rfl) (fun _ _ _ h => h) (Or.inl ⟨by rfl, ?_⟩) (by assumption) ?_
                  rotate_left
                  · intro w' hSw; go_simp; with_reducible rfl
                  try simp only [Act.put, List.getElem_toArray, List.getElem_cons_zero, List.getElem_cons_succ, List.setIfInBounds_toArray, List.set_cons_zero, List.set_cons_succ]
                  refine wpAnyH_take (i := 18) (v := ?_) rfl (by kernel_rfl) (by kernel_rfl) (by kernel_rfl) (fun _ _ _ h => h) (Or.inl ⟨by rfl, ?_⟩) (by assumption) ?_
                  rotate_left
                  · intro w' hSw; go_simp; with_reducible rfl
                  try simp only [Act.put, List.getElem_toArray, List.getElem_cons_zero, List.getElem_cons_succ, List.setIfInBounds_toArray, List.set_cons_zero, List.set_cons_succ]
                  refine wpAnyH_take (i := 19) (v := (.int .i64 a.v)) rfl (by kernel_rfl) (by kernel_rfl) (by kernel_rfl) (fun _ _ _ h => h) (Or.inl ⟨by rfl, fun w' hSw => ?_⟩) (by assumption) ?_
                  · obtain ⟨s0, s1, s2, s3⟩ := hSw; go_simp
                  try simp only [Act.put, List.getElem_toArray, List.getElem_cons_zero, List.getElem_cons_succ, List.setIfInBounds_toArray, List.set_cons_zero, List.set_cons_succ]
                  refine wpAnyH_take (i := 20) (v := (.bool true)) rfl (by kernel_rfl) (by kernel_rfl) (by kernel_rfl) (fun _ _ _ h => h) (Or.inl ⟨by rfl, fun w' hSw => ?_⟩) (by assumption) ?_
                  · go_simp
                  try simp only [Act.put, List.getElem_toArray, List.getElem_cons_zero, List.getElem_cons_succ, List.setIfInBounds_toArray, List.set_cons_zero, List.set_cons_succ]
                  refine wpAnyH_take (i := 21) (v := (.bool true)) rfl (by kernel_rfl) (by kernel_rfl) (by kernel_rfl) (fun _ _ _ h => h) (Or.inl ⟨by rfl, fun w' hSw => ?_⟩) (by assumption) ?_
                  · go_simp
                  try simp only [Act.put, List.getElem_toArray, List.getElem_cons_zero, List.getElem_cons_succ, List.setIfInBounds_toArray, List.set_cons_zero, List.set_cons_succ]
                  refine wpAnyH_take (i := 22) (v := (.bool true)) rfl (by kernel_rfl) (by kernel_rfl) (by kernel_rfl) (fun _ _ _ h => h) (Or.inl ⟨by rfl, fun w' hSw => ?_⟩) (by assumption) ?_
                  · go_simp
                  try simp only [Act.put, List.getElem_toArray, List.getElem_cons_zero, List.getElem_cons_succ, List.setIfInBounds_toArray, List.set_cons_zero, List.set_cons_succ]
                  refine wpAnyH_done (by kernel_rfl) ?_ _
                  go_wp2_with fail
                  have HE : Aside0 (bst (fun x => decide (conf x)) a b f 2 = 1) := ⟨by have k1 := HM.out; have k2 := HV.out; have k3 := HT.out; unfold bst best; simp [HW.out, HM.out, HV.out, HT.out] <;> omega⟩
                  first
                  | exact ⟨⟨2, by go_num, by omega, by rw [HE.out], HB4⟩, by simp [intOf]⟩
                  | (refine ⟨?_, ?_⟩
                     · repeat apply Exists.intro
                       refine ⟨?_, ?_⟩
                       rotate_left
                       · repeat' (first | exact rfl | apply And.intro)
                       first | exact ⟨2, by go_num, by omega, by rw [HE.out], HB4⟩ | exact ⟨2, by go_num, by omega, by rw [HE.out]⟩
                     · simp [intOf])
                · have HT := Aside0.mk hg
                  have hd2 : decide (a.v < b.v) = false := decide_eq_false hg
                  have k0 : ((wr.alloc (.cells #[.int .i64 b.s, .int .i64 b.v, .int .i64 b.t] 46 (0, 0))).drew).cell? ⟨wr.heap.size, 0, none⟩ = some (.int .i64 b.s) ∧ ((wr.alloc (.cells #[.int .i64 b.s, .int .i64 b.v, .int .i64 b.t] 46 (0, 0))).drew).cell? ⟨wr.heap.size, 1, none⟩ = some (.int .i64 b.v) ∧ ((wr.alloc (.cells #[.int .i64 b.s, .int .i64 b.v, .int .i64 b.t] 46 (0, 0))).drew).cell? ⟨wr.heap.size, 2, none⟩ = some (.int .i64 b.t) ∧ ((wr.alloc (.cells #[.int .i64 b.s, .int .i64 b.v, .int .i64 b.t] 46 (0, 0))).drew).cell? ⟨w.heap.size, 1, none⟩ = some (.int .i64 a.v) := ⟨by rw [blk_cell (show (((wr.alloc (.cells #[.int .i64 b.s, .int .i64 b.v, .int .i64 b.t] 46 (0, 0))).drew)).heap[wr.heap.size]? = _ from blk_new wr (.cells #[.int .i64 b.s, .int .i64 b.v, .int .i64 b.t] 46 (0, 0)))]; rfl, by rw [blk_cell (show (((wr.alloc (.cells #[.int .i64 b.s, .int .i64 b.v, .int .i64 b.t] 46 (0, 0))).drew)).heap[wr.heap.size]? = _ from blk_new wr (.cells #[.int .i64 b.s, .int .i64 b.v, .int .i64 b.t] 46 (0, 0)))]; rfl, by rw [blk_cell (show (((wr.alloc (.cells #[.int .i64 b.s, .int .i64 b.v, .int .i64 b.t] 46 (0, 0))).drew)).heap[wr.heap.size]? = _ from blk_new wr (.cells #[.int .i64 b.s, .int .i64 b.v, .int .i64 b.t] 46 (0, 0)))]; rfl, by rw [blk_cell (show (((wr.alloc (.cells #[.int .i64 b.s, .int .i64 b.v, .int .i64 b.t] 46 (0, 0))).drew)).heap[w.heap.size]? = _ from blk_alloc (blk_below HG.out.1 HBr.out) (.cells #[.int .i64 b.s, .int .i64 b.v, .int .i64 b.t] 46 (0, 0)))]; rfl⟩
                  refine wp_region_held_drew (S := fun w' => w'.cell? ⟨wr.heap.size, 0, none⟩ = some (.int .i64 b.s) ∧ w'.cell? ⟨wr.heap.size, 1, none⟩ = some (.int .i64 b.v) ∧ w'.cell? ⟨wr.heap.size, 2, none⟩ = some (.int .i64 b.t) ∧ w'.cell? ⟨w.heap.size, 1, none⟩ = some (.int .i64 a.v)) (by kernel_rfl) k0 (fun hHeld => ?_)
                  refine wpAnyH_take (i := 0) (v := (.func (.func 73) #[] #[])) rfl (by kernel_rfl) (by kernel_rfl) (by kernel_rfl) (fun _ _ _ h => h) (Or.inl ⟨by rfl, fun w' hSw => ?_⟩) (by assumption) ?_
                  · go_simp
                  try simp only [Act.put, List.getElem_toArray, List.getElem_cons_zero, List.getElem_cons_succ, List.setIfInBounds_toArray, List.set_cons_zero, List.set_cons_succ]
                  refine wpAnyH_take (i := 1) (v := (slV b)) rfl (by kernel_rfl) (by kernel_rfl) (by kernel_rfl) (fun _ _ _ h => h) (Or.inl ⟨by rfl, fun w' hSw => ?_⟩) (by assumption) ?_
                  · obtain ⟨s0, s1, s2, s3⟩ := hSw; go_simp
                  try simp only [Act.put, List.getElem_toArray, List.getElem_cons_zero, List.getElem_cons_succ, List.setIfInBounds_toArray, List.set_cons_zero, List.set_cons_succ]
                  refine wpAnyH_ready (rs := [2]) (by kernel_rfl) (by simp) ?_
                  refine AllReadyH.cons rfl (fun K hK => ?_) AllReadyH.nil
                  go_simp
                  go_at_call 73
                  refine (confirmed_any b _).mono ?_
                  rintro e w4 ⟨rfl, hb4⟩
                  simp only [hm, decide_true, decide_false]
                  have HB4 := Aside0.mk (below_step (below_drew1 (below_alloc HBr.out (.cells #[.int .i64 b.s, .int .i64 b.v, .int .i64 b.t] 46 (0, 0)))) hb4)
                  have HN4 := Aside0.mk (blk_below (show (((wr.alloc (.cells #[.int .i64 b.s, .int .i64 b.v, .int .i64 b.t] 46 (0, 0))).drew)).heap[wr.heap.size]? = _ from blk_new wr (.cells #[.int .i64 b.s, .int .i64 b.v, .int .i64 b.t] 46 (0, 0))) hb4)
                  have k4 : w4.cell? ⟨wr.heap.size, 0, none⟩ = some (.int .i64 b.s) ∧ w4.cell? ⟨wr.heap.size, 1, none⟩ = some (.int .i64 b.v) ∧ w4.cell? ⟨wr.heap.size, 2, none⟩ = some (.int .i64 b.t) ∧ w4.cell? ⟨w.heap.size, 1, none⟩ = some (.int .i64 a.v) := ⟨by rw [blk_cell HN4.out]; rfl, by rw [blk_cell HN4.out]; rfl, by rw [blk_cell HN4.out]; rfl, by rw [blk_cell (blk_below HG.out.1 HB4.out)]; rfl⟩
                  clear k0 hHeld hb4
                  refine hK.out _ _ k4 (fun hHeld => ?_)
                  clear hK K
                  try simp only [Act.put, List.getElem_toArray, List.getElem_cons_zero, List.getElem_cons_succ, List.setIfInBounds_toArray, List.set_cons_zero, List.set_cons_succ]
                  refine wpAnyH_take (i := 3) (v := (.bool true)) rfl (by kernel_rfl) (by kernel_rfl) (by kernel_rfl) (fun _ _ _ h => h) (Or.inl ⟨by rfl, fun w' hSw => ?_⟩) (by assumption) ?_
                  · go_simp
                  try simp only [Act.put, List.getElem_toArray, List.getElem_cons_zero, List.getElem_cons_succ, List.setIfInBounds_toArray, List.set_cons_zero, List.set_cons_succ]
                  refine wpAnyH_take (i := 4) (v := ?_) rfl (by kernel_rfl) (by kernel_rfl) (by kernel_rfl) (fun _ _ _ h => h) (Or.inl ⟨by rfl, ?_⟩) (by assumption) ?_
                  rotate_left
                  · intro w' hSw; go_simp; with_reducible rfl
                  try simp only [Act.put, List.getElem_toArray, List.getElem_cons_zero, List.getElem_cons_succ, List.setIfInBounds_toArray, List.set_cons_zero, List.set_cons_succ]
                  refine wpAnyH_take (i := 5) (v := (.int .i64 b.v)) rfl (by kernel_rfl) (by kernel_rfl) (by kernel_rfl) (fun _ _ _ h => h) (Or.inl ⟨by rfl, fun w' hSw => ?_⟩) (by assumption) ?_
                  · obtain ⟨s0, s1, s2, s3⟩ := hSw; go_simp
                  try simp only [Act.put, List.getElem_toArray, List.getElem_cons_zero, List.getElem_cons_succ, List.setIfInBounds_toArray, List.set_cons_zero, List.set_cons_succ]
                  refine wpAnyH_take (i := 6) (v := (.int .i64 f)) rfl (by kernel_rfl) (by kernel_rfl) (by kernel_rfl) (fun _ _ _ h => h) (Or.inl ⟨by rfl, fun w' hSw => ?_⟩) (by assumption) ?_
                  · go_simp
                  try simp only [Act.put, List.getElem_toArray, List.getElem_cons_zero, List.getElem_cons_succ, List.setIfInBounds_toArray, List.set_cons_zero, List.set_cons_succ]
                  refine wpAnyH_take (i := 7) (v := (.bool true)) rfl (by kernel_rfl) (by kernel_rfl) (by kernel_rfl) (fun _ _ _ h => h) (Or.inl ⟨by rfl, fun w' hSw => ?_⟩) (by assumption) ?_
                  · go_simp
                  try simp only [Act.put, List.getElem_toArray, List.getElem_cons_zero, List.getElem_cons_succ, List.setIfInBounds_toArray, List.set_cons_zero, List.set_cons_succ]
                  refine wpAnyH_take (i := 8) (v := (.bool true)) rfl (by kernel_rfl) (by kernel_rfl) (by kernel_rfl) (fun _ _ _ h => h) (Or.inl ⟨by rfl, fun w' hSw => ?_⟩) (by assumption) ?_
                  · go_simp
                  try simp only [Act.put, List.getElem_toArray, List.getElem_cons_zero, List.getElem_cons_succ, List.setIfInBounds_toArray, List.set_cons_zero, List.set_cons_succ]
                  refine wpAnyH_take (i := 9) (v := (.bool true)) rfl (by kernel_rfl) (by kernel_rfl) (by kernel_rfl) (fun _ _ _ h => h) (Or.inl ⟨by rfl, fun w' hSw => ?_⟩) (by assumption) ?_
                  · go_simp
                  try simp only [Act.put, List.getElem_toArray, List.getElem_cons_zero, List.getElem_cons_succ, List.setIfInBounds_toArray, List.set_cons_zero, List.set_cons_succ]
                  refine wpAnyH_take (i := 10) (v := (.int .i64 (0))) rfl (by kernel_rfl) (by kernel_rfl) (by kernel_rfl) (fun _ _ _ h => h) (Or.inl ⟨by rfl, fun w' hSw => ?_⟩) (by assumption) ?_
                  · go_simp
                  try simp only [Act.put, List.getElem_toArray, List.getElem_cons_zero, List.getElem_cons_succ, List.setIfInBounds_toArray, List.set_cons_zero, List.set_cons_succ]
                  refine wpAnyH_take (i := 11) (v := (.bool false)) rfl (by kernel_rfl) (by kernel_rfl) (by kernel_rfl) (fun _ _ _ h => h) (Or.inl ⟨by rfl, fun w' hSw => ?_⟩) (by assumption) ?_
                  · go_simp
                  try simp only [Act.put, List.getElem_toArray, List.getElem_cons_zero, List.getElem_cons_succ, List.setIfInBounds_toArray, List.set_cons_zero, List.set_cons_succ]
                  refine wpAnyH_take (i := 12) (v := (.bool false)) rfl (by kernel_rfl) (by kernel_rfl) (by kernel_rfl) (fun _ _ _ h => h) (Or.inl ⟨by rfl, fun w' hSw => ?_⟩) (by assumption) ?_
                  · go_simp
                  try simp only [Act.put, List.getElem_toArray, List.getElem_cons_zero, List.getElem_cons_succ, List.setIfInBounds_toArray, List.set_cons_zero, List.set_cons_succ]
                  refine wpAnyH_take (i := 13) (v := ?_) rfl (by kernel_rfl) (by kernel_rfl) (by kernel_rfl) (fun _ _ _ h => h) (Or.inl ⟨by rfl, ?_⟩) (by assumption) ?_
                  rotate_left
                  · intro w' hSw; go_simp; with_reducible rfl
                  try simp only [Act.put, List.getElem_toArray, List.getElem_cons_zero, List.getElem_cons_succ, List.setIfInBounds_toArray, List.set_cons_zero, List.set_cons_succ]
                  refine wpAnyH_take (i := 14) (v := (.int .i64 b.v)) rfl (by kernel_rfl) (by kernel_rfl) (by kernel_rfl) (fun _ _ _ h => h) (Or.inl ⟨by rfl, fun w' hSw => ?_⟩) (by assumption) ?_
                  · obtain ⟨s0, s1, s2, s3⟩ := hSw; go_simp
                  try simp only [Act.put, List.getElem_toArray, List.getElem_cons_zero, List.getElem_cons_succ, List.setIfInBounds_toArray, List.set_cons_zero, List.set_cons_succ]
                  refine wpAnyH_take (i := 15) (v := (.int .i64 (0))) rfl (by kernel_rfl) (by kernel_rfl) (by kernel_rfl) (fun _ _ _ h => h) (Or.inl ⟨by rfl, fun w' hSw => ?_⟩) (by assumption) ?_
                  · go_simp
                  try simp only [Act.put, List.getElem_toArray, List.getElem_cons_zero, List.getElem_cons_succ, List.setIfInBounds_toArray, List.set_cons_zero, List.set_cons_succ]
                  refine wpAnyH_take (i := 16) (v := ?_) rfl (by kernel_rfl) (by kernel_rfl) (by kernel_rfl) (fun _ _ _ h => h) (Or.inl ⟨by rfl, ?_⟩) (by assumption) ?_
                  rotate_left
                  · intro w' hSw; go_simp; with_reducible rfl
                  try simp only [Act.put, List.getElem_toArray, List.getElem_cons_zero, List.getElem_cons_succ, List.setIfInBounds_toArray, List.set_cons_zero, List.set_cons_succ]
                  refine wpAnyH_take (i := 17) (v := ?_) rfl (by kernel_rfl) (by kernel_rfl) (by kernel_rfl) (fun _ _ _ h => h) (Or.inl ⟨by rfl, ?_⟩) (by assumption) ?_
                  rotate_left
                  · intro w' hSw; go_simp; with_reducible rfl
                  try simp only [Act.put, List.getElem_toArray, List.getElem_cons_zero, List.getElem_cons_succ, List.setIfInBounds_toArray, List.set_cons_zero, List.set_cons_succ]
                  refine wpAnyH_take (i := 18) (v := ?_) rfl (by kernel_rfl) (by kernel_rfl) (by kernel_rfl) (fun _ _ _ h => h) (Or.inl ⟨by rfl, ?_⟩) (by assumption) ?_
                  rotate_left
                  · intro w' hSw; go_simp; with_reducible rfl
                  try simp only [Act.put, List.getElem_toArray, List.getElem_cons_zero, List.getElem_cons_succ, List.setIfInBounds_toArray, List.set_cons_zero, List.set_cons_succ]
                  refine wpAnyH_take (i := 19) (v := (.int .i64 a.v)) rfl (by kernel_rfl) (by kernel_rfl) (by kernel_rfl) (fun _ _ _ h => h) (Or.inl ⟨by rfl, fun w' hSw => ?_⟩) (by assumption) ?_
                  · obtain ⟨s0, s1, s2, s3⟩ := hSw; go_simp
                  try simp only [Act.put, List.getElem_toArray, List.getElem_cons_zero, List.getElem_cons_succ, List.setIfInBounds_toArray, List.set_cons_zero, List.set_cons_succ]
                  refine wpAnyH_take (i := 20) (v := (.bool false)) rfl (by kernel_rfl) (by kernel_rfl) (by kernel_rfl) (fun _ _ _ h => h) (Or.inl ⟨by rfl, fun w' hSw => ?_⟩) (by assumption) ?_
                  · go_simp
                  try simp only [Act.put, List.getElem_toArray, List.getElem_cons_zero, List.getElem_cons_succ, List.setIfInBounds_toArray, List.set_cons_zero, List.set_cons_succ]
                  refine wpAnyH_take (i := 21) (v := (.bool false)) rfl (by kernel_rfl) (by kernel_rfl) (by kernel_rfl) (fun _ _ _ h => h) (Or.inl ⟨by rfl, fun w' hSw => ?_⟩) (by assumption) ?_
                  · go_simp
                  try simp only [Act.put, List.getElem_toArray, List.getElem_cons_zero, List.getElem_cons_succ, List.setIfInBounds_toArray, List.set_cons_zero, List.set_cons_succ]
                  refine wpAnyH_take (i := 22) (v := (.bool false)) rfl (by kernel_rfl) (by kernel_rfl) (by kernel_rfl) (fun _ _ _ h => h) (Or.inl ⟨by rfl, fun w' hSw => ?_⟩) (by assumption) ?_
                  · go_simp
                  try simp only [Act.put, List.getElem_toArray, List.getElem_cons_zero, List.getElem_cons_succ, List.setIfInBounds_toArray, List.set_cons_zero, List.set_cons_succ]
                  refine wpAnyH_done (by kernel_rfl) ?_ _
                  go_wp2_with fail
                  have HE : Aside0 (bst (fun x => decide (conf x)) a b f 2 = 0) := ⟨by have k1 := HM.out; have k2 := HV.out; have k3 := HT.out; unfold bst best; simp [HW.out, HM.out, HV.out, HT.out] <;> omega⟩
                  first
                  | exact ⟨⟨2, by go_num, by omega, by rw [HE.out], HB4⟩, by simp [intOf]⟩
                  | (refine ⟨?_, ?_⟩
                     · repeat apply Exists.intro
                       refine ⟨?_, ?_⟩
                       rotate_left
                       · repeat' (first | exact rfl | apply And.intro)
                       first | exact ⟨2, by go_num, by omega, by rw [HE.out], HB4⟩ | exact ⟨2, by go_num, by omega, by rw [HE.out]⟩
                     · simp [intOf])
              · have HV := Aside0.mk hv
                have HT := HM
                have hd : decide (f ≤ b.v) = false := decide_eq_false hv
                have k0 : ((wr.alloc (.cells #[.int .i64 b.s, .int .i64 b.v, .int .i64 b.t] 46 (0, 0))).drew).cell? ⟨wr.heap.size, 0, none⟩ = some (.int .i64 b.s) ∧ ((wr.alloc (.cells #[.int .i64 b.s, .int .i64 b.v, .int .i64 b.t] 46 (0, 0))).drew).cell? ⟨wr.heap.size, 1, none⟩ = some (.int .i64 b.v) ∧ ((wr.alloc (.cells #[.int .i64 b.s, .int .i64 b.v, .int .i64 b.t] 46 (0, 0))).drew).cell? ⟨wr.heap.size, 2, none⟩ = some (.int .i64 b.t) ∧ ((wr.alloc (.cells #[.int .i64 b.s, .int .i64 b.v, .int .i64 b.t] 46 (0, 0))).drew).cell? ⟨w.heap.size, 1, none⟩ = some (.int .i64 a.v) := ⟨by rw [blk_cell (show (((wr.alloc (.cells #[.int .i64 b.s, .int .i64 b.v, .int .i64 b.t] 46 (0, 0))).drew)).heap[wr.heap.size]? = _ from blk_new wr (.cells #[.int .i64 b.s, .int .i64 b.v, .int .i64 b.t] 46 (0, 0)))]; rfl, by rw [blk_cell (show (((wr.alloc (.cells #[.int .i64 b.s, .int .i64 b.v, .int .i64 b.t] 46 (0, 0))).drew)).heap[wr.heap.size]? = _ from blk_new wr (.cells #[.int .i64 b.s, .int .i64 b.v, .int .i64 b.t] 46 (0, 0)))]; rfl, by rw [blk_cell (show (((wr.alloc (.cells #[.int .i64 b.s, .int .i64 b.v, .int .i64 b.t] 46 (0, 0))).drew)).heap[wr.heap.size]? = _ from blk_new wr (.cells #[.int .i64 b.s, .int .i64 b.v, .int .i64 b.t] 46 (0, 0)))]; rfl, by rw [blk_cell (show (((wr.alloc (.cells #[.int .i64 b.s, .int .i64 b.v, .int .i64 b.t] 46 (0, 0))).drew)).heap[w.heap.size]? = _ from blk_alloc (blk_below HG.out.1 HBr.out) (.cells #[.int .i64 b.s, .int .i64 b.v, .int .i64 b.t] 46 (0, 0)))]; rfl⟩
                refine wp_region_held_drew (S := fun w' => w'.cell? ⟨wr.heap.size, 0, none⟩ = some (.int .i64 b.s) ∧ w'.cell? ⟨wr.heap.size, 1, none⟩ = some (.int .i64 b.v) ∧ w'.cell? ⟨wr.heap.size, 2, none⟩ = some (.int .i64 b.t) ∧ w'.cell? ⟨w.heap.size, 1, none⟩ = some (.int .i64 a.v)) (by kernel_rfl) k0 (fun hHeld => ?_)
                refine wpAnyH_take (i := 0) (v := (.func (.func 73) #[] #[])) rfl (by kernel_rfl) (by kernel_rfl) (by kernel_rfl) (fun _ _ _ h => h) (Or.inl ⟨by rfl, fun w' hSw => ?_⟩) (by assumption) ?_
                · go_simp
                try simp only [Act.put, List.getElem_toArray, List.getElem_cons_zero, List.getElem_cons_succ, List.setIfInBounds_toArray, List.set_cons_zero, List.set_cons_succ]
                refine wpAnyH_take (i := 1) (v := (slV b)) rfl (by kernel_rfl) (by kernel_rfl) (by kernel_rfl) (fun _ _ _ h => h) (Or.inl ⟨by rfl, fun w' hSw => ?_⟩) (by assumption) ?_
                · obtain ⟨s0, s1, s2, s3⟩ := hSw; go_simp
                try simp only [Act.put, List.getElem_toArray, List.getElem_cons_zero, List.getElem_cons_succ, List.setIfInBounds_toArray, List.set_cons_zero, List.set_cons_succ]
                refine wpAnyH_ready (rs := [2]) (by kernel_rfl) (by simp) ?_
                refine AllReadyH.cons rfl (fun K hK => ?_) AllReadyH.nil
                go_simp
                go_at_call 73
                refine (confirmed_any b _).mono ?_
                rintro e w4 ⟨rfl, hb4⟩
                simp only [hm, decide_true, decide_false]
                have HB4 := Aside0.mk (below_step (below_drew1 (below_alloc HBr.out (.cells #[.int .i64 b.s, .int .i64 b.v, .int .i64 b.t] 46 (0, 0)))) hb4)
                have HN4 := Aside0.mk (blk_below (show (((wr.alloc (.cells #[.int .i64 b.s, .int .i64 b.v, .int .i64 b.t] 46 (0, 0))).drew)).heap[wr.heap.size]? = _ from blk_new wr (.cells #[.int .i64 b.s, .int .i64 b.v, .int .i64 b.t] 46 (0, 0))) hb4)
                have k4 : w4.cell? ⟨wr.heap.size, 0, none⟩ = some (.int .i64 b.s) ∧ w4.cell? ⟨wr.heap.size, 1, none⟩ = some (.int .i64 b.v) ∧ w4.cell? ⟨wr.heap.size, 2, none⟩ = some (.int .i64 b.t) ∧ w4.cell? ⟨w.heap.size, 1, none⟩ = some (.int .i64 a.v) := ⟨by rw [blk_cell HN4.out]; rfl, by rw [blk_cell HN4.out]; rfl, by rw [blk_cell HN4.out]; rfl, by rw [blk_cell (blk_below HG.out.1 HB4.out)]; rfl⟩
                clear k0 hHeld hb4
                refine hK.out _ _ k4 (fun hHeld => ?_)
                clear hK K
                try simp only [Act.put, List.getElem_toArray, List.getElem_cons_zero, List.getElem_cons_succ, List.setIfInBounds_toArray, List.set_cons_zero, List.set_cons_succ]
                refine wpAnyH_take (i := 3) (v := (.bool true)) rfl (by kernel_rfl) (by kernel_rfl) (by kernel_rfl) (fun _ _ _ h => h) (Or.inl ⟨by rfl, fun w' hSw => ?_⟩) (by assumption) ?_
                · go_simp
                try simp only [Act.put, List.getElem_toArray, List.getElem_cons_zero, List.getElem_cons_succ, List.setIfInBounds_toArray, List.set_cons_zero, List.set_cons_succ]
                refine wpAnyH_take (i := 4) (v := ?_) rfl (by kernel_rfl) (by kernel_rfl) (by kernel_rfl) (fun _ _ _ h => h) (Or.inl ⟨by rfl, ?_⟩) (by assumption) ?_
                rotate_left
                · intro w' hSw; go_simp; with_reducible rfl
                try simp only [Act.put, List.getElem_toArray, List.getElem_cons_zero, List.getElem_cons_succ, List.setIfInBounds_toArray, List.set_cons_zero, List.set_cons_succ]
                refine wpAnyH_take (i := 5) (v := (.int .i64 b.v)) rfl (by kernel_rfl) (by kernel_rfl) (by kernel_rfl) (fun _ _ _ h => h) (Or.inl ⟨by rfl, fun w' hSw => ?_⟩) (by assumption) ?_
                · obtain ⟨s0, s1, s2, s3⟩ := hSw; go_simp
                try simp only [Act.put, List.getElem_toArray, List.getElem_cons_zero, List.getElem_cons_succ, List.setIfInBounds_toArray, List.set_cons_zero, List.set_cons_succ]
                refine wpAnyH_take (i := 6) (v := (.int .i64 f)) rfl (by kernel_rfl) (by kernel_rfl) (by kernel_rfl) (fun _ _ _ h => h) (Or.inl ⟨by rfl, fun w' hSw => ?_⟩) (by assumption) ?_
                · go_simp
                try simp only [Act.put, List.getElem_toArray, List.getElem_cons_zero, List.getElem_cons_succ, List.setIfInBounds_toArray, List.set_cons_zero, List.set_cons_succ]
                refine wpAnyH_take (i := 7) (v := (.bool false)) rfl (by kernel_rfl) (by kernel_rfl) (by kernel_rfl) (fun _ _ _ h => h) (Or.inl ⟨by rfl, fun w' hSw => ?_⟩) (by assumption) ?_
                · go_simp
                try simp only [Act.put, List.getElem_toArray, List.getElem_cons_zero, List.getElem_cons_succ, List.setIfInBounds_toArray, List.set_cons_zero, List.set_cons_succ]
                refine wpAnyH_take (i := 8) (v := (.bool false)) rfl (by kernel_rfl) (by kernel_rfl) (by kernel_rfl) (fun _ _ _ h => h) (Or.inl ⟨by rfl, fun w' hSw => ?_⟩) (by assumption) ?_
                · go_simp
                try simp only [Act.put, List.getElem_toArray, List.getElem_cons_zero, List.getElem_cons_succ, List.setIfInBounds_toArray, List.set_cons_zero, List.set_cons_succ]
                refine wpAnyH_take (i := 9) (v := (.bool false)) rfl (by kernel_rfl) (by kernel_rfl) (by kernel_rfl) (fun _ _ _ h => h) (Or.inl ⟨by rfl, fun w' hSw => ?_⟩) (by assumption) ?_
                · go_simp
                try simp only [Act.put, List.getElem_toArray, List.getElem_cons_zero, List.getElem_cons_succ, List.setIfInBounds_toArray, List.set_cons_zero, List.set_cons_succ]
                refine wpAnyH_take (i := 10) (v := undef) rfl (by kernel_rfl) (by kernel_rfl) (by kernel_rfl) (fun _ _ _ h => h) (Or.inr ⟨by rfl, rfl⟩) (by assumption) ?_
                try simp only [Act.put, List.getElem_toArray, List.getElem_cons_zero, List.getElem_cons_succ, List.setIfInBounds_toArray, List.set_cons_zero, List.set_cons_succ]
                refine wpAnyH_take (i := 11) (v := undef) rfl (by kernel_rfl) (by kernel_rfl) (by kernel_rfl) (fun _ _ _ h => h) (Or.inr ⟨by rfl, rfl⟩) (by assumption) ?_
                try simp only [Act.put, List.getElem_toArray, List.getElem_cons_zero, List.getElem_cons_succ, List.setIfInBounds_toArray, List.set_cons_zero, List.set_cons_succ]
                refine wpAnyH_take (i := 12) (v := undef) rfl (by kernel_rfl) (by kernel_rfl) (by kernel_rfl) (fun _ _ _ h => h) (Or.inr ⟨by rfl, rfl⟩) (by assumption) ?_
                try simp only [Act.put, List.getElem_toArray, List.getElem_cons_zero, List.getElem_cons_succ, List.setIfInBounds_toArray, List.set_cons_zero, List.set_cons_succ]
                refine wpAnyH_take (i := 13) (v := undef) rfl (by kernel_rfl) (by kernel_rfl) (by kernel_rfl) (fun _ _ _ h => h) (Or.inr ⟨by rfl, rfl⟩) (by assumption) ?_
                try simp only [Act.put, List.getElem_toArray, List.getElem_cons_zero, List.getElem_cons_succ, List.setIfInBounds_toArray, List.set_cons_zero, List.set_cons_succ]
                refine wpAnyH_take (i := 14) (v := undef) rfl (by kernel_rfl) (by kernel_rfl) (by kernel_rfl) (fun _ _ _ h => h) (Or.inr ⟨by rfl, rfl⟩) (by assumption) ?_
                try simp only [Act.put, List.getElem_toArray, List.getElem_cons_zero, List.getElem_cons_succ, List.setIfInBounds_toArray, List.set_cons_zero, List.set_cons_succ]
                refine wpAnyH_take (i := 15) (v := undef) rfl (by kernel_rfl) (by kernel_rfl) (by kernel_rfl) (fun _ _ _ h => h) (Or.inr ⟨by rfl, rfl⟩) (by assumption) ?_
                try simp only [Act.put, List.getElem_toArray, List.getElem_cons_zero, List.getElem_cons_succ, List.setIfInBounds_toArray, List.set_cons_zero, List.set_cons_succ]
                refine wpAnyH_take (i := 16) (v := undef) rfl (by kernel_rfl) (by kernel_rfl) (by kernel_rfl) (fun _ _ _ h => h) (Or.inr ⟨by rfl, rfl⟩) (by assumption) ?_
                try simp only [Act.put, List.getElem_toArray, List.getElem_cons_zero, List.getElem_cons_succ, List.setIfInBounds_toArray, List.set_cons_zero, List.set_cons_succ]
                refine wpAnyH_take (i := 17) (v := undef) rfl (by kernel_rfl) (by kernel_rfl) (by kernel_rfl) (fun _ _ _ h => h) (Or.inr ⟨by rfl, rfl⟩) (by assumption) ?_
                try simp only [Act.put, List.getElem_toArray, List.getElem_cons_zero, List.getElem_cons_succ, List.setIfInBounds_toArray, List.set_cons_zero, List.set_cons_succ]
                refine wpAnyH_take (i := 18) (v := undef) rfl (by kernel_rfl) (by kernel_rfl) (by kernel_rfl) (fun _ _ _ h => h) (Or.inr ⟨by rfl, rfl⟩) (by assumption) ?_
                try simp only [Act.put, List.getElem_toArray, List.getElem_cons_zero, List.getElem_cons_succ, List.setIfInBounds_toArray, List.set_cons_zero, List.set_cons_succ]
                refine wpAnyH_take (i := 19) (v := undef) rfl (by kernel_rfl) (by kernel_rfl) (by kernel_rfl) (fun _ _ _ h => h) (Or.inr ⟨by rfl, rfl⟩) (by assumption) ?_
                try simp only [Act.put, List.getElem_toArray, List.getElem_cons_zero, List.getElem_cons_succ, List.setIfInBounds_toArray, List.set_cons_zero, List.set_cons_succ]
                refine wpAnyH_take (i := 20) (v := undef) rfl (by kernel_rfl) (by kernel_rfl) (by kernel_rfl) (fun _ _ _ h => h) (Or.inr ⟨by rfl, rfl⟩) (by assumption) ?_
                try simp only [Act.put, List.getElem_toArray, List.getElem_cons_zero, List.getElem_cons_succ, List.setIfInBounds_toArray, List.set_cons_zero, List.set_cons_succ]
                refine wpAnyH_take (i := 21) (v := undef) rfl (by kernel_rfl) (by kernel_rfl) (by kernel_rfl) (fun _ _ _ h => h) (Or.inr ⟨by rfl, rfl⟩) (by assumption) ?_
                try simp only [Act.put, List.getElem_toArray, List.getElem_cons_zero, List.getElem_cons_succ, List.setIfInBounds_toArray, List.set_cons_zero, List.set_cons_succ]
                refine wpAnyH_take (i := 22) (v := (.bool false)) rfl (by kernel_rfl) (by kernel_rfl) (by kernel_rfl) (fun _ _ _ h => h) (Or.inl ⟨by rfl, fun w' hSw => ?_⟩) (by assumption) ?_
                · go_simp
                try simp only [Act.put, List.getElem_toArray, List.getElem_cons_zero, List.getElem_cons_succ, List.setIfInBounds_toArray, List.set_cons_zero, List.set_cons_succ]
                refine wpAnyH_done (by kernel_rfl) ?_ _
                go_wp2_with fail
                have HE : Aside0 (bst (fun x => decide (conf x)) a b f 2 = 0) := ⟨by have k1 := HM.out; have k2 := HV.out; have k3 := HT.out; unfold bst best; simp [HW.out, HM.out, HV.out, HT.out] <;> omega⟩
                first
                | exact ⟨⟨2, by go_num, by omega, by rw [HE.out], HB4⟩, by simp [intOf]⟩
                | (refine ⟨?_, ?_⟩
                   · repeat apply Exists.intro
                     refine ⟨?_, ?_⟩
                     rotate_left
                     · repeat' (first | exact rfl | apply And.intro)
                     first | exact ⟨2, by go_num, by omega, by rw [HE.out], HB4⟩ | exact ⟨2, by go_num, by omega, by rw [HE.out]⟩
                   · simp [intOf])
            · have HM := Aside0.mk hm
              have HV := HM
              have HT := HM
              have k0 : ((wr.alloc (.cells #[.int .i64 b.s, .int .i64 b.v, .int .i64 b.t] 46 (0, 0))).drew).cell? ⟨wr.heap.size, 0, none⟩ = some (.int .i64 b.s) ∧ ((wr.alloc (.cells #[.int .i64 b.s, .int .i64 b.v, .int .i64 b.t] 46 (0, 0))).drew).cell? ⟨wr.heap.size, 1, none⟩ = some (.int .i64 b.v) ∧ ((wr.alloc (.cells #[.int .i64 b.s, .int .i64 b.v, .int .i64 b.t] 46 (0, 0))).drew).cell? ⟨wr.heap.size, 2, none⟩ = some (.int .i64 b.t) ∧ ((wr.alloc (.cells #[.int .i64 b.s, .int .i64 b.v, .int .i64 b.t] 46 (0, 0))).drew).cell? ⟨w.heap.size, 1, none⟩ = some (.int .i64 a.v) := ⟨by rw [blk_cell (show (((wr.alloc (.cells #[.int .i64 b.s, .int .i64 b.v, .int .i64 b.t] 46 (0, 0))).drew)).heap[wr.heap.size]? = _ from blk_new wr (.cells #[.int .i64 b.s, .int .i64 b.v, .int .i64 b.t] 46 (0, 0)))]; rfl, by rw [blk_cell (show (((wr.alloc (.cells #[.int .i64 b.s, .int .i64 b.v, .int .i64 b.t] 46 (0, 0))).drew)).heap[wr.heap.size]? = _ from blk_new wr (.cells #[.int .i64 b.s, .int .i64 b.v, .int .i64 b.t] 46 (0, 0)))]; rfl, by rw [blk_cell (show (((wr.alloc (.cells #[.int .i64 b.s, .int .i64 b.v, .int .i64 b.t] 46 (0, 0))).drew)).heap[wr.heap.size]? = _ from blk_new wr (.cells #[.int .i64 b.s, .int .i64 b.v, .int .i64 b.t] 46 (0, 0)))]; rfl, by rw [blk_cell (show (((wr.alloc (.cells #[.int .i64 b.s, .int .i64 b.v, .int .i64 b.t] 46 (0, 0))).drew)).heap[w.heap.size]? = _ from blk_alloc (blk_below HG.out.1 HBr.out) (.cells #[.int .i64 b.s, .int .i64 b.v, .int .i64 b.t] 46 (0, 0)))]; rfl⟩
              refine wp_region_held_drew (S := fun w' => w'.cell? ⟨wr.heap.size, 0, none⟩ = some (.int .i64 b.s) ∧ w'.cell? ⟨wr.heap.size, 1, none⟩ = some (.int .i64 b.v) ∧ w'.cell? ⟨wr.heap.size, 2, none⟩ = some (.int .i64 b.t) ∧ w'.cell? ⟨w.heap.size, 1, none⟩ = some (.int .i64 a.v)) (by kernel_rfl) k0 (fun hHeld => ?_)
              refine wpAnyH_take (i := 0) (v := (.func (.func 73) #[] #[])) rfl (by kernel_rfl) (by kernel_rfl) (by kernel_rfl) (fun _ _ _ h => h) (Or.inl ⟨by rfl, fun w' hSw => ?_⟩) (by assumption) ?_
              · go_simp
              try simp only [Act.put, List.getElem_toArray, List.getElem_cons_zero, List.getElem_cons_succ, List.setIfInBounds_toArray, List.set_cons_zero, List.set_cons_succ]
              refine wpAnyH_take (i := 1) (v := (slV b)) rfl (by kernel_rfl) (by kernel_rfl) (by kernel_rfl) (fun _ _ _ h => h) (Or.inl ⟨by rfl, fun w' hSw => ?_⟩) (by assumption) ?_
              · obtain ⟨s0, s1, s2, s3⟩ := hSw; go_simp
              try simp only [Act.put, List.getElem_toArray, List.getElem_cons_zero, List.getElem_cons_succ, List.setIfInBounds_toArray, List.set_cons_zero, List.set_cons_succ]
              refine wpAnyH_ready (rs := [2]) (by kernel_rfl) (by simp) ?_
              refine AllReadyH.cons rfl (fun K hK => ?_) AllReadyH.nil
              go_simp
              go_at_call 73
              refine (confirmed_any b _).mono ?_
              rintro e w4 ⟨rfl, hb4⟩
              simp only [hm, decide_true, decide_false]
              have HB4 := Aside0.mk (below_step (below_drew1 (below_alloc HBr.out (.cells #[.int .i64 b.s, .int .i64 b.v, .int .i64 b.t] 46 (0, 0)))) hb4)
              have HN4 := Aside0.mk (blk_below (show (((wr.alloc (.cells #[.int .i64 b.s, .int .i64 b.v, .int .i64 b.t] 46 (0, 0))).drew)).heap[wr.heap.size]? = _ from blk_new wr (.cells #[.int .i64 b.s, .int .i64 b.v, .int .i64 b.t] 46 (0, 0))) hb4)
              have k4 : w4.cell? ⟨wr.heap.size, 0, none⟩ = some (.int .i64 b.s) ∧ w4.cell? ⟨wr.heap.size, 1, none⟩ = some (.int .i64 b.v) ∧ w4.cell? ⟨wr.heap.size, 2, none⟩ = some (.int .i64 b.t) ∧ w4.cell? ⟨w.heap.size, 1, none⟩ = some (.int .i64 a.v) := ⟨by rw [blk_cell HN4.out]; rfl, by rw [blk_cell HN4.out]; rfl, by rw [blk_cell HN4.out]; rfl, by rw [blk_cell (blk_below HG.out.1 HB4.out)]; rfl⟩
              clear k0 hHeld hb4
              refine hK.out _ _ k4 (fun hHeld => ?_)
              clear hK K
              try simp only [Act.put, List.getElem_toArray, List.getElem_cons_zero, List.getElem_cons_succ, List.setIfInBounds_toArray, List.set_cons_zero, List.set_cons_succ]
              refine wpAnyH_take (i := 3) (v := (.bool false)) rfl (by kernel_rfl) (by kernel_rfl) (by kernel_rfl) (fun _ _ _ h => h) (Or.inl ⟨by rfl, fun w' hSw => ?_⟩) (by assumption) ?_
              · go_simp
              try simp only [Act.put, List.getElem_toArray, List.getElem_cons_zero, List.getElem_cons_succ, List.setIfInBounds_toArray, List.set_cons_zero, List.set_cons_succ]
              refine wpAnyH_take (i := 4) (v := undef) rfl (by kernel_rfl) (by kernel_rfl) (by kernel_rfl) (fun _ _ _ h => h) (Or.inr ⟨by rfl, rfl⟩) (by assumption) ?_
              try simp only [Act.put, List.getElem_toArray, List.getElem_cons_zero, List.getElem_cons_succ, List.setIfInBounds_toArray, List.set_cons_zero, List.set_cons_succ]
              refine wpAnyH_take (i := 5) (v := undef) rfl (by kernel_rfl) (by kernel_rfl) (by kernel_rfl) (fun _ _ _ h => h) (Or.inr ⟨by rfl, rfl⟩) (by assumption) ?_
              try simp only [Act.put, List.getElem_toArray, List.getElem_cons_zero, List.getElem_cons_succ, List.setIfInBounds_toArray, List.set_cons_zero, List.set_cons_succ]
              refine wpAnyH_take (i := 6) (v := undef) rfl (by kernel_rfl) (by kernel_rfl) (by kernel_rfl) (fun _ _ _ h => h) (Or.inr ⟨by rfl, rfl⟩) (by assumption) ?_
              try simp only [Act.put, List.getElem_toArray, List.getElem_cons_zero, List.getElem_cons_succ, List.setIfInBounds_toArray, List.set_cons_zero, List.set_cons_succ]
              refine wpAnyH_take (i := 7) (v := undef) rfl (by kernel_rfl) (by kernel_rfl) (by kernel_rfl) (fun _ _ _ h => h) (Or.inr ⟨by rfl, rfl⟩) (by assumption) ?_
              try simp only [Act.put, List.getElem_toArray, List.getElem_cons_zero, List.getElem_cons_succ, List.setIfInBounds_toArray, List.set_cons_zero, List.set_cons_succ]
              refine wpAnyH_take (i := 8) (v := (.bool false)) rfl (by kernel_rfl) (by kernel_rfl) (by kernel_rfl) (fun _ _ _ h => h) (Or.inl ⟨by rfl, fun w' hSw => ?_⟩) (by assumption) ?_
              · go_simp
              try simp only [Act.put, List.getElem_toArray, List.getElem_cons_zero, List.getElem_cons_succ, List.setIfInBounds_toArray, List.set_cons_zero, List.set_cons_succ]
              refine wpAnyH_take (i := 9) (v := (.bool false)) rfl (by kernel_rfl) (by kernel_rfl) (by kernel_rfl) (fun _ _ _ h => h) (Or.inl ⟨by rfl, fun w' hSw => ?_⟩) (by assumption) ?_
              · go_simp
              try simp only [Act.put, List.getElem_toArray, List.getElem_cons_zero, List.getElem_cons_succ, List.setIfInBounds_toArray, List.set_cons_zero, List.set_cons_succ]
              refine wpAnyH_take (i := 10) (v := undef) rfl (by kernel_rfl) (by kernel_rfl) (by kernel_rfl) (fun _ _ _ h => h) (Or.inr ⟨by rfl, rfl⟩) (by assumption) ?_
              try simp only [Act.put, List.getElem_toArray, List.getElem_cons_zero, List.getElem_cons_succ, List.setIfInBounds_toArray, List.set_cons_zero, List.set_cons_succ]
              refine wpAnyH_take (i := 11) (v := undef) rfl (by kernel_rfl) (by kernel_rfl) (by kernel_rfl) (fun _ _ _ h => h) (Or.inr ⟨by rfl, rfl⟩) (by assumption) ?_
              try simp only [Act.put, List.getElem_toArray, List.getElem_cons_zero, List.getElem_cons_succ, List.setIfInBounds_toArray, List.set_cons_zero, List.set_cons_succ]
              refine wpAnyH_take (i := 12) (v := undef) rfl (by kernel_rfl) (by kernel_rfl) (by kernel_rfl) (fun _ _ _ h => h) (Or.inr ⟨by rfl, rfl⟩) (by assumption) ?_
              try simp only [Act.put, List.getElem_toArray, List.getElem_cons_zero, List.getElem_cons_succ, List.setIfInBounds_toArray, List.set_cons_zero, List.set_cons_succ]
              refine wpAnyH_take (i := 13) (v := undef) rfl (by kernel_rfl) (by kernel_rfl) (by kernel_rfl) (fun _ _ _ h => h) (Or.inr ⟨by rfl, rfl⟩) (by assumption) ?_
              try simp only [Act.put, List.getElem_toArray, List.getElem_cons_zero, List.getElem_cons_succ, List.setIfInBounds_toArray, List.set_cons_zero, List.set_cons_succ]
              refine wpAnyH_take (i := 14) (v := undef) rfl (by kernel_rfl) (by kernel_rfl) (by kernel_rfl) (fun _ _ _ h => h) (Or.inr ⟨by rfl, rfl⟩) (by assumption) ?_
              try simp only [Act.put, List.getElem_toArray, List.getElem_cons_zero, List.getElem_cons_succ, List.setIfInBounds_toArray, List.set_cons_zero, List.set_cons_succ]
              refine wpAnyH_take (i := 15) (v := undef) rfl (by kernel_rfl) (by kernel_rfl) (by kernel_rfl) (fun _ _ _ h => h) (Or.inr ⟨by rfl, rfl⟩) (by assumption) ?_
              try simp only [Act.put, List.getElem_toArray, List.getElem_cons_zero, List.getElem_cons_succ, List.setIfInBounds_toArray, List.set_cons_zero, List.set_cons_succ]
              refine wpAnyH_take (i := 16) (v := undef) rfl (by kernel_rfl) (by kernel_rfl) (by kernel_rfl) (fun _ _ _ h => h) (Or.inr ⟨by rfl, rfl⟩) (by assumption) ?_
              try simp only [Act.put, List.getElem_toArray, List.getElem_cons_zero, List.getElem_cons_succ, List.setIfInBounds_toArray, List.set_cons_zero, List.set_cons_succ]
              refine wpAnyH_take (i := 17) (v := undef) rfl (by kernel_rfl) (by kernel_rfl) (by kernel_rfl) (fun _ _ _ h => h) (Or.inr ⟨by rfl, rfl⟩) (by assumption) ?_
              try simp only [Act.put, List.getElem_toArray, List.getElem_cons_zero, List.getElem_cons_succ, List.setIfInBounds_toArray, List.set_cons_zero, List.set_cons_succ]
              refine wpAnyH_take (i := 18) (v := undef) rfl (by kernel_rfl) (by kernel_rfl) (by kernel_rfl) (fun _ _ _ h => h) (Or.inr ⟨by rfl, rfl⟩) (by assumption) ?_
              try simp only [Act.put, List.getElem_toArray, List.getElem_cons_zero, List.getElem_cons_succ, List.setIfInBounds_toArray, List.set_cons_zero, List.set_cons_succ]
              refine wpAnyH_take (i := 19) (v := undef) rfl (by kernel_rfl) (by kernel_rfl) (by kernel_rfl) (fun _ _ _ h => h) (Or.inr ⟨by rfl, rfl⟩) (by assumption) ?_
              try simp only [Act.put, List.getElem_toArray, List.getElem_cons_zero, List.getElem_cons_succ, List.setIfInBounds_toArray, List.set_cons_zero, List.set_cons_succ]
              refine wpAnyH_take (i := 20) (v := undef) rfl (by kernel_rfl) (by kernel_rfl) (by kernel_rfl) (fun _ _ _ h => h) (Or.inr ⟨by rfl, rfl⟩) (by assumption) ?_
              try simp only [Act.put, List.getElem_toArray, List.getElem_cons_zero, List.getElem_cons_succ, List.setIfInBounds_toArray, List.set_cons_zero, List.set_cons_succ]
              refine wpAnyH_take (i := 21) (v := undef) rfl (by kernel_rfl) (by kernel_rfl) (by kernel_rfl) (fun _ _ _ h => h) (Or.inr ⟨by rfl, rfl⟩) (by assumption) ?_
              try simp only [Act.put, List.getElem_toArray, List.getElem_cons_zero, List.getElem_cons_succ, List.setIfInBounds_toArray, List.set_cons_zero, List.set_cons_succ]
              refine wpAnyH_take (i := 22) (v := (.bool false)) rfl (by kernel_rfl) (by kernel_rfl) (by kernel_rfl) (fun _ _ _ h => h) (Or.inl ⟨by rfl, fun w' hSw => ?_⟩) (by assumption) ?_
              · go_simp
              try simp only [Act.put, List.getElem_toArray, List.getElem_cons_zero, List.getElem_cons_succ, List.setIfInBounds_toArray, List.set_cons_zero, List.set_cons_succ]
              refine wpAnyH_done (by kernel_rfl) ?_ _
              go_wp2_with fail
              have HE : Aside0 (bst (fun x => decide (conf x)) a b f 2 = 0) := ⟨by have k1 := HM.out; have k2 := HV.out; have k3 := HT.out; unfold bst best; simp [HW.out, HM.out, HV.out, HT.out] <;> omega⟩
              first
              | exact ⟨⟨2, by go_num, by omega, by rw [HE.out], HB4⟩, by simp [intOf]⟩
              | (refine ⟨?_, ?_⟩
                 · repeat apply Exists.intro
                   refine ⟨?_, ?_⟩
                   rotate_left
                   · repeat' (first | exact rfl | apply And.intro)
                   first | exact ⟨2, by go_num, by omega, by rw [HE.out], HB4⟩ | exact ⟨2, by go_num, by omega, by rw [HE.out]⟩
                 · simp [intOf])
          · have HW := Aside0.mk hw
            have hb1 : bst (fun x => decide (conf x)) a b f 1 = -1 := by unfold bst; simp [hw]
            rw [hb1]
            clear hb1 hw
            go_wp2_with fail
            have HT := HW
            by_cases hm : conf b
            · have HM := Aside0.mk hm
              by_cases hv : f ≤ b.v
              · have HV := Aside0.mk hv
                have hd : decide (f ≤ b.v) = true := decide_eq_true hv
                have k0 : ((wr.alloc (.cells #[.int .i64 b.s, .int .i64 b.v, .int .i64 b.t] 46 (0, 0))).drew).cell? ⟨wr.heap.size, 0, none⟩ = some (.int .i64 b.s) ∧ ((wr.alloc (.cells #[.int .i64 b.s, .int .i64 b.v, .int .i64 b.t] 46 (0, 0))).drew).cell? ⟨wr.heap.size, 1, none⟩ = some (.int .i64 b.v) ∧ ((wr.alloc (.cells #[.int .i64 b.s, .int .i64 b.v, .int .i64 b.t] 46 (0, 0))).drew).cell? ⟨wr.heap.size, 2, none⟩ = some (.int .i64 b.t) ∧ ((wr.alloc (.cells #[.int .i64 b.s, .int .i64 b.v, .int .i64 b.t] 46 (0, 0))).drew).cell? ⟨w.heap.size, 1, none⟩ = some (.int .i64 a.v) := ⟨by rw [blk_cell (show (((wr.alloc (.cells #[.int .i64 b.s, .int .i64 b.v, .int .i64 b.t] 46 (0, 0))).drew)).heap[wr.heap.size]? = _ from blk_new wr (.cells #[.int .i64 b.s, .int .i64 b.v, .int .i64 b.t] 46 (0, 0)))]; rfl, by rw [blk_cell (show (((wr.alloc (.cells #[.int .i64 b.s, .int .i64 b.v, .int .i64 b.t] 46 (0, 0))).drew)).heap[wr.heap.size]? = _ from blk_new wr (.cells #[.int .i64 b.s, .int .i64 b.v, .int .i64 b.t] 46 (0, 0)))]; rfl, by rw [blk_cell (show (((wr.alloc (.cells #[.int .i64 b.s, .int .i64 b.v, .int .i64 b.t] 46 (0, 0))).drew)).heap[wr.heap.size]? = _ from blk_new wr (.cells #[.int .i64 b.s, .int .i64 b.v, .int .i64 b.t] 46 (0, 0)))]; rfl, by rw [blk_cell (show (((wr.alloc (.cells #[.int .i64 b.s, .int .i64 b.v, .int .i64 b.t] 46 (0, 0))).drew)).heap[w.heap.size]? = _ from blk_alloc (blk_below HG.out.1 HBr.out) (.cells #[.int .i64 b.s, .int .i64 b.v, .int .i64 b.t] 46 (0, 0)))]; rfl⟩
                refine wp_region_held_drew (S := fun w' => w'.cell? ⟨wr.heap.size, 0, none⟩ = some (.int .i64 b.s) ∧ w'.cell? ⟨wr.heap.size, 1, none⟩ = some (.int .i64 b.v) ∧ w'.cell? ⟨wr.heap.size, 2, none⟩ = some (.int .i64 b.t) ∧ w'.cell? ⟨w.heap.size, 1, none⟩ = some (.int .i64 a.v)) (by kernel_rfl) k0 (fun hHeld => ?_)
                refine wpAnyH_take (i := 0) (v := (.func (.func 73) #[] #[])) rfl (by kernel_rfl) (by kernel_rfl) (by kernel_rfl) (fun _ _ _ h => h) (Or.inl ⟨by rfl, fun w' hSw => ?_⟩) (by assumption) ?_
                · go_simp
                try simp only [Act.put, List.getElem_toArray, List.getElem_cons_zero, List.getElem_cons_succ, List.setIfInBounds_toArray, List.set_cons_zero, List.set_cons_succ]
                refine wpAnyH_take (i := 1) (v := (slV b)) rfl (by kernel_rfl) (by kernel_rfl) (by kernel_rfl) (fun _ _ _ h => h) (Or.inl ⟨by rfl, fun w' hSw => ?_⟩) (by assumption) ?_
                · obtain ⟨s0, s1, s2, s3⟩ := hSw; go_simp
                try simp only [Act.put, List.getElem_toArray, List.getElem_cons_zero, List.getElem_cons_succ, List.setIfInBounds_toArray, List.set_cons_zero, List.set_cons_succ]
                refine wpAnyH_ready (rs := [2]) (by kernel_rfl) (by simp) ?_
                refine AllReadyH.cons rfl (fun K hK => ?_) AllReadyH.nil
                go_simp
                go_at_call 73
                refine (confirmed_any b _).mono ?_
                rintro e w4 ⟨rfl, hb4⟩
                simp only [hm, decide_true, decide_false]
                have HB4 := Aside0.mk (below_step (below_drew1 (below_alloc HBr.out (.cells #[.int .i64 b.s, .int .i64 b.v, .int .i64 b.t] 46 (0, 0)))) hb4)
                have HN4 := Aside0.mk (blk_below (show (((wr.alloc (.cells #[.int .i64 b.s, .int .i64 b.v, .int .i64 b.t] 46 (0, 0))).drew)).heap[wr.heap.size]? = _ from blk_new wr (.cells #[.int .i64 b.s, .int .i64 b.v, .int .i64 b.t] 46 (0, 0))) hb4)
                have k4 : w4.cell? ⟨wr.heap.size, 0, none⟩ = some (.int .i64 b.s) ∧ w4.cell? ⟨wr.heap.size, 1, none⟩ = some (.int .i64 b.v) ∧ w4.cell? ⟨wr.heap.size, 2, none⟩ = some (.int .i64 b.t) ∧ w4.cell? ⟨w.heap.size, 1, none⟩ = some (.int .i64 a.v) := ⟨by rw [blk_cell HN4.out]; rfl, by rw [blk_cell HN4.out]; rfl, by rw [blk_cell HN4.out]; rfl, by rw [blk_cell (blk_below HG.out.1 HB4.out)]; rfl⟩
                clear k0 hHeld hb4
                refine hK.out _ _ k4 (fun hHeld => ?_)
                clear hK K
                try simp only [Act.put, List.getElem_toArray, List.getElem_cons_zero, List.getElem_cons_succ, List.setIfInBounds_toArray, List.set_cons_zero, List.set_cons_succ]
                refine wpAnyH_take (i := 3) (v := (.bool true)) rfl (by kernel_rfl) (by kernel_rfl) (by kernel_rfl) (fun _ _ _ h => h) (Or.inl ⟨by rfl, fun w' hSw => ?_⟩) (by assumption) ?_
                · go_simp
                try simp only [Act.put, List.getElem_toArray, List.getElem_cons_zero, List.getElem_cons_succ, List.setIfInBounds_toArray, List.set_cons_zero, List.set_cons_succ]
                refine wpAnyH_take (i := 4) (v := ?_) rfl (by kernel_rfl) (by kernel_rfl) (by kernel_rfl) (fun _ _ _ h => h) (Or.inl ⟨by rfl, ?_⟩) (by assumption) ?_
                rotate_left
                · intro w' hSw; go_simp; with_reducible rfl
                try simp only [Act.put, List.getElem_toArray, List.getElem_cons_zero, List.getElem_cons_succ, List.setIfInBounds_toArray, List.set_cons_zero, List.set_cons_succ]
                refine wpAnyH_take (i := 5) (v := (.int .i64 b.v)) rfl (by kernel_rfl) (by kernel_rfl) (by kernel_rfl) (fun _ _ _ h => h) (Or.inl ⟨by rfl, fun w' hSw => ?_⟩) (by assumption) ?_
                · obtain ⟨s0, s1, s2, s3⟩ := hSw; go_simp
                try simp only [Act.put, List.getElem_toArray, List.getElem_cons_zero, List.getElem_cons_succ, List.setIfInBounds_toArray, List.set_cons_zero, List.set_cons_succ]
                refine wpAnyH_take (i := 6) (v := (.int .i64 f)) rfl (by kernel_rfl) (by kernel_rfl) (by kernel_rfl) (fun _ _ _ h => h) (Or.inl ⟨by rfl, fun w' hSw => ?_⟩) (by assumption) ?_
                · go_simp
                try simp only [Act.put, List.getElem_toArray, List.getElem_cons_zero, List.getElem_cons_succ, List.setIfInBounds_toArray, List.set_cons_zero, List.set_cons_succ]
                refine wpAnyH_take (i := 7) (v := (.bool true)) rfl (by kernel_rfl) (by kernel_rfl) (by kernel_rfl) (fun _ _ _ h => h) (Or.inl ⟨by rfl, fun w' hSw => ?_⟩) (by assumption) ?_
                · go_simp
                try simp only [Act.put, List.getElem_toArray, List.getElem_cons_zero, List.getElem_cons_succ, List.setIfInBounds_toArray, List.set_cons_zero, List.set_cons_succ]
                refine wpAnyH_take (i := 8) (v := (.bool true)) rfl (by kernel_rfl) (by kernel_rfl) (by kernel_rfl) (fun _ _ _ h => h) (Or.inl ⟨by rfl, fun w' hSw => ?_⟩) (by assumption) ?_
                · go_simp
                try simp only [Act.put, List.getElem_toArray, List.getElem_cons_zero, List.getElem_cons_succ, List.setIfInBounds_toArray, List.set_cons_zero, List.set_cons_succ]
                refine wpAnyH_take (i := 9) (v := (.bool true)) rfl (by kernel_rfl) (by kernel_rfl) (by kernel_rfl) (fun _ _ _ h => h) (Or.inl ⟨by rfl, fun w' hSw => ?_⟩) (by assumption) ?_
                · go_simp
                try simp only [Act.put, List.getElem_toArray, List.getElem_cons_zero, List.getElem_cons_succ, List.setIfInBounds_toArray, List.set_cons_zero, List.set_cons_succ]
                refine wpAnyH_take (i := 10) (v := (.int .i64 (-1))) rfl (by kernel_rfl) (by kernel_rfl) (by kernel_rfl) (fun _ _ _ h => h) (Or.inl ⟨by rfl, fun w' hSw => ?_⟩) (by assumption) ?_
                · go_simp
                try simp only [Act.put, List.getElem_toArray, List.getElem_cons_zero, List.getElem_cons_succ, List.setIfInBounds_toArray, List.set_cons_zero, List.set_cons_succ]
                refine wpAnyH_take (i := 11) (v := (.bool true)) rfl (by kernel_rfl) (by kernel_rfl) (by kernel_rfl) (fun _ _ _ h => h) (Or.inl ⟨by rfl, fun w' hSw => ?_⟩) (by assumption) ?_
                · go_simp
                try simp only [Act.put, List.getElem_toArray, List.getElem_cons_zero, List.getElem_cons_succ, List.setIfInBounds_toArray, List.set_cons_zero, List.set_cons_succ]
                refine wpAnyH_take (i := 12) (v := (.bool true)) rfl (by kernel_rfl) (by kernel_rfl) (by kernel_rfl) (fun _ _ _ h => h) (Or.inl ⟨by rfl, fun w' hSw => ?_⟩) (by assumption) ?_
                · go_simp
                try simp only [Act.put, List.getElem_toArray, List.getElem_cons_zero, List.getElem_cons_succ, List.setIfInBounds_toArray, List.set_cons_zero, List.set_cons_succ]
                refine wpAnyH_take (i := 13) (v := undef) rfl (by kernel_rfl) (by kernel_rfl) (by kernel_rfl) (fun _ _ _ h => h) (Or.inr ⟨by rfl, rfl⟩) (by assumption) ?_
                try simp only [Act.put, List.getElem_toArray, List.getElem_cons_zero, List.getElem_cons_succ, List.setIfInBounds_toArray, List.set_cons_zero, List.set_cons_succ]
                refine wpAnyH_take (i := 14) (v := undef) rfl (by kernel_rfl) (by kernel_rfl) (by kernel_rfl) (fun _ _ _ h => h) (Or.inr ⟨by rfl, rfl⟩) (by assumption) ?_
                try simp only [Act.put, List.getElem_toArray, List.getElem_cons_zero, List.getElem_cons_succ, List.setIfInBounds_toArray, List.set_cons_zero, List.set_cons_succ]
                refine wpAnyH_take (i := 15) (v := undef) rfl (by kernel_rfl) (by kernel_rfl) (by kernel_rfl) (fun _ _ _ h => h) (Or.inr ⟨by rfl, rfl⟩) (by assumption) ?_
                try simp only [Act.put, List.getElem_toArray, List.getElem_cons_zero, List.getElem_cons_succ, List.setIfInBounds_toArray, List.set_cons_zero, List.set_cons_succ]
                refine wpAnyH_take (i := 16) (v := undef) rfl (by kernel_rfl) (by kernel_rfl) (by kernel_rfl) (fun _ _ _ h => h) (Or.inr ⟨by rfl, rfl⟩) (by assumption) ?_
                try simp only [Act.put, List.getElem_toArray, List.getElem_cons_zero, List.getElem_cons_succ, List.setIfInBounds_toArray, List.set_cons_zero, List.set_cons_succ]
                refine wpAnyH_take (i := 17) (v := undef) rfl (by kernel_rfl) (by kernel_rfl) (by kernel_rfl) (fun _ _ _ h => h) (Or.inr ⟨by rfl, rfl⟩) (by assumption) ?_
                try simp only [Act.put, List.getElem_toArray, List.getElem_cons_zero, List.getElem_cons_succ, List.setIfInBounds_toArray, List.set_cons_zero, List.set_cons_succ]
                refine wpAnyH_take (i := 18) (v := undef) rfl (by kernel_rfl) (by kernel_rfl) (by kernel_rfl) (fun _ _ _ h => h) (Or.inr ⟨by rfl, rfl⟩) (by assumption) ?_
                try simp only [Act.put, List.getElem_toArray, List.getElem_cons_zero, List.getElem_cons_succ, List.setIfInBounds_toArray, List.set_cons_zero, List.set_cons_succ]
                refine wpAnyH_take (i := 19) (v := undef) rfl (by kernel_rfl) (by kernel_rfl) (by kernel_rfl) (fun _ _ _ h => h) (Or.inr ⟨by rfl, rfl⟩) (by assumption) ?_
                try simp only [Act.put, List.getElem_toArray, List.getElem_cons_zero, List.getElem_cons_succ, List.setIfInBounds_toArray, List.set_cons_zero, List.set_cons_succ]
                refine wpAnyH_take (i := 20) (v := undef) rfl (by kernel_rfl) (by kernel_rfl) (by kernel_rfl) (fun _ _ _ h => h) (Or.inr ⟨by rfl, rfl⟩) (by assumption) ?_
                try simp only [Act.put, List.getElem_toArray, List.getElem_cons_zero, List.getElem_cons_succ, List.setIfInBounds_toArray, List.set_cons_zero, List.set_cons_succ]
                refine wpAnyH_take (i := 21) (v := (.bool true)) rfl (by kernel_rfl) (by kernel_rfl) (by kernel_rfl) (fun _ _ _ h => h) (Or.inl ⟨by rfl, fun w' hSw => ?_⟩) (by assumption) ?_
                · go_simp
                try simp only [Act.put, List.getElem_toArray, List.getElem_cons_zero, List.getElem_cons_succ, List.setIfInBounds_toArray, List.set_cons_zero, List.set_cons_succ]
                refine wpAnyH_take (i := 22) (v := (.bool true)) rfl (by kernel_rfl) (by kernel_rfl) (by kernel_rfl) (fun _ _ _ h => h) (Or.inl ⟨by rfl, fun w' hSw => ?_⟩) (by assumption) ?_
                · go_simp
                try simp only [Act.put, List.getElem_toArray, List.getElem_cons_zero, List.getElem_cons_succ, List.setIfInBounds_toArray, List.set_cons_zero, List.set_cons_succ]
                refine wpAnyH_done (by kernel_rfl) ?_ _
                go_wp2_with fail
                have HE : Aside0 (bst (fun x => decide (conf x)) a b f 2 = 1) := ⟨by have k1 := HM.out; have k2 := HV.out; have k3 := HT.out; unfold bst best; simp [HW.out, HM.out, HV.out, HT.out] <;> omega⟩
                first
                | exact ⟨⟨2, by go_num, by omega, by rw [HE.out], HB4⟩, by simp [intOf]⟩
                | (refine ⟨?_, ?_⟩
                   · repeat apply Exists.intro
                     refine ⟨?_, ?_⟩
                     rotate_left
                     · repeat' (first | exact rfl | apply And.intro)
                     first | exact ⟨2, by go_num, by omega, by rw [HE.out], HB4⟩ | exact ⟨2, by go_num, by omega, by rw [HE.out]⟩
                   · simp [intOf])
              · have HV := Aside0.mk hv
                have hd : decide (f ≤ b.v) = false := decide_eq_false hv
                have k0 : ((wr.alloc (.cells #[.int .i64 b.s, .int .i64 b.v, .int .i64 b.t] 46 (0, 0))).drew).cell? ⟨wr.heap.size, 0, none⟩ = some (.int .i64 b.s) ∧ ((wr.alloc (.cells #[.int .i64 b.s, .int .i64 b.v, .int .i64 b.t] 46 (0, 0))).drew).cell? ⟨wr.heap.size, 1, none⟩ = some (.int .i64 b.v) ∧ ((wr.alloc (.cells #[.int .i64 b.s, .int .i64 b.v, .int .i64 b.t] 46 (0, 0))).drew).cell? ⟨wr.heap.size, 2, none⟩ = some (.int .i64 b.t) ∧ ((wr.alloc (.cells #[.int .i64 b.s, .int .i64 b.v, .int .i64 b.t] 46 (0, 0))).drew).cell? ⟨w.heap.size, 1, none⟩ = some (.int .i64 a.v) := ⟨by rw [blk_cell (show (((wr.alloc (.cells #[.int .i64 b.s, .int .i64 b.v, .int .i64 b.t] 46 (0, 0))).drew)).heap[wr.heap.size]? = _ from blk_new wr (.cells #[.int .i64 b.s, .int .i64 b.v, .int .i64 b.t] 46 (0, 0)))]; rfl, by rw [blk_cell (show (((wr.alloc (.cells #[.int .i64 b.s, .int .i64 b.v, .int .i64 b.t] 46 (0, 0))).drew)).heap[wr.heap.size]? = _ from blk_new wr (.cells #[.int .i64 b.s, .int .i64 b.v, .int .i64 b.t] 46 (0, 0)))]; rfl, by rw [blk_cell (show (((wr.alloc (.cells #[.int .i64 b.s, .int .i64 b.v, .int .i64 b.t] 46 (0, 0))).drew)).heap[wr.heap.size]? = _ from blk_new wr (.cells #[.int .i64 b.s, .int .i64 b.v, .int .i64 b.t] 46 (0, 0)))]; rfl, by rw [blk_cell (show (((wr.alloc (.cells #[.int .i64 b.s, .int .i64 b.v, .int .i64 b.t] 46 (0, 0))).drew)).heap[w.heap.size]? = _ from blk_alloc (blk_below HG.out.1 HBr.out) (.cells #[.int .i64 b.s, .int .i64 b.v, .int .i64 b.t] 46 (0, 0)))]; rfl⟩
                refine wp_region_held_drew (S := fun w' => w'.cell? ⟨wr.heap.size, 0, none⟩ = some (.int .i64 b.s) ∧ w'.cell? ⟨wr.heap.size, 1, none⟩ = some (.int .i64 b.v) ∧ w'.cell? ⟨wr.heap.size, 2, none⟩ = some (.int .i64 b.t) ∧ w'.cell? ⟨w.heap.size, 1, none⟩ = some (.int .i64 a.v)) (by kernel_rfl) k0 (fun hHeld => ?_)
                refine wpAnyH_take (i := 0) (v := (.func (.func 73) #[] #[])) rfl (by kernel_rfl) (by kernel_rfl) (by kernel_rfl) (fun _ _ _ h => h) (Or.inl ⟨by rfl, fun w' hSw => ?_⟩) (by assumption) ?_
                · go_simp
                try simp only [Act.put, List.getElem_toArray, List.getElem_cons_zero, List.getElem_cons_succ, List.setIfInBounds_toArray, List.set_cons_zero, List.set_cons_succ]
                refine wpAnyH_take (i := 1) (v := (slV b)) rfl (by kernel_rfl) (by kernel_rfl) (by kernel_rfl) (fun _ _ _ h => h) (Or.inl ⟨by rfl, fun w' hSw => ?_⟩) (by assumption) ?_
                · obtain ⟨s0, s1, s2, s3⟩ := hSw; go_simp
                try simp only [Act.put, List.getElem_toArray, List.getElem_cons_zero, List.getElem_cons_succ, List.setIfInBounds_toArray, List.set_cons_zero, List.set_cons_succ]
                refine wpAnyH_ready (rs := [2]) (by kernel_rfl) (by simp) ?_
                refine AllReadyH.cons rfl (fun K hK => ?_) AllReadyH.nil
                go_simp
                go_at_call 73
                refine (confirmed_any b _).mono ?_
                rintro e w4 ⟨rfl, hb4⟩
                simp only [hm, decide_true, decide_false]
                have HB4 := Aside0.mk (below_step (below_drew1 (below_alloc HBr.out (.cells #[.int .i64 b.s, .int .i64 b.v, .int .i64 b.t] 46 (0, 0)))) hb4)
                have HN4 := Aside0.mk (blk_below (show (((wr.alloc (.cells #[.int .i64 b.s, .int .i64 b.v, .int .i64 b.t] 46 (0, 0))).drew)).heap[wr.heap.size]? = _ from blk_new wr (.cells #[.int .i64 b.s, .int .i64 b.v, .int .i64 b.t] 46 (0, 0))) hb4)
                have k4 : w4.cell? ⟨wr.heap.size, 0, none⟩ = some (.int .i64 b.s) ∧ w4.cell? ⟨wr.heap.size, 1, none⟩ = some (.int .i64 b.v) ∧ w4.cell? ⟨wr.heap.size, 2, none⟩ = some (.int .i64 b.t) ∧ w4.cell? ⟨w.heap.size, 1, none⟩ = some (.int .i64 a.v) := ⟨by rw [blk_cell HN4.out]; rfl, by rw [blk_cell HN4.out]; rfl, by rw [blk_cell HN4.out]; rfl, by rw [blk_cell (blk_below HG.out.1 HB4.out)]; rfl⟩
                clear k0 hHeld hb4
                refine hK.out _ _ k4 (fun hHeld => ?_)
                clear hK K
                try simp only [Act.put, List.getElem_toArray, List.getElem_cons_zero, List.getElem_cons_succ, List.setIfInBounds_toArray, List.set_cons_zero, List.set_cons_succ]
                refine wpAnyH_take (i := 3) (v := (.bool true)) rfl (by kernel_rfl) (by kernel_rfl) (by kernel_rfl) (fun _ _ _ h => h) (Or.inl ⟨by rfl, fun w' hSw => ?_⟩) (by assumption) ?_
                · go_simp
                try simp only [Act.put, List.getElem_toArray, List.getElem_cons_zero, List.getElem_cons_succ, List.setIfInBounds_toArray, List.set_cons_zero, List.set_cons_succ]
                refine wpAnyH_take (i := 4) (v := ?_) rfl (by kernel_rfl) (by kernel_rfl) (by kernel_rfl) (fun _ _ _ h => h) (Or.inl ⟨by rfl, ?_⟩) (by assumption) ?_
                rotate_left
                · intro w' hSw; go_simp; with_reducible rfl
                try simp only [Act.put, List.getElem_toArray, List.getElem_cons_zero, List.getElem_cons_succ, List.setIfInBounds_toArray, List.set_cons_zero, List.set_cons_succ]
                refine wpAnyH_take (i := 5) (v := (.int .i64 b.v)) rfl (by kernel_rfl) (by kernel_rfl) (by kernel_rfl) (fun _ _ _ h => h) (Or.inl ⟨by rfl, fun w' hSw => ?_⟩) (by assumption) ?_
                · obtain ⟨s0, s1, s2, s3⟩ := hSw; go_simp
                try simp only [Act.put, List.getElem_toArray, List.getElem_cons_zero, List.getElem_cons_succ, List.setIfInBounds_toArray, List.set_cons_zero, List.set_cons_succ]
                refine wpAnyH_take (i := 6) (v := (.int .i64 f)) rfl (by kernel_rfl) (by kernel_rfl) (by kernel_rfl) (fun _ _ _ h => h) (Or.inl ⟨by rfl, fun w' hSw => ?_⟩) (by assumption) ?_
                · go_simp
                try simp only [Act.put, List.getElem_toArray, List.getElem_cons_zero, List.getElem_cons_succ, List.setIfInBounds_toArray, List.set_cons_zero, List.set_cons_succ]
                refine wpAnyH_take (i := 7) (v := (.bool false)) rfl (by kernel_rfl) (by kernel_rfl) (by kernel_rfl) (fun _ _ _ h => h) (Or.inl ⟨by rfl, fun w' hSw => ?_⟩) (by assumption) ?_
                · go_simp
                try simp only [Act.put, List.getElem_toArray, List.getElem_cons_zero, List.getElem_cons_succ, List.setIfInBounds_toArray, List.set_cons_zero, List.set_cons_succ]
                refine wpAnyH_take (i := 8) (v := (.bool false)) rfl (by kernel_rfl) (by kernel_rfl) (by kernel_rfl) (fun _ _ _ h => h) (Or.inl ⟨by rfl, fun w' hSw => ?_⟩) (by assumption) ?_
                · go_simp
                try simp only [Act.put, List.getElem_toArray, List.getElem_cons_zero, List.getElem_cons_succ, List.setIfInBounds_toArray, List.set_cons_zero, List.set_cons_succ]
                refine wpAnyH_take (i := 9) (v := (.bool false)) rfl (by kernel_rfl) (by kernel_rfl) (by kernel_rfl) (fun _ _ _ h => h) (Or.inl ⟨by rfl, fun w' hSw => ?_⟩) (by assumption) ?_
                · go_simp
                try simp only [Act.put, List.getElem_toArray, List.getElem_cons_zero, List.getElem_cons_succ, List.setIfInBounds_toArray, List.set_cons_zero, List.set_cons_succ]
                refine wpAnyH_take (i := 10) (v := undef) rfl (by kernel_rfl) (by kernel_rfl) (by kernel_rfl) (fun _ _ _ h => h) (Or.inr ⟨by rfl, rfl⟩) (by assumption) ?_
                try simp only [Act.put, List.getElem_toArray, List.getElem_cons_zero, List.getElem_cons_succ, List.setIfInBounds_toArray, List.set_cons_zero, List.set_cons_succ]
                refine wpAnyH_take (i := 11) (v := undef) rfl (by kernel_rfl) (by kernel_rfl) (by kernel_rfl) (fun _ _ _ h => h) (Or.inr ⟨by rfl, rfl⟩) (by assumption) ?_
                try simp only [Act.put, List.getElem_toArray, List.getElem_cons_zero, List.getElem_cons_succ, List.setIfInBounds_toArray, List.set_cons_zero, List.set_cons_succ]
                refine wpAnyH_take (i := 12) (v := undef) rfl (by kernel_rfl) (by kernel_rfl) (by kernel_rfl) (fun _ _ _ h => h) (Or.inr ⟨by rfl, rfl⟩) (by assumption) ?_
                try simp only [Act.put, List.getElem_toArray, List.getElem_cons_zero, List.getElem_cons_succ, List.setIfInBounds_toArray, List.set_cons_zero, List.set_cons_succ]
                refine wpAnyH_take (i := 13) (v := undef) rfl (by kernel_rfl) (by kernel_rfl) (by kernel_rfl) (fun _ _ _ h => h) (Or.inr ⟨by rfl, rfl⟩) (by assumption) ?_
                try simp only [Act.put, List.getElem_toArray, List.getElem_cons_zero, List.getElem_cons_succ, List.setIfInBounds_toArray, List.set_cons_zero, List.set_cons_succ]
                refine wpAnyH_take (i := 14) (v := undef) rfl (by kernel_rfl) (by kernel_rfl) (by kernel_rfl) (fun _ _ _ h => h) (Or.inr ⟨by rfl, rfl⟩) (by assumption) ?_
                try simp only [Act.put, List.getElem_toArray, List.getElem_cons_zero, List.getElem_cons_succ, List.setIfInBounds_toArray, List.set_cons_zero, List.set_cons_succ]
                refine wpAnyH_take (i := 15) (v := undef) rfl (by kernel_rfl) (by kernel_rfl) (by kernel_rfl) (fun _ _ _ h => h) (Or.inr ⟨by rfl, rfl⟩) (by assumption) ?_
                try simp only [Act.put, List.getElem_toArray, List.getElem_cons_zero, List.getElem_cons_succ, List.setIfInBounds_toArray, List.set_cons_zero, List.set_cons_succ]
                refine wpAnyH_take (i := 16) (v := undef) rfl (by kernel_rfl) (by kernel_rfl) (by kernel_rfl) (fun _ _ _ h => h) (Or.inr ⟨by rfl, rfl⟩) (by assumption) ?_
                try simp only [Act.put, List.getElem_toArray, List.getElem_cons_zero, List.getElem_cons_succ, List.setIfInBounds_toArray, List.set_cons_zero, List.set_cons_succ]
                refine wpAnyH_take (i := 17) (v := undef) rfl (by kernel_rfl) (by kernel_rfl) (by kernel_rfl) (fun _ _ _ h => h) (Or.inr ⟨by rfl, rfl⟩) (by assumption) ?_
                try simp only [Act.put, List.getElem_toArray, List.getElem_cons_zero, List.getElem_cons_succ, List.setIfInBounds_toArray, List.set_cons_zero, List.set_cons_succ]
                refine wpAnyH_take (i := 18) (v := undef) rfl (by kernel_rfl) (by kernel_rfl) (by kernel_rfl) (fun _ _ _ h => h) (Or.inr ⟨by rfl, rfl⟩) (by assumption) ?_
                try simp only [Act.put, List.getElem_toArray, List.getElem_cons_zero, List.getElem_cons_succ, List.setIfInBounds_toArray, List.set_cons_zero, List.set_cons_succ]
                refine wpAnyH_take (i := 19) (v := undef) rfl (by kernel_rfl) (by kernel_rfl) (by kernel_rfl) (fun _ _ _ h => h) (Or.inr ⟨by rfl, rfl⟩) (by assumption) ?_
                try simp only [Act.put, List.getElem_toArray, List.getElem_cons_zero, List.getElem_cons_succ, List.setIfInBounds_toArray, List.set_cons_zero, List.set_cons_succ]
                refine wpAnyH_take (i := 20) (v := undef) rfl (by kernel_rfl) (by kernel_rfl) (by kernel_rfl) (fun _ _ _ h => h) (Or.inr ⟨by rfl, rfl⟩) (by assumption) ?_
                try simp only [Act.put, List.getElem_toArray, List.getElem_cons_zero, List.getElem_cons_succ, List.setIfInBounds_toArray, List.set_cons_zero, List.set_cons_succ]
                refine wpAnyH_take (i := 21) (v := undef) rfl (by kernel_rfl) (by kernel_rfl) (by kernel_rfl) (fun _ _ _ h => h) (Or.inr ⟨by rfl, rfl⟩) (by assumption) ?_
                try simp only [Act.put, List.getElem_toArray, List.getElem_cons_zero, List.getElem_cons_succ, List.setIfInBounds_toArray, List.set_cons_zero, List.set_cons_succ]
                refine wpAnyH_take (i := 22) (v := (.bool false)) rfl (by kernel_rfl) (by kernel_rfl) (by kernel_rfl) (fun _ _ _ h => h) (Or.inl ⟨by rfl, fun w' hSw => ?_⟩) (by assumption) ?_
                · go_simp
                try simp only [Act.put, List.getElem_toArray, List.getElem_cons_zero, List.getElem_cons_succ, List.setIfInBounds_toArray, List.set_cons_zero, List.set_cons_succ]
                refine wpAnyH_done (by kernel_rfl) ?_ _
                go_wp2_with fail
                have HE : Aside0 (bst (fun x => decide (conf x)) a b f 2 = -1) := ⟨by have k1 := HM.out; have k2 := HV.out; have k3 := HT.out; unfold bst best; simp [HW.out, HM.out, HV.out, HT.out] <;> omega⟩
                first
                | exact ⟨⟨2, by go_num, by omega, by rw [HE.out], HB4⟩, by simp [intOf]⟩
                | (refine ⟨?_, ?_⟩
                   · repeat apply Exists.intro
                     refine ⟨?_, ?_⟩
                     rotate_left
                     · repeat' (first | exact rfl | apply And.intro)
                     first | exact ⟨2, by go_num, by omega, by rw [HE.out], HB4⟩ | exact ⟨2, by go_num, by omega, by rw [HE.out]⟩
                   · simp [intOf])
            · have HM := Aside0.mk hm
              have HV := HM
              have k0 : ((wr.alloc (.cells #[.int .i64 b.s, .int .i64 b.v, .int .i64 b.t] 46 (0, 0))).drew).cell? ⟨wr.heap.size, 0, none⟩ = some (.int .i64 b.s) ∧ ((wr.alloc (.cells #[.int .i64 b.s, .int .i64 b.v, .int .i64 b.t] 46 (0, 0))).drew).cell? ⟨wr.heap.size, 1, none⟩ = some (.int .i64 b.v) ∧ ((wr.alloc (.cells #[.int .i64 b.s, .int .i64 b.v, .int .i64 b.t] 46 (0, 0))).drew).cell? ⟨wr.heap.size, 2, none⟩ = some (.int .i64 b.t) ∧ ((wr.alloc (.cells #[.int .i64 b.s, .int .i64 b.v, .int .i64 b.t] 46 (0, 0))).drew).cell? ⟨w.heap.size, 1, none⟩ = some (.int .i64 a.v) := ⟨by rw [blk_cell (show (((wr.alloc (.cells #[.int .i64 b.s, .int .i64 b.v, .int .i64 b.t] 46 (0, 0))).drew)).heap[wr.heap.size]? = _ from blk_new wr (.cells #[.int .i64 b.s, .int .i64 b.v, .int .i64 b.t] 46 (0, 0)))]; rfl, by rw [blk_cell (show (((wr.alloc (.cells #[.int .i64 b.s, .int .i64 b.v, .int .i64 b.t] 46 (0, 0))).drew)).heap[wr.heap.size]? = _ from blk_new wr (.cells #[.int .i64 b.s, .int .i64 b.v, .int .i64 b.t] 46 (0, 0)))]; rfl, by rw [blk_cell (show (((wr.alloc (.cells #[.int .i64 b.s, .int .i64 b.v, .int .i64 b.t] 46 (0, 0))).drew)).heap[wr.heap.size]? = _ from blk_new wr (.cells #[.int .i64 b.s, .int .i64 b.v, .int .i64 b.t] 46 (0, 0)))]; rfl, by rw [blk_cell (show (((wr.alloc (.cells #[.int .i64 b.s, .int .i64 b.v, .int .i64 b.t] 46 (0, 0))).drew)).heap[w.heap.size]? = _ from blk_alloc (blk_below HG.out.1 HBr.out) (.cells #[.int .i64 b.s, .int .i64 b.v, .int .i64 b.t] 46 (0, 0)))]; rfl⟩
              refine wp_region_held_drew (S := fun w' => w'.cell? ⟨wr.heap.size, 0, none⟩ = some (.int .i64 b.s) ∧ w'.cell? ⟨wr.heap.size, 1, none⟩ = some (.int .i64 b.v) ∧ w'.cell? ⟨wr.heap.size, 2, none⟩ = some (.int .i64 b.t) ∧ w'.cell? ⟨w.heap.size, 1, none⟩ = some (.int .i64 a.v)) (by kernel_rfl) k0 (fun hHeld => ?_)
              refine wpAnyH_take (i := 0) (v := (.func (.func 73) #[] #[])) rfl (by kernel_rfl) (by kernel_rfl) (by kernel_rfl) (fun _ _ _ h => h) (Or.inl ⟨by rfl, fun w' hSw => ?_⟩) (by assumption) ?_
              · go_simp
              try simp only [Act.put, List.getElem_toArray, List.getElem_cons_zero, List.getElem_cons_succ, List.setIfInBounds_toArray, List.set_cons_zero, List.set_cons_succ]
              refine wpAnyH_take (i := 1) (v := (slV b)) rfl (by kernel_rfl) (by kernel_rfl) (by kernel_rfl) (fun _ _ _ h => h) (Or.inl ⟨by rfl, fun w' hSw => ?_⟩) (by assumption) ?_
              · obtain ⟨s0, s1, s2, s3⟩ := hSw; go_simp
              try simp only [Act.put, List.getElem_toArray, List.getElem_cons_zero, List.getElem_cons_succ, List.setIfInBounds_toArray, List.set_cons_zero, List.set_cons_succ]
              refine wpAnyH_ready (rs := [2]) (by kernel_rfl) (by simp) ?_
              refine AllReadyH.cons rfl (fun K hK => ?_) AllReadyH.nil
              go_simp
              go_at_call 73
              refine (confirmed_any b _).mono ?_
              rintro e w4 ⟨rfl, hb4⟩
              simp only [hm, decide_true, decide_false]
              have HB4 := Aside0.mk (below_step (below_drew1 (below_alloc HBr.out (.cells #[.int .i64 b.s, .int .i64 b.v, .int .i64 b.t] 46 (0, 0)))) hb4)
              have HN4 := Aside0.mk (blk_below (show (((wr.alloc (.cells #[.int .i64 b.s, .int .i64 b.v, .int .i64 b.t] 46 (0, 0))).drew)).heap[wr.heap.size]? = _ from blk_new wr (.cells #[.int .i64 b.s, .int .i64 b.v, .int .i64 b.t] 46 (0, 0))) hb4)
              have k4 : w4.cell? ⟨wr.heap.size, 0, none⟩ = some (.int .i64 b.s) ∧ w4.cell? ⟨wr.heap.size, 1, none⟩ = some (.int .i64 b.v) ∧ w4.cell? ⟨wr.heap.size, 2, none⟩ = some (.int .i64 b.t) ∧ w4.cell? ⟨w.heap.size, 1, none⟩ = some (.int .i64 a.v) := ⟨by rw [blk_cell HN4.out]; rfl, by rw [blk_cell HN4.out]; rfl, by rw [blk_cell HN4.out]; rfl, by rw [blk_cell (blk_below HG.out.1 HB4.out)]; rfl⟩
              clear k0 hHeld hb4
              refine hK.out _ _ k4 (fun hHeld => ?_)
              clear hK K
              try simp only [Act.put, List.getElem_toArray, List.getElem_cons_zero, List.getElem_cons_succ, List.setIfInBounds_toArray, List.set_cons_zero, List.set_cons_succ]
              refine wpAnyH_take (i := 3) (v := (.bool false)) rfl (by kernel_rfl) (by kernel_rfl) (by kernel_rfl) (fun _ _ _ h => h) (Or.inl ⟨by rfl, fun w' hSw => ?_⟩) (by assumption) ?_
              · go_simp
              try simp only [Act.put, List.getElem_toArray, List.getElem_cons_zero, List.getElem_cons_succ, List.setIfInBounds_toArray, List.set_cons_zero, List.set_cons_succ]
              refine wpAnyH_take (i := 4) (v := undef) rfl (by kernel_rfl) (by kernel_rfl) (by kernel_rfl) (fun _ _ _ h => h) (Or.inr ⟨by rfl, rfl⟩) (by assumption) ?_
              try simp only [Act.put, List.getElem_toArray, List.getElem_cons_zero, List.getElem_cons_succ, List.setIfInBounds_toArray, List.set_cons_zero, List.set_cons_succ]
              refine wpAnyH_take (i := 5) (v := undef) rfl (by kernel_rfl) (by kernel_rfl) (by kernel_rfl) (fun _ _ _ h => h) (Or.inr ⟨by rfl, rfl⟩) (by assumption) ?_
              try simp only [Act.put, List.getElem_toArray, List.getElem_cons_zero, List.getElem_cons_succ, List.setIfInBounds_toArray, List.set_cons_zero, List.set_cons_succ]
              refine wpAnyH_take (i := 6) (v := undef) rfl (by kernel_rfl) (by kernel_rfl) (by kernel_rfl) (fun _ _ _ h => h) (Or.inr ⟨by rfl, rfl⟩) (by assumption) ?_
              try simp only [Act.put, List.getElem_toArray, List.getElem_cons_zero, List.getElem_cons_succ, List.setIfInBounds_toArray, List.set_cons_zero, List.set_cons_succ]
              refine wpAnyH_take (i := 7) (v := undef) rfl (by kernel_rfl) (by kernel_rfl) (by kernel_rfl) (fun _ _ _ h => h) (Or.inr ⟨by rfl, rfl⟩) (by assumption) ?_
              try simp only [Act.put, List.getElem_toArray, List.getElem_cons_zero, List.getElem_cons_succ, List.setIfInBounds_toArray, List.set_cons_zero, List.set_cons_succ]
              refine wpAnyH_take (i := 8) (v := (.bool false)) rfl (by kernel_rfl) (by kernel_rfl) (by kernel_rfl) (fun _ _ _ h => h) (Or.inl ⟨by rfl, fun w' hSw => ?_⟩) (by assumption) ?_
              · go_simp
              try simp only [Act.put, List.getElem_toArray, List.getElem_cons_zero, List.getElem_cons_succ, List.setIfInBounds_toArray, List.set_cons_zero, List.set_cons_succ]
              refine wpAnyH_take (i := 9) (v := (.bool false)) rfl (by kernel_rfl) (by kernel_rfl) (by kernel_rfl) (fun _ _ _ h => h) (Or.inl ⟨by rfl, fun w' hSw => ?_⟩) (by assumption) ?_
              · go_simp
              try simp only [Act.put, List.getElem_toArray, List.getElem_cons_zero, List.getElem_cons_succ, List.setIfInBounds_toArray, List.set_cons_zero, List.set_cons_succ]
              refine wpAnyH_take (i := 10) (v := undef) rfl (by kernel_rfl) (by kernel_rfl) (by kernel_rfl) (fun _ _ _ h => h) (Or.inr ⟨by rfl, rfl⟩) (by assumption) ?_
              try simp only [Act.put, List.getElem_toArray, List.getElem_cons_zero, List.getElem_cons_succ, List.setIfInBounds_toArray, List.set_cons_zero, List.set_cons_succ]
              refine wpAnyH_take (i := 11) (v := undef) rfl (by kernel_rfl) (by kernel_rfl) (by kernel_rfl) (fun _ _ _ h => h) (Or.inr ⟨by rfl, rfl⟩) (by assumption) ?_
              try simp only [Act.put, List.getElem_toArray, List.getElem_cons_zero, List.getElem_cons_succ, List.setIfInBounds_toArray, List.set_cons_zero, List.set_cons_succ]
              refine wpAnyH_take (i := 12) (v := undef) rfl (by kernel_rfl) (by kernel_rfl) (by kernel_rfl) (fun _ _ _ h => h) (Or.inr ⟨by rfl, rfl⟩) (by assumption) ?_
              try simp only [Act.put, List.getElem_toArray, List.getElem_cons_zero, List.getElem_cons_succ, List.setIfInBounds_toArray, List.set_cons_zero, List.set_cons_succ]
              refine wpAnyH_take (i := 13) (v := undef) rfl (by kernel_rfl) (by kernel_rfl) (by kernel_rfl) (fun _ _ _ h => h) (Or.inr ⟨by rfl, rfl⟩) (by assumption) ?_
              try simp only [Act.put, List.getElem_toArray, List.getElem_cons_zero, List.getElem_cons_succ, List.setIfInBounds_toArray, List.set_cons_zero, List.set_cons_succ]
              refine wpAnyH_take (i := 14) (v := undef) rfl (by kernel_rfl) (by kernel_rfl) (by kernel_rfl) (fun _ _ _ h => h) (Or.inr ⟨by rfl, rfl⟩) (by assumption) ?_
              try simp only [Act.put, List.getElem_toArray, List.getElem_cons_zero, List.getElem_cons_succ, List.setIfInBounds_toArray, List.set_cons_zero, List.set_cons_succ]
              refine wpAnyH_take (i := 15) (v := undef) rfl (by kernel_rfl) (by kernel_rfl) (by kernel_rfl) (fun _ _ _ h => h) (Or.inr ⟨by rfl, rfl⟩) (by assumption) ?_
              try simp only [Act.put, List.getElem_toArray, List.getElem_cons_zero, List.getElem_cons_succ, List.setIfInBounds_toArray, List.set_cons_zero, List.set_cons_succ]
              refine wpAnyH_take (i := 16) (v := undef) rfl (by kernel_rfl) (by kernel_rfl) (by kernel_rfl) (fun _ _ _ h => h) (Or.inr ⟨by rfl, rfl⟩) (by assumption) ?_
              try simp only [Act.put, List.getElem_toArray, List.getElem_cons_zero, List.getElem_cons_succ, List.setIfInBounds_toArray, List.set_cons_zero, List.set_cons_succ]
              refine wpAnyH_take (i := 17) (v := undef) rfl (by kernel_rfl) (by kernel_rfl) (by kernel_rfl) (fun _ _ _ h => h) (Or.inr ⟨by rfl, rfl⟩) (by assumption) ?_
              try simp only [Act.put, List.getElem_toArray, List.getElem_cons_zero, List.getElem_cons_succ, List.setIfInBounds_toArray, List.set_cons_zero, List.set_cons_succ]
              refine wpAnyH_take (i := 18) (v := undef) rfl (by kernel_rfl) (by kernel_rfl) (by kernel_rfl) (fun _ _ _ h => h) (Or.inr ⟨by rfl, rfl⟩) (by assumption) ?_
              try simp only [Act.put, List.getElem_toArray, List.getElem_cons_zero, List.getElem_cons_succ, List.setIfInBounds_toArray, List.set_cons_zero, List.set_cons_succ]
              refine wpAnyH_take (i := 19) (v := undef) rfl (by kernel_rfl) (by kernel_rfl) (by kernel_rfl) (fun _ _ _ h => h) (Or.inr ⟨by rfl, rfl⟩) (by assumption) ?_
              try simp only [Act.put, List.getElem_toArray, List.getElem_cons_zero, List.getElem_cons_succ, List.setIfInBounds_toArray, List.set_cons_zero, List.set_cons_succ]
              refine wpAnyH_take (i := 20) (v := undef) rfl (by kernel_rfl) (by kernel_rfl) (by kernel_rfl) (fun _ _ _ h => h) (Or.inr ⟨by rfl, rfl⟩) (by assumption) ?_
              try simp only [Act.put, List.getElem_toArray, List.getElem_cons_zero, List.getElem_cons_succ, List.setIfInBounds_toArray, List.set_cons_zero, List.set_cons_succ]
              refine wpAnyH_take (i := 21) (v := undef) rfl (by kernel_rfl) (by kernel_rfl) (by kernel_rfl) (fun _ _ _ h => h) (Or.inr ⟨by rfl, rfl⟩) (by assumption) ?_
              try simp only [Act.put, List.getElem_toArray, List.getElem_cons_zero, List.getElem_cons_succ, List.setIfInBounds_toArray, List.set_cons_zero, List.set_cons_succ]
              refine wpAnyH_take (i := 22) (v := (.bool false)) rfl (by kernel_rfl) (by kernel_rfl) (by kernel_rfl) (fun _ _ _ h => h) (Or.inl ⟨by rfl, fun w' hSw => ?_⟩) (by assumption) ?_
              · go_simp
              try simp only [Act.put, List.getElem_toArray, List.getElem_cons_zero, List.getElem_cons_succ, List.setIfInBounds_toArray, List.set_cons_zero, List.set_cons_succ]
              refine wpAnyH_done (by kernel_rfl) ?_ _
              go_wp2_with fail
              have HE : Aside0 (bst (fun x => decide (conf x)) a b f 2 = -1) := ⟨by have k1 := HM.out; have k2 := HV.out; have k3 := HT.out; unfold bst best; simp [HW.out, HM.out, HV.out, HT.out] <;> omega⟩
              first
              | exact ⟨⟨2, by go_num, by omega, by rw [HE.out], HB4⟩, by simp [intOf]⟩
              | (refine ⟨?_, ?_⟩
                 · repeat apply Exists.intro
                   refine ⟨?_, ?_⟩
                   rotate_left
                   · repeat' (first | exact rfl | apply And.intro)
                   first | exact ⟨2, by go_num, by omega, by rw [HE.out], HB4⟩ | exact ⟨2, by go_num, by omega, by rw [HE.out]⟩
                 · simp [intOf])
        · have hb2 : bst (fun x => decide (conf x)) a b f 2 = best (fun x => decide (conf x)) a b f := rfl
          rcases best_three (fun x => decide (conf x)) a b f with hbe | hbe | hbe
          · have HBE := Aside0.mk hbe
            rw [hb2, hbe]
            clear hb2 hbe
            go_wp2_with fail
            first
            | exact ⟨⟨2, by go_num, by omega, ⟨fun _ => H1.out (by omega)⟩, ⟨fun _ => by rw [HBE.out]; decide⟩, HBr⟩, by simp [intOf]⟩
            | (refine ⟨?_, ?_⟩
               · repeat apply Exists.intro
                 refine ⟨?_, ?_⟩
                 rotate_left
                 · repeat' (first | exact rfl | apply And.intro)
                 first | exact ⟨2, by go_num, by omega, ⟨fun _ => H1.out (by omega)⟩, ⟨fun _ => by rw [HBE.out]; decide⟩, HBr⟩ | exact ⟨2, by go_num, by omega, ⟨fun _ => H1.out (by omega)⟩, ⟨fun _ => by rw [HBE.out]; decide⟩⟩
               · simp [intOf])
          · have HBE := Aside0.mk hbe
            rw [hb2, hbe]
            clear hb2 hbe
            go_wp2_with fail
            go_ret
            exact ⟨by (rw [cho_best, if_pos (H1.out (by omega)), HBE.out]; try rfl), below_step HB0.out HBr.out⟩
          · have HBE := Aside0.mk hbe
            rw [hb2, hbe]
            clear hb2 hbe
            go_wp2_with fail
            go_ret
            exact ⟨by (rw [cho_best, if_pos (H1.out (by omega)), HBE.out]; try rfl), below_step HB0.out HBr.out⟩
    · have h2 := H2.out (by omega)
      have h1 := H1.out (by omega)
      have HE : Aside0 (cho a b f = -1) := ⟨by
        rw [cho_best, if_pos h1]
        rcases best_three (fun x => decide (conf x)) a b f with h | h | h <;> omega⟩
      clear h1 h2
      go_wp2_with fail
      go_ret
      exact ⟨by (rw [HE.out]; try rfl), below_step HB0.out HBr.out⟩
end Go.Proofs.Ytippclnmijelfaa.Sl
