/- The slots of a state, plain; the contracts of the two checks of a state. -/
import Derived.Test.YtippclnmijelfaaSan
namespace Go.Proofs.Ytippclnmijelfaa.Sl
open Go.RowKit Go.Proofs.YtippclnmijelfaaW.PrintWords Go.Proofs.YtippclnmijelfaaW.PrintLast Go.Proofs.YtippclnmijelfaaW.PrintMore
open Go.Proofs.Ytippclnmijelfaa.En Go.Proofs.Ytippclnmijelfaa.Rf Go.Proofs.Ytippclnmijelfaa.Wi Go.Proofs.Ytippclnmijelfaa.Rc Go.Proofs.Ytippclnmijelfaa.Sa
set_option linter.unusedVariables false
set_option linter.unusedSimpArgs false

/-- A slot: what it holds, its version, its tries. -/
structure Slot where
  s : Int
  v : Int
  t : Int
deriving DecidableEq
@[reducible] def slV (x : Slot) : Value := .agg #[.int .i64 x.s, .int .i64 x.v, .int .i64 x.t]
@[reducible] def stV (a b : Slot) : Value := .agg #[.int .i64 a.s, .int .i64 a.v, .int .i64 a.t, .int .i64 b.s, .int .i64 b.v, .int .i64 b.t]
def ok1 (x : Slot) : Prop := 0 ≤ x.s ∧ x.s ≤ 4 ∧ 0 ≤ x.v ∧ x.v ≤ 16 ∧ 0 ≤ x.t ∧ x.t ≤ 3
instance (x : Slot) : Decidable (ok1 x) := by unfold ok1; infer_instance
def ok (a b : Slot) : Prop := ok1 a ∧ ok1 b
instance (a b : Slot) : Decidable (ok a b) := by unfold ok; infer_instance

theorem ix0 (a b c d e f : Value) (w : World) : (Instr.index 47 (.agg #[a, b, c, d, e, f]) (.int .i64 0)).run Try.prog w = .ok (.agg #[a, b, c]) w := by rfl
theorem ix1 (a b c d e f : Value) (w : World) : (Instr.index 47 (.agg #[a, b, c, d, e, f]) (.int .i64 1)).run Try.prog w = .ok (.agg #[d, e, f]) w := by rfl
attribute [local go_sem] ix0 ix1
set_option maxHeartbeats 8000000 in
set_option maxRecDepth 100000 in
theorem Valid_any (a b : Slot) (w : World) :
    Calls Try.prog 52 #[stV a b] w fun e w' => e = .returned (.bool (decide (ok a b))) ∧ Below w.heap.size w w' := by
  go_enter Try.func52, Try.ntmps52
  go_wp2_with fail
  have HB0 := Aside0.mk (below_alloc (Below.refl w.heap.size w) (Obj.cells #[Value.int IntKind.i64 a.s, Value.int IntKind.i64 a.v, Value.int IntKind.i64 a.t, Value.int IntKind.i64 b.s, Value.int IntKind.i64 b.v, Value.int IntKind.i64 b.t] 49))
  have HG0 := Aside0.mk (blk_new w (Obj.cells #[Value.int IntKind.i64 a.s, Value.int IntKind.i64 a.v, Value.int IntKind.i64 a.t, Value.int IntKind.i64 b.s, Value.int IntKind.i64 b.v, Value.int IntKind.i64 b.t] 49))
  generalize w.alloc (Obj.cells #[Value.int IntKind.i64 a.s, Value.int IntKind.i64 a.v, Value.int IntKind.i64 a.t, Value.int IntKind.i64 b.s, Value.int IntKind.i64 b.v, Value.int IntKind.i64 b.t] 49) = w0 at *
  go_loopw [7] (fun x wr => ∃ k : Nat, x = .int .i64 (k : Int) ∧ k ≤ 2 ∧ Aside0 (1 ≤ k → ok1 a) ∧ Aside0 (2 ≤ k → ok1 b) ∧ Aside0 (Below w0.heap.size w0 wr)) (fun i _ => 2 - (intOf i).toNat)
  case atStart => exact ⟨0, rfl, by omega, ⟨fun h => absurd h (by omega)⟩, ⟨fun h => absurd h (by omega)⟩, ⟨Below.refl _ _⟩⟩
  case round =>
    obtain ⟨k, rfl, hk, H1, H2, HBr⟩ := hrel
    have HGr := Aside0.mk (blk_below HG0.out HBr.out)
    have hc : ∀ i : Nat, wr.cell? ⟨w.heap.size, i, none⟩ = (#[Value.int IntKind.i64 a.s, Value.int IntKind.i64 a.v, Value.int IntKind.i64 a.t, Value.int IntKind.i64 b.s, Value.int IntKind.i64 b.v, Value.int IntKind.i64 b.t] : Array Value)[i]? := fun i => blk_cell HGr.out i
    obtain rfl | rfl | rfl : k = 0 ∨ k = 1 ∨ k = 2 := by omega
    · by_cases hx : ok1 a
      · have HX := Aside0.mk hx
        obtain ⟨h1, h2, h3, h4, h5, h6⟩ := hx
        clear hc
        go_wp2_with fail
        have HBq := Aside0.mk (below_alloc HBr.out (Obj.cells #[Value.int IntKind.i64 a.s, Value.int IntKind.i64 a.v, Value.int IntKind.i64 a.t] 46))
        exact ⟨⟨1, by go_num, by omega, ⟨fun _ => HX.out⟩, ⟨fun h => absurd h (by omega)⟩, HBq⟩, by simp [intOf]⟩
      · have HX := Aside0.mk hx
        clear hx
        clear hc
        go_wp2_with fail
        all_goals (first | exact absurd (show ok1 a from ⟨by omega, by omega, by omega, by omega, by omega, by omega⟩) HX.out | (go_ret; exact ⟨by rw [decide_eq_false (fun h : ok a b => HX.out h.1)]; rfl, below_step HB0.out (below_alloc HBr.out _)⟩))
    · by_cases hx : ok1 b
      · have HX := Aside0.mk hx
        obtain ⟨h1, h2, h3, h4, h5, h6⟩ := hx
        clear hc
        go_wp2_with fail
        have HBq := Aside0.mk (below_alloc HBr.out (Obj.cells #[Value.int IntKind.i64 b.s, Value.int IntKind.i64 b.v, Value.int IntKind.i64 b.t] 46))
        exact ⟨⟨2, by go_num, by omega, ⟨fun _ => H1.out (by omega)⟩, ⟨fun _ => HX.out⟩, HBq⟩, by simp [intOf]⟩
      · have HX := Aside0.mk hx
        clear hx
        clear hc
        go_wp2_with fail
        all_goals (first | exact absurd (show ok1 b from ⟨by omega, by omega, by omega, by omega, by omega, by omega⟩) HX.out | (go_ret; exact ⟨by rw [decide_eq_false (fun h : ok a b => HX.out h.2)]; rfl, below_step HB0.out (below_alloc HBr.out _)⟩))
    · have HA := Aside0.mk (H1.out (by omega))
      have HBb := Aside0.mk (H2.out (by omega))
      clear hc
      go_wp2_with fail
      go_ret
      exact ⟨by rw [decide_eq_true (show ok a b from ⟨HA.out, HBb.out⟩)]; rfl, (below_step HB0.out HBr.out)⟩

set_option maxHeartbeats 8000000 in
set_option maxRecDepth 100000 in
theorem rValid_any (a b : Slot) (w : World) :
    Calls Try.prog 39 #[stV a b] w fun e w' => e = .returned (.bool (decide (ok a b))) ∧ Below w.heap.size w w' := by
  go_enter Try.func39, Try.ntmps39
  go_wp2_with fail
  have HB0 := Aside0.mk (below_alloc (Below.refl w.heap.size w) (Obj.cells #[Value.int IntKind.i64 a.s, Value.int IntKind.i64 a.v, Value.int IntKind.i64 a.t, Value.int IntKind.i64 b.s, Value.int IntKind.i64 b.v, Value.int IntKind.i64 b.t] 49))
  have HG0 := Aside0.mk (blk_new w (Obj.cells #[Value.int IntKind.i64 a.s, Value.int IntKind.i64 a.v, Value.int IntKind.i64 a.t, Value.int IntKind.i64 b.s, Value.int IntKind.i64 b.v, Value.int IntKind.i64 b.t] 49))
  generalize w.alloc (Obj.cells #[Value.int IntKind.i64 a.s, Value.int IntKind.i64 a.v, Value.int IntKind.i64 a.t, Value.int IntKind.i64 b.s, Value.int IntKind.i64 b.v, Value.int IntKind.i64 b.t] 49) = w0 at *
  go_loopw [3] (fun x wr => ∃ k : Nat, x = .int .i64 (k : Int) ∧ k ≤ 2 ∧ Aside0 (1 ≤ k → ok1 a) ∧ Aside0 (2 ≤ k → ok1 b) ∧ Aside0 (Below w0.heap.size w0 wr)) (fun i _ => 2 - (intOf i).toNat)
  case atStart => exact ⟨0, rfl, by omega, ⟨fun h => absurd h (by omega)⟩, ⟨fun h => absurd h (by omega)⟩, ⟨Below.refl _ _⟩⟩
  case round =>
    obtain ⟨k, rfl, hk, H1, H2, HBr⟩ := hrel
    have HGr := Aside0.mk (blk_below HG0.out HBr.out)
    have hc : ∀ i : Nat, wr.cell? ⟨w.heap.size, i, none⟩ = (#[Value.int IntKind.i64 a.s, Value.int IntKind.i64 a.v, Value.int IntKind.i64 a.t, Value.int IntKind.i64 b.s, Value.int IntKind.i64 b.v, Value.int IntKind.i64 b.t] : Array Value)[i]? := fun i => blk_cell HGr.out i
    obtain rfl | rfl | rfl : k = 0 ∨ k = 1 ∨ k = 2 := by omega
    · by_cases hx : ok1 a
      · have HX := Aside0.mk hx
        obtain ⟨h1, h2, h3, h4, h5, h6⟩ := hx
        have hc0 : wr.cell? ⟨w.heap.size, 0, none⟩ = some (Value.int IntKind.i64 a.s) := hc 0
        have hc1 : wr.cell? ⟨w.heap.size, 1, none⟩ = some (Value.int IntKind.i64 a.v) := hc 1
        have hc2 : wr.cell? ⟨w.heap.size, 2, none⟩ = some (Value.int IntKind.i64 a.t) := hc 2
        clear hc
        go_wp2_with fail
        have HBq := Aside0.mk (below_alloc HBr.out (Obj.cells #[Value.int IntKind.i64 a.s, Value.int IntKind.i64 a.v, Value.int IntKind.i64 a.t] 46))
        exact ⟨⟨1, by go_num, by omega, ⟨fun _ => HX.out⟩, ⟨fun h => absurd h (by omega)⟩, HBq⟩, by simp [intOf]⟩
      · have HX := Aside0.mk hx
        clear hx
        have hc0 : wr.cell? ⟨w.heap.size, 0, none⟩ = some (Value.int IntKind.i64 a.s) := hc 0
        have hc1 : wr.cell? ⟨w.heap.size, 1, none⟩ = some (Value.int IntKind.i64 a.v) := hc 1
        have hc2 : wr.cell? ⟨w.heap.size, 2, none⟩ = some (Value.int IntKind.i64 a.t) := hc 2
        clear hc
        go_wp2_with fail
        all_goals (first | exact absurd (show ok1 a from ⟨by omega, by omega, by omega, by omega, by omega, by omega⟩) HX.out | (go_ret; exact ⟨by rw [decide_eq_false (fun h : ok a b => HX.out h.1)]; rfl, below_step HB0.out (below_alloc HBr.out _)⟩))
    · by_cases hx : ok1 b
      · have HX := Aside0.mk hx
        obtain ⟨h1, h2, h3, h4, h5, h6⟩ := hx
        have hc0 : wr.cell? ⟨w.heap.size, 3, none⟩ = some (Value.int IntKind.i64 b.s) := hc 3
        have hc1 : wr.cell? ⟨w.heap.size, 4, none⟩ = some (Value.int IntKind.i64 b.v) := hc 4
        have hc2 : wr.cell? ⟨w.heap.size, 5, none⟩ = some (Value.int IntKind.i64 b.t) := hc 5
        clear hc
        go_wp2_with fail
        have HBq := Aside0.mk (below_alloc HBr.out (Obj.cells #[Value.int IntKind.i64 b.s, Value.int IntKind.i64 b.v, Value.int IntKind.i64 b.t] 46))
        exact ⟨⟨2, by go_num, by omega, ⟨fun _ => H1.out (by omega)⟩, ⟨fun _ => HX.out⟩, HBq⟩, by simp [intOf]⟩
      · have HX := Aside0.mk hx
        clear hx
        have hc0 : wr.cell? ⟨w.heap.size, 3, none⟩ = some (Value.int IntKind.i64 b.s) := hc 3
        have hc1 : wr.cell? ⟨w.heap.size, 4, none⟩ = some (Value.int IntKind.i64 b.v) := hc 4
        have hc2 : wr.cell? ⟨w.heap.size, 5, none⟩ = some (Value.int IntKind.i64 b.t) := hc 5
        clear hc
        go_wp2_with fail
        all_goals (first | exact absurd (show ok1 b from ⟨by omega, by omega, by omega, by omega, by omega, by omega⟩) HX.out | (go_ret; exact ⟨by rw [decide_eq_false (fun h : ok a b => HX.out h.2)]; rfl, below_step HB0.out (below_alloc HBr.out _)⟩))
    · have HA := Aside0.mk (H1.out (by omega))
      have HBb := Aside0.mk (H2.out (by omega))
      clear hc
      go_wp2_with fail
      go_ret
      exact ⟨by rw [decide_eq_true (show ok a b from ⟨HA.out, HBb.out⟩)]; rfl, (below_step HB0.out HBr.out)⟩

end Go.Proofs.Ytippclnmijelfaa.Sl
