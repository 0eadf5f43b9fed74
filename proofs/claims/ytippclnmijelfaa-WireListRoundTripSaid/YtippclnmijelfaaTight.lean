/- append onto a slice that is cut at its length: 'append(b[:len(b):len(b)], tail...)'. -/
import Derived.Test.YtippclnmijelfaaSan
import Derived.ArgAppend
namespace Go.Proofs.Ytippclnmijelfaa.Sa
open Go.RowKit Go.Proofs.YtippclnmijelfaaW.PrintWords Go.Proofs.YtippclnmijelfaaW.PrintLast Go.Proofs.YtippclnmijelfaaW.PrintMore
open Go.Proofs.Ytippclnmijelfaa.En Go.Proofs.Ytippclnmijelfaa.Rf Go.Proofs.Ytippclnmijelfaa.Wi Go.Proofs.Ytippclnmijelfaa.Rc
set_option linter.unusedVariables false
set_option linter.unusedSimpArgs false

/-- The cells of bytes that are read. -/
theorem C_cells {w : World} {ad : Addr} {n : Nat} {xs : List Int} (h : Kd.C (Kd.int .u8) w (some ad) n xs) : ∀ j u, (nums .u8 xs)[j]? = some u → w.cell? (ad.add j) = some u := by
  intro j u hu
  have hr := Kd.reads_of_C (enc := Value.int .u8) (d := (0 : Int)) (h1 := fun _ => rfl) h
  have hl : xs.length = n := hr.1
  have hj : j < xs.length := by
    rcases Nat.lt_or_ge j xs.length with h' | h'
    · exact h'
    · rw [List.getElem?_eq_none (by rw [nums_length]; exact h')] at hu
      cases hu
  obtain ⟨ad', he, hc⟩ := hr.2.2 (by omega)
  injection he with he
  subst he
  rw [hc j (by omega), ← hu]
  exact (encs_get (enc := Value.int .u8) (d := (0 : Int)) xs j hj).symm
theorem run_append_none (t ty e : TypeId) (i : TypeInfo) (w : World) (ht : Try.prog.underlying t = some (.slice e)) (hi : Try.prog.info? e = some i) (ad : Addr) (n : Nat) (B : Option Addr) (c : Nat) :
    (Builtin.append_ #[t, t] ty #[.slice (some ad) n n, .slice B 0 c]).run Try.prog w = .ok (.slice (some ad) n n) w := by
  cases B <;> simp [Builtin.append_, run_underlying ht, sizeOf, typeInfo, hi, Builtin.lenOf, Builtin.firstCells, storeCells, loadCells, loadCellsFrom]
theorem wpList_append_tight {ops : Array Oper} {rest : List Oper} {o : Oper} {a : Act} {Q : Exit → Act → World → Prop} {W : World} (hg : o.guard = none) (s x : Operand)
    (hop : o.op = Op.call { callee := Callee.builtin Builtin.append, args := #[s, x], argTypes := #[26, 26] }) (A B : Option Addr) (c : Nat) (xs ys zs : List Int) (hzs : zs = xs ++ ys)
    (hs : a.eval s = .slice A xs.length xs.length) (hx : a.eval x = .slice B ys.length c) (h0 : 0 < xs.length) (hA : Kd.C (Kd.int .u8) W A xs.length xs) (hB : Kd.C (Kd.int .u8) W B ys.length ys) (hl : xs.length + ys.length ≤ 1000000)
    (h : ∀ (P : Option Addr) (k : Nat) (w1 : World), zs.length ≤ k → Kd.C (Kd.int .u8) w1 P zs.length zs → Below W.heap.size W w1 → wpList Try.prog ops Q rest (a.put o.dst (.slice P zs.length k)) w1) : wpList Try.prog ops Q (o :: rest) a W := by
  subst hzs
  obtain ⟨i0, hi0, hz0, hz1, hz2⟩ := info_parts info5
  obtain ⟨ad, rfl, _⟩ := hA.2.2 h0
  by_cases hy : ys = []
  · subst hy
    refine wpList_plain hg fun K hK' => ?_
    have hrun := run_append_none 26 o.type 5 i0 W Try.underlying26 hi0 ad xs.length B c
    unfold Oper.wp
    rw [List.length_nil] at hx
    simp only [execOp, hop, resolve, invoke, builtin, Sem.run_bind, Sem.run_pure, Result.andThen_ok, List.map_toArray, List.map_cons, List.map_nil, hs, hx, hrun]
    have := h (some ad) xs.length W (by simp) (by simpa using hA) (Below.refl _ _)
    rw [List.append_nil] at this
    exact hK' _ _ this
  · have hy0 : 0 < ys.length := by
      cases ys with
      | nil => exact absurd rfl hy
      | cons y r => simp
    obtain ⟨bd, rfl, _⟩ := hB.2.2 hy0
    refine wpList_append_grows W hg s x 26 hop 5 i0 (.int .u8 0) 1 1 Try.underlying26 hi0 hz0 hz1 hz2 rfl (by omega) (some ad) xs.length xs.length (nums .u8 xs) hs (fun h => by cases h) (by rw [nums_length]; omega)
      (fun b hb => by injection hb with hb; subst hb; exact C_cells hA) bd ys.length c (nums .u8 ys) hx (by rw [nums_length]; omega) (C_cells hB)
      (fun u hu => by obtain ⟨y, _, rfl⟩ := List.mem_map.1 hu; rfl) (by omega) (by unfold maxLen; omega) (by omega) ?_
    intro v' w' hown hgr
    have hown' : w'.ownsRow W.heap.size 5 1 v' (xs ++ ys).length (encs (Value.int .u8) (xs ++ ys)) := by
      rw [List.length_append]
      have : encs (Value.int .u8) (xs ++ ys) = nums .u8 xs ++ nums .u8 ys := by simp [encs, nums]
      rw [this]
      exact hown
    obtain ⟨P, k, rfl, hk, hC⟩ := Kd.R_reads (Kd.R_of_own (h1 := fun _ => rfl) (ok := fun _ => True) hown' (fun _ _ => trivial))
    exact h P k w' hk hC ⟨hgr.os, hgr.tape, hgr.output, hgr.size, fun i hi => hgr.block i hi (by simp)⟩
end Go.Proofs.Ytippclnmijelfaa.Sa
