/- How the arguments of the statements read: slices of whole numbers, slices of digests, boot states, slices of moves; and their sizes. -/
import Derived.Test.YtippclnmijelfaaWireD
import Derived.ProofKit
import Derived.OpenShut
import Derived.SizedLaws
import Derived.Deep.Slices
namespace Go.Proofs.Ytippclnmijelfaa.Op
open Go.ChangeShapes Go.WideShapes Go.ChangeAt Go.RowKit Go.Deep
open Go.Proofs.YtippclnmijelfaaW.PrintWords Go.Proofs.Ytippclnmijelfaa.En Go.Proofs.Ytippclnmijelfaa.Wi
set_option linter.unusedVariables false
section
variable {H : Type} {enc : TypeId × Value → H} {P : Program} {W : World} {base : Nat} {spare : Nat → Bool} {held : Bool}

/-- A slice of whole numbers. -/
theorem op_ints {t e : TypeId} {k : IntKind} (ht : P.underlying t = some (.slice e)) (he : P.underlying e = some (.int k)) (hc : P.cellsOf e = 1) {a : Option Addr} {len cap : Nat} {d : DataW H} {ps : List MemPlace}
    (h : DataW.Trod enc P W base spare held t (.slice a len cap) d ps) : ∃ zs : List Int, len = zs.length ∧ zs.length ≤ cap ∧ Kd.C (Kd.int k) W a zs.length zs ∧ ∀ n ∈ zs, (Lit.int k n).wf = true := by
  obtain ⟨fuel, hf⟩ := h
  rcases open_ints ht he hc hf with ⟨hcs, _⟩ | ⟨x, l, c, zs, hcs, _, hl, hm, hz, _, hcell, hwz⟩
  · simp [Value.cells] at hcs
    obtain ⟨rfl, rfl, rfl⟩ := hcs
    exact ⟨[], rfl, by simp, Kd.C_nil _ _, fun n hn => by simp at hn⟩
  · simp [Value.cells] at hcs
    obtain ⟨rfl, rfl, rfl⟩ := hcs
    have hl2 : len ≤ zs.length := by
      rw [hz]
      split
      · exact hl
      · exact Nat.le_refl _
    have ht' : (zs.take len).length = len := by rw [List.length_take]; omega
    refine ⟨zs.take len, ht'.symm, by omega, ?_, fun n hn => hwz n (List.mem_of_mem_take hn)⟩
    rw [ht']
    refine Kd.C_of_reads (d := (0 : Int)) ⟨ht', by unfold maxLen at hm; omega, fun _ => ⟨_, rfl, fun j hj => ?_⟩⟩
    rw [hcell j (by omega)]
    simp only [List.getD_eq_getElem?_getD, List.getElem?_take, if_pos hj]
/-- How long a slice may be. -/
theorem sized_any {t e : TypeId} {ts : List TypeId} {ds : List (DataW H)} {j : Nat} {a : Option Addr} {len cap : Nat} {d : DataW H} {ps : List MemPlace} {B : Nat} (hsz : (DataW.weightsEach P ts ds).all (· ≤ reachBytes) = true) (ht : ts[j]? = some t) (hd : ds[j]? = some d)
    (hu : P.underlying t = some (.slice e)) (hB : P.bytesOf e = B) (h : DataW.Trod enc P W base spare held t (.slice a len cap) d ps) : len * B ≤ 140737488351232 := by
  obtain ⟨fuel, hf⟩ := h
  rcases open_slice hu hf with ⟨hcs, _⟩ | ⟨x, l, c, m, n, DD, Pl, hcs, _, hl, _, hm, hx, _⟩
  · simp [Value.cells] at hcs
    obtain ⟨rfl, rfl, rfl⟩ := hcs
    simp
  · simp [Value.cells] at hcs
    obtain ⟨rfl, rfl, rfl⟩ := hcs
    obtain ⟨hx, _⟩ := Prod.mk.inj hx
    subst hx
    have z := sized_slice hsz ht hd hu
    rw [hB] at z
    simp only [List.length_map, List.length_range] at z
    exact Nat.le_trans (Nat.mul_le_mul_right _ (by omega)) z
theorem bounds_i64' {n : Int} (h : (Lit.int .i64 n).wf = true) : I64 n := by
  have := bounds_i64 h
  unfold I64
  omega
theorem allI_of {zs : List Int} (h : ∀ n ∈ zs, (Lit.int .i64 n).wf = true) : AllI zs := fun x hx => bounds_i64' (h x hx)
theorem isB_of_wf {zs : List Int} (h : ∀ n ∈ zs, (Lit.int .u8 n).wf = true) : IsB zs := fun x hx => bounds_u8 (h x hx)

/-- A digest's cells: sixteen bytes. -/
theorem op_digest {fuel : Nat} {cs : List Value} {x : DataW H × List MemPlace} {t e : TypeId} (ht : P.underlying t = some (.array 16 e)) (he : P.underlying e = some (.int .u8)) (hc : P.cellsOf e = 1) (hct : P.cellsOf t = 16)
    (h : DataW.trod enc P W base spare held fuel t cs = some x) : ∃ zs : List Int, zs.length = 16 ∧ IsB zs ∧ cs = encs (Value.int .u8) zs := by
  obtain ⟨xs, m, _, _, hl, hxl, hi⟩ := DataW.trod_array ht h
  rw [hct] at hl
  have hex : ∀ i, i < 16 → ∃ n : Int, cs[i]? = some (.int .u8 n) ∧ 0 ≤ n ∧ n ≤ 255 := by
    intro i hi16
    have h1 := hi i hi16
    rw [List.getElem?_eq_getElem (by omega)] at h1
    rw [hc, Nat.mul_one] at h1
    obtain ⟨n, hcs, _, hw⟩ := DataW.trod_int he h1
    refine ⟨n, ?_, bounds_u8 hw⟩
    have h2 := congrArg (fun l : List Value => l[0]?) hcs
    simp only [List.getElem?_take, List.getElem?_drop, Nat.add_zero, Nat.zero_lt_one, if_true, List.getElem?_cons_zero] at h2
    exact h2
  obtain ⟨f, hf⟩ := choose_lt hex
  refine ⟨(List.range 16).map f, by simp, fun c hcm => ?_, ?_⟩
  · obtain ⟨i, hi1, rfl⟩ := List.mem_map.1 hcm
    exact (hf i (List.mem_range.1 hi1)).2
  · apply List.ext_getElem?
    intro i
    by_cases hi16 : i < 16
    · rw [(hf i hi16).1]
      simp [encs, hi16]
    · rw [List.getElem?_eq_none (by omega), List.getElem?_eq_none (by simp [encs]; omega)]
/-- A slice of digests. -/
theorem op_digests {t e b : TypeId} (ht : P.underlying t = some (.slice e)) (he : P.underlying e = some (.array 16 b)) (hb : P.underlying b = some (.int .u8)) (hcb : P.cellsOf b = 1) (hce : P.cellsOf e = 16) {a : Option Addr} {len cap : Nat} {d : DataW H} {ps : List MemPlace}
    (h : DataW.Trod enc P W base spare held t (.slice a len cap) d ps) : ∃ ds : List (List Int), len = ds.length ∧ ds.length ≤ cap ∧ D.C W a ds.length ds ∧ Dig ds := by
  obtain ⟨fuel, hf⟩ := h
  rcases open_slice ht hf with ⟨hcs, _⟩ | ⟨x, l, c, m, n, DD, Pl, hcs, _, hl, hmax, hm, _, hi⟩
  · simp [Value.cells] at hcs
    obtain ⟨rfl, rfl, rfl⟩ := hcs
    exact ⟨[], rfl, by simp, Kd.C_nil _ _, fun n hn => by simp at hn⟩
  · simp [Value.cells] at hcs
    obtain ⟨rfl, rfl, rfl⟩ := hcs
    have hlm : len ≤ m := by
      rw [hm]
      split
      · exact hl
      · exact Nat.le_refl _
    have hex : ∀ i, i < len → ∃ zs : List Int, zs.length = 16 ∧ IsB zs ∧ ∀ j u, (encs (Value.int .u8) zs)[j]? = some u → W.cell? (x.add (i * 16 + j)) = some u := by
      intro i hil
      obtain ⟨cs', hcl, htr⟩ := hi i (by omega)
      obtain ⟨zs, hz1, hz2, hz3⟩ := op_digest he hb hcb hce htr
      refine ⟨zs, hz1, hz2, fun j u hu => ?_⟩
      obtain ⟨_, hlen, hat⟩ := World.cells?_some hcl
      rw [hce] at hlen hat
      have hj : j < 16 := by
        have := (List.getElem?_eq_some_iff.1 hu).1
        rw [encs_length, hz1] at this
        exact this
      have h1 := hat j hj
      rw [Go.Deep.add_add] at h1
      rw [h1, hz3]
      exact hu
    obtain ⟨f, hff⟩ := choose_lt hex
    refine ⟨(List.range len).map f, by simp, by simpa using hl, ⟨rfl, by simp; unfold maxLen at hmax; omega, fun _ => ⟨x, rfl, fun j p hj => ?_⟩⟩, fun y hy => ?_⟩
    · have hjl : j < len := by
        have := (List.getElem?_eq_some_iff.1 hj).1
        simpa using this
      have hp : f j = p := by simpa [hjl] using hj
      subst hp
      obtain ⟨h1, h2, h3⟩ := hff j hjl
      exact ⟨encs (Value.int .u8) (f j), by rw [encs_length, h1]; rfl, D.K_of_M (base := 0) (ok := fun _ => True) (Kd.arr_of_cells h1), h3⟩
    · obtain ⟨i, hi1, rfl⟩ := List.mem_map.1 hy
      have := hff i (List.mem_range.1 hi1)
      exact ⟨this.1, this.2.1⟩
end
end Go.Proofs.Ytippclnmijelfaa.Op
