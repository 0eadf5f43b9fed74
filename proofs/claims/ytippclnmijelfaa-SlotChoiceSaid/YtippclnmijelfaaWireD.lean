/- The function that encodes a list of digests comes to the encoding of the specification. -/
import Derived.Test.YtippclnmijelfaaWireB
import Derived.Deep.MidRow
import Derived.Deep.WholeRow
namespace Go.Proofs.Ytippclnmijelfaa.Wi
open Go.RowKit Go.Proofs.YtippclnmijelfaaW.PrintWords Go.Proofs.YtippclnmijelfaaW.PrintLast Go.Proofs.YtippclnmijelfaaW.PrintMore
open Go.Proofs.Ytippclnmijelfaa.En Go.Proofs.Ytippclnmijelfaa.Rf
attribute [local go_sem] max2_int min2_int max_two min_two
set_option linter.unusedVariables false
set_option linter.unusedSimpArgs false

/-- A digest: sixteen bytes. -/
def D : Kd (List Int) := Kd.arr 16 (Kd.int .u8) (by decide)
theorem info74 : (Try.prog.info? 74).map (fun i => (i.zero, i.size)) = some (some (.agg (Array.replicate 16 (.int .u8 0))), 16) := by kernel_rfl

theorem size74 : (Try.prog.info? 74).map (·.size) = some 16 := (zero_of_info info74).2
/-- What a digest's cells are. -/
theorem D_cells {w : World} {x : List Int} {c : List Value} (h : D.K w x c) : x.length = 16 ∧ c = encs (Value.int .u8) x := Kd.arr_cells h
section
variable {P : Program} {ops : Array Oper} {rest : List Oper} {op : Oper} {a : Act} {Q : Exit → Act → World → Prop}
/-- A whole array stored into the block that was made last. -/
theorem wpList_store_new {w : World} (hgd : op.guard = none) (t : TypeId) (x y : Operand) (ho : op.op = .store t x y) (c c' : Array Value)
    (hx : a.eval x = .pointer (some ⟨w.heap.size, 0, none⟩)) (hy : a.eval y = .agg c') (hi : (P.info? t).map (·.size) = some c'.size) (hsz : c.size = c'.size) (h1 : c'.all (·.oneCell') = true)
    (h : wpList P ops Q rest (a.put op.dst undef) (w.alloc (.cells c' t))) : wpList P ops Q (op :: rest) a (w.alloc (.cells c t)) := by
  refine wpList_plain hgd fun K hK => ?_
  unfold Oper.wp execOp
  simp only [ho, hx, hy, run_storeAt_new w t c c' hi hsz h1, Sem.run_bind, Result.andThen_ok]
  exact hK _ _ h
end
/-- A new block of bytes, read as a slice. -/
theorem C_block (W : World) (x : List Int) (t : TypeId) (n : Nat) (hx : x.length = n) (hn : n ≤ 1000) : Kd.C (Kd.int .u8) (W.alloc (.cells (encs (Value.int .u8) x).toArray t)) (some ⟨W.heap.size, 0, none⟩) n x := by
  refine Kd.C_of_reads (d := (0 : Int)) ⟨hx, by omega, fun _ => ⟨_, rfl, fun j hj => ?_⟩⟩
  rw [add_plain, cell_of_row _ _ j _ t (0, 0) (heap_alloc_new W _)]
  rw [List.getElem?_toArray]
  exact encs_get x j (by omega)
theorem flat_snoc (l : List (List Int)) (k : Nat) (h : k < l.length) : (l.take (k + 1)).flatten = (l.take k).flatten ++ l[k] := by
  rw [List.take_succ_eq_append_getElem h, List.flatten_append]
  simp only [List.flatten_cons, List.flatten_nil, List.append_nil]
/-- Digest k of a row of digests. -/
theorem D_at {w : World} {A : Option Addr} {n : Nat} {l : List (List Int)} (h : D.C w A n l) (k : Nat) (hk : k < n) :
    ∃ (b o : Nat) (x : List Int), A = some ⟨b, o, none⟩ ∧ l[k]? = some x ∧ x.length = 16 ∧ w.rangeAt b (o + k * 16) (encs (Value.int .u8) x) ∧ b < w.heap.size := by
  obtain ⟨ad, rfl, hcell⟩ := h.2.2 (by omega)
  have hl : l.length = n := h.1
  have h0 := hcell 0 l[0] (List.getElem?_eq_getElem (by omega))
  obtain ⟨c0, hc0l, hK0, hc0⟩ := h0
  obtain ⟨hx0, rfl⟩ := D_cells hK0
  have hz := hc0 0 _ (encs_get (enc := Value.int .u8) (d := (0 : Int)) l[0] 0 (by omega))
  have hz' : w.cell? ad = some (Value.int .u8 (l[0].getD 0 0)) := by simpa [Addr.add] using hz
  have hspot := World.cell?_spot hz'
  have hlt := World.block_lt_of_cell? w ad hz'
  obtain ⟨b, o, sp⟩ := ad
  simp only at hspot
  subst hspot
  obtain ⟨c, hcl, hK, hc⟩ := hcell k l[k] (List.getElem?_eq_getElem (by omega))
  obtain ⟨hx, rfl⟩ := D_cells hK
  refine ⟨b, o, l[k], rfl, List.getElem?_eq_getElem (by omega), hx, fun j v hv => ?_, hlt⟩
  have h2 := hc j v hv
  rw [Addr.add_mid] at h2
  have hs : D.sz = 16 := rfl
  rw [hs, ← Nat.add_assoc] at h2
  exact h2
theorem rangeAt_below {w w1 : World} {b o : Nat} {cs : List Value} (h : w.rangeAt b o cs) (hb : Below w.heap.size w w1) : w1.rangeAt b o cs := fun j v hv => pw_cell_below hb (h j v hv)

set_option maxHeartbeats 2000000 in
set_option maxRecDepth 100000 in
theorem Digests_any (A : Option Addr) (c0 : Nat) (l : List (List Int)) (w : World) (hr : D.C w A l.length l) (hc : l.length ≤ c0) (hl : l.length ≤ 100000) (hI : Dig l) :
    Calls Try.prog 26 #[.slice A l.length c0] w fun e w' => ∃ v : Value, e = .returned v ∧ Kd.R (Kd.int .u8) 5 w' w.heap.size (fun _ => True) v (encD l) ∧ Below w.heap.size w w' := by
  have HR := Aside0.mk hr
  have HA := Aside0.mk hI
  have HL := Aside0.mk (I64_nat hl)
  clear hr hI
  go_enter Try.func26, Try.ntmps26
  go_wp2_with fail
  refine (Int_any (l.length : Int) _ HL.out).mono ?_
  rintro e w1 ⟨v, rfl, ho, hb⟩
  have HO := Aside0.mk ho
  have HB := Aside0.mk hb
  clear ho hb
  go_wp2_with fail
  go_loopw [3, 11] (fun x3 x11 wr => ∃ (k : Nat) (out : List Int), x11 = .int .i64 (k : Int) ∧ k ≤ l.length ∧ Aside0 (out = encI l.length ++ (l.take k).flatten) ∧ Aside0 (Kd.R (Kd.int .u8) 5 wr w.heap.size (fun _ => True) x3 out) ∧ Aside0 (Below w.heap.size w wr)) (fun _ i _ => l.length - (intOf i).toNat)
  case atStart => exact ⟨0, _, rfl, Nat.zero_le _, ⟨by simp⟩, HO, HB⟩
  case round =>
    clear HO HB
    obtain ⟨k, out, rfl, hk, HE, HO, HB⟩ := hrel
    by_cases hlt : k < l.length
    · obtain ⟨b, o, x, rfl, hlk, hx, hrange, hbl⟩ := D_at HR.out k hlt
      have hsnoc := Aside0.mk (flat_snoc l k hlt)
      have hxe : x = l[k] := by rw [List.getElem?_eq_getElem hlt] at hlk; injection hlk with h; exact h.symm
      rw [← hxe] at hsnoc
      have Hx := Aside0.mk hx
      have Hrange := Aside0.mk (rangeAt_below hrange HB.out)
      have Hsz : Aside0 ((Try.prog.info? 74).map (·.size) = some (encs (Value.int .u8) x).length) := ⟨by rw [encs_length, hx]; exact size74⟩
      have Hsz2 : Aside0 ((Try.prog.info? 74).map (·.size) = some (encs (Value.int .u8) x).toArray.size) := ⟨by rw [List.size_toArray]; exact Hsz.out⟩
      have Hone : Aside0 ((encs (Value.int .u8) x).toArray.all (·.oneCell') = true) := ⟨all_oneCell_toArray (fun v hv => by
        obtain ⟨y, _, rfl⟩ := List.mem_map.1 hv
        rfl)⟩
      have Hcl : Aside0 (16 = (encs (Value.int .u8) x).toArray.size) := ⟨by rw [List.size_toArray, encs_length, hx]⟩
      have hol : out.length ≤ 10 + 16 * l.length := by
        rw [HE.out, List.length_append]
        have h1 := encI_len HL.out
        have h2 := flat_len (d := l.take k) (fun y hy => HA.out y (List.mem_of_mem_take hy))
        rw [List.length_take] at h2
        omega
      clear hlk hxe hrange hx
      generalize hcs : encs (Value.int .u8) x = cs at *
      have Hcs := Aside0.mk hcs
      clear hcs
      go_wp2_with (first | (refine wpList_load_mid rfl 74 (.tmp 13) rfl b (o + k * 16) rfl cs _ Hrange.out Try.underlying74 rfl Hsz.out ?_) | (refine wpList_store_new (w := wr) rfl 74 (.tmp 5) (.tmp 14) rfl _ cs.toArray rfl rfl Hsz2.out Hcl.out Hone.out ?_) | (at_builtin; refine Kd.R_append_rows (Kd.int .u8) (w0 := w) w.heap.size rfl (.tmp 15) (.tmp 16) 26 5 (.int .u8 0) 1 rfl Try.underlying26 info5 rfl (by decide) (by omega) _ out x (some ⟨wr.heap.size, 0, none⟩) 16 16 (fun _ => True) (fun _ => False) rfl rfl (Kd.R_alloc HO.out _) (by rw [← Hcs.out]; exact C_block _ x 74 16 Hx.out (by omega)) (fun _ _ h => h) (fun _ h => h.elim) (fun _ _ => trivial) (below_alloc HB.out _) (below_alloc HB.out _).size (by omega) ?_; intro v3 w3 ho hb hg hat; have HO3 := Aside0.mk ho; have HB3 := Aside0.mk hb; clear ho hb hg hat))
      go_roundw
      case rel => exact ⟨k + 1, _, by go_num, by omega, ⟨by rw [HE.out, hsnoc.out, List.append_assoc]⟩, HO3, HB3⟩
      case measure => simp [intOf]; omega
    · go_wp2
      go_ret
      have he : out = encD l := by rw [HE.out, List.take_of_length_le (by omega)]; rfl
      rw [he] at HO
      exact ⟨_, rfl, HO.out, HB.out⟩
end Go.Proofs.Ytippclnmijelfaa.Wi
