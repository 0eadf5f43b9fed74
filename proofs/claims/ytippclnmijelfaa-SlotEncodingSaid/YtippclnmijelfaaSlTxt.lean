/- The contracts of the writing and the reading of a state's text. -/
import Derived.Test.YtippclnmijelfaaSlE
import Derived.BigRegion
namespace Go.Proofs.Ytippclnmijelfaa.Sl
open Go.RowKit Go.Proofs.YtippclnmijelfaaW.PrintWords Go.Proofs.YtippclnmijelfaaW.PrintLast Go.Proofs.YtippclnmijelfaaW.PrintMore
open Go.Proofs.Ytippclnmijelfaa.En Go.Proofs.Ytippclnmijelfaa.Rf Go.Proofs.Ytippclnmijelfaa.Wi Go.Proofs.Ytippclnmijelfaa.Rc Go.Proofs.Ytippclnmijelfaa.Sa
set_option linter.unusedVariables false
set_option linter.unusedSimpArgs false
attribute [local go_sem] ix0 ix1

def nums6 (a b : Slot) : List Int := [a.s, a.v, a.t, b.s, b.v, b.t]
/-- The text of a state. -/
def txt (a b : Slot) : ByteArray := strOfNums (encL (nums6 a b))

set_option maxHeartbeats 8000000 in
set_option maxRecDepth 100000 in
theorem rEncode_any (a b : Slot) (w : World) (hI : AllI (nums6 a b)) : Calls Try.prog 57 #[stV a b] w fun e w' => e = .returned (.string (txt a b)) ∧ Below w.heap.size w w' := by
  have HI := Aside0.mk hI
  clear hI
  have hC := C_blocki (((w.alloc (.cells #[.int .i64 a.s, .int .i64 a.v, .int .i64 a.t, .int .i64 b.s, .int .i64 b.v, .int .i64 b.t] 49 (0, 0))).alloc (.cells #[.int .i64 a.s, .int .i64 a.v, .int .i64 a.t] 46 (0, 0))).alloc (.cells #[.int .i64 b.s, .int .i64 b.v, .int .i64 b.t] 46 (0, 0))) (nums6 a b) 3 6 rfl (by omega)
  have hs : (((w.alloc (.cells #[.int .i64 a.s, .int .i64 a.v, .int .i64 a.t, .int .i64 b.s, .int .i64 b.v, .int .i64 b.t] 49 (0, 0))).alloc (.cells #[.int .i64 a.s, .int .i64 a.v, .int .i64 a.t] 46 (0, 0))).alloc (.cells #[.int .i64 b.s, .int .i64 b.v, .int .i64 b.t] 46 (0, 0))).heap.size = w.heap.size + 1 + 1 + 1 := by simp
  rw [hs] at hC
  have HC := Aside0.mk hC
  have HB0 := Aside0.mk (below_alloc (below_alloc (below_alloc (below_alloc (Below.refl w.heap.size w) (.cells #[.int .i64 a.s, .int .i64 a.v, .int .i64 a.t, .int .i64 b.s, .int .i64 b.v, .int .i64 b.t] 49 (0, 0))) (.cells #[.int .i64 a.s, .int .i64 a.v, .int .i64 a.t] 46 (0, 0))) (.cells #[.int .i64 b.s, .int .i64 b.v, .int .i64 b.t] 46 (0, 0))) (.cells (encs (Value.int .i64) (nums6 a b)).toArray 3 (0, 0)))
  clear hC hs
  have ht : ∀ x, x = strOfNums (encL (nums6 a b)) → Ending.returned (Value.string x) = Ending.returned (Value.string (txt a b)) := fun x h => by rw [h]; rfl
  have HTX := Aside0.mk ht
  clear ht
  go_enter Try.func57, Try.ntmps57
  go_wp2_with fail
  refine (rInts_any (some ⟨w.heap.size + 1 + 1 + 1, 0, none⟩) 6 (nums6 a b) _ HC.out (by simp [nums6]) (by simp [nums6]) HI.out).mono ?_
  rintro e w1 ⟨v1, rfl, ho1, hb1⟩
  have HB1 := Aside0.mk (below_step HB0.out hb1)
  obtain ⟨P1, k1, rfl, hk1, hC1⟩ := Kd.R_reads ho1
  have hcv : (convert 26 9 (.slice P1 (encL (nums6 a b)).length k1)).run Try.prog w1 = .ok (.string (strOfNums (encL (nums6 a b)))) w1 := string_of_reads Try.underlying26 Try.underlying5 Try.underlying9 (Kd.reads_of_C hC1)
  clear ho1 hb1 hC1 HC HB0
  generalize encL (nums6 a b) = E at *
  go_wp2_with fail
  go_ret
  exact ⟨HTX.out _ rfl, HB1.out⟩

set_option maxHeartbeats 8000000 in
set_option maxRecDepth 100000 in
theorem Encode_any (a b : Slot) (w : World) (hI : AllI (nums6 a b)) : Calls Try.prog 56 #[stV a b] w fun e w' => e = .returned (.string (txt a b)) ∧ Below w.heap.size w w' := by
  have HI := Aside0.mk hI
  clear hI
  have ht : ∀ x, x = strOfNums (encL (nums6 a b)) → Ending.returned (Value.string x) = Ending.returned (Value.string (txt a b)) := fun x h => by rw [h]; rfl
  have HTX := Aside0.mk ht
  clear ht
  have HB0 := Aside0.mk (below_alloc (Below.refl w.heap.size w) (.cells #[.int .i64 a.s, .int .i64 a.v, .int .i64 a.t, .int .i64 b.s, .int .i64 b.v, .int .i64 b.t] 49 (0, 0)))
  go_enter Try.func56, Try.ntmps56
  go_wp2_with fail
  generalize w.alloc (Obj.cells #[Value.int IntKind.i64 a.s, Value.int IntKind.i64 a.v, Value.int IntKind.i64 a.t, Value.int IntKind.i64 b.s, Value.int IntKind.i64 b.v, Value.int IntKind.i64 b.t] 49) = W0 at *
  go_loopw [3, 8] (fun x3 x8 wr => ∃ k : Nat, x8 = .int .i64 (k : Int) ∧ k ≤ 2 ∧ Aside0 (Kd.R (Kd.int .i64) 3 wr w.heap.size (fun _ => True) x3 ((nums6 a b).take (3 * k))) ∧ Aside0 (Below w.heap.size w wr)) (fun _ i _ => 2 - (intOf i).toNat)
  case atStart => exact ⟨0, rfl, by omega, ⟨Kd.R_nil _ _ _ _ _⟩, HB0⟩
  case round =>
    clear HB0
    obtain ⟨k, rfl, hk, HO, HBr⟩ := hrel
    obtain rfl | rfl | rfl : k = 0 ∨ k = 1 ∨ k = 2 := by omega
    · have hC := C_blocki (wr.alloc (.cells #[.int .i64 a.s, .int .i64 a.v, .int .i64 a.t] 46 (0, 0))) [a.s, a.v, a.t] 3 3 rfl (by omega)
      have hs : (wr.alloc (.cells #[.int .i64 a.s, .int .i64 a.v, .int .i64 a.t] 46 (0, 0))).heap.size = wr.heap.size + 1 := by simp
      rw [hs] at hC
      have HC := Aside0.mk hC
      have HBq := Aside0.mk (below_alloc (below_alloc HBr.out (.cells #[.int .i64 a.s, .int .i64 a.v, .int .i64 a.t] 46 (0, 0))) (.cells (encs (Value.int .i64) [a.s, a.v, a.t]).toArray 3 (0, 0)))
      have HOq := Aside0.mk (Kd.R_alloc (Kd.R_alloc HO.out (.cells #[.int .i64 a.s, .int .i64 a.v, .int .i64 a.t] 46 (0, 0))) (.cells (encs (Value.int .i64) [a.s, a.v, a.t]).toArray 3 (0, 0)))
      clear hC hs
      go_wp2_with (at_builtin; refine Kd.R_append_rows (Kd.int .i64) (w0 := w) w.heap.size rfl (.tmp 11) (.tmp 18) 22 3 (.int .i64 0) 8 rfl Try.underlying22 info3 rfl (by decide) (by omega) _ ((nums6 a b).take (3 * 0)) [a.s, a.v, a.t] _ _ 3 (fun _ => True) (fun _ => False) rfl rfl HOq.out HC.out (fun _ _ h => h) (fun _ h => h.elim) (fun _ _ => trivial) HBq.out HBq.out.size (by simp [nums6]) ?_; intro v3 w3 ho hb hg hat; have HO3 := Aside0.mk ho; have HB3 := Aside0.mk hb; clear ho hb hg hat)
      exact ⟨⟨1, by go_num, by omega, HO3, HB3⟩, by simp [intOf]⟩
    · have hC := C_blocki (wr.alloc (.cells #[.int .i64 b.s, .int .i64 b.v, .int .i64 b.t] 46 (0, 0))) [b.s, b.v, b.t] 3 3 rfl (by omega)
      have hs : (wr.alloc (.cells #[.int .i64 b.s, .int .i64 b.v, .int .i64 b.t] 46 (0, 0))).heap.size = wr.heap.size + 1 := by simp
      rw [hs] at hC
      have HC := Aside0.mk hC
      have HBq := Aside0.mk (below_alloc (below_alloc HBr.out (.cells #[.int .i64 b.s, .int .i64 b.v, .int .i64 b.t] 46 (0, 0))) (.cells (encs (Value.int .i64) [b.s, b.v, b.t]).toArray 3 (0, 0)))
      have HOq := Aside0.mk (Kd.R_alloc (Kd.R_alloc HO.out (.cells #[.int .i64 b.s, .int .i64 b.v, .int .i64 b.t] 46 (0, 0))) (.cells (encs (Value.int .i64) [b.s, b.v, b.t]).toArray 3 (0, 0)))
      clear hC hs
      go_wp2_with (at_builtin; refine Kd.R_append_rows (Kd.int .i64) (w0 := w) w.heap.size rfl (.tmp 11) (.tmp 18) 22 3 (.int .i64 0) 8 rfl Try.underlying22 info3 rfl (by decide) (by omega) _ ((nums6 a b).take (3 * 1)) [b.s, b.v, b.t] _ _ 3 (fun _ => True) (fun _ => False) rfl rfl HOq.out HC.out (fun _ _ h => h) (fun _ h => h.elim) (fun _ _ => trivial) HBq.out HBq.out.size (by simp [nums6]) ?_; intro v3 w3 ho hb hg hat; have HO3 := Aside0.mk ho; have HB3 := Aside0.mk hb; clear ho hb hg hat)
      exact ⟨⟨2, by go_num, by omega, HO3, HB3⟩, by simp [intOf]⟩
    · have HO2 : Aside0 (Kd.R (Kd.int .i64) 3 wr w.heap.size (fun _ => True) _ (nums6 a b)) := HO
      clear HO
      obtain ⟨P0, k0, rfl, hk0, hC0⟩ := Kd.R_reads HO2.out
      have HC0 := Aside0.mk hC0
      clear hC0 HO2
      go_wp2_with fail
      refine (Ints_any P0 k0 (nums6 a b) _ HC0.out hk0 (by simp [nums6]) HI.out).mono ?_
      rintro e w1 ⟨v1, rfl, ho1, hb1⟩
      have HB1 := Aside0.mk (below_step HBr.out hb1)
      obtain ⟨P1, k1, rfl, hk1, hC1⟩ := Kd.R_reads ho1
      have hcv : (convert 26 9 (.slice P1 (encL (nums6 a b)).length k1)).run Try.prog w1 = .ok (.string (strOfNums (encL (nums6 a b)))) w1 := string_of_reads Try.underlying26 Try.underlying5 Try.underlying9 (Kd.reads_of_C hC1)
      clear ho1 hb1 hC1 HC0 HBr
      generalize encL (nums6 a b) = E at *
      go_wp2_with fail
      go_ret
      exact ⟨HTX.out _ rfl, HB1.out⟩
end Go.Proofs.Ytippclnmijelfaa.Sl
namespace Go.Proofs.Ytippclnmijelfaa.Sl
open Go.RowKit Go.Proofs.YtippclnmijelfaaW.PrintWords Go.Proofs.YtippclnmijelfaaW.PrintLast Go.Proofs.YtippclnmijelfaaW.PrintMore
open Go.Proofs.Ytippclnmijelfaa.En Go.Proofs.Ytippclnmijelfaa.Rf Go.Proofs.Ytippclnmijelfaa.Wi Go.Proofs.Ytippclnmijelfaa.Rc Go.Proofs.Ytippclnmijelfaa.Sa
set_option linter.unusedVariables false
set_option linter.unusedSimpArgs false

/-- The state of a text. -/
def slA (l : List Int) : Slot := ⟨l.getD 0 0, l.getD 1 0, l.getD 2 0⟩
def slB (l : List Int) : Slot := ⟨l.getD 3 0, l.getD 4 0, l.getD 5 0⟩
def dcd (s : ByteArray) : Slot × Slot × Int :=
  if (decL (bytesOf s)).2.2 ≠ 0 ∨ (decL (bytesOf s)).2.1 ≠ s.size ∨ (decL (bytesOf s)).1.length ≠ 6 then (Z, Z, 7)
  else if ok (slA (decL (bytesOf s)).1) (slB (decL (bytesOf s)).1) then (slA (decL (bytesOf s)).1, slB (decL (bytesOf s)).1, 0) else (Z, Z, 7)
theorem bytesOf_B (s : ByteArray) : IsB (bytesOf s) := by
  intro c hc
  obtain ⟨x, _, rfl⟩ := List.mem_map.1 hc
  have := x.toNat_lt
  omega

set_option maxHeartbeats 8000000 in
set_option maxRecDepth 100000 in
theorem rDecode_any (s : ByteArray) (w : World) (hs : s.size ≤ 100000) : Calls Try.prog 55 #[.string s] w fun e w' => e = .returned (res (dcd s)) ∧ Below w.heap.size w w' := by
  have HB0 := Aside0.mk (bytes_below (below_alloc (Below.refl w.heap.size w) (oS Z Z)) (by simp) 5 s)
  have hG0 : (Lib.bytesWorld (w.alloc (oS Z Z)) 5 s).heap[w.heap.size]? = some (oS Z Z) := (Lib.bytesWorld_at_old _ _ _ _ (by simp)).trans (blk_new w (oS Z Z))
  have HG0 := Aside0.mk hG0
  have hl := bytesOf_length s
  have hC := bytes_reads (w.alloc (oS Z Z)) 5 s (by omega)
  have hz : (w.alloc (oS Z Z)).heap.size = w.heap.size + 1 := by simp
  have hcap : s.size ≤ grownCap (w.alloc (oS Z Z)) s.size 0 5 := grownCap_ge _ _ _ _
  have kb := fun W => print_bytes (P := Try.prog) 9 26 5 Try.underlying9 Try.underlying26 Try.underlying5 s W
  rw [hz] at hC
  have HC := Aside0.mk hC
  obtain ⟨l, m, e, hd⟩ : ∃ l m e, decL (bytesOf s) = (l, m, e) := ⟨_, _, _, rfl⟩
  have HD := Aside0.mk hd
  clear hd hG0 hC hz
  go_enter Try.func55, Try.ntmps55
  have HW := Aside0.mk ((rGetInts_any (some ⟨w.heap.size + 1, 0, none⟩) (grownCap (w.alloc (oS Z Z)) s.size 0 5) (bytesOf s) l m e (Lib.bytesWorld (w.alloc (oS Z Z)) 5 s) (bytesOf_B s) (by rw [hl]; exact Kd.C_of_reads (h1 := fun _ => rfl) HC.out) (by rw [hl]; exact hcap) (by omega) HD.out))
  rw [hl] at HW
  have HDC : Aside0 (dcd s = if e ≠ 0 ∨ m ≠ s.size ∨ l.length ≠ 6 then (Z, Z, 7) else if ok (slA l) (slB l) then (slA l, slB l, 0) else (Z, Z, 7)) := ⟨by unfold dcd; rw [HD.out]⟩
  clear HC hcap hl
  go_wp2_with fail
  refine HW.out.mono ?_
  rintro e' w1 ⟨v1, rfl, ho1, hb1⟩
  obtain ⟨P1, k1, rfl, hk1, hC1⟩ := Kd.R_reads ho1
  have HB1 := Aside0.mk (below_step HB0.out hb1)
  have HG1 := Aside0.mk (blk_below HG0.out hb1)
  have HC1 := Aside0.mk hC1
  have d0 : w1.cell? ⟨w.heap.size, 0, none⟩ = some (.int .i64 0) := by rw [blk_cell HG1.out]; rfl
  have d1 : w1.cell? ⟨w.heap.size, 1, none⟩ = some (.int .i64 0) := by rw [blk_cell HG1.out]; rfl
  have d2 : w1.cell? ⟨w.heap.size, 2, none⟩ = some (.int .i64 0) := by rw [blk_cell HG1.out]; rfl
  have d3 : w1.cell? ⟨w.heap.size, 3, none⟩ = some (.int .i64 0) := by rw [blk_cell HG1.out]; rfl
  have d4 : w1.cell? ⟨w.heap.size, 4, none⟩ = some (.int .i64 0) := by rw [blk_cell HG1.out]; rfl
  have d5 : w1.cell? ⟨w.heap.size, 5, none⟩ = some (.int .i64 0) := by rw [blk_cell HG1.out]; rfl
  have f0 : ∀ j, w1.frozen? ⟨w.heap.size, j, none⟩ = false := fun j => blk_frozen HG1.out j
  clear ho1 hb1 hC1 HW HB0 HG0 HD kb
  by_cases hbad : e ≠ 0 ∨ m ≠ s.size ∨ l.length ≠ 6
  · have HDD : Aside0 (dcd s = (Z, Z, 7)) := ⟨by rw [HDC.out, if_pos hbad]⟩
    clear HDC
    by_cases he : e = 0
    · subst he
      by_cases hm : m = s.size
      · have hln : ((l.length : Int) != 6) = true := by simp; omega
        have hme : (m != (s.size : Int)) = false := by simp [hm]
        clear hm hbad
        go_wp2_with fail
        refine bodyPost_ret (v := .tuple #[stV Z Z, .int .i64 7]) (by simp [results, Try.results55, go_sem, d0, d1, d2, d3, d4, d5, Z]) rfl ⟨by rw [HDD.out], ?_⟩
        repeat (first | (with_reducible exact HB1.out) | refine below_set ?_ (by omega))
      · have hme : (m != (s.size : Int)) = true := by simp [hm]
        clear hbad
        go_wp2_with fail
        refine bodyPost_ret (v := .tuple #[stV Z Z, .int .i64 7]) (by simp [results, Try.results55, go_sem, d0, d1, d2, d3, d4, d5, Z]) rfl ⟨by rw [HDD.out], ?_⟩
        repeat (first | (with_reducible exact HB1.out) | refine below_set ?_ (by omega))
    · have hee : (e != 0) = true := by simp [he]
      clear hbad
      go_wp2_with fail
      refine bodyPost_ret (v := .tuple #[stV Z Z, .int .i64 7]) (by simp [results, Try.results55, go_sem, d0, d1, d2, d3, d4, d5, Z]) rfl ⟨by rw [HDD.out], ?_⟩
      repeat (first | (with_reducible exact HB1.out) | refine below_set ?_ (by omega))
  · have h3 : e = 0 ∧ m = s.size ∧ l.length = 6 := by omega
    have HDD : Aside0 (dcd s = if ok (slA l) (slB l) then (slA l, slB l, 0) else (Z, Z, 7)) := ⟨by rw [HDC.out, if_neg hbad]⟩
    obtain ⟨he, hm, hln⟩ := h3
    clear HDC hbad
    subst he
    obtain ⟨x0, x1, x2, x3, x4, x5, rfl⟩ : ∃ x0 x1 x2 x3 x4 x5 : Int, l = [x0, x1, x2, x3, x4, x5] := by
      match l, hln with
      | [x0, x1, x2, x3, x4, x5], _ => exact ⟨x0, x1, x2, x3, x4, x5, rfl⟩
    have hr := Kd.reads_of_C (enc := Value.int .i64) (d := (0 : Int)) (h1 := fun _ => rfl) HC1.out
    obtain ⟨⟨bk, off, fr⟩, rfl, hcell0⟩ := hr.2.2 (by simp)
    have hlt : bk < w1.heap.size := World.block_lt_of_cell? w1 ((⟨bk, off, fr⟩ : Addr).add 0) (hcell0 0 (by simp))
    have hne : bk ≠ w1.heap.size := by omega
    have hgn : w.heap.size ≠ w1.heap.size := by have := blk_lt HG1.out; omega
    have q0 := hcell0 0 (by simp)
    have q1 := hcell0 1 (by simp)
    have q2 := hcell0 2 (by simp)
    have q3 := hcell0 3 (by simp)
    have q4 := hcell0 4 (by simp)
    have q5 := hcell0 5 (by simp)
    simp [Addr.add] at q0 q1 q2 q3 q4 q5
    have hme : (m != (s.size : Int)) = false := by simp [hm]
    clear hcell0 hr hm
    go_wp2_with fail
    go_region
    go_wp2_with fail
    go_region
    go_wp2_with fail
    refine (rValid_any ⟨x0, x1, x2⟩ ⟨x3, x4, x5⟩ _).mono ?_
    rintro e w2 ⟨rfl, hb2⟩
    have HB2 := Aside0.mk (below_step (below_drew1 (below_drew1 (below_alloc HB1.out (.cells #[.int .i64 x0, .int .i64 x1, .int .i64 x2, .int .i64 x3, .int .i64 x4, .int .i64 x5] 49 (0, 0))))) hb2)
    have HGn := Aside0.mk (blk_below (show (w1.alloc (.cells #[.int .i64 x0, .int .i64 x1, .int .i64 x2, .int .i64 x3, .int .i64 x4, .int .i64 x5] 49 (0, 0))).drew.drew.heap[w1.heap.size]? = _ from blk_new w1 (.cells #[.int .i64 x0, .int .i64 x1, .int .i64 x2, .int .i64 x3, .int .i64 x4, .int .i64 x5] 49 (0, 0))) hb2)
    have HGg := Aside0.mk (blk_below (show (w1.alloc (.cells #[.int .i64 x0, .int .i64 x1, .int .i64 x2, .int .i64 x3, .int .i64 x4, .int .i64 x5] 49 (0, 0))).drew.drew.heap[w.heap.size]? = _ from blk_alloc HG1.out (.cells #[.int .i64 x0, .int .i64 x1, .int .i64 x2, .int .i64 x3, .int .i64 x4, .int .i64 x5] 49 (0, 0))) hb2)
    clear hb2 d0 d1 d2 d3 d4 d5 f0 q0 q1 q2 q3 q4 q5
    have n0 : w2.cell? ⟨w1.heap.size, 0, none⟩ = some (.int .i64 x0) := by rw [blk_cell HGn.out]; rfl
    have n1 : w2.cell? ⟨w1.heap.size, 1, none⟩ = some (.int .i64 x1) := by rw [blk_cell HGn.out]; rfl
    have n2 : w2.cell? ⟨w1.heap.size, 2, none⟩ = some (.int .i64 x2) := by rw [blk_cell HGn.out]; rfl
    have n3 : w2.cell? ⟨w1.heap.size, 3, none⟩ = some (.int .i64 x3) := by rw [blk_cell HGn.out]; rfl
    have n4 : w2.cell? ⟨w1.heap.size, 4, none⟩ = some (.int .i64 x4) := by rw [blk_cell HGn.out]; rfl
    have n5 : w2.cell? ⟨w1.heap.size, 5, none⟩ = some (.int .i64 x5) := by rw [blk_cell HGn.out]; rfl
    have d0 : w2.cell? ⟨w.heap.size, 0, none⟩ = some (.int .i64 0) := by rw [blk_cell HGg.out]; rfl
    have d1 : w2.cell? ⟨w.heap.size, 1, none⟩ = some (.int .i64 0) := by rw [blk_cell HGg.out]; rfl
    have d2 : w2.cell? ⟨w.heap.size, 2, none⟩ = some (.int .i64 0) := by rw [blk_cell HGg.out]; rfl
    have d3 : w2.cell? ⟨w.heap.size, 3, none⟩ = some (.int .i64 0) := by rw [blk_cell HGg.out]; rfl
    have d4 : w2.cell? ⟨w.heap.size, 4, none⟩ = some (.int .i64 0) := by rw [blk_cell HGg.out]; rfl
    have d5 : w2.cell? ⟨w.heap.size, 5, none⟩ = some (.int .i64 0) := by rw [blk_cell HGg.out]; rfl
    have f0 : ∀ j, w2.frozen? ⟨w.heap.size, j, none⟩ = false := fun j => blk_frozen HGg.out j
    by_cases hok : ok (⟨x0, x1, x2⟩ : Slot) ⟨x3, x4, x5⟩
    · have HD3 : Aside0 (dcd s = ((⟨x0, x1, x2⟩ : Slot), (⟨x3, x4, x5⟩ : Slot), (0 : Int))) := ⟨by rw [HDD.out]; exact if_pos hok⟩
      clear HDD
      simp only [hok, decide_true]
      go_wp2_with fail
      refine bodyPost_ret (v := .tuple #[stV ⟨x0, x1, x2⟩ ⟨x3, x4, x5⟩, .int .i64 0]) (by simp [results, Try.results55, go_sem, d0, d1, d2, d3, d4, d5]) rfl ⟨by rw [HD3.out], ?_⟩
      repeat (first | (with_reducible exact HB2.out) | refine below_set ?_ (by omega))
    · have HD3 : Aside0 (dcd s = (Z, Z, (7 : Int))) := ⟨by rw [HDD.out]; exact if_neg hok⟩
      clear HDD
      simp only [hok, decide_false]
      go_wp2_with fail
      refine bodyPost_ret (v := .tuple #[stV Z Z, .int .i64 7]) (by simp [results, Try.results55, go_sem, d0, d1, d2, d3, d4, d5, Z]) rfl ⟨by rw [HD3.out], ?_⟩
      repeat (first | (with_reducible exact HB2.out) | refine below_set ?_ (by omega))
end Go.Proofs.Ytippclnmijelfaa.Sl
namespace Go.Proofs.Ytippclnmijelfaa.Sl
open Go.RowKit Go.Proofs.YtippclnmijelfaaW.PrintWords Go.Proofs.YtippclnmijelfaaW.PrintLast Go.Proofs.YtippclnmijelfaaW.PrintMore
open Go.Proofs.Ytippclnmijelfaa.En Go.Proofs.Ytippclnmijelfaa.Rf Go.Proofs.Ytippclnmijelfaa.Wi Go.Proofs.Ytippclnmijelfaa.Rc Go.Proofs.Ytippclnmijelfaa.Sa
set_option linter.unusedVariables false
set_option linter.unusedSimpArgs false

set_option maxHeartbeats 8000000 in
set_option maxRecDepth 100000 in
theorem Decode_any (s : ByteArray) (w : World) (hs : s.size ≤ 100000) : Calls Try.prog 54 #[.string s] w fun e w' => e = .returned (res (dcd s)) ∧ Below w.heap.size w w' := by
  have HB0 := Aside0.mk (bytes_below (below_alloc (Below.refl w.heap.size w) (oS Z Z)) (by simp) 5 s)
  have hG0 : (Lib.bytesWorld (w.alloc (oS Z Z)) 5 s).heap[w.heap.size]? = some (oS Z Z) := (Lib.bytesWorld_at_old _ _ _ _ (by simp)).trans (blk_new w (oS Z Z))
  have HG0 := Aside0.mk hG0
  have hl := bytesOf_length s
  have hC := bytes_reads (w.alloc (oS Z Z)) 5 s (by omega)
  have hz : (w.alloc (oS Z Z)).heap.size = w.heap.size + 1 := by simp
  have hcap : s.size ≤ grownCap (w.alloc (oS Z Z)) s.size 0 5 := grownCap_ge _ _ _ _
  have kb := fun W => print_bytes (P := Try.prog) 9 26 5 Try.underlying9 Try.underlying26 Try.underlying5 s W
  rw [hz] at hC
  have HC := Aside0.mk hC
  obtain ⟨l, m, e, hd⟩ : ∃ l m e, decL (bytesOf s) = (l, m, e) := ⟨_, _, _, rfl⟩
  have HD := Aside0.mk hd
  clear hd hG0 hC hz
  go_enter Try.func54, Try.ntmps54
  have HW := Aside0.mk ((GetInts_any (some ⟨w.heap.size + 1, 0, none⟩) (grownCap (w.alloc (oS Z Z)) s.size 0 5) (bytesOf s) l m e (Lib.bytesWorld (w.alloc (oS Z Z)) 5 s) (bytesOf_B s) (by rw [hl]; exact Kd.C_of_reads (h1 := fun _ => rfl) HC.out) (by rw [hl]; exact hcap) (by omega) HD.out))
  rw [hl] at HW
  have HDC : Aside0 (dcd s = if e ≠ 0 ∨ m ≠ s.size ∨ l.length ≠ 6 then (Z, Z, 7) else if ok (slA l) (slB l) then (slA l, slB l, 0) else (Z, Z, 7)) := ⟨by unfold dcd; rw [HD.out]⟩
  clear HC hcap hl
  go_wp2_with fail
  refine HW.out.mono ?_
  rintro e' w1 ⟨v1, rfl, ho1, hb1⟩
  obtain ⟨P1, k1, rfl, hk1, hC1⟩ := Kd.R_reads ho1
  have HB1 := Aside0.mk (below_step HB0.out hb1)
  have HG1 := Aside0.mk (blk_below HG0.out hb1)
  have HC1 := Aside0.mk hC1
  have d0 : w1.cell? ⟨w.heap.size, 0, none⟩ = some (.int .i64 0) := by rw [blk_cell HG1.out]; rfl
  have d1 : w1.cell? ⟨w.heap.size, 1, none⟩ = some (.int .i64 0) := by rw [blk_cell HG1.out]; rfl
  have d2 : w1.cell? ⟨w.heap.size, 2, none⟩ = some (.int .i64 0) := by rw [blk_cell HG1.out]; rfl
  have d3 : w1.cell? ⟨w.heap.size, 3, none⟩ = some (.int .i64 0) := by rw [blk_cell HG1.out]; rfl
  have d4 : w1.cell? ⟨w.heap.size, 4, none⟩ = some (.int .i64 0) := by rw [blk_cell HG1.out]; rfl
  have d5 : w1.cell? ⟨w.heap.size, 5, none⟩ = some (.int .i64 0) := by rw [blk_cell HG1.out]; rfl
  have f0 : ∀ j, w1.frozen? ⟨w.heap.size, j, none⟩ = false := fun j => blk_frozen HG1.out j
  clear ho1 hb1 hC1 HW HB0 HG0 HD kb
  by_cases hbad : e ≠ 0 ∨ m ≠ s.size ∨ l.length ≠ 6
  · have HDD : Aside0 (dcd s = (Z, Z, 7)) := ⟨by rw [HDC.out, if_pos hbad]⟩
    clear HDC
    by_cases he : e = 0
    · subst he
      by_cases hm : m = s.size
      · have hln : ((l.length : Int) != 6) = true := by simp; omega
        have hme : (m != (s.size : Int)) = false := by simp [hm]
        clear hm hbad
        go_wp2_with fail
        refine bodyPost_ret (v := .tuple #[stV Z Z, .int .i64 7]) (by simp [results, Try.results54, go_sem, d0, d1, d2, d3, d4, d5, Z]) rfl ⟨by rw [HDD.out], ?_⟩
        repeat (first | (with_reducible exact HB1.out) | refine below_set ?_ (by omega))
      · have hme : (m != (s.size : Int)) = true := by simp [hm]
        clear hbad
        go_wp2_with fail
        refine bodyPost_ret (v := .tuple #[stV Z Z, .int .i64 7]) (by simp [results, Try.results54, go_sem, d0, d1, d2, d3, d4, d5, Z]) rfl ⟨by rw [HDD.out], ?_⟩
        repeat (first | (with_reducible exact HB1.out) | refine below_set ?_ (by omega))
    · have hee : (e != 0) = true := by simp [he]
      clear hbad
      go_wp2_with fail
      refine bodyPost_ret (v := .tuple #[stV Z Z, .int .i64 7]) (by simp [results, Try.results54, go_sem, d0, d1, d2, d3, d4, d5, Z]) rfl ⟨by rw [HDD.out], ?_⟩
      repeat (first | (with_reducible exact HB1.out) | refine below_set ?_ (by omega))
  · have h3 : e = 0 ∧ m = s.size ∧ l.length = 6 := by omega
    have HDD : Aside0 (dcd s = if ok (slA l) (slB l) then (slA l, slB l, 0) else (Z, Z, 7)) := ⟨by rw [HDC.out, if_neg hbad]⟩
    obtain ⟨he, hm, hln⟩ := h3
    clear HDC hbad
    subst he
    obtain ⟨x0, x1, x2, x3, x4, x5, rfl⟩ : ∃ x0 x1 x2 x3 x4 x5 : Int, l = [x0, x1, x2, x3, x4, x5] := by
      match l, hln with
      | [x0, x1, x2, x3, x4, x5], _ => exact ⟨x0, x1, x2, x3, x4, x5, rfl⟩
    have hr := Kd.reads_of_C (enc := Value.int .i64) (d := (0 : Int)) (h1 := fun _ => rfl) HC1.out
    obtain ⟨⟨bk, off, fr⟩, rfl, hcell0⟩ := hr.2.2 (by simp)
    have hlt : bk < w1.heap.size := World.block_lt_of_cell? w1 ((⟨bk, off, fr⟩ : Addr).add 0) (hcell0 0 (by simp))
    have hne : bk ≠ w1.heap.size := by omega
    have hgn : w.heap.size ≠ w1.heap.size := by have := blk_lt HG1.out; omega
    have q0 := hcell0 0 (by simp)
    have q1 := hcell0 1 (by simp)
    have q2 := hcell0 2 (by simp)
    have q3 := hcell0 3 (by simp)
    have q4 := hcell0 4 (by simp)
    have q5 := hcell0 5 (by simp)
    simp [Addr.add] at q0 q1 q2 q3 q4 q5
    have hme : (m != (s.size : Int)) = false := by simp [hm]
    clear hcell0 hr hm
    have HS := Aside0.mk (And.intro hlt (And.intro hne hgn))
    go_wp2_with fail
    have HBa := Aside0.mk (below_alloc HB1.out (oS Z Z))
    have HBb := Aside0.mk (below_alloc (Below.refl w1.heap.size w1) (oS Z Z))
    have HNa := Aside0.mk (blk_new w1 (oS Z Z))
    go_loopw [30] (fun x wr => ∃ k : Nat, x = .int .i64 (k : Int) ∧ k ≤ 2 ∧ Aside0 (Below w1.heap.size w1 wr) ∧ Aside0 (wr.heap[w1.heap.size]? = some (.cells (if k = 0 then #[Value.int .i64 0, Value.int .i64 0, Value.int .i64 0, Value.int .i64 0, Value.int .i64 0, Value.int .i64 0] else if k = 1 then #[Value.int .i64 x0, Value.int .i64 x1, Value.int .i64 x2, Value.int .i64 0, Value.int .i64 0, Value.int .i64 0] else #[Value.int .i64 x0, Value.int .i64 x1, Value.int .i64 x2, Value.int .i64 x3, Value.int .i64 x4, Value.int .i64 x5]) 49 (0, 0)))) (fun i _ => 2 - (intOf i).toNat)
    case atStart => exact ⟨0, rfl, by omega, HBb, HNa⟩
    case round =>
      obtain ⟨k, rfl, hk, HBr, HNr⟩ := hrel
      obtain rfl | rfl | rfl : k = 0 ∨ k = 1 ∨ k = 2 := by omega
      · have n0 : wr.cell? ⟨w1.heap.size, 0, none⟩ = some (.int .i64 0) := by rw [blk_cell HNr.out]; rfl
        have n1 : wr.cell? ⟨w1.heap.size, 1, none⟩ = some (.int .i64 0) := by rw [blk_cell HNr.out]; rfl
        have n2 : wr.cell? ⟨w1.heap.size, 2, none⟩ = some (.int .i64 0) := by rw [blk_cell HNr.out]; rfl
        have n3 : wr.cell? ⟨w1.heap.size, 3, none⟩ = some (.int .i64 0) := by rw [blk_cell HNr.out]; rfl
        have n4 : wr.cell? ⟨w1.heap.size, 4, none⟩ = some (.int .i64 0) := by rw [blk_cell HNr.out]; rfl
        have n5 : wr.cell? ⟨w1.heap.size, 5, none⟩ = some (.int .i64 0) := by rw [blk_cell HNr.out]; rfl
        have r0 := (HBr.out.cell (p := ⟨bk, off, fr⟩) HS.out.1).trans q0
        have r1 := (HBr.out.cell (p := ⟨bk, off + 1, none⟩) HS.out.1).trans q1
        have r2 := (HBr.out.cell (p := ⟨bk, off + 2, none⟩) HS.out.1).trans q2
        have fn : ∀ j, wr.frozen? ⟨w1.heap.size, j, none⟩ = false := fun j => blk_frozen HNr.out j
        go_wp2_with fail
        go_region
        go_wp2_with fail
        exact ⟨⟨1, by go_num, by omega, ⟨below_drew1 (below_set (below_set (below_set HBr.out (Nat.le_refl _)) (Nat.le_refl _)) (Nat.le_refl _))⟩, ⟨(blk_set (blk_set (blk_set HNr.out 0 (.int .i64 x0)) 1 (.int .i64 x1)) 2 (.int .i64 x2)).trans rfl⟩⟩, by simp [intOf]⟩
      · have n0 : wr.cell? ⟨w1.heap.size, 0, none⟩ = some (.int .i64 x0) := by rw [blk_cell HNr.out]; rfl
        have n1 : wr.cell? ⟨w1.heap.size, 1, none⟩ = some (.int .i64 x1) := by rw [blk_cell HNr.out]; rfl
        have n2 : wr.cell? ⟨w1.heap.size, 2, none⟩ = some (.int .i64 x2) := by rw [blk_cell HNr.out]; rfl
        have n3 : wr.cell? ⟨w1.heap.size, 3, none⟩ = some (.int .i64 0) := by rw [blk_cell HNr.out]; rfl
        have n4 : wr.cell? ⟨w1.heap.size, 4, none⟩ = some (.int .i64 0) := by rw [blk_cell HNr.out]; rfl
        have n5 : wr.cell? ⟨w1.heap.size, 5, none⟩ = some (.int .i64 0) := by rw [blk_cell HNr.out]; rfl
        have r3 := (HBr.out.cell (p := ⟨bk, off + 3, none⟩) HS.out.1).trans q3
        have r4 := (HBr.out.cell (p := ⟨bk, off + 4, none⟩) HS.out.1).trans q4
        have r5 := (HBr.out.cell (p := ⟨bk, off + 5, none⟩) HS.out.1).trans q5
        have fn : ∀ j, wr.frozen? ⟨w1.heap.size, j, none⟩ = false := fun j => blk_frozen HNr.out j
        go_wp2_with fail
        go_region
        go_wp2_with fail
        exact ⟨⟨2, by go_num, by omega, ⟨below_drew1 (below_set (below_set (below_set HBr.out (Nat.le_refl _)) (Nat.le_refl _)) (Nat.le_refl _))⟩, ⟨(blk_set (blk_set (blk_set HNr.out 3 (.int .i64 x3)) 4 (.int .i64 x4)) 5 (.int .i64 x5)).trans rfl⟩⟩, by simp [intOf]⟩
      · have HBw := Aside0.mk (below_step HB1.out HBr.out)
        have HGr := Aside0.mk (blk_below HG1.out HBr.out)
        have n0 : wr.cell? ⟨w1.heap.size, 0, none⟩ = some (.int .i64 x0) := by rw [blk_cell HNr.out]; rfl
        have n1 : wr.cell? ⟨w1.heap.size, 1, none⟩ = some (.int .i64 x1) := by rw [blk_cell HNr.out]; rfl
        have n2 : wr.cell? ⟨w1.heap.size, 2, none⟩ = some (.int .i64 x2) := by rw [blk_cell HNr.out]; rfl
        have n3 : wr.cell? ⟨w1.heap.size, 3, none⟩ = some (.int .i64 x3) := by rw [blk_cell HNr.out]; rfl
        have n4 : wr.cell? ⟨w1.heap.size, 4, none⟩ = some (.int .i64 x4) := by rw [blk_cell HNr.out]; rfl
        have n5 : wr.cell? ⟨w1.heap.size, 5, none⟩ = some (.int .i64 x5) := by rw [blk_cell HNr.out]; rfl
        go_wp2_with fail
        refine (Valid_any ⟨x0, x1, x2⟩ ⟨x3, x4, x5⟩ _).mono ?_
        rintro e w2 ⟨rfl, hb2⟩
        have HB2 := Aside0.mk (below_step HBw.out hb2)
        have HGn := Aside0.mk (blk_below HNr.out hb2)
        have HGg := Aside0.mk (blk_below HGr.out hb2)
        clear hb2 d0 d1 d2 d3 d4 d5 f0 q0 q1 q2 q3 q4 q5 n0 n1 n2 n3 n4 n5
        have n0 : w2.cell? ⟨w1.heap.size, 0, none⟩ = some (.int .i64 x0) := by rw [blk_cell HGn.out]; rfl
        have n1 : w2.cell? ⟨w1.heap.size, 1, none⟩ = some (.int .i64 x1) := by rw [blk_cell HGn.out]; rfl
        have n2 : w2.cell? ⟨w1.heap.size, 2, none⟩ = some (.int .i64 x2) := by rw [blk_cell HGn.out]; rfl
        have n3 : w2.cell? ⟨w1.heap.size, 3, none⟩ = some (.int .i64 x3) := by rw [blk_cell HGn.out]; rfl
        have n4 : w2.cell? ⟨w1.heap.size, 4, none⟩ = some (.int .i64 x4) := by rw [blk_cell HGn.out]; rfl
        have n5 : w2.cell? ⟨w1.heap.size, 5, none⟩ = some (.int .i64 x5) := by rw [blk_cell HGn.out]; rfl
        have d0 : w2.cell? ⟨w.heap.size, 0, none⟩ = some (.int .i64 0) := by rw [blk_cell HGg.out]; rfl
        have d1 : w2.cell? ⟨w.heap.size, 1, none⟩ = some (.int .i64 0) := by rw [blk_cell HGg.out]; rfl
        have d2 : w2.cell? ⟨w.heap.size, 2, none⟩ = some (.int .i64 0) := by rw [blk_cell HGg.out]; rfl
        have d3 : w2.cell? ⟨w.heap.size, 3, none⟩ = some (.int .i64 0) := by rw [blk_cell HGg.out]; rfl
        have d4 : w2.cell? ⟨w.heap.size, 4, none⟩ = some (.int .i64 0) := by rw [blk_cell HGg.out]; rfl
        have d5 : w2.cell? ⟨w.heap.size, 5, none⟩ = some (.int .i64 0) := by rw [blk_cell HGg.out]; rfl
        have f0 : ∀ j, w2.frozen? ⟨w.heap.size, j, none⟩ = false := fun j => blk_frozen HGg.out j
        by_cases hok : ok (⟨x0, x1, x2⟩ : Slot) ⟨x3, x4, x5⟩
        · have HD3 : Aside0 (dcd s = ((⟨x0, x1, x2⟩ : Slot), (⟨x3, x4, x5⟩ : Slot), (0 : Int))) := ⟨by rw [HDD.out]; exact if_pos hok⟩
          clear HDD
          simp only [hok, decide_true]
          go_wp2_with fail
          refine bodyPost_ret (v := .tuple #[stV ⟨x0, x1, x2⟩ ⟨x3, x4, x5⟩, .int .i64 0]) (by simp [results, Try.results54, go_sem, d0, d1, d2, d3, d4, d5]) rfl ⟨by rw [HD3.out], ?_⟩
          repeat (first | (with_reducible exact HB2.out) | refine below_set ?_ (by omega))
        · have HD3 : Aside0 (dcd s = (Z, Z, (7 : Int))) := ⟨by rw [HDD.out]; exact if_neg hok⟩
          clear HDD
          simp only [hok, decide_false]
          go_wp2_with fail
          refine bodyPost_ret (v := .tuple #[stV Z Z, .int .i64 7]) (by simp [results, Try.results54, go_sem, d0, d1, d2, d3, d4, d5, Z]) rfl ⟨by rw [HD3.out], ?_⟩
          repeat (first | (with_reducible exact HB2.out) | refine below_set ?_ (by omega))
end Go.Proofs.Ytippclnmijelfaa.Sl
