/- The examples of layer 1 hold: the sanity function answers true. -/
import Derived.Test.YtippclnmijelfaaRefF
namespace Go.Proofs.Ytippclnmijelfaa.Sa
open Go.RowKit Go.Proofs.YtippclnmijelfaaW.PrintWords Go.Proofs.YtippclnmijelfaaW.PrintLast Go.Proofs.YtippclnmijelfaaW.PrintMore
open Go.Proofs.Ytippclnmijelfaa.En Go.Proofs.Ytippclnmijelfaa.Rf Go.Proofs.Ytippclnmijelfaa.Wi Go.Proofs.Ytippclnmijelfaa.Rc
attribute [local go_sem] max2_int min2_int max_two min_two
set_option linter.unusedVariables false
set_option linter.unusedSimpArgs false

theorem Same_is (A B : Option Addr) (ca cb : Nat) (a b : List Int) (r : Bool) (w : World) (hr : decide (a = b) = r) (ha : Kd.C (Kd.int .u8) w A a.length a) (hca : a.length ≤ ca) (hb : Kd.C (Kd.int .u8) w B b.length b) (hcb : b.length ≤ cb) (hl : a.length ≤ 1000000) :
    Calls Try.prog 19 #[.slice A a.length ca, .slice B b.length cb] w fun e w' => e = .returned (.bool r) ∧ Below w.heap.size w w' := by
  subst hr
  exact Same_any A B ca cb a b w ha hca hb hcb (by omega)
theorem SameInts_is (A B : Option Addr) (ca cb : Nat) (a b : List Int) (r : Bool) (w : World) (hr : decide (a = b) = r) (ha : Kd.C (Kd.int .i64) w A a.length a) (hca : a.length ≤ ca) (hb : Kd.C (Kd.int .i64) w B b.length b) (hcb : b.length ≤ cb) (hl : a.length ≤ 1000000) :
    Calls Try.prog 34 #[.slice A a.length ca, .slice B b.length cb] w fun e w' => e = .returned (.bool r) ∧ Below w.heap.size w w' := by
  subst hr
  exact SameInts_any A B ca cb a b w ha hca hb hcb (by omega)
theorem SameDigests_is (A B : Option Addr) (ca cb : Nat) (a b : List (List Int)) (r : Bool) (w : World) (hr : decide (a = b) = r) (ha : D.C w A a.length a) (hca : a.length ≤ ca) (hb : D.C w B b.length b) (hcb : b.length ≤ cb) (hl : a.length ≤ 1000000) :
    Calls Try.prog 37 #[.slice A a.length ca, .slice B b.length cb] w fun e w' => e = .returned (.bool r) ∧ Below w.heap.size w w' := by
  subst hr
  exact SameDigests_any A B ca cb a b w ha hca hb hcb hl
/-- A new block of ints, read as a slice. -/
theorem C_blocki (W : World) (x : List Int) (t : TypeId) (n : Nat) (hx : x.length = n) (hn : n ≤ 1000) : Kd.C (Kd.int .i64) (W.alloc (.cells (encs (Value.int .i64) x).toArray t)) (some ⟨W.heap.size, 0, none⟩) n x := by
  refine Kd.C_of_reads (d := (0 : Int)) ⟨hx, by omega, fun _ => ⟨_, rfl, fun j hj => ?_⟩⟩
  rw [add_plain, cell_of_row _ _ j _ t (0, 0) (heap_alloc_new W _)]
  rw [List.getElem?_toArray]
  exact encs_get x j (by omega)
/-- A new block that is one digest, read as a slice. -/
theorem C_blockD (W : World) (g : Nat) (hg : W.heap.size = g) (x : List Int) (t : TypeId) (hx : x.length = 16) : D.C (W.alloc (.cells (encs (Value.int .u8) x).toArray t)) (some ⟨g, 0, none⟩) 1 [x] := by
  subst hg
  refine ⟨rfl, by omega, fun _ => ⟨_, rfl, fun j p hj => ?_⟩⟩
  have hj0 : j = 0 := by
    have := (List.getElem?_eq_some_iff.1 hj).1
    simp at this
    exact this
  subst hj0
  have hp : x = p := by simpa using hj
  subst hp
  refine ⟨encs (Value.int .u8) x, by rw [encs_length, hx]; rfl, D.K_of_M (base := 0) (ok := fun _ => True) (Kd.arr_of_cells hx), fun i u hu => ?_⟩
  rw [Nat.zero_mul, Nat.zero_add, add_plain, cell_of_row _ _ i _ t (0, 0) (heap_alloc_new W _), List.getElem?_toArray]
  exact hu
theorem enc_m64 : encI (-64) = [127] := by
  unfold encI
  rw [show zig (-64) = 127 from by decide, encU_small (by omega)]
  rfl
theorem enc_2 : encI 2 = [4] := by
  unfold encI
  rw [show zig 2 = 4 from by decide, encU_small (by omega)]
  rfl
theorem enc_1 : encI 1 = [2] := by
  unfold encI
  rw [show zig 1 = 2 from by decide, encU_small (by omega)]
  rfl
theorem enc_m1 : encI (-1) = [1] := by
  unfold encI
  rw [show zig (-1) = 1 from by decide, encU_small (by omega)]
  rfl
theorem encS_ab : encS (bytesOf ⟨#[97, 98]⟩) = [4, 97, 98] := by
  have h : bytesOf ⟨#[97, 98]⟩ = [97, 98] := rfl
  rw [h]
  unfold encS
  rw [show (([97, 98] : List Int).length : Int) = 2 from rfl, enc_2]
  rfl
theorem encL_1m1 : encL [1, -1] = [4, 2, 1] := by
  unfold encL encLs
  rw [show (([1, -1] : List Int).length : Int) = 2 from rfl, enc_2]
  simp only [List.flatMap_cons, List.flatMap_nil, enc_1, enc_m1]
  rfl
def d0 : List Int := [1, 2, 0, 0, 0, 0, 0, 0, 0, 0, 0, 0, 0, 0, 0, 0]
def cs0 : List Value := encs (Value.int .u8) d0
theorem cs0_len : cs0.length = 16 := rfl
theorem cs0_one : cs0.toArray.all (·.oneCell') = true := all_oneCell_toArray (fun v hv => by
  obtain ⟨y, _, rfl⟩ := List.mem_map.1 hv
  rfl)
theorem cs0_size : (Try.prog.info? 74).map (·.size) = some cs0.toArray.size := size74
theorem dig0 : Dig [d0] := by
  intro x hx
  have : x = d0 := by simpa using hx
  subst this
  refine ⟨rfl, fun c hc => ?_⟩
  simp only [d0, List.mem_cons, List.mem_nil_iff, or_false] at hc
  omega
theorem encD_d0 : encD [d0] = 2 :: d0 := by
  unfold encD
  rw [show (([d0] : List (List Int)).length : Int) = 1 from rfl, enc_1]
  rfl
theorem decD_d0 : decD (encD [d0]) = ([d0], 17, 0) := by
  have h := decD_enc [d0] [] (by unfold I64; simp) dig0
  rw [List.append_nil] at h
  rw [h, encD_d0]
  rfl

theorem isB_of {l : List Int} (h : (l.all fun c => decide (0 ≤ c ∧ c ≤ 255)) = true) : IsB l := fun c hc => by
  have := List.all_eq_true.1 h c hc
  simpa using this

set_option maxHeartbeats 8000000 in
set_option maxRecDepth 100000 in
theorem sanity_any (w : World) : Calls Try.prog 18 #[] w fun e w' => e = .returned (.bool true) ∧ Below w.heap.size w w' := by
  go_enter Try.func18, Try.ntmps18
  go_wp2_with fail
  refine (GetInt_any _ _ [128, 1, 9] 64 2 0 _ (isB_of (by decide)) (C_block w [128, 1, 9] 5 3 rfl (by omega)) (by decide) (by decide)).mono ?_
  rintro e w1 ⟨rfl, hw⟩
  have HB1 : Aside0 (Below w.heap.size w w1) := ⟨by rw [← hw]; exact below_alloc (Below.refl _ _) _⟩
  clear hw
  go_wp2_with fail
  refine (GetInt_any _ _ [128] 0 0 6 _ (isB_of (by decide)) (C_block w1 [128] 5 1 rfl (by omega)) (by decide) (by decide)).mono ?_
  rintro e w2 ⟨rfl, hw⟩
  have HB2 : Aside0 (Below w.heap.size w w2) := ⟨by rw [← hw]; exact below_alloc HB1.out _⟩
  clear hw HB1
  go_wp2_with fail
  refine (GetInt_any _ _ [128, 0] 0 0 7 _ (isB_of (by decide)) (C_block w2 [128, 0] 5 2 rfl (by omega)) (by decide) (by decide)).mono ?_
  rintro e w3 ⟨rfl, hw⟩
  have HB3 : Aside0 (Below w.heap.size w w3) := ⟨by rw [← hw]; exact below_alloc HB2.out _⟩
  clear hw HB2
  go_wp2_with fail
  refine (GetBytes_any _ _ [4, 97, 98, 7] [97, 98] 3 0 _ (isB_of (by decide)) (C_block w3 [4, 97, 98, 7] 5 4 rfl (by omega)) (by decide) (by decide)).mono ?_
  rintro e w4 ⟨rfl, hw⟩
  have HB4 : Aside0 (Below w.heap.size w w4) := ⟨by rw [← hw]; exact below_alloc HB3.out _⟩
  clear hw HB3
  have hs4 : strOfNums [97, 98] = (⟨#[97, 98]⟩ : ByteArray) := rfl
  rw [hs4]
  go_wp2_with fail
  refine (GetInts_any _ _ [4, 2, 1] [1, -1] 3 0 _ (isB_of (by decide)) (C_block w4 [4, 2, 1] 5 3 rfl (by omega)) (by decide) (by decide) (by decide)).mono ?_
  rintro e w5 ⟨v5, rfl, ho5, hb5⟩
  obtain ⟨A5, c5, rfl, hl5, hC5⟩ := Kd.R_reads ho5
  have HC5 := Aside0.mk hC5
  have HB5 : Aside0 (Below w.heap.size w w5) := ⟨below_step (below_alloc HB4.out _) hb5⟩
  clear ho5 hC5 hb5 HB4
  have hfold := fold16 cs0 cs0_len
  have hcl := cs0_len
  go_wp2_with (first | (refine wpList_store_new (w := w5) rfl 74 (.tmp 16) (.tmp 50) rfl _ cs0.toArray rfl rfl cs0_size rfl cs0_one ?_) | (refine wpList_load_row rfl 74 (.tmp 16) rfl w5.heap.size rfl 74 cs0.toArray (0, 0) _ (blk_new w5 _) Try.underlying74 rfl cs0_size ?_))
  refine (Digests_any _ _ [d0] _ (C_blockD _ _ (by simp) d0 74 rfl) (by decide) (by decide) dig0).mono ?_
  rintro e w6 ⟨v6, rfl, ho6, hb6⟩
  have HC5' := Aside0.mk (Kd.C_below (Kd.C_alloc (Kd.C_alloc HC5.out _) _) hb6)
  have HB6 : Aside0 (Below w.heap.size w w6) := ⟨below_step (below_alloc (below_alloc HB5.out _) _) hb6⟩
  have HG6 : Aside0 (w6.heap[w5.heap.size]? = some (.cells cs0.toArray 74 (0, 0))) := ⟨blk_below (blk_alloc (blk_new w5 _) _) hb6⟩
  obtain ⟨L6, hL6⟩ : ∃ L, L = encD [d0] := ⟨_, rfl⟩
  rw [← hL6] at ho6
  obtain ⟨A6, c6, rfl, hl6, hC6⟩ := Kd.R_reads ho6
  have HC6 := Aside0.mk hC6
  have HL6 := Aside0.mk hL6
  clear ho6 hC6 hb6 HC5 HB5 hL6
  generalize w5.heap.size = g5 at *
  go_wp2_with fail
  refine (GetDigests_any A6 c6 L6 [d0] 17 0 w6 (by rw [HL6.out]; exact encD_bytes dig0) HC6.out hl6 (by rw [HL6.out, encD_d0]; decide) (by rw [HL6.out]; exact decD_d0)).mono ?_
  rintro e w7 ⟨v7, rfl, ho7, hb7⟩
  have HC57 := Aside0.mk (Kd.C_below HC5'.out hb7)
  have HB7 : Aside0 (Below w.heap.size w w7) := ⟨below_step HB6.out hb7⟩
  have HG7 : Aside0 (w7.heap[g5]? = some (.cells cs0.toArray 74 (0, 0))) := ⟨blk_below HG6.out hb7⟩
  obtain ⟨A7, c7, rfl, hl7, hC7⟩ := Kd.R_reads ho7
  have HC7 := Aside0.mk hC7
  clear ho7 hC7 hb7 HC5' HB6 HG6 HC6
  go_wp2_with fail
  refine (Int_any (-64) _ (by unfold I64; omega)).mono ?_
  rintro e w8 ⟨v8, rfl, ho8, hb8⟩
  have HC58 := Aside0.mk (Kd.C_below HC57.out hb8)
  have HC78 := Aside0.mk (Kd.C_below HC7.out hb8)
  have HB8 : Aside0 (Below w.heap.size w w8) := ⟨below_step HB7.out hb8⟩
  have HG8 : Aside0 (w8.heap[g5]? = some (.cells cs0.toArray 74 (0, 0))) := ⟨blk_below HG7.out hb8⟩
  rw [enc_m64] at ho8
  obtain ⟨A8, c8, rfl, hl8, hC8⟩ := Kd.R_reads ho8
  have HC8 := Aside0.mk hC8
  clear ho8 hC8 hb8 HC57 HC7 HB7 HG7
  go_wp2_with fail
  refine (Same_is A8 _ c8 1 [127] [127] true _ (by decide) (Kd.C_alloc HC8.out _) hl8 (C_block w8 [127] 5 1 rfl (by omega)) (by decide) (by decide)).mono ?_
  rintro e w9 ⟨rfl, hb9⟩
  have HC59 := Aside0.mk (Kd.C_below (Kd.C_alloc HC58.out _) hb9)
  have HC79 := Aside0.mk (Kd.C_below (Kd.C_alloc HC78.out _) hb9)
  have HB9 : Aside0 (Below w.heap.size w w9) := ⟨below_step (below_alloc HB8.out _) hb9⟩
  have HG9 : Aside0 (w9.heap[g5]? = some (.cells cs0.toArray 74 (0, 0))) := ⟨blk_below (blk_alloc HG8.out _) hb9⟩
  clear hb9 HC58 HC78 HB8 HG8 HC8
  go_wp2_with fail
  refine (SameInts_is A5 _ c5 2 [1, -1] [1, -1] true _ (by decide) (Kd.C_alloc HC59.out _) hl5 (C_blocki w9 [1, -1] 3 2 rfl (by omega)) (by decide) (by decide)).mono ?_
  rintro e w10 ⟨rfl, hb10⟩
  have HC710 := Aside0.mk (Kd.C_below (Kd.C_alloc HC79.out _) hb10)
  have HB10 : Aside0 (Below w.heap.size w w10) := ⟨below_step (below_alloc HB9.out _) hb10⟩
  have HG10 : Aside0 (w10.heap[g5]? = some (.cells cs0.toArray 74 (0, 0))) := ⟨blk_below (blk_alloc HG9.out _) hb10⟩
  clear hb10 HC59 HC79 HB9 HG9
  go_wp2_with fail
  refine (Bytes_any ⟨#[97, 98]⟩ _ (by decide)).mono ?_
  rintro e w11 ⟨v11, rfl, ho11, hb11⟩
  have HC711 := Aside0.mk (Kd.C_below HC710.out hb11)
  have HB11 : Aside0 (Below w.heap.size w w11) := ⟨below_step HB10.out hb11⟩
  have HG11 : Aside0 (w11.heap[g5]? = some (.cells cs0.toArray 74 (0, 0))) := ⟨blk_below HG10.out hb11⟩
  rw [encS_ab] at ho11
  obtain ⟨A11, c11, rfl, hl11, hC11⟩ := Kd.R_reads ho11
  have HC11 := Aside0.mk hC11
  clear hb11 HC710 HB10 HG10 ho11 hC11
  go_wp2_with fail
  refine (Same_is A11 _ c11 3 [4, 97, 98] [4, 97, 98] true _ (by decide) (Kd.C_alloc HC11.out _) hl11 (C_block w11 [4, 97, 98] 5 3 rfl (by omega)) (by decide) (by decide)).mono ?_
  rintro e w12 ⟨rfl, hb12⟩
  have HC712 := Aside0.mk (Kd.C_below (Kd.C_alloc HC711.out _) hb12)
  have HB12 : Aside0 (Below w.heap.size w w12) := ⟨below_step (below_alloc HB11.out _) hb12⟩
  have HG12 : Aside0 (w12.heap[g5]? = some (.cells cs0.toArray 74 (0, 0))) := ⟨blk_below (blk_alloc HG11.out _) hb12⟩
  clear hb12 HC711 HB11 HG11 HC11
  go_wp2_with fail
  refine (Ints_any _ 2 [1, -1] _ (C_blocki w12 [1, -1] 3 2 rfl (by omega)) (by decide) (by decide) (by intro x hx; simp at hx; unfold I64; omega)).mono ?_
  rintro e w13 ⟨v13, rfl, ho13, hb13⟩
  have HC713 := Aside0.mk (Kd.C_below (Kd.C_alloc HC712.out _) hb13)
  have HB13 : Aside0 (Below w.heap.size w w13) := ⟨below_step (below_alloc HB12.out _) hb13⟩
  have HG13 : Aside0 (w13.heap[g5]? = some (.cells cs0.toArray 74 (0, 0))) := ⟨blk_below (blk_alloc HG12.out _) hb13⟩
  rw [encL_1m1] at ho13
  obtain ⟨A13, c13, rfl, hl13, hC13⟩ := Kd.R_reads ho13
  have HC13 := Aside0.mk hC13
  clear hb13 HC712 HB12 HG12 ho13 hC13
  go_wp2_with fail
  refine (Same_is A13 _ c13 3 [4, 2, 1] [4, 2, 1] true _ (by decide) (Kd.C_alloc HC13.out _) hl13 (C_block w13 [4, 2, 1] 5 3 rfl (by omega)) (by decide) (by decide)).mono ?_
  rintro e w14 ⟨rfl, hb14⟩
  have HC714 := Aside0.mk (Kd.C_below (Kd.C_alloc HC713.out _) hb14)
  have HB14 : Aside0 (Below w.heap.size w w14) := ⟨below_step (below_alloc HB13.out _) hb14⟩
  have HG14 : Aside0 (w14.heap[g5]? = some (.cells cs0.toArray 74 (0, 0))) := ⟨blk_below (blk_alloc HG13.out _) hb14⟩
  clear hb14 HC713 HB13 HG13 HC13
  go_wp2_with (refine gate_guard rfl ?_; refine wpList_load_row rfl 74 (.tmp 16) rfl g5 rfl 74 cs0.toArray (0, 0) _ HG14.out Try.underlying74 rfl cs0_size ?_)
  refine (SameDigests_is A7 _ c7 1 [d0] [d0] true _ (by decide) (Kd.C_alloc HC714.out _) hl7 (C_blockD w14 _ rfl d0 74 rfl) (by decide) (by decide)).mono ?_
  rintro e w15 ⟨rfl, hb15⟩
  have HB15 : Aside0 (Below w.heap.size w w15) := ⟨below_step (below_alloc HB14.out _) hb15⟩
  clear hb15 HC714 HB14 HG14
  go_wp2
  go_ret
  exact ⟨rfl, HB15.out⟩
end Go.Proofs.Ytippclnmijelfaa.Sa
