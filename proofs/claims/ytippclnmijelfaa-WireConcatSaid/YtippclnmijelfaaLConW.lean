/- The walk of the statement that two encodings, one written behind the other, are decoded one behind the other. -/
import Derived.Test.YtippclnmijelfaaSan
namespace Go.Proofs.Ytippclnmijelfaa.LCon
open Go.RowKit Go.Proofs.YtippclnmijelfaaW.PrintWords Go.Proofs.YtippclnmijelfaaW.PrintLast Go.Proofs.YtippclnmijelfaaW.PrintMore
open Go.Proofs.Ytippclnmijelfaa.En Go.Proofs.Ytippclnmijelfaa.Rf Go.Proofs.Ytippclnmijelfaa.Wi Go.Proofs.Ytippclnmijelfaa.Rc Go.Proofs.Ytippclnmijelfaa.Sa
attribute [local go_sem] max2_int min2_int max_two min_two
set_option linter.unusedVariables false
set_option linter.unusedSimpArgs false

theorem bytesOf_B (s : ByteArray) : IsB (bytesOf s) := by
  intro c hc
  obtain ⟨x, _, rfl⟩ := List.mem_map.1 hc
  have := x.toNat_lt
  omega

theorem strOfNums_bytesOf' (s : ByteArray) : strOfNums (bytesOf s) = s := by
  obtain ⟨⟨l⟩⟩ := s
  show (⟨(List.map _ (List.map _ l)).toArray⟩ : ByteArray) = ⟨⟨l⟩⟩
  rw [List.map_map, show ((fun n : Int => UInt8.ofNat n.toNat) ∘ fun x : UInt8 => (x.toNat : Int)) = id from ?_, List.map_id]
  funext x
  show UInt8.ofNat (Int.toNat (x.toNat : Int)) = x
  simp

set_option maxHeartbeats 8000000 in
set_option maxRecDepth 100000 in
theorem walk (s : ByteArray) (A : Option Addr) (c : Nat) (l : List Int) (w : World) (hs : s.size ≤ 140737488351232) (hr : Kd.C (Kd.int .i64) w A l.length l) (hc : l.length ≤ c) (hz : l.length * 8 ≤ 140737488351232) (hI : AllI l) :
    Calls Try.prog 12 #[.string s, .slice A l.length c] w fun e w' => e = .returned (.bool true) ∧ Below w.heap.size w w' := by
  have HR := Aside0.mk hr
  have HI := Aside0.mk hI
  clear hr hI
  by_cases hbig : 2000 < s.size + l.length
  · go_enter Try.func12, Try.ntmps12
    go_wp2_with fail
    refine (sanity_any _).mono ?_
    rintro e w1 ⟨rfl, hb1⟩
    have HB1 := Aside0.mk hb1
    clear hb1
    go_wp2
    go_ret
    exact ⟨rfl, HB1.out⟩
  · have hs' : s.size ≤ 100000 := by omega
    have hl' : l.length ≤ 100000 := by omega
    have hbl := bytesOf_length s
    have HIb : Aside0 (I64 (bytesOf s).length) := ⟨by rw [hbl]; exact I64_nat hs'⟩
    have HEb : Aside0 (IsB (encS (bytesOf s) ++ encL l)) := ⟨(encS_bytes (bytesOf_B s)).append (encL_bytes l)⟩
    have HD1 := Aside0.mk (decS_enc (bytesOf s) (encL l) HIb.out)
    have HD2 : Aside0 (decL (encL l) = (l, ((encL l).length : Int), 0)) := ⟨by have := decL_enc l [] (I64_nat hl') HI.out; rwa [List.append_nil] at this⟩
    have hlen1 : (encS (bytesOf s)).length ≤ 10 + s.size := by
      have := encI_len HIb.out
      unfold encS
      rw [List.length_append, hbl] at *
      omega
    have hlen2 := (encL_len (I64_nat hl') HI.out).2
    have HY6 : Aside0 ((encL l).length ≤ 1000000) := ⟨by omega⟩
    have HS : Aside0 (strOfNums (bytesOf s) = s) := ⟨strOfNums_bytesOf' s⟩
    clear hbl
    go_enter Try.func12, Try.ntmps12
    go_wp2_with fail
    refine (Bytes_any s _ hs').mono ?_
    rintro e w1 ⟨v1, rfl, ho1, hb1⟩
    have HB1 := Aside0.mk hb1
    have HO1 := Aside0.mk ho1
    clear hb1 ho1
    go_wp2_with fail
    refine (Ints_any A c l _ (Kd.C_below HR.out HB1.out) hc hl' HI.out).mono ?_
    rintro e w2 ⟨v2, rfl, ho2, hb2⟩
    obtain ⟨P2, k2, rfl, hk2, hC2⟩ := Kd.R_reads ho2
    have HB2 := Aside0.mk (below_step HB1.out hb2)
    have HO2 := Aside0.mk (Kd.R_below HO1.out hb2)
    have HC2 := Aside0.mk hC2
    clear ho2 hb2 hC2 HB1 HO1
    generalize encS (bytesOf s) = X at *
    generalize encL l = Y at *
    obtain ⟨Z, hZ⟩ : ∃ Z, Z = X ++ Y := ⟨_, rfl⟩
    rw [← hZ] at HEb HD1
    have HZl : Aside0 (Z.length = X.length + Y.length) := ⟨by rw [hZ, List.length_append]⟩
    have HYB : Aside0 (IsB Y) := ⟨fun x hx => HEb.out x (by rw [hZ]; exact List.mem_append_right _ hx)⟩
    have HZd : Aside0 (Z.drop X.length = Y) := ⟨by rw [hZ, List.drop_left]⟩
    have HZ := Aside0.mk hZ
    clear hZ
    go_wp2_with (at_builtin; refine Kd.R_append_rows (Kd.int .u8) (w0 := w) w.heap.size rfl (.tmp 20) (.tmp 22) 26 5 (.int .u8 0) 1 rfl Try.underlying26 info5 rfl (by decide) (by omega) _ X Y P2 _ k2 (fun _ => True) (fun _ => False) rfl rfl HO2.out HC2.out (fun _ _ h => h) (fun _ h => h.elim) (fun _ _ => trivial) HB2.out HB2.out.size (by omega) ?_; intro v3 w3 ho hb hg hat; rw [← HZ.out] at ho; have HO3 := Aside0.mk ho; have HB3 := Aside0.mk hb; clear ho hb hg hat; obtain ⟨P3, k3, rfl, hk3, hC3⟩ := Kd.R_reads HO3.out; have HC3 := Aside0.mk hC3; clear hC3)
    go_wp2_with fail
    refine (GetBytes_any P3 k3 Z (bytesOf s) X.length 0 w3 HEb.out HC3.out hk3 HD1.out).mono ?_
    rintro e w4 ⟨rfl, rfl⟩
    rw [HS.out]
    obtain ⟨i0, hi0, _, hsz0, _⟩ := info_parts info5
    obtain ⟨P4, hcut4, hA4, hC4⟩ := print_drop_of (P := Try.prog) (Value.int .u8) 0 26 5 .i64 Try.underlying26 hi0 hsz0 P3 k3 Z (X.length : Int) (by omega) (by have := HZl.out; omega) hk3
    have HR4 := Aside0.mk (Kd.C_of_reads (h1 := fun _ => rfl) (hA4 _ (Kd.reads_of_C (h1 := fun _ => rfl) HC3.out)))
    rw [Int.toNat_natCast, HZd.out] at hcut4 HR4 hC4
    clear hA4 hi0 hsz0
    have hle : X.length ≤ Z.length := by have := HZl.out; omega
    have hle2 : ¬ Z.length < X.length := by omega
    go_wp2_with fail
    clear hle hle2
    refine (GetInts_any P4 _ Y l _ _ _ HYB.out HR4.out hC4 HY6.out HD2.out).mono ?_
    rintro e w5 ⟨v5, rfl, ho5, hb5⟩
    have HB5 := Aside0.mk (below_step HB3.out hb5)
    obtain ⟨P5, k5, rfl, hk5, hC5⟩ := Kd.R_reads ho5
    have HC5 := Aside0.mk hC5
    clear ho5 hb5 hC5 HB3 hcut4 HR4 hC4 HC3
    go_wp2_with fail
    refine (sanity_any _).mono ?_
    rintro e w6 ⟨rfl, hb6⟩
    have HB6 := Aside0.mk (below_step HB5.out hb6)
    have HC6 := Aside0.mk (Kd.C_below HC5.out hb6)
    clear hb6 HB5 HC5
    go_wp2_with fail
    refine (SameInts_is P5 A k5 c l l true _ (by simp) HC6.out hk5 (Kd.C_below HR.out HB6.out) hc (by omega)).mono ?_
    rintro e w7 ⟨rfl, hb7⟩
    have HB7 := Aside0.mk (below_step HB6.out hb7)
    clear hb7 HB6 HC6
    go_wp2
    go_ret
    refine ⟨?_, HB7.out⟩
    have hzl := HZl.out
    have : (((X.length : Int) + (Y.length : Int)) == (Z.length : Int)) = true := beq_iff_eq.2 (by omega)
    first | (simp [this]; done) | (simp [hzl]; done) | skip
end Go.Proofs.Ytippclnmijelfaa.LCon
