/- The walk of the statement that what was encoded is decoded, whatever follows it. -/
import Derived.Test.YtippclnmijelfaaLIrtW
namespace Go.Proofs.Ytippclnmijelfaa.LLrt
open Go.RowKit Go.Proofs.YtippclnmijelfaaW.PrintWords Go.Proofs.YtippclnmijelfaaW.PrintLast Go.Proofs.YtippclnmijelfaaW.PrintMore
open Go.Proofs.Ytippclnmijelfaa.En Go.Proofs.Ytippclnmijelfaa.Rf Go.Proofs.Ytippclnmijelfaa.Wi Go.Proofs.Ytippclnmijelfaa.Rc Go.Proofs.Ytippclnmijelfaa.Sa
open Go.Proofs.Ytippclnmijelfaa.LIrt (cut_tight)
attribute [local go_sem] max2_int min2_int max_two min_two
set_option linter.unusedVariables false
set_option linter.unusedSimpArgs false

theorem bytesOf_B (s : ByteArray) : IsB (bytesOf s) := by
  intro c hc
  obtain ⟨x, _, rfl⟩ := List.mem_map.1 hc
  have := x.toNat_lt
  omega
theorem strOfNums_bytesOf' (s : ByteArray) : strOfNums (bytesOf s) = s := by
  obtain ⟨⟨l⟩⟩ := s
  show (⟨(List.map _ (List.map _ l)).toArray⟩ : ByteArray) = ⟨⟨l⟩⟩
  rw [List.map_map, show ((fun n : Int => UInt8.ofNat n.toNat) ∘ fun x : UInt8 => (x.toNat : Int)) = id from ?_, List.map_id]
  funext x
  show UInt8.ofNat (Int.toNat (x.toNat : Int)) = x
  simp

set_option maxHeartbeats 16000000 in
set_option maxRecDepth 100000 in
theorem walk (s : ByteArray) (A1 : Option Addr) (c1 : Nat) (l : List Int) (A2 : Option Addr) (c2 : Nat) (d : List (List Int)) (A3 : Option Addr) (c3 : Nat) (b : List Int) (w : World)
    (hs : s.size ≤ 140737488351232)
    (hr1 : Kd.C (Kd.int .i64) w A1 l.length l) (hc1 : l.length ≤ c1) (hz1 : l.length * 8 ≤ 140737488351232) (hI : AllI l)
    (hr2 : D.C w A2 d.length d) (hc2 : d.length ≤ c2) (hz2 : d.length * 16 ≤ 140737488351232) (hD : Dig d)
    (hr3 : Kd.C (Kd.int .u8) w A3 b.length b) (hc3 : b.length ≤ c3) (hz3 : b.length * 1 ≤ 140737488351232) (hb : IsB b) :
    Calls Try.prog 9 #[.string s, .slice A1 l.length c1, .slice A2 d.length c2, .slice A3 b.length c3] w fun e w' => e = .returned (.bool true) ∧ Below w.heap.size w w' := by
  have HR1 := Aside0.mk hr1
  have HR2 := Aside0.mk hr2
  have HR3 := Aside0.mk hr3
  have HI := Aside0.mk hI
  have HD := Aside0.mk hD
  have HBt := Aside0.mk hb
  clear hr1 hr2 hr3 hI hD hb
  by_cases hbig : 2000 < s.size + l.length + d.length + b.length
  · go_enter Try.func9, Try.ntmps9
    go_wp2_with fail
    refine (sanity_any _).mono ?_
    rintro e w1 ⟨rfl, hb1⟩
    have HB1 := Aside0.mk hb1
    clear hb1
    go_wp2
    go_ret
    exact ⟨rfl, HB1.out⟩
  · have hs' : s.size ≤ 100000 := by omega
    have hl' : l.length ≤ 100000 := by omega
    have hd' : d.length ≤ 100000 := by omega
    have hbl := bytesOf_length s
    have HIb : Aside0 (I64 (bytesOf s).length) := ⟨by rw [hbl]; exact I64_nat hs'⟩
    have HS : Aside0 (strOfNums (bytesOf s) = s) := ⟨strOfNums_bytesOf' s⟩
    have H1 := Aside0.mk (decS_enc (bytesOf s) b HIb.out)
    have H2 := Aside0.mk (decL_enc l b (I64_nat hl') HI.out)
    have H3 := Aside0.mk (decD_enc d b (I64_nat hd') HD.out)
    have HY1 := Aside0.mk ((encS_bytes (bytesOf_B s)).append HBt.out)
    have HY2 := Aside0.mk ((encL_bytes l).append HBt.out)
    have HY3 := Aside0.mk ((encD_bytes HD.out).append HBt.out)
    have hp1 : 0 < (encS (bytesOf s)).length ∧ (encS (bytesOf s)).length ≤ 2010 := by
      have := encI_len HIb.out
      have := encI_pos ((bytesOf s).length : Int)
      unfold encS
      rw [List.length_append]
      omega
    have hp2 : 0 < (encL l).length ∧ (encL l).length ≤ 20010 := by
      have := (encL_len (I64_nat hl') HI.out).2
      have := encI_pos (l.length : Int)
      refine ⟨?_, by omega⟩
      unfold encL
      rw [List.length_append]
      omega
    have hp3 : 0 < (encD d).length ∧ (encD d).length ≤ 32010 := by
      have := encI_len (I64_nat hd')
      have := encI_pos (d.length : Int)
      have := flat_len HD.out
      unfold encD
      rw [List.length_append]
      omega
    clear hbl
    go_enter Try.func9, Try.ntmps9
    go_wp2_with fail
    refine (Bytes_any s _ hs').mono ?_
    rintro e w1 ⟨v1, rfl, ho1, hb1⟩
    have HB1 := Aside0.mk hb1
    obtain ⟨P1, k1, rfl, hk1, hC1⟩ := Kd.R_reads ho1
    have HC1 := Aside0.mk hC1
    clear hb1 ho1 hC1
    go_wp2_with fail
    refine (Ints_any A1 c1 l _ (Kd.C_below HR1.out HB1.out) hc1 hl' HI.out).mono ?_
    rintro e w2 ⟨v2, rfl, ho2, hb2⟩
    obtain ⟨P2, k2, rfl, hk2, hC2⟩ := Kd.R_reads ho2
    have HB2 := Aside0.mk (below_step HB1.out hb2)
    have HC12 := Aside0.mk (Kd.C_below HC1.out hb2)
    have HC2 := Aside0.mk hC2
    clear ho2 hb2 hC2 HB1 HC1
    go_wp2_with fail
    refine (Digests_any A2 c2 d _ (Kd.C_below HR2.out HB2.out) hc2 hd' HD.out).mono ?_
    rintro e w3 ⟨v3, rfl, ho3, hb3⟩
    obtain ⟨P3, k3, rfl, hk3, hC3⟩ := Kd.R_reads ho3
    have HB3 := Aside0.mk (below_step HB2.out hb3)
    have HC13 := Aside0.mk (Kd.C_below HC12.out hb3)
    have HC23 := Aside0.mk (Kd.C_below HC2.out hb3)
    have HC3 := Aside0.mk hC3
    clear ho3 hb3 hC3 HB2 HC12 HC2
    generalize encS (bytesOf s) = X at *
    generalize encL l = Y at *
    generalize encD d = Z at *
    have hcut1 := cut_tight P1 X.length k1 hk1
    have hcut2 := cut_tight P2 Y.length k2 hk2
    have hcut3 := cut_tight P3 Z.length k3 hk3
    obtain ⟨X', hX'⟩ : ∃ X', X' = X ++ b := ⟨_, rfl⟩
    obtain ⟨Y', hY'⟩ : ∃ Y', Y' = Y ++ b := ⟨_, rfl⟩
    obtain ⟨Z', hZ'⟩ : ∃ Z', Z' = Z ++ b := ⟨_, rfl⟩
    rw [← hX'] at H1 HY1
    rw [← hY'] at H2 HY2
    rw [← hZ'] at H3 HY3
    have hx6 : X'.length ≤ 1000000 := by rw [hX', List.length_append]; omega
    have hy6 : Y'.length ≤ 1000000 := by rw [hY', List.length_append]; omega
    have hz6 : Z'.length ≤ 1000000 := by rw [hZ', List.length_append]; omega
    have HX6 := Aside0.mk hx6
    have HY6 := Aside0.mk hy6
    have HZ6 := Aside0.mk hz6
    have HX' := Aside0.mk hX'
    have HY' := Aside0.mk hY'
    have HZ' := Aside0.mk hZ'
    clear hX' hY' hZ' hx6 hy6 hz6
    go_wp2_with (at_builtin; refine wpList_append_tight rfl (.tmp 46) (.tmp 47) rfl P1 A3 c3 X b X' HX'.out rfl rfl hp1.1 HC13.out (Kd.C_below HR3.out HB3.out) (by omega) ?_; intro P4 k4 w4 hk4 hC4 hb4; have HC4 := Aside0.mk hC4; have HB4 := Aside0.mk (below_step HB3.out hb4); have HC24 := Aside0.mk (Kd.C_below HC23.out hb4); have HC34 := Aside0.mk (Kd.C_below HC3.out hb4); clear hC4 hb4 HC23 HC3 HC13 HB3)
    refine (GetBytes_any P4 k4 X' (bytesOf s) X.length 0 w4 HY1.out HC4.out hk4 H1.out).mono ?_
    rintro e w5 ⟨rfl, rfl⟩
    rw [HS.out]
    go_wp2_with (at_builtin; refine wpList_append_tight rfl (.tmp 59) (.tmp 60) rfl P2 A3 c3 Y b Y' HY'.out rfl rfl hp2.1 HC24.out (Kd.C_below HR3.out HB4.out) (by omega) ?_; intro P6 k6 w6 hk6 hC6 hb6; have HC6 := Aside0.mk hC6; have HB6 := Aside0.mk (below_step HB4.out hb6); have HC36 := Aside0.mk (Kd.C_below HC34.out hb6); clear hC6 hb6 HC34 HC24 HC4 HB4)
    refine (GetInts_any P6 k6 Y' l Y.length 0 w6 HY2.out HC6.out hk6 HY6.out H2.out).mono ?_
    rintro e w7 ⟨v7, rfl, ho7, hb7⟩
    obtain ⟨P7, k7, rfl, hk7, hC7⟩ := Kd.R_reads ho7
    have HB7 := Aside0.mk (below_step HB6.out hb7)
    have HC37 := Aside0.mk (Kd.C_below HC36.out hb7)
    have HC7 := Aside0.mk hC7
    clear ho7 hb7 hC7 HB6 HC36 HC6
    go_wp2_with (at_builtin; refine wpList_append_tight rfl (.tmp 72) (.tmp 73) rfl P3 A3 c3 Z b Z' HZ'.out rfl rfl hp3.1 HC37.out (Kd.C_below HR3.out HB7.out) (by omega) ?_; intro P8 k8 w8 hk8 hC8 hb8; have HC8 := Aside0.mk hC8; have HB8 := Aside0.mk (below_step HB7.out hb8); have HC78 := Aside0.mk (Kd.C_below HC7.out hb8); clear hC8 hb8 HC37 HC7 HB7)
    refine (GetDigests_any P8 k8 Z' d Z.length 0 w8 HY3.out HC8.out hk8 HZ6.out H3.out).mono ?_
    rintro e w9 ⟨v9, rfl, ho9, hb9⟩
    obtain ⟨P9, k9, rfl, hk9, hC9⟩ := Kd.R_reads ho9
    have HB9 := Aside0.mk (below_step HB8.out hb9)
    have HC79 := Aside0.mk (Kd.C_below HC78.out hb9)
    have HC9 := Aside0.mk hC9
    clear ho9 hb9 hC9 HB8 HC78 HC8
    go_wp2_with fail
    refine (sanity_any _).mono ?_
    rintro e w10 ⟨rfl, hb10⟩
    have HB10 := Aside0.mk (below_step HB9.out hb10)
    have HC710 := Aside0.mk (Kd.C_below HC79.out hb10)
    have HC910 := Aside0.mk (Kd.C_below HC9.out hb10)
    clear hb10 HB9 HC79 HC9
    go_wp2_with fail
    refine (SameInts_is P7 A1 k7 c1 l l true _ (by simp) HC710.out hk7 (Kd.C_below HR1.out HB10.out) hc1 (by omega)).mono ?_
    rintro e w11 ⟨rfl, hb11⟩
    have HB11 := Aside0.mk (below_step HB10.out hb11)
    have HC911 := Aside0.mk (Kd.C_below HC910.out hb11)
    clear hb11 HB10 HC910 HC710
    go_wp2_with fail
    refine (SameDigests_is P9 A2 k9 c2 d d true _ (by simp) HC911.out hk9 (Kd.C_below HR2.out HB11.out) hc2 (by omega)).mono ?_
    rintro e w12 ⟨rfl, hb12⟩
    have HB12 := Aside0.mk (below_step HB11.out hb12)
    clear hb12 HB11 HC911
    go_wp2
    go_ret
    exact ⟨rfl, HB12.out⟩
end Go.Proofs.Ytippclnmijelfaa.LLrt
