/- The walk of the statement that the encodings are those of the specification. -/
import Derived.Test.YtippclnmijelfaaSan
namespace Go.Proofs.Ytippclnmijelfaa.LEnc
open Go.RowKit Go.Proofs.YtippclnmijelfaaW.PrintWords Go.Proofs.YtippclnmijelfaaW.PrintLast Go.Proofs.YtippclnmijelfaaW.PrintMore
open Go.Proofs.Ytippclnmijelfaa.En Go.Proofs.Ytippclnmijelfaa.Rf Go.Proofs.Ytippclnmijelfaa.Wi Go.Proofs.Ytippclnmijelfaa.Rc Go.Proofs.Ytippclnmijelfaa.Sa
attribute [local go_sem] max2_int min2_int max_two min_two
set_option linter.unusedVariables false
set_option linter.unusedSimpArgs false

set_option maxHeartbeats 8000000 in
set_option maxRecDepth 100000 in
theorem walk (n : Int) (s : ByteArray) (A2 : Option Addr) (c2 : Nat) (l : List Int) (A3 : Option Addr) (c3 : Nat) (d : List (List Int)) (w : World)
    (hn : I64 n) (hs : s.size ≤ 140737488351232)
    (hr2 : Kd.C (Kd.int .i64) w A2 l.length l) (hc2 : l.length ≤ c2) (hl2 : l.length * 8 ≤ 140737488351232) (hI : AllI l)
    (hr3 : D.C w A3 d.length d) (hc3 : d.length ≤ c3) (hl3 : d.length * 16 ≤ 140737488351232) (hD : Dig d) :
    Calls Try.prog 3 #[.int .i64 n, .string s, .slice A2 l.length c2, .slice A3 d.length c3] w fun e w' => e = .returned (.bool true) ∧ Below w.heap.size w w' := by
  have HR2 := Aside0.mk hr2
  have HR3 := Aside0.mk hr3
  have HI := Aside0.mk hI
  have HD := Aside0.mk hD
  have HN := Aside0.mk hn
  clear hr2 hr3 hI hD hn
  by_cases hbig : 2000 < s.size + l.length + d.length
  · go_enter Try.func3, Try.ntmps3
    go_wp2_with fail
    refine (sanity_any _).mono ?_
    rintro e w1 ⟨rfl, hb1⟩
    have HB1 := Aside0.mk hb1
    clear hb1
    go_wp2
    go_ret
    exact ⟨rfl, HB1.out⟩
  · have hs' : s.size ≤ 100000 := by omega
    have hl2' : l.length ≤ 100000 := by omega
    have hl3' : d.length ≤ 100000 := by omega
    go_enter Try.func3, Try.ntmps3
    go_wp2_with fail
    refine (sanity_any _).mono ?_
    rintro e w1 ⟨rfl, hb1⟩
    have HB1 := Aside0.mk hb1
    clear hb1
    go_wp2_with fail
    refine (Int_any n _ HN.out).mono ?_
    rintro e w2 ⟨v2, rfl, ho2, hb2⟩
    have HB2 := Aside0.mk (below_step HB1.out hb2)
    obtain ⟨P2, k2, rfl, hk2, hC2⟩ := Kd.R_reads ho2
    have HC2 := Aside0.mk hC2
    clear ho2 hb2 hC2 HB1
    go_wp2_with fail
    refine (rInt_any n _ HN.out).mono ?_
    rintro e w3 ⟨v3, rfl, ho3, hb3⟩
    have HB3 := Aside0.mk (below_step HB2.out hb3)
    have HC23 := Aside0.mk (Kd.C_below HC2.out hb3)
    obtain ⟨P3, k3, rfl, hk3, hC3⟩ := Kd.R_reads ho3
    have HC3 := Aside0.mk hC3
    clear ho3 hb3 hC3 HB2 HC2
    have hel := encI_len HN.out
    go_wp2_with fail
    refine (Same_is P2 P3 k2 k3 (encI n) (encI n) true _ (by simp) HC23.out hk2 HC3.out hk3 (by omega)).mono ?_
    rintro e w4 ⟨rfl, hb4⟩
    have HB4 := Aside0.mk (below_step HB3.out hb4)
    clear hb4 HB3 HC23 HC3 hel
    go_wp2_with fail
    refine (Bytes_any s _ hs').mono ?_
    rintro e w5 ⟨v5, rfl, ho5, hb5⟩
    have HB5 := Aside0.mk (below_step HB4.out hb5)
    obtain ⟨P5, k5, rfl, hk5, hC5⟩ := Kd.R_reads ho5
    have HC5 := Aside0.mk hC5
    clear ho5 hb5 hC5 HB4
    go_wp2_with fail
    refine (rBytes_any s _ hs').mono ?_
    rintro e w6 ⟨v6, rfl, ho6, hb6⟩
    have HB6 := Aside0.mk (below_step HB5.out hb6)
    have HC56 := Aside0.mk (Kd.C_below HC5.out hb6)
    obtain ⟨P6, k6, rfl, hk6, hC6⟩ := Kd.R_reads ho6
    have HC6 := Aside0.mk hC6
    clear ho6 hb6 hC6 HB5 HC5
    have hes : (encS (bytesOf s)).length ≤ 1000000 := by
      have h1 := encI_len (I64_nat (n := (bytesOf s).length) (by rw [bytesOf_length]; exact hs'))
      unfold encS
      rw [List.length_append, bytesOf_length] at *
      omega
    go_wp2_with fail
    refine (Same_is P5 P6 k5 k6 (encS (bytesOf s)) (encS (bytesOf s)) true _ (by simp) HC56.out hk5 HC6.out hk6 hes).mono ?_
    rintro e w7 ⟨rfl, hb7⟩
    have HB7 := Aside0.mk (below_step HB6.out hb7)
    clear hb7 HB6 HC56 HC6 hes
    go_wp2_with fail
    refine (Ints_any A2 c2 l _ (Kd.C_below HR2.out HB7.out) hc2 hl2' HI.out).mono ?_
    rintro e w8 ⟨v8, rfl, ho8, hb8⟩
    have HB8 := Aside0.mk (below_step HB7.out hb8)
    obtain ⟨P8, k8, rfl, hk8, hC8⟩ := Kd.R_reads ho8
    have HC8 := Aside0.mk hC8
    clear ho8 hb8 hC8 HB7
    go_wp2_with fail
    refine (rInts_any A2 c2 l _ (Kd.C_below HR2.out HB8.out) hc2 hl2' HI.out).mono ?_
    rintro e w9 ⟨v9, rfl, ho9, hb9⟩
    have HB9 := Aside0.mk (below_step HB8.out hb9)
    have HC89 := Aside0.mk (Kd.C_below HC8.out hb9)
    obtain ⟨P9, k9, rfl, hk9, hC9⟩ := Kd.R_reads ho9
    have HC9 := Aside0.mk hC9
    clear ho9 hb9 hC9 HB8 HC8
    have hes : (encL l).length ≤ 1000010 := by
      have h1 := (encL_len (I64_nat hl2') HI.out).2
      omega
    go_wp2_with fail
    refine (Same_any P8 P9 k8 k9 (encL l) (encL l) _ HC89.out hk8 HC9.out hk9 (by omega)).mono ?_
    rintro e w10 ⟨he10, hb10⟩
    have HB10 := Aside0.mk (below_step HB9.out hb10)
    rw [decide_eq_true rfl] at he10
    subst he10
    clear hb10 HB9 HC89 HC9 hes
    go_wp2_with fail
    refine (Digests_any A3 c3 d _ (Kd.C_below HR3.out HB10.out) hc3 hl3' HD.out).mono ?_
    rintro e w11 ⟨v11, rfl, ho11, hb11⟩
    have HB11 := Aside0.mk (below_step HB10.out hb11)
    obtain ⟨P11, k11, rfl, hk11, hC11⟩ := Kd.R_reads ho11
    have HC11 := Aside0.mk hC11
    clear ho11 hb11 hC11 HB10
    go_wp2_with fail
    refine (rDigests_any A3 c3 d _ (Kd.C_below HR3.out HB11.out) hc3 hl3' HD.out).mono ?_
    rintro e w12 ⟨v12, rfl, ho12, hb12⟩
    have HB12 := Aside0.mk (below_step HB11.out hb12)
    have HC1112 := Aside0.mk (Kd.C_below HC11.out hb12)
    obtain ⟨P12, k12, rfl, hk12, hC12⟩ := Kd.R_reads ho12
    have HC12 := Aside0.mk hC12
    clear ho12 hb12 hC12 HB11 HC11
    have hes : (encD d).length ≤ 9223372036854775806 := by
      have h1 := encI_len (I64_nat hl3')
      have h2 := flat_len HD.out
      unfold encD
      rw [List.length_append]
      omega
    go_wp2_with fail
    refine (Same_any P11 P12 k11 k12 (encD d) (encD d) _ HC1112.out hk11 HC12.out hk12 hes).mono ?_
    rintro e w13 ⟨he13, hb13⟩
    have HB13 := Aside0.mk (below_step HB12.out hb13)
    rw [decide_eq_true rfl] at he13
    subst he13
    clear hb13 HB12 HC1112 HC12 hes
    go_wp2
    go_ret
    exact ⟨rfl, HB13.out⟩
end Go.Proofs.Ytippclnmijelfaa.LEnc
