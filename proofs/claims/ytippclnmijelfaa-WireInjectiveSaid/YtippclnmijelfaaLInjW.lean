/- The walk of the statement that equal encodings are encodings of equal values. -/
import Derived.Test.YtippclnmijelfaaSan
namespace Go.Proofs.Ytippclnmijelfaa.LInj
open Go.RowKit Go.Proofs.YtippclnmijelfaaW.PrintWords Go.Proofs.YtippclnmijelfaaW.PrintLast Go.Proofs.YtippclnmijelfaaW.PrintMore
open Go.Proofs.Ytippclnmijelfaa.En Go.Proofs.Ytippclnmijelfaa.Rf Go.Proofs.Ytippclnmijelfaa.Wi Go.Proofs.Ytippclnmijelfaa.Rc Go.Proofs.Ytippclnmijelfaa.Sa
attribute [local go_sem] max2_int min2_int max_two min_two
set_option linter.unusedVariables false
set_option linter.unusedSimpArgs false

set_option maxHeartbeats 8000000 in
set_option maxRecDepth 100000 in
theorem walk (m n : Int) (A2 : Option Addr) (c2 : Nat) (k : List Int) (A3 : Option Addr) (c3 : Nat) (l : List Int) (w : World) (hm : I64 m) (hn : I64 n)
    (hr2 : Kd.C (Kd.int .i64) w A2 k.length k) (hc2 : k.length ≤ c2) (hz2 : k.length * 8 ≤ 140737488351232) (hI2 : AllI k)
    (hr3 : Kd.C (Kd.int .i64) w A3 l.length l) (hc3 : l.length ≤ c3) (hz3 : l.length * 8 ≤ 140737488351232) (hI3 : AllI l) :
    Calls Try.prog 11 #[.int .i64 m, .int .i64 n, .slice A2 k.length c2, .slice A3 l.length c3] w fun e w' => e = .returned (.bool true) ∧ Below w.heap.size w w' := by
  have HR2 := Aside0.mk hr2
  have HR3 := Aside0.mk hr3
  have HI2 := Aside0.mk hI2
  have HI3 := Aside0.mk hI3
  have HM := Aside0.mk hm
  have HN := Aside0.mk hn
  clear hr2 hr3 hI2 hI3 hm hn
  by_cases hbig : 2000 < k.length + l.length
  · go_enter Try.func11, Try.ntmps11
    go_wp2_with fail
    refine (sanity_any _).mono ?_
    rintro e w1 ⟨rfl, hb1⟩
    have HB1 := Aside0.mk hb1
    clear hb1
    go_wp2
    go_ret
    exact ⟨rfl, HB1.out⟩
  · have hk' : k.length ≤ 100000 := by omega
    have hl' : l.length ≤ 100000 := by omega
    have HE1 : Aside0 (decide (encI m = encI n) = decide (m = n)) := ⟨decide_eq_decide.2 ⟨fun h => encI_inj HM.out HN.out h, fun h => by rw [h]⟩⟩
    have HE2 : Aside0 (decide (encL k = encL l) = decide (k = l)) := ⟨decide_eq_decide.2 ⟨fun h => encL_inj (I64_nat hk') (I64_nat hl') HI2.out HI3.out h, fun h => by rw [h]⟩⟩
    have hX : (encI m).length ≤ 1000000 := by have := encI_len HM.out; omega
    have hZ : (encL k).length ≤ 1000000 := by have := (encL_len (I64_nat hk') HI2.out).2; omega
    have HX := Aside0.mk hX
    have HZ := Aside0.mk hZ
    clear hX hZ
    go_enter Try.func11, Try.ntmps11
    go_wp2_with fail
    refine (sanity_any _).mono ?_
    rintro e w1 ⟨rfl, hb1⟩
    have HB1 := Aside0.mk hb1
    clear hb1
    go_wp2_with fail
    refine (Int_any m _ HM.out).mono ?_
    rintro e w2 ⟨v2, rfl, ho2, hb2⟩
    have HB2 := Aside0.mk (below_step HB1.out hb2)
    obtain ⟨P2, k2, rfl, hk2, hC2⟩ := Kd.R_reads ho2
    have HC2 := Aside0.mk hC2
    clear ho2 hb2 hC2 HB1
    go_wp2_with fail
    refine (Int_any n _ HN.out).mono ?_
    rintro e w3 ⟨v3, rfl, ho3, hb3⟩
    have HB3 := Aside0.mk (below_step HB2.out hb3)
    have HC23 := Aside0.mk (Kd.C_below HC2.out hb3)
    obtain ⟨P3, k3, rfl, hk3, hC3⟩ := Kd.R_reads ho3
    have HC3 := Aside0.mk hC3
    clear ho3 hb3 hC3 HB2 HC2
    generalize encI m = X at *
    generalize encI n = Y at *
    go_wp2_with fail
    refine (Same_is P2 P3 k2 k3 X Y _ _ HE1.out HC23.out hk2 HC3.out hk3 HX.out).mono ?_
    rintro e w4 ⟨rfl, hb4⟩
    have HB4 := Aside0.mk (below_step HB3.out hb4)
    clear hb4 HB3 HC23 HC3 HE1 HX
    go_wp2_with fail
    refine (Ints_any A2 c2 k _ (Kd.C_below HR2.out HB4.out) hc2 hk' HI2.out).mono ?_
    rintro e w5 ⟨v5, rfl, ho5, hb5⟩
    have HB5 := Aside0.mk (below_step HB4.out hb5)
    obtain ⟨P5, k5, rfl, hk5, hC5⟩ := Kd.R_reads ho5
    have HC5 := Aside0.mk hC5
    clear ho5 hb5 hC5 HB4
    go_wp2_with fail
    refine (Ints_any A3 c3 l _ (Kd.C_below HR3.out HB5.out) hc3 hl' HI3.out).mono ?_
    rintro e w6 ⟨v6, rfl, ho6, hb6⟩
    have HB6 := Aside0.mk (below_step HB5.out hb6)
    have HC56 := Aside0.mk (Kd.C_below HC5.out hb6)
    obtain ⟨P6, k6, rfl, hk6, hC6⟩ := Kd.R_reads ho6
    have HC6 := Aside0.mk hC6
    clear ho6 hb6 hC6 HB5 HC5
    generalize encL k = Z at *
    generalize encL l = U at *
    go_wp2_with fail
    refine (Same_is P5 P6 k5 k6 Z U _ _ HE2.out HC56.out hk5 HC6.out hk6 HZ.out).mono ?_
    rintro e w7 ⟨rfl, hb7⟩
    have HB7 := Aside0.mk (below_step HB6.out hb7)
    clear hb7 HB6 HC56 HC6 HE2 HZ
    go_wp2_with fail
    refine (SameInts_is A2 A3 c2 c3 k l _ _ rfl (Kd.C_below HR2.out HB7.out) hc2 (Kd.C_below HR3.out HB7.out) hc3 (by omega)).mono ?_
    rintro e w8 ⟨rfl, hb8⟩
    have HB8 := Aside0.mk (below_step HB7.out hb8)
    clear hb8 HB7
    generalize decide (k = l) = q2 at *
    go_wp2
    go_ret
    refine ⟨?_, HB8.out⟩
    simp
end Go.Proofs.Ytippclnmijelfaa.LInj
