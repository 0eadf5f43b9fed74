/- The walk of the statement that a confirmed slot that is chosen is chosen again after the other one has failed. -/
import Derived.Test.YtippclnmijelfaaSlN
namespace Go.Proofs.Ytippclnmijelfaa.LFal
open Go.RowKit Go.Proofs.YtippclnmijelfaaW.PrintWords Go.Proofs.YtippclnmijelfaaW.PrintLast Go.Proofs.YtippclnmijelfaaW.PrintMore
open Go.Proofs.Ytippclnmijelfaa.En Go.Proofs.Ytippclnmijelfaa.Rf Go.Proofs.Ytippclnmijelfaa.Wi Go.Proofs.Ytippclnmijelfaa.Rc Go.Proofs.Ytippclnmijelfaa.Sa Go.Proofs.Ytippclnmijelfaa.Op Go.Proofs.Ytippclnmijelfaa.Sl
set_option linter.unusedVariables false
set_option linter.unusedSimpArgs false
theorem cho_three (a b : Slot) (f : Int) : cho a b f = -1 ∨ cho a b f = 0 ∨ cho a b f = 1 := by
  unfold cho
  split
  · exact .inl rfl
  · split
    · exact .inr (.inr rfl)
    · exact .inr (.inl rfl)

set_option maxHeartbeats 16000000 in
set_option maxRecDepth 100000 in
theorem bad (a b : Slot) (f v u : Int) (w : World) (hv : 0 ≤ v ∧ v ≤ 255) (hu : 0 ≤ u ∧ u ≤ 255) (kk : Int) (hk : cho a b f = kk) (hok : ¬ ok a b) : Calls Try.prog 7 #[stV a b, .int .i64 f, .int .u8 v, .int .u8 u] w fun e w' => e = .returned (.bool true) ∧ Below w.heap.size w w' := by
  obtain ⟨hv0, hv1⟩ := hv
  obtain ⟨hu0, hu1⟩ := hu
  have HK := Aside0.mk hk
  have HR := Aside0.mk (decide_eq_false hok)
  clear hk hok
  go_enter Try.func7, Try.ntmps7
  go_wp2_with fail
  refine (Choose_is a b f kk HK.out _).mono ?_
  rintro e' w1 ⟨rfl, hb⟩
  have HB1 := Aside0.mk (below_step (below_alloc (Below.refl w.heap.size w) (oS a b)) hb)
  have HA1 := Aside0.mk ((At6.new w a.s a.v a.t b.s b.v b.t).below hb)
  clear hb
  obtain ⟨ca0, ca1, ca2, ca3, ca4, ca5⟩ := (HA1.out).six
  go_wp2_with fail
  refine (rValid_is a b false HR.out _).mono ?_
  rintro e' w2 ⟨rfl, hb⟩
  have HB2 := Aside0.mk (below_step HB1.out hb)
  have HA2 := Aside0.mk (HA1.out.below hb)
  clear hb HB1 HA1
  clear ca0 ca1 ca2 ca3 ca4 ca5
  go_wp2_with fail
  refine (sanity25_any _).mono ?_
  rintro e' w3 ⟨rfl, hb⟩
  have HB3 := Aside0.mk (below_step HB2.out hb)
  go_wp2_with fail
  go_ret
  exact ⟨rfl, HB3.out⟩

set_option maxHeartbeats 16000000 in
set_option maxRecDepth 100000 in
theorem noSlot (a b : Slot) (f v u : Int) (w : World) (hv : 0 ≤ v ∧ v ≤ 255) (hu : 0 ≤ u ∧ u ≤ 255) (hk : cho a b f = -1) (hok : ok a b) : Calls Try.prog 7 #[stV a b, .int .i64 f, .int .u8 v, .int .u8 u] w fun e w' => e = .returned (.bool true) ∧ Below w.heap.size w w' := by
  obtain ⟨hv0, hv1⟩ := hv
  obtain ⟨hu0, hu1⟩ := hu
  have HK := Aside0.mk hk
  have HR := Aside0.mk (decide_eq_true hok)
  clear hk hok
  go_enter Try.func7, Try.ntmps7
  go_wp2_with fail
  refine (Choose_is a b f (-1) HK.out _).mono ?_
  rintro e' w1 ⟨rfl, hb⟩
  have HB1 := Aside0.mk (below_step (below_alloc (Below.refl w.heap.size w) (oS a b)) hb)
  have HA1 := Aside0.mk ((At6.new w a.s a.v a.t b.s b.v b.t).below hb)
  clear hb
  obtain ⟨ca0, ca1, ca2, ca3, ca4, ca5⟩ := (HA1.out).six
  go_wp2_with fail
  refine (rValid_is a b true HR.out _).mono ?_
  rintro e' w2 ⟨rfl, hb⟩
  have HB2 := Aside0.mk (below_step HB1.out hb)
  have HA2 := Aside0.mk (HA1.out.below hb)
  clear hb HB1 HA1
  clear ca0 ca1 ca2 ca3 ca4 ca5
  go_wp2_with fail
  refine (sanity25_any _).mono ?_
  rintro e' w3 ⟨rfl, hb⟩
  have HB3 := Aside0.mk (below_step HB2.out hb)
  go_wp2_with fail
  go_ret
  exact ⟨rfl, HB3.out⟩

set_option maxHeartbeats 16000000 in
set_option maxRecDepth 100000 in
theorem other0 (a b : Slot) (f v u : Int) (w : World) (hv : 0 ≤ v ∧ v ≤ 255) (hu : 0 ≤ u ∧ u ≤ 255) (hk : cho a b f = 0) (hok : ok a b) (hs : a.s ≠ 3) : Calls Try.prog 7 #[stV a b, .int .i64 f, .int .u8 v, .int .u8 u] w fun e w' => e = .returned (.bool true) ∧ Below w.heap.size w w' := by
  obtain ⟨hv0, hv1⟩ := hv
  obtain ⟨hu0, hu1⟩ := hu
  have HK := Aside0.mk hk
  have HR := Aside0.mk (decide_eq_true hok)
  have hs' : (a.s != 3) = true := bne_iff_ne.2 hs
  clear hk hok hs
  go_enter Try.func7, Try.ntmps7
  go_wp2_with fail
  refine (Choose_is a b f 0 HK.out _).mono ?_
  rintro e' w1 ⟨rfl, hb⟩
  have HB1 := Aside0.mk (below_step (below_alloc (Below.refl w.heap.size w) (oS a b)) hb)
  have HA1 := Aside0.mk ((At6.new w a.s a.v a.t b.s b.v b.t).below hb)
  clear hb
  obtain ⟨ca0, ca1, ca2, ca3, ca4, ca5⟩ := (HA1.out).six
  go_wp2_with fail
  refine (rValid_is a b true HR.out _).mono ?_
  rintro e' w2 ⟨rfl, hb⟩
  have HB2 := Aside0.mk (below_step HB1.out hb)
  have HA2 := Aside0.mk (HA1.out.below hb)
  clear hb HB1 HA1
  clear ca0 ca1 ca2 ca3 ca4 ca5
  obtain ⟨ca0, ca1, ca2, ca3, ca4, ca5⟩ := (HA2.out).six
  go_wp2_with fail
  refine (sanity25_any _).mono ?_
  rintro e' w3 ⟨rfl, hb⟩
  have HB3 := Aside0.mk (below_step HB2.out hb)
  go_wp2_with fail
  go_ret
  exact ⟨rfl, HB3.out⟩

set_option maxHeartbeats 16000000 in
set_option maxRecDepth 100000 in
theorem good0 (a b : Slot) (f v u : Int) (w : World) (hv : 0 ≤ v ∧ v ≤ 255) (hu : 0 ≤ u ∧ u ≤ 255) (hk : cho a b f = 0) (hok : ok a b) (hs : a.s = 3) : Calls Try.prog 7 #[stV a b, .int .i64 f, .int .u8 v, .int .u8 u] w fun e w' => e = .returned (.bool true) ∧ Below w.heap.size w w' := by
  obtain ⟨hv0, hv1⟩ := hv
  obtain ⟨hu0, hu1⟩ := hu
  have HV : Aside0 (1 ≤ 1 + v % 16 ∧ 1 + v % 16 ≤ 16) := ⟨by omega⟩
  have HP := Aside0.mk (stage_free1 HV.out hok hs)
  have HK := Aside0.mk hk
  have HR := Aside0.mk (decide_eq_true hok)
  have HY := Aside0.mk hok.1
  have HS := Aside0.mk hs
  have hs' : (a.s != 3) = false := by rw [hs]; rfl
  have hu5 : 0 ≤ u % 5 ∧ u % 5 ≤ 4 := by omega
  clear hk hok hs
  go_enter Try.func7, Try.ntmps7
  go_wp2_with fail
  refine (Choose_is a b f 0 HK.out _).mono ?_
  rintro e' w1 ⟨rfl, hb⟩
  have HB1 := Aside0.mk (below_step (below_alloc (Below.refl w.heap.size w) (oS a b)) hb)
  have HA1 := Aside0.mk ((At6.new w a.s a.v a.t b.s b.v b.t).below hb)
  clear hb
  obtain ⟨ca0, ca1, ca2, ca3, ca4, ca5⟩ := (HA1.out).six
  go_wp2_with fail
  refine (rValid_is a b true HR.out _).mono ?_
  rintro e' w2 ⟨rfl, hb⟩
  have HB2 := Aside0.mk (below_step HB1.out hb)
  have HA2 := Aside0.mk (HA1.out.below hb)
  clear hb HB1 HA1
  clear ca0 ca1 ca2 ca3 ca4 ca5
  obtain ⟨ca0, ca1, ca2, ca3, ca4, ca5⟩ := (HA2.out).six
  go_wp2_with fail
  refine (Stage_is a b 1 (1 + v % 16) a (tS (1 + v % 16) 0) 0 HP.out _).mono ?_
  rintro e' w3 ⟨rfl, hb⟩
  have HB3 := Aside0.mk (below_alloc (below_step HB2.out hb) (oS a (tS (1 + v % 16) 0)))
  have HX3 := Aside0.mk (At6.new w3 a.s a.v a.t (tS (1 + v % 16) 0).s (tS (1 + v % 16) 0).v (tS (1 + v % 16) 0).t)
  have HL := Aside0.mk (below_step HB2.out hb).size
  clear hb HB2 HA2
  clear ca0 ca1 ca2 ca3 ca4 ca5
  go_wp2_with fail
  go_loopw [50] (fun x50 wr => ∃ n : Nat, x50 = .int .i64 (n : Int) ∧ (n : Int) ≤ u % 5 ∧ Aside0 (At6 wr w3.heap.size a.s a.v a.t (tS (1 + v % 16) n).s (tS (1 + v % 16) n).v (tS (1 + v % 16) n).t) ∧ Aside0 (Below w.heap.size w wr)) (fun i _ => 5 - (intOf i).toNat)
  case atStart => exact ⟨0, rfl, hu5.1, HX3, HB3⟩
  case round =>
    clear HX3 HB3
    obtain ⟨n, rfl, hn, HX, HB⟩ := hrel
    have hn4 : n ≤ 4 := by omega
    by_cases hlt : (n : Int) < u % 5
    · have HBG := Aside0.mk (begn_tS1 HV.out n HY.out)
      obtain ⟨cx0, cx1, cx2, cx3, cx4, cx5⟩ := (HX.out).six
      go_wp2_with fail
      refine (Begin_is a (tS (1 + v % 16) n) 1 a (tS (1 + v % 16) (n + 1)) (tE n) HBG.out _).mono ?_
      rintro e' w4 ⟨rfl, hb⟩
      have HB4 := Aside0.mk (below_step HB.out hb)
      have HX4 := Aside0.mk (HX.out.below hb)
      clear hb HB HX
      clear cx0 cx1 cx2 cx3 cx4 cx5
      obtain ⟨cx0, cx1, cx2, cx3, cx4, cx5⟩ := (HX4.out).six
      have fx := HX4.out.frozen
      have HX5 := Aside0.mk (HX4.out.store a.s a.v a.t (tS (1 + v % 16) (n + 1)).s (tS (1 + v % 16) (n + 1)).v (tS (1 + v % 16) (n + 1)).t)
      have HB5 := Aside0.mk (below_store HB4.out (g := w3.heap.size) HL.out a.s a.v a.t (tS (1 + v % 16) (n + 1)).s (tS (1 + v % 16) (n + 1)).v (tS (1 + v % 16) (n + 1)).t)
      clear HX4 HB4
      go_wp2_with fail
      first
      | exact ⟨⟨n + 1, by go_num, by omega, HX5, HB5⟩, by simp [intOf]; omega⟩
      | (refine ⟨?_, ?_⟩
         · repeat apply Exists.intro
           refine ⟨?_, ?_⟩
           rotate_left
           · repeat' (first | exact rfl | apply And.intro)
           exact ⟨n + 1, by go_num, by omega, HX5, HB5⟩
         · simp [intOf]; omega)
    · have HF := Aside0.mk (fal_tS1 HV.out n HY.out)
      have HK2 := Aside0.mk (fall0 (y := (⟨4, 1 + v % 16, (tS (1 + v % 16) n).t⟩ : Slot)) HK.out HS.out rfl)
      obtain ⟨cx0, cx1, cx2, cx3, cx4, cx5⟩ := (HX.out).six
      go_wp2_with fail
      refine (Fail_is a (tS (1 + v % 16) n) 1 a (⟨4, 1 + v % 16, (tS (1 + v % 16) n).t⟩ : Slot) 0 HF.out _).mono ?_
      rintro e' w4 ⟨rfl, hb⟩
      have HB4 := Aside0.mk (below_alloc (below_step HB.out hb) (oS a (⟨4, 1 + v % 16, (tS (1 + v % 16) n).t⟩ : Slot)))
      have HU4 := Aside0.mk (At6.new w4 a.s a.v a.t (⟨4, 1 + v % 16, (tS (1 + v % 16) n).t⟩ : Slot).s (⟨4, 1 + v % 16, (tS (1 + v % 16) n).t⟩ : Slot).v (⟨4, 1 + v % 16, (tS (1 + v % 16) n).t⟩ : Slot).t)
      clear hb HB HX
      clear cx0 cx1 cx2 cx3 cx4 cx5
      go_wp2_with fail
      refine (sanity25_any _).mono ?_
      rintro e' w5 ⟨rfl, hb⟩
      have HB5 := Aside0.mk (below_step HB4.out hb)
      have HU5 := Aside0.mk (HU4.out.below hb)
      clear hb HB4 HU4
      obtain ⟨cu0, cu1, cu2, cu3, cu4, cu5⟩ := (HU5.out).six
      go_wp2_with fail
      refine (Choose_is a (⟨4, 1 + v % 16, (tS (1 + v % 16) n).t⟩ : Slot) f 0 HK2.out _).mono ?_
      rintro e' w6 ⟨rfl, hb⟩
      have HB6 := Aside0.mk (below_step HB5.out hb)
      clear hb HB5
      go_wp2_with fail
      go_ret
      exact ⟨rfl, HB6.out⟩

set_option maxHeartbeats 16000000 in
set_option maxRecDepth 100000 in
theorem other1 (a b : Slot) (f v u : Int) (w : World) (hv : 0 ≤ v ∧ v ≤ 255) (hu : 0 ≤ u ∧ u ≤ 255) (hk : cho a b f = 1) (hok : ok a b) (hs : b.s ≠ 3) : Calls Try.prog 7 #[stV a b, .int .i64 f, .int .u8 v, .int .u8 u] w fun e w' => e = .returned (.bool true) ∧ Below w.heap.size w w' := by
  obtain ⟨hv0, hv1⟩ := hv
  obtain ⟨hu0, hu1⟩ := hu
  have HK := Aside0.mk hk
  have HR := Aside0.mk (decide_eq_true hok)
  have hs' : (b.s != 3) = true := bne_iff_ne.2 hs
  clear hk hok hs
  go_enter Try.func7, Try.ntmps7
  go_wp2_with fail
  refine (Choose_is a b f 1 HK.out _).mono ?_
  rintro e' w1 ⟨rfl, hb⟩
  have HB1 := Aside0.mk (below_step (below_alloc (Below.refl w.heap.size w) (oS a b)) hb)
  have HA1 := Aside0.mk ((At6.new w a.s a.v a.t b.s b.v b.t).below hb)
  clear hb
  obtain ⟨ca0, ca1, ca2, ca3, ca4, ca5⟩ := (HA1.out).six
  go_wp2_with fail
  refine (rValid_is a b true HR.out _).mono ?_
  rintro e' w2 ⟨rfl, hb⟩
  have HB2 := Aside0.mk (below_step HB1.out hb)
  have HA2 := Aside0.mk (HA1.out.below hb)
  clear hb HB1 HA1
  clear ca0 ca1 ca2 ca3 ca4 ca5
  obtain ⟨ca0, ca1, ca2, ca3, ca4, ca5⟩ := (HA2.out).six
  go_wp2_with fail
  refine (sanity25_any _).mono ?_
  rintro e' w3 ⟨rfl, hb⟩
  have HB3 := Aside0.mk (below_step HB2.out hb)
  go_wp2_with fail
  go_ret
  exact ⟨rfl, HB3.out⟩

set_option maxHeartbeats 16000000 in
set_option maxRecDepth 100000 in
theorem good1 (a b : Slot) (f v u : Int) (w : World) (hv : 0 ≤ v ∧ v ≤ 255) (hu : 0 ≤ u ∧ u ≤ 255) (hk : cho a b f = 1) (hok : ok a b) (hs : b.s = 3) : Calls Try.prog 7 #[stV a b, .int .i64 f, .int .u8 v, .int .u8 u] w fun e w' => e = .returned (.bool true) ∧ Below w.heap.size w w' := by
  obtain ⟨hv0, hv1⟩ := hv
  obtain ⟨hu0, hu1⟩ := hu
  have HV : Aside0 (1 ≤ 1 + v % 16 ∧ 1 + v % 16 ≤ 16) := ⟨by omega⟩
  have HP := Aside0.mk (stage_free0 HV.out hok hs)
  have HK := Aside0.mk hk
  have HR := Aside0.mk (decide_eq_true hok)
  have HY := Aside0.mk hok.2
  have HS := Aside0.mk hs
  have hs' : (b.s != 3) = false := by rw [hs]; rfl
  have hu5 : 0 ≤ u % 5 ∧ u % 5 ≤ 4 := by omega
  clear hk hok hs
  go_enter Try.func7, Try.ntmps7
  go_wp2_with fail
  refine (Choose_is a b f 1 HK.out _).mono ?_
  rintro e' w1 ⟨rfl, hb⟩
  have HB1 := Aside0.mk (below_step (below_alloc (Below.refl w.heap.size w) (oS a b)) hb)
  have HA1 := Aside0.mk ((At6.new w a.s a.v a.t b.s b.v b.t).below hb)
  clear hb
  obtain ⟨ca0, ca1, ca2, ca3, ca4, ca5⟩ := (HA1.out).six
  go_wp2_with fail
  refine (rValid_is a b true HR.out _).mono ?_
  rintro e' w2 ⟨rfl, hb⟩
  have HB2 := Aside0.mk (below_step HB1.out hb)
  have HA2 := Aside0.mk (HA1.out.below hb)
  clear hb HB1 HA1
  clear ca0 ca1 ca2 ca3 ca4 ca5
  obtain ⟨ca0, ca1, ca2, ca3, ca4, ca5⟩ := (HA2.out).six
  go_wp2_with fail
  refine (Stage_is a b 0 (1 + v % 16) (tS (1 + v % 16) 0) b 0 HP.out _).mono ?_
  rintro e' w3 ⟨rfl, hb⟩
  have HB3 := Aside0.mk (below_alloc (below_step HB2.out hb) (oS (tS (1 + v % 16) 0) b))
  have HX3 := Aside0.mk (At6.new w3 (tS (1 + v % 16) 0).s (tS (1 + v % 16) 0).v (tS (1 + v % 16) 0).t b.s b.v b.t)
  have HL := Aside0.mk (below_step HB2.out hb).size
  clear hb HB2 HA2
  clear ca0 ca1 ca2 ca3 ca4 ca5
  go_wp2_with fail
  go_loopw [50] (fun x50 wr => ∃ n : Nat, x50 = .int .i64 (n : Int) ∧ (n : Int) ≤ u % 5 ∧ Aside0 (At6 wr w3.heap.size (tS (1 + v % 16) n).s (tS (1 + v % 16) n).v (tS (1 + v % 16) n).t b.s b.v b.t) ∧ Aside0 (Below w.heap.size w wr)) (fun i _ => 5 - (intOf i).toNat)
  case atStart => exact ⟨0, rfl, hu5.1, HX3, HB3⟩
  case round =>
    clear HX3 HB3
    obtain ⟨n, rfl, hn, HX, HB⟩ := hrel
    have hn4 : n ≤ 4 := by omega
    by_cases hlt : (n : Int) < u % 5
    · have HBG := Aside0.mk (begn_tS0 HV.out n HY.out)
      obtain ⟨cx0, cx1, cx2, cx3, cx4, cx5⟩ := (HX.out).six
      go_wp2_with fail
      refine (Begin_is (tS (1 + v % 16) n) b 0 (tS (1 + v % 16) (n + 1)) b (tE n) HBG.out _).mono ?_
      rintro e' w4 ⟨rfl, hb⟩
      have HB4 := Aside0.mk (below_step HB.out hb)
      have HX4 := Aside0.mk (HX.out.below hb)
      clear hb HB HX
      clear cx0 cx1 cx2 cx3 cx4 cx5
      obtain ⟨cx0, cx1, cx2, cx3, cx4, cx5⟩ := (HX4.out).six
      have fx := HX4.out.frozen
      have HX5 := Aside0.mk (HX4.out.store (tS (1 + v % 16) (n + 1)).s (tS (1 + v % 16) (n + 1)).v (tS (1 + v % 16) (n + 1)).t b.s b.v b.t)
      have HB5 := Aside0.mk (below_store HB4.out (g := w3.heap.size) HL.out (tS (1 + v % 16) (n + 1)).s (tS (1 + v % 16) (n + 1)).v (tS (1 + v % 16) (n + 1)).t b.s b.v b.t)
      clear HX4 HB4
      go_wp2_with fail
      first
      | exact ⟨⟨n + 1, by go_num, by omega, HX5, HB5⟩, by simp [intOf]; omega⟩
      | (refine ⟨?_, ?_⟩
         · repeat apply Exists.intro
           refine ⟨?_, ?_⟩
           rotate_left
           · repeat' (first | exact rfl | apply And.intro)
           exact ⟨n + 1, by go_num, by omega, HX5, HB5⟩
         · simp [intOf]; omega)
    · have HF := Aside0.mk (fal_tS0 HV.out n HY.out)
      have HK2 := Aside0.mk (fall1 (y := (⟨4, 1 + v % 16, (tS (1 + v % 16) n).t⟩ : Slot)) HK.out HS.out rfl)
      obtain ⟨cx0, cx1, cx2, cx3, cx4, cx5⟩ := (HX.out).six
      go_wp2_with fail
      refine (Fail_is (tS (1 + v % 16) n) b 0 (⟨4, 1 + v % 16, (tS (1 + v % 16) n).t⟩ : Slot) b 0 HF.out _).mono ?_
      rintro e' w4 ⟨rfl, hb⟩
      have HB4 := Aside0.mk (below_alloc (below_step HB.out hb) (oS (⟨4, 1 + v % 16, (tS (1 + v % 16) n).t⟩ : Slot) b))
      have HU4 := Aside0.mk (At6.new w4 (⟨4, 1 + v % 16, (tS (1 + v % 16) n).t⟩ : Slot).s (⟨4, 1 + v % 16, (tS (1 + v % 16) n).t⟩ : Slot).v (⟨4, 1 + v % 16, (tS (1 + v % 16) n).t⟩ : Slot).t b.s b.v b.t)
      clear hb HB HX
      clear cx0 cx1 cx2 cx3 cx4 cx5
      go_wp2_with fail
      refine (sanity25_any _).mono ?_
      rintro e' w5 ⟨rfl, hb⟩
      have HB5 := Aside0.mk (below_step HB4.out hb)
      have HU5 := Aside0.mk (HU4.out.below hb)
      clear hb HB4 HU4
      obtain ⟨cu0, cu1, cu2, cu3, cu4, cu5⟩ := (HU5.out).six
      go_wp2_with fail
      refine (Choose_is (⟨4, 1 + v % 16, (tS (1 + v % 16) n).t⟩ : Slot) b f 1 HK2.out _).mono ?_
      rintro e' w6 ⟨rfl, hb⟩
      have HB6 := Aside0.mk (below_step HB5.out hb)
      clear hb HB5
      go_wp2_with fail
      go_ret
      exact ⟨rfl, HB6.out⟩

theorem walk (a b : Slot) (f v u : Int) (w : World) (ha : M64 a) (hb : M64 b) (hf : I64 f) (hv : 0 ≤ v ∧ v ≤ 255) (hu : 0 ≤ u ∧ u ≤ 255) : Calls Try.prog 7 #[stV a b, .int .i64 f, .int .u8 v, .int .u8 u] w fun e w' => e = .returned (.bool true) ∧ Below w.heap.size w w' := by
  by_cases hok : ok a b
  · rcases cho_three a b f with hk | hk | hk
    · exact noSlot a b f v u w hv hu hk hok
    · by_cases hs : a.s = 3
      · exact good0 a b f v u w hv hu hk hok hs
      · exact other0 a b f v u w hv hu hk hok hs
    · by_cases hs : b.s = 3
      · exact good1 a b f v u w hv hu hk hok hs
      · exact other1 a b f v u w hv hu hk hok hs
  · exact bad a b f v u w hv hu _ rfl hok
end Go.Proofs.Ytippclnmijelfaa.LFal
