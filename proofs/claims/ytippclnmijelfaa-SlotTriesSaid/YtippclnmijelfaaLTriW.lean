/- The walk of the statement that an unconfirmed image is begun at most three times and then not chosen. -/
import Derived.Test.YtippclnmijelfaaSlN
namespace Go.Proofs.Ytippclnmijelfaa.LTri
open Go.RowKit Go.Proofs.YtippclnmijelfaaW.PrintWords Go.Proofs.YtippclnmijelfaaW.PrintLast Go.Proofs.YtippclnmijelfaaW.PrintMore
open Go.Proofs.Ytippclnmijelfaa.En Go.Proofs.Ytippclnmijelfaa.Rf Go.Proofs.Ytippclnmijelfaa.Wi Go.Proofs.Ytippclnmijelfaa.Rc Go.Proofs.Ytippclnmijelfaa.Sa Go.Proofs.Ytippclnmijelfaa.Op Go.Proofs.Ytippclnmijelfaa.Sl
set_option linter.unusedVariables false
set_option linter.unusedSimpArgs false

set_option maxHeartbeats 16000000 in
set_option maxRecDepth 100000 in
theorem bad0 (a b : Slot) (i v f : Int) (w : World) (hi : 0 ≤ i ∧ i ≤ 255) (hv : 0 ≤ v ∧ v ≤ 255) (hk : i % 2 = 0) (hok : ¬ ok a b) : Calls Try.prog 6 #[stV a b, .int .u8 i, .int .u8 v, .int .i64 f] w fun e w' => e = .returned (.bool true) ∧ Below w.heap.size w w' := by
  obtain ⟨hi0, hi1⟩ := hi
  obtain ⟨hv0, hv1⟩ := hv
  obtain ⟨p, q, e, h⟩ : ∃ p q c, stage (1 + v % 16) a b 0 = (p, q, c) := ⟨_, _, _, rfl⟩
  have HP := Aside0.mk h
  have HR := Aside0.mk (decide_eq_false hok)
  clear h hok
  go_enter Try.func6, Try.ntmps6
  go_wp2_with fail
  refine (Stage_is a b 0 (1 + v % 16) p q e HP.out _).mono ?_
  rintro e' w1 ⟨rfl, hb⟩
  have HB1 := Aside0.mk (below_step (below_alloc (Below.refl w.heap.size w) (oS a b)) hb)
  have HA1 := Aside0.mk ((At6.new w a.s a.v a.t b.s b.v b.t).below hb)
  clear hb
  obtain ⟨ca0, ca1, ca2, ca3, ca4, ca5⟩ := (HA1.out.alloc (oS p q)).six
  go_wp2_with fail
  refine (rValid_is a b false HR.out _).mono ?_
  rintro e' w2 ⟨rfl, hb⟩
  have HB2 := Aside0.mk (below_step (below_alloc HB1.out (oS p q)) hb)
  have HX2 := Aside0.mk ((At6.new w1 p.s p.v p.t q.s q.v q.t).below hb)
  have HL := Aside0.mk (Nat.le_of_lt HA1.out.lt)
  clear hb HB1 HA1
  clear ca0 ca1 ca2 ca3 ca4 ca5
  go_wp2_with fail
  refine (sanity25_any _).mono ?_
  rintro e' w3 ⟨rfl, hb⟩
  have HB3 := Aside0.mk (below_step HB2.out hb)
  go_wp2_with fail
  go_ret
  exact ⟨rfl, HB3.out⟩

set_option maxHeartbeats 16000000 in
set_option maxRecDepth 100000 in
theorem err0 (a b : Slot) (i v f : Int) (w : World) (hi : 0 ≤ i ∧ i ≤ 255) (hv : 0 ≤ v ∧ v ≤ 255) (hk : i % 2 = 0) (hok : ok a b) (p q : Slot) (e : Int) (h : stage (1 + v % 16) a b 0 = (p, q, e)) (he : e ≠ 0) : Calls Try.prog 6 #[stV a b, .int .u8 i, .int .u8 v, .int .i64 f] w fun e w' => e = .returned (.bool true) ∧ Below w.heap.size w w' := by
  obtain ⟨hi0, hi1⟩ := hi
  obtain ⟨hv0, hv1⟩ := hv
  have HP := Aside0.mk h
  have HR := Aside0.mk (decide_eq_true hok)
  have he' : (e != 0) = true := bne_iff_ne.2 he
  clear h hok he
  go_enter Try.func6, Try.ntmps6
  go_wp2_with fail
  refine (Stage_is a b 0 (1 + v % 16) p q e HP.out _).mono ?_
  rintro e' w1 ⟨rfl, hb⟩
  have HB1 := Aside0.mk (below_step (below_alloc (Below.refl w.heap.size w) (oS a b)) hb)
  have HA1 := Aside0.mk ((At6.new w a.s a.v a.t b.s b.v b.t).below hb)
  clear hb
  obtain ⟨ca0, ca1, ca2, ca3, ca4, ca5⟩ := (HA1.out.alloc (oS p q)).six
  go_wp2_with fail
  refine (rValid_is a b true HR.out _).mono ?_
  rintro e' w2 ⟨rfl, hb⟩
  have HB2 := Aside0.mk (below_step (below_alloc HB1.out (oS p q)) hb)
  have HX2 := Aside0.mk ((At6.new w1 p.s p.v p.t q.s q.v q.t).below hb)
  have HL := Aside0.mk (Nat.le_of_lt HA1.out.lt)
  clear hb HB1 HA1
  clear ca0 ca1 ca2 ca3 ca4 ca5
  go_wp2_with fail
  refine (sanity25_any _).mono ?_
  rintro e' w3 ⟨rfl, hb⟩
  have HB3 := Aside0.mk (below_step HB2.out hb)
  go_wp2_with fail
  go_ret
  exact ⟨rfl, HB3.out⟩

set_option maxHeartbeats 16000000 in
set_option maxRecDepth 100000 in
theorem good0 (a b : Slot) (i v f : Int) (w : World) (hi : 0 ≤ i ∧ i ≤ 255) (hv : 0 ≤ v ∧ v ≤ 255) (hk : i % 2 = 0) (hok : ok a b) (h : stage (1 + v % 16) a b 0 = ((tS (1 + v % 16) 0), b, 0)) : Calls Try.prog 6 #[stV a b, .int .u8 i, .int .u8 v, .int .i64 f] w fun e w' => e = .returned (.bool true) ∧ Below w.heap.size w w' := by
  obtain ⟨hi0, hi1⟩ := hi
  obtain ⟨hv0, hv1⟩ := hv
  have HP := Aside0.mk h
  have HR := Aside0.mk (decide_eq_true hok)
  have HV : Aside0 (1 ≤ 1 + v % 16 ∧ 1 + v % 16 ≤ 16) := ⟨by omega⟩
  have HY := Aside0.mk hok.2
  obtain ⟨kk, hkk⟩ : ∃ kk, cho (tS (1 + v % 16) 5) b f = kk := ⟨_, rfl⟩
  have hne : kk ≠ 0 := by rw [← hkk]; exact cho_tS0 _ _ _ (by omega) _
  have hne' : (kk != 0) = true := bne_iff_ne.2 hne
  have HK := Aside0.mk hkk
  clear h hok hkk hne
  go_enter Try.func6, Try.ntmps6
  go_wp2_with fail
  refine (Stage_is a b 0 (1 + v % 16) (tS (1 + v % 16) 0) b 0 HP.out _).mono ?_
  rintro e' w1 ⟨rfl, hb⟩
  have HB1 := Aside0.mk (below_step (below_alloc (Below.refl w.heap.size w) (oS a b)) hb)
  have HA1 := Aside0.mk ((At6.new w a.s a.v a.t b.s b.v b.t).below hb)
  clear hb
  obtain ⟨ca0, ca1, ca2, ca3, ca4, ca5⟩ := (HA1.out.alloc (oS (tS (1 + v % 16) 0) b)).six
  go_wp2_with fail
  refine (rValid_is a b true HR.out _).mono ?_
  rintro e' w2 ⟨rfl, hb⟩
  have HB2 := Aside0.mk (below_step (below_alloc HB1.out (oS (tS (1 + v % 16) 0) b)) hb)
  have HX2 := Aside0.mk ((At6.new w1 (tS (1 + v % 16) 0).s (tS (1 + v % 16) 0).v (tS (1 + v % 16) 0).t b.s b.v b.t).below hb)
  have HL := Aside0.mk (Nat.le_of_lt HA1.out.lt)
  clear hb HB1 HA1
  clear ca0 ca1 ca2 ca3 ca4 ca5
  go_wp2_with fail
  go_loopw [36] (fun x36 wr => ∃ n : Nat, x36 = .int .i64 (n : Int) ∧ n ≤ 5 ∧ Aside0 (At6 wr w1.heap.size (tS (1 + v % 16) n).s (tS (1 + v % 16) n).v (tS (1 + v % 16) n).t b.s b.v b.t) ∧ Aside0 (Below w.heap.size w wr)) (fun i _ => 5 - (intOf i).toNat)
  case atStart => exact ⟨0, rfl, by omega, HX2, HB2⟩
  case round =>
    clear HX2 HB2
    obtain ⟨n, rfl, hn, HX, HB⟩ := hrel
    by_cases h5 : n < 5
    · by_cases hlt : n < 3
      · have hlt' : (n : Int) < 3 := by omega
        have h5' : (n : Int) < 5 := by omega
        obtain ⟨cx0, cx1, cx2, cx3, cx4, cx5⟩ := (HX.out).six
        have HBG : Aside0 (begn (tS (1 + v % 16) n) b 0 = ((tS (1 + v % 16) (n + 1)), b, 0)) := ⟨(by rw [begn_tS0 HV.out n HY.out, tE, if_pos hlt])⟩
        go_wp2_with fail
        refine (Begin_is (tS (1 + v % 16) n) b 0 (tS (1 + v % 16) (n + 1)) b 0 HBG.out _).mono ?_
        rintro e' w4 ⟨rfl, hb⟩
        have HB4 := Aside0.mk (below_alloc (below_step HB.out hb) (oS (tS (1 + v % 16) (n + 1)) b))
        have HX4 := Aside0.mk ((HX.out.below hb).alloc (oS (tS (1 + v % 16) (n + 1)) b))
        clear hb HB HX
        clear cx0 cx1 cx2 cx3 cx4 cx5
        obtain ⟨cx0, cx1, cx2, cx3, cx4, cx5⟩ := (HX4.out).six
        have fx := HX4.out.frozen
        have HX5 := Aside0.mk (HX4.out.store (tS (1 + v % 16) (n + 1)).s (tS (1 + v % 16) (n + 1)).v (tS (1 + v % 16) (n + 1)).t b.s b.v b.t)
        have HB5 := Aside0.mk (below_store HB4.out (g := w1.heap.size) HL.out (tS (1 + v % 16) (n + 1)).s (tS (1 + v % 16) (n + 1)).v (tS (1 + v % 16) (n + 1)).t b.s b.v b.t)
        clear HX4 HB4
        go_wp2_with fail
        first
        | exact ⟨⟨n + 1, by go_num, by omega, HX5, HB5⟩, by simp [intOf]; omega⟩
        | (refine ⟨?_, ?_⟩
           · repeat apply Exists.intro
             refine ⟨?_, ?_⟩
             rotate_left
             · repeat' (first | exact rfl | apply And.intro)
             exact ⟨n + 1, by go_num, by omega, HX5, HB5⟩
           · simp [intOf]; omega)
      · have hlt' : ¬ (n : Int) < 3 := by omega
        have h5' : (n : Int) < 5 := by omega
        obtain ⟨cx0, cx1, cx2, cx3, cx4, cx5⟩ := (HX.out).six
        have HBG : Aside0 (begn (tS (1 + v % 16) n) b 0 = ((tS (1 + v % 16) (n + 1)), b, 21)) := ⟨(by rw [begn_tS0 HV.out n HY.out, tE, if_neg hlt])⟩
        go_wp2_with fail
        refine (Begin_is (tS (1 + v % 16) n) b 0 (tS (1 + v % 16) (n + 1)) b 21 HBG.out _).mono ?_
        rintro e' w4 ⟨rfl, hb⟩
        have HB4 := Aside0.mk (below_alloc (below_step HB.out hb) (oS (tS (1 + v % 16) (n + 1)) b))
        have HX4 := Aside0.mk ((HX.out.below hb).alloc (oS (tS (1 + v % 16) (n + 1)) b))
        clear hb HB HX
        clear cx0 cx1 cx2 cx3 cx4 cx5
        obtain ⟨cx0, cx1, cx2, cx3, cx4, cx5⟩ := (HX4.out).six
        have fx := HX4.out.frozen
        have HX5 := Aside0.mk (HX4.out.store (tS (1 + v % 16) (n + 1)).s (tS (1 + v % 16) (n + 1)).v (tS (1 + v % 16) (n + 1)).t b.s b.v b.t)
        have HB5 := Aside0.mk (below_store HB4.out (g := w1.heap.size) HL.out (tS (1 + v % 16) (n + 1)).s (tS (1 + v % 16) (n + 1)).v (tS (1 + v % 16) (n + 1)).t b.s b.v b.t)
        clear HX4 HB4
        go_wp2_with fail
        first
        | exact ⟨⟨n + 1, by go_num, by omega, HX5, HB5⟩, by simp [intOf]; omega⟩
        | (refine ⟨?_, ?_⟩
           · repeat apply Exists.intro
             refine ⟨?_, ?_⟩
             rotate_left
             · repeat' (first | exact rfl | apply And.intro)
             exact ⟨n + 1, by go_num, by omega, HX5, HB5⟩
           · simp [intOf]; omega)
    · have hn5 : n = 5 := by omega
      subst hn5
      clear h5 hn
      go_wp2_with fail
      refine (sanity25_any _).mono ?_
      rintro e' w4 ⟨rfl, hb⟩
      have HB4 := Aside0.mk (below_step HB.out hb)
      have HX4 := Aside0.mk (HX.out.below hb)
      clear hb HB HX
      obtain ⟨cx0, cx1, cx2, cx3, cx4, cx5⟩ := (HX4.out).six
      go_wp2_with fail
      refine (Choose_is (tS (1 + v % 16) 5) b f kk HK.out _).mono ?_
      rintro e' w5 ⟨rfl, hb⟩
      have HB5 := Aside0.mk (below_step HB4.out hb)
      clear hb HB4
      go_wp2_with fail
      go_ret
      exact ⟨rfl, HB5.out⟩

set_option maxHeartbeats 16000000 in
set_option maxRecDepth 100000 in
theorem bad1 (a b : Slot) (i v f : Int) (w : World) (hi : 0 ≤ i ∧ i ≤ 255) (hv : 0 ≤ v ∧ v ≤ 255) (hk : i % 2 = 1) (hok : ¬ ok a b) : Calls Try.prog 6 #[stV a b, .int .u8 i, .int .u8 v, .int .i64 f] w fun e w' => e = .returned (.bool true) ∧ Below w.heap.size w w' := by
  obtain ⟨hi0, hi1⟩ := hi
  obtain ⟨hv0, hv1⟩ := hv
  obtain ⟨p, q, e, h⟩ : ∃ p q c, stage (1 + v % 16) a b 1 = (p, q, c) := ⟨_, _, _, rfl⟩
  have HP := Aside0.mk h
  have HR := Aside0.mk (decide_eq_false hok)
  clear h hok
  go_enter Try.func6, Try.ntmps6
  go_wp2_with fail
  refine (Stage_is a b 1 (1 + v % 16) p q e HP.out _).mono ?_
  rintro e' w1 ⟨rfl, hb⟩
  have HB1 := Aside0.mk (below_step (below_alloc (Below.refl w.heap.size w) (oS a b)) hb)
  have HA1 := Aside0.mk ((At6.new w a.s a.v a.t b.s b.v b.t).below hb)
  clear hb
  obtain ⟨ca0, ca1, ca2, ca3, ca4, ca5⟩ := (HA1.out.alloc (oS p q)).six
  go_wp2_with fail
  refine (rValid_is a b false HR.out _).mono ?_
  rintro e' w2 ⟨rfl, hb⟩
  have HB2 := Aside0.mk (below_step (below_alloc HB1.out (oS p q)) hb)
  have HX2 := Aside0.mk ((At6.new w1 p.s p.v p.t q.s q.v q.t).below hb)
  have HL := Aside0.mk (Nat.le_of_lt HA1.out.lt)
  clear hb HB1 HA1
  clear ca0 ca1 ca2 ca3 ca4 ca5
  go_wp2_with fail
  refine (sanity25_any _).mono ?_
  rintro e' w3 ⟨rfl, hb⟩
  have HB3 := Aside0.mk (below_step HB2.out hb)
  go_wp2_with fail
  go_ret
  exact ⟨rfl, HB3.out⟩

set_option maxHeartbeats 16000000 in
set_option maxRecDepth 100000 in
theorem err1 (a b : Slot) (i v f : Int) (w : World) (hi : 0 ≤ i ∧ i ≤ 255) (hv : 0 ≤ v ∧ v ≤ 255) (hk : i % 2 = 1) (hok : ok a b) (p q : Slot) (e : Int) (h : stage (1 + v % 16) a b 1 = (p, q, e)) (he : e ≠ 0) : Calls Try.prog 6 #[stV a b, .int .u8 i, .int .u8 v, .int .i64 f] w fun e w' => e = .returned (.bool true) ∧ Below w.heap.size w w' := by
  obtain ⟨hi0, hi1⟩ := hi
  obtain ⟨hv0, hv1⟩ := hv
  have HP := Aside0.mk h
  have HR := Aside0.mk (decide_eq_true hok)
  have he' : (e != 0) = true := bne_iff_ne.2 he
  clear h hok he
  go_enter Try.func6, Try.ntmps6
  go_wp2_with fail
  refine (Stage_is a b 1 (1 + v % 16) p q e HP.out _).mono ?_
  rintro e' w1 ⟨rfl, hb⟩
  have HB1 := Aside0.mk (below_step (below_alloc (Below.refl w.heap.size w) (oS a b)) hb)
  have HA1 := Aside0.mk ((At6.new w a.s a.v a.t b.s b.v b.t).below hb)
  clear hb
  obtain ⟨ca0, ca1, ca2, ca3, ca4, ca5⟩ := (HA1.out.alloc (oS p q)).six
  go_wp2_with fail
  refine (rValid_is a b true HR.out _).mono ?_
  rintro e' w2 ⟨rfl, hb⟩
  have HB2 := Aside0.mk (below_step (below_alloc HB1.out (oS p q)) hb)
  have HX2 := Aside0.mk ((At6.new w1 p.s p.v p.t q.s q.v q.t).below hb)
  have HL := Aside0.mk (Nat.le_of_lt HA1.out.lt)
  clear hb HB1 HA1
  clear ca0 ca1 ca2 ca3 ca4 ca5
  go_wp2_with fail
  refine (sanity25_any _).mono ?_
  rintro e' w3 ⟨rfl, hb⟩
  have HB3 := Aside0.mk (below_step HB2.out hb)
  go_wp2_with fail
  go_ret
  exact ⟨rfl, HB3.out⟩

set_option maxHeartbeats 16000000 in
set_option maxRecDepth 100000 in
theorem good1 (a b : Slot) (i v f : Int) (w : World) (hi : 0 ≤ i ∧ i ≤ 255) (hv : 0 ≤ v ∧ v ≤ 255) (hk : i % 2 = 1) (hok : ok a b) (h : stage (1 + v % 16) a b 1 = (a, (tS (1 + v % 16) 0), 0)) : Calls Try.prog 6 #[stV a b, .int .u8 i, .int .u8 v, .int .i64 f] w fun e w' => e = .returned (.bool true) ∧ Below w.heap.size w w' := by
  obtain ⟨hi0, hi1⟩ := hi
  obtain ⟨hv0, hv1⟩ := hv
  have HP := Aside0.mk h
  have HR := Aside0.mk (decide_eq_true hok)
  have HV : Aside0 (1 ≤ 1 + v % 16 ∧ 1 + v % 16 ≤ 16) := ⟨by omega⟩
  have HY := Aside0.mk hok.1
  obtain ⟨kk, hkk⟩ : ∃ kk, cho a (tS (1 + v % 16) 5) f = kk := ⟨_, rfl⟩
  have hne : kk ≠ 1 := by rw [← hkk]; exact cho_tS1 _ _ _ (by omega) _
  have hne' : (kk != 1) = true := bne_iff_ne.2 hne
  have HK := Aside0.mk hkk
  clear h hok hkk hne
  go_enter Try.func6, Try.ntmps6
  go_wp2_with fail
  refine (Stage_is a b 1 (1 + v % 16) a (tS (1 + v % 16) 0) 0 HP.out _).mono ?_
  rintro e' w1 ⟨rfl, hb⟩
  have HB1 := Aside0.mk (below_step (below_alloc (Below.refl w.heap.size w) (oS a b)) hb)
  have HA1 := Aside0.mk ((At6.new w a.s a.v a.t b.s b.v b.t).below hb)
  clear hb
  obtain ⟨ca0, ca1, ca2, ca3, ca4, ca5⟩ := (HA1.out.alloc (oS a (tS (1 + v % 16) 0))).six
  go_wp2_with fail
  refine (rValid_is a b true HR.out _).mono ?_
  rintro e' w2 ⟨rfl, hb⟩
  have HB2 := Aside0.mk (below_step (below_alloc HB1.out (oS a (tS (1 + v % 16) 0))) hb)
  have HX2 := Aside0.mk ((At6.new w1 a.s a.v a.t (tS (1 + v % 16) 0).s (tS (1 + v % 16) 0).v (tS (1 + v % 16) 0).t).below hb)
  have HL := Aside0.mk (Nat.le_of_lt HA1.out.lt)
  clear hb HB1 HA1
  clear ca0 ca1 ca2 ca3 ca4 ca5
  go_wp2_with fail
  go_loopw [36] (fun x36 wr => ∃ n : Nat, x36 = .int .i64 (n : Int) ∧ n ≤ 5 ∧ Aside0 (At6 wr w1.heap.size a.s a.v a.t (tS (1 + v % 16) n).s (tS (1 + v % 16) n).v (tS (1 + v % 16) n).t) ∧ Aside0 (Below w.heap.size w wr)) (fun i _ => 5 - (intOf i).toNat)
  case atStart => exact ⟨0, rfl, by omega, HX2, HB2⟩
  case round =>
    clear HX2 HB2
    obtain ⟨n, rfl, hn, HX, HB⟩ := hrel
    by_cases h5 : n < 5
    · by_cases hlt : n < 3
      · have hlt' : (n : Int) < 3 := by omega
        have h5' : (n : Int) < 5 := by omega
        obtain ⟨cx0, cx1, cx2, cx3, cx4, cx5⟩ := (HX.out).six
        have HBG : Aside0 (begn a (tS (1 + v % 16) n) 1 = (a, (tS (1 + v % 16) (n + 1)), 0)) := ⟨(by rw [begn_tS1 HV.out n HY.out, tE, if_pos hlt])⟩
        go_wp2_with fail
        refine (Begin_is a (tS (1 + v % 16) n) 1 a (tS (1 + v % 16) (n + 1)) 0 HBG.out _).mono ?_
        rintro e' w4 ⟨rfl, hb⟩
        have HB4 := Aside0.mk (below_alloc (below_step HB.out hb) (oS a (tS (1 + v % 16) (n + 1))))
        have HX4 := Aside0.mk ((HX.out.below hb).alloc (oS a (tS (1 + v % 16) (n + 1))))
        clear hb HB HX
        clear cx0 cx1 cx2 cx3 cx4 cx5
        obtain ⟨cx0, cx1, cx2, cx3, cx4, cx5⟩ := (HX4.out).six
        have fx := HX4.out.frozen
        have HX5 := Aside0.mk (HX4.out.store a.s a.v a.t (tS (1 + v % 16) (n + 1)).s (tS (1 + v % 16) (n + 1)).v (tS (1 + v % 16) (n + 1)).t)
        have HB5 := Aside0.mk (below_store HB4.out (g := w1.heap.size) HL.out a.s a.v a.t (tS (1 + v % 16) (n + 1)).s (tS (1 + v % 16) (n + 1)).v (tS (1 + v % 16) (n + 1)).t)
        clear HX4 HB4
        go_wp2_with fail
        first
        | exact ⟨⟨n + 1, by go_num, by omega, HX5, HB5⟩, by simp [intOf]; omega⟩
        | (refine ⟨?_, ?_⟩
           · repeat apply Exists.intro
             refine ⟨?_, ?_⟩
             rotate_left
             · repeat' (first | exact rfl | apply And.intro)
             exact ⟨n + 1, by go_num, by omega, HX5, HB5⟩
           · simp [intOf]; omega)
      · have hlt' : ¬ (n : Int) < 3 := by omega
        have h5' : (n : Int) < 5 := by omega
        obtain ⟨cx0, cx1, cx2, cx3, cx4, cx5⟩ := (HX.out).six
        have HBG : Aside0 (begn a (tS (1 + v % 16) n) 1 = (a, (tS (1 + v % 16) (n + 1)), 21)) := ⟨(by rw [begn_tS1 HV.out n HY.out, tE, if_neg hlt])⟩
        go_wp2_with fail
        refine (Begin_is a (tS (1 + v % 16) n) 1 a (tS (1 + v % 16) (n + 1)) 21 HBG.out _).mono ?_
        rintro e' w4 ⟨rfl, hb⟩
        have HB4 := Aside0.mk (below_alloc (below_step HB.out hb) (oS a (tS (1 + v % 16) (n + 1))))
        have HX4 := Aside0.mk ((HX.out.below hb).alloc (oS a (tS (1 + v % 16) (n + 1))))
        clear hb HB HX
        clear cx0 cx1 cx2 cx3 cx4 cx5
        obtain ⟨cx0, cx1, cx2, cx3, cx4, cx5⟩ := (HX4.out).six
        have fx := HX4.out.frozen
        have HX5 := Aside0.mk (HX4.out.store a.s a.v a.t (tS (1 + v % 16) (n + 1)).s (tS (1 + v % 16) (n + 1)).v (tS (1 + v % 16) (n + 1)).t)
        have HB5 := Aside0.mk (below_store HB4.out (g := w1.heap.size) HL.out a.s a.v a.t (tS (1 + v % 16) (n + 1)).s (tS (1 + v % 16) (n + 1)).v (tS (1 + v % 16) (n + 1)).t)
        clear HX4 HB4
        go_wp2_with fail
        first
        | exact ⟨⟨n + 1, by go_num, by omega, HX5, HB5⟩, by simp [intOf]; omega⟩
        | (refine ⟨?_, ?_⟩
           · repeat apply Exists.intro
             refine ⟨?_, ?_⟩
             rotate_left
             · repeat' (first | exact rfl | apply And.intro)
             exact ⟨n + 1, by go_num, by omega, HX5, HB5⟩
           · simp [intOf]; omega)
    · have hn5 : n = 5 := by omega
      subst hn5
      clear h5 hn
      go_wp2_with fail
      refine (sanity25_any _).mono ?_
      rintro e' w4 ⟨rfl, hb⟩
      have HB4 := Aside0.mk (below_step HB.out hb)
      have HX4 := Aside0.mk (HX.out.below hb)
      clear hb HB HX
      obtain ⟨cx0, cx1, cx2, cx3, cx4, cx5⟩ := (HX4.out).six
      go_wp2_with fail
      refine (Choose_is a (tS (1 + v % 16) 5) f kk HK.out _).mono ?_
      rintro e' w5 ⟨rfl, hb⟩
      have HB5 := Aside0.mk (below_step HB4.out hb)
      clear hb HB4
      go_wp2_with fail
      go_ret
      exact ⟨rfl, HB5.out⟩

theorem walk (a b : Slot) (i v f : Int) (w : World) (ha : M64 a) (hb : M64 b) (hi : 0 ≤ i ∧ i ≤ 255) (hv : 0 ≤ v ∧ v ≤ 255) (hf : I64 f) : Calls Try.prog 6 #[stV a b, .int .u8 i, .int .u8 v, .int .i64 f] w fun e w' => e = .returned (.bool true) ∧ Below w.heap.size w w' := by
  have h2 : i % 2 = 0 ∨ i % 2 = 1 := by omega
  have hV : 1 ≤ 1 + v % 16 ∧ 1 + v % 16 ≤ 16 := by omega
  by_cases hok : ok a b
  · rcases h2 with hk | hk
    · obtain ⟨p, q, e, h⟩ : ∃ p q c, stage (1 + v % 16) a b 0 = (p, q, c) := ⟨_, _, _, rfl⟩
      by_cases he : e = 0
      · subst he
        obtain ⟨rfl, rfl⟩ := stage_tS0 hV hok h
        exact good0 _ _ i v f w hi hv hk hok h
      · exact err0 a b i v f w hi hv hk hok p q e h he
    · obtain ⟨p, q, e, h⟩ : ∃ p q c, stage (1 + v % 16) a b 1 = (p, q, c) := ⟨_, _, _, rfl⟩
      by_cases he : e = 0
      · subst he
        obtain ⟨rfl, rfl⟩ := stage_tS1 hV hok h
        exact good1 _ _ i v f w hi hv hk hok h
      · exact err1 a b i v f w hi hv hk hok p q e h he
  · rcases h2 with hk | hk
    · exact bad0 a b i v f w hi hv hk hok
    · exact bad1 a b i v f w hi hv hk hok
end Go.Proofs.Ytippclnmijelfaa.LTri
