/- The walk of the statement that validity, the choice and all transitions are those of the specification. -/
import Derived.Test.YtippclnmijelfaaSlN
namespace Go.Proofs.Ytippclnmijelfaa.LMat
open Go.RowKit Go.Proofs.YtippclnmijelfaaW.PrintWords Go.Proofs.YtippclnmijelfaaW.PrintLast Go.Proofs.YtippclnmijelfaaW.PrintMore
open Go.Proofs.Ytippclnmijelfaa.En Go.Proofs.Ytippclnmijelfaa.Rf Go.Proofs.Ytippclnmijelfaa.Wi Go.Proofs.Ytippclnmijelfaa.Rc Go.Proofs.Ytippclnmijelfaa.Sa Go.Proofs.Ytippclnmijelfaa.Op Go.Proofs.Ytippclnmijelfaa.Sl
set_option linter.unusedVariables false
set_option linter.unusedSimpArgs false
attribute [local go_sem] same47'

set_option maxHeartbeats 32000000 in
set_option maxRecDepth 100000 in
theorem walk (a b : Slot) (i v f : Int) (w : World) (ha : M64 a) (hb : M64 b) (hi : I64 i) (hv : I64 v) (hf : I64 f) : Calls Try.prog 13 #[stV a b, .int .i64 i, .int .i64 v, .int .i64 f] w fun e w' => e = .returned (.bool true) ∧ Below w.heap.size w w' := by
  clear ha hb hi hv hf
  obtain ⟨p1, q1, e1, h1⟩ : ∃ p q c, clear a b i = (p, q, c) := ⟨_, _, _, rfl⟩
  have HP1 := Aside0.mk h1
  clear h1
  obtain ⟨p2, q2, e2, h2⟩ : ∃ p q c, stage v a b i = (p, q, c) := ⟨_, _, _, rfl⟩
  have HP2 := Aside0.mk h2
  clear h2
  obtain ⟨p3, q3, e3, h3⟩ : ∃ p q c, begn a b i = (p, q, c) := ⟨_, _, _, rfl⟩
  have HP3 := Aside0.mk h3
  clear h3
  obtain ⟨p4, q4, e4, h4⟩ : ∃ p q c, confm a b i = (p, q, c) := ⟨_, _, _, rfl⟩
  have HP4 := Aside0.mk h4
  clear h4
  obtain ⟨p5, q5, e5, h5⟩ : ∃ p q c, fal a b i = (p, q, c) := ⟨_, _, _, rfl⟩
  have HP5 := Aside0.mk h5
  clear h5
  obtain ⟨k, hk⟩ : ∃ k, cho a b f = k := ⟨_, rfl⟩
  have HK := Aside0.mk hk
  obtain ⟨r, hr⟩ : ∃ r, decide (ok a b) = r := ⟨_, rfl⟩
  have HR := Aside0.mk hr
  clear hk hr
  go_enter Try.func13, Try.ntmps13
  go_wp2_with fail
  refine (Clear_is a b i p1 q1 e1 HP1.out _).mono ?_
  rintro e w1 ⟨rfl, hb⟩
  have HB1 := Aside0.mk (below_step (below_alloc (Below.refl w.heap.size w) (oS a b)) hb)
  have HA1 := Aside0.mk ((At6.new w a.s a.v a.t b.s b.v b.t).below hb)
  clear hb
  obtain ⟨ca0, ca1, ca2, ca3, ca4, ca5⟩ := (HA1.out.alloc (oS p1 q1)).six
  go_wp2_with fail
  refine (rClear_is a b i p1 q1 e1 HP1.out _).mono ?_
  rintro e w2 ⟨rfl, hb⟩
  have HB2 := Aside0.mk (below_step (below_alloc HB1.out (oS p1 q1)) hb)
  have HA2 := Aside0.mk ((HA1.out.alloc (oS p1 q1)).below hb)
  have HX2 := Aside0.mk ((At6.new w1 p1.s p1.v p1.t q1.s q1.v q1.t).below hb)
  have HN := Aside0.mk (And.intro HA1.out.lt HX2.out.lt)
  clear hb HB1 HA1
  clear ca0 ca1 ca2 ca3 ca4 ca5
  obtain ⟨cx0, cx1, cx2, cx3, cx4, cx5⟩ := (HX2.out.alloc (oS p1 q1)).six
  have HX3 := Aside0.mk (HX2.out.alloc (oS p1 q1))
  have HA3 := Aside0.mk (HA2.out.alloc (oS p1 q1))
  have HY3 := Aside0.mk (At6.new w2 p1.s p1.v p1.t q1.s q1.v q1.t)
  have HB3 := Aside0.mk (below_alloc HB2.out (oS p1 q1))
  clear HX2 HA2 HB2
  obtain ⟨ca0, ca1, ca2, ca3, ca4, ca5⟩ := (HA3.out).six
  go_wp2_with fail
  refine (Stage_is a b i v p2 q2 e2 HP2.out _).mono ?_
  rintro e w3 ⟨rfl, hb⟩
  have HB := Aside0.mk (below_step HB3.out hb)
  have HA := Aside0.mk (HA3.out.below hb)
  have HX := Aside0.mk (HX3.out.below hb)
  have HY := Aside0.mk (HY3.out.below hb)
  clear hb HB3 HA3 HX3 HY3
  clear ca0 ca1 ca2 ca3 ca4 ca5
  clear cx0 cx1 cx2 cx3 cx4 cx5
  have ne1 : w.heap.size ≠ w1.heap.size := Nat.ne_of_lt HN.out.1
  have ne2 : w2.heap.size ≠ w1.heap.size := Nat.ne_of_gt HN.out.2
  have HB' := Aside0.mk (below_store HB.out (g := w1.heap.size) (Nat.le_of_lt HN.out.1) p2.s p2.v p2.t q2.s q2.v q2.t)
  have HA' := Aside0.mk (HA.out.store_far ne1 p2.s p2.v p2.t q2.s q2.v q2.t)
  have HX' := Aside0.mk (HX.out.store p2.s p2.v p2.t q2.s q2.v q2.t)
  have HY' := Aside0.mk (HY.out.store_far ne2 p2.s p2.v p2.t q2.s q2.v q2.t)
  have fx := HX.out.frozen
  clear ne1 ne2
  obtain ⟨cx0, cx1, cx2, cx3, cx4, cx5⟩ := (HX.out).six
  obtain ⟨ca0, ca1, ca2, ca3, ca4, ca5⟩ := (HA'.out).six
  clear HB HA HX HY
  go_wp2_with fail
  clear cx0 cx1 cx2 cx3 cx4 cx5
  clear fx
  refine (rStage_is a b i v p2 q2 e2 HP2.out _).mono ?_
  rintro e w4 ⟨rfl, hb⟩
  have HB := Aside0.mk (below_step HB'.out hb)
  have HA := Aside0.mk (HA'.out.below hb)
  have HX := Aside0.mk (HX'.out.below hb)
  have HY := Aside0.mk (HY'.out.below hb)
  clear hb HB' HA' HX' HY'
  clear ca0 ca1 ca2 ca3 ca4 ca5
  have ne1 : w.heap.size ≠ w2.heap.size := Nat.ne_of_lt (Nat.lt_trans HN.out.1 HN.out.2)
  have ne2 : w1.heap.size ≠ w2.heap.size := Nat.ne_of_lt HN.out.2
  have HB5 := Aside0.mk (below_store HB.out (g := w2.heap.size) (Nat.le_of_lt (Nat.lt_trans HN.out.1 HN.out.2)) p2.s p2.v p2.t q2.s q2.v q2.t)
  have HA5 := Aside0.mk (HA.out.store_far ne1 p2.s p2.v p2.t q2.s q2.v q2.t)
  have HX5 := Aside0.mk (HX.out.store_far ne2 p2.s p2.v p2.t q2.s q2.v q2.t)
  have HY5 := Aside0.mk (HY.out.store p2.s p2.v p2.t q2.s q2.v q2.t)
  have fy := HY.out.frozen
  clear ne1 ne2
  obtain ⟨cz0, cz1, cz2, cz3, cz4, cz5⟩ := (HY.out).six
  obtain ⟨cy0, cy1, cy2, cy3, cy4, cy5⟩ := (HY5.out).six
  obtain ⟨cx0, cx1, cx2, cx3, cx4, cx5⟩ := (HX5.out).six
  obtain ⟨ca0, ca1, ca2, ca3, ca4, ca5⟩ := (HA5.out).six
  clear HB HA HX HY
  go_wp2_with fail
  clear cz0 cz1 cz2 cz3 cz4 cz5
  clear fy
  refine (Begin_is a b i p3 q3 e3 HP3.out _).mono ?_
  rintro e w5 ⟨rfl, hb⟩
  have HB := Aside0.mk (below_step HB5.out hb)
  have HA := Aside0.mk (HA5.out.below hb)
  have HX := Aside0.mk (HX5.out.below hb)
  have HY := Aside0.mk (HY5.out.below hb)
  clear hb HB5 HA5 HX5 HY5
  clear ca0 ca1 ca2 ca3 ca4 ca5
  clear cx0 cx1 cx2 cx3 cx4 cx5
  clear cy0 cy1 cy2 cy3 cy4 cy5
  have ne1 : w.heap.size ≠ w1.heap.size := Nat.ne_of_lt HN.out.1
  have ne2 : w2.heap.size ≠ w1.heap.size := Nat.ne_of_gt HN.out.2
  have HB' := Aside0.mk (below_store HB.out (g := w1.heap.size) (Nat.le_of_lt HN.out.1) p3.s p3.v p3.t q3.s q3.v q3.t)
  have HA' := Aside0.mk (HA.out.store_far ne1 p3.s p3.v p3.t q3.s q3.v q3.t)
  have HX' := Aside0.mk (HX.out.store p3.s p3.v p3.t q3.s q3.v q3.t)
  have HY' := Aside0.mk (HY.out.store_far ne2 p3.s p3.v p3.t q3.s q3.v q3.t)
  have fx := HX.out.frozen
  clear ne1 ne2
  obtain ⟨cx0, cx1, cx2, cx3, cx4, cx5⟩ := (HX.out).six
  obtain ⟨ca0, ca1, ca2, ca3, ca4, ca5⟩ := (HA'.out).six
  clear HB HA HX HY
  go_wp2_with fail
  clear cx0 cx1 cx2 cx3 cx4 cx5
  clear fx
  refine (rBegin_is a b i p3 q3 e3 HP3.out _).mono ?_
  rintro e w6 ⟨rfl, hb⟩
  have HB := Aside0.mk (below_step HB'.out hb)
  have HA := Aside0.mk (HA'.out.below hb)
  have HX := Aside0.mk (HX'.out.below hb)
  have HY := Aside0.mk (HY'.out.below hb)
  clear hb HB' HA' HX' HY'
  clear ca0 ca1 ca2 ca3 ca4 ca5
  have ne1 : w.heap.size ≠ w2.heap.size := Nat.ne_of_lt (Nat.lt_trans HN.out.1 HN.out.2)
  have ne2 : w1.heap.size ≠ w2.heap.size := Nat.ne_of_lt HN.out.2
  have HB7 := Aside0.mk (below_store HB.out (g := w2.heap.size) (Nat.le_of_lt (Nat.lt_trans HN.out.1 HN.out.2)) p3.s p3.v p3.t q3.s q3.v q3.t)
  have HA7 := Aside0.mk (HA.out.store_far ne1 p3.s p3.v p3.t q3.s q3.v q3.t)
  have HX7 := Aside0.mk (HX.out.store_far ne2 p3.s p3.v p3.t q3.s q3.v q3.t)
  have HY7 := Aside0.mk (HY.out.store p3.s p3.v p3.t q3.s q3.v q3.t)
  have fy := HY.out.frozen
  clear ne1 ne2
  obtain ⟨cz0, cz1, cz2, cz3, cz4, cz5⟩ := (HY.out).six
  obtain ⟨cy0, cy1, cy2, cy3, cy4, cy5⟩ := (HY7.out).six
  obtain ⟨cx0, cx1, cx2, cx3, cx4, cx5⟩ := (HX7.out).six
  obtain ⟨ca0, ca1, ca2, ca3, ca4, ca5⟩ := (HA7.out).six
  clear HB HA HX HY
  go_wp2_with fail
  clear cz0 cz1 cz2 cz3 cz4 cz5
  clear fy
  refine (Confirm_is a b i p4 q4 e4 HP4.out _).mono ?_
  rintro e w7 ⟨rfl, hb⟩
  have HB := Aside0.mk (below_step HB7.out hb)
  have HA := Aside0.mk (HA7.out.below hb)
  have HX := Aside0.mk (HX7.out.below hb)
  have HY := Aside0.mk (HY7.out.below hb)
  clear hb HB7 HA7 HX7 HY7
  clear ca0 ca1 ca2 ca3 ca4 ca5
  clear cx0 cx1 cx2 cx3 cx4 cx5
  clear cy0 cy1 cy2 cy3 cy4 cy5
  have ne1 : w.heap.size ≠ w1.heap.size := Nat.ne_of_lt HN.out.1
  have ne2 : w2.heap.size ≠ w1.heap.size := Nat.ne_of_gt HN.out.2
  have HB' := Aside0.mk (below_store HB.out (g := w1.heap.size) (Nat.le_of_lt HN.out.1) p4.s p4.v p4.t q4.s q4.v q4.t)
  have HA' := Aside0.mk (HA.out.store_far ne1 p4.s p4.v p4.t q4.s q4.v q4.t)
  have HX' := Aside0.mk (HX.out.store p4.s p4.v p4.t q4.s q4.v q4.t)
  have HY' := Aside0.mk (HY.out.store_far ne2 p4.s p4.v p4.t q4.s q4.v q4.t)
  have fx := HX.out.frozen
  clear ne1 ne2
  obtain ⟨cx0, cx1, cx2, cx3, cx4, cx5⟩ := (HX.out).six
  obtain ⟨ca0, ca1, ca2, ca3, ca4, ca5⟩ := (HA'.out).six
  clear HB HA HX HY
  go_wp2_with fail
  clear cx0 cx1 cx2 cx3 cx4 cx5
  clear fx
  refine (rConfirm_is a b i p4 q4 e4 HP4.out _).mono ?_
  rintro e w8 ⟨rfl, hb⟩
  have HB := Aside0.mk (below_step HB'.out hb)
  have HA := Aside0.mk (HA'.out.below hb)
  have HX := Aside0.mk (HX'.out.below hb)
  have HY := Aside0.mk (HY'.out.below hb)
  clear hb HB' HA' HX' HY'
  clear ca0 ca1 ca2 ca3 ca4 ca5
  have ne1 : w.heap.size ≠ w2.heap.size := Nat.ne_of_lt (Nat.lt_trans HN.out.1 HN.out.2)
  have ne2 : w1.heap.size ≠ w2.heap.size := Nat.ne_of_lt HN.out.2
  have HB9 := Aside0.mk (below_store HB.out (g := w2.heap.size) (Nat.le_of_lt (Nat.lt_trans HN.out.1 HN.out.2)) p4.s p4.v p4.t q4.s q4.v q4.t)
  have HA9 := Aside0.mk (HA.out.store_far ne1 p4.s p4.v p4.t q4.s q4.v q4.t)
  have HX9 := Aside0.mk (HX.out.store_far ne2 p4.s p4.v p4.t q4.s q4.v q4.t)
  have HY9 := Aside0.mk (HY.out.store p4.s p4.v p4.t q4.s q4.v q4.t)
  have fy := HY.out.frozen
  clear ne1 ne2
  obtain ⟨cz0, cz1, cz2, cz3, cz4, cz5⟩ := (HY.out).six
  obtain ⟨cy0, cy1, cy2, cy3, cy4, cy5⟩ := (HY9.out).six
  obtain ⟨cx0, cx1, cx2, cx3, cx4, cx5⟩ := (HX9.out).six
  obtain ⟨ca0, ca1, ca2, ca3, ca4, ca5⟩ := (HA9.out).six
  clear HB HA HX HY
  go_wp2_with fail
  clear cz0 cz1 cz2 cz3 cz4 cz5
  clear fy
  refine (Fail_is a b i p5 q5 e5 HP5.out _).mono ?_
  rintro e w9 ⟨rfl, hb⟩
  have HB := Aside0.mk (below_step HB9.out hb)
  have HA := Aside0.mk (HA9.out.below hb)
  have HX := Aside0.mk (HX9.out.below hb)
  have HY := Aside0.mk (HY9.out.below hb)
  clear hb HB9 HA9 HX9 HY9
  clear ca0 ca1 ca2 ca3 ca4 ca5
  clear cx0 cx1 cx2 cx3 cx4 cx5
  clear cy0 cy1 cy2 cy3 cy4 cy5
  have ne1 : w.heap.size ≠ w1.heap.size := Nat.ne_of_lt HN.out.1
  have ne2 : w2.heap.size ≠ w1.heap.size := Nat.ne_of_gt HN.out.2
  have HB' := Aside0.mk (below_store HB.out (g := w1.heap.size) (Nat.le_of_lt HN.out.1) p5.s p5.v p5.t q5.s q5.v q5.t)
  have HA' := Aside0.mk (HA.out.store_far ne1 p5.s p5.v p5.t q5.s q5.v q5.t)
  have HX' := Aside0.mk (HX.out.store p5.s p5.v p5.t q5.s q5.v q5.t)
  have HY' := Aside0.mk (HY.out.store_far ne2 p5.s p5.v p5.t q5.s q5.v q5.t)
  have fx := HX.out.frozen
  clear ne1 ne2
  obtain ⟨cx0, cx1, cx2, cx3, cx4, cx5⟩ := (HX.out).six
  obtain ⟨ca0, ca1, ca2, ca3, ca4, ca5⟩ := (HA'.out).six
  clear HB HA HX HY
  go_wp2_with fail
  clear cx0 cx1 cx2 cx3 cx4 cx5
  clear fx
  refine (rFail_is a b i p5 q5 e5 HP5.out _).mono ?_
  rintro e w10 ⟨rfl, hb⟩
  have HB := Aside0.mk (below_step HB'.out hb)
  have HA := Aside0.mk (HA'.out.below hb)
  have HX := Aside0.mk (HX'.out.below hb)
  have HY := Aside0.mk (HY'.out.below hb)
  clear hb HB' HA' HX' HY'
  clear ca0 ca1 ca2 ca3 ca4 ca5
  have ne1 : w.heap.size ≠ w2.heap.size := Nat.ne_of_lt (Nat.lt_trans HN.out.1 HN.out.2)
  have ne2 : w1.heap.size ≠ w2.heap.size := Nat.ne_of_lt HN.out.2
  have HB11 := Aside0.mk (below_store HB.out (g := w2.heap.size) (Nat.le_of_lt (Nat.lt_trans HN.out.1 HN.out.2)) p5.s p5.v p5.t q5.s q5.v q5.t)
  have HA11 := Aside0.mk (HA.out.store_far ne1 p5.s p5.v p5.t q5.s q5.v q5.t)
  have HX11 := Aside0.mk (HX.out.store_far ne2 p5.s p5.v p5.t q5.s q5.v q5.t)
  have HY11 := Aside0.mk (HY.out.store p5.s p5.v p5.t q5.s q5.v q5.t)
  have fy := HY.out.frozen
  clear ne1 ne2
  obtain ⟨cz0, cz1, cz2, cz3, cz4, cz5⟩ := (HY.out).six
  obtain ⟨cy0, cy1, cy2, cy3, cy4, cy5⟩ := (HY11.out).six
  obtain ⟨cx0, cx1, cx2, cx3, cx4, cx5⟩ := (HX11.out).six
  obtain ⟨ca0, ca1, ca2, ca3, ca4, ca5⟩ := (HA11.out).six
  clear HB HA HX HY
  go_wp2_with fail
  clear cz0 cz1 cz2 cz3 cz4 cz5
  clear fy
  clear cx0 cx1 cx2 cx3 cx4 cx5
  clear cy0 cy1 cy2 cy3 cy4 cy5
  clear ca0 ca1 ca2 ca3 ca4 ca5
  have k0 : Six ((St6 w10 w2.heap.size p5.s p5.v p5.t q5.s q5.v q5.t).drew) w1.heap.size p5.s p5.v p5.t q5.s q5.v q5.t ∧ Six ((St6 w10 w2.heap.size p5.s p5.v p5.t q5.s q5.v q5.t).drew) w2.heap.size p5.s p5.v p5.t q5.s q5.v q5.t ∧ Six ((St6 w10 w2.heap.size p5.s p5.v p5.t q5.s q5.v q5.t).drew) w.heap.size a.s a.v a.t b.s b.v b.t := ⟨HX11.out.drew.six, HY11.out.drew.six, HA11.out.drew.six⟩
  have HX := Aside0.mk HX11.out.drew
  have HY := Aside0.mk HY11.out.drew
  have HA := Aside0.mk HA11.out.drew
  have HB := Aside0.mk (below_drew1 HB11.out)
  clear HX11 HY11 HA11 HB11
  refine wp_region_held_drew (S := fun w' => Six w' w1.heap.size p5.s p5.v p5.t q5.s q5.v q5.t ∧ Six w' w2.heap.size p5.s p5.v p5.t q5.s q5.v q5.t ∧ Six w' w.heap.size a.s a.v a.t b.s b.v b.t) (by kernel_rfl) k0 (fun hHeld => ?_)
  refine wpAnyH_ready (rs := [0]) (by kernel_rfl) (by simp) ?_
  refine AllReadyH.cons rfl (fun K hK => ?_) AllReadyH.nil
  go_simp
  go_at_call 40
  refine (sanity25_any _).mono ?_
  rintro e w11 ⟨rfl, hb⟩
  have HX' := Aside0.mk (HX.out.below hb)
  have HY' := Aside0.mk (HY.out.below hb)
  have HA' := Aside0.mk (HA.out.below hb)
  have HB' := Aside0.mk (below_step HB.out hb)
  clear hb HX HY HA HB k0 hHeld
  have HX := HX'
  have HY := HY'
  have HA := HA'
  have HB := HB'
  clear HX' HY' HA' HB'
  have k0 : Six w11 w1.heap.size p5.s p5.v p5.t q5.s q5.v q5.t ∧ Six w11 w2.heap.size p5.s p5.v p5.t q5.s q5.v q5.t ∧ Six w11 w.heap.size a.s a.v a.t b.s b.v b.t := ⟨HX.out.six, HY.out.six, HA.out.six⟩
  refine hK.out _ _ k0 (fun hHeld => ?_)
  clear hK K
  try simp only [Act.put, List.getElem_toArray, List.getElem_cons_zero, List.getElem_cons_succ, List.setIfInBounds_toArray, List.set_cons_zero, List.set_cons_succ]
  refine wpAnyH_take (i := 1) (v := (.bool true)) rfl (by kernel_rfl) (by kernel_rfl) (by kernel_rfl) (fun _ _ _ h => h) (Or.inl ⟨by rfl, fun w' hSw => ?_⟩) (by assumption) ?_
  · go_simp
  try simp only [Act.put, List.getElem_toArray, List.getElem_cons_zero, List.getElem_cons_succ, List.setIfInBounds_toArray, List.set_cons_zero, List.set_cons_succ]
  refine wpAnyH_take (i := 2) (v := (stV p5 q5)) rfl (by kernel_rfl) (by kernel_rfl) (by kernel_rfl) (fun _ _ _ h => h) (Or.inl ⟨by rfl, fun w' hSw => ?_⟩) (by assumption) ?_
  · obtain ⟨⟨s0, s1, s2, s3, s4, s5⟩, ⟨s6, s7, s8, s9, s10, s11⟩, ⟨s12, s13, s14, s15, s16, s17⟩⟩ := hSw; go_simp
  try simp only [Act.put, List.getElem_toArray, List.getElem_cons_zero, List.getElem_cons_succ, List.setIfInBounds_toArray, List.set_cons_zero, List.set_cons_succ]
  refine wpAnyH_take (i := 3) (v := (stV p5 q5)) rfl (by kernel_rfl) (by kernel_rfl) (by kernel_rfl) (fun _ _ _ h => h) (Or.inl ⟨by rfl, fun w' hSw => ?_⟩) (by assumption) ?_
  · obtain ⟨⟨s0, s1, s2, s3, s4, s5⟩, ⟨s6, s7, s8, s9, s10, s11⟩, ⟨s12, s13, s14, s15, s16, s17⟩⟩ := hSw; go_simp
  try simp only [Act.put, List.getElem_toArray, List.getElem_cons_zero, List.getElem_cons_succ, List.setIfInBounds_toArray, List.set_cons_zero, List.set_cons_succ]
  refine wpAnyH_take (i := 4) (v := (.bool true)) rfl (by kernel_rfl) (by kernel_rfl) (by kernel_rfl) (fun _ _ _ h => h) (Or.inl ⟨by rfl, fun w' hSw => ?_⟩) (by assumption) ?_
  · go_simp
  try simp only [Act.put, List.getElem_toArray, List.getElem_cons_zero, List.getElem_cons_succ, List.setIfInBounds_toArray, List.set_cons_zero, List.set_cons_succ]
  refine wpAnyH_take (i := 5) (v := (.bool true)) rfl (by kernel_rfl) (by kernel_rfl) (by kernel_rfl) (fun _ _ _ h => h) (Or.inl ⟨by rfl, fun w' hSw => ?_⟩) (by assumption) ?_
  · go_simp
  try simp only [Act.put, List.getElem_toArray, List.getElem_cons_zero, List.getElem_cons_succ, List.setIfInBounds_toArray, List.set_cons_zero, List.set_cons_succ]
  refine wpAnyH_take (i := 6) (v := (.bool true)) rfl (by kernel_rfl) (by kernel_rfl) (by kernel_rfl) (fun _ _ _ h => h) (Or.inl ⟨by rfl, fun w' hSw => ?_⟩) (by assumption) ?_
  · go_simp
  try simp only [Act.put, List.getElem_toArray, List.getElem_cons_zero, List.getElem_cons_succ, List.setIfInBounds_toArray, List.set_cons_zero, List.set_cons_succ]
  refine wpAnyH_take (i := 7) (v := (.int .i64 e5)) rfl (by kernel_rfl) (by kernel_rfl) (by kernel_rfl) (fun _ _ _ h => h) (Or.inl ⟨by rfl, fun w' hSw => ?_⟩) (by assumption) ?_
  · go_simp
  try simp only [Act.put, List.getElem_toArray, List.getElem_cons_zero, List.getElem_cons_succ, List.setIfInBounds_toArray, List.set_cons_zero, List.set_cons_succ]
  refine wpAnyH_take (i := 8) (v := (.int .i64 e5)) rfl (by kernel_rfl) (by kernel_rfl) (by kernel_rfl) (fun _ _ _ h => h) (Or.inl ⟨by rfl, fun w' hSw => ?_⟩) (by assumption) ?_
  · go_simp
  try simp only [Act.put, List.getElem_toArray, List.getElem_cons_zero, List.getElem_cons_succ, List.setIfInBounds_toArray, List.set_cons_zero, List.set_cons_succ]
  refine wpAnyH_take (i := 9) (v := (.bool true)) rfl (by kernel_rfl) (by kernel_rfl) (by kernel_rfl) (fun _ _ _ h => h) (Or.inl ⟨by rfl, fun w' hSw => ?_⟩) (by assumption) ?_
  · go_simp
  try simp only [Act.put, List.getElem_toArray, List.getElem_cons_zero, List.getElem_cons_succ, List.setIfInBounds_toArray, List.set_cons_zero, List.set_cons_succ]
  refine wpAnyH_take (i := 10) (v := (.bool true)) rfl (by kernel_rfl) (by kernel_rfl) (by kernel_rfl) (fun _ _ _ h => h) (Or.inl ⟨by rfl, fun w' hSw => ?_⟩) (by assumption) ?_
  · go_simp
  try simp only [Act.put, List.getElem_toArray, List.getElem_cons_zero, List.getElem_cons_succ, List.setIfInBounds_toArray, List.set_cons_zero, List.set_cons_succ]
  refine wpAnyH_take (i := 11) (v := (.bool true)) rfl (by kernel_rfl) (by kernel_rfl) (by kernel_rfl) (fun _ _ _ h => h) (Or.inl ⟨by rfl, fun w' hSw => ?_⟩) (by assumption) ?_
  · go_simp
  try simp only [Act.put, List.getElem_toArray, List.getElem_cons_zero, List.getElem_cons_succ, List.setIfInBounds_toArray, List.set_cons_zero, List.set_cons_succ]
  refine wpAnyH_take (i := 12) (v := (stV a b)) rfl (by kernel_rfl) (by kernel_rfl) (by kernel_rfl) (fun _ _ _ h => h) (Or.inl ⟨by rfl, fun w' hSw => ?_⟩) (by assumption) ?_
  · obtain ⟨⟨s0, s1, s2, s3, s4, s5⟩, ⟨s6, s7, s8, s9, s10, s11⟩, ⟨s12, s13, s14, s15, s16, s17⟩⟩ := hSw; go_simp
  try simp only [Act.put, List.getElem_toArray, List.getElem_cons_zero, List.getElem_cons_succ, List.setIfInBounds_toArray, List.set_cons_zero, List.set_cons_succ]
  refine wpAnyH_take (i := 14) (v := (stV a b)) rfl (by kernel_rfl) (by kernel_rfl) (by kernel_rfl) (fun _ _ _ h => h) (Or.inl ⟨by rfl, fun w' hSw => ?_⟩) (by assumption) ?_
  · obtain ⟨⟨s0, s1, s2, s3, s4, s5⟩, ⟨s6, s7, s8, s9, s10, s11⟩, ⟨s12, s13, s14, s15, s16, s17⟩⟩ := hSw; go_simp
  try simp only [Act.put, List.getElem_toArray, List.getElem_cons_zero, List.getElem_cons_succ, List.setIfInBounds_toArray, List.set_cons_zero, List.set_cons_succ]
  refine wpAnyH_ready (rs := [13]) (by kernel_rfl) (by simp) ?_
  refine AllReadyH.cons rfl (fun K hK => ?_) AllReadyH.nil
  go_simp
  go_at_call 52
  refine (Valid_is a b r HR.out _).mono ?_
  rintro e w12 ⟨rfl, hb⟩
  have HX' := Aside0.mk (HX.out.below hb)
  have HY' := Aside0.mk (HY.out.below hb)
  have HA' := Aside0.mk (HA.out.below hb)
  have HB' := Aside0.mk (below_step HB.out hb)
  clear hb HX HY HA HB k0 hHeld
  have HX := HX'
  have HY := HY'
  have HA := HA'
  have HB := HB'
  clear HX' HY' HA' HB'
  have k0 : Six w12 w1.heap.size p5.s p5.v p5.t q5.s q5.v q5.t ∧ Six w12 w2.heap.size p5.s p5.v p5.t q5.s q5.v q5.t ∧ Six w12 w.heap.size a.s a.v a.t b.s b.v b.t := ⟨HX.out.six, HY.out.six, HA.out.six⟩
  refine hK.out _ _ k0 (fun hHeld => ?_)
  clear hK K
  try simp only [Act.put, List.getElem_toArray, List.getElem_cons_zero, List.getElem_cons_succ, List.setIfInBounds_toArray, List.set_cons_zero, List.set_cons_succ]
  refine wpAnyH_ready (rs := [15]) (by kernel_rfl) (by simp) ?_
  refine AllReadyH.cons rfl (fun K hK => ?_) AllReadyH.nil
  go_simp
  go_at_call 39
  refine (rValid_is a b r HR.out _).mono ?_
  rintro e w13 ⟨rfl, hb⟩
  have HX' := Aside0.mk (HX.out.below hb)
  have HY' := Aside0.mk (HY.out.below hb)
  have HA' := Aside0.mk (HA.out.below hb)
  have HB' := Aside0.mk (below_step HB.out hb)
  clear hb HX HY HA HB k0 hHeld
  have HX := HX'
  have HY := HY'
  have HA := HA'
  have HB := HB'
  clear HX' HY' HA' HB'
  have k0 : Six w13 w1.heap.size p5.s p5.v p5.t q5.s q5.v q5.t ∧ Six w13 w2.heap.size p5.s p5.v p5.t q5.s q5.v q5.t ∧ Six w13 w.heap.size a.s a.v a.t b.s b.v b.t := ⟨HX.out.six, HY.out.six, HA.out.six⟩
  refine hK.out _ _ k0 (fun hHeld => ?_)
  clear hK K
  try simp only [Act.put, List.getElem_toArray, List.getElem_cons_zero, List.getElem_cons_succ, List.setIfInBounds_toArray, List.set_cons_zero, List.set_cons_succ]
  refine wpAnyH_take (i := 16) (v := (.bool true)) rfl (by kernel_rfl) (by kernel_rfl) (by kernel_rfl) (fun _ _ _ h => h) (Or.inl ⟨by rfl, fun w' hSw => ?_⟩) (by assumption) ?_
  · go_simp
  try simp only [Act.put, List.getElem_toArray, List.getElem_cons_zero, List.getElem_cons_succ, List.setIfInBounds_toArray, List.set_cons_zero, List.set_cons_succ]
  refine wpAnyH_take (i := 17) (v := (.bool true)) rfl (by kernel_rfl) (by kernel_rfl) (by kernel_rfl) (fun _ _ _ h => h) (Or.inl ⟨by rfl, fun w' hSw => ?_⟩) (by assumption) ?_
  · go_simp
  try simp only [Act.put, List.getElem_toArray, List.getElem_cons_zero, List.getElem_cons_succ, List.setIfInBounds_toArray, List.set_cons_zero, List.set_cons_succ]
  refine wpAnyH_take (i := 18) (v := (.bool true)) rfl (by kernel_rfl) (by kernel_rfl) (by kernel_rfl) (fun _ _ _ h => h) (Or.inl ⟨by rfl, fun w' hSw => ?_⟩) (by assumption) ?_
  · go_simp
  try simp only [Act.put, List.getElem_toArray, List.getElem_cons_zero, List.getElem_cons_succ, List.setIfInBounds_toArray, List.set_cons_zero, List.set_cons_succ]
  refine wpAnyH_take (i := 19) (v := (stV a b)) rfl (by kernel_rfl) (by kernel_rfl) (by kernel_rfl) (fun _ _ _ h => h) (Or.inl ⟨by rfl, fun w' hSw => ?_⟩) (by assumption) ?_
  · obtain ⟨⟨s0, s1, s2, s3, s4, s5⟩, ⟨s6, s7, s8, s9, s10, s11⟩, ⟨s12, s13, s14, s15, s16, s17⟩⟩ := hSw; go_simp
  try simp only [Act.put, List.getElem_toArray, List.getElem_cons_zero, List.getElem_cons_succ, List.setIfInBounds_toArray, List.set_cons_zero, List.set_cons_succ]
  refine wpAnyH_take (i := 20) (v := (.int .i64 f)) rfl (by kernel_rfl) (by kernel_rfl) (by kernel_rfl) (fun _ _ _ h => h) (Or.inl ⟨by rfl, fun w' hSw => ?_⟩) (by assumption) ?_
  · go_simp
  try simp only [Act.put, List.getElem_toArray, List.getElem_cons_zero, List.getElem_cons_succ, List.setIfInBounds_toArray, List.set_cons_zero, List.set_cons_succ]
  refine wpAnyH_take (i := 22) (v := (stV a b)) rfl (by kernel_rfl) (by kernel_rfl) (by kernel_rfl) (fun _ _ _ h => h) (Or.inl ⟨by rfl, fun w' hSw => ?_⟩) (by assumption) ?_
  · obtain ⟨⟨s0, s1, s2, s3, s4, s5⟩, ⟨s6, s7, s8, s9, s10, s11⟩, ⟨s12, s13, s14, s15, s16, s17⟩⟩ := hSw; go_simp
  try simp only [Act.put, List.getElem_toArray, List.getElem_cons_zero, List.getElem_cons_succ, List.setIfInBounds_toArray, List.set_cons_zero, List.set_cons_succ]
  refine wpAnyH_take (i := 23) (v := (.int .i64 f)) rfl (by kernel_rfl) (by kernel_rfl) (by kernel_rfl) (fun _ _ _ h => h) (Or.inl ⟨by rfl, fun w' hSw => ?_⟩) (by assumption) ?_
  · go_simp
  try simp only [Act.put, List.getElem_toArray, List.getElem_cons_zero, List.getElem_cons_succ, List.setIfInBounds_toArray, List.set_cons_zero, List.set_cons_succ]
  refine wpAnyH_ready (rs := [21]) (by kernel_rfl) (by simp) ?_
  refine AllReadyH.cons rfl (fun K hK => ?_) AllReadyH.nil
  go_simp
  go_at_call 42
  refine (Choose_is a b f k HK.out _).mono ?_
  rintro e w14 ⟨rfl, hb⟩
  have HX' := Aside0.mk (HX.out.below hb)
  have HY' := Aside0.mk (HY.out.below hb)
  have HA' := Aside0.mk (HA.out.below hb)
  have HB' := Aside0.mk (below_step HB.out hb)
  clear hb HX HY HA HB k0 hHeld
  have HX := HX'
  have HY := HY'
  have HA := HA'
  have HB := HB'
  clear HX' HY' HA' HB'
  have k0 : Six w14 w1.heap.size p5.s p5.v p5.t q5.s q5.v q5.t ∧ Six w14 w2.heap.size p5.s p5.v p5.t q5.s q5.v q5.t ∧ Six w14 w.heap.size a.s a.v a.t b.s b.v b.t := ⟨HX.out.six, HY.out.six, HA.out.six⟩
  refine hK.out _ _ k0 (fun hHeld => ?_)
  clear hK K
  try simp only [Act.put, List.getElem_toArray, List.getElem_cons_zero, List.getElem_cons_succ, List.setIfInBounds_toArray, List.set_cons_zero, List.set_cons_succ]
  refine wpAnyH_ready (rs := [24]) (by kernel_rfl) (by simp) ?_
  refine AllReadyH.cons rfl (fun K hK => ?_) AllReadyH.nil
  go_simp
  go_at_call 53
  refine (rChoose_is a b f k HK.out _).mono ?_
  rintro e w15 ⟨rfl, hb⟩
  have HX' := Aside0.mk (HX.out.below hb)
  have HY' := Aside0.mk (HY.out.below hb)
  have HA' := Aside0.mk (HA.out.below hb)
  have HB' := Aside0.mk (below_step HB.out hb)
  clear hb HX HY HA HB k0 hHeld
  have HX := HX'
  have HY := HY'
  have HA := HA'
  have HB := HB'
  clear HX' HY' HA' HB'
  have k0 : Six w15 w1.heap.size p5.s p5.v p5.t q5.s q5.v q5.t ∧ Six w15 w2.heap.size p5.s p5.v p5.t q5.s q5.v q5.t ∧ Six w15 w.heap.size a.s a.v a.t b.s b.v b.t := ⟨HX.out.six, HY.out.six, HA.out.six⟩
  refine hK.out _ _ k0 (fun hHeld => ?_)
  clear hK K
  try simp only [Act.put, List.getElem_toArray, List.getElem_cons_zero, List.getElem_cons_succ, List.setIfInBounds_toArray, List.set_cons_zero, List.set_cons_succ]
  refine wpAnyH_take (i := 25) (v := (.bool true)) rfl (by kernel_rfl) (by kernel_rfl) (by kernel_rfl) (fun _ _ _ h => h) (Or.inl ⟨by rfl, fun w' hSw => ?_⟩) (by assumption) ?_
  · go_simp
  try simp only [Act.put, List.getElem_toArray, List.getElem_cons_zero, List.getElem_cons_succ, List.setIfInBounds_toArray, List.set_cons_zero, List.set_cons_succ]
  refine wpAnyH_take (i := 26) (v := (.bool true)) rfl (by kernel_rfl) (by kernel_rfl) (by kernel_rfl) (fun _ _ _ h => h) (Or.inl ⟨by rfl, fun w' hSw => ?_⟩) (by assumption) ?_
  · go_simp
  try simp only [Act.put, List.getElem_toArray, List.getElem_cons_zero, List.getElem_cons_succ, List.setIfInBounds_toArray, List.set_cons_zero, List.set_cons_succ]
  refine wpAnyH_take (i := 27) (v := (.bool true)) rfl (by kernel_rfl) (by kernel_rfl) (by kernel_rfl) (fun _ _ _ h => h) (Or.inl ⟨by rfl, fun w' hSw => ?_⟩) (by assumption) ?_
  · go_simp
  try simp only [Act.put, List.getElem_toArray, List.getElem_cons_zero, List.getElem_cons_succ, List.setIfInBounds_toArray, List.set_cons_zero, List.set_cons_succ]
  refine wpAnyH_done (by kernel_rfl) ?_ _
  go_wp2_with fail
  go_ret
  exact ⟨rfl, HB.out⟩
end Go.Proofs.Ytippclnmijelfaa.LMat
