/- The examples of layer 25 hold: the sanity function answers true. -/
import Derived.Test.YtippclnmijelfaaSlLaw
namespace Go.Proofs.Ytippclnmijelfaa.Sl
open Go.RowKit Go.Proofs.YtippclnmijelfaaW.PrintWords Go.Proofs.YtippclnmijelfaaW.PrintLast Go.Proofs.YtippclnmijelfaaW.PrintMore
open Go.Proofs.Ytippclnmijelfaa.En Go.Proofs.Ytippclnmijelfaa.Rf Go.Proofs.Ytippclnmijelfaa.Wi Go.Proofs.Ytippclnmijelfaa.Rc Go.Proofs.Ytippclnmijelfaa.Sa Go.Proofs.Ytippclnmijelfaa.Op
set_option linter.unusedVariables false
set_option linter.unusedSimpArgs false

attribute [local go_sem] same47'
set_option maxHeartbeats 16000000 in
set_option maxRecDepth 100000 in
theorem sanity25_any (w : World) : Calls Try.prog 40 #[] w fun e w' => e = .returned (.bool true) ∧ Below w.heap.size w w' := by
  obtain ⟨s, hs⟩ : ∃ s, txt ⟨3, 3, 0⟩ ⟨2, 4, 1⟩ = s := ⟨_, rfl⟩
  have hok : ok ⟨3, 3, 0⟩ ⟨2, 4, 1⟩ := by decide
  have hz := (txt_size ⟨3, 3, 0⟩ ⟨2, 4, 1⟩ (ok_all hok)).2
  have hd := dcd_txt ⟨3, 3, 0⟩ ⟨2, 4, 1⟩ (ok_all hok)
  rw [hs] at hz hd
  rw [if_pos hok] at hd
  have HS := Aside0.mk hs
  have HZ := Aside0.mk hz
  have HD := Aside0.mk hd
  clear hs hz hd hok
  go_enter Try.func40, Try.ntmps40
  go_wp2_with fail
  refine (Clear_is ⟨3, 3, 0⟩ ⟨0, 0, 0⟩ 0 ⟨3, 3, 0⟩ ⟨0, 0, 0⟩ 21 (by decide) _).mono ?_
  rintro e w1 ⟨rfl, hb⟩
  have HB1 := Aside0.mk (below_step (below_alloc (Below.refl w.heap.size w) (.cells #[.int .i64 3, .int .i64 3, .int .i64 0, .int .i64 0, .int .i64 0, .int .i64 0] 49 (0, 0))) hb)
  have HAs1 := Aside0.mk ((At6.new w 3 3 0 0 0 0).below hb)
  clear hb
  obtain ⟨cs0, cs1, cs2, cs3, cs4, cs5⟩ := (HAs1.out.alloc (.cells #[.int .i64 3, .int .i64 3, .int .i64 0, .int .i64 0, .int .i64 0, .int .i64 0] 49 (0, 0))).six
  go_wp2_with fail
  refine (Stage_is ⟨3, 3, 0⟩ ⟨0, 0, 0⟩ 1 4 ⟨3, 3, 0⟩ ⟨1, 4, 0⟩ 0 (by decide) _).mono ?_
  rintro e w2 ⟨rfl, hb⟩
  have HB2 := Aside0.mk (below_step (below_alloc HB1.out (.cells #[.int .i64 3, .int .i64 3, .int .i64 0, .int .i64 0, .int .i64 0, .int .i64 0] 49 (0, 0))) hb)
  have HAs2 := Aside0.mk ((HAs1.out.alloc (.cells #[.int .i64 3, .int .i64 3, .int .i64 0, .int .i64 0, .int .i64 0, .int .i64 0] 49 (0, 0))).below hb)
  clear hb HB1 HAs1
  clear cs0 cs1 cs2 cs3 cs4 cs5
  go_wp2_with fail
  refine (Begin_is ⟨3, 3, 0⟩ ⟨1, 4, 0⟩ 1 ⟨3, 3, 0⟩ ⟨2, 4, 1⟩ 0 (by decide) _).mono ?_
  rintro e w3 ⟨rfl, hb⟩
  have HB3 := Aside0.mk (below_step (below_alloc HB2.out (.cells #[.int .i64 3, .int .i64 3, .int .i64 0, .int .i64 1, .int .i64 4, .int .i64 0] 49 (0, 0))) hb)
  have HAs3 := Aside0.mk ((HAs2.out.alloc (.cells #[.int .i64 3, .int .i64 3, .int .i64 0, .int .i64 1, .int .i64 4, .int .i64 0] 49 (0, 0))).below hb)
  have HAt3 := Aside0.mk ((At6.new w2 3 3 0 1 4 0).below hb)
  clear hb HB2 HAs2
  go_wp2_with fail
  refine (Confirm_is ⟨3, 3, 0⟩ ⟨2, 4, 1⟩ 1 ⟨3, 3, 0⟩ ⟨3, 4, 0⟩ 0 (by decide) _).mono ?_
  rintro e w4 ⟨rfl, hb⟩
  have HB4 := Aside0.mk (below_step (below_alloc HB3.out (.cells #[.int .i64 3, .int .i64 3, .int .i64 0, .int .i64 2, .int .i64 4, .int .i64 1] 49 (0, 0))) hb)
  have HAs4 := Aside0.mk ((HAs3.out.alloc (.cells #[.int .i64 3, .int .i64 3, .int .i64 0, .int .i64 2, .int .i64 4, .int .i64 1] 49 (0, 0))).below hb)
  have HAt4 := Aside0.mk ((HAt3.out.alloc (.cells #[.int .i64 3, .int .i64 3, .int .i64 0, .int .i64 2, .int .i64 4, .int .i64 1] 49 (0, 0))).below hb)
  have HAu4 := Aside0.mk ((At6.new w3 3 3 0 2 4 1).below hb)
  clear hb HB3 HAs3 HAt3
  obtain ⟨cu0, cu1, cu2, cu3, cu4, cu5⟩ := (HAu4.out.alloc (.cells #[.int .i64 3, .int .i64 3, .int .i64 0, .int .i64 3, .int .i64 4, .int .i64 0] 49 (0, 0))).six
  go_wp2_with fail
  refine (Fail_is ⟨3, 3, 0⟩ ⟨2, 4, 1⟩ 1 ⟨3, 3, 0⟩ ⟨4, 4, 1⟩ 0 (by decide) _).mono ?_
  rintro e w5 ⟨rfl, hb⟩
  have HB5 := Aside0.mk (below_step (below_alloc HB4.out (.cells #[.int .i64 3, .int .i64 3, .int .i64 0, .int .i64 3, .int .i64 4, .int .i64 0] 49 (0, 0))) hb)
  have HAs5 := Aside0.mk ((HAs4.out.alloc (.cells #[.int .i64 3, .int .i64 3, .int .i64 0, .int .i64 3, .int .i64 4, .int .i64 0] 49 (0, 0))).below hb)
  have HAt5 := Aside0.mk ((HAt4.out.alloc (.cells #[.int .i64 3, .int .i64 3, .int .i64 0, .int .i64 3, .int .i64 4, .int .i64 0] 49 (0, 0))).below hb)
  have HAu5 := Aside0.mk ((HAu4.out.alloc (.cells #[.int .i64 3, .int .i64 3, .int .i64 0, .int .i64 3, .int .i64 4, .int .i64 0] 49 (0, 0))).below hb)
  have HAv5 := Aside0.mk ((At6.new w4 3 3 0 3 4 0).below hb)
  clear hb HB4 HAs4 HAt4 HAu4
  clear cu0 cu1 cu2 cu3 cu4 cu5
  obtain ⟨cs0, cs1, cs2, cs3, cs4, cs5⟩ := (HAs5.out.alloc (.cells #[.int .i64 3, .int .i64 3, .int .i64 0, .int .i64 4, .int .i64 4, .int .i64 1] 49 (0, 0))).six
  go_wp2_with fail
  refine (Stage_is ⟨3, 3, 0⟩ ⟨0, 0, 0⟩ 2 4 ⟨3, 3, 0⟩ ⟨0, 0, 0⟩ 1 (by decide) _).mono ?_
  rintro e w6 ⟨rfl, hb⟩
  have HB6 := Aside0.mk (below_step (below_alloc HB5.out (.cells #[.int .i64 3, .int .i64 3, .int .i64 0, .int .i64 4, .int .i64 4, .int .i64 1] 49 (0, 0))) hb)
  have HAs6 := Aside0.mk ((HAs5.out.alloc (.cells #[.int .i64 3, .int .i64 3, .int .i64 0, .int .i64 4, .int .i64 4, .int .i64 1] 49 (0, 0))).below hb)
  have HAt6 := Aside0.mk ((HAt5.out.alloc (.cells #[.int .i64 3, .int .i64 3, .int .i64 0, .int .i64 4, .int .i64 4, .int .i64 1] 49 (0, 0))).below hb)
  have HAu6 := Aside0.mk ((HAu5.out.alloc (.cells #[.int .i64 3, .int .i64 3, .int .i64 0, .int .i64 4, .int .i64 4, .int .i64 1] 49 (0, 0))).below hb)
  have HAv6 := Aside0.mk ((HAv5.out.alloc (.cells #[.int .i64 3, .int .i64 3, .int .i64 0, .int .i64 4, .int .i64 4, .int .i64 1] 49 (0, 0))).below hb)
  have HAx6 := Aside0.mk ((At6.new w5 3 3 0 4 4 1).below hb)
  clear hb HB5 HAs5 HAt5 HAu5 HAv5
  clear cs0 cs1 cs2 cs3 cs4 cs5
  obtain ⟨cu0, cu1, cu2, cu3, cu4, cu5⟩ := (HAu6.out.alloc (.cells #[.int .i64 3, .int .i64 3, .int .i64 0, .int .i64 0, .int .i64 0, .int .i64 0] 49 (0, 0))).six
  go_wp2_with fail
  refine (Encode_is ⟨3, 3, 0⟩ ⟨2, 4, 1⟩ s HS.out (ok_all (by decide)) _).mono ?_
  rintro e w7 ⟨rfl, hb⟩
  have HB7 := Aside0.mk (below_step (below_alloc HB6.out (.cells #[.int .i64 3, .int .i64 3, .int .i64 0, .int .i64 0, .int .i64 0, .int .i64 0] 49 (0, 0))) hb)
  have HAs7 := Aside0.mk ((HAs6.out.alloc (.cells #[.int .i64 3, .int .i64 3, .int .i64 0, .int .i64 0, .int .i64 0, .int .i64 0] 49 (0, 0))).below hb)
  have HAt7 := Aside0.mk ((HAt6.out.alloc (.cells #[.int .i64 3, .int .i64 3, .int .i64 0, .int .i64 0, .int .i64 0, .int .i64 0] 49 (0, 0))).below hb)
  have HAu7 := Aside0.mk ((HAu6.out.alloc (.cells #[.int .i64 3, .int .i64 3, .int .i64 0, .int .i64 0, .int .i64 0, .int .i64 0] 49 (0, 0))).below hb)
  have HAv7 := Aside0.mk ((HAv6.out.alloc (.cells #[.int .i64 3, .int .i64 3, .int .i64 0, .int .i64 0, .int .i64 0, .int .i64 0] 49 (0, 0))).below hb)
  have HAx7 := Aside0.mk ((HAx6.out.alloc (.cells #[.int .i64 3, .int .i64 3, .int .i64 0, .int .i64 0, .int .i64 0, .int .i64 0] 49 (0, 0))).below hb)
  clear hb HB6 HAs6 HAt6 HAu6 HAv6 HAx6
  clear cu0 cu1 cu2 cu3 cu4 cu5
  go_wp2_with fail
  refine (Decode_is s (by have := HZ.out; omega) ⟨3, 3, 0⟩ ⟨2, 4, 1⟩ 0 HD.out _).mono ?_
  rintro e w8 ⟨rfl, hb⟩
  have HB8 := Aside0.mk (below_step HB7.out hb)
  have HAs8 := Aside0.mk ((HAs7.out).below hb)
  have HAt8 := Aside0.mk ((HAt7.out).below hb)
  have HAu8 := Aside0.mk ((HAu7.out).below hb)
  have HAv8 := Aside0.mk ((HAv7.out).below hb)
  have HAx8 := Aside0.mk ((HAx7.out).below hb)
  clear hb HB7 HAs7 HAt7 HAu7 HAv7 HAx7
  obtain ⟨cs0, cs1, cs2, cs3, cs4, cs5⟩ := (HAs8.out.alloc (.cells #[.int .i64 3, .int .i64 3, .int .i64 0, .int .i64 2, .int .i64 4, .int .i64 1] 49 (0, 0))).six
  go_wp2_with fail
  refine (Valid_is ⟨3, 3, 0⟩ ⟨0, 0, 0⟩ true (by decide) _).mono ?_
  rintro e w9 ⟨rfl, hb⟩
  have HB9 := Aside0.mk (below_step (below_alloc HB8.out (.cells #[.int .i64 3, .int .i64 3, .int .i64 0, .int .i64 2, .int .i64 4, .int .i64 1] 49 (0, 0))) hb)
  have HAs9 := Aside0.mk ((HAs8.out.alloc (.cells #[.int .i64 3, .int .i64 3, .int .i64 0, .int .i64 2, .int .i64 4, .int .i64 1] 49 (0, 0))).below hb)
  have HAt9 := Aside0.mk ((HAt8.out.alloc (.cells #[.int .i64 3, .int .i64 3, .int .i64 0, .int .i64 2, .int .i64 4, .int .i64 1] 49 (0, 0))).below hb)
  have HAu9 := Aside0.mk ((HAu8.out.alloc (.cells #[.int .i64 3, .int .i64 3, .int .i64 0, .int .i64 2, .int .i64 4, .int .i64 1] 49 (0, 0))).below hb)
  have HAv9 := Aside0.mk ((HAv8.out.alloc (.cells #[.int .i64 3, .int .i64 3, .int .i64 0, .int .i64 2, .int .i64 4, .int .i64 1] 49 (0, 0))).below hb)
  have HAx9 := Aside0.mk ((HAx8.out.alloc (.cells #[.int .i64 3, .int .i64 3, .int .i64 0, .int .i64 2, .int .i64 4, .int .i64 1] 49 (0, 0))).below hb)
  have HAback9 := Aside0.mk ((At6.new w8 3 3 0 2 4 1).below hb)
  clear hb HB8 HAs8 HAt8 HAu8 HAv8 HAx8
  clear cs0 cs1 cs2 cs3 cs4 cs5
  obtain ⟨cback0, cback1, cback2, cback3, cback4, cback5⟩ := (HAback9.out).six
  obtain ⟨cu0, cu1, cu2, cu3, cu4, cu5⟩ := (HAu9.out).six
  obtain ⟨cs0, cs1, cs2, cs3, cs4, cs5⟩ := (HAs9.out).six
  go_wp2_with fail
  refine (Choose_is ⟨3, 3, 0⟩ ⟨0, 0, 0⟩ 1 0 (by decide) _).mono ?_
  rintro e w10 ⟨rfl, hb⟩
  have HB10 := Aside0.mk (below_step HB9.out hb)
  have HAs10 := Aside0.mk ((HAs9.out).below hb)
  have HAt10 := Aside0.mk ((HAt9.out).below hb)
  have HAu10 := Aside0.mk ((HAu9.out).below hb)
  have HAv10 := Aside0.mk ((HAv9.out).below hb)
  have HAx10 := Aside0.mk ((HAx9.out).below hb)
  clear hb HB9 HAs9 HAt9 HAu9 HAv9 HAx9 HAback9
  clear cback0 cback1 cback2 cback3 cback4 cback5 cu0 cu1 cu2 cu3 cu4 cu5 cs0 cs1 cs2 cs3 cs4 cs5
  obtain ⟨cs0, cs1, cs2, cs3, cs4, cs5⟩ := (HAs10.out).six
  go_wp2_with fail
  refine (Choose_is ⟨3, 3, 0⟩ ⟨0, 0, 0⟩ 4 (-1) (by decide) _).mono ?_
  rintro e w11 ⟨rfl, hb⟩
  have HB11 := Aside0.mk (below_step HB10.out hb)
  have HAt11 := Aside0.mk ((HAt10.out).below hb)
  have HAu11 := Aside0.mk ((HAu10.out).below hb)
  have HAv11 := Aside0.mk ((HAv10.out).below hb)
  have HAx11 := Aside0.mk ((HAx10.out).below hb)
  clear hb HB10 HAs10 HAt10 HAu10 HAv10 HAx10
  clear cs0 cs1 cs2 cs3 cs4 cs5
  obtain ⟨ct0, ct1, ct2, ct3, ct4, ct5⟩ := (HAt11.out).six
  go_wp2_with fail
  refine (Choose_is ⟨3, 3, 0⟩ ⟨1, 4, 0⟩ 1 1 (by decide) _).mono ?_
  rintro e w12 ⟨rfl, hb⟩
  have HB12 := Aside0.mk (below_step HB11.out hb)
  have HAu12 := Aside0.mk ((HAu11.out).below hb)
  have HAv12 := Aside0.mk ((HAv11.out).below hb)
  have HAx12 := Aside0.mk ((HAx11.out).below hb)
  clear hb HB11 HAt11 HAu11 HAv11 HAx11
  clear ct0 ct1 ct2 ct3 ct4 ct5
  obtain ⟨cu0, cu1, cu2, cu3, cu4, cu5⟩ := (HAu12.out).six
  obtain ⟨cv0, cv1, cv2, cv3, cv4, cv5⟩ := (HAv12.out).six
  go_wp2_with fail
  refine (Choose_is ⟨3, 3, 0⟩ ⟨3, 4, 0⟩ 1 1 (by decide) _).mono ?_
  rintro e w13 ⟨rfl, hb⟩
  have HB13 := Aside0.mk (below_step HB12.out hb)
  have HAx13 := Aside0.mk ((HAx12.out).below hb)
  clear hb HB12 HAu12 HAv12 HAx12
  clear cu0 cu1 cu2 cu3 cu4 cu5 cv0 cv1 cv2 cv3 cv4 cv5
  obtain ⟨cx0, cx1, cx2, cx3, cx4, cx5⟩ := (HAx13.out).six
  go_wp2_with fail
  refine (Choose_is ⟨3, 3, 0⟩ ⟨4, 4, 1⟩ 1 0 (by decide) _).mono ?_
  rintro e w14 ⟨rfl, hb⟩
  have HB14 := Aside0.mk (below_step HB13.out hb)
  clear hb HB13 HAx13
  clear cx0 cx1 cx2 cx3 cx4 cx5
  go_wp2_with fail
  go_ret
  exact ⟨rfl, HB14.out⟩
end Go.Proofs.Ytippclnmijelfaa.Sl
