/- The walk of the statement that the texts of the states are those of the specification. -/
import Derived.Test.YtippclnmijelfaaSlN
namespace Go.Proofs.Ytippclnmijelfaa.LSle
open Go.RowKit Go.Proofs.YtippclnmijelfaaW.PrintWords Go.Proofs.YtippclnmijelfaaW.PrintLast Go.Proofs.YtippclnmijelfaaW.PrintMore
open Go.Proofs.Ytippclnmijelfaa.En Go.Proofs.Ytippclnmijelfaa.Rf Go.Proofs.Ytippclnmijelfaa.Wi Go.Proofs.Ytippclnmijelfaa.Rc Go.Proofs.Ytippclnmijelfaa.Sa Go.Proofs.Ytippclnmijelfaa.Op Go.Proofs.Ytippclnmijelfaa.Sl
set_option linter.unusedVariables false
set_option linter.unusedSimpArgs false
attribute [local go_sem] same47'
theorem all6 {a b : Slot} (ha : M64 a) (hb : M64 b) : AllI (nums6 a b) := by
  intro x hx
  simp only [nums6, List.mem_cons, List.mem_nil_iff, or_false] at hx
  rcases hx with rfl | rfl | rfl | rfl | rfl | rfl
  · exact ha.1
  · exact ha.2.1
  · exact ha.2.2
  · exact hb.1
  · exact hb.2.1
  · exact hb.2.2

set_option maxHeartbeats 32000000 in
set_option maxRecDepth 100000 in
theorem long (a b : Slot) (s : ByteArray) (w : World) (hs : s.size ≤ 140737488351232) (hl : 500 < s.size) : Calls Try.prog 14 #[stV a b, .string s] w fun e w' => e = .returned (.bool true) ∧ Below w.heap.size w w' := by
  go_enter Try.func14, Try.ntmps14
  go_wp2_with fail
  refine (sanity25_any _).mono ?_
  rintro e' w1 ⟨rfl, hb⟩
  have HB1 := Aside0.mk (below_step (below_alloc (Below.refl w.heap.size w) (oS a b)) hb)
  go_wp2_with fail
  go_ret
  exact ⟨rfl, HB1.out⟩

set_option maxHeartbeats 32000000 in
set_option maxRecDepth 100000 in
theorem short10 (a b : Slot) (s : ByteArray) (w : World) (hs : s.size ≤ 500) (ha : M64 a) (hb : M64 b) (hok : ok a b) (p q : Slot) (e : Int) (hd : dcd s = (p, q, 0)) : Calls Try.prog 14 #[stV a b, .string s] w fun e w' => e = .returned (.bool true) ∧ Below w.heap.size w w' := by
  have HD := Aside0.mk hd
  have HI := Aside0.mk (all6 ha hb)
  have hs2 : s.size ≤ 100000 := by omega
  obtain ⟨x, hx⟩ : ∃ x, txt a b = x := ⟨_, rfl⟩
  have hxs := (txt_size a b HI.out).2
  have hxd := dcd_txt a b HI.out
  rw [hx] at hxs hxd
  rw [if_pos hok] at hxd
  have HX := Aside0.mk hx
  have HXS : Aside0 (x.size ≤ 100000) := ⟨by omega⟩
  have HXD : Aside0 (dcd x = (a, b, 0)) := ⟨hxd⟩
  have HR := Aside0.mk (decide_eq_true hok)
  have hh := dcd_ok s (by rw [hd])
  rw [hd] at hh
  have HT := Aside0.mk hh.2
  have HTI := Aside0.mk (ok_all hh.1)
  clear hh
  clear hd ha hb hx hxs hxd hok
  go_enter Try.func14, Try.ntmps14
  go_wp2_with fail
  refine (Decode_is s hs2 p q 0 HD.out _).mono ?_
  rintro e' w1 ⟨rfl, hb⟩
  have HB1 := Aside0.mk (below_step (below_alloc (Below.refl w.heap.size w) (oS a b)) hb)
  have HA1 := Aside0.mk ((At6.new w a.s a.v a.t b.s b.v b.t).below hb)
  clear hb
  go_wp2_with fail
  refine (rDecode_is s hs2 p q 0 HD.out _).mono ?_
  rintro e' w2 ⟨rfl, hb⟩
  have HB2 := Aside0.mk (below_step (below_alloc HB1.out (oS p q)) hb)
  have HA2 := Aside0.mk ((HA1.out.alloc (oS p q)).below hb)
  have HP2 := Aside0.mk ((At6.new w1 p.s p.v p.t q.s q.v q.t).below hb)
  clear hb HB1 HA1
  obtain ⟨ca0, ca1, ca2, ca3, ca4, ca5⟩ := (HA2.out.alloc (oS p q)).six
  go_wp2_with fail
  refine (Encode_is a b x HX.out HI.out _).mono ?_
  rintro e' w3 ⟨rfl, hb⟩
  have HB3 := Aside0.mk (below_step (below_alloc HB2.out (oS p q)) hb)
  have HA3 := Aside0.mk ((HA2.out.alloc (oS p q)).below hb)
  have HP3 := Aside0.mk ((HP2.out.alloc (oS p q)).below hb)
  have HQ3 := Aside0.mk ((At6.new w2 p.s p.v p.t q.s q.v q.t).below hb)
  clear hb HB2 HA2 HP2
  clear ca0 ca1 ca2 ca3 ca4 ca5
  go_wp2_with fail
  refine (Decode_is x HXS.out a b 0 HXD.out _).mono ?_
  rintro e' w4 ⟨rfl, hb⟩
  have HB4 := Aside0.mk (below_step HB3.out hb)
  have HA4 := Aside0.mk (HA3.out.below hb)
  have HP4 := Aside0.mk (HP3.out.below hb)
  have HQ4 := Aside0.mk (HQ3.out.below hb)
  clear hb HB3 HA3 HP3 HQ3
  obtain ⟨ca0, ca1, ca2, ca3, ca4, ca5⟩ := (HA4.out.alloc (oS a b)).six
  go_wp2_with fail
  refine (rValid_is a b true HR.out _).mono ?_
  rintro e' w5 ⟨rfl, hb⟩
  have HB5 := Aside0.mk (below_step (below_alloc HB4.out (oS a b)) hb)
  have HA5 := Aside0.mk ((HA4.out.alloc (oS a b)).below hb)
  have HP5 := Aside0.mk ((HP4.out.alloc (oS a b)).below hb)
  have HQ5 := Aside0.mk ((HQ4.out.alloc (oS a b)).below hb)
  have HV5 := Aside0.mk ((At6.new w4 a.s a.v a.t b.s b.v b.t).below hb)
  clear hb HB4 HA4 HP4 HQ4
  clear ca0 ca1 ca2 ca3 ca4 ca5
  obtain ⟨ca0, ca1, ca2, ca3, ca4, ca5⟩ := (HA5.out).six
  obtain ⟨cv0, cv1, cv2, cv3, cv4, cv5⟩ := (HV5.out).six
  go_wp2_with fail
  refine (rValid_is a b true HR.out _).mono ?_
  rintro e' w6 ⟨rfl, hb⟩
  have HB6 := Aside0.mk (below_step HB5.out hb)
  have HA6 := Aside0.mk (HA5.out.below hb)
  have HP6 := Aside0.mk (HP5.out.below hb)
  have HQ6 := Aside0.mk (HQ5.out.below hb)
  have HV6 := Aside0.mk (HV5.out.below hb)
  clear hb HB5 HA5 HP5 HQ5 HV5
  clear ca0 ca1 ca2 ca3 ca4 ca5
  clear cv0 cv1 cv2 cv3 cv4 cv5
  obtain ⟨cv0, cv1, cv2, cv3, cv4, cv5⟩ := (HV6.out).six
  go_wp2_with fail
  clear cv0 cv1 cv2 cv3 cv4 cv5
  have HB := Aside0.mk (below_drew1 HB6.out)
  have HA := Aside0.mk HA6.out.drew
  have HP := Aside0.mk HP6.out.drew
  have HQ := Aside0.mk HQ6.out.drew
  have k0 : Six w6.drew w.heap.size a.s a.v a.t b.s b.v b.t ∧ Six w6.drew w1.heap.size p.s p.v p.t q.s q.v q.t ∧ Six w6.drew w2.heap.size p.s p.v p.t q.s q.v q.t := ⟨HA.out.six, HP.out.six, HQ.out.six⟩
  clear HB6 HA6 HP6 HQ6 HV6
  refine wp_region_held_drew (S := fun w' => Six w' w.heap.size a.s a.v a.t b.s b.v b.t ∧ Six w' w1.heap.size p.s p.v p.t q.s q.v q.t ∧ Six w' w2.heap.size p.s p.v p.t q.s q.v q.t) (by kernel_rfl) k0 (fun hHeld => ?_)
  refine wpAnyH_ready (rs := [0]) (by kernel_rfl) (by simp) ?_
  refine AllReadyH.cons rfl (fun K hK => ?_) AllReadyH.nil
  go_simp
  go_at_call 40
  refine (sanity25_any _).mono ?_
  rintro e' w7 ⟨rfl, hb⟩
  have HA' := Aside0.mk (HA.out.below hb)
  have HP' := Aside0.mk (HP.out.below hb)
  have HQ' := Aside0.mk (HQ.out.below hb)
  have HB' := Aside0.mk (below_step HB.out hb)
  clear hb HA HP HQ HB k0 hHeld
  have HA := HA'
  have HP := HP'
  have HQ := HQ'
  have HB := HB'
  clear HA' HP' HQ' HB'
  have k0 : Six w7 w.heap.size a.s a.v a.t b.s b.v b.t ∧ Six w7 w1.heap.size p.s p.v p.t q.s q.v q.t ∧ Six w7 w2.heap.size p.s p.v p.t q.s q.v q.t := ⟨HA.out.six, HP.out.six, HQ.out.six⟩
  refine hK.out _ _ k0 (fun hHeld => ?_)
  clear hK K
  try simp only [Act.put, List.getElem_toArray, List.getElem_cons_zero, List.getElem_cons_succ, List.setIfInBounds_toArray, List.set_cons_zero, List.set_cons_succ]
  refine wpAnyH_take (i := 1) (v := (.bool true)) rfl (by kernel_rfl) (by kernel_rfl) (by kernel_rfl) (fun _ _ _ h => h) (Or.inl ⟨by rfl, fun w' hSw => ?_⟩) (by assumption) ?_
  · go_simp
  try simp only [Act.put, List.getElem_toArray, List.getElem_cons_zero, List.getElem_cons_succ, List.setIfInBounds_toArray, List.set_cons_zero, List.set_cons_succ]
  refine wpAnyH_take (i := 2) (v := (stV a b)) rfl (by kernel_rfl) (by kernel_rfl) (by kernel_rfl) (fun _ _ _ h => h) (Or.inl ⟨by rfl, fun w' hSw => ?_⟩) (by assumption) ?_
  · obtain ⟨⟨s0, s1, s2, s3, s4, s5⟩, ⟨s6, s7, s8, s9, s10, s11⟩, ⟨s12, s13, s14, s15, s16, s17⟩⟩ := hSw; go_simp
  try simp only [Act.put, List.getElem_toArray, List.getElem_cons_zero, List.getElem_cons_succ, List.setIfInBounds_toArray, List.set_cons_zero, List.set_cons_succ]
  refine wpAnyH_take (i := 4) (v := (stV a b)) rfl (by kernel_rfl) (by kernel_rfl) (by kernel_rfl) (fun _ _ _ h => h) (Or.inl ⟨by rfl, fun w' hSw => ?_⟩) (by assumption) ?_
  · obtain ⟨⟨s0, s1, s2, s3, s4, s5⟩, ⟨s6, s7, s8, s9, s10, s11⟩, ⟨s12, s13, s14, s15, s16, s17⟩⟩ := hSw; go_simp
  try simp only [Act.put, List.getElem_toArray, List.getElem_cons_zero, List.getElem_cons_succ, List.setIfInBounds_toArray, List.set_cons_zero, List.set_cons_succ]
  refine wpAnyH_ready (rs := [3]) (by kernel_rfl) (by simp) ?_
  refine AllReadyH.cons rfl (fun K hK => ?_) AllReadyH.nil
  go_simp
  go_at_call 56
  refine (Encode_is a b x HX.out HI.out _).mono ?_
  rintro e' w8 ⟨rfl, hb⟩
  have HA' := Aside0.mk (HA.out.below hb)
  have HP' := Aside0.mk (HP.out.below hb)
  have HQ' := Aside0.mk (HQ.out.below hb)
  have HB' := Aside0.mk (below_step HB.out hb)
  clear hb HA HP HQ HB k0 hHeld
  have HA := HA'
  have HP := HP'
  have HQ := HQ'
  have HB := HB'
  clear HA' HP' HQ' HB'
  have k0 : Six w8 w.heap.size a.s a.v a.t b.s b.v b.t ∧ Six w8 w1.heap.size p.s p.v p.t q.s q.v q.t ∧ Six w8 w2.heap.size p.s p.v p.t q.s q.v q.t := ⟨HA.out.six, HP.out.six, HQ.out.six⟩
  refine hK.out _ _ k0 (fun hHeld => ?_)
  clear hK K
  try simp only [Act.put, List.getElem_toArray, List.getElem_cons_zero, List.getElem_cons_succ, List.setIfInBounds_toArray, List.set_cons_zero, List.set_cons_succ]
  refine wpAnyH_ready (rs := [5]) (by kernel_rfl) (by simp) ?_
  refine AllReadyH.cons rfl (fun K hK => ?_) AllReadyH.nil
  go_simp
  go_at_call 57
  refine (rEncode_is a b x HX.out HI.out _).mono ?_
  rintro e' w9 ⟨rfl, hb⟩
  have HA' := Aside0.mk (HA.out.below hb)
  have HP' := Aside0.mk (HP.out.below hb)
  have HQ' := Aside0.mk (HQ.out.below hb)
  have HB' := Aside0.mk (below_step HB.out hb)
  clear hb HA HP HQ HB k0 hHeld
  have HA := HA'
  have HP := HP'
  have HQ := HQ'
  have HB := HB'
  clear HA' HP' HQ' HB'
  have k0 : Six w9 w.heap.size a.s a.v a.t b.s b.v b.t ∧ Six w9 w1.heap.size p.s p.v p.t q.s q.v q.t ∧ Six w9 w2.heap.size p.s p.v p.t q.s q.v q.t := ⟨HA.out.six, HP.out.six, HQ.out.six⟩
  refine hK.out _ _ k0 (fun hHeld => ?_)
  clear hK K
  try simp only [Act.put, List.getElem_toArray, List.getElem_cons_zero, List.getElem_cons_succ, List.setIfInBounds_toArray, List.set_cons_zero, List.set_cons_succ]
  refine wpAnyH_take (i := 6) (v := (.bool true)) rfl (by kernel_rfl) (by kernel_rfl) (by kernel_rfl) (fun _ _ _ h => h) (Or.inl ⟨by rfl, fun w' hSw => ?_⟩) (by assumption) ?_
  · go_simp
  try simp only [Act.put, List.getElem_toArray, List.getElem_cons_zero, List.getElem_cons_succ, List.setIfInBounds_toArray, List.set_cons_zero, List.set_cons_succ]
  refine wpAnyH_take (i := 7) (v := (.bool true)) rfl (by kernel_rfl) (by kernel_rfl) (by kernel_rfl) (fun _ _ _ h => h) (Or.inl ⟨by rfl, fun w' hSw => ?_⟩) (by assumption) ?_
  · go_simp
  try simp only [Act.put, List.getElem_toArray, List.getElem_cons_zero, List.getElem_cons_succ, List.setIfInBounds_toArray, List.set_cons_zero, List.set_cons_succ]
  refine wpAnyH_take (i := 8) (v := (.bool true)) rfl (by kernel_rfl) (by kernel_rfl) (by kernel_rfl) (fun _ _ _ h => h) (Or.inl ⟨by rfl, fun w' hSw => ?_⟩) (by assumption) ?_
  · go_simp
  try simp only [Act.put, List.getElem_toArray, List.getElem_cons_zero, List.getElem_cons_succ, List.setIfInBounds_toArray, List.set_cons_zero, List.set_cons_succ]
  refine wpAnyH_take (i := 9) (v := (stV p q)) rfl (by kernel_rfl) (by kernel_rfl) (by kernel_rfl) (fun _ _ _ h => h) (Or.inl ⟨by rfl, fun w' hSw => ?_⟩) (by assumption) ?_
  · obtain ⟨⟨s0, s1, s2, s3, s4, s5⟩, ⟨s6, s7, s8, s9, s10, s11⟩, ⟨s12, s13, s14, s15, s16, s17⟩⟩ := hSw; go_simp
  try simp only [Act.put, List.getElem_toArray, List.getElem_cons_zero, List.getElem_cons_succ, List.setIfInBounds_toArray, List.set_cons_zero, List.set_cons_succ]
  refine wpAnyH_take (i := 10) (v := (stV p q)) rfl (by kernel_rfl) (by kernel_rfl) (by kernel_rfl) (fun _ _ _ h => h) (Or.inl ⟨by rfl, fun w' hSw => ?_⟩) (by assumption) ?_
  · obtain ⟨⟨s0, s1, s2, s3, s4, s5⟩, ⟨s6, s7, s8, s9, s10, s11⟩, ⟨s12, s13, s14, s15, s16, s17⟩⟩ := hSw; go_simp
  try simp only [Act.put, List.getElem_toArray, List.getElem_cons_zero, List.getElem_cons_succ, List.setIfInBounds_toArray, List.set_cons_zero, List.set_cons_succ]
  refine wpAnyH_take (i := 11) (v := (.bool true)) rfl (by kernel_rfl) (by kernel_rfl) (by kernel_rfl) (fun _ _ _ h => h) (Or.inl ⟨by rfl, fun w' hSw => ?_⟩) (by assumption) ?_
  · go_simp
  try simp only [Act.put, List.getElem_toArray, List.getElem_cons_zero, List.getElem_cons_succ, List.setIfInBounds_toArray, List.set_cons_zero, List.set_cons_succ]
  refine wpAnyH_take (i := 12) (v := (.bool true)) rfl (by kernel_rfl) (by kernel_rfl) (by kernel_rfl) (fun _ _ _ h => h) (Or.inl ⟨by rfl, fun w' hSw => ?_⟩) (by assumption) ?_
  · go_simp
  try simp only [Act.put, List.getElem_toArray, List.getElem_cons_zero, List.getElem_cons_succ, List.setIfInBounds_toArray, List.set_cons_zero, List.set_cons_succ]
  refine wpAnyH_take (i := 13) (v := (.bool true)) rfl (by kernel_rfl) (by kernel_rfl) (by kernel_rfl) (fun _ _ _ h => h) (Or.inl ⟨by rfl, fun w' hSw => ?_⟩) (by assumption) ?_
  · go_simp
  try simp only [Act.put, List.getElem_toArray, List.getElem_cons_zero, List.getElem_cons_succ, List.setIfInBounds_toArray, List.set_cons_zero, List.set_cons_succ]
  refine wpAnyH_take (i := 14) (v := (.int .i64 0)) rfl (by kernel_rfl) (by kernel_rfl) (by kernel_rfl) (fun _ _ _ h => h) (Or.inl ⟨by rfl, fun w' hSw => ?_⟩) (by assumption) ?_
  · go_simp
  try simp only [Act.put, List.getElem_toArray, List.getElem_cons_zero, List.getElem_cons_succ, List.setIfInBounds_toArray, List.set_cons_zero, List.set_cons_succ]
  refine wpAnyH_take (i := 15) (v := (.int .i64 0)) rfl (by kernel_rfl) (by kernel_rfl) (by kernel_rfl) (fun _ _ _ h => h) (Or.inl ⟨by rfl, fun w' hSw => ?_⟩) (by assumption) ?_
  · go_simp
  try simp only [Act.put, List.getElem_toArray, List.getElem_cons_zero, List.getElem_cons_succ, List.setIfInBounds_toArray, List.set_cons_zero, List.set_cons_succ]
  refine wpAnyH_take (i := 16) (v := (.bool true)) rfl (by kernel_rfl) (by kernel_rfl) (by kernel_rfl) (fun _ _ _ h => h) (Or.inl ⟨by rfl, fun w' hSw => ?_⟩) (by assumption) ?_
  · go_simp
  try simp only [Act.put, List.getElem_toArray, List.getElem_cons_zero, List.getElem_cons_succ, List.setIfInBounds_toArray, List.set_cons_zero, List.set_cons_succ]
  refine wpAnyH_take (i := 17) (v := (.bool true)) rfl (by kernel_rfl) (by kernel_rfl) (by kernel_rfl) (fun _ _ _ h => h) (Or.inl ⟨by rfl, fun w' hSw => ?_⟩) (by assumption) ?_
  · go_simp
  try simp only [Act.put, List.getElem_toArray, List.getElem_cons_zero, List.getElem_cons_succ, List.setIfInBounds_toArray, List.set_cons_zero, List.set_cons_succ]
  refine wpAnyH_take (i := 18) (v := (.bool true)) rfl (by kernel_rfl) (by kernel_rfl) (by kernel_rfl) (fun _ _ _ h => h) (Or.inl ⟨by rfl, fun w' hSw => ?_⟩) (by assumption) ?_
  · go_simp
  try simp only [Act.put, List.getElem_toArray, List.getElem_cons_zero, List.getElem_cons_succ, List.setIfInBounds_toArray, List.set_cons_zero, List.set_cons_succ]
  refine wpAnyH_take (i := 19) (v := (.int .i64 0)) rfl (by kernel_rfl) (by kernel_rfl) (by kernel_rfl) (fun _ _ _ h => h) (Or.inl ⟨by rfl, fun w' hSw => ?_⟩) (by assumption) ?_
  · go_simp
  try simp only [Act.put, List.getElem_toArray, List.getElem_cons_zero, List.getElem_cons_succ, List.setIfInBounds_toArray, List.set_cons_zero, List.set_cons_succ]
  refine wpAnyH_take (i := 20) (v := (.bool false)) rfl (by kernel_rfl) (by kernel_rfl) (by kernel_rfl) (fun _ _ _ h => h) (Or.inl ⟨by rfl, fun w' hSw => ?_⟩) (by assumption) ?_
  · go_simp
  try simp only [Act.put, List.getElem_toArray, List.getElem_cons_zero, List.getElem_cons_succ, List.setIfInBounds_toArray, List.set_cons_zero, List.set_cons_succ]
  refine wpAnyH_take (i := 21) (v := (.bool false)) rfl (by kernel_rfl) (by kernel_rfl) (by kernel_rfl) (fun _ _ _ h => h) (Or.inl ⟨by rfl, fun w' hSw => ?_⟩) (by assumption) ?_
  · go_simp
  try simp only [Act.put, List.getElem_toArray, List.getElem_cons_zero, List.getElem_cons_succ, List.setIfInBounds_toArray, List.set_cons_zero, List.set_cons_succ]
  refine wpAnyH_take (i := 22) (v := (stV p q)) rfl (by kernel_rfl) (by kernel_rfl) (by kernel_rfl) (fun _ _ _ h => h) (Or.inl ⟨by rfl, fun w' hSw => ?_⟩) (by assumption) ?_
  · obtain ⟨⟨s0, s1, s2, s3, s4, s5⟩, ⟨s6, s7, s8, s9, s10, s11⟩, ⟨s12, s13, s14, s15, s16, s17⟩⟩ := hSw; go_simp
  try simp only [Act.put, List.getElem_toArray, List.getElem_cons_zero, List.getElem_cons_succ, List.setIfInBounds_toArray, List.set_cons_zero, List.set_cons_succ]
  refine wpAnyH_take (i := 24) (v := (.string s)) rfl (by kernel_rfl) (by kernel_rfl) (by kernel_rfl) (fun _ _ _ h => h) (Or.inl ⟨by rfl, fun w' hSw => ?_⟩) (by assumption) ?_
  · go_simp
  try simp only [Act.put, List.getElem_toArray, List.getElem_cons_zero, List.getElem_cons_succ, List.setIfInBounds_toArray, List.set_cons_zero, List.set_cons_succ]
  refine wpAnyH_ready (rs := [23]) (by kernel_rfl) (by simp) ?_
  refine AllReadyH.cons rfl (fun K hK => ?_) AllReadyH.nil
  go_simp
  go_at_call 56
  refine (Encode_is p q s HT.out HTI.out _).mono ?_
  rintro e' w10 ⟨rfl, hb⟩
  have HA' := Aside0.mk (HA.out.below hb)
  have HP' := Aside0.mk (HP.out.below hb)
  have HQ' := Aside0.mk (HQ.out.below hb)
  have HB' := Aside0.mk (below_step HB.out hb)
  clear hb HA HP HQ HB k0 hHeld
  have HA := HA'
  have HP := HP'
  have HQ := HQ'
  have HB := HB'
  clear HA' HP' HQ' HB'
  have k0 : Six w10 w.heap.size a.s a.v a.t b.s b.v b.t ∧ Six w10 w1.heap.size p.s p.v p.t q.s q.v q.t ∧ Six w10 w2.heap.size p.s p.v p.t q.s q.v q.t := ⟨HA.out.six, HP.out.six, HQ.out.six⟩
  refine hK.out _ _ k0 (fun hHeld => ?_)
  clear hK K
  try simp only [Act.put, List.getElem_toArray, List.getElem_cons_zero, List.getElem_cons_succ, List.setIfInBounds_toArray, List.set_cons_zero, List.set_cons_succ]
  refine wpAnyH_take (i := 25) (v := (.bool true)) rfl (by kernel_rfl) (by kernel_rfl) (by kernel_rfl) (fun _ _ _ h => h) (Or.inl ⟨by rfl, fun w' hSw => ?_⟩) (by assumption) ?_
  · go_simp
  try simp only [Act.put, List.getElem_toArray, List.getElem_cons_zero, List.getElem_cons_succ, List.setIfInBounds_toArray, List.set_cons_zero, List.set_cons_succ]
  refine wpAnyH_take (i := 26) (v := (.bool true)) rfl (by kernel_rfl) (by kernel_rfl) (by kernel_rfl) (fun _ _ _ h => h) (Or.inl ⟨by rfl, fun w' hSw => ?_⟩) (by assumption) ?_
  · go_simp
  try simp only [Act.put, List.getElem_toArray, List.getElem_cons_zero, List.getElem_cons_succ, List.setIfInBounds_toArray, List.set_cons_zero, List.set_cons_succ]
  refine wpAnyH_take (i := 27) (v := (.bool true)) rfl (by kernel_rfl) (by kernel_rfl) (by kernel_rfl) (fun _ _ _ h => h) (Or.inl ⟨by rfl, fun w' hSw => ?_⟩) (by assumption) ?_
  · go_simp
  try simp only [Act.put, List.getElem_toArray, List.getElem_cons_zero, List.getElem_cons_succ, List.setIfInBounds_toArray, List.set_cons_zero, List.set_cons_succ]
  refine wpAnyH_take (i := 28) (v := (.bool true)) rfl (by kernel_rfl) (by kernel_rfl) (by kernel_rfl) (fun _ _ _ h => h) (Or.inl ⟨by rfl, fun w' hSw => ?_⟩) (by assumption) ?_
  · go_simp
  try simp only [Act.put, List.getElem_toArray, List.getElem_cons_zero, List.getElem_cons_succ, List.setIfInBounds_toArray, List.set_cons_zero, List.set_cons_succ]
  refine wpAnyH_done (by kernel_rfl) ?_ _
  go_wp2_with fail
  go_ret
  exact ⟨rfl, HB.out⟩

set_option maxHeartbeats 32000000 in
set_option maxRecDepth 100000 in
theorem short11 (a b : Slot) (s : ByteArray) (w : World) (hs : s.size ≤ 500) (ha : M64 a) (hb : M64 b) (hok : ok a b) (p q : Slot) (e : Int) (hd : dcd s = (p, q, e)) (he : e ≠ 0) : Calls Try.prog 14 #[stV a b, .string s] w fun e w' => e = .returned (.bool true) ∧ Below w.heap.size w w' := by
  have HD := Aside0.mk hd
  have HI := Aside0.mk (all6 ha hb)
  have hs2 : s.size ≤ 100000 := by omega
  obtain ⟨x, hx⟩ : ∃ x, txt a b = x := ⟨_, rfl⟩
  have hxs := (txt_size a b HI.out).2
  have hxd := dcd_txt a b HI.out
  rw [hx] at hxs hxd
  rw [if_pos hok] at hxd
  have HX := Aside0.mk hx
  have HXS : Aside0 (x.size ≤ 100000) := ⟨by omega⟩
  have HXD : Aside0 (dcd x = (a, b, 0)) := ⟨hxd⟩
  have HR := Aside0.mk (decide_eq_true hok)
  have hee : (e != 0) = true := bne_iff_ne.2 he
  clear he
  clear hd ha hb hx hxs hxd hok
  go_enter Try.func14, Try.ntmps14
  go_wp2_with fail
  refine (Decode_is s hs2 p q e HD.out _).mono ?_
  rintro e' w1 ⟨rfl, hb⟩
  have HB1 := Aside0.mk (below_step (below_alloc (Below.refl w.heap.size w) (oS a b)) hb)
  have HA1 := Aside0.mk ((At6.new w a.s a.v a.t b.s b.v b.t).below hb)
  clear hb
  go_wp2_with fail
  refine (rDecode_is s hs2 p q e HD.out _).mono ?_
  rintro e' w2 ⟨rfl, hb⟩
  have HB2 := Aside0.mk (below_step (below_alloc HB1.out (oS p q)) hb)
  have HA2 := Aside0.mk ((HA1.out.alloc (oS p q)).below hb)
  have HP2 := Aside0.mk ((At6.new w1 p.s p.v p.t q.s q.v q.t).below hb)
  clear hb HB1 HA1
  obtain ⟨ca0, ca1, ca2, ca3, ca4, ca5⟩ := (HA2.out.alloc (oS p q)).six
  go_wp2_with fail
  refine (Encode_is a b x HX.out HI.out _).mono ?_
  rintro e' w3 ⟨rfl, hb⟩
  have HB3 := Aside0.mk (below_step (below_alloc HB2.out (oS p q)) hb)
  have HA3 := Aside0.mk ((HA2.out.alloc (oS p q)).below hb)
  have HP3 := Aside0.mk ((HP2.out.alloc (oS p q)).below hb)
  have HQ3 := Aside0.mk ((At6.new w2 p.s p.v p.t q.s q.v q.t).below hb)
  clear hb HB2 HA2 HP2
  clear ca0 ca1 ca2 ca3 ca4 ca5
  go_wp2_with fail
  refine (Decode_is x HXS.out a b 0 HXD.out _).mono ?_
  rintro e' w4 ⟨rfl, hb⟩
  have HB4 := Aside0.mk (below_step HB3.out hb)
  have HA4 := Aside0.mk (HA3.out.below hb)
  have HP4 := Aside0.mk (HP3.out.below hb)
  have HQ4 := Aside0.mk (HQ3.out.below hb)
  clear hb HB3 HA3 HP3 HQ3
  obtain ⟨ca0, ca1, ca2, ca3, ca4, ca5⟩ := (HA4.out.alloc (oS a b)).six
  go_wp2_with fail
  refine (rValid_is a b true HR.out _).mono ?_
  rintro e' w5 ⟨rfl, hb⟩
  have HB5 := Aside0.mk (below_step (below_alloc HB4.out (oS a b)) hb)
  have HA5 := Aside0.mk ((HA4.out.alloc (oS a b)).below hb)
  have HP5 := Aside0.mk ((HP4.out.alloc (oS a b)).below hb)
  have HQ5 := Aside0.mk ((HQ4.out.alloc (oS a b)).below hb)
  have HV5 := Aside0.mk ((At6.new w4 a.s a.v a.t b.s b.v b.t).below hb)
  clear hb HB4 HA4 HP4 HQ4
  clear ca0 ca1 ca2 ca3 ca4 ca5
  obtain ⟨ca0, ca1, ca2, ca3, ca4, ca5⟩ := (HA5.out).six
  obtain ⟨cv0, cv1, cv2, cv3, cv4, cv5⟩ := (HV5.out).six
  go_wp2_with fail
  refine (rValid_is a b true HR.out _).mono ?_
  rintro e' w6 ⟨rfl, hb⟩
  have HB6 := Aside0.mk (below_step HB5.out hb)
  have HA6 := Aside0.mk (HA5.out.below hb)
  have HP6 := Aside0.mk (HP5.out.below hb)
  have HQ6 := Aside0.mk (HQ5.out.below hb)
  have HV6 := Aside0.mk (HV5.out.below hb)
  clear hb HB5 HA5 HP5 HQ5 HV5
  clear ca0 ca1 ca2 ca3 ca4 ca5
  clear cv0 cv1 cv2 cv3 cv4 cv5
  obtain ⟨cv0, cv1, cv2, cv3, cv4, cv5⟩ := (HV6.out).six
  go_wp2_with fail
  clear cv0 cv1 cv2 cv3 cv4 cv5
  have HB := Aside0.mk (below_drew1 HB6.out)
  have HA := Aside0.mk HA6.out.drew
  have HP := Aside0.mk HP6.out.drew
  have HQ := Aside0.mk HQ6.out.drew
  have k0 : Six w6.drew w.heap.size a.s a.v a.t b.s b.v b.t ∧ Six w6.drew w1.heap.size p.s p.v p.t q.s q.v q.t ∧ Six w6.drew w2.heap.size p.s p.v p.t q.s q.v q.t := ⟨HA.out.six, HP.out.six, HQ.out.six⟩
  clear HB6 HA6 HP6 HQ6 HV6
  refine wp_region_held_drew (S := fun w' => Six w' w.heap.size a.s a.v a.t b.s b.v b.t ∧ Six w' w1.heap.size p.s p.v p.t q.s q.v q.t ∧ Six w' w2.heap.size p.s p.v p.t q.s q.v q.t) (by kernel_rfl) k0 (fun hHeld => ?_)
  refine wpAnyH_ready (rs := [0]) (by kernel_rfl) (by simp) ?_
  refine AllReadyH.cons rfl (fun K hK => ?_) AllReadyH.nil
  go_simp
  go_at_call 40
  refine (sanity25_any _).mono ?_
  rintro e' w7 ⟨rfl, hb⟩
  have HA' := Aside0.mk (HA.out.below hb)
  have HP' := Aside0.mk (HP.out.below hb)
  have HQ' := Aside0.mk (HQ.out.below hb)
  have HB' := Aside0.mk (below_step HB.out hb)
  clear hb HA HP HQ HB k0 hHeld
  have HA := HA'
  have HP := HP'
  have HQ := HQ'
  have HB := HB'
  clear HA' HP' HQ' HB'
  have k0 : Six w7 w.heap.size a.s a.v a.t b.s b.v b.t ∧ Six w7 w1.heap.size p.s p.v p.t q.s q.v q.t ∧ Six w7 w2.heap.size p.s p.v p.t q.s q.v q.t := ⟨HA.out.six, HP.out.six, HQ.out.six⟩
  refine hK.out _ _ k0 (fun hHeld => ?_)
  clear hK K
  try simp only [Act.put, List.getElem_toArray, List.getElem_cons_zero, List.getElem_cons_succ, List.setIfInBounds_toArray, List.set_cons_zero, List.set_cons_succ]
  refine wpAnyH_take (i := 1) (v := (.bool true)) rfl (by kernel_rfl) (by kernel_rfl) (by kernel_rfl) (fun _ _ _ h => h) (Or.inl ⟨by rfl, fun w' hSw => ?_⟩) (by assumption) ?_
  · go_simp
  try simp only [Act.put, List.getElem_toArray, List.getElem_cons_zero, List.getElem_cons_succ, List.setIfInBounds_toArray, List.set_cons_zero, List.set_cons_succ]
  refine wpAnyH_take (i := 2) (v := (stV a b)) rfl (by kernel_rfl) (by kernel_rfl) (by kernel_rfl) (fun _ _ _ h => h) (Or.inl ⟨by rfl, fun w' hSw => ?_⟩) (by assumption) ?_
  · obtain ⟨⟨s0, s1, s2, s3, s4, s5⟩, ⟨s6, s7, s8, s9, s10, s11⟩, ⟨s12, s13, s14, s15, s16, s17⟩⟩ := hSw; go_simp
  try simp only [Act.put, List.getElem_toArray, List.getElem_cons_zero, List.getElem_cons_succ, List.setIfInBounds_toArray, List.set_cons_zero, List.set_cons_succ]
  refine wpAnyH_take (i := 4) (v := (stV a b)) rfl (by kernel_rfl) (by kernel_rfl) (by kernel_rfl) (fun _ _ _ h => h) (Or.inl ⟨by rfl, fun w' hSw => ?_⟩) (by assumption) ?_
  · obtain ⟨⟨s0, s1, s2, s3, s4, s5⟩, ⟨s6, s7, s8, s9, s10, s11⟩, ⟨s12, s13, s14, s15, s16, s17⟩⟩ := hSw; go_simp
  try simp only [Act.put, List.getElem_toArray, List.getElem_cons_zero, List.getElem_cons_succ, List.setIfInBounds_toArray, List.set_cons_zero, List.set_cons_succ]
  refine wpAnyH_ready (rs := [3]) (by kernel_rfl) (by simp) ?_
  refine AllReadyH.cons rfl (fun K hK => ?_) AllReadyH.nil
  go_simp
  go_at_call 56
  refine (Encode_is a b x HX.out HI.out _).mono ?_
  rintro e' w8 ⟨rfl, hb⟩
  have HA' := Aside0.mk (HA.out.below hb)
  have HP' := Aside0.mk (HP.out.below hb)
  have HQ' := Aside0.mk (HQ.out.below hb)
  have HB' := Aside0.mk (below_step HB.out hb)
  clear hb HA HP HQ HB k0 hHeld
  have HA := HA'
  have HP := HP'
  have HQ := HQ'
  have HB := HB'
  clear HA' HP' HQ' HB'
  have k0 : Six w8 w.heap.size a.s a.v a.t b.s b.v b.t ∧ Six w8 w1.heap.size p.s p.v p.t q.s q.v q.t ∧ Six w8 w2.heap.size p.s p.v p.t q.s q.v q.t := ⟨HA.out.six, HP.out.six, HQ.out.six⟩
  refine hK.out _ _ k0 (fun hHeld => ?_)
  clear hK K
  try simp only [Act.put, List.getElem_toArray, List.getElem_cons_zero, List.getElem_cons_succ, List.setIfInBounds_toArray, List.set_cons_zero, List.set_cons_succ]
  refine wpAnyH_ready (rs := [5]) (by kernel_rfl) (by simp) ?_
  refine AllReadyH.cons rfl (fun K hK => ?_) AllReadyH.nil
  go_simp
  go_at_call 57
  refine (rEncode_is a b x HX.out HI.out _).mono ?_
  rintro e' w9 ⟨rfl, hb⟩
  have HA' := Aside0.mk (HA.out.below hb)
  have HP' := Aside0.mk (HP.out.below hb)
  have HQ' := Aside0.mk (HQ.out.below hb)
  have HB' := Aside0.mk (below_step HB.out hb)
  clear hb HA HP HQ HB k0 hHeld
  have HA := HA'
  have HP := HP'
  have HQ := HQ'
  have HB := HB'
  clear HA' HP' HQ' HB'
  have k0 : Six w9 w.heap.size a.s a.v a.t b.s b.v b.t ∧ Six w9 w1.heap.size p.s p.v p.t q.s q.v q.t ∧ Six w9 w2.heap.size p.s p.v p.t q.s q.v q.t := ⟨HA.out.six, HP.out.six, HQ.out.six⟩
  refine hK.out _ _ k0 (fun hHeld => ?_)
  clear hK K
  try simp only [Act.put, List.getElem_toArray, List.getElem_cons_zero, List.getElem_cons_succ, List.setIfInBounds_toArray, List.set_cons_zero, List.set_cons_succ]
  refine wpAnyH_take (i := 6) (v := (.bool true)) rfl (by kernel_rfl) (by kernel_rfl) (by kernel_rfl) (fun _ _ _ h => h) (Or.inl ⟨by rfl, fun w' hSw => ?_⟩) (by assumption) ?_
  · go_simp
  try simp only [Act.put, List.getElem_toArray, List.getElem_cons_zero, List.getElem_cons_succ, List.setIfInBounds_toArray, List.set_cons_zero, List.set_cons_succ]
  refine wpAnyH_take (i := 7) (v := (.bool true)) rfl (by kernel_rfl) (by kernel_rfl) (by kernel_rfl) (fun _ _ _ h => h) (Or.inl ⟨by rfl, fun w' hSw => ?_⟩) (by assumption) ?_
  · go_simp
  try simp only [Act.put, List.getElem_toArray, List.getElem_cons_zero, List.getElem_cons_succ, List.setIfInBounds_toArray, List.set_cons_zero, List.set_cons_succ]
  refine wpAnyH_take (i := 8) (v := (.bool true)) rfl (by kernel_rfl) (by kernel_rfl) (by kernel_rfl) (fun _ _ _ h => h) (Or.inl ⟨by rfl, fun w' hSw => ?_⟩) (by assumption) ?_
  · go_simp
  try simp only [Act.put, List.getElem_toArray, List.getElem_cons_zero, List.getElem_cons_succ, List.setIfInBounds_toArray, List.set_cons_zero, List.set_cons_succ]
  refine wpAnyH_take (i := 9) (v := (stV p q)) rfl (by kernel_rfl) (by kernel_rfl) (by kernel_rfl) (fun _ _ _ h => h) (Or.inl ⟨by rfl, fun w' hSw => ?_⟩) (by assumption) ?_
  · obtain ⟨⟨s0, s1, s2, s3, s4, s5⟩, ⟨s6, s7, s8, s9, s10, s11⟩, ⟨s12, s13, s14, s15, s16, s17⟩⟩ := hSw; go_simp
  try simp only [Act.put, List.getElem_toArray, List.getElem_cons_zero, List.getElem_cons_succ, List.setIfInBounds_toArray, List.set_cons_zero, List.set_cons_succ]
  refine wpAnyH_take (i := 10) (v := (stV p q)) rfl (by kernel_rfl) (by kernel_rfl) (by kernel_rfl) (fun _ _ _ h => h) (Or.inl ⟨by rfl, fun w' hSw => ?_⟩) (by assumption) ?_
  · obtain ⟨⟨s0, s1, s2, s3, s4, s5⟩, ⟨s6, s7, s8, s9, s10, s11⟩, ⟨s12, s13, s14, s15, s16, s17⟩⟩ := hSw; go_simp
  try simp only [Act.put, List.getElem_toArray, List.getElem_cons_zero, List.getElem_cons_succ, List.setIfInBounds_toArray, List.set_cons_zero, List.set_cons_succ]
  refine wpAnyH_take (i := 11) (v := (.bool true)) rfl (by kernel_rfl) (by kernel_rfl) (by kernel_rfl) (fun _ _ _ h => h) (Or.inl ⟨by rfl, fun w' hSw => ?_⟩) (by assumption) ?_
  · go_simp
  try simp only [Act.put, List.getElem_toArray, List.getElem_cons_zero, List.getElem_cons_succ, List.setIfInBounds_toArray, List.set_cons_zero, List.set_cons_succ]
  refine wpAnyH_take (i := 12) (v := (.bool true)) rfl (by kernel_rfl) (by kernel_rfl) (by kernel_rfl) (fun _ _ _ h => h) (Or.inl ⟨by rfl, fun w' hSw => ?_⟩) (by assumption) ?_
  · go_simp
  try simp only [Act.put, List.getElem_toArray, List.getElem_cons_zero, List.getElem_cons_succ, List.setIfInBounds_toArray, List.set_cons_zero, List.set_cons_succ]
  refine wpAnyH_take (i := 13) (v := (.bool true)) rfl (by kernel_rfl) (by kernel_rfl) (by kernel_rfl) (fun _ _ _ h => h) (Or.inl ⟨by rfl, fun w' hSw => ?_⟩) (by assumption) ?_
  · go_simp
  try simp only [Act.put, List.getElem_toArray, List.getElem_cons_zero, List.getElem_cons_succ, List.setIfInBounds_toArray, List.set_cons_zero, List.set_cons_succ]
  refine wpAnyH_take (i := 14) (v := (.int .i64 e)) rfl (by kernel_rfl) (by kernel_rfl) (by kernel_rfl) (fun _ _ _ h => h) (Or.inl ⟨by rfl, fun w' hSw => ?_⟩) (by assumption) ?_
  · go_simp
  try simp only [Act.put, List.getElem_toArray, List.getElem_cons_zero, List.getElem_cons_succ, List.setIfInBounds_toArray, List.set_cons_zero, List.set_cons_succ]
  refine wpAnyH_take (i := 15) (v := (.int .i64 e)) rfl (by kernel_rfl) (by kernel_rfl) (by kernel_rfl) (fun _ _ _ h => h) (Or.inl ⟨by rfl, fun w' hSw => ?_⟩) (by assumption) ?_
  · go_simp
  try simp only [Act.put, List.getElem_toArray, List.getElem_cons_zero, List.getElem_cons_succ, List.setIfInBounds_toArray, List.set_cons_zero, List.set_cons_succ]
  refine wpAnyH_take (i := 16) (v := (.bool true)) rfl (by kernel_rfl) (by kernel_rfl) (by kernel_rfl) (fun _ _ _ h => h) (Or.inl ⟨by rfl, fun w' hSw => ?_⟩) (by assumption) ?_
  · go_simp
  try simp only [Act.put, List.getElem_toArray, List.getElem_cons_zero, List.getElem_cons_succ, List.setIfInBounds_toArray, List.set_cons_zero, List.set_cons_succ]
  refine wpAnyH_take (i := 17) (v := (.bool true)) rfl (by kernel_rfl) (by kernel_rfl) (by kernel_rfl) (fun _ _ _ h => h) (Or.inl ⟨by rfl, fun w' hSw => ?_⟩) (by assumption) ?_
  · go_simp
  try simp only [Act.put, List.getElem_toArray, List.getElem_cons_zero, List.getElem_cons_succ, List.setIfInBounds_toArray, List.set_cons_zero, List.set_cons_succ]
  refine wpAnyH_take (i := 18) (v := (.bool true)) rfl (by kernel_rfl) (by kernel_rfl) (by kernel_rfl) (fun _ _ _ h => h) (Or.inl ⟨by rfl, fun w' hSw => ?_⟩) (by assumption) ?_
  · go_simp
  try simp only [Act.put, List.getElem_toArray, List.getElem_cons_zero, List.getElem_cons_succ, List.setIfInBounds_toArray, List.set_cons_zero, List.set_cons_succ]
  refine wpAnyH_take (i := 19) (v := (.int .i64 e)) rfl (by kernel_rfl) (by kernel_rfl) (by kernel_rfl) (fun _ _ _ h => h) (Or.inl ⟨by rfl, fun w' hSw => ?_⟩) (by assumption) ?_
  · go_simp
  try simp only [Act.put, List.getElem_toArray, List.getElem_cons_zero, List.getElem_cons_succ, List.setIfInBounds_toArray, List.set_cons_zero, List.set_cons_succ]
  refine wpAnyH_take (i := 20) (v := (.bool true)) rfl (by kernel_rfl) (by kernel_rfl) (by kernel_rfl) (fun _ _ _ h => h) (Or.inl ⟨by rfl, fun w' hSw => ?_⟩) (by assumption) ?_
  · go_simp
  try simp only [Act.put, List.getElem_toArray, List.getElem_cons_zero, List.getElem_cons_succ, List.setIfInBounds_toArray, List.set_cons_zero, List.set_cons_succ]
  refine wpAnyH_take (i := 21) (v := (.bool true)) rfl (by kernel_rfl) (by kernel_rfl) (by kernel_rfl) (fun _ _ _ h => h) (Or.inl ⟨by rfl, fun w' hSw => ?_⟩) (by assumption) ?_
  · go_simp
  try simp only [Act.put, List.getElem_toArray, List.getElem_cons_zero, List.getElem_cons_succ, List.setIfInBounds_toArray, List.set_cons_zero, List.set_cons_succ]
  refine wpAnyH_take (i := 22) (v := undef) rfl (by kernel_rfl) (by kernel_rfl) (by kernel_rfl) (fun _ _ _ h => h) (Or.inr ⟨by rfl, rfl⟩) (by assumption) ?_
  try simp only [Act.put, List.getElem_toArray, List.getElem_cons_zero, List.getElem_cons_succ, List.setIfInBounds_toArray, List.set_cons_zero, List.set_cons_succ]
  refine wpAnyH_take (i := 23) (v := undef) rfl (by kernel_rfl) (by kernel_rfl) (by kernel_rfl) (fun _ _ _ h => h) (Or.inr ⟨by rfl, rfl⟩) (by assumption) ?_
  try simp only [Act.put, List.getElem_toArray, List.getElem_cons_zero, List.getElem_cons_succ, List.setIfInBounds_toArray, List.set_cons_zero, List.set_cons_succ]
  refine wpAnyH_take (i := 24) (v := undef) rfl (by kernel_rfl) (by kernel_rfl) (by kernel_rfl) (fun _ _ _ h => h) (Or.inr ⟨by rfl, rfl⟩) (by assumption) ?_
  try simp only [Act.put, List.getElem_toArray, List.getElem_cons_zero, List.getElem_cons_succ, List.setIfInBounds_toArray, List.set_cons_zero, List.set_cons_succ]
  refine wpAnyH_take (i := 25) (v := undef) rfl (by kernel_rfl) (by kernel_rfl) (by kernel_rfl) (fun _ _ _ h => h) (Or.inr ⟨by rfl, rfl⟩) (by assumption) ?_
  try simp only [Act.put, List.getElem_toArray, List.getElem_cons_zero, List.getElem_cons_succ, List.setIfInBounds_toArray, List.set_cons_zero, List.set_cons_succ]
  refine wpAnyH_take (i := 26) (v := (.bool true)) rfl (by kernel_rfl) (by kernel_rfl) (by kernel_rfl) (fun _ _ _ h => h) (Or.inl ⟨by rfl, fun w' hSw => ?_⟩) (by assumption) ?_
  · go_simp
  try simp only [Act.put, List.getElem_toArray, List.getElem_cons_zero, List.getElem_cons_succ, List.setIfInBounds_toArray, List.set_cons_zero, List.set_cons_succ]
  refine wpAnyH_take (i := 27) (v := (.bool true)) rfl (by kernel_rfl) (by kernel_rfl) (by kernel_rfl) (fun _ _ _ h => h) (Or.inl ⟨by rfl, fun w' hSw => ?_⟩) (by assumption) ?_
  · go_simp
  try simp only [Act.put, List.getElem_toArray, List.getElem_cons_zero, List.getElem_cons_succ, List.setIfInBounds_toArray, List.set_cons_zero, List.set_cons_succ]
  refine wpAnyH_take (i := 28) (v := (.bool true)) rfl (by kernel_rfl) (by kernel_rfl) (by kernel_rfl) (fun _ _ _ h => h) (Or.inl ⟨by rfl, fun w' hSw => ?_⟩) (by assumption) ?_
  · go_simp
  try simp only [Act.put, List.getElem_toArray, List.getElem_cons_zero, List.getElem_cons_succ, List.setIfInBounds_toArray, List.set_cons_zero, List.set_cons_succ]
  refine wpAnyH_done (by kernel_rfl) ?_ _
  go_wp2_with fail
  go_ret
  exact ⟨rfl, HB.out⟩

set_option maxHeartbeats 32000000 in
set_option maxRecDepth 100000 in
theorem short00 (a b : Slot) (s : ByteArray) (w : World) (hs : s.size ≤ 500) (ha : M64 a) (hb : M64 b) (hok : ¬ ok a b) (p q : Slot) (e : Int) (hd : dcd s = (p, q, 0)) : Calls Try.prog 14 #[stV a b, .string s] w fun e w' => e = .returned (.bool true) ∧ Below w.heap.size w w' := by
  have HD := Aside0.mk hd
  have HI := Aside0.mk (all6 ha hb)
  have hs2 : s.size ≤ 100000 := by omega
  obtain ⟨x, hx⟩ : ∃ x, txt a b = x := ⟨_, rfl⟩
  have hxs := (txt_size a b HI.out).2
  have hxd := dcd_txt a b HI.out
  rw [hx] at hxs hxd
  rw [if_neg hok] at hxd
  have HX := Aside0.mk hx
  have HXS : Aside0 (x.size ≤ 100000) := ⟨by omega⟩
  have HXD : Aside0 (dcd x = (⟨0, 0, 0⟩, ⟨0, 0, 0⟩, 7)) := ⟨hxd⟩
  have HR := Aside0.mk (decide_eq_false hok)
  have hh := dcd_ok s (by rw [hd])
  rw [hd] at hh
  have HT := Aside0.mk hh.2
  have HTI := Aside0.mk (ok_all hh.1)
  clear hh
  clear hd ha hb hx hxs hxd hok
  go_enter Try.func14, Try.ntmps14
  go_wp2_with fail
  refine (Decode_is s hs2 p q 0 HD.out _).mono ?_
  rintro e' w1 ⟨rfl, hb⟩
  have HB1 := Aside0.mk (below_step (below_alloc (Below.refl w.heap.size w) (oS a b)) hb)
  have HA1 := Aside0.mk ((At6.new w a.s a.v a.t b.s b.v b.t).below hb)
  clear hb
  go_wp2_with fail
  refine (rDecode_is s hs2 p q 0 HD.out _).mono ?_
  rintro e' w2 ⟨rfl, hb⟩
  have HB2 := Aside0.mk (below_step (below_alloc HB1.out (oS p q)) hb)
  have HA2 := Aside0.mk ((HA1.out.alloc (oS p q)).below hb)
  have HP2 := Aside0.mk ((At6.new w1 p.s p.v p.t q.s q.v q.t).below hb)
  clear hb HB1 HA1
  obtain ⟨ca0, ca1, ca2, ca3, ca4, ca5⟩ := (HA2.out.alloc (oS p q)).six
  go_wp2_with fail
  refine (Encode_is a b x HX.out HI.out _).mono ?_
  rintro e' w3 ⟨rfl, hb⟩
  have HB3 := Aside0.mk (below_step (below_alloc HB2.out (oS p q)) hb)
  have HA3 := Aside0.mk ((HA2.out.alloc (oS p q)).below hb)
  have HP3 := Aside0.mk ((HP2.out.alloc (oS p q)).below hb)
  have HQ3 := Aside0.mk ((At6.new w2 p.s p.v p.t q.s q.v q.t).below hb)
  clear hb HB2 HA2 HP2
  clear ca0 ca1 ca2 ca3 ca4 ca5
  go_wp2_with fail
  refine (Decode_is x HXS.out ⟨0, 0, 0⟩ ⟨0, 0, 0⟩ 7 HXD.out _).mono ?_
  rintro e' w4 ⟨rfl, hb⟩
  have HB4 := Aside0.mk (below_step HB3.out hb)
  have HA4 := Aside0.mk (HA3.out.below hb)
  have HP4 := Aside0.mk (HP3.out.below hb)
  have HQ4 := Aside0.mk (HQ3.out.below hb)
  clear hb HB3 HA3 HP3 HQ3
  obtain ⟨ca0, ca1, ca2, ca3, ca4, ca5⟩ := (HA4.out.alloc (.cells #[.int .i64 0, .int .i64 0, .int .i64 0, .int .i64 0, .int .i64 0, .int .i64 0] 49 (0, 0))).six
  go_wp2_with fail
  refine (rValid_is a b false HR.out _).mono ?_
  rintro e' w5 ⟨rfl, hb⟩
  have HB5 := Aside0.mk (below_step (below_alloc HB4.out (.cells #[.int .i64 0, .int .i64 0, .int .i64 0, .int .i64 0, .int .i64 0, .int .i64 0] 49 (0, 0))) hb)
  have HA5 := Aside0.mk ((HA4.out.alloc (.cells #[.int .i64 0, .int .i64 0, .int .i64 0, .int .i64 0, .int .i64 0, .int .i64 0] 49 (0, 0))).below hb)
  have HP5 := Aside0.mk ((HP4.out.alloc (.cells #[.int .i64 0, .int .i64 0, .int .i64 0, .int .i64 0, .int .i64 0, .int .i64 0] 49 (0, 0))).below hb)
  have HQ5 := Aside0.mk ((HQ4.out.alloc (.cells #[.int .i64 0, .int .i64 0, .int .i64 0, .int .i64 0, .int .i64 0, .int .i64 0] 49 (0, 0))).below hb)
  have HV5 := Aside0.mk ((At6.new w4 0 0 0 0 0 0).below hb)
  clear hb HB4 HA4 HP4 HQ4
  clear ca0 ca1 ca2 ca3 ca4 ca5
  obtain ⟨ca0, ca1, ca2, ca3, ca4, ca5⟩ := (HA5.out).six
  obtain ⟨cv0, cv1, cv2, cv3, cv4, cv5⟩ := (HV5.out).six
  go_wp2_with fail
  refine (rValid_is a b false HR.out _).mono ?_
  rintro e' w6 ⟨rfl, hb⟩
  have HB6 := Aside0.mk (below_step HB5.out hb)
  have HA6 := Aside0.mk (HA5.out.below hb)
  have HP6 := Aside0.mk (HP5.out.below hb)
  have HQ6 := Aside0.mk (HQ5.out.below hb)
  have HV6 := Aside0.mk (HV5.out.below hb)
  clear hb HB5 HA5 HP5 HQ5 HV5
  clear ca0 ca1 ca2 ca3 ca4 ca5
  clear cv0 cv1 cv2 cv3 cv4 cv5
  obtain ⟨cv0, cv1, cv2, cv3, cv4, cv5⟩ := (HV6.out).six
  go_wp2_with fail
  clear cv0 cv1 cv2 cv3 cv4 cv5
  have HB := Aside0.mk (below_drew1 HB6.out)
  have HA := Aside0.mk HA6.out.drew
  have HP := Aside0.mk HP6.out.drew
  have HQ := Aside0.mk HQ6.out.drew
  have k0 : Six w6.drew w.heap.size a.s a.v a.t b.s b.v b.t ∧ Six w6.drew w1.heap.size p.s p.v p.t q.s q.v q.t ∧ Six w6.drew w2.heap.size p.s p.v p.t q.s q.v q.t := ⟨HA.out.six, HP.out.six, HQ.out.six⟩
  clear HB6 HA6 HP6 HQ6 HV6
  refine wp_region_held_drew (S := fun w' => Six w' w.heap.size a.s a.v a.t b.s b.v b.t ∧ Six w' w1.heap.size p.s p.v p.t q.s q.v q.t ∧ Six w' w2.heap.size p.s p.v p.t q.s q.v q.t) (by kernel_rfl) k0 (fun hHeld => ?_)
  refine wpAnyH_ready (rs := [0]) (by kernel_rfl) (by simp) ?_
  refine AllReadyH.cons rfl (fun K hK => ?_) AllReadyH.nil
  go_simp
  go_at_call 40
  refine (sanity25_any _).mono ?_
  rintro e' w7 ⟨rfl, hb⟩
  have HA' := Aside0.mk (HA.out.below hb)
  have HP' := Aside0.mk (HP.out.below hb)
  have HQ' := Aside0.mk (HQ.out.below hb)
  have HB' := Aside0.mk (below_step HB.out hb)
  clear hb HA HP HQ HB k0 hHeld
  have HA := HA'
  have HP := HP'
  have HQ := HQ'
  have HB := HB'
  clear HA' HP' HQ' HB'
  have k0 : Six w7 w.heap.size a.s a.v a.t b.s b.v b.t ∧ Six w7 w1.heap.size p.s p.v p.t q.s q.v q.t ∧ Six w7 w2.heap.size p.s p.v p.t q.s q.v q.t := ⟨HA.out.six, HP.out.six, HQ.out.six⟩
  refine hK.out _ _ k0 (fun hHeld => ?_)
  clear hK K
  try simp only [Act.put, List.getElem_toArray, List.getElem_cons_zero, List.getElem_cons_succ, List.setIfInBounds_toArray, List.set_cons_zero, List.set_cons_succ]
  refine wpAnyH_take (i := 1) (v := (.bool true)) rfl (by kernel_rfl) (by kernel_rfl) (by kernel_rfl) (fun _ _ _ h => h) (Or.inl ⟨by rfl, fun w' hSw => ?_⟩) (by assumption) ?_
  · go_simp
  try simp only [Act.put, List.getElem_toArray, List.getElem_cons_zero, List.getElem_cons_succ, List.setIfInBounds_toArray, List.set_cons_zero, List.set_cons_succ]
  refine wpAnyH_take (i := 2) (v := (stV a b)) rfl (by kernel_rfl) (by kernel_rfl) (by kernel_rfl) (fun _ _ _ h => h) (Or.inl ⟨by rfl, fun w' hSw => ?_⟩) (by assumption) ?_
  · obtain ⟨⟨s0, s1, s2, s3, s4, s5⟩, ⟨s6, s7, s8, s9, s10, s11⟩, ⟨s12, s13, s14, s15, s16, s17⟩⟩ := hSw; go_simp
  try simp only [Act.put, List.getElem_toArray, List.getElem_cons_zero, List.getElem_cons_succ, List.setIfInBounds_toArray, List.set_cons_zero, List.set_cons_succ]
  refine wpAnyH_take (i := 4) (v := (stV a b)) rfl (by kernel_rfl) (by kernel_rfl) (by kernel_rfl) (fun _ _ _ h => h) (Or.inl ⟨by rfl, fun w' hSw => ?_⟩) (by assumption) ?_
  · obtain ⟨⟨s0, s1, s2, s3, s4, s5⟩, ⟨s6, s7, s8, s9, s10, s11⟩, ⟨s12, s13, s14, s15, s16, s17⟩⟩ := hSw; go_simp
  try simp only [Act.put, List.getElem_toArray, List.getElem_cons_zero, List.getElem_cons_succ, List.setIfInBounds_toArray, List.set_cons_zero, List.set_cons_succ]
  refine wpAnyH_ready (rs := [3]) (by kernel_rfl) (by simp) ?_
  refine AllReadyH.cons rfl (fun K hK => ?_) AllReadyH.nil
  go_simp
  go_at_call 56
  refine (Encode_is a b x HX.out HI.out _).mono ?_
  rintro e' w8 ⟨rfl, hb⟩
  have HA' := Aside0.mk (HA.out.below hb)
  have HP' := Aside0.mk (HP.out.below hb)
  have HQ' := Aside0.mk (HQ.out.below hb)
  have HB' := Aside0.mk (below_step HB.out hb)
  clear hb HA HP HQ HB k0 hHeld
  have HA := HA'
  have HP := HP'
  have HQ := HQ'
  have HB := HB'
  clear HA' HP' HQ' HB'
  have k0 : Six w8 w.heap.size a.s a.v a.t b.s b.v b.t ∧ Six w8 w1.heap.size p.s p.v p.t q.s q.v q.t ∧ Six w8 w2.heap.size p.s p.v p.t q.s q.v q.t := ⟨HA.out.six, HP.out.six, HQ.out.six⟩
  refine hK.out _ _ k0 (fun hHeld => ?_)
  clear hK K
  try simp only [Act.put, List.getElem_toArray, List.getElem_cons_zero, List.getElem_cons_succ, List.setIfInBounds_toArray, List.set_cons_zero, List.set_cons_succ]
  refine wpAnyH_ready (rs := [5]) (by kernel_rfl) (by simp) ?_
  refine AllReadyH.cons rfl (fun K hK => ?_) AllReadyH.nil
  go_simp
  go_at_call 57
  refine (rEncode_is a b x HX.out HI.out _).mono ?_
  rintro e' w9 ⟨rfl, hb⟩
  have HA' := Aside0.mk (HA.out.below hb)
  have HP' := Aside0.mk (HP.out.below hb)
  have HQ' := Aside0.mk (HQ.out.below hb)
  have HB' := Aside0.mk (below_step HB.out hb)
  clear hb HA HP HQ HB k0 hHeld
  have HA := HA'
  have HP := HP'
  have HQ := HQ'
  have HB := HB'
  clear HA' HP' HQ' HB'
  have k0 : Six w9 w.heap.size a.s a.v a.t b.s b.v b.t ∧ Six w9 w1.heap.size p.s p.v p.t q.s q.v q.t ∧ Six w9 w2.heap.size p.s p.v p.t q.s q.v q.t := ⟨HA.out.six, HP.out.six, HQ.out.six⟩
  refine hK.out _ _ k0 (fun hHeld => ?_)
  clear hK K
  try simp only [Act.put, List.getElem_toArray, List.getElem_cons_zero, List.getElem_cons_succ, List.setIfInBounds_toArray, List.set_cons_zero, List.set_cons_succ]
  refine wpAnyH_take (i := 6) (v := (.bool true)) rfl (by kernel_rfl) (by kernel_rfl) (by kernel_rfl) (fun _ _ _ h => h) (Or.inl ⟨by rfl, fun w' hSw => ?_⟩) (by assumption) ?_
  · go_simp
  try simp only [Act.put, List.getElem_toArray, List.getElem_cons_zero, List.getElem_cons_succ, List.setIfInBounds_toArray, List.set_cons_zero, List.set_cons_succ]
  refine wpAnyH_take (i := 7) (v := (.bool true)) rfl (by kernel_rfl) (by kernel_rfl) (by kernel_rfl) (fun _ _ _ h => h) (Or.inl ⟨by rfl, fun w' hSw => ?_⟩) (by assumption) ?_
  · go_simp
  try simp only [Act.put, List.getElem_toArray, List.getElem_cons_zero, List.getElem_cons_succ, List.setIfInBounds_toArray, List.set_cons_zero, List.set_cons_succ]
  refine wpAnyH_take (i := 8) (v := (.bool true)) rfl (by kernel_rfl) (by kernel_rfl) (by kernel_rfl) (fun _ _ _ h => h) (Or.inl ⟨by rfl, fun w' hSw => ?_⟩) (by assumption) ?_
  · go_simp
  try simp only [Act.put, List.getElem_toArray, List.getElem_cons_zero, List.getElem_cons_succ, List.setIfInBounds_toArray, List.set_cons_zero, List.set_cons_succ]
  refine wpAnyH_take (i := 9) (v := (stV p q)) rfl (by kernel_rfl) (by kernel_rfl) (by kernel_rfl) (fun _ _ _ h => h) (Or.inl ⟨by rfl, fun w' hSw => ?_⟩) (by assumption) ?_
  · obtain ⟨⟨s0, s1, s2, s3, s4, s5⟩, ⟨s6, s7, s8, s9, s10, s11⟩, ⟨s12, s13, s14, s15, s16, s17⟩⟩ := hSw; go_simp
  try simp only [Act.put, List.getElem_toArray, List.getElem_cons_zero, List.getElem_cons_succ, List.setIfInBounds_toArray, List.set_cons_zero, List.set_cons_succ]
  refine wpAnyH_take (i := 10) (v := (stV p q)) rfl (by kernel_rfl) (by kernel_rfl) (by kernel_rfl) (fun _ _ _ h => h) (Or.inl ⟨by rfl, fun w' hSw => ?_⟩) (by assumption) ?_
  · obtain ⟨⟨s0, s1, s2, s3, s4, s5⟩, ⟨s6, s7, s8, s9, s10, s11⟩, ⟨s12, s13, s14, s15, s16, s17⟩⟩ := hSw; go_simp
  try simp only [Act.put, List.getElem_toArray, List.getElem_cons_zero, List.getElem_cons_succ, List.setIfInBounds_toArray, List.set_cons_zero, List.set_cons_succ]
  refine wpAnyH_take (i := 11) (v := (.bool true)) rfl (by kernel_rfl) (by kernel_rfl) (by kernel_rfl) (fun _ _ _ h => h) (Or.inl ⟨by rfl, fun w' hSw => ?_⟩) (by assumption) ?_
  · go_simp
  try simp only [Act.put, List.getElem_toArray, List.getElem_cons_zero, List.getElem_cons_succ, List.setIfInBounds_toArray, List.set_cons_zero, List.set_cons_succ]
  refine wpAnyH_take (i := 12) (v := (.bool true)) rfl (by kernel_rfl) (by kernel_rfl) (by kernel_rfl) (fun _ _ _ h => h) (Or.inl ⟨by rfl, fun w' hSw => ?_⟩) (by assumption) ?_
  · go_simp
  try simp only [Act.put, List.getElem_toArray, List.getElem_cons_zero, List.getElem_cons_succ, List.setIfInBounds_toArray, List.set_cons_zero, List.set_cons_succ]
  refine wpAnyH_take (i := 13) (v := (.bool true)) rfl (by kernel_rfl) (by kernel_rfl) (by kernel_rfl) (fun _ _ _ h => h) (Or.inl ⟨by rfl, fun w' hSw => ?_⟩) (by assumption) ?_
  · go_simp
  try simp only [Act.put, List.getElem_toArray, List.getElem_cons_zero, List.getElem_cons_succ, List.setIfInBounds_toArray, List.set_cons_zero, List.set_cons_succ]
  refine wpAnyH_take (i := 14) (v := (.int .i64 0)) rfl (by kernel_rfl) (by kernel_rfl) (by kernel_rfl) (fun _ _ _ h => h) (Or.inl ⟨by rfl, fun w' hSw => ?_⟩) (by assumption) ?_
  · go_simp
  try simp only [Act.put, List.getElem_toArray, List.getElem_cons_zero, List.getElem_cons_succ, List.setIfInBounds_toArray, List.set_cons_zero, List.set_cons_succ]
  refine wpAnyH_take (i := 15) (v := (.int .i64 0)) rfl (by kernel_rfl) (by kernel_rfl) (by kernel_rfl) (fun _ _ _ h => h) (Or.inl ⟨by rfl, fun w' hSw => ?_⟩) (by assumption) ?_
  · go_simp
  try simp only [Act.put, List.getElem_toArray, List.getElem_cons_zero, List.getElem_cons_succ, List.setIfInBounds_toArray, List.set_cons_zero, List.set_cons_succ]
  refine wpAnyH_take (i := 16) (v := (.bool true)) rfl (by kernel_rfl) (by kernel_rfl) (by kernel_rfl) (fun _ _ _ h => h) (Or.inl ⟨by rfl, fun w' hSw => ?_⟩) (by assumption) ?_
  · go_simp
  try simp only [Act.put, List.getElem_toArray, List.getElem_cons_zero, List.getElem_cons_succ, List.setIfInBounds_toArray, List.set_cons_zero, List.set_cons_succ]
  refine wpAnyH_take (i := 17) (v := (.bool true)) rfl (by kernel_rfl) (by kernel_rfl) (by kernel_rfl) (fun _ _ _ h => h) (Or.inl ⟨by rfl, fun w' hSw => ?_⟩) (by assumption) ?_
  · go_simp
  try simp only [Act.put, List.getElem_toArray, List.getElem_cons_zero, List.getElem_cons_succ, List.setIfInBounds_toArray, List.set_cons_zero, List.set_cons_succ]
  refine wpAnyH_take (i := 18) (v := (.bool true)) rfl (by kernel_rfl) (by kernel_rfl) (by kernel_rfl) (fun _ _ _ h => h) (Or.inl ⟨by rfl, fun w' hSw => ?_⟩) (by assumption) ?_
  · go_simp
  try simp only [Act.put, List.getElem_toArray, List.getElem_cons_zero, List.getElem_cons_succ, List.setIfInBounds_toArray, List.set_cons_zero, List.set_cons_succ]
  refine wpAnyH_take (i := 19) (v := (.int .i64 0)) rfl (by kernel_rfl) (by kernel_rfl) (by kernel_rfl) (fun _ _ _ h => h) (Or.inl ⟨by rfl, fun w' hSw => ?_⟩) (by assumption) ?_
  · go_simp
  try simp only [Act.put, List.getElem_toArray, List.getElem_cons_zero, List.getElem_cons_succ, List.setIfInBounds_toArray, List.set_cons_zero, List.set_cons_succ]
  refine wpAnyH_take (i := 20) (v := (.bool false)) rfl (by kernel_rfl) (by kernel_rfl) (by kernel_rfl) (fun _ _ _ h => h) (Or.inl ⟨by rfl, fun w' hSw => ?_⟩) (by assumption) ?_
  · go_simp
  try simp only [Act.put, List.getElem_toArray, List.getElem_cons_zero, List.getElem_cons_succ, List.setIfInBounds_toArray, List.set_cons_zero, List.set_cons_succ]
  refine wpAnyH_take (i := 21) (v := (.bool false)) rfl (by kernel_rfl) (by kernel_rfl) (by kernel_rfl) (fun _ _ _ h => h) (Or.inl ⟨by rfl, fun w' hSw => ?_⟩) (by assumption) ?_
  · go_simp
  try simp only [Act.put, List.getElem_toArray, List.getElem_cons_zero, List.getElem_cons_succ, List.setIfInBounds_toArray, List.set_cons_zero, List.set_cons_succ]
  refine wpAnyH_take (i := 22) (v := (stV p q)) rfl (by kernel_rfl) (by kernel_rfl) (by kernel_rfl) (fun _ _ _ h => h) (Or.inl ⟨by rfl, fun w' hSw => ?_⟩) (by assumption) ?_
  · obtain ⟨⟨s0, s1, s2, s3, s4, s5⟩, ⟨s6, s7, s8, s9, s10, s11⟩, ⟨s12, s13, s14, s15, s16, s17⟩⟩ := hSw; go_simp
  try simp only [Act.put, List.getElem_toArray, List.getElem_cons_zero, List.getElem_cons_succ, List.setIfInBounds_toArray, List.set_cons_zero, List.set_cons_succ]
  refine wpAnyH_take (i := 24) (v := (.string s)) rfl (by kernel_rfl) (by kernel_rfl) (by kernel_rfl) (fun _ _ _ h => h) (Or.inl ⟨by rfl, fun w' hSw => ?_⟩) (by assumption) ?_
  · go_simp
  try simp only [Act.put, List.getElem_toArray, List.getElem_cons_zero, List.getElem_cons_succ, List.setIfInBounds_toArray, List.set_cons_zero, List.set_cons_succ]
  refine wpAnyH_ready (rs := [23]) (by kernel_rfl) (by simp) ?_
  refine AllReadyH.cons rfl (fun K hK => ?_) AllReadyH.nil
  go_simp
  go_at_call 56
  refine (Encode_is p q s HT.out HTI.out _).mono ?_
  rintro e' w10 ⟨rfl, hb⟩
  have HA' := Aside0.mk (HA.out.below hb)
  have HP' := Aside0.mk (HP.out.below hb)
  have HQ' := Aside0.mk (HQ.out.below hb)
  have HB' := Aside0.mk (below_step HB.out hb)
  clear hb HA HP HQ HB k0 hHeld
  have HA := HA'
  have HP := HP'
  have HQ := HQ'
  have HB := HB'
  clear HA' HP' HQ' HB'
  have k0 : Six w10 w.heap.size a.s a.v a.t b.s b.v b.t ∧ Six w10 w1.heap.size p.s p.v p.t q.s q.v q.t ∧ Six w10 w2.heap.size p.s p.v p.t q.s q.v q.t := ⟨HA.out.six, HP.out.six, HQ.out.six⟩
  refine hK.out _ _ k0 (fun hHeld => ?_)
  clear hK K
  try simp only [Act.put, List.getElem_toArray, List.getElem_cons_zero, List.getElem_cons_succ, List.setIfInBounds_toArray, List.set_cons_zero, List.set_cons_succ]
  refine wpAnyH_take (i := 25) (v := (.bool true)) rfl (by kernel_rfl) (by kernel_rfl) (by kernel_rfl) (fun _ _ _ h => h) (Or.inl ⟨by rfl, fun w' hSw => ?_⟩) (by assumption) ?_
  · go_simp
  try simp only [Act.put, List.getElem_toArray, List.getElem_cons_zero, List.getElem_cons_succ, List.setIfInBounds_toArray, List.set_cons_zero, List.set_cons_succ]
  refine wpAnyH_take (i := 26) (v := (.bool true)) rfl (by kernel_rfl) (by kernel_rfl) (by kernel_rfl) (fun _ _ _ h => h) (Or.inl ⟨by rfl, fun w' hSw => ?_⟩) (by assumption) ?_
  · go_simp
  try simp only [Act.put, List.getElem_toArray, List.getElem_cons_zero, List.getElem_cons_succ, List.setIfInBounds_toArray, List.set_cons_zero, List.set_cons_succ]
  refine wpAnyH_take (i := 27) (v := (.bool true)) rfl (by kernel_rfl) (by kernel_rfl) (by kernel_rfl) (fun _ _ _ h => h) (Or.inl ⟨by rfl, fun w' hSw => ?_⟩) (by assumption) ?_
  · go_simp
  try simp only [Act.put, List.getElem_toArray, List.getElem_cons_zero, List.getElem_cons_succ, List.setIfInBounds_toArray, List.set_cons_zero, List.set_cons_succ]
  refine wpAnyH_take (i := 28) (v := (.bool true)) rfl (by kernel_rfl) (by kernel_rfl) (by kernel_rfl) (fun _ _ _ h => h) (Or.inl ⟨by rfl, fun w' hSw => ?_⟩) (by assumption) ?_
  · go_simp
  try simp only [Act.put, List.getElem_toArray, List.getElem_cons_zero, List.getElem_cons_succ, List.setIfInBounds_toArray, List.set_cons_zero, List.set_cons_succ]
  refine wpAnyH_done (by kernel_rfl) ?_ _
  go_wp2_with fail
  go_ret
  exact ⟨rfl, HB.out⟩

set_option maxHeartbeats 32000000 in
set_option maxRecDepth 100000 in
theorem short01 (a b : Slot) (s : ByteArray) (w : World) (hs : s.size ≤ 500) (ha : M64 a) (hb : M64 b) (hok : ¬ ok a b) (p q : Slot) (e : Int) (hd : dcd s = (p, q, e)) (he : e ≠ 0) : Calls Try.prog 14 #[stV a b, .string s] w fun e w' => e = .returned (.bool true) ∧ Below w.heap.size w w' := by
  have HD := Aside0.mk hd
  have HI := Aside0.mk (all6 ha hb)
  have hs2 : s.size ≤ 100000 := by omega
  obtain ⟨x, hx⟩ : ∃ x, txt a b = x := ⟨_, rfl⟩
  have hxs := (txt_size a b HI.out).2
  have hxd := dcd_txt a b HI.out
  rw [hx] at hxs hxd
  rw [if_neg hok] at hxd
  have HX := Aside0.mk hx
  have HXS : Aside0 (x.size ≤ 100000) := ⟨by omega⟩
  have HXD : Aside0 (dcd x = (⟨0, 0, 0⟩, ⟨0, 0, 0⟩, 7)) := ⟨hxd⟩
  have HR := Aside0.mk (decide_eq_false hok)
  have hee : (e != 0) = true := bne_iff_ne.2 he
  clear he
  clear hd ha hb hx hxs hxd hok
  go_enter Try.func14, Try.ntmps14
  go_wp2_with fail
  refine (Decode_is s hs2 p q e HD.out _).mono ?_
  rintro e' w1 ⟨rfl, hb⟩
  have HB1 := Aside0.mk (below_step (below_alloc (Below.refl w.heap.size w) (oS a b)) hb)
  have HA1 := Aside0.mk ((At6.new w a.s a.v a.t b.s b.v b.t).below hb)
  clear hb
  go_wp2_with fail
  refine (rDecode_is s hs2 p q e HD.out _).mono ?_
  rintro e' w2 ⟨rfl, hb⟩
  have HB2 := Aside0.mk (below_step (below_alloc HB1.out (oS p q)) hb)
  have HA2 := Aside0.mk ((HA1.out.alloc (oS p q)).below hb)
  have HP2 := Aside0.mk ((At6.new w1 p.s p.v p.t q.s q.v q.t).below hb)
  clear hb HB1 HA1
  obtain ⟨ca0, ca1, ca2, ca3, ca4, ca5⟩ := (HA2.out.alloc (oS p q)).six
  go_wp2_with fail
  refine (Encode_is a b x HX.out HI.out _).mono ?_
  rintro e' w3 ⟨rfl, hb⟩
  have HB3 := Aside0.mk (below_step (below_alloc HB2.out (oS p q)) hb)
  have HA3 := Aside0.mk ((HA2.out.alloc (oS p q)).below hb)
  have HP3 := Aside0.mk ((HP2.out.alloc (oS p q)).below hb)
  have HQ3 := Aside0.mk ((At6.new w2 p.s p.v p.t q.s q.v q.t).below hb)
  clear hb HB2 HA2 HP2
  clear ca0 ca1 ca2 ca3 ca4 ca5
  go_wp2_with fail
  refine (Decode_is x HXS.out ⟨0, 0, 0⟩ ⟨0, 0, 0⟩ 7 HXD.out _).mono ?_
  rintro e' w4 ⟨rfl, hb⟩
  have HB4 := Aside0.mk (below_step HB3.out hb)
  have HA4 := Aside0.mk (HA3.out.below hb)
  have HP4 := Aside0.mk (HP3.out.below hb)
  have HQ4 := Aside0.mk (HQ3.out.below hb)
  clear hb HB3 HA3 HP3 HQ3
  obtain ⟨ca0, ca1, ca2, ca3, ca4, ca5⟩ := (HA4.out.alloc (.cells #[.int .i64 0, .int .i64 0, .int .i64 0, .int .i64 0, .int .i64 0, .int .i64 0] 49 (0, 0))).six
  go_wp2_with fail
  refine (rValid_is a b false HR.out _).mono ?_
  rintro e' w5 ⟨rfl, hb⟩
  have HB5 := Aside0.mk (below_step (below_alloc HB4.out (.cells #[.int .i64 0, .int .i64 0, .int .i64 0, .int .i64 0, .int .i64 0, .int .i64 0] 49 (0, 0))) hb)
  have HA5 := Aside0.mk ((HA4.out.alloc (.cells #[.int .i64 0, .int .i64 0, .int .i64 0, .int .i64 0, .int .i64 0, .int .i64 0] 49 (0, 0))).below hb)
  have HP5 := Aside0.mk ((HP4.out.alloc (.cells #[.int .i64 0, .int .i64 0, .int .i64 0, .int .i64 0, .int .i64 0, .int .i64 0] 49 (0, 0))).below hb)
  have HQ5 := Aside0.mk ((HQ4.out.alloc (.cells #[.int .i64 0, .int .i64 0, .int .i64 0, .int .i64 0, .int .i64 0, .int .i64 0] 49 (0, 0))).below hb)
  have HV5 := Aside0.mk ((At6.new w4 0 0 0 0 0 0).below hb)
  clear hb HB4 HA4 HP4 HQ4
  clear ca0 ca1 ca2 ca3 ca4 ca5
  obtain ⟨ca0, ca1, ca2, ca3, ca4, ca5⟩ := (HA5.out).six
  obtain ⟨cv0, cv1, cv2, cv3, cv4, cv5⟩ := (HV5.out).six
  go_wp2_with fail
  refine (rValid_is a b false HR.out _).mono ?_
  rintro e' w6 ⟨rfl, hb⟩
  have HB6 := Aside0.mk (below_step HB5.out hb)
  have HA6 := Aside0.mk (HA5.out.below hb)
  have HP6 := Aside0.mk (HP5.out.below hb)
  have HQ6 := Aside0.mk (HQ5.out.below hb)
  have HV6 := Aside0.mk (HV5.out.below hb)
  clear hb HB5 HA5 HP5 HQ5 HV5
  clear ca0 ca1 ca2 ca3 ca4 ca5
  clear cv0 cv1 cv2 cv3 cv4 cv5
  obtain ⟨cv0, cv1, cv2, cv3, cv4, cv5⟩ := (HV6.out).six
  go_wp2_with fail
  clear cv0 cv1 cv2 cv3 cv4 cv5
  have HB := Aside0.mk (below_drew1 HB6.out)
  have HA := Aside0.mk HA6.out.drew
  have HP := Aside0.mk HP6.out.drew
  have HQ := Aside0.mk HQ6.out.drew
  have k0 : Six w6.drew w.heap.size a.s a.v a.t b.s b.v b.t ∧ Six w6.drew w1.heap.size p.s p.v p.t q.s q.v q.t ∧ Six w6.drew w2.heap.size p.s p.v p.t q.s q.v q.t := ⟨HA.out.six, HP.out.six, HQ.out.six⟩
  clear HB6 HA6 HP6 HQ6 HV6
  refine wp_region_held_drew (S := fun w' => Six w' w.heap.size a.s a.v a.t b.s b.v b.t ∧ Six w' w1.heap.size p.s p.v p.t q.s q.v q.t ∧ Six w' w2.heap.size p.s p.v p.t q.s q.v q.t) (by kernel_rfl) k0 (fun hHeld => ?_)
  refine wpAnyH_ready (rs := [0]) (by kernel_rfl) (by simp) ?_
  refine AllReadyH.cons rfl (fun K hK => ?_) AllReadyH.nil
  go_simp
  go_at_call 40
  refine (sanity25_any _).mono ?_
  rintro e' w7 ⟨rfl, hb⟩
  have HA' := Aside0.mk (HA.out.below hb)
  have HP' := Aside0.mk (HP.out.below hb)
  have HQ' := Aside0.mk (HQ.out.below hb)
  have HB' := Aside0.mk (below_step HB.out hb)
  clear hb HA HP HQ HB k0 hHeld
  have HA := HA'
  have HP := HP'
  have HQ := HQ'
  have HB := HB'
  clear HA' HP' HQ' HB'
  have k0 : Six w7 w.heap.size a.s a.v a.t b.s b.v b.t ∧ Six w7 w1.heap.size p.s p.v p.t q.s q.v q.t ∧ Six w7 w2.heap.size p.s p.v p.t q.s q.v q.t := ⟨HA.out.six, HP.out.six, HQ.out.six⟩
  refine hK.out _ _ k0 (fun hHeld => ?_)
  clear hK K
  try simp only [Act.put, List.getElem_toArray, List.getElem_cons_zero, List.getElem_cons_succ, List.setIfInBounds_toArray, List.set_cons_zero, List.set_cons_succ]
  refine wpAnyH_take (i := 1) (v := (.bool true)) rfl (by kernel_rfl) (by kernel_rfl) (by kernel_rfl) (fun _ _ _ h => h) (Or.inl ⟨by rfl, fun w' hSw => ?_⟩) (by assumption) ?_
  · go_simp
  try simp only [Act.put, List.getElem_toArray, List.getElem_cons_zero, List.getElem_cons_succ, List.setIfInBounds_toArray, List.set_cons_zero, List.set_cons_succ]
  refine wpAnyH_take (i := 2) (v := (stV a b)) rfl (by kernel_rfl) (by kernel_rfl) (by kernel_rfl) (fun _ _ _ h => h) (Or.inl ⟨by rfl, fun w' hSw => ?_⟩) (by assumption) ?_
  · obtain ⟨⟨s0, s1, s2, s3, s4, s5⟩, ⟨s6, s7, s8, s9, s10, s11⟩, ⟨s12, s13, s14, s15, s16, s17⟩⟩ := hSw; go_simp
  try simp only [Act.put, List.getElem_toArray, List.getElem_cons_zero, List.getElem_cons_succ, List.setIfInBounds_toArray, List.set_cons_zero, List.set_cons_succ]
  refine wpAnyH_take (i := 4) (v := (stV a b)) rfl (by kernel_rfl) (by kernel_rfl) (by kernel_rfl) (fun _ _ _ h => h) (Or.inl ⟨by rfl, fun w' hSw => ?_⟩) (by assumption) ?_
  · obtain ⟨⟨s0, s1, s2, s3, s4, s5⟩, ⟨s6, s7, s8, s9, s10, s11⟩, ⟨s12, s13, s14, s15, s16, s17⟩⟩ := hSw; go_simp
  try simp only [Act.put, List.getElem_toArray, List.getElem_cons_zero, List.getElem_cons_succ, List.setIfInBounds_toArray, List.set_cons_zero, List.set_cons_succ]
  refine wpAnyH_ready (rs := [3]) (by kernel_rfl) (by simp) ?_
  refine AllReadyH.cons rfl (fun K hK => ?_) AllReadyH.nil
  go_simp
  go_at_call 56
  refine (Encode_is a b x HX.out HI.out _).mono ?_
  rintro e' w8 ⟨rfl, hb⟩
  have HA' := Aside0.mk (HA.out.below hb)
  have HP' := Aside0.mk (HP.out.below hb)
  have HQ' := Aside0.mk (HQ.out.below hb)
  have HB' := Aside0.mk (below_step HB.out hb)
  clear hb HA HP HQ HB k0 hHeld
  have HA := HA'
  have HP := HP'
  have HQ := HQ'
  have HB := HB'
  clear HA' HP' HQ' HB'
  have k0 : Six w8 w.heap.size a.s a.v a.t b.s b.v b.t ∧ Six w8 w1.heap.size p.s p.v p.t q.s q.v q.t ∧ Six w8 w2.heap.size p.s p.v p.t q.s q.v q.t := ⟨HA.out.six, HP.out.six, HQ.out.six⟩
  refine hK.out _ _ k0 (fun hHeld => ?_)
  clear hK K
  try simp only [Act.put, List.getElem_toArray, List.getElem_cons_zero, List.getElem_cons_succ, List.setIfInBounds_toArray, List.set_cons_zero, List.set_cons_succ]
  refine wpAnyH_ready (rs := [5]) (by kernel_rfl) (by simp) ?_
  refine AllReadyH.cons rfl (fun K hK => ?_) AllReadyH.nil
  go_simp
  go_at_call 57
  refine (rEncode_is a b x HX.out HI.out _).mono ?_
  rintro e' w9 ⟨rfl, hb⟩
  have HA' := Aside0.mk (HA.out.below hb)
  have HP' := Aside0.mk (HP.out.below hb)
  have HQ' := Aside0.mk (HQ.out.below hb)
  have HB' := Aside0.mk (below_step HB.out hb)
  clear hb HA HP HQ HB k0 hHeld
  have HA := HA'
  have HP := HP'
  have HQ := HQ'
  have HB := HB'
  clear HA' HP' HQ' HB'
  have k0 : Six w9 w.heap.size a.s a.v a.t b.s b.v b.t ∧ Six w9 w1.heap.size p.s p.v p.t q.s q.v q.t ∧ Six w9 w2.heap.size p.s p.v p.t q.s q.v q.t := ⟨HA.out.six, HP.out.six, HQ.out.six⟩
  refine hK.out _ _ k0 (fun hHeld => ?_)
  clear hK K
  try simp only [Act.put, List.getElem_toArray, List.getElem_cons_zero, List.getElem_cons_succ, List.setIfInBounds_toArray, List.set_cons_zero, List.set_cons_succ]
  refine wpAnyH_take (i := 6) (v := (.bool true)) rfl (by kernel_rfl) (by kernel_rfl) (by kernel_rfl) (fun _ _ _ h => h) (Or.inl ⟨by rfl, fun w' hSw => ?_⟩) (by assumption) ?_
  · go_simp
  try simp only [Act.put, List.getElem_toArray, List.getElem_cons_zero, List.getElem_cons_succ, List.setIfInBounds_toArray, List.set_cons_zero, List.set_cons_succ]
  refine wpAnyH_take (i := 7) (v := (.bool true)) rfl (by kernel_rfl) (by kernel_rfl) (by kernel_rfl) (fun _ _ _ h => h) (Or.inl ⟨by rfl, fun w' hSw => ?_⟩) (by assumption) ?_
  · go_simp
  try simp only [Act.put, List.getElem_toArray, List.getElem_cons_zero, List.getElem_cons_succ, List.setIfInBounds_toArray, List.set_cons_zero, List.set_cons_succ]
  refine wpAnyH_take (i := 8) (v := (.bool true)) rfl (by kernel_rfl) (by kernel_rfl) (by kernel_rfl) (fun _ _ _ h => h) (Or.inl ⟨by rfl, fun w' hSw => ?_⟩) (by assumption) ?_
  · go_simp
  try simp only [Act.put, List.getElem_toArray, List.getElem_cons_zero, List.getElem_cons_succ, List.setIfInBounds_toArray, List.set_cons_zero, List.set_cons_succ]
  refine wpAnyH_take (i := 9) (v := (stV p q)) rfl (by kernel_rfl) (by kernel_rfl) (by kernel_rfl) (fun _ _ _ h => h) (Or.inl ⟨by rfl, fun w' hSw => ?_⟩) (by assumption) ?_
  · obtain ⟨⟨s0, s1, s2, s3, s4, s5⟩, ⟨s6, s7, s8, s9, s10, s11⟩, ⟨s12, s13, s14, s15, s16, s17⟩⟩ := hSw; go_simp
  try simp only [Act.put, List.getElem_toArray, List.getElem_cons_zero, List.getElem_cons_succ, List.setIfInBounds_toArray, List.set_cons_zero, List.set_cons_succ]
  refine wpAnyH_take (i := 10) (v := (stV p q)) rfl (by kernel_rfl) (by kernel_rfl) (by kernel_rfl) (fun _ _ _ h => h) (Or.inl ⟨by rfl, fun w' hSw => ?_⟩) (by assumption) ?_
  · obtain ⟨⟨s0, s1, s2, s3, s4, s5⟩, ⟨s6, s7, s8, s9, s10, s11⟩, ⟨s12, s13, s14, s15, s16, s17⟩⟩ := hSw; go_simp
  try simp only [Act.put, List.getElem_toArray, List.getElem_cons_zero, List.getElem_cons_succ, List.setIfInBounds_toArray, List.set_cons_zero, List.set_cons_succ]
  refine wpAnyH_take (i := 11) (v := (.bool true)) rfl (by kernel_rfl) (by kernel_rfl) (by kernel_rfl) (fun _ _ _ h => h) (Or.inl ⟨by rfl, fun w' hSw => ?_⟩) (by assumption) ?_
  · go_simp
  try simp only [Act.put, List.getElem_toArray, List.getElem_cons_zero, List.getElem_cons_succ, List.setIfInBounds_toArray, List.set_cons_zero, List.set_cons_succ]
  refine wpAnyH_take (i := 12) (v := (.bool true)) rfl (by kernel_rfl) (by kernel_rfl) (by kernel_rfl) (fun _ _ _ h => h) (Or.inl ⟨by rfl, fun w' hSw => ?_⟩) (by assumption) ?_
  · go_simp
  try simp only [Act.put, List.getElem_toArray, List.getElem_cons_zero, List.getElem_cons_succ, List.setIfInBounds_toArray, List.set_cons_zero, List.set_cons_succ]
  refine wpAnyH_take (i := 13) (v := (.bool true)) rfl (by kernel_rfl) (by kernel_rfl) (by kernel_rfl) (fun _ _ _ h => h) (Or.inl ⟨by rfl, fun w' hSw => ?_⟩) (by assumption) ?_
  · go_simp
  try simp only [Act.put, List.getElem_toArray, List.getElem_cons_zero, List.getElem_cons_succ, List.setIfInBounds_toArray, List.set_cons_zero, List.set_cons_succ]
  refine wpAnyH_take (i := 14) (v := (.int .i64 e)) rfl (by kernel_rfl) (by kernel_rfl) (by kernel_rfl) (fun _ _ _ h => h) (Or.inl ⟨by rfl, fun w' hSw => ?_⟩) (by assumption) ?_
  · go_simp
  try simp only [Act.put, List.getElem_toArray, List.getElem_cons_zero, List.getElem_cons_succ, List.setIfInBounds_toArray, List.set_cons_zero, List.set_cons_succ]
  refine wpAnyH_take (i := 15) (v := (.int .i64 e)) rfl (by kernel_rfl) (by kernel_rfl) (by kernel_rfl) (fun _ _ _ h => h) (Or.inl ⟨by rfl, fun w' hSw => ?_⟩) (by assumption) ?_
  · go_simp
  try simp only [Act.put, List.getElem_toArray, List.getElem_cons_zero, List.getElem_cons_succ, List.setIfInBounds_toArray, List.set_cons_zero, List.set_cons_succ]
  refine wpAnyH_take (i := 16) (v := (.bool true)) rfl (by kernel_rfl) (by kernel_rfl) (by kernel_rfl) (fun _ _ _ h => h) (Or.inl ⟨by rfl, fun w' hSw => ?_⟩) (by assumption) ?_
  · go_simp
  try simp only [Act.put, List.getElem_toArray, List.getElem_cons_zero, List.getElem_cons_succ, List.setIfInBounds_toArray, List.set_cons_zero, List.set_cons_succ]
  refine wpAnyH_take (i := 17) (v := (.bool true)) rfl (by kernel_rfl) (by kernel_rfl) (by kernel_rfl) (fun _ _ _ h => h) (Or.inl ⟨by rfl, fun w' hSw => ?_⟩) (by assumption) ?_
  · go_simp
  try simp only [Act.put, List.getElem_toArray, List.getElem_cons_zero, List.getElem_cons_succ, List.setIfInBounds_toArray, List.set_cons_zero, List.set_cons_succ]
  refine wpAnyH_take (i := 18) (v := (.bool true)) rfl (by kernel_rfl) (by kernel_rfl) (by kernel_rfl) (fun _ _ _ h => h) (Or.inl ⟨by rfl, fun w' hSw => ?_⟩) (by assumption) ?_
  · go_simp
  try simp only [Act.put, List.getElem_toArray, List.getElem_cons_zero, List.getElem_cons_succ, List.setIfInBounds_toArray, List.set_cons_zero, List.set_cons_succ]
  refine wpAnyH_take (i := 19) (v := (.int .i64 e)) rfl (by kernel_rfl) (by kernel_rfl) (by kernel_rfl) (fun _ _ _ h => h) (Or.inl ⟨by rfl, fun w' hSw => ?_⟩) (by assumption) ?_
  · go_simp
  try simp only [Act.put, List.getElem_toArray, List.getElem_cons_zero, List.getElem_cons_succ, List.setIfInBounds_toArray, List.set_cons_zero, List.set_cons_succ]
  refine wpAnyH_take (i := 20) (v := (.bool true)) rfl (by kernel_rfl) (by kernel_rfl) (by kernel_rfl) (fun _ _ _ h => h) (Or.inl ⟨by rfl, fun w' hSw => ?_⟩) (by assumption) ?_
  · go_simp
  try simp only [Act.put, List.getElem_toArray, List.getElem_cons_zero, List.getElem_cons_succ, List.setIfInBounds_toArray, List.set_cons_zero, List.set_cons_succ]
  refine wpAnyH_take (i := 21) (v := (.bool true)) rfl (by kernel_rfl) (by kernel_rfl) (by kernel_rfl) (fun _ _ _ h => h) (Or.inl ⟨by rfl, fun w' hSw => ?_⟩) (by assumption) ?_
  · go_simp
  try simp only [Act.put, List.getElem_toArray, List.getElem_cons_zero, List.getElem_cons_succ, List.setIfInBounds_toArray, List.set_cons_zero, List.set_cons_succ]
  refine wpAnyH_take (i := 22) (v := undef) rfl (by kernel_rfl) (by kernel_rfl) (by kernel_rfl) (fun _ _ _ h => h) (Or.inr ⟨by rfl, rfl⟩) (by assumption) ?_
  try simp only [Act.put, List.getElem_toArray, List.getElem_cons_zero, List.getElem_cons_succ, List.setIfInBounds_toArray, List.set_cons_zero, List.set_cons_succ]
  refine wpAnyH_take (i := 23) (v := undef) rfl (by kernel_rfl) (by kernel_rfl) (by kernel_rfl) (fun _ _ _ h => h) (Or.inr ⟨by rfl, rfl⟩) (by assumption) ?_
  try simp only [Act.put, List.getElem_toArray, List.getElem_cons_zero, List.getElem_cons_succ, List.setIfInBounds_toArray, List.set_cons_zero, List.set_cons_succ]
  refine wpAnyH_take (i := 24) (v := undef) rfl (by kernel_rfl) (by kernel_rfl) (by kernel_rfl) (fun _ _ _ h => h) (Or.inr ⟨by rfl, rfl⟩) (by assumption) ?_
  try simp only [Act.put, List.getElem_toArray, List.getElem_cons_zero, List.getElem_cons_succ, List.setIfInBounds_toArray, List.set_cons_zero, List.set_cons_succ]
  refine wpAnyH_take (i := 25) (v := undef) rfl (by kernel_rfl) (by kernel_rfl) (by kernel_rfl) (fun _ _ _ h => h) (Or.inr ⟨by rfl, rfl⟩) (by assumption) ?_
  try simp only [Act.put, List.getElem_toArray, List.getElem_cons_zero, List.getElem_cons_succ, List.setIfInBounds_toArray, List.set_cons_zero, List.set_cons_succ]
  refine wpAnyH_take (i := 26) (v := (.bool true)) rfl (by kernel_rfl) (by kernel_rfl) (by kernel_rfl) (fun _ _ _ h => h) (Or.inl ⟨by rfl, fun w' hSw => ?_⟩) (by assumption) ?_
  · go_simp
  try simp only [Act.put, List.getElem_toArray, List.getElem_cons_zero, List.getElem_cons_succ, List.setIfInBounds_toArray, List.set_cons_zero, List.set_cons_succ]
  refine wpAnyH_take (i := 27) (v := (.bool true)) rfl (by kernel_rfl) (by kernel_rfl) (by kernel_rfl) (fun _ _ _ h => h) (Or.inl ⟨by rfl, fun w' hSw => ?_⟩) (by assumption) ?_
  · go_simp
  try simp only [Act.put, List.getElem_toArray, List.getElem_cons_zero, List.getElem_cons_succ, List.setIfInBounds_toArray, List.set_cons_zero, List.set_cons_succ]
  refine wpAnyH_take (i := 28) (v := (.bool true)) rfl (by kernel_rfl) (by kernel_rfl) (by kernel_rfl) (fun _ _ _ h => h) (Or.inl ⟨by rfl, fun w' hSw => ?_⟩) (by assumption) ?_
  · go_simp
  try simp only [Act.put, List.getElem_toArray, List.getElem_cons_zero, List.getElem_cons_succ, List.setIfInBounds_toArray, List.set_cons_zero, List.set_cons_succ]
  refine wpAnyH_done (by kernel_rfl) ?_ _
  go_wp2_with fail
  go_ret
  exact ⟨rfl, HB.out⟩

theorem walk (a b : Slot) (s : ByteArray) (w : World) (ha : M64 a) (hb : M64 b) (hs : s.size ≤ 140737488351232) : Calls Try.prog 14 #[stV a b, .string s] w fun e w' => e = .returned (.bool true) ∧ Below w.heap.size w w' := by
  by_cases hl : s.size ≤ 500
  · obtain ⟨p, q, e, hd⟩ : ∃ p q e, dcd s = (p, q, e) := ⟨_, _, _, rfl⟩
    by_cases hok : ok a b <;> by_cases he : e = 0
    · subst he
      exact short10 a b s w hl ha hb hok p q 0 hd
    · exact short11 a b s w hl ha hb hok p q e hd he
    · subst he
      exact short00 a b s w hl ha hb hok p q 0 hd
    · exact short01 a b s w hl ha hb hok p q e hd he
  · exact long a b s w hs (by omega)
end Go.Proofs.Ytippclnmijelfaa.LSle
