/- The walk of the statement that some slot stays confirmed where no confirmed slot fails. -/
import Derived.Test.YtippclnmijelfaaSlN
namespace Go.Proofs.Ytippclnmijelfaa.LKee
open Go.RowKit Go.Proofs.YtippclnmijelfaaW.PrintWords Go.Proofs.YtippclnmijelfaaW.PrintLast Go.Proofs.YtippclnmijelfaaW.PrintMore
open Go.Proofs.Ytippclnmijelfaa.En Go.Proofs.Ytippclnmijelfaa.Rf Go.Proofs.Ytippclnmijelfaa.Wi Go.Proofs.Ytippclnmijelfaa.Rc Go.Proofs.Ytippclnmijelfaa.Sa Go.Proofs.Ytippclnmijelfaa.Op Go.Proofs.Ytippclnmijelfaa.Sl
set_option linter.unusedVariables false
set_option linter.unusedSimpArgs false
theorem has_is (a b : Slot) (r : Bool) (h : decide (a.s = 3 ∨ b.s = 3) = r) (w : World) : Calls Try.prog 61 #[stV a b] w fun e w' => e = .returned (.bool r) ∧ Below w.heap.size w w' := h ▸ has_any a b w

set_option maxHeartbeats 32000000 in
set_option maxRecDepth 100000 in
theorem bad (a b : Slot) (A : Option Addr) (cap : Nat) (l : List Mv) (w : World) (hc : l.length ≤ cap) (hz : l.length ≤ 9223372036854775807) (hok : ¬ ok a b) : Calls Try.prog 17 #[stV a b, .slice A l.length cap] w fun e w' => e = .returned (.bool true) ∧ Below w.heap.size w w' := by
  have HR := Aside0.mk (decide_eq_false hok)
  clear hok
  go_enter Try.func17, Try.ntmps17
  go_wp2_with fail
  refine (rValid_is a b false HR.out _).mono ?_
  rintro e' w1 ⟨rfl, hb⟩
  have HB1 := Aside0.mk (below_step (below_alloc (Below.refl w.heap.size w) (oS a b)) hb)
  have HA1 := Aside0.mk ((At6.new w a.s a.v a.t b.s b.v b.t).below hb)
  clear hb
  go_wp2_with fail
  refine (sanity25_any _).mono ?_
  rintro e' w3 ⟨rfl, hb⟩
  have HB3 := Aside0.mk (below_step HB1.out hb)
  go_wp2_with fail
  go_ret
  exact ⟨rfl, HB3.out⟩

set_option maxHeartbeats 32000000 in
set_option maxRecDepth 100000 in
theorem noSlot (a b : Slot) (A : Option Addr) (cap : Nat) (l : List Mv) (w : World) (hc : l.length ≤ cap) (hz : l.length ≤ 9223372036854775807) (hok : ok a b) (hh : ¬ (a.s = 3 ∨ b.s = 3)) : Calls Try.prog 17 #[stV a b, .slice A l.length cap] w fun e w' => e = .returned (.bool true) ∧ Below w.heap.size w w' := by
  have HR := Aside0.mk (decide_eq_true hok)
  have HH := Aside0.mk (decide_eq_false hh)
  clear hok hh
  go_enter Try.func17, Try.ntmps17
  go_wp2_with fail
  refine (rValid_is a b true HR.out _).mono ?_
  rintro e' w1 ⟨rfl, hb⟩
  have HB1 := Aside0.mk (below_step (below_alloc (Below.refl w.heap.size w) (oS a b)) hb)
  have HA1 := Aside0.mk ((At6.new w a.s a.v a.t b.s b.v b.t).below hb)
  clear hb
  obtain ⟨ca0, ca1, ca2, ca3, ca4, ca5⟩ := (HA1.out).six
  go_wp2_with fail
  refine (has_is a b false HH.out _).mono ?_
  rintro e' w2 ⟨rfl, hb⟩
  have HB2 := Aside0.mk (below_step HB1.out hb)
  have HA2 := Aside0.mk (HA1.out.below hb)
  clear hb HB1 HA1
  clear ca0 ca1 ca2 ca3 ca4 ca5
  go_wp2_with fail
  refine (sanity25_any _).mono ?_
  rintro e' w3 ⟨rfl, hb⟩
  have HB3 := Aside0.mk (below_step HB2.out hb)
  go_wp2_with fail
  go_ret
  exact ⟨rfl, HB3.out⟩

set_option maxHeartbeats 32000000 in
set_option maxRecDepth 100000 in
theorem long (a b : Slot) (A : Option Addr) (cap : Nat) (l : List Mv) (w : World) (hc : l.length ≤ cap) (hz : l.length ≤ 9223372036854775807) (hok : ok a b) (hh : a.s = 3 ∨ b.s = 3) (hl : 100 < l.length) : Calls Try.prog 17 #[stV a b, .slice A l.length cap] w fun e w' => e = .returned (.bool true) ∧ Below w.heap.size w w' := by
  have HR := Aside0.mk (decide_eq_true hok)
  have HH := Aside0.mk (decide_eq_true hh)
  clear hok hh
  go_enter Try.func17, Try.ntmps17
  go_wp2_with fail
  refine (rValid_is a b true HR.out _).mono ?_
  rintro e' w1 ⟨rfl, hb⟩
  have HB1 := Aside0.mk (below_step (below_alloc (Below.refl w.heap.size w) (oS a b)) hb)
  have HA1 := Aside0.mk ((At6.new w a.s a.v a.t b.s b.v b.t).below hb)
  clear hb
  obtain ⟨ca0, ca1, ca2, ca3, ca4, ca5⟩ := (HA1.out).six
  go_wp2_with fail
  refine (has_is a b true HH.out _).mono ?_
  rintro e' w2 ⟨rfl, hb⟩
  have HB2 := Aside0.mk (below_step HB1.out hb)
  have HA2 := Aside0.mk (HA1.out.below hb)
  clear hb HB1 HA1
  clear ca0 ca1 ca2 ca3 ca4 ca5
  go_wp2_with fail
  refine (sanity25_any _).mono ?_
  rintro e' w3 ⟨rfl, hb⟩
  have HB3 := Aside0.mk (below_step HB2.out hb)
  go_wp2_with fail
  go_ret
  exact ⟨rfl, HB3.out⟩

set_option maxHeartbeats 32000000 in
set_option maxRecDepth 100000 in
theorem good (a b : Slot) (A : Option Addr) (cap : Nat) (l : List Mv) (w : World) (hc : l.length ≤ cap) (hz : l.length ≤ 9223372036854775807) (hm : MvC w A l) (h8 : ∀ m ∈ l, M8 m) (hok : ok a b) (hh : a.s = 3 ∨ b.s = 3) (hl : l.length ≤ 100) : Calls Try.prog 17 #[stV a b, .slice A l.length cap] w fun e w' => e = .returned (.bool true) ∧ Below w.heap.size w w' := by
  have HR := Aside0.mk (decide_eq_true hok)
  have HH := Aside0.mk (decide_eq_true hh)
  have HH0 := Aside0.mk hh
  have HM := Aside0.mk hm
  have H8 := Aside0.mk h8
  clear hok hm h8 hh
  go_enter Try.func17, Try.ntmps17
  go_wp2_with fail
  refine (rValid_is a b true HR.out _).mono ?_
  rintro e' w1 ⟨rfl, hb⟩
  have HB1 := Aside0.mk (below_step (below_alloc (Below.refl w.heap.size w) (oS a b)) hb)
  have HA1 := Aside0.mk ((At6.new w a.s a.v a.t b.s b.v b.t).below hb)
  clear hb
  obtain ⟨ca0, ca1, ca2, ca3, ca4, ca5⟩ := (HA1.out).six
  go_wp2_with fail
  refine (has_is a b true HH.out _).mono ?_
  rintro e' w2 ⟨rfl, hb⟩
  have HB2 := Aside0.mk (below_step HB1.out hb)
  have HA2 := Aside0.mk (HA1.out.below hb)
  clear hb HB1 HA1
  clear ca0 ca1 ca2 ca3 ca4 ca5
  go_wp2_with fail
  go_loopw [25] (fun x25 wr => ∃ (k : Nat) (p q : Slot), x25 = .int .i64 (k : Int) ∧ k ≤ l.length ∧ Aside0 (p.s = 3 ∨ q.s = 3) ∧ Aside0 (At6 wr w.heap.size p.s p.v p.t q.s q.v q.t) ∧ Aside0 (Below w.heap.size w wr)) (fun i _ => l.length - (intOf i).toNat)
  case atStart => exact ⟨0, a, b, rfl, Nat.zero_le _, HH0, HA2, HB2⟩
  case round =>
    clear HA2 HB2
    obtain ⟨k, p, q, rfl, hk, HHr, HXr, HBr⟩ := hrel
    by_cases hlt : k < l.length
    · obtain ⟨m, hlk⟩ : ∃ m, l[k]? = some m := ⟨_, List.getElem?_eq_getElem hlt⟩
      obtain ⟨bb, oo, rfl, hbb, m0, m1, m2⟩ := (MvC_below HM.out HBr.out) k m hlk
      have H8m := Aside0.mk (H8.out m (List.mem_of_getElem? hlk))
      obtain ⟨p', q', c, hst⟩ : ∃ p' q' c, Sl.step p q m = (p', q', c) := ⟨_, _, _, rfl⟩
      have HST := Aside0.mk hst
      clear hlk hst hbb
      have hmi := H8m.out.2.1
      have hmk := H8m.out.1
      by_cases hk4 : m.k % 5 = 4
      · by_cases hi : m.i % 2 = 0
        · by_cases hs : p.s = 3
          · obtain ⟨cx0, cx1, cx2, cx3, cx4, cx5⟩ := (HXr.out.alloc (oM m)).six
            have HX5 := Aside0.mk (HXr.out.alloc (oM m))
            have HB5 := Aside0.mk (below_alloc HBr.out (oM m))
            go_wp2_with fail
            first
            | exact ⟨⟨k + 1, p, q, by go_num, by omega, HHr, HX5, HB5⟩, by simp [intOf]; omega⟩
            | (refine ⟨?_, ?_⟩
               · repeat apply Exists.intro
                 refine ⟨?_, ?_⟩
                 rotate_left
                 · repeat' (first | exact rfl | apply And.intro)
                 exact ⟨k + 1, p, q, by go_num, by omega, HHr, HX5, HB5⟩
               · simp [intOf]; omega)
          · have hs' : (p.s == 3) = false := beq_eq_false_iff_ne.2 hs
            have HF : Aside0 (m.k % 5 = 4 → (m.i % 2 = 0 → p.s ≠ 3) ∧ (m.i % 2 = 1 → q.s ≠ 3)) := ⟨fun _ => ⟨fun _ => hs, fun h => absurd h (by omega)⟩⟩
            clear hs
            have HK := Aside0.mk (step_keeps H8m.out HHr.out HF.out HST.out)
            have HD := Aside0.mk (decide_eq_true HK.out)
            obtain ⟨cx0, cx1, cx2, cx3, cx4, cx5⟩ := (HXr.out.alloc (oM m)).six
            go_wp2_with fail
            refine (step_is p q m H8m.out p' q' c HST.out _).mono ?_
            rintro e' w3 ⟨rfl, hb⟩
            have HB3 := Aside0.mk (below_step (below_alloc HBr.out (oM m)) hb)
            have HX3 := Aside0.mk ((HXr.out.alloc (oM m)).below hb)
            clear hb HBr HXr m0 m1 m2
            clear cx0 cx1 cx2 cx3 cx4 cx5
            obtain ⟨cx0, cx1, cx2, cx3, cx4, cx5⟩ := (HX3.out).six
            have fx := HX3.out.frozen
            have HX4 := Aside0.mk (HX3.out.store p'.s p'.v p'.t q'.s q'.v q'.t)
            have HB4 := Aside0.mk (below_store HB3.out (g := w.heap.size) (Nat.le_refl _) p'.s p'.v p'.t q'.s q'.v q'.t)
            clear HX3 HB3
            obtain ⟨cy0, cy1, cy2, cy3, cy4, cy5⟩ := (HX4.out).six
            go_wp2_with fail
            refine (has_is p' q' true HD.out _).mono ?_
            rintro e' w4 ⟨rfl, hb⟩
            have HB5 := Aside0.mk (below_step HB4.out hb)
            have HX5 := Aside0.mk (HX4.out.below hb)
            clear hb HB4 HX4 fx
            clear cx0 cx1 cx2 cx3 cx4 cx5
            clear cy0 cy1 cy2 cy3 cy4 cy5
            go_wp2_with fail
            first
            | exact ⟨⟨k + 1, p', q', by go_num, by omega, HK, HX5, HB5⟩, by simp [intOf]; omega⟩
            | (refine ⟨?_, ?_⟩
               · repeat apply Exists.intro
                 refine ⟨?_, ?_⟩
                 rotate_left
                 · repeat' (first | exact rfl | apply And.intro)
                 exact ⟨k + 1, p', q', by go_num, by omega, HK, HX5, HB5⟩
               · simp [intOf]; omega)
        · have hi1 : m.i % 2 = 1 := by omega
          clear hi
          by_cases hs : q.s = 3
          · obtain ⟨cx0, cx1, cx2, cx3, cx4, cx5⟩ := (HXr.out.alloc (oM m)).six
            have HX5 := Aside0.mk (HXr.out.alloc (oM m))
            have HB5 := Aside0.mk (below_alloc HBr.out (oM m))
            go_wp2_with fail
            first
            | exact ⟨⟨k + 1, p, q, by go_num, by omega, HHr, HX5, HB5⟩, by simp [intOf]; omega⟩
            | (refine ⟨?_, ?_⟩
               · repeat apply Exists.intro
                 refine ⟨?_, ?_⟩
                 rotate_left
                 · repeat' (first | exact rfl | apply And.intro)
                 exact ⟨k + 1, p, q, by go_num, by omega, HHr, HX5, HB5⟩
               · simp [intOf]; omega)
          · have hs' : (q.s == 3) = false := beq_eq_false_iff_ne.2 hs
            have HF : Aside0 (m.k % 5 = 4 → (m.i % 2 = 0 → p.s ≠ 3) ∧ (m.i % 2 = 1 → q.s ≠ 3)) := ⟨fun _ => ⟨fun h => absurd h (by omega), fun _ => hs⟩⟩
            clear hs
            have HK := Aside0.mk (step_keeps H8m.out HHr.out HF.out HST.out)
            have HD := Aside0.mk (decide_eq_true HK.out)
            obtain ⟨cx0, cx1, cx2, cx3, cx4, cx5⟩ := (HXr.out.alloc (oM m)).six
            go_wp2_with fail
            refine (step_is p q m H8m.out p' q' c HST.out _).mono ?_
            rintro e' w3 ⟨rfl, hb⟩
            have HB3 := Aside0.mk (below_step (below_alloc HBr.out (oM m)) hb)
            have HX3 := Aside0.mk ((HXr.out.alloc (oM m)).below hb)
            clear hb HBr HXr m0 m1 m2
            clear cx0 cx1 cx2 cx3 cx4 cx5
            obtain ⟨cx0, cx1, cx2, cx3, cx4, cx5⟩ := (HX3.out).six
            have fx := HX3.out.frozen
            have HX4 := Aside0.mk (HX3.out.store p'.s p'.v p'.t q'.s q'.v q'.t)
            have HB4 := Aside0.mk (below_store HB3.out (g := w.heap.size) (Nat.le_refl _) p'.s p'.v p'.t q'.s q'.v q'.t)
            clear HX3 HB3
            obtain ⟨cy0, cy1, cy2, cy3, cy4, cy5⟩ := (HX4.out).six
            go_wp2_with fail
            refine (has_is p' q' true HD.out _).mono ?_
            rintro e' w4 ⟨rfl, hb⟩
            have HB5 := Aside0.mk (below_step HB4.out hb)
            have HX5 := Aside0.mk (HX4.out.below hb)
            clear hb HB4 HX4 fx
            clear cx0 cx1 cx2 cx3 cx4 cx5
            clear cy0 cy1 cy2 cy3 cy4 cy5
            go_wp2_with fail
            first
            | exact ⟨⟨k + 1, p', q', by go_num, by omega, HK, HX5, HB5⟩, by simp [intOf]; omega⟩
            | (refine ⟨?_, ?_⟩
               · repeat apply Exists.intro
                 refine ⟨?_, ?_⟩
                 rotate_left
                 · repeat' (first | exact rfl | apply And.intro)
                 exact ⟨k + 1, p', q', by go_num, by omega, HK, HX5, HB5⟩
               · simp [intOf]; omega)
      · have hk4' : (m.k % 5 == 4) = false := beq_eq_false_iff_ne.2 hk4
        have HF : Aside0 (m.k % 5 = 4 → (m.i % 2 = 0 → p.s ≠ 3) ∧ (m.i % 2 = 1 → q.s ≠ 3)) := ⟨fun h => absurd h hk4⟩
        clear hk4
        have HK := Aside0.mk (step_keeps H8m.out HHr.out HF.out HST.out)
        have HD := Aside0.mk (decide_eq_true HK.out)
        obtain ⟨cx0, cx1, cx2, cx3, cx4, cx5⟩ := (HXr.out.alloc (oM m)).six
        go_wp2_with fail
        refine (step_is p q m H8m.out p' q' c HST.out _).mono ?_
        rintro e' w3 ⟨rfl, hb⟩
        have HB3 := Aside0.mk (below_step (below_alloc HBr.out (oM m)) hb)
        have HX3 := Aside0.mk ((HXr.out.alloc (oM m)).below hb)
        clear hb HBr HXr m0 m1 m2
        clear cx0 cx1 cx2 cx3 cx4 cx5
        obtain ⟨cx0, cx1, cx2, cx3, cx4, cx5⟩ := (HX3.out).six
        have fx := HX3.out.frozen
        have HX4 := Aside0.mk (HX3.out.store p'.s p'.v p'.t q'.s q'.v q'.t)
        have HB4 := Aside0.mk (below_store HB3.out (g := w.heap.size) (Nat.le_refl _) p'.s p'.v p'.t q'.s q'.v q'.t)
        clear HX3 HB3
        obtain ⟨cy0, cy1, cy2, cy3, cy4, cy5⟩ := (HX4.out).six
        go_wp2_with fail
        refine (has_is p' q' true HD.out _).mono ?_
        rintro e' w4 ⟨rfl, hb⟩
        have HB5 := Aside0.mk (below_step HB4.out hb)
        have HX5 := Aside0.mk (HX4.out.below hb)
        clear hb HB4 HX4 fx
        clear cx0 cx1 cx2 cx3 cx4 cx5
        clear cy0 cy1 cy2 cy3 cy4 cy5
        go_wp2_with fail
        first
        | exact ⟨⟨k + 1, p', q', by go_num, by omega, HK, HX5, HB5⟩, by simp [intOf]; omega⟩
        | (refine ⟨?_, ?_⟩
           · repeat apply Exists.intro
             refine ⟨?_, ?_⟩
             rotate_left
             · repeat' (first | exact rfl | apply And.intro)
             exact ⟨k + 1, p', q', by go_num, by omega, HK, HX5, HB5⟩
           · simp [intOf]; omega)
    · go_wp2_with fail
      refine (sanity25_any _).mono ?_
      rintro e' w3 ⟨rfl, hb⟩
      have HB3 := Aside0.mk (below_step HBr.out hb)
      go_wp2_with fail
      go_ret
      exact ⟨rfl, HB3.out⟩

theorem walk (a b : Slot) (A : Option Addr) (cap : Nat) (l : List Mv) (w : World) (ha : M64 a) (hb : M64 b) (hm : MvC w A l) (hc : l.length ≤ cap) (hz : l.length ≤ 9223372036854775807) (h8 : ∀ m ∈ l, M8 m) : Calls Try.prog 17 #[stV a b, .slice A l.length cap] w fun e w' => e = .returned (.bool true) ∧ Below w.heap.size w w' := by
  by_cases hok : ok a b
  · by_cases hh : a.s = 3 ∨ b.s = 3
    · by_cases hl : l.length ≤ 100
      · exact good a b A cap l w hc hz hm h8 hok hh hl
      · exact long a b A cap l w hc hz hok hh (by omega)
    · exact noSlot a b A cap l w hc hz hok hh
  · exact bad a b A cap l w hc hz hok
end Go.Proofs.Ytippclnmijelfaa.LKee
