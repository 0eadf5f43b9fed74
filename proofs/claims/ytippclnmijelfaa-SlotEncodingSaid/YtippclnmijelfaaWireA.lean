/- The function that decodes an integer comes to the decoding of the specification. -/
import Derived.Test.YtippclnmijelfaaRefA
import Derived.Test.YtippclnmijelfaaEncL
import Derived.WalkSmall
import Derived.Laws.BitsAllLaws
import Derived.Laws.DeepNot64
import Derived.Lib.Hide
namespace Go.Proofs.Ytippclnmijelfaa.Wi
open Go.RowKit Go.Proofs.YtippclnmijelfaaW.PrintWords Go.Proofs.YtippclnmijelfaaW.PrintLast Go.Proofs.YtippclnmijelfaaW.PrintMore
open Go.Proofs.Ytippclnmijelfaa.En Go.Proofs.Ytippclnmijelfaa.Rf
attribute [local go_sem] max2_int min2_int max_two min_two
set_option linter.unusedVariables false
set_option linter.unusedSimpArgs false


theorem pow7 (k : Nat) : (2 : Int) ^ (7 * k) = ((128 ^ k : Nat) : Int) := by
  rw [Int.natCast_pow, Int.pow_mul]; rfl
theorem u64_in {n : Int} (h0 : 0 ≤ n) (h1 : n < 18446744073709551616) : IntKind.u64.wrap n = n := by
  simp only [IntKind.wrap, IntKind.bits, IntKind.signed]
  simp
  omega
theorem and127 {c : Int} (hc : 0 ≤ c ∧ c ≤ 255) : bits .and .u8 c 127 = c % 128 := by
  rw [u8_and c 127 hc.1 (by omega) (by omega) (by omega), show (127 : Int).toNat = 127 from rfl, nat_mask7]
  omega
/-- One group more: 'u |= d << 7k'. -/
theorem or_group (acc d k : Nat) (x : Int) (hx : x = d) (hk : k ≤ 9) (ha : acc < 128 ^ k) (hd : d < 128) (h9 : k = 9 → d ≤ 1) :
    bits .or .u64 (acc : Int) (IntKind.u64.wrap (x * 2 ^ (7 * k))) = ((acc + d * 128 ^ k : Nat) : Int) ∧ acc + d * 128 ^ k < 18446744073709551616 ∧ acc + d * 128 ^ k < 128 ^ (k + 1) := by
  have hp : (128 : Nat) ^ k = 2 ^ (7 * k) := by rw [Nat.pow_mul]
  have hf := fits_last hk d hd h9
  have hacc : acc < 18446744073709551616 := by
    have h1 : 128 ^ k < 18446744073709551616 := by
      have := fits_last hk 1 (by omega) (by omega)
      rwa [Nat.one_mul] at this
    omega
  have hsum : acc + d * 128 ^ k < 128 ^ (k + 1) := by
    rw [Nat.pow_succ]
    have : d * 128 ^ k ≤ 127 * 128 ^ k := Nat.mul_le_mul_right _ (by omega)
    omega
  have hj : acc ||| d * 128 ^ k = acc + d * 128 ^ k := by
    rw [Nat.or_comm, nat_join (7 * k) (d * 128 ^ k) acc (by rw [hp]; exact Nat.mul_mod_left _ _) (by rw [← hp]; exact ha), Nat.add_comm]
  have hor := Nat.or_lt_two_pow (n := 64) (x := acc) (y := d * 128 ^ k) hacc hf
  rw [hj] at hor
  refine ⟨?_, hor, hsum⟩
  rw [hx, pow7, ← Int.natCast_mul, u64_in (by omega) (by omega), u64_or_nat _ _ hacc hf, hj]

set_option maxHeartbeats 1000000 in
set_option maxRecDepth 100000 in
theorem GetInt_walk (A : Option Addr) (c0 m : Nat) (b : List Int) (r1 r2 r3 : Int) (w : World) (hb : IsB b) (hr : Kd.C (Kd.int .u8) w A b.length b) (hc : b.length ≤ c0) (hm : m = min b.length 10) (h : dec b = (r1, r2, r3)) :
    Calls Try.prog 28 #[.slice A b.length c0] w fun e w' => e = .returned (.tuple #[.int .i64 r1, .int .i64 r2, .int .i64 r3]) ∧ w = w' := by
  have HR := Aside0.mk hr
  have Hd := Aside0.mk h
  have Hm := Aside0.mk hm
  have HB := Aside0.mk hb
  have hm10 : m ≤ 10 := by omega
  have hmi : (if 10 < (b.length : Int) then 10 else (b.length : Int)) = ((m : Nat) : Int) := by split <;> omega
  have h0m : (0 : Int) ≤ (m : Int) := by omega
  have hml : (m : Int) ≤ (b.length : Int) := by omega
  obtain ⟨i05, hi05, _, hsz5, _⟩ := info_parts info5
  obtain ⟨hcut5, hA5, hC5⟩ := print_take_of (P := Try.prog) (Value.int .u8) 0 26 5 .i64 Try.underlying26 hi05 hsz5 A c0 b (m : Int) h0m hml hc
  clear hA5 hC5 hi05 hsz5 h hr hb hm h0m hml
  have e1 : (List.take ((m : Nat) : Int).toNat b).length = m := by rw [List.length_take]; have := Hm.out; omega
  rw [e1] at hcut5
  clear e1
  go_enter Try.func28, Try.ntmps28
  go_wp2
  go_loop [5, 15] (fun x5 x15 => ∃ (k : Nat) (u : Int) (acc : Nat), x5 = .int .u64 u ∧ x15 = .int .i64 (k : Int) ∧ k ≤ m ∧ Aside0 (decG k acc (b.drop k) = (r1, r2, r3)) ∧ Aside0 (k ≤ 9 → u = acc ∧ acc < 128 ^ k)) (fun _ i => m - (intOf i).toNat)
  case atStart => exact ⟨0, 0, 0, rfl, rfl, Nat.zero_le _, ⟨Hd.out⟩, ⟨fun _ => ⟨rfl, by simp⟩⟩⟩
  case round =>
    obtain ⟨k, u, acc, rfl, rfl, hkm, HD, HU⟩ := hrel
    by_cases hlt : k < m
    · have hkl : k < b.length := by have := Hm.out; omega
      obtain ⟨c, hcb, hbk⟩ : ∃ c : Int, (0 ≤ c ∧ c ≤ 255) ∧ rd b (k : Int) = c := ⟨_, HB.out _ (by unfold rd; rw [List.getD_eq_getElem?_getD, List.getElem?_eq_getElem (show (k : Int).toNat < b.length by omega)]; exact List.getElem_mem _), rfl⟩
      obtain ⟨ad, rfl, hcell⟩ := Kd.at_int HR.out (k : Int) (by omega) (by omega)
      rw [hbk] at hcell
      have Hbk := Aside0.mk hbk
      clear hbk
      simp only [Int.toNat_natCast] at hcell
      have hdrop : b.drop k = c :: b.drop (k + 1) := by
        rw [List.drop_eq_getElem_cons hkl]
        congr 1
        have := Hbk.out
        unfold rd at this
        rw [List.getD_eq_getElem?_getD, List.getElem?_eq_getElem (show (k : Int).toNat < b.length by omega)] at this
        simpa using this
      have HD2 := HD.out
      rw [hdrop] at HD2
      simp only [decG] at HD2
      rw [if_neg (by omega)] at HD2
      clear hdrop HD
      have hu9 : u = (acc : Int) ∧ acc < 128 ^ k := HU.out (by omega)
      obtain ⟨rfl, hacc⟩ := hu9
      have ha := and127 hcb
      by_cases h128 : 128 ≤ c
      · rw [if_pos h128] at HD2
        have HD3 := Aside0.mk HD2
        have Hacc := Aside0.mk hacc
        clear HD2 hacc HU
        go_wp2
        go_round
        case rel =>
          by_cases hk9 : k = 9
          · exact ⟨k + 1, _, _, rfl, by go_num, by omega, ⟨HD3.out⟩, ⟨fun h => by omega⟩⟩
          · obtain ⟨h1, h2, h3⟩ := or_group acc (c.toNat % 128) k (c % 128) (by omega) (by omega) Hacc.out (by omega) (by omega)
            exact ⟨k + 1, _, _, rfl, by go_num, by omega, ⟨HD3.out⟩, ⟨fun h => by rw [show c.toNat - 128 = c.toNat % 128 from by omega]; exact ⟨h1, h3⟩⟩⟩
        case measure => simp [intOf]; omega
      · rw [if_neg h128] at HD2
        have h128f : decide (128 ≤ c) = false := decide_eq_false h128
        by_cases hbad : (c = 0 ∧ 0 < k) ∨ (k = 9 ∧ 1 < c)
        · rw [if_pos hbad] at HD2
          simp only [Prod.mk.injEq] at HD2
          obtain ⟨rfl, rfl, rfl⟩ := HD2
          by_cases hc0 : c = 0
          · have hc0b : (c == 0) = true := by simpa using hc0
            have hkp : 0 < k := by omega
            clear hc0 hbad
            go_wp2
            go_ret3
            exact ⟨rfl, rfl⟩
          · have hc0b : (c == 0) = false := by simpa using hc0
            have hk9b : ((k : Int) == 9) = true := by simp; omega
            have hc1b : decide (1 < c) = true := by simp; omega
            clear hc0 hbad
            go_wp2
            go_ret3
            exact ⟨rfl, rfl⟩
        · rw [if_neg hbad] at HD2
          simp only [Prod.mk.injEq] at HD2
          obtain ⟨hr1, rfl, rfl⟩ := HD2
          obtain ⟨h1, h2, h3⟩ := or_group acc c.toNat k c (by omega) (by omega) hacc (by omega) (by omega)
          rw [show c % 128 = c from by omega] at ha
          obtain ⟨U, hU⟩ : ∃ U : Nat, U = acc + c.toNat * 128 ^ k := ⟨_, rfl⟩
          rw [← hU] at h1 h2 hr1
          have Hr1 := Aside0.mk hr1
          clear hU hr1 h3 hacc HU
          have hand := and_one_u64 (U : Int) (by omega) (by omega)
          have hnot := i64_not (U / 2) (by omega)
          have hge : 0 ≤ (U : Int) := by omega
          have hU2 : ((U / 2 : Nat) : Int) = (U : Int) / 2 := by omega
          rw [hU2] at hnot
          by_cases hpar : U % 2 = 1
          · have hand' : ((U : Int) % 2 == 1) = true := by simp; omega
            have Hv : Aside0 (bits .xor .i64 (-1) ((U : Int) / 2) = r1) := ⟨by rw [hnot, ← Hr1.out]; unfold unzig; rw [if_neg (by omega)]; omega⟩
            clear hpar hnot hU2
            go_wp2
            all_goals go_ret3
            all_goals exact ⟨by rw [← Hv.out]; rfl, rfl⟩
          · have hand' : ((U : Int) % 2 == 1) = false := by simp; omega
            have Hv : Aside0 ((U : Int) / 2 = r1) := ⟨by rw [← Hr1.out]; unfold unzig; rw [if_pos (by omega)]; omega⟩
            clear hpar hnot hU2
            go_wp2
            all_goals go_ret3
            all_goals exact ⟨by rw [← Hv.out]; rfl, rfl⟩
    · have hkm' : b.drop k = [] ∨ k = 10 := by
        rcases Nat.lt_or_ge b.length 10 with h | h
        · exact .inl (List.drop_eq_nil_of_le (by have := Hm.out; omega))
        · exact .inr (by have := Hm.out; omega)
      have HD2 : (if (b.length : Int) < 10 then ((0 : Int), (0 : Int), (6 : Int)) else (0, 0, 7)) = (r1, r2, r3) := by
        rw [← HD.out]
        have hm' := Hm.out
        rcases Nat.lt_or_ge b.length 10 with h | h
        · rw [if_pos (by omega), List.drop_eq_nil_of_le (by omega)]
          simp only [decG]
          rw [if_pos (by omega)]
        · rw [if_neg (by omega)]
          obtain rfl : k = 10 := by omega
          cases b.drop 10 with
          | nil => simp [decG]
          | cons c r => simp [decG]
      clear HD hkm'
      rcases Nat.lt_or_ge b.length 10 with h | h
      · rw [if_pos (by omega)] at HD2
        simp only [Prod.mk.injEq] at HD2
        obtain ⟨rfl, rfl, rfl⟩ := HD2
        go_wp2
        go_ret3
        exact ⟨rfl, rfl⟩
      · rw [if_neg (by omega)] at HD2
        simp only [Prod.mk.injEq] at HD2
        obtain ⟨rfl, rfl, rfl⟩ := HD2
        go_wp2
        go_ret3
        exact ⟨rfl, rfl⟩

theorem GetInt_any (A : Option Addr) (c0 : Nat) (b : List Int) (r1 r2 r3 : Int) (w : World) (hb : IsB b) (hr : Kd.C (Kd.int .u8) w A b.length b) (hc : b.length ≤ c0) (h : dec b = (r1, r2, r3)) :
    Calls Try.prog 28 #[.slice A b.length c0] w fun e w' => e = .returned (.tuple #[.int .i64 r1, .int .i64 r2, .int .i64 r3]) ∧ w = w' :=
  GetInt_walk A c0 _ b r1 r2 r3 w hb hr hc rfl h

theorem dec_bd {b : List Int} {n m : Int} (hb : IsB b) (h : dec b = (n, m, 0)) : 0 < m ∧ m ≤ 10 ∧ m ≤ b.length := (dec_ok hb h).2.2.2

set_option maxHeartbeats 1000000 in
set_option maxRecDepth 100000 in
theorem count_ok (A : Option Addr) (c0 : Nat) (b : List Int) (size n m : Int) (w : World) (hs : size = 1 ∨ size = 16) (hb : IsB b) (hr : Kd.C (Kd.int .u8) w A b.length b) (hc : b.length ≤ c0) (h : cnt b size = (n, m, 0)) :
    Calls Try.prog 64 #[.slice A b.length c0, .int .i64 size] w fun e w' => e = .returned (.tuple #[.int .i64 n, .int .i64 m, .int .i64 0]) ∧ w = w' := by
  obtain ⟨h1, h2, h3⟩ := cnt_ok h
  obtain ⟨h4, h5, h6⟩ := dec_bd hb h1
  have hlen := hr.2.1
  have hgi := GetInt_any A c0 b n m 0 w hb hr hc h1
  have HG := Lib.hid hgi
  have hneg : decide (n < 0) = false := by simp; omega
  have hle : decide (((b.length : Int) - m) / size < n) = false := by
    rcases hs with rfl | rfl <;> simp <;> omega
  clear hgi h h1 hr hb
  rcases hs with rfl | rfl
  · simp only [Int.ediv_one] at hle
    go_enter Try.func64, Try.ntmps64
    go_wp2_with fail
    refine HG.out.mono ?_
    rintro e w' ⟨rfl, rfl⟩
    go_wp2
    go_ret3
    exact ⟨rfl, rfl⟩
  · go_enter Try.func64, Try.ntmps64
    go_wp2_with fail
    refine HG.out.mono ?_
    rintro e w' ⟨rfl, rfl⟩
    go_wp2
    go_ret3
    exact ⟨rfl, rfl⟩

set_option maxHeartbeats 1000000 in
set_option maxRecDepth 100000 in
theorem count_bad (A : Option Addr) (c0 : Nat) (b : List Int) (size n m r : Int) (w : World) (hs : size = 1 ∨ size = 16) (hb : IsB b) (hr : Kd.C (Kd.int .u8) w A b.length b) (hc : b.length ≤ c0) (h : cnt b size = (n, m, r)) (hne : r ≠ 0) :
    Calls Try.prog 64 #[.slice A b.length c0, .int .i64 size] w fun e w' => (∃ r1 r2 : Int, e = .returned (.tuple #[.int .i64 r1, .int .i64 r2, .int .i64 r])) ∧ w = w' := by
  have hgi := GetInt_any A c0 b (dec b).1 (dec b).2.1 (dec b).2.2 w hb hr hc rfl
  have HG := Lib.hid hgi
  have hlen := hr.2.1
  have Hdd : Aside0 (dec b = ((dec b).1, (dec b).2.1, (dec b).2.2)) := ⟨rfl⟩
  have HB := Aside0.mk hb
  unfold cnt at h
  clear hgi hr hb
  generalize (dec b).1 = x at *
  generalize (dec b).2.1 = p at *
  generalize (dec b).2.2 = q at *
  by_cases hq : q = 0
  · subst hq
    obtain ⟨h4, h5, h6⟩ := dec_bd HB.out Hdd.out
    simp only [ne_eq, not_true_eq_false, if_false] at h
    by_cases hx : x < 0
    · rw [if_pos hx] at h
      simp only [Prod.mk.injEq] at h
      obtain ⟨rfl, rfl, rfl⟩ := h
      have hneg : decide (x < 0) = true := by simpa using hx
      clear hx
      go_enter Try.func64, Try.ntmps64
      go_wp2_with fail
      refine HG.out.mono ?_
      rintro e w' ⟨rfl, rfl⟩
      go_wp2
      go_ret3
      exact ⟨⟨_, _, rfl⟩, rfl⟩
    · rw [if_neg hx] at h
      have hneg : decide (x < 0) = false := by simpa using hx
      by_cases hl : (b.length : Int) - p < x * size
      · rw [if_pos hl] at h
        simp only [Prod.mk.injEq] at h
        obtain ⟨rfl, rfl, rfl⟩ := h
        have hle : decide (((b.length : Int) - p) / size < x) = true := by
          rcases hs with rfl | rfl <;> simp <;> omega
        clear hx hl
        rcases hs with rfl | rfl
        · simp only [Int.ediv_one] at hle
          go_enter Try.func64, Try.ntmps64
          go_wp2_with fail
          refine HG.out.mono ?_
          rintro e w' ⟨rfl, rfl⟩
          go_wp2
          go_ret3
          exact ⟨⟨_, _, rfl⟩, rfl⟩
        · go_enter Try.func64, Try.ntmps64
          go_wp2_with fail
          refine HG.out.mono ?_
          rintro e w' ⟨rfl, rfl⟩
          go_wp2
          go_ret3
          exact ⟨⟨_, _, rfl⟩, rfl⟩
      · rw [if_neg hl] at h
        simp only [Prod.mk.injEq] at h
        exact absurd h.2.2.symm hne
  · rw [if_pos hq] at h
    simp only [Prod.mk.injEq] at h
    obtain ⟨rfl, rfl, rfl⟩ := h
    have hqb : (q == 0) = false := by simpa using hq
    have hqb' : (q != 0) = true := by simpa using hq
    clear hq hne
    go_enter Try.func64, Try.ntmps64
    go_wp2_with fail
    refine HG.out.mono ?_
    rintro e w' ⟨rfl, rfl⟩
    go_wp2
    go_ret3
    exact ⟨⟨_, _, rfl⟩, rfl⟩
end Go.Proofs.Ytippclnmijelfaa.Wi
