/- The functions that encode an integer, a string, a list of integers and a list of digests come to the encodings of the specification. -/
import Derived.Test.YtippclnmijelfaaWireA
namespace Go.Proofs.Ytippclnmijelfaa.Wi
open Go.RowKit Go.Proofs.YtippclnmijelfaaW.PrintWords Go.Proofs.YtippclnmijelfaaW.PrintLast Go.Proofs.YtippclnmijelfaaW.PrintMore
open Go.Proofs.Ytippclnmijelfaa.En Go.Proofs.Ytippclnmijelfaa.Rf
attribute [local go_sem] max2_int min2_int max_two min_two
set_option linter.unusedVariables false
set_option linter.unusedSimpArgs false

theorem u64_not (a : Nat) (ha : a < 18446744073709551616) : bits .xor .u64 IntKind.u64.max (a : Int) = 18446744073709551615 - (a : Int) := by
  show IntKind.u64.wrap ((BitVec.ofInt 64 IntKind.u64.max ^^^ BitVec.ofInt 64 (a : Int)).toNat : Int) = _
  have h1 : BitVec.ofInt 64 IntKind.u64.max = BitVec.allOnes 64 := by decide
  rw [h1, BitVec.allOnes_xor, BitVec.toNat_not, ofInt_u64 a (by omega)]
  simp [IntKind.wrap, IntKind.bits, IntKind.signed]
  omega
theorem u64_mod (n : Int) : IntKind.u64.wrap n = n % 18446744073709551616 := by
  simp [IntKind.wrap, IntKind.bits, IntKind.signed]
theorem zig_neg {n : Int} (hn : I64 n) (h : n < 0) : bits .xor .u64 IntKind.u64.max (IntKind.u64.wrap (IntKind.u64.wrap n * 2)) = ((zig n : Nat) : Int) := by
  obtain ⟨h1, h2⟩ := hn
  have e : IntKind.u64.wrap (IntKind.u64.wrap n * 2) = ((18446744073709551616 + 2 * n).toNat : Int) := by
    rw [u64_mod, u64_mod]
    omega
  rw [e, u64_not _ (by omega)]
  unfold zig
  rw [if_neg (by omega)]
  omega
theorem zig_nonneg {n : Int} (h : ¬ n < 0) : n * 2 = ((zig n : Nat) : Int) := by
  unfold zig
  rw [if_pos (by omega)]
  omega
/-- A group with the continuation bit. -/
theorem or128 (U : Nat) : bits .or .u8 ((U : Int) % 256) 128 = 128 + (U : Int) % 128 := by
  have e : (U : Int) % 256 = ((U % 256 : Nat) : Int) := by omega
  have hj : ∀ x : Fin 256, x.val ||| 128 = 128 + x.val % 128 := by decide +kernel
  have h1 := hj ⟨U % 256, by omega⟩
  have h2 := u8_or_nat (U % 256) 128 (by omega) (by omega)
  rw [e]
  have h3 : ((128 : Nat) : Int) = 128 := rfl
  rw [h3] at h2
  simp only at h1
  rw [h2, h1]
  omega

set_option maxHeartbeats 1000000 in
set_option maxRecDepth 100000 in
theorem Int_any (n : Int) (w : World) (hn : I64 n) :
    Calls Try.prog 20 #[.int .i64 n] w fun e w' => ∃ v : Value, e = .returned v ∧ Kd.R (Kd.int .u8) 5 w' w.heap.size (fun _ => True) v (encI n) ∧ Below w.heap.size w w' := by
  have h1 := hn.1
  have h2 := hn.2
  have hz := zig_lt hn
  have Hlen := Aside0.mk (encI_len hn)
  have key : ∀ Z : Nat, (Z : Int) ≤ 18446744073709551615 → Aside0 (encU Z = encI n) → ((n < 0 ∧ bits .xor .u64 IntKind.u64.max (IntKind.u64.wrap (IntKind.u64.wrap n * 2)) = (Z : Int)) ∨ (¬ n < 0 ∧ n * 2 = (Z : Int))) →
      Calls Try.prog 20 #[.int .i64 n] w fun e w' => ∃ v : Value, e = .returned v ∧ Kd.R (Kd.int .u8) 5 w' w.heap.size (fun _ => True) v (encI n) ∧ Below w.heap.size w w' := by
    intro Z hZ HZ hcase
    clear hz hn
    rcases hcase with ⟨h0, hx⟩ | ⟨h0, hx⟩
    all_goals
      go_enter Try.func20, Try.ntmps20
      go_wp2
      go_step3
      go_wp2
      go_step3
      go_wp2
      clear h1 h2 h0 hx
      go_loopw [3, 4] (fun x3 x4 wr => ∃ (U : Nat) (out : List Int), x3 = .int .u64 (U : Int) ∧ (U : Int) ≤ 18446744073709551615 ∧ Aside0 (out ++ encU U = encI n) ∧ Aside0 (Kd.R (Kd.int .u8) 5 wr w.heap.size (fun _ => True) x4 out) ∧ Aside0 (Below w.heap.size w wr)) (fun x3 _ _ => (intOf x3).toNat)
      case atStart => exact ⟨Z, [], rfl, hZ, ⟨by rw [HZ.out]; rfl⟩, ⟨Kd.R_nil _ _ _ _ _⟩, ⟨Below.refl _ _⟩⟩
      case round =>
        obtain ⟨U, out, rfl, hU, HE, HO, HB⟩ := hrel
        have hol : out.length ≤ 10 := by
          have h3 := congrArg List.length HE.out
          rw [List.length_append] at h3
          have := Hlen.out
          omega
        by_cases h128 : U < 128
        · go_wp2_with (at_builtin; refine Kd.R_append (Kd.int .u8) (w0 := w) w.heap.size rfl (.tmp 14) (.tmp 17) 26 5 (.int .u8 0) 1 rfl Try.underlying26 info5 rfl (by decide) (by omega) _ out (U : Int) [.int .u8 (U : Int)] (fun _ => True) (fun _ => False) rfl rfl rfl (fun _ hk => hk.elim) (fun _ _ => trivial) HO.out HB.out HB.out.size (by omega) ?_; intro v1 w1 ho hb hg hat; have HO1 := Aside0.mk ho; have HB1 := Aside0.mk hb; clear ho hb hg hat)
          rw [Exit.noGoto_ret]
          go_ret
          have he : out ++ [(U : Int)] = encI n := by rw [← HE.out, encU_small h128]
          rw [he] at HO1
          exact ⟨_, rfl, HO1.out, HB1.out⟩
        · have hor := or128 U
          go_wp2_with (at_builtin; refine Kd.R_append (Kd.int .u8) (w0 := w) w.heap.size rfl (.tmp 19) (.tmp 23) 26 5 (.int .u8 0) 1 rfl Try.underlying26 info5 rfl (by decide) (by omega) _ out (128 + (U : Int) % 128) [.int .u8 (128 + (U : Int) % 128)] (fun _ => True) (fun _ => False) rfl rfl rfl (fun _ hk => hk.elim) (fun _ _ => trivial) HO.out HB.out HB.out.size (by omega) ?_; intro v1 w1 ho hb hg hat; have HO1 := Aside0.mk ho; have HB1 := Aside0.mk hb; clear ho hb hg hat)
          go_roundw
          case rel => exact ⟨U / 128, out ++ [128 + (U : Int) % 128], by go_num, by omega, ⟨by rw [← HE.out, encU_big (u := U) (by omega), List.append_assoc]; simp⟩, HO1, HB1⟩
          case measure => simp [intOf]; omega
  exact key (zig n) (by omega) ⟨rfl⟩ (by
    by_cases h0 : n < 0
    · exact .inl ⟨h0, zig_neg hn h0⟩
    · exact .inr ⟨h0, zig_nonneg h0⟩)

set_option maxHeartbeats 1000000 in
set_option maxRecDepth 100000 in
theorem Bytes_any (s : ByteArray) (w : World) (hs : s.size ≤ 100000) :
    Calls Try.prog 22 #[.string s] w fun e w' => ∃ v : Value, e = .returned v ∧ Kd.R (Kd.int .u8) 5 w' w.heap.size (fun _ => True) v (encS (bytesOf s)) ∧ Below w.heap.size w w' := by
  have Hl := Aside0.mk (bytesOf_length s)
  have HI : I64 (s.size : Int) := I64_nat hs
  have HL := Aside0.mk (encI_len HI)
  have HI2 := Aside0.mk HI
  clear HI
  go_enter Try.func22, Try.ntmps22
  go_wp2_with fail
  refine (Int_any (s.size : Int) _ HI2.out).mono ?_
  rintro e w1 ⟨v, rfl, ho, hb⟩
  have HO := Aside0.mk (Kd.own_of_R ho)
  have HB := Aside0.mk hb
  clear ho hb
  go_wp2_with (at_builtin; refine print_append_str (w0 := w) w.heap.size rfl (.tmp 5) (.tmp 6) 26 9 5 rfl Try.underlying26 Try.underlying9 info5 _ (encI (s.size : Int)) s rfl rfl HO.out HB.out HB.out.size (by have := HL.out; omega) ?_; intro v1 w2 ho hb hg; have HO1 := Aside0.mk ho; have HB1 := Aside0.mk hb; clear ho hb hg)
  go_ret
  have he : encI (s.size : Int) ++ bytesOf s = encS (bytesOf s) := by unfold encS; rw [Hl.out]
  rw [he] at HO1
  exact ⟨_, rfl, Kd.R_of_own HO1.out (fun _ _ => trivial), HB1.out⟩

theorem encLs_snoc (l : List Int) (k : Nat) (h : k < l.length) : encLs (l.take (k + 1)) = encLs (l.take k) ++ encI l[k] := by
  rw [List.take_succ_eq_append_getElem h]
  unfold encLs
  rw [List.flatMap_append]
  simp only [List.flatMap_cons, List.flatMap_nil, List.append_nil]

set_option maxHeartbeats 2000000 in
set_option maxRecDepth 100000 in
theorem Ints_any (A : Option Addr) (c0 : Nat) (l : List Int) (w : World) (hr : Kd.C (Kd.int .i64) w A l.length l) (hc : l.length ≤ c0) (hl : l.length ≤ 100000) (hI : AllI l) :
    Calls Try.prog 24 #[.slice A l.length c0] w fun e w' => ∃ v : Value, e = .returned v ∧ Kd.R (Kd.int .u8) 5 w' w.heap.size (fun _ => True) v (encL l) ∧ Below w.heap.size w w' := by
  have HR := Aside0.mk hr
  have HA := Aside0.mk hI
  have HL := Aside0.mk (I64_nat hl)
  clear hr hI
  go_enter Try.func24, Try.ntmps24
  go_wp2_with fail
  refine (Int_any (l.length : Int) _ HL.out).mono ?_
  rintro e w1 ⟨v, rfl, ho, hb⟩
  have HO := Aside0.mk ho
  have HB := Aside0.mk hb
  clear ho hb
  go_wp2_with fail
  go_loopw [3, 11] (fun x3 x11 wr => ∃ (k : Nat) (out : List Int), x11 = .int .i64 (k : Int) ∧ k ≤ l.length ∧ Aside0 (out = encI l.length ++ encLs (l.take k)) ∧ Aside0 (Kd.R (Kd.int .u8) 5 wr w.heap.size (fun _ => True) x3 out) ∧ Aside0 (Below w.heap.size w wr)) (fun _ i _ => l.length - (intOf i).toNat)
  case atStart => exact ⟨0, _, rfl, Nat.zero_le _, ⟨by simp [encLs]⟩, HO, HB⟩
  case round =>
    clear HO HB
    obtain ⟨k, out, rfl, hk, HE, HO, HB⟩ := hrel
    by_cases hlt : k < l.length
    · obtain ⟨x, hxI, hlk⟩ : ∃ x : Int, Aside0 (I64 x ∧ encLs (l.take (k + 1)) = encLs (l.take k) ++ encI x) ∧ rd l (k : Int) = x := by
        refine ⟨l[k], ⟨HA.out _ (List.getElem_mem _), ?_⟩, ?_⟩
        · exact encLs_snoc l k hlt
        · unfold rd; rw [List.getD_eq_getElem?_getD, List.getElem?_eq_getElem (show (k : Int).toNat < l.length by omega)]; simp
      obtain ⟨ad, rfl, hcell⟩ := Kd.at_int HR.out (k : Int) (by omega) (by omega)
      rw [hlk] at hcell
      replace hcell := (HB.out.cell (World.block_lt_of_cell? w _ hcell)).trans hcell
      simp only [Int.toNat_natCast] at hcell
      clear hlk
      have hol : out.length ≤ 10 + 10 * l.length := by
        rw [HE.out, List.length_append]
        have h1 := encI_len HL.out
        have h2 := encLs_len10 (l := l.take k) (fun y hy => HA.out y (List.mem_of_mem_take hy))
        rw [List.length_take] at h2
        omega
      have hxl := encI_len hxI.out.1
      go_wp2_with fail
      refine (Int_any x _ hxI.out.1).mono ?_
      rintro e w2 ⟨v2, rfl, ho2, hb2⟩
      obtain ⟨A2, c2, rfl, hl2, hC2⟩ := Kd.R_reads ho2
      have HC2 := Aside0.mk hC2
      have HB2 := Aside0.mk (below_step HB.out hb2)
      have HO2 := Aside0.mk (Kd.R_below HO.out hb2)
      clear ho2 hC2 hb2 HB HO
      go_wp2_with (at_builtin; refine Kd.R_append_rows (Kd.int .u8) (w0 := w) w.heap.size rfl (.tmp 15) (.tmp 17) 26 5 (.int .u8 0) 1 rfl Try.underlying26 info5 rfl (by decide) (by omega) _ out (encI x) A2 _ c2 (fun _ => True) (fun _ => False) rfl rfl HO2.out HC2.out (fun _ _ h => h) (fun _ h => h.elim) (fun _ _ => trivial) HB2.out HB2.out.size (by omega) ?_; intro v3 w3 ho hb hg hat; have HO3 := Aside0.mk ho; have HB3 := Aside0.mk hb; clear ho hb hg hat)
      go_roundw
      case rel => exact ⟨k + 1, _, by go_num, by omega, ⟨by rw [HE.out, hxI.out.2, List.append_assoc]⟩, HO3, HB3⟩
      case measure => simp [intOf]; omega
    · go_wp2
      go_ret
      have he : out = encL l := by rw [HE.out, List.take_of_length_le (by omega)]; rfl
      rw [he] at HO
      exact ⟨_, rfl, HO.out, HB.out⟩
end Go.Proofs.Ytippclnmijelfaa.Wi
