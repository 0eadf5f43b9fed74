/- The reference's functions on strings, lists of integers and lists of digests come to the encodings and decodings of the specification. -/
import Derived.Test.YtippclnmijelfaaRefP
import Derived.Test.YtippclnmijelfaaRefC
import Derived.Test.YtippclnmijelfaaWireC
namespace Go.Proofs.Ytippclnmijelfaa.Rc
open Go.RowKit Go.Proofs.YtippclnmijelfaaW.PrintWords Go.Proofs.YtippclnmijelfaaW.PrintLast Go.Proofs.YtippclnmijelfaaW.PrintMore
open Go.Proofs.Ytippclnmijelfaa.En Go.Proofs.Ytippclnmijelfaa.Rf Go.Proofs.Ytippclnmijelfaa.Wi
attribute [local go_sem] max2_int min2_int max_two min_two
set_option linter.unusedVariables false
set_option linter.unusedSimpArgs false

theorem getints_l0 (b : List Int) (hb : IsB b) (hl : b.length ≤ 1000000) (N : Nat) (hN : N ≤ b.length) (d : Nat) : ∀ (i : Nat) (q : Int) (out : List Int), i ≤ N → N - i = d → 0 ≤ q → q ≤ b.length → out.length = i →
    Ev (fun k => bootchainref01_GetInts.l0 k b (N : Int) q out (i : Int)) (fin out q (ints d (b.drop q.toNat))) := by
  induction d with
  | zero =>
    intro i q out hi hd h0 h1 ho
    refine Ev.step (f := fun _ => some (out, q, 0)) (fun k => ?_) ?_
    · simp only [bootchainref01_GetInts.l0]
      rw [if_neg (by omega)]
    · have : fin out q (ints 0 (b.drop q.toNat)) = (out, q, 0) := by simp [ints, fin]
      rw [this]
      exact Ev.now _
  | succ d ih =>
    intro i q out hi hd h0 h1 ho
    refine Ev.step (f := fun k => (bootchainref01_GetInt.f k (b.drop q.toNat)).bind fun bt170 => (if bt170.2.2 = 0 then (if out.length < 17592186044416 then (bootchainref01_GetInts.l0 k b (N : Int) (wrap64 (q + bt170.2.1)) (out ++ [bt170.1]) (wrap64 ((i : Int) + 1))) else (none)) else (some (([] : List Int), 0, bt170.2.2)))) (fun k => ?_) ?_
    · simp only [bootchainref01_GetInts.l0]
      rw [if_pos (by omega), if_pos (by omega), if_pos (by omega)]
    · refine Ev.bind (getint_ev (b.drop q.toNat) (hb.drop _) (by rw [List.length_drop]; omega)) ?_
      obtain ⟨x, u, e, hdx⟩ : ∃ x u e, dec (b.drop q.toNat) = (x, u, e) := ⟨_, _, _, rfl⟩
      rw [hdx]
      simp only
      have hu := dec_bd0 (hb.drop _) hdx
      rw [List.length_drop] at hu
      by_cases he : e = 0
      · subst he
        rw [fin_step out q d b h0 hu.1 hdx]
        refine Ev.congr (fun k => ?_) (ih (i + 1) (q + u) (out ++ [x]) (by omega) (by omega) (by omega) (by omega) (by rw [List.length_append, ho]; rfl))
        rw [if_pos rfl, if_pos (by omega), wrap_in (by omega) (by omega), wrap_in (by omega) (by omega)]
        rfl
      · rw [fin_bad out q d b hdx he]
        refine Ev.congr (fun k => ?_) (Ev.now _)
        rw [if_neg he]
theorem getints_ev (b : List Int) (hb : IsB b) (hl : b.length ≤ 1000000) : Ev (fun k => bootchainref01_GetInts.f k b) (decL b) := by
  unfold bootchainref01_GetInts.f
  refine Ev.bind (count_ev b 1 (.inl rfl) hb hl) ?_
  by_cases hq : (cnt b 1).2.2 = 0
  · have hcn : cnt b 1 = ((cnt b 1).1, (cnt b 1).2.1, 0) := by rw [← hq]
    rw [decL_fin b hq]
    refine Ev.congr (fun k => ?_) (show Ev (fun k => bootchainref01_GetInts.l0 k b (cnt b 1).1 (cnt b 1).2.1 [] 0) _ from ?_)
    · rw [if_pos hq]
    · generalize (cnt b 1).1 = n at *
      generalize (cnt b 1).2.1 = p at *
      obtain ⟨h1, h2, h3⟩ := cnt_ok hcn
      have hbd := dec_bd hb h1
      obtain ⟨N, rfl⟩ := Int.eq_ofNat_of_zero_le h2
      have := getints_l0 b hb hl N (by omega) N 0 p [] (by omega) (by omega) (by omega) (by omega) rfl
      simpa using this
  · have : decL b = ([], 0, (cnt b 1).2.2) := by unfold decL; rw [if_pos hq]
    rw [this]
    refine Ev.congr (fun k => ?_) (Ev.now _)
    rw [if_neg hq]

/-! ### what each function comes to -/
theorem Same_any (A B : Option Addr) (ca cb : Nat) (a b : List Int) (w : World) (ha : Kd.C (Kd.int .u8) w A a.length a) (hca : a.length ≤ ca) (hb : Kd.C (Kd.int .u8) w B b.length b) (hcb : b.length ≤ cb) (hl : a.length ≤ 9223372036854775806) :
    Calls Try.prog 19 #[.slice A a.length ca, .slice B b.length cb] w fun e w' => e = .returned (.bool (decide (a = b))) ∧ Below w.heap.size w w' := by
  obtain ⟨k, hk⟩ := same_f a b hl
  exact (bootchainref01_Same.calls k A ca a B cb b _ w ha hca hb hcb hk).mono fun e w' ⟨h1, h2⟩ => ⟨h1, h2.below⟩
theorem SameInts_any (A B : Option Addr) (ca cb : Nat) (a b : List Int) (w : World) (ha : Kd.C (Kd.int .i64) w A a.length a) (hca : a.length ≤ ca) (hb : Kd.C (Kd.int .i64) w B b.length b) (hcb : b.length ≤ cb) (hl : a.length ≤ 9223372036854775806) :
    Calls Try.prog 34 #[.slice A a.length ca, .slice B b.length cb] w fun e w' => e = .returned (.bool (decide (a = b))) ∧ Below w.heap.size w w' := by
  obtain ⟨k, hk⟩ := samei_f a b hl
  exact (bootchainref01_SameInts.calls k A ca a B cb b _ w ha hca hb hcb hk).mono fun e w' ⟨h1, h2⟩ => ⟨h1, h2.below⟩
theorem rInt_any (n : Int) (w : World) (hn : I64 n) :
    Calls Try.prog 21 #[.int .i64 n] w fun e w' => ∃ v : Value, e = .returned v ∧ Kd.R (Kd.int .u8) 5 w' w.heap.size (fun _ => True) v (encI n) ∧ Below w.heap.size w w' := by
  obtain ⟨k, hk⟩ := int_f hn
  exact bootchainref01_Int.calls k n _ w hk
theorem rInts_any (A : Option Addr) (c0 : Nat) (l : List Int) (w : World) (hr : Kd.C (Kd.int .i64) w A l.length l) (hc : l.length ≤ c0) (hl : l.length ≤ 100000) (hI : AllI l) :
    Calls Try.prog 25 #[.slice A l.length c0] w fun e w' => ∃ v : Value, e = .returned v ∧ Kd.R (Kd.int .u8) 5 w' w.heap.size (fun _ => True) v (encL l) ∧ Below w.heap.size w w' := by
  obtain ⟨k, hk⟩ := ints_f l hI hl
  exact bootchainref01_Ints.calls k A c0 l _ w hr hc hk
theorem rGetInt_any (A : Option Addr) (c0 : Nat) (b : List Int) (r1 r2 r3 : Int) (w : World) (hb : IsB b) (hr : Kd.C (Kd.int .u8) w A b.length b) (hc : b.length ≤ c0) (hl : b.length ≤ 1000000) (h : dec b = (r1, r2, r3)) :
    Calls Try.prog 29 #[.slice A b.length c0] w fun e w' => e = .returned (.tuple #[.int .i64 r1, .int .i64 r2, .int .i64 r3]) ∧ Below w.heap.size w w' := by
  obtain ⟨k, hk⟩ := (getint_ev b hb hl).rounds
  exact bootchainref01_GetInt.calls k A c0 b r1 r2 r3 w hr hc (hk.trans (by rw [h]))
theorem rcount_any (A : Option Addr) (c0 : Nat) (b : List Int) (size r1 r2 r3 : Int) (w : World) (hs : size = 1 ∨ size = 16) (hb : IsB b) (hr : Kd.C (Kd.int .u8) w A b.length b) (hc : b.length ≤ c0) (hl : b.length ≤ 1000000) (h : cnt b size = (r1, r2, r3)) :
    Calls Try.prog 65 #[.slice A b.length c0, .int .i64 size] w fun e w' => e = .returned (.tuple #[.int .i64 r1, .int .i64 r2, .int .i64 r3]) ∧ Below w.heap.size w w' := by
  obtain ⟨k, hk⟩ := (count_ev b size hs hb hl).rounds
  exact bootchainref01_count.calls k A c0 b size r1 r2 r3 w hr hc (hk.trans (by rw [h]))
theorem rGetInts_any (A : Option Addr) (c0 : Nat) (b l : List Int) (m r : Int) (w : World) (hb : IsB b) (hr : Kd.C (Kd.int .u8) w A b.length b) (hc : b.length ≤ c0) (hbl : b.length ≤ 1000000) (h : decL b = (l, m, r)) :
    Calls Try.prog 33 #[.slice A b.length c0] w fun e w' => ∃ v : Value, e = .returned (.tuple #[v, .int .i64 m, .int .i64 r]) ∧ Kd.R (Kd.int .i64) 3 w' w.heap.size (fun _ => True) v l ∧ Below w.heap.size w w' := by
  obtain ⟨k, hk⟩ := (getints_ev b hb hbl).rounds
  exact bootchainref01_GetInts.calls k A c0 b l m r w hr hc (hk.trans (by rw [h]))

set_option maxHeartbeats 1000000 in
set_option maxRecDepth 100000 in
theorem rGetBytes_any (A : Option Addr) (c0 : Nat) (b s : List Int) (m r : Int) (w : World) (hb : IsB b) (hr : Kd.C (Kd.int .u8) w A b.length b) (hc : b.length ≤ c0) (hbl : b.length ≤ 1000000) (h : decS b = (s, m, r)) :
    Calls Try.prog 31 #[.slice A b.length c0] w fun e w' => e = .returned (.tuple #[.string (strOfNums s), .int .i64 m, .int .i64 r]) ∧ Below w.heap.size w w' := by
  have hlen := hr.2.1
  have hh := rcount_any A c0 b 1 (cnt b 1).1 (cnt b 1).2.1 (cnt b 1).2.2 w (.inl rfl) hb hr hc hbl rfl
  have HG := Lib.hid hh
  have HR := Aside0.mk hr
  by_cases hq : (cnt b 1).2.2 = 0
  · have hcn : cnt b 1 = ((cnt b 1).1, (cnt b 1).2.1, 0) := by rw [← hq]
    unfold decS at h
    rw [if_neg (by omega)] at h
    rw [hq] at HG
    clear hq
    generalize (cnt b 1).1 = n at *
    generalize (cnt b 1).2.1 = p at *
    simp only [Prod.mk.injEq] at h
    obtain ⟨rfl, rfl, rfl⟩ := h
    obtain ⟨h1, h2, h3⟩ := cnt_ok hcn
    obtain ⟨h4, h5, h6⟩ := dec_bd hb h1
    have h7 : p + n ≤ b.length := by omega
    clear hh hcn h1 hr hb
    go_enter Try.func31, Try.ntmps31
    go_wp2_with fail
    refine HG.out.mono ?_
    rintro e w1 ⟨rfl, hb1⟩
    obtain ⟨A', k, c', hcut, hstr⟩ := cut_string (Kd.C_below HR.out hb1) hc n p h2 (by omega) h7
    have HB := Aside0.mk hb1
    clear hb1
    go_wp2
    go_ret3
    exact ⟨rfl, HB.out⟩
  · unfold decS at h
    rw [if_pos hq] at h
    simp only [Prod.mk.injEq] at h
    obtain ⟨rfl, rfl, rfl⟩ := h
    generalize (cnt b 1).2.2 = q at *
    have hqb : (q == 0) = false := by simpa using hq
    have hqb' : (q != 0) = true := by simpa using hq
    have hs : strOfNums [] = (⟨#[]⟩ : ByteArray) := rfl
    have Hs := Aside0.mk hs
    clear hh hr hb hq hs
    go_enter Try.func31, Try.ntmps31
    go_wp2_with fail
    refine HG.out.mono ?_
    rintro e w1 ⟨rfl, hb1⟩
    have HB := Aside0.mk hb1
    clear hb1
    go_wp2
    go_ret3
    exact ⟨by rw [Hs.out]; rfl, HB.out⟩

set_option maxHeartbeats 1000000 in
set_option maxRecDepth 100000 in
theorem rBytes_any (s : ByteArray) (w : World) (hs : s.size ≤ 100000) :
    Calls Try.prog 23 #[.string s] w fun e w' => ∃ v : Value, e = .returned v ∧ Kd.R (Kd.int .u8) 5 w' w.heap.size (fun _ => True) v (encS (bytesOf s)) ∧ Below w.heap.size w w' := by
  have Hl := Aside0.mk (bytesOf_length s)
  have HI : I64 (s.size : Int) := I64_nat hs
  have HL := Aside0.mk (encI_len HI)
  have HI2 := Aside0.mk HI
  have kb := fun W => print_bytes (P := Try.prog) 9 26 5 Try.underlying9 Try.underlying26 Try.underlying5 s W
  clear HI
  go_enter Try.func23, Try.ntmps23
  go_wp2_with fail
  refine (rInt_any (s.size : Int) _ HI2.out).mono ?_
  rintro e w1 ⟨v, rfl, ho, hb⟩
  have HC := Aside0.mk (bytes_reads w1 5 s (by omega))
  have HO := Aside0.mk (Kd.R_below ho (bytes_below (Below.refl _ _) (Nat.le_refl _) 5 s))
  have HB := Aside0.mk (bytes_below hb hb.size 5 s)
  clear ho hb
  go_wp2_with (at_builtin; refine Kd.R_append_rows (Kd.int .u8) (w0 := w) w.heap.size rfl (.tmp 5) (.tmp 7) 26 5 (.int .u8 0) 1 rfl Try.underlying26 info5 rfl (by decide) (by omega) _ (encI (s.size : Int)) (bytesOf s) _ _ _ (fun _ => True) (fun _ => False) rfl rfl HO.out (Kd.C_of_reads (h1 := fun _ => rfl) HC.out) (fun _ _ h => h) (fun _ h => h.elim) (fun _ _ => trivial) HB.out HB.out.size (by have := HL.out; omega) ?_; intro v1 w2 ho hb hg hat; have HO1 := Aside0.mk ho; have HB1 := Aside0.mk hb; clear ho hb hg hat)
  go_ret
  have he : encI (s.size : Int) ++ bytesOf s = encS (bytesOf s) := by unfold encS; rw [Hl.out]
  rw [he] at HO1
  exact ⟨_, rfl, HO1.out, HB1.out⟩
end Go.Proofs.Ytippclnmijelfaa.Rc
