/- The functions that decode a string, a list of integers and a list of digests come to the decodings of the specification. -/
import Derived.Test.YtippclnmijelfaaWireD
import Derived.Laws.Cover3
namespace Go.Proofs.Ytippclnmijelfaa.Wi
open Go.RowKit Go.Proofs.YtippclnmijelfaaW.PrintWords Go.Proofs.YtippclnmijelfaaW.PrintLast Go.Proofs.YtippclnmijelfaaW.PrintMore
open Go.Proofs.Ytippclnmijelfaa.En Go.Proofs.Ytippclnmijelfaa.Rf
attribute [local go_sem] max2_int min2_int max_two min_two
set_option linter.unusedVariables false
set_option linter.unusedSimpArgs false

/-- 'string(b[m:m+n])'. -/
theorem cut_string {w : World} {A : Option Addr} {c0 : Nat} {b : List Int} (hr : Kd.C (Kd.int .u8) w A b.length b) (hc : b.length ≤ c0) (n m : Int) (h0 : 0 ≤ n) (h1 : 0 ≤ m) (h2 : m + n ≤ b.length) :
    ∃ (A' : Option Addr) (k c' : Nat), (∀ W : World, (Instr.slice 26 (.slice A b.length c0) (some (.int .i64 m)) (some (.int .i64 (m + n))) none).run Try.prog W = .ok (.slice A' k c') W) ∧
      (convert 26 9 (.slice A' k c')).run Try.prog w = .ok (.string (strOfNums ((b.drop m.toNat).take n.toNat))) w := by
  obtain ⟨i05, hi05, _, hsz5, _⟩ := info_parts info5
  obtain ⟨A', h3, h4, h5⟩ := print_mid_of (P := Try.prog) (Value.int .u8) 0 26 5 .i64 .i64 Try.underlying26 hi05 hsz5 A c0 b m (m + n) h1 (by omega) h2 hc
  have h6 := h4 w (Kd.reads_of_C hr)
  have he : (b.take (m + n).toNat).drop m.toNat = (b.drop m.toNat).take n.toNat := by
    rw [List.drop_take]
    congr 1
    omega
  rw [he] at h3 h6
  exact ⟨A', _, _, h3, string_of_reads Try.underlying26 Try.underlying5 Try.underlying9 h6⟩

set_option maxHeartbeats 1000000 in
set_option maxRecDepth 100000 in
theorem GetBytes_any (A : Option Addr) (c0 : Nat) (b s : List Int) (m r : Int) (w : World) (hb : IsB b) (hr : Kd.C (Kd.int .u8) w A b.length b) (hc : b.length ≤ c0) (h : decS b = (s, m, r)) :
    Calls Try.prog 30 #[.slice A b.length c0] w fun e w' => e = .returned (.tuple #[.string (strOfNums s), .int .i64 m, .int .i64 r]) ∧ w = w' := by
  have hlen := hr.2.1
  by_cases hq : (cnt b 1).2.2 = 0
  · have hcn : cnt b 1 = ((cnt b 1).1, (cnt b 1).2.1, 0) := by rw [← hq]
    unfold decS at h
    rw [if_neg (by omega)] at h
    clear hq
    generalize (cnt b 1).1 = n at *
    generalize (cnt b 1).2.1 = p at *
    simp only [Prod.mk.injEq] at h
    obtain ⟨rfl, rfl, rfl⟩ := h
    obtain ⟨h1, h2, h3⟩ := cnt_ok hcn
    obtain ⟨h4, h5, h6⟩ := dec_bd hb h1
    have hh := count_ok A c0 b 1 n p w (.inl rfl) hb hr hc hcn
    have HG := Lib.hid hh
    obtain ⟨A', k, c', hcut, hstr⟩ := cut_string hr hc n p h2 (by omega) (by omega)
    clear hh hcn h1 hr hb
    go_enter Try.func30, Try.ntmps30
    go_wp2_with fail
    refine HG.out.mono ?_
    rintro e w' ⟨rfl, rfl⟩
    go_wp2
    go_ret3
    exact ⟨rfl, rfl⟩
  · unfold decS at h
    rw [if_pos hq] at h
    simp only [Prod.mk.injEq] at h
    obtain ⟨rfl, rfl, rfl⟩ := h
    have hh := count_bad A c0 b 1 (cnt b 1).1 (cnt b 1).2.1 (cnt b 1).2.2 w (.inl rfl) hb hr hc rfl hq
    have HG := Lib.hid hh
    generalize (cnt b 1).2.2 = q at *
    have hqb : (q == 0) = false := by simpa using hq
    have hqb' : (q != 0) = true := by simpa using hq
    have hs : strOfNums [] = (⟨#[]⟩ : ByteArray) := rfl
    have Hs := Aside0.mk hs
    clear hh hr hb hq hs
    go_enter Try.func30, Try.ntmps30
    go_wp2_with fail
    refine HG.out.mono ?_
    rintro e w' ⟨⟨r1, r2, rfl⟩, rfl⟩
    go_wp2
    go_ret3
    exact ⟨by rw [Hs.out]; rfl, rfl⟩

set_option maxHeartbeats 1000000 in
set_option maxRecDepth 100000 in
theorem reader_any (A : Option Addr) (n c : Nat) (at_ : Int) (w : World) :
    Calls Try.prog 66 #[.slice A n c, .int .i64 at_] w fun e w' => e = .returned (.func (.func 82) #[] #[.pointer (some ⟨w.heap.size, 0, none⟩), .pointer (some ⟨w.heap.size + 1, 0, none⟩)]) ∧ w' = (w.alloc (.cells #[.slice A n c] 26)).alloc (.cells #[.int .i64 at_] 3) := by
  have hmf : ∀ (fn : Fn) (first cap : Array Value) (w : World), (Instr.makeFunc fn first cap).run Try.prog w = .ok (.func fn first cap) w := fun _ _ _ _ => rfl
  go_enter Try.func66, Try.ntmps66
  go_wp2
  go_ret
  exact ⟨rfl, rfl⟩

/-- One cell is written, orders are drawn. -/
theorem grown_set (w : World) (g : Nat) (u : Value) (n : Nat) : w.grownBy ((w.setCell ⟨g, 0, none⟩ u).drewN n) (some g) := by
  have h : w.grownBy (w.setCell ⟨g, 0, none⟩ u) (some g) := ⟨rfl, rfl, rfl, by simp [World.setCell], fun i _ hne => Below.heap_setCell w ⟨g, 0, none⟩ u i (fun e => hne (by rw [e]))⟩
  exact ⟨h.os, h.tape, h.output, h.size, h.block⟩

set_option maxHeartbeats 1000000 in
set_option maxRecDepth 100000 in
theorem next_any (A : Option Addr) (c0 g : Nat) (b : List Int) (at_ x p r : Int) (w : World) (hb : IsB b) (hr : Kd.C (Kd.int .u8) w A b.length b) (hc : b.length ≤ c0) (h0 : 0 ≤ at_) (h1 : at_ ≤ b.length)
    (hg : w.heap[g]? = some (.cells #[.slice A b.length c0] 26 (0, 0))) (hg1 : w.heap[g + 1]? = some (.cells #[.int .i64 at_] 3 (0, 0))) (h : dec (b.drop at_.toNat) = (x, p, r)) :
    Calls Try.prog 82 #[.pointer (some ⟨g, 0, none⟩), .pointer (some ⟨g + 1, 0, none⟩)] w fun e w' =>
      e = .returned (.tuple #[.int .i64 x, .int .i64 (at_ + p), .int .i64 r]) ∧ w'.heap[g + 1]? = some (.cells #[.int .i64 (at_ + p)] 3 (0, 0)) ∧ w.grownBy w' (some (g + 1)) := by
  obtain ⟨i05, hi05, _, hsz5, _⟩ := info_parts info5
  obtain ⟨A', hcut, h4, h5⟩ := print_drop_of (P := Try.prog) (Value.int .u8) 0 26 5 .i64 Try.underlying26 hi05 hsz5 A c0 b at_ h0 h1 hc
  have HC := Aside0.mk (Kd.C_of_reads (h1 := fun _ => rfl) (h4 w (Kd.reads_of_C hr)))
  have hh := GetInt_any A' (c0 - at_.toNat) (b.drop at_.toNat) x p r w (hb.drop _) HC.out h5 h
  have HG := Lib.hid hh
  have hlen := hr.2.1
  have hp : 0 ≤ p ∧ at_ + p ≤ b.length := by
    rcases dec_err h with rfl | ⟨_, rfl, _⟩
    · have := dec_bd (hb.drop _) h
      rw [List.length_drop] at this
      omega
    · omega
  obtain ⟨hp0, hp1⟩ := hp
  have hcg : w.cell? ⟨g, 0, none⟩ = some (.slice A b.length c0) := by rw [blk_cell hg]; rfl
  have hcg1 : w.cell? ⟨g + 1, 0, none⟩ = some (.int .i64 at_) := by rw [blk_cell hg1]; rfl
  have hfg1 : w.frozen? ⟨g + 1, 0, none⟩ = false := blk_frozen hg1 0
  have Hg1 := Aside0.mk hg1
  generalize b.drop at_.toNat = b' at *
  clear hh h hr hb h4 h5 hi05 hsz5 hg hg1 HC
  go_enter Try.func82, Try.ntmps82
  go_wp2_with fail
  refine HG.out.mono ?_
  rintro e w' ⟨rfl, rfl⟩
  go_wp2_with fail
  go_quiet (fail)
  go_wp2
  go_ret3
  exact ⟨rfl, blk_drewN (blk_set Hg1.out 0 _) _, grown_set _ _ _ _⟩

/-- What the rest of a list adds. -/
def fin (out : List Int) (p : Int) (q : List Int × Int × Int) : List Int × Int × Int := if q.2.2 ≠ 0 then ([], 0, q.2.2) else (out ++ q.1, p + q.2.1, 0)
theorem fin_step (out : List Int) (p : Int) (n : Nat) (b : List Int) {x q : Int} (hp : 0 ≤ p) (hq : 0 ≤ q) (h : dec (b.drop p.toNat) = (x, q, 0)) :
    fin out p (ints (n + 1) (b.drop p.toNat)) = fin (out ++ [x]) (p + q) (ints n (b.drop (p + q).toNat)) := by
  have hd : (b.drop p.toNat).drop q.toNat = b.drop (p + q).toNat := by
    rw [List.drop_drop]
    congr 1
    omega
  simp only [ints]
  rw [h]
  simp only [ne_eq, not_true_eq_false, if_false]
  rw [hd]
  unfold fin
  by_cases he : (ints n (b.drop (p + q).toNat)).2.2 = 0
  · simp only [he, ne_eq, not_true_eq_false, if_false, List.append_assoc, List.singleton_append, Prod.mk.injEq, true_and, and_true]
    omega
  · simp only [he, ne_eq, not_false_eq_true, if_true]
theorem fin_bad (out : List Int) (p : Int) (n : Nat) (b : List Int) {x q e : Int} (h : dec (b.drop p.toNat) = (x, q, e)) (he : e ≠ 0) : fin out p (ints (n + 1) (b.drop p.toNat)) = ([], 0, e) := by
  simp only [ints]
  rw [h]
  simp only [ne_eq, he, not_false_eq_true, if_true]
  unfold fin
  simp only [ne_eq, he, not_false_eq_true, if_true]
theorem decL_fin (b : List Int) (h : (cnt b 1).2.2 = 0) : decL b = fin [] (cnt b 1).2.1 (ints (cnt b 1).1.toNat (b.drop (cnt b 1).2.1.toNat)) := by
  unfold decL fin
  rw [if_neg (by omega)]
  simp

set_option maxHeartbeats 4000000 in
set_option maxRecDepth 100000 in
theorem GetInts_any (A : Option Addr) (c0 : Nat) (b l : List Int) (m r : Int) (w : World) (hb : IsB b) (hr : Kd.C (Kd.int .u8) w A b.length b) (hc : b.length ≤ c0) (hbl : b.length ≤ 1000000) (h : decL b = (l, m, r)) :
    Calls Try.prog 32 #[.slice A b.length c0] w fun e w' => ∃ v : Value, e = .returned (.tuple #[v, .int .i64 m, .int .i64 r]) ∧ Kd.R (Kd.int .i64) 3 w' w.heap.size (fun _ => True) v l ∧ Below w.heap.size w w' := by
  have hlen := hr.2.1
  by_cases hq : (cnt b 1).2.2 = 0
  · have hcn : cnt b 1 = ((cnt b 1).1, (cnt b 1).2.1, 0) := by rw [← hq]
    rw [decL_fin b hq] at h
    clear hq
    generalize (cnt b 1).1 = n at *
    generalize (cnt b 1).2.1 = p at *
    obtain ⟨h1, h2, h3⟩ := cnt_ok hcn
    obtain ⟨h4, h5, h6⟩ := dec_bd hb h1
    have hh := count_ok A c0 b 1 n p w (.inl rfl) hb hr hc hcn
    have HG := Lib.hid hh
    have HB0 := Aside0.mk hb
    have HR := Aside0.mk hr
    obtain ⟨N, rfl⟩ := Int.eq_ofNat_of_zero_le h2
    simp only [Int.toNat_natCast] at h
    have HF := Aside0.mk h
    have hNl : N ≤ b.length := by omega
    clear hh hcn h1 hr hb h h3
    have hmf : ∀ (fn : Fn) (first cap : Array Value) (w : World), (Instr.makeFunc fn first cap).run Try.prog w = .ok (.func fn first cap) w := fun _ _ _ _ => rfl
    go_enter Try.func32, Try.ntmps32
    go_wp2_with fail
    refine HG.out.mono ?_
    rintro e w' ⟨rfl, rfl⟩
    go_wp2_with fail
    refine (reader_any A b.length c0 p w).mono ?_
    rintro e w' ⟨rfl, rfl⟩
    go_wp2_with fail
    have Hst := Aside0.mk (show Below w.heap.size w ((w.alloc (.cells #[.slice A b.length c0] 26)).alloc (.cells #[.int .i64 p] 3)) from below_alloc (below_alloc (Below.refl _ _) _) _)
    have Hb0 := Aside0.mk (show ((w.alloc (.cells #[.slice A b.length c0] 26)).alloc (.cells #[.int .i64 p] 3)).heap[w.heap.size]? = some (.cells #[.slice A b.length c0] 26 (0, 0)) from blk_alloc (blk_new w _) _)
    have Hb1 := Aside0.mk (show ((w.alloc (.cells #[.slice A b.length c0] 26)).alloc (.cells #[.int .i64 p] 3)).heap[w.heap.size + 1]? = some (.cells #[.int .i64 p] 3 (0, 0)) from by
      have h7 := blk_new (w.alloc (.cells #[.slice A b.length c0] 26)) (.cells #[.int .i64 p] 3)
      simpa using h7)
    go_loopw [6, 9, 26] (fun x6 x9 x26 wr => ∃ (k : Nat) (out : List Int) (q : Int), x26 = .int .i64 (k : Int) ∧ x6 = .int .i64 q ∧ k ≤ N ∧ 0 ≤ q ∧ q ≤ b.length ∧ Aside0 (out.length = k) ∧ Aside0 (fin out q (ints (N - k) (b.drop q.toNat)) = (l, m, r)) ∧
        Aside0 (Kd.R (Kd.int .i64) 3 wr w.heap.size (fun j => j ≠ w.heap.size ∧ j ≠ w.heap.size + 1) x9 out) ∧ Aside0 (Below w.heap.size w wr) ∧ Aside0 (wr.heap[w.heap.size]? = some (.cells #[.slice A b.length c0] 26 (0, 0))) ∧ Aside0 (wr.heap[w.heap.size + 1]? = some (.cells #[.int .i64 q] 3 (0, 0))))
      (fun _ _ i _ => N - (intOf i).toNat)
    case atStart => exact ⟨0, [], p, rfl, rfl, Nat.zero_le _, by omega, by omega, ⟨rfl⟩, HF, ⟨Kd.R_nil _ _ _ _ _⟩, Hst, Hb0, Hb1⟩
    case round =>
      clear HF Hst Hb0 Hb1
      obtain ⟨k, out, q, rfl, rfl, hk, hq0, hq1, HK, HF, HO, HB, HG0, HG1⟩ := hrel
      have hsz := Aside0.mk (blk_lt HG1.out)
      by_cases hlt : k < N
      · obtain ⟨x, u, e, hdx⟩ : ∃ x u e, dec (b.drop q.toNat) = (x, u, e) := ⟨_, _, _, rfl⟩
        have HN := Aside0.mk (next_any A c0 w.heap.size b q x u e wr HB0.out (Kd.C_below HR.out HB.out) hc hq0 hq1 HG0.out HG1.out hdx)
        by_cases he : e = 0
        · subst he
          have hbd := dec_bd (HB0.out.drop _) hdx
          rw [List.length_drop] at hbd
          have hu0 : 0 ≤ u := by omega
          have hqu : q + u ≤ b.length := by omega
          have HF2 := HF.out
          rw [show N - k = (N - (k + 1)) + 1 from by omega, fin_step out q _ b hq0 hu0 hdx] at HF2
          have HF3 := Aside0.mk HF2
          have hkl : out.length ≤ N := by have := HK.out; omega
          clear hbd HF HF2 hdx
          go_wp2_with fail
          refine HN.out.mono ?_
          rintro e w2 ⟨rfl, hh1, hgr⟩
          have HB2 := Aside0.mk (pw_below_grown HB.out _ HB.out.size hgr (fun j hj => by injection hj with hj; omega))
          have HO2 := Aside0.mk (Kd.R_grown HO.out hgr (fun j hj he => by injection he with he; exact hj.2 he))
          have HG02 := Aside0.mk (blk_grown HG0.out hgr (fun he => by injection he with he; omega))
          have HG12 := Aside0.mk hh1
          clear hh1 hgr HN HB HO HG0 HG1
          go_wp2_with (at_builtin; refine Kd.R_append (Kd.int .i64) (w0 := w) w.heap.size rfl (.tmp 37) (.tmp 39) 22 3 (.int .i64 0) 8 rfl Try.underlying22 info3 rfl (by decide) (by omega) _ out x [.int .i64 x] (fun j => j ≠ w.heap.size ∧ j ≠ w.heap.size + 1) (fun _ => False) rfl rfl rfl (fun _ hk => hk.elim) (fun j hj => by have := blk_lt HG12.out; omega) HO2.out HB2.out HB2.out.size (by omega) ?_; intro v1 w3 ho hb hg hat; have HG03 := Aside0.mk (blk_grown HG02.out hg (fun he => (HO2.out.1 _ he.symm).1 rfl)); have HG13 := Aside0.mk (blk_grown HG12.out hg (fun he => (HO2.out.1 _ he.symm).2 rfl)); have HO3 := Aside0.mk ho; have HB3 := Aside0.mk hb; clear ho hb hg hat)
          go_roundw
          case rel => exact ⟨k + 1, _, q + u, by go_num, rfl, by omega, by omega, by omega, ⟨by rw [List.length_append, HK.out]; rfl⟩, HF3, HO3, HB3, HG03, HG13⟩
          case measure => simp [intOf]; omega
        · have HF2 := HF.out
          rw [show N - k = (N - (k + 1)) + 1 from by omega, fin_bad out q _ b hdx he] at HF2
          simp only [Prod.mk.injEq] at HF2
          obtain ⟨rfl, rfl, rfl⟩ := HF2
          have heb : (e == 0) = false := by simpa using he
          have heb' : (e != 0) = true := by simpa using he
          clear he hdx HF
          go_wp2_with fail
          refine HN.out.mono ?_
          rintro e w2 ⟨rfl, hh1, hgr⟩
          have HB2 := Aside0.mk (pw_below_grown HB.out _ HB.out.size hgr (fun j hj => by injection hj with hj; omega))
          clear hh1 hgr HN HB HO HG0 HG1
          go_wp2
          go_ret3
          exact ⟨_, rfl, Kd.R_nil _ _ _ _ _, HB2.out⟩
      · have hkN : k = N := by omega
        have HF2 := HF.out
        rw [show N - k = 0 from by omega] at HF2
        simp only [ints, fin, ne_eq, not_true_eq_false, if_false, List.append_nil, Prod.mk.injEq] at HF2
        obtain ⟨rfl, h7, rfl⟩ := HF2
        have h7' : q = m := by omega
        subst h7'
        clear hkN h7 HF
        go_wp2
        go_ret3
        exact ⟨_, rfl, Kd.R_mono HO.out (fun _ _ => trivial), HB.out⟩
  · unfold decL at h
    rw [if_pos hq] at h
    simp only [Prod.mk.injEq] at h
    obtain ⟨rfl, rfl, rfl⟩ := h
    have hh := count_bad A c0 b 1 (cnt b 1).1 (cnt b 1).2.1 (cnt b 1).2.2 w (.inl rfl) hb hr hc rfl hq
    have HG := Lib.hid hh
    generalize (cnt b 1).2.2 = q at *
    have hqb : (q == 0) = false := by simpa using hq
    have hqb' : (q != 0) = true := by simpa using hq
    clear hh hr hb hq
    go_enter Try.func32, Try.ntmps32
    go_wp2_with fail
    refine HG.out.mono ?_
    rintro e w' ⟨⟨r1, r2, rfl⟩, rfl⟩
    go_wp2
    go_ret3
    exact ⟨_, rfl, Kd.R_nil _ _ _ _ _, Below.refl _ _⟩

theorem info74b : (Try.prog.info? 74).map (fun i => (i.zero, i.size, i.bytes)) = some (some (.agg (Array.replicate 16 (.int .u8 0))), 16, 16) := by kernel_rfl
theorem chunks_snoc : ∀ (k : Nat) (b : List Int), chunks (k + 1) b = chunks k b ++ [(b.drop (16 * k)).take 16] := by
  intro k
  induction k with
  | zero => intro b; simp [chunks]
  | succ k ih =>
    intro b
    have e1 : chunks (k + 1 + 1) b = b.take 16 :: chunks (k + 1) (b.drop 16) := rfl
    have e2 : chunks (k + 1) b = b.take 16 :: chunks k (b.drop 16) := rfl
    rw [e1, e2, ih, List.drop_drop, List.cons_append, show 16 + 16 * k = 16 * (k + 1) from by omega]
theorem foldset : ∀ (l : List Value) (k : Nat) (a : Array Value), k + l.length = a.size → List.foldl (fun cs x => cs.setIfInBounds x.snd x.fst) a (l.zipIdx k) = (a.toList.take k ++ l).toArray := by
  intro l
  induction l with
  | nil => intro k a h; simp at h; subst h; rw [List.take_of_length_le (by simp)]; simp
  | cons v l ih =>
    intro k a h
    rw [List.zipIdx_cons, List.foldl_cons, ih (k + 1) _ (by simp at h ⊢; omega)]
    congr 1
    have hk : k < a.toList.length := by simp at h ⊢; omega
    simp only [Array.toList_setIfInBounds]
    rw [List.take_succ_eq_append_getElem (by simpa using hk), List.getElem_set_self, List.take_set_of_le (Nat.le_refl _), List.append_assoc]
    rfl
/-- Sixteen cells laid over sixteen zeros. -/
theorem fold16 (cs : List Value) (h : cs.length = 16) :
    List.foldl (fun cs x => cs.setIfInBounds x.snd x.fst) #[Value.int .u8 0, Value.int .u8 0, Value.int .u8 0, Value.int .u8 0, Value.int .u8 0, Value.int .u8 0, Value.int .u8 0, Value.int .u8 0, Value.int .u8 0, Value.int .u8 0, Value.int .u8 0, Value.int .u8 0, Value.int .u8 0, Value.int .u8 0, Value.int .u8 0, Value.int .u8 0] cs.zipIdx = cs.toArray := by
  rw [foldset cs 0 _ (by rw [h]; rfl)]
  rfl
/-- 'api.Digest(b[q:q+16])': sixteen cells of a slice. -/
theorem cut_digest {w : World} {A : Option Addr} {c0 : Nat} {b : List Int} (hr : Kd.C (Kd.int .u8) w A b.length b) (hc : b.length ≤ c0) (q : Int) (h0 : 0 ≤ q) (h1 : q + 16 ≤ b.length) :
    ∃ (g o c' : Nat), (∀ W : World, (Instr.slice 26 (.slice A b.length c0) (some (.int .i64 q)) (some (.int .i64 (q + 16))) none).run Try.prog W = .ok (.slice (some ⟨g, o, none⟩) 16 c') W) ∧
      w.rangeAt g o (encs (Value.int .u8) ((b.drop q.toNat).take 16)) := by
  obtain ⟨i05, hi05, _, hsz5, _⟩ := info_parts info5
  obtain ⟨A', h3, h4, h5⟩ := print_mid_of (P := Try.prog) (Value.int .u8) 0 26 5 .i64 .i64 Try.underlying26 hi05 hsz5 A c0 b q (q + 16) h0 (by omega) h1 hc
  have h6 := h4 w (Kd.reads_of_C hr)
  have he : (b.take (q + 16).toNat).drop q.toNat = (b.drop q.toNat).take 16 := by
    rw [List.drop_take]
    congr 1
    omega
  rw [he] at h3 h6
  have hl : ((b.drop q.toNat).take 16).length = 16 := by rw [List.length_take, List.length_drop]; omega
  rw [hl] at h3 h6
  obtain ⟨ad, rfl, hcell⟩ := h6.2.2 (by omega)
  have hz := hcell 0 (by omega)
  rw [Addr.add_zero'] at hz
  have hspot := World.cell?_spot hz
  obtain ⟨g, o, sp⟩ := ad
  simp only at hspot
  subst hspot
  refine ⟨g, o, _, h3, fun j v hv => ?_⟩
  have hj : j < 16 := by
    have := (List.getElem?_eq_some_iff.1 hv).1
    rw [encs_length, hl] at this
    exact this
  have h7 := hcell j hj
  rw [Addr.add_mid] at h7
  rw [h7, ← hv, encs_get (d := (0 : Int)) _ j (by omega)]

set_option maxHeartbeats 4000000 in
set_option maxRecDepth 100000 in
theorem GetDigests_any (A : Option Addr) (c0 : Nat) (b : List Int) (d : List (List Int)) (m r : Int) (w : World) (hb : IsB b) (hr : Kd.C (Kd.int .u8) w A b.length b) (hc : b.length ≤ c0) (hbl : b.length ≤ 1000000) (h : decD b = (d, m, r)) :
    Calls Try.prog 35 #[.slice A b.length c0] w fun e w' => ∃ v : Value, e = .returned (.tuple #[v, .int .i64 m, .int .i64 r]) ∧ D.R 74 w' w.heap.size (fun _ => True) v d ∧ Below w.heap.size w w' := by
  have hlen := hr.2.1
  by_cases hq : (cnt b 16).2.2 = 0
  · have hcn : cnt b 16 = ((cnt b 16).1, (cnt b 16).2.1, 0) := by rw [← hq]
    unfold decD at h
    rw [if_neg (by omega)] at h
    clear hq
    generalize (cnt b 16).1 = n at *
    generalize (cnt b 16).2.1 = p at *
    simp only [Prod.mk.injEq] at h
    obtain ⟨rfl, rfl, rfl⟩ := h
    obtain ⟨h1, h2, h3⟩ := cnt_ok hcn
    obtain ⟨h4, h5, h6⟩ := dec_bd hb h1
    have hh := count_ok A c0 b 16 n p w (.inr rfl) hb hr hc hcn
    have HG := Lib.hid hh
    have HR := Aside0.mk hr
    obtain ⟨N, rfl⟩ := Int.eq_ofNat_of_zero_le h2
    simp only [Int.toNat_natCast]
    have hNl : 16 * N + p.toNat ≤ b.length := by omega
    clear hh hcn h1 hr hb h3
    go_enter Try.func35, Try.ntmps35
    go_wp2_with fail
    refine HG.out.mono ?_
    rintro e w' ⟨rfl, rfl⟩
    go_wp2_with fail
    go_loopw [6, 8, 19] (fun x6 x8 x19 wr => ∃ (k : Nat) (out : List (List Int)), x19 = .int .i64 (k : Int) ∧ x6 = .int .i64 (p + 16 * (k : Int)) ∧ k ≤ N ∧ Aside0 (out = chunks k (b.drop p.toNat)) ∧ Aside0 (D.R 74 wr w.heap.size (fun _ => True) x8 out) ∧ Aside0 (Below w.heap.size w wr))
      (fun _ _ i _ => N - (intOf i).toNat)
    case atStart => exact ⟨0, [], rfl, by simp, Nat.zero_le _, ⟨rfl⟩, ⟨Kd.R_nil _ _ _ _ _⟩, ⟨Below.refl _ _⟩⟩
    case round =>
      obtain ⟨k, out, rfl, rfl, hk, HE, HO, HB⟩ := hrel
      have hol : out.length = k := by rw [HE.out, chunks_len]
      by_cases hlt : k < N
      · have hpk : p + 16 * (k : Int) + 16 ≤ b.length := by omega
        obtain ⟨g, o, c', hcut, hrange⟩ := cut_digest HR.out hc (p + 16 * (k : Int)) (by omega) hpk
        have Hrange := Aside0.mk (rangeAt_below hrange HB.out)
        have hsnoc : chunks (k + 1) (b.drop p.toNat) = chunks k (b.drop p.toNat) ++ [(b.drop (p + 16 * (k : Int)).toNat).take 16] := by
          rw [chunks_snoc, List.drop_drop]
          congr 4
          omega
        have hx : ((b.drop (p + 16 * (k : Int)).toNat).take 16).length = 16 := by rw [List.length_take, List.length_drop]; omega
        generalize (b.drop (p + 16 * (k : Int)).toNat).take 16 = x at *
        have Hsnoc := Aside0.mk hsnoc
        have HD : Aside0 (D.M wr w.heap.size (fun _ => False) x (encs (Value.int .u8) x)) := ⟨Kd.arr_of_cells hx⟩
        have Hsz : Aside0 ((Try.prog.info? 74).map (·.size) = some (encs (Value.int .u8) x).length) := ⟨by rw [encs_length, hx]; exact size74⟩
        have harr : ∀ W : World, (Instr.arrayAt 74 (.slice (some ⟨g, o, none⟩) 16 c')).run Try.prog W = .ok (.pointer (some ⟨g, o, none⟩)) W := fun W => run_arrayAt W 74 5 16 _ 16 c' Try.underlying74 (Nat.le_refl _)
        have hfold := fold16 (encs (Value.int .u8) x) (by rw [encs_length, hx])
        have hcl : (encs (Value.int .u8) x).length = 16 := by rw [encs_length, hx]
        clear hrange hsnoc hx
        generalize encs (Value.int .u8) x = cs at *
        go_wp2_with (first | (refine wpList_load_mid rfl 74 (.tmp 27) rfl g o rfl cs _ Hrange.out Try.underlying74 rfl Hsz.out ?_) | (at_builtin; refine Kd.R_append D (w0 := w) w.heap.size rfl (.tmp 21) (.tmp 29) 23 74 _ 16 rfl Try.underlying23 info74b rfl (by decide) (by omega) _ out x cs (fun _ => True) (fun _ => False) rfl rfl HD.out (fun _ hk => hk.elim) (fun _ _ => trivial) HO.out HB.out HB.out.size (by omega) ?_; intro v1 w3 ho hb hg hat; have HO3 := Aside0.mk ho; have HB3 := Aside0.mk hb; clear ho hb hg hat))
        go_roundw
        case rel => exact ⟨k + 1, _, by go_num, by rw [show p + 16 * ((k + 1 : Nat) : Int) = p + 16 * (k : Int) + 16 from by omega], by omega, ⟨by rw [HE.out, Hsnoc.out]⟩, HO3, HB3⟩
        case measure => simp [intOf]; omega
      · go_wp2
        go_ret3
        have hkN : k = N := by omega
        subst hkN
        rw [HE.out] at HO
        exact ⟨_, rfl, HO.out, HB.out⟩
  · unfold decD at h
    rw [if_pos hq] at h
    simp only [Prod.mk.injEq] at h
    obtain ⟨rfl, rfl, rfl⟩ := h
    have hh := count_bad A c0 b 16 (cnt b 16).1 (cnt b 16).2.1 (cnt b 16).2.2 w (.inr rfl) hb hr hc rfl hq
    have HG := Lib.hid hh
    generalize (cnt b 16).2.2 = q at *
    have hqb : (q == 0) = false := by simpa using hq
    have hqb' : (q != 0) = true := by simpa using hq
    clear hh hr hb hq
    go_enter Try.func35, Try.ntmps35
    go_wp2_with fail
    refine HG.out.mono ?_
    rintro e w' ⟨⟨r1, r2, rfl⟩, rfl⟩
    go_wp2
    go_ret3
    exact ⟨_, rfl, Kd.R_nil _ _ _ _ _, Below.refl _ _⟩
end Go.Proofs.Ytippclnmijelfaa.Wi
