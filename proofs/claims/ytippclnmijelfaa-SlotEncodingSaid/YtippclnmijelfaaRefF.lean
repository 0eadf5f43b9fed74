/- The reference's functions that encode and decode a list of digests. -/
import Derived.Test.YtippclnmijelfaaRefE
namespace Go.Proofs.Ytippclnmijelfaa.Rc
open Go.RowKit Go.Proofs.YtippclnmijelfaaW.PrintWords Go.Proofs.YtippclnmijelfaaW.PrintLast Go.Proofs.YtippclnmijelfaaW.PrintMore
open Go.Proofs.Ytippclnmijelfaa.En Go.Proofs.Ytippclnmijelfaa.Rf Go.Proofs.Ytippclnmijelfaa.Wi
attribute [local go_sem] max2_int min2_int max_two min_two
set_option linter.unusedVariables false
set_option linter.unusedSimpArgs false

theorem take_snoc (x : List Int) (i : Nat) (h : i < x.length) : x.take (i + 1) = x.take i ++ [x.getD i 0] := by
  rw [List.take_succ_eq_append_getElem h]
  simp only [List.getD_eq_getElem?_getD, List.getElem?_eq_getElem h, Option.getD_some]

set_option maxHeartbeats 4000000 in
set_option maxRecDepth 100000 in
theorem rDigests_any (A : Option Addr) (c0 : Nat) (l : List (List Int)) (w : World) (hr : D.C w A l.length l) (hc : l.length ≤ c0) (hl : l.length ≤ 100000) (hI : Dig l) :
    Calls Try.prog 27 #[.slice A l.length c0] w fun e w' => ∃ v : Value, e = .returned v ∧ Kd.R (Kd.int .u8) 5 w' w.heap.size (fun _ => True) v (encD l) ∧ Below w.heap.size w w' := by
  have HR := Aside0.mk hr
  have HA := Aside0.mk hI
  have HL := Aside0.mk (I64_nat hl)
  clear hr hI
  go_enter Try.func27, Try.ntmps27
  go_wp2_with fail
  refine (rInt_any (l.length : Int) _ HL.out).mono ?_
  rintro e w1 ⟨v, rfl, ho, hb⟩
  have HO := Aside0.mk ho
  have HB := Aside0.mk hb
  clear ho hb
  go_wp2_with fail
  go_loopw [3, 4] (fun x3 x4 wr => ∃ (k : Nat) (out : List Int), x4 = .int .i64 (k : Int) ∧ k ≤ l.length ∧ Aside0 (out = encI l.length ++ (l.take k).flatten) ∧ Aside0 (Kd.R (Kd.int .u8) 5 wr w.heap.size (fun _ => True) x3 out) ∧ Aside0 (Below w.heap.size w wr)) (fun _ i _ => l.length - (intOf i).toNat)
  case atStart => exact ⟨0, _, rfl, Nat.zero_le _, ⟨by simp⟩, HO, HB⟩
  case round =>
    clear HO HB
    obtain ⟨k, out, rfl, hk, HE, HO, HB⟩ := hrel
    by_cases hlt : k < l.length
    · obtain ⟨g, o, x, rfl, hlk, hx, hrange, hbl⟩ := D_at HR.out k hlt
      have hsnoc := Aside0.mk (flat_snoc l k hlt)
      have hxe : x = l[k] := by rw [List.getElem?_eq_getElem hlt] at hlk; injection hlk with h; exact h.symm
      rw [← hxe] at hsnoc
      have Hx := Aside0.mk hx
      have Hrange := Aside0.mk hrange
      have hol : out.length ≤ 10 + 16 * l.length := by
        rw [HE.out, List.length_append]
        have h1 := encI_len HL.out
        have h2 := flat_len (d := l.take k) (fun y hy => HA.out y (List.mem_of_mem_take hy))
        rw [List.length_take] at h2
        omega
      clear hlk hxe hrange hx
      go_wp2_with fail
      obtain ⟨wo, hwo⟩ : ∃ wo : World, wo = wr := ⟨_, rfl⟩
      go_loopw [3, 5] (fun x3 x5 wr => ∃ (i : Nat) (cur : List Int), x5 = .int .i64 (i : Int) ∧ i ≤ 16 ∧ Aside0 (cur = out ++ x.take i) ∧ Aside0 (Kd.R (Kd.int .u8) 5 wr w.heap.size (fun _ => True) x3 cur) ∧ Aside0 (Below w.heap.size w wr)) (fun _ i _ => 16 - (intOf i).toNat)
      case atStart => exact ⟨0, out, rfl, Nat.zero_le _, ⟨by simp⟩, HO, HB⟩
      case round =>
        clear HO HB hwo
        obtain ⟨i, cur, rfl, hi, HE2, HO, HB⟩ := hrel
        by_cases hi16 : i < 16
        · have hcell : wr.cell? ⟨g, o + k * 16 + i, none⟩ = some (.int .u8 (x.getD i 0)) := pw_cell_below HB.out (Hrange.out i _ (encs_get x i (by have := Hx.out; omega)))
          have hcurl : cur.length ≤ 10 + 16 * l.length + 16 := by
            rw [HE2.out, List.length_append, List.length_take]
            omega
          generalize hxi : x.getD i 0 = xi at *
          have Hxi := Aside0.mk hxi
          clear hxi
          go_wp2_with (at_builtin; refine Kd.R_append (Kd.int .u8) (w0 := w) w.heap.size rfl (.tmp 19) (.tmp 26) 26 5 (.int .u8 0) 1 rfl Try.underlying26 info5 rfl (by decide) (by omega) _ cur xi [.int .u8 xi] (fun _ => True) (fun _ => False) rfl rfl rfl (fun _ hk => hk.elim) (fun _ _ => trivial) HO.out HB.out HB.out.size (by omega) ?_; intro v1 w1 ho hb hg hat; have HO1 := Aside0.mk ho; have HB1 := Aside0.mk hb; clear ho hb hg hat)
          go_roundw
          case rel => exact ⟨i + 1, _, by go_num, by omega, ⟨by rw [HE2.out, take_snoc x i (by have := Hx.out; omega), Hxi.out, List.append_assoc]⟩, HO1, HB1⟩
          case measure => simp [intOf]; omega
        · have Hxt : Aside0 (x.take i = x) := ⟨List.take_of_length_le (by have := Hx.out; omega)⟩
          go_wp2
          go_roundw
          case rel => exact ⟨k + 1, _, by go_num, by omega, ⟨by rw [HE2.out, HE.out, hsnoc.out, Hxt.out, List.append_assoc]⟩, HO, HB⟩
          case measure => simp [intOf]; omega
    · go_wp2
      go_ret
      have he : out = encD l := by rw [HE.out, List.take_of_length_le (by omega)]; rfl
      rw [he] at HO
      exact ⟨_, rfl, HO.out, HB.out⟩

/-- The array of which i elements have been set. -/
def part16 (x : List Int) (i : Nat) : List Int := x.take i ++ List.replicate (16 - i) 0
theorem part16_len (x : List Int) (hx : x.length = 16) (i : Nat) (hi : i ≤ 16) : (part16 x i).length = 16 := by
  unfold part16
  rw [List.length_append, List.length_take, List.length_replicate]
  omega
theorem part16_full (x : List Int) (hx : x.length = 16) : part16 x 16 = x := by
  unfold part16
  rw [List.take_of_length_le (by omega)]
  simp
theorem part16_set (x : List Int) (hx : x.length = 16) (i : Nat) (hi : i < 16) :
    (encs (Value.int .u8) (part16 x i)).toArray.setIfInBounds i (.int .u8 (x.getD i 0)) = (encs (Value.int .u8) (part16 x (i + 1))).toArray := by
  have h1 : (part16 x i).set i (x.getD i 0) = part16 x (i + 1) := by
    unfold part16
    have hr : 16 - i = (16 - (i + 1)) + 1 := by omega
    have hl : (x.take i).length = i := by rw [List.length_take]; omega
    rw [take_snoc x i (by omega), hr, List.replicate_succ, List.set_append_right i _ (by omega), hl, Nat.sub_self, List.set_cons_zero, List.append_assoc]
    rfl
  rw [← h1]
  simp only [List.setIfInBounds_toArray, encs, List.map_set]

set_option maxHeartbeats 4000000 in
set_option maxRecDepth 100000 in
theorem rGetDigests_any (A : Option Addr) (c0 : Nat) (b : List Int) (d : List (List Int)) (m r : Int) (w : World) (hb : IsB b) (hr : Kd.C (Kd.int .u8) w A b.length b) (hc : b.length ≤ c0) (hbl : b.length ≤ 1000000) (h : decD b = (d, m, r)) :
    Calls Try.prog 36 #[.slice A b.length c0] w fun e w' => ∃ v : Value, e = .returned (.tuple #[v, .int .i64 m, .int .i64 r]) ∧ D.R 74 w' w.heap.size (fun _ => True) v d ∧ Below w.heap.size w w' := by
  have hlen := hr.2.1
  have hh := rcount_any A c0 b 16 (cnt b 16).1 (cnt b 16).2.1 (cnt b 16).2.2 w (.inr rfl) hb hr hc hbl rfl
  have HG := Lib.hid hh
  have HR := Aside0.mk hr
  by_cases hq : (cnt b 16).2.2 = 0
  · have hcn : cnt b 16 = ((cnt b 16).1, (cnt b 16).2.1, 0) := by rw [← hq]
    unfold decD at h
    rw [if_neg (by omega)] at h
    rw [hq] at HG
    clear hq
    generalize (cnt b 16).1 = n at *
    generalize (cnt b 16).2.1 = p at *
    simp only [Prod.mk.injEq] at h
    obtain ⟨rfl, rfl, rfl⟩ := h
    obtain ⟨h1, h2, h3⟩ := cnt_ok hcn
    obtain ⟨h4, h5, h6⟩ := dec_bd hb h1
    obtain ⟨N, rfl⟩ := Int.eq_ofNat_of_zero_le h2
    simp only [Int.toNat_natCast]
    have hNl : 16 * N + p.toNat ≤ b.length := by omega
    clear hh hcn h1 hr hb h3
    go_enter Try.func36, Try.ntmps36
    go_wp2_with fail
    refine HG.out.mono ?_
    rintro e w1 ⟨rfl, hb1⟩
    have HB := Aside0.mk hb1
    clear hb1
    go_wp2_with fail
    go_loopw [6, 8, 9] (fun x6 x8 x9 wr => ∃ (k : Nat) (out : List (List Int)), x9 = .int .i64 (k : Int) ∧ x6 = .int .i64 (p + 16 * (k : Int)) ∧ k ≤ N ∧ Aside0 (out = chunks k (b.drop p.toNat)) ∧ Aside0 (D.R 74 wr w.heap.size (fun _ => True) x8 out) ∧ Aside0 (Below w.heap.size w wr))
      (fun _ _ i _ => N - (intOf i).toNat)
    case atStart => exact ⟨0, [], rfl, by simp, Nat.zero_le _, ⟨rfl⟩, ⟨Kd.R_nil _ _ _ _ _⟩, HB⟩
    case round =>
      clear HB
      obtain ⟨k, out, rfl, rfl, hk, HE, HO, HB⟩ := hrel
      have hol : out.length = k := by rw [HE.out, chunks_len]
      have hol2 : out.length ≤ 1000000 := by omega
      clear hol
      by_cases hlt : k < N
      · have hpk : p + 16 * (k : Int) + 16 ≤ b.length := by omega
        have hsnoc : chunks (k + 1) (b.drop p.toNat) = chunks k (b.drop p.toNat) ++ [(b.drop (p + 16 * (k : Int)).toNat).take 16] := by
          rw [chunks_snoc, List.drop_drop]
          congr 4
          omega
        have hx : ((b.drop (p + 16 * (k : Int)).toNat).take 16).length = 16 := by rw [List.length_take, List.length_drop]; omega
        have hrdx : ∀ i : Nat, i < 16 → rd b (p + 16 * (k : Int) + (i : Int)) = ((b.drop (p + 16 * (k : Int)).toNat).take 16).getD i 0 := by
          intro i hi
          unfold rd
          rw [List.getD_eq_getElem?_getD, List.getD_eq_getElem?_getD, List.getElem?_take, if_pos hi, List.getElem?_drop, show (p + 16 * (k : Int) + (i : Int)).toNat = (p + 16 * (k : Int)).toNat + i from by omega]
        generalize (b.drop (p + 16 * (k : Int)).toNat).take 16 = x at *
        have Hsnoc := Aside0.mk hsnoc
        have Hx := Aside0.mk hx
        have Hrd := Aside0.mk hrdx
        clear hsnoc hx hrdx
        have HP0 : Aside0 ((wr.alloc (.cells #[Value.int .u8 0, Value.int .u8 0, Value.int .u8 0, Value.int .u8 0, Value.int .u8 0, Value.int .u8 0, Value.int .u8 0, Value.int .u8 0, Value.int .u8 0, Value.int .u8 0, Value.int .u8 0, Value.int .u8 0, Value.int .u8 0, Value.int .u8 0, Value.int .u8 0, Value.int .u8 0] 74)).heap[wr.heap.size]? = some (.cells (encs (Value.int .u8) (part16 x 0)).toArray 74 (0, 0))) := ⟨by rw [heap_alloc_new]; rfl⟩
        have HO0 : Aside0 (D.R 74 (wr.alloc (.cells #[Value.int .u8 0, Value.int .u8 0, Value.int .u8 0, Value.int .u8 0, Value.int .u8 0, Value.int .u8 0, Value.int .u8 0, Value.int .u8 0, Value.int .u8 0, Value.int .u8 0, Value.int .u8 0, Value.int .u8 0, Value.int .u8 0, Value.int .u8 0, Value.int .u8 0, Value.int .u8 0] 74)) w.heap.size (fun j => j ≠ wr.heap.size) u8 out) := ⟨Kd.R_alloc (Kd.R_mono (Kd.R_bound HO.out) (fun j hj => by have := hj.2.2.1; omega)) _⟩
        have HB0 : Aside0 (Below w.heap.size w (wr.alloc (.cells #[Value.int .u8 0, Value.int .u8 0, Value.int .u8 0, Value.int .u8 0, Value.int .u8 0, Value.int .u8 0, Value.int .u8 0, Value.int .u8 0, Value.int .u8 0, Value.int .u8 0, Value.int .u8 0, Value.int .u8 0, Value.int .u8 0, Value.int .u8 0, Value.int .u8 0, Value.int .u8 0] 74))) := ⟨below_alloc HB.out _⟩
        have hgw : w.heap.size ≤ wr.heap.size := HB.out.size
        go_wp2_with fail
        clear HO HB
        generalize hgs : wr.heap.size = g at *
        have Hgs := Aside0.mk hgs
        clear hgs
        go_loopw [11] (fun x11 wi => ∃ (i : Nat), x11 = .int .i64 (i : Int) ∧ i ≤ 16 ∧ Aside0 (wi.heap[g]? = some (.cells (encs (Value.int .u8) (part16 x i)).toArray 74 (0, 0))) ∧ Aside0 (D.R 74 wi w.heap.size (fun j => j ≠ g) u8 out) ∧ Aside0 (Below w.heap.size w wi)) (fun i _ => 16 - (intOf i).toNat)
        case atStart => exact ⟨0, rfl, Nat.zero_le _, HP0, HO0, HB0⟩
        case round =>
          clear HP0 HO0 HB0
          obtain ⟨i, rfl, hi, HP, HO, HB⟩ := hrel
          by_cases hi16 : i < 16
          · obtain ⟨ad, rfl, hcell⟩ := Kd.at_int HR.out (p + 16 * (k : Int) + (i : Int)) (by omega) (by omega)
            rw [Hrd.out i hi16] at hcell
            have hcell2 := pw_cell_below HB.out hcell
            have hset := part16_set x Hx.out i hi16
            have hlen16 := part16_len x Hx.out i hi
            have hcg : wr.cell? ⟨g, i, none⟩ = some (.int .u8 ((part16 x i).getD i 0)) := by rw [blk_cell HP.out, List.getElem?_toArray]; exact encs_get _ i (by omega)
            have hfg : wr.frozen? ⟨g, i, none⟩ = false := blk_frozen HP.out i
            have HP1 : Aside0 ((wr.setCell ⟨g, i, none⟩ (.int .u8 (x.getD i 0))).heap[g]? = some (.cells (encs (Value.int .u8) (part16 x (i + 1))).toArray 74 (0, 0))) := ⟨by rw [blk_set HP.out, hset]⟩
            have HO1 : Aside0 (D.R 74 (wr.setCell ⟨g, i, none⟩ (.int .u8 (x.getD i 0))) w.heap.size (fun j => j ≠ g) u8 out) := ⟨Kd.R_far HO.out (fun j hj => hj) _⟩
            have HB1 : Aside0 (Below w.heap.size w (wr.setCell ⟨g, i, none⟩ (.int .u8 (x.getD i 0)))) := ⟨HB.out.setCell hgw _⟩
            clear hset hlen16 hcell HP HO HB
            generalize x.getD i 0 = xi at *
            generalize (part16 x i).getD i 0 = zi at *
            go_wp2
            go_roundw
            case rel => exact ⟨i + 1, by go_num, by omega, HP1, HO1, HB1⟩
            case measure => simp [intOf]; omega
          · have hi2 : i = 16 := by omega
            have hp16 : part16 x i = x := by rw [hi2]; exact part16_full x Hx.out
            rw [hp16] at HP
            have HD : Aside0 (D.M wr w.heap.size (fun _ => False) x (encs (Value.int .u8) x)) := ⟨Kd.arr_of_cells Hx.out⟩
            have Hsz : Aside0 ((Try.prog.info? 74).map (·.size) = some (encs (Value.int .u8) x).toArray.size) := ⟨by rw [List.size_toArray, encs_length, Hx.out]; exact size74⟩
            have hfold := fold16 (encs (Value.int .u8) x) (by rw [encs_length, Hx.out])
            have hcl : (encs (Value.int .u8) x).length = 16 := by rw [encs_length, Hx.out]
            clear hi2 hp16
            generalize encs (Value.int .u8) x = cs at *
            go_wp2_with (first | (refine wpList_load_row rfl 74 (.tmp 10) rfl g rfl 74 cs.toArray (0, 0) _ HP.out Try.underlying74 rfl Hsz.out ?_) | (at_builtin; refine Kd.R_append D (w0 := w) w.heap.size rfl (.tmp 38) (.tmp 40) 23 74 _ 16 rfl Try.underlying23 info74b rfl (by decide) (by omega) _ out x cs (fun j => j ≠ g) (fun _ => False) rfl rfl HD.out (fun _ hk => hk.elim) (fun j hj => by have := blk_lt HP.out; omega) HO.out HB.out HB.out.size (by omega) ?_; intro v1 w3 ho hb hg hat; have HO3 := Aside0.mk (Kd.R_mono ho (fun _ _ => trivial)); have HB3 := Aside0.mk hb; clear ho hb hg hat))
            go_roundw
            case rel => exact ⟨k + 1, _, by go_num, by rw [show p + 16 * ((k + 1 : Nat) : Int) = p + 16 * (k : Int) + 16 from by omega], by omega, ⟨by rw [HE.out, Hsnoc.out]⟩, HO3, HB3⟩
            case measure => simp [intOf]; omega
      · have hkN : k = N := by omega
        have HN : Aside0 (chunks k (b.drop p.toNat) = chunks N (b.drop p.toNat)) := ⟨by rw [hkN]⟩
        have hpN : p + 16 * (k : Int) = p + 16 * (N : Int) := by omega
        have HpN := Aside0.mk hpN
        clear hkN hpN
        go_wp2
        go_ret3
        rw [HE.out, HN.out] at HO
        exact ⟨_, by rw [← HpN.out]; rfl, HO.out, HB.out⟩
  · unfold decD at h
    rw [if_pos hq] at h
    simp only [Prod.mk.injEq] at h
    obtain ⟨rfl, rfl, rfl⟩ := h
    generalize (cnt b 16).2.2 = q at *
    have hqb : (q == 0) = false := by simpa using hq
    have hqb' : (q != 0) = true := by simpa using hq
    clear hh hr hb hq
    go_enter Try.func36, Try.ntmps36
    go_wp2_with fail
    refine HG.out.mono ?_
    rintro e w1 ⟨rfl, hb1⟩
    have HB := Aside0.mk hb1
    clear hb1
    go_wp2
    go_ret3
    exact ⟨_, rfl, Kd.R_nil _ _ _ _ _, HB.out⟩
end Go.Proofs.Ytippclnmijelfaa.Rc
