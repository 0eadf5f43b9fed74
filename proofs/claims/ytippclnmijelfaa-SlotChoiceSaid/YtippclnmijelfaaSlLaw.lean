/- The plain laws of the slots; the contracts of layer 25 with named results; the comparison of states; the closures of the statements. -/
import Derived.Test.YtippclnmijelfaaSlTxt
import Derived.Test.YtippclnmijelfaaSlE
import Derived.Laws.StructEq
import Derived.ChangeKeysEq
import Derived.Test.YtippclnmijelfaaSlStp
import Derived.Test.YtippclnmijelfaaSlCho
namespace Go.Proofs.Ytippclnmijelfaa.Sl
open Go.RowKit Go.Proofs.YtippclnmijelfaaW.PrintWords Go.Proofs.YtippclnmijelfaaW.PrintLast Go.Proofs.YtippclnmijelfaaW.PrintMore
open Go.Proofs.Ytippclnmijelfaa.En Go.Proofs.Ytippclnmijelfaa.Rf Go.Proofs.Ytippclnmijelfaa.Wi Go.Proofs.Ytippclnmijelfaa.Rc Go.Proofs.Ytippclnmijelfaa.Sa
set_option linter.unusedVariables false
set_option linter.unusedSimpArgs false
theorem bytes_strOf {s : List Int} (h : IsB s) : bytesOf (strOfNums s) = s := by
  show List.map _ (List.map _ s).toArray.toList = s
  rw [List.map_map]
  conv => rhs; rw [← List.map_id s]
  refine List.map_congr_left fun x hx => ?_
  have := h x hx
  show (((UInt8.ofNat x.toNat).toNat : Nat) : Int) = x
  rw [UInt8.toNat_ofNat']
  omega
theorem strOf_bytes (s : ByteArray) : strOfNums (bytesOf s) = s := by
  obtain ⟨⟨l⟩⟩ := s
  show (⟨(List.map _ (List.map _ l)).toArray⟩ : ByteArray) = ⟨⟨l⟩⟩
  rw [List.map_map]
  congr 2
  conv => rhs; rw [← List.map_id l]
  refine List.map_congr_left fun x hx => ?_
  show UInt8.ofNat (((x.toNat : Nat) : Int)).toNat = x
  simp
theorem len6 (a b : Slot) : I64 ((nums6 a b).length : Int) := by unfold I64 nums6; simp
theorem txt_bytes (a b : Slot) : bytesOf (txt a b) = encL (nums6 a b) := bytes_strOf (encL_bytes _)
theorem txt_size (a b : Slot) (h : AllI (nums6 a b)) : (txt a b).size = (encL (nums6 a b)).length ∧ (txt a b).size ≤ 70 := by
  have h1 := bytesOf_length (txt a b)
  rw [txt_bytes] at h1
  have h2 := encL_len (len6 a b) h
  have h3 : (nums6 a b).length = 6 := rfl
  omega
/-- Decoding the text of a state. -/
theorem dcd_txt (a b : Slot) (h : AllI (nums6 a b)) : dcd (txt a b) = if ok a b then (a, b, 0) else (Z, Z, 7) := by
  have hd := decL_enc (nums6 a b) [] (len6 a b) h
  rw [List.append_nil] at hd
  unfold dcd
  rw [txt_bytes, hd, (txt_size a b h).1]
  simp [nums6, slA, slB]
theorem ok_all {a b : Slot} (h : ok a b) : AllI (nums6 a b) := by
  obtain ⟨⟨h1, h2, h3, h4, h5, h6⟩, ⟨h7, h8, h9, h10, h11, h12⟩⟩ := h
  intro x hx
  simp only [nums6, List.mem_cons, List.mem_nil_iff, or_false] at hx
  unfold I64
  omega
/-- What is decoded is a state that is right, and its text is the given one. -/
theorem dcd_ok (s : ByteArray) (h : (dcd s).2.2 = 0) : ok (dcd s).1 (dcd s).2.1 ∧ txt (dcd s).1 (dcd s).2.1 = s := by
  obtain ⟨l, m, e, hd⟩ : ∃ l m e, decL (bytesOf s) = (l, m, e) := ⟨_, _, _, rfl⟩
  unfold dcd at h ⊢
  rw [hd] at h ⊢
  simp only at h ⊢
  by_cases hbad : e ≠ 0 ∨ m ≠ s.size ∨ l.length ≠ 6
  · rw [if_pos hbad] at h
    exact absurd h (by decide)
  · rw [if_neg hbad] at h ⊢
    by_cases hok : ok (slA l) (slB l)
    · rw [if_pos hok] at h ⊢
      refine ⟨hok, ?_⟩
      have he : e = 0 := by
        by_cases h0 : e = 0
        · exact h0
        · exact absurd (Or.inl h0) hbad
      have hm : m = s.size := by
        by_cases h0 : m = s.size
        · exact h0
        · exact absurd (Or.inr (Or.inl h0)) hbad
      have hl : l.length = 6 := by
        by_cases h0 : l.length = 6
        · exact h0
        · exact absurd (Or.inr (Or.inr h0)) hbad
      subst he
      obtain ⟨_, _, ht, hm2, _⟩ := decL_ok (bytesOf_B s) hd
      have hn : nums6 (slA l) (slB l) = l := by
        match l, hl with
        | [a, b, c, d, e, f], _ => rfl
      show strOfNums (encL (nums6 (slA l) (slB l))) = s
      rw [hn, ← ht, hm, List.take_of_length_le (by rw [bytesOf_length]; omega), strOf_bytes]
    · rw [if_neg hok] at h
      exact absurd h (by decide)
end Go.Proofs.Ytippclnmijelfaa.Sl
namespace Go.Proofs.Ytippclnmijelfaa.Sl
open Go.Proofs.YtippclnmijelfaaW.PrintWords
set_option linter.unusedVariables false
theorem sameI (d : Nat) (x : Int) (w : World) : (Op.equalIn (d + 1) 3 (.int .i64 x) (.int .i64 x)).run Try.prog w = .ok true w := by
  rw [run_equalIn_int w d 3 .i64 .i64 x x Try.underlying3, beq_self_eq_true]
theorem same46 (d : Nat) (x0 x1 x2 : Int) (w : World) : (Op.equalIn (d + 1 + 1) 46 (.agg #[.int .i64 x0, .int .i64 x1, .int .i64 x2]) (.agg #[.int .i64 x0, .int .i64 x1, .int .i64 x2])).run Try.prog w = .ok true w :=
  eqA_of (d := d + 1) Try.underlying46 (by kernel_rfl) (eqf_cons (r := true) (s := true) rfl rfl rfl (sameI d x0 w) (eqf_cons (r := true) (s := true) rfl rfl rfl (sameI d x1 w) (eqf_last rfl rfl rfl (sameI d x2 w))))
theorem same47 (d : Nat) (x0 x1 x2 x3 x4 x5 : Int) (w : World) : (Op.equalIn (d + 1 + 1 + 1) 47 (.agg #[.int .i64 x0, .int .i64 x1, .int .i64 x2, .int .i64 x3, .int .i64 x4, .int .i64 x5]) (.agg #[.int .i64 x0, .int .i64 x1, .int .i64 x2, .int .i64 x3, .int .i64 x4, .int .i64 x5])).run Try.prog w = .ok true w := by
  obtain ⟨i, hi⟩ : ∃ i, Try.prog.info? 46 = some i := ⟨_, rfl⟩
  have hc : Try.prog.cellsOf 46 = 3 := by kernel_rfl
  have h0 : ∀ w, (part 46 #[Value.int .i64 x0, .int .i64 x1, .int .i64 x2, .int .i64 x3, .int .i64 x4, .int .i64 x5] 0).run Try.prog w = .ok (.agg #[.int .i64 x0, .int .i64 x1, .int .i64 x2]) w := fun _ => by rfl
  have h1 : ∀ w, (part 46 #[Value.int .i64 x0, .int .i64 x1, .int .i64 x2, .int .i64 x3, .int .i64 x4, .int .i64 x5] 3).run Try.prog w = .ok (.agg #[.int .i64 x3, .int .i64 x4, .int .i64 x5]) w := fun _ => by rfl
  rw [run_equalIn_array w (d + 1 + 1) _ _ Try.underlying47 hi, hc]
  simp only [show List.range 2 = [0, 1] from rfl, Op.eqItems, Sem.run_bind, Nat.zero_mul, Nat.one_mul, h0, h1, Result.andThen_ok, same46, Bool.not_true, Bool.false_eq_true, if_false, Sem.run_pure]
/-- As the walk meets it. -/
theorem same47' (x0 x1 x2 x3 x4 x5 : Int) (w : World) : (Op.equalIn 9999 47 (.agg #[.int .i64 x0, .int .i64 x1, .int .i64 x2, .int .i64 x3, .int .i64 x4, .int .i64 x5]) (.agg #[.int .i64 x0, .int .i64 x1, .int .i64 x2, .int .i64 x3, .int .i64 x4, .int .i64 x5])).run Try.prog w = .ok true w := same47 9996 x0 x1 x2 x3 x4 x5 w
theorem same49 (d : Nat) (x0 x1 x2 x3 x4 x5 : Int) (w : World) : (Op.equalIn (d + 1 + 1 + 1 + 1) 49 (.agg #[.int .i64 x0, .int .i64 x1, .int .i64 x2, .int .i64 x3, .int .i64 x4, .int .i64 x5]) (.agg #[.int .i64 x0, .int .i64 x1, .int .i64 x2, .int .i64 x3, .int .i64 x4, .int .i64 x5])).run Try.prog w = .ok true w := by
  exact eqA_of (d := d + 1 + 1 + 1) Try.underlying49 (by kernel_rfl) (eqf_last (a := .agg #[.int .i64 x0, .int .i64 x1, .int .i64 x2, .int .i64 x3, .int .i64 x4, .int .i64 x5]) (b := .agg #[.int .i64 x0, .int .i64 x1, .int .i64 x2, .int .i64 x3, .int .i64 x4, .int .i64 x5]) rfl rfl rfl (same47 d x0 x1 x2 x3 x4 x5 w))
theorem neq49 (x0 x1 x2 x3 x4 x5 : Int) (w : World) : (binOp .neq 49 (.agg #[.int .i64 x0, .int .i64 x1, .int .i64 x2, .int .i64 x3, .int .i64 x4, .int .i64 x5]) (.agg #[.int .i64 x0, .int .i64 x1, .int .i64 x2, .int .i64 x3, .int .i64 x4, .int .i64 x5])).run Try.prog w = .ok (.bool false) w := by
  rw [run_neq_struct, same49 9996]
  rfl
theorem eql49 (x0 x1 x2 x3 x4 x5 : Int) (w : World) : (binOp .eql 49 (.agg #[.int .i64 x0, .int .i64 x1, .int .i64 x2, .int .i64 x3, .int .i64 x4, .int .i64 x5]) (.agg #[.int .i64 x0, .int .i64 x1, .int .i64 x2, .int .i64 x3, .int .i64 x4, .int .i64 x5])).run Try.prog w = .ok (.bool true) w := by
  rw [run_eql_struct, same49 9996]
  rfl
theorem neq46 (x0 x1 x2 : Int) (w : World) : (binOp .neq 46 (.agg #[.int .i64 x0, .int .i64 x1, .int .i64 x2]) (.agg #[.int .i64 x0, .int .i64 x1, .int .i64 x2])).run Try.prog w = .ok (.bool false) w := by
  rw [run_neq_struct, same46 9998]
  rfl
theorem eql46 (x0 x1 x2 : Int) (w : World) : (binOp .eql 46 (.agg #[.int .i64 x0, .int .i64 x1, .int .i64 x2]) (.agg #[.int .i64 x0, .int .i64 x1, .int .i64 x2])).run Try.prog w = .ok (.bool true) w := by
  rw [run_eql_struct, same46 9998]
  rfl
theorem guard49 : Try.prog.eqGuardType Try.prog.depth 49 = false := by kernel_rfl
theorem guard46 : Try.prog.eqGuardType Try.prog.depth 46 = false := by kernel_rfl
end Go.Proofs.Ytippclnmijelfaa.Sl
namespace Go.Proofs.Ytippclnmijelfaa.Sl
open Go.RowKit Go.Proofs.YtippclnmijelfaaW.PrintWords Go.Proofs.YtippclnmijelfaaW.PrintLast Go.Proofs.YtippclnmijelfaaW.PrintMore
open Go.Proofs.Ytippclnmijelfaa.En Go.Proofs.Ytippclnmijelfaa.Rf Go.Proofs.Ytippclnmijelfaa.Wi Go.Proofs.Ytippclnmijelfaa.Rc Go.Proofs.Ytippclnmijelfaa.Sa
set_option linter.unusedVariables false
set_option linter.unusedSimpArgs false

set_option maxHeartbeats 4000000 in
set_option maxRecDepth 100000 in
theorem pendf_any (x : Slot) (g : Nat) (f : Int) (w : World) (hg : w.heap[g]? = some (.cells #[.int .i64 f] 3 (0, 0))) : Calls Try.prog 58 #[slV x, .pointer (some ⟨g, 0, none⟩)] w fun e w' => e = .returned (.bool (decide (pend x ∧ f ≤ x.v))) ∧ Below w.heap.size w w' := by
  have hc2 : ∀ o, (w.alloc o).cell? ⟨g, 0, none⟩ = some (.int .i64 f) := fun o => by rw [blk_cell (blk_alloc hg o)]; rfl
  clear hg
  go_enter Try.func58, Try.ntmps58
  go_wp2
  all_goals (go_ret; refine ⟨?_, below_alloc (Below.refl _ _) _⟩; unfold pend; by_cases k1 : x.s = 1 <;> by_cases k2 : x.s = 2 <;> by_cases k3 : f ≤ x.v <;> simp_all)

set_option maxHeartbeats 4000000 in
set_option maxRecDepth 100000 in
theorem conff_any (x : Slot) (g : Nat) (f : Int) (w : World) (hg : w.heap[g]? = some (.cells #[.int .i64 f] 3 (0, 0))) : Calls Try.prog 59 #[slV x, .pointer (some ⟨g, 0, none⟩)] w fun e w' => e = .returned (.bool (decide (conf x ∧ f ≤ x.v))) ∧ Below w.heap.size w w' := by
  have hc2 : ∀ o, (w.alloc o).cell? ⟨g, 0, none⟩ = some (.int .i64 f) := fun o => by rw [blk_cell (blk_alloc hg o)]; rfl
  clear hg
  go_enter Try.func59, Try.ntmps59
  go_wp2
  all_goals (go_ret; refine ⟨?_, below_alloc (Below.refl _ _) _⟩; unfold conf; by_cases k1 : x.s = 3 <;> by_cases k3 : f ≤ x.v <;> simp_all)

set_option maxHeartbeats 4000000 in
set_option maxRecDepth 100000 in
theorem has_any (a b : Slot) (w : World) : Calls Try.prog 61 #[stV a b] w fun e w' => e = .returned (.bool (decide (a.s = 3 ∨ b.s = 3))) ∧ Below w.heap.size w w' := by
  go_enter Try.func61, Try.ntmps61
  go_wp2
  all_goals (go_ret; refine ⟨?_, below_alloc (Below.refl _ _) _⟩; by_cases k1 : a.s = 3 <;> by_cases k2 : b.s = 3 <;> simp_all)
end Go.Proofs.Ytippclnmijelfaa.Sl
namespace Go.Proofs.Ytippclnmijelfaa.Sl
open Go.Proofs.Ytippclnmijelfaa.Op
set_option linter.unusedVariables false
set_option linter.unusedSimpArgs false

theorem ok1_mk {s v t : Int} (h1 : 0 ≤ s ∧ s ≤ 4) (h2 : 0 ≤ v ∧ v ≤ 16) (h3 : 0 ≤ t ∧ t ≤ 3) : ok1 ⟨s, v, t⟩ := ⟨h1.1, h1.2, h2.1, h2.2, h3.1, h3.2⟩
theorem rk_nonneg (x : Slot) (f : Int) : 0 ≤ rk x f := by
  unfold rk
  repeat' split
  all_goals decide
theorem tr_law {m : Slot → Slot → Bool} {n : Slot → Slot} {a b : Slot} {i : Int} (hn : ∀ x y, ok1 x → m x y = true → ok1 (n x)) (hok : ok a b) {p q : Slot} {c : Int} (h : tr m n a b i = (p, q, c)) :
    ok p q ∧ (c ≠ 0 → p = a ∧ q = b) ∧ (i = 0 → q = b) ∧ (i = 1 → p = a) := by
  unfold tr at h
  by_cases hr : right a b i
  · rw [if_pos hr] at h
    by_cases hi : i = 0
    · rw [if_pos hi] at h
      cases hm : m a b
      · rw [hm] at h
        simp at h
        obtain ⟨rfl, rfl, rfl⟩ := h
        exact ⟨hok, fun _ => ⟨rfl, rfl⟩, fun _ => rfl, fun _ => rfl⟩
      · rw [hm] at h
        simp at h
        obtain ⟨rfl, rfl, rfl⟩ := h
        exact ⟨⟨hn _ _ hok.1 hm, hok.2⟩, fun h => absurd rfl h, fun _ => rfl, fun h => absurd h (by omega)⟩
    · rw [if_neg hi] at h
      cases hm : m b a
      · rw [hm] at h
        simp at h
        obtain ⟨rfl, rfl, rfl⟩ := h
        exact ⟨hok, fun _ => ⟨rfl, rfl⟩, fun _ => rfl, fun _ => rfl⟩
      · rw [hm] at h
        simp at h
        obtain ⟨rfl, rfl, rfl⟩ := h
        exact ⟨⟨hok.1, hn _ _ hok.2 hm⟩, fun h => absurd rfl h, fun h => absurd h hi, fun _ => rfl⟩
  · rw [if_neg hr] at h
    simp at h
    obtain ⟨rfl, rfl, rfl⟩ := h
    exact ⟨hok, fun _ => ⟨rfl, rfl⟩, fun _ => rfl, fun _ => rfl⟩
theorem tr_keeps {m : Slot → Slot → Bool} {n : Slot → Slot} {a b : Slot} {i : Int} (h0 : i = 0 → m a b = true → (n a).s = 3 ∨ (a.s = 3 → b.s = 3)) (h1 : i = 1 → m b a = true → (n b).s = 3 ∨ (b.s = 3 → a.s = 3))
    (hh : a.s = 3 ∨ b.s = 3) {p q : Slot} {c : Int} (h : tr m n a b i = (p, q, c)) : p.s = 3 ∨ q.s = 3 := by
  unfold tr at h
  by_cases hr : right a b i
  · rw [if_pos hr] at h
    by_cases hi : i = 0
    · rw [if_pos hi] at h
      cases hm : m a b
      · rw [hm] at h
        simp at h
        obtain ⟨rfl, rfl, rfl⟩ := h
        exact hh
      · rw [hm] at h
        simp at h
        obtain ⟨rfl, rfl, rfl⟩ := h
        rcases h0 hi hm with h | h
        · exact .inl h
        · exact .inr (hh.elim h id)
    · rw [if_neg hi] at h
      have hi1 : i = 1 := hr.2.resolve_left hi
      cases hm : m b a
      · rw [hm] at h
        simp at h
        obtain ⟨rfl, rfl, rfl⟩ := h
        exact hh
      · rw [hm] at h
        simp at h
        obtain ⟨rfl, rfl, rfl⟩ := h
        rcases h1 hi1 hm with h | h
        · exact .inr h
        · exact .inl (hh.elim id h)
  · rw [if_neg hr] at h
    simp at h
    obtain ⟨rfl, rfl, rfl⟩ := h
    exact hh
theorem stage_tr (v : Int) (hv : 1 ≤ v ∧ v ≤ 16) (a b : Slot) (i : Int) : stage v a b i = tr (fun x y => decide (rep x y)) (fun _ => ⟨1, v, 0⟩) a b i := by
  unfold stage
  rw [if_neg (by omega)]
/-- A step of a right state gives a right state, touches its own slot alone, and changes nothing where it is not permitted. -/
theorem step_law {a b : Slot} {m : Mv} (hm : M8 m) (hok : ok a b) {p q : Slot} {c : Int} (h : step a b m = (p, q, c)) :
    ok p q ∧ (c ≠ 0 → p = a ∧ q = b) ∧ (m.i % 2 = 0 → q = b) ∧ (m.i % 2 = 1 → p = a) := by
  obtain ⟨_, _, hv⟩ := hm
  unfold step at h
  split at h
  · exact tr_law (fun x y hx _ => ok1_mk (by decide) (by decide) (by decide)) hok h
  · split at h
    · rw [stage_tr _ (by omega)] at h
      exact tr_law (fun x y hx _ => ok1_mk (by decide) (by omega) (by decide)) hok h
    · split at h
      · refine tr_law (fun x y hx hp => ?_) hok h
        have hp' : pend x := of_decide_eq_true hp
        obtain ⟨_, _, h3, h4, h5, h6⟩ := hx
        have := hp'.2
        exact ok1_mk (by decide) ⟨h3, h4⟩ (by omega)
      · split at h
        · refine tr_law (fun x y hx hp => ?_) hok h
          obtain ⟨_, _, h3, h4, h5, h6⟩ := hx
          exact ok1_mk (by decide) ⟨h3, h4⟩ (by decide)
        · refine tr_law (fun x y hx hp => ?_) hok h
          obtain ⟨_, _, h3, h4, h5, h6⟩ := hx
          exact ok1_mk (by decide) ⟨h3, h4⟩ ⟨h5, h6⟩
/-- A step in which no confirmed slot fails leaves some slot confirmed. -/
theorem step_keeps {a b : Slot} {m : Mv} (hm : M8 m) (hh : a.s = 3 ∨ b.s = 3) (hf : m.k % 5 = 4 → (m.i % 2 = 0 → a.s ≠ 3) ∧ (m.i % 2 = 1 → b.s ≠ 3)) {p q : Slot} {c : Int} (h : step a b m = (p, q, c)) : p.s = 3 ∨ q.s = 3 := by
  obtain ⟨_, _, hv⟩ := hm
  unfold step at h
  split at h
  · exact tr_keeps (fun _ h => .inr (of_decide_eq_true h)) (fun _ h => .inr (of_decide_eq_true h)) hh h
  · split at h
    · rw [stage_tr _ (by omega)] at h
      exact tr_keeps (fun _ h => .inr (of_decide_eq_true h)) (fun _ h => .inr (of_decide_eq_true h)) hh h
    · split at h
      · refine tr_keeps (fun _ h => .inr fun h3 => ?_) (fun _ h => .inr fun h3 => ?_) hh h
        · have hp : pend a := of_decide_eq_true h
          have := hp.1
          omega
        · have hp : pend b := of_decide_eq_true h
          have := hp.1
          omega
      · split at h
        · exact tr_keeps (fun _ h => .inl rfl) (fun _ h => .inl rfl) hh h
        · have hk := hf (by omega)
          exact tr_keeps (fun hi _ => .inr fun h3 => absurd h3 (hk.1 hi)) (fun hi _ => .inr fun h3 => absurd h3 (hk.2 hi)) hh h

/-- An image of version V that has been begun n times. -/
def tS (V : Int) (n : Nat) : Slot := ⟨if n = 0 then 1 else 2, V, if n < 3 then (n : Int) else 3⟩
theorem tS_ok {V : Int} (hV : 1 ≤ V ∧ V ≤ 16) (n : Nat) : ok1 (tS V n) := by
  unfold ok1 tS
  by_cases h0 : n = 0 <;> by_cases h3 : n < 3 <;> simp [h0, h3] <;> omega
theorem tS_pend (V : Int) (n : Nat) : decide (pend (tS V n)) = decide (n < 3) := by
  apply decide_eq_decide.2
  unfold pend tS
  by_cases h0 : n = 0 <;> by_cases h3 : n < 3 <;> simp [h0, h3] <;> omega
theorem tS_succ (V : Int) (n : Nat) : (⟨2, V, (tS V n).t + 1⟩ : Slot) = tS V (n + 1) ∨ ¬ n < 3 := by
  by_cases h3 : n < 3
  · left
    unfold tS
    by_cases h4 : n + 1 < 3
    · simp [h3, h4]
    · have : n = 2 := by omega
      subst this
      simp
  · exact .inr h3
theorem tS_same (V : Int) (n : Nat) (h : ¬ n < 3) : tS V (n + 1) = tS V n := by
  unfold tS
  have h0 : n ≠ 0 := by omega
  have h4 : ¬ n + 1 < 3 := by omega
  simp [h, h0, h4]
/-- The error of the begin number n. -/
def tE (n : Nat) : Int := if n < 3 then 0 else 21
theorem begn_tS0 {V : Int} (hV : 1 ≤ V ∧ V ≤ 16) (n : Nat) {y : Slot} (hy : ok1 y) : begn (tS V n) y 0 = (tS V (n + 1), y, tE n) := by
  have hr : right (tS V n) y 0 := ⟨⟨tS_ok hV n, hy⟩, .inl rfl⟩
  unfold begn tr tE
  rw [if_pos hr, if_pos rfl]
  simp only [tS_pend]
  by_cases h3 : n < 3
  · have := (tS_succ V n).resolve_right (fun h => h h3)
    simp only [h3, decide_true, if_true]
    rw [← this]
    rfl
  · simp only [h3, decide_false, if_false, Bool.false_eq_true]
    rw [tS_same V n h3]
theorem begn_tS1 {V : Int} (hV : 1 ≤ V ∧ V ≤ 16) (n : Nat) {y : Slot} (hy : ok1 y) : begn y (tS V n) 1 = (y, tS V (n + 1), tE n) := by
  have hr : right y (tS V n) 1 := ⟨⟨hy, tS_ok hV n⟩, .inr rfl⟩
  unfold begn tr tE
  rw [if_pos hr, if_neg (by decide)]
  simp only [tS_pend]
  by_cases h3 : n < 3
  · have := (tS_succ V n).resolve_right (fun h => h h3)
    simp only [h3, decide_true, if_true]
    rw [← this]
    rfl
  · simp only [h3, decide_false, if_false, Bool.false_eq_true]
    rw [tS_same V n h3]
theorem stage_tS0 {V : Int} (hV : 1 ≤ V ∧ V ≤ 16) {a b p q : Slot} (hok : ok a b) (h : stage V a b 0 = (p, q, 0)) : p = tS V 0 ∧ q = b := by
  rw [stage_tr V hV] at h
  unfold tr at h
  rw [if_pos (show right a b 0 from ⟨hok, .inl rfl⟩), if_pos rfl] at h
  split at h
  · simp at h
    obtain ⟨rfl, rfl⟩ := h
    exact ⟨rfl, rfl⟩
  · simp at h
theorem stage_tS1 {V : Int} (hV : 1 ≤ V ∧ V ≤ 16) {a b p q : Slot} (hok : ok a b) (h : stage V a b 1 = (p, q, 0)) : p = a ∧ q = tS V 0 := by
  rw [stage_tr V hV] at h
  unfold tr at h
  rw [if_pos (show right a b 1 from ⟨hok, .inr rfl⟩), if_neg (by decide)] at h
  split at h
  · simp at h
    obtain ⟨rfl, rfl⟩ := h
    exact ⟨rfl, rfl⟩
  · simp at h
theorem rk_tS (V f : Int) (n : Nat) (h : 3 ≤ n) : rk (tS V n) f = 0 := by
  have hp : ¬ pend (tS V n) := by
    have := tS_pend V n
    rw [decide_eq_false (by omega : ¬ n < 3)] at this
    exact of_decide_eq_false this
  have h3 : (tS V n).s ≠ 3 := by
    unfold tS
    have : n ≠ 0 := by omega
    simp [this]
  unfold rk
  simp [hp, h3]
theorem cho_tS0 (V f : Int) (n : Nat) (h : 3 ≤ n) (y : Slot) : cho (tS V n) y f ≠ 0 := by
  unfold cho
  rw [rk_tS V f n h]
  have hy := rk_nonneg y f
  by_cases h1 : rk y f = 0
  · simp [h1]
  · have : 0 < rk y f := by omega
    simp [h1, this]
theorem cho_tS1 (V f : Int) (n : Nat) (h : 3 ≤ n) (y : Slot) : cho y (tS V n) f ≠ 1 := by
  unfold cho
  rw [rk_tS V f n h]
  have hy := rk_nonneg y f
  by_cases h1 : rk y f = 0
  · simp [h1]
  · have h2 : ¬ rk y f < 0 := by omega
    simp [h1, h2]

theorem rk_conf {x : Slot} (h : x.s = 3) (f : Int) : rk x f = if x.v < f then 0 else 1 := by
  unfold rk
  have hp : ¬ pend x := fun hp => by have := hp.1; omega
  simp [hp, h]
theorem rk_bad {x : Slot} (h : x.s = 4) (f : Int) : rk x f = 0 := by
  unfold rk
  have hp : ¬ pend x := fun hp => by have := hp.1; omega
  simp [hp, h]
theorem fall0 {a b y : Slot} {f : Int} (h : cho a b f = 0) (ha : a.s = 3) (hy : y.s = 4) : cho a y f = 0 := by
  unfold cho at *
  rw [rk_bad hy, rk_conf ha]
  rw [rk_conf ha] at h
  have hb := rk_nonneg b f
  by_cases hv : a.v < f
  · rw [if_pos hv] at h
    by_cases h1 : rk b f = 0
    · simp [h1] at h
    · have : 0 < rk b f := by omega
      simp [h1, this] at h
  · rw [if_neg hv]
    simp
theorem fall1 {a b y : Slot} {f : Int} (h : cho a b f = 1) (hb : b.s = 3) (hy : y.s = 4) : cho y b f = 1 := by
  unfold cho at *
  rw [rk_bad hy, rk_conf hb]
  rw [rk_conf hb] at h
  have ha := rk_nonneg a f
  by_cases hv : b.v < f
  · rw [if_pos hv] at h
    by_cases h1 : rk a f = 0
    · simp [h1] at h
    · have h2 : ¬ rk a f < 0 := by omega
      simp [h1, h2] at h
  · rw [if_neg hv]
    simp
theorem stage_free0 {V : Int} (hV : 1 ≤ V ∧ V ≤ 16) {a b : Slot} (hok : ok a b) (hb : b.s = 3) : stage V a b 0 = (tS V 0, b, 0) := by
  rw [stage_tr V hV]
  unfold tr
  have hr : rep a b := fun _ => hb
  rw [if_pos (show right a b 0 from ⟨hok, .inl rfl⟩), if_pos rfl]
  simp only [hr, decide_true, if_true]
  rfl
theorem stage_free1 {V : Int} (hV : 1 ≤ V ∧ V ≤ 16) {a b : Slot} (hok : ok a b) (ha : a.s = 3) : stage V a b 1 = (a, tS V 0, 0) := by
  rw [stage_tr V hV]
  unfold tr
  have hr : rep b a := fun _ => ha
  rw [if_pos (show right a b 1 from ⟨hok, .inr rfl⟩), if_neg (by decide)]
  simp only [hr, decide_true, if_true]
  rfl
theorem tS_s (V : Int) (n : Nat) : (tS V n).s ≠ 0 ∧ (tS V n).s ≠ 4 := by
  unfold tS
  by_cases h0 : n = 0 <;> simp [h0]
theorem fal_tS0 {V : Int} (hV : 1 ≤ V ∧ V ≤ 16) (n : Nat) {y : Slot} (hy : ok1 y) : fal (tS V n) y 0 = (⟨4, V, (tS V n).t⟩, y, 0) := by
  have hr : right (tS V n) y 0 := ⟨⟨tS_ok hV n, hy⟩, .inl rfl⟩
  unfold fal tr
  rw [if_pos hr, if_pos rfl]
  have := tS_s V n
  simp only [this, decide_true, if_true, ne_eq, not_false_eq_true, and_self]
  rfl
theorem fal_tS1 {V : Int} (hV : 1 ≤ V ∧ V ≤ 16) (n : Nat) {y : Slot} (hy : ok1 y) : fal y (tS V n) 1 = (y, ⟨4, V, (tS V n).t⟩, 0) := by
  have hr : right y (tS V n) 1 := ⟨⟨hy, tS_ok hV n⟩, .inr rfl⟩
  unfold fal tr
  rw [if_pos hr, if_neg (by decide)]
  have := tS_s V n
  simp only [this, decide_true, if_true, ne_eq, not_false_eq_true, and_self]
  rfl
end Go.Proofs.Ytippclnmijelfaa.Sl
namespace Go.Proofs.Ytippclnmijelfaa.Sl
open Go.RowKit Go.Proofs.YtippclnmijelfaaW.PrintWords Go.Proofs.YtippclnmijelfaaW.PrintLast Go.Proofs.YtippclnmijelfaaW.PrintMore
open Go.Proofs.Ytippclnmijelfaa.En Go.Proofs.Ytippclnmijelfaa.Rf Go.Proofs.Ytippclnmijelfaa.Wi Go.Proofs.Ytippclnmijelfaa.Rc Go.Proofs.Ytippclnmijelfaa.Sa Go.Proofs.Ytippclnmijelfaa.Op
set_option linter.unusedVariables false
set_option linter.unusedSimpArgs false

theorem Valid_is (a b : Slot) (r : Bool) (h : decide (ok a b) = r) (w : World) : Calls Try.prog 52 #[stV a b] w fun e w' => e = .returned (.bool r) ∧ Below w.heap.size w w' := h ▸ Valid_any a b w
theorem rValid_is (a b : Slot) (r : Bool) (h : decide (ok a b) = r) (w : World) : Calls Try.prog 39 #[stV a b] w fun e w' => e = .returned (.bool r) ∧ Below w.heap.size w w' := h ▸ rValid_any a b w
theorem Choose_is (a b : Slot) (f k : Int) (h : cho a b f = k) (w : World) : Calls Try.prog 42 #[stV a b, .int .i64 f] w fun e w' => e = .returned (.int .i64 k) ∧ Below w.heap.size w w' := h ▸ Choose_any a b f w
theorem rChoose_is (a b : Slot) (f k : Int) (h : cho a b f = k) (w : World) : Calls Try.prog 53 #[stV a b, .int .i64 f] w fun e w' => e = .returned (.int .i64 k) ∧ Below w.heap.size w w' := h ▸ rChoose_any a b f w
theorem Encode_is (a b : Slot) (s : ByteArray) (h : txt a b = s) (hI : AllI (nums6 a b)) (w : World) : Calls Try.prog 56 #[stV a b] w fun e w' => e = .returned (.string s) ∧ Below w.heap.size w w' := h ▸ Encode_any a b w hI
theorem rEncode_is (a b : Slot) (s : ByteArray) (h : txt a b = s) (hI : AllI (nums6 a b)) (w : World) : Calls Try.prog 57 #[stV a b] w fun e w' => e = .returned (.string s) ∧ Below w.heap.size w w' := h ▸ rEncode_any a b w hI
theorem Clear_is (a b : Slot) (i : Int) (p q : Slot) (c : Int) (h : clear a b i = (p, q, c)) (w : World) : Calls Try.prog 45 #[stV a b, .int .i64 i] w fun e w' => e = .returned (.tuple #[stV p q, .int .i64 c]) ∧ Below w.heap.size w w' := by
  have := Clear_any a b i w
  rw [h] at this
  exact this
theorem rClear_is (a b : Slot) (i : Int) (p q : Slot) (c : Int) (h : clear a b i = (p, q, c)) (w : World) : Calls Try.prog 46 #[stV a b, .int .i64 i] w fun e w' => e = .returned (.tuple #[stV p q, .int .i64 c]) ∧ Below w.heap.size w w' := by
  have := rClear_any a b i w
  rw [h] at this
  exact this
theorem Begin_is (a b : Slot) (i : Int) (p q : Slot) (c : Int) (h : begn a b i = (p, q, c)) (w : World) : Calls Try.prog 41 #[stV a b, .int .i64 i] w fun e w' => e = .returned (.tuple #[stV p q, .int .i64 c]) ∧ Below w.heap.size w w' := by
  have := Begin_any a b i w
  rw [h] at this
  exact this
theorem rBegin_is (a b : Slot) (i : Int) (p q : Slot) (c : Int) (h : begn a b i = (p, q, c)) (w : World) : Calls Try.prog 48 #[stV a b, .int .i64 i] w fun e w' => e = .returned (.tuple #[stV p q, .int .i64 c]) ∧ Below w.heap.size w w' := by
  have := rBegin_any a b i w
  rw [h] at this
  exact this
theorem Confirm_is (a b : Slot) (i : Int) (p q : Slot) (c : Int) (h : confm a b i = (p, q, c)) (w : World) : Calls Try.prog 49 #[stV a b, .int .i64 i] w fun e w' => e = .returned (.tuple #[stV p q, .int .i64 c]) ∧ Below w.heap.size w w' := by
  have := Confirm_any a b i w
  rw [h] at this
  exact this
theorem rConfirm_is (a b : Slot) (i : Int) (p q : Slot) (c : Int) (h : confm a b i = (p, q, c)) (w : World) : Calls Try.prog 50 #[stV a b, .int .i64 i] w fun e w' => e = .returned (.tuple #[stV p q, .int .i64 c]) ∧ Below w.heap.size w w' := by
  have := rConfirm_any a b i w
  rw [h] at this
  exact this
theorem Fail_is (a b : Slot) (i : Int) (p q : Slot) (c : Int) (h : fal a b i = (p, q, c)) (w : World) : Calls Try.prog 43 #[stV a b, .int .i64 i] w fun e w' => e = .returned (.tuple #[stV p q, .int .i64 c]) ∧ Below w.heap.size w w' := by
  have := Fail_any a b i w
  rw [h] at this
  exact this
theorem rFail_is (a b : Slot) (i : Int) (p q : Slot) (c : Int) (h : fal a b i = (p, q, c)) (w : World) : Calls Try.prog 51 #[stV a b, .int .i64 i] w fun e w' => e = .returned (.tuple #[stV p q, .int .i64 c]) ∧ Below w.heap.size w w' := by
  have := rFail_any a b i w
  rw [h] at this
  exact this
theorem Stage_is (a b : Slot) (i v : Int) (p q : Slot) (c : Int) (h : stage v a b i = (p, q, c)) (w : World) : Calls Try.prog 38 #[stV a b, .int .i64 i, .int .i64 v] w fun e w' => e = .returned (.tuple #[stV p q, .int .i64 c]) ∧ Below w.heap.size w w' := by
  have := Stage_any a b i v w
  rw [h] at this
  exact this
theorem rStage_is (a b : Slot) (i v : Int) (p q : Slot) (c : Int) (h : stage v a b i = (p, q, c)) (w : World) : Calls Try.prog 47 #[stV a b, .int .i64 i, .int .i64 v] w fun e w' => e = .returned (.tuple #[stV p q, .int .i64 c]) ∧ Below w.heap.size w w' := by
  have := rStage_any a b i v w
  rw [h] at this
  exact this
theorem step_is (a b : Slot) (m : Mv) (hm : M8 m) (p q : Slot) (c : Int) (h : step a b m = (p, q, c)) (w : World) : Calls Try.prog 60 #[stV a b, mvV m] w fun e w' => e = .returned (.tuple #[stV p q, .int .i64 c]) ∧ Below w.heap.size w w' := by
  have := step_any a b m w hm
  rw [h] at this
  exact this
theorem Decode_is (s : ByteArray) (hs : s.size ≤ 100000) (p q : Slot) (c : Int) (h : dcd s = (p, q, c)) (w : World) : Calls Try.prog 54 #[.string s] w fun e w' => e = .returned (.tuple #[stV p q, .int .i64 c]) ∧ Below w.heap.size w w' := by
  have := Decode_any s w hs
  rw [h] at this
  exact this
theorem rDecode_is (s : ByteArray) (hs : s.size ≤ 100000) (p q : Slot) (c : Int) (h : dcd s = (p, q, c)) (w : World) : Calls Try.prog 55 #[.string s] w fun e w' => e = .returned (.tuple #[stV p q, .int .i64 c]) ∧ Below w.heap.size w w' := by
  have := rDecode_any s w hs
  rw [h] at this
  exact this

/-- The cells of a block that holds a state. -/
structure Six (w : World) (g : Nat) (x0 x1 x2 x3 x4 x5 : Int) : Prop where
  c0 : w.cell? ⟨g, 0, none⟩ = some (.int .i64 x0)
  c1 : w.cell? ⟨g, 1, none⟩ = some (.int .i64 x1)
  c2 : w.cell? ⟨g, 2, none⟩ = some (.int .i64 x2)
  c3 : w.cell? ⟨g, 3, none⟩ = some (.int .i64 x3)
  c4 : w.cell? ⟨g, 4, none⟩ = some (.int .i64 x4)
  c5 : w.cell? ⟨g, 5, none⟩ = some (.int .i64 x5)
/-- A block that holds a state. -/
def At6 (w : World) (g : Nat) (x0 x1 x2 x3 x4 x5 : Int) : Prop := w.heap[g]? = some (.cells #[.int .i64 x0, .int .i64 x1, .int .i64 x2, .int .i64 x3, .int .i64 x4, .int .i64 x5] 49 (0, 0))
section
variable {w w1 : World} {g : Nat} {x0 x1 x2 x3 x4 x5 : Int}
theorem At6.six (h : At6 w g x0 x1 x2 x3 x4 x5) : Six w g x0 x1 x2 x3 x4 x5 :=
  ⟨by rw [blk_cell h]; rfl, by rw [blk_cell h]; rfl, by rw [blk_cell h]; rfl, by rw [blk_cell h]; rfl, by rw [blk_cell h]; rfl, by rw [blk_cell h]; rfl⟩
theorem At6.new (w : World) (x0 x1 x2 x3 x4 x5 : Int) : At6 (w.alloc (.cells #[.int .i64 x0, .int .i64 x1, .int .i64 x2, .int .i64 x3, .int .i64 x4, .int .i64 x5] 49 (0, 0))) w.heap.size x0 x1 x2 x3 x4 x5 := blk_new w _
theorem At6.alloc (h : At6 w g x0 x1 x2 x3 x4 x5) (o : Obj) : At6 (w.alloc o) g x0 x1 x2 x3 x4 x5 := blk_alloc h o
theorem At6.below (h : At6 w g x0 x1 x2 x3 x4 x5) (hb : Below w.heap.size w w1) : At6 w1 g x0 x1 x2 x3 x4 x5 := blk_below h hb
theorem At6.drew (h : At6 w g x0 x1 x2 x3 x4 x5) : At6 w.drew g x0 x1 x2 x3 x4 x5 := h
theorem At6.lt (h : At6 w g x0 x1 x2 x3 x4 x5) : g < w.heap.size := blk_lt h
theorem At6.far (h : At6 w g x0 x1 x2 x3 x4 x5) {p : Addr} (hp : g ≠ p.block) (u : Value) : At6 (w.setCell p u) g x0 x1 x2 x3 x4 x5 := blk_far h hp u
/-- A state is stored into a block that holds one. -/
@[reducible] def St6 (w : World) (g : Nat) (y0 y1 y2 y3 y4 y5 : Int) : World := (((((w.setCell ⟨g, 0, none⟩ (.int .i64 y0)).setCell ⟨g, 1, none⟩ (.int .i64 y1)).setCell ⟨g, 2, none⟩ (.int .i64 y2)).setCell ⟨g, 3, none⟩ (.int .i64 y3)).setCell ⟨g, 4, none⟩ (.int .i64 y4)).setCell ⟨g, 5, none⟩ (.int .i64 y5)
theorem At6.store (h : At6 w g x0 x1 x2 x3 x4 x5) (y0 y1 y2 y3 y4 y5 : Int) : At6 (St6 w g y0 y1 y2 y3 y4 y5) g y0 y1 y2 y3 y4 y5 :=
  blk_set (blk_set (blk_set (blk_set (blk_set (blk_set h 0 _) 1 _) 2 _) 3 _) 4 _) 5 _
theorem At6.store_far (h : At6 w g x0 x1 x2 x3 x4 x5) {g' : Nat} (hg : g ≠ g') (y0 y1 y2 y3 y4 y5 : Int) : At6 (St6 w g' y0 y1 y2 y3 y4 y5) g x0 x1 x2 x3 x4 x5 :=
  (((((h.far (p := ⟨g', 0, none⟩) hg _).far (p := ⟨g', 1, none⟩) hg _).far (p := ⟨g', 2, none⟩) hg _).far (p := ⟨g', 3, none⟩) hg _).far (p := ⟨g', 4, none⟩) hg _).far (p := ⟨g', 5, none⟩) hg _
theorem below_store {W : World} (h : Below w.heap.size w W) (hg : w.heap.size ≤ g) (y0 y1 y2 y3 y4 y5 : Int) : Below w.heap.size w (St6 W g y0 y1 y2 y3 y4 y5) :=
  below_set (below_set (below_set (below_set (below_set (below_set h hg) hg) hg) hg) hg) hg
theorem At6.frozen (h : At6 w g x0 x1 x2 x3 x4 x5) (j : Nat) : w.frozen? ⟨g, j, none⟩ = false := blk_frozen h j
end
end Go.Proofs.Ytippclnmijelfaa.Sl
