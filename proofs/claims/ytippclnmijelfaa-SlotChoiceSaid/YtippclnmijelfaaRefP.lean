/- The printed Lean functions of the reference come to the specification's encodings and decodings: numbers and lists alone. -/
import Derived.Test.YtippclnmijelfaaRefB
import Derived.Test.YtippclnmijelfaaWireA
namespace Go.Proofs.Ytippclnmijelfaa.Rf
open Go.RowKit Go.Proofs.YtippclnmijelfaaW.PrintWords Go.Proofs.YtippclnmijelfaaW.PrintLast Go.Proofs.YtippclnmijelfaaW.PrintMore
open Go.Proofs.Ytippclnmijelfaa.En
set_option linter.unusedVariables false
set_option linter.unusedSimpArgs false

theorem wrap_in {n : Int} (h0 : -9223372036854775808 ≤ n) (h1 : n ≤ 9223372036854775807) : wrap64 n = n := by unfold wrap64; omega
theorem rd_nat (l : List Int) (k : Nat) (h : k < l.length) : rd l (k : Int) = l[k] := by
  unfold rd
  rw [List.getD_eq_getElem?_getD, List.getElem?_eq_getElem (show (k : Int).toNat < l.length by omega)]
  simp

/-! ### Same, SameInts -/
theorem cons_dec (x y : Int) (p q : List Int) : decide (x :: p = y :: q) = (decide (x = y) && decide (p = q)) := by simp
theorem same_l0 (a b : List Int) (hab : a.length = b.length) (hl : a.length ≤ 9223372036854775806) (d : Nat) : ∀ (k i : Nat), i ≤ a.length → a.length - i = d → d < k → bootchainref01_Same.l0 k a b (i : Int) = some (decide (a.drop i = b.drop i)) := by
  induction d with
  | zero =>
    intro k i hi hd hk
    obtain ⟨k, rfl⟩ : ∃ m, k = m + 1 := ⟨k - 1, by omega⟩
    simp only [bootchainref01_Same.l0]
    rw [if_neg (by omega), List.drop_of_length_le (by omega), List.drop_of_length_le (by omega)]
    simp
  | succ d ih =>
    intro k i hi hd hk
    obtain ⟨k, rfl⟩ : ∃ m, k = m + 1 := ⟨k - 1, by omega⟩
    simp only [bootchainref01_Same.l0]
    have h1 : i < a.length := by omega
    have h2 : i < b.length := by omega
    rw [if_pos (by omega), if_pos (by omega), if_pos (by omega), rd_nat a i h1, rd_nat b i h2, List.drop_eq_getElem_cons h1, List.drop_eq_getElem_cons h2, wrap_in (by omega) (by omega), cons_dec]
    by_cases he : a[i] = b[i]
    · rw [if_pos he]
      have := ih k (i + 1) (by omega) (by omega) (by omega)
      rw [show ((i + 1 : Nat) : Int) = (i : Int) + 1 from by omega] at this
      rw [this, decide_eq_true he, Bool.true_and]
    · rw [if_neg he, decide_eq_false he, Bool.false_and]
theorem same_f (a b : List Int) (hl : a.length ≤ 9223372036854775806) : ∃ k, bootchainref01_Same.f k a b = some (decide (a = b)) := by
  unfold bootchainref01_Same.f
  by_cases h : a.length = b.length
  · refine ⟨a.length + 1, ?_⟩
    rw [if_pos (by omega)]
    have := same_l0 a b h hl a.length (a.length + 1) 0 (by omega) (by omega) (by omega)
    simpa using this
  · refine ⟨0, ?_⟩
    rw [if_neg (by omega)]
    have : a ≠ b := fun e => h (by rw [e])
    simp [this]
theorem samei_l0 (a b : List Int) (hab : a.length = b.length) (hl : a.length ≤ 9223372036854775806) (d : Nat) : ∀ (k i : Nat), i ≤ a.length → a.length - i = d → d < k → bootchainref01_SameInts.l0 k a b (i : Int) = some (decide (a.drop i = b.drop i)) := by
  induction d with
  | zero =>
    intro k i hi hd hk
    obtain ⟨k, rfl⟩ : ∃ m, k = m + 1 := ⟨k - 1, by omega⟩
    simp only [bootchainref01_SameInts.l0]
    rw [if_neg (by omega), List.drop_of_length_le (by omega), List.drop_of_length_le (by omega)]
    simp
  | succ d ih =>
    intro k i hi hd hk
    obtain ⟨k, rfl⟩ : ∃ m, k = m + 1 := ⟨k - 1, by omega⟩
    simp only [bootchainref01_SameInts.l0]
    have h1 : i < a.length := by omega
    have h2 : i < b.length := by omega
    rw [if_pos (by omega), if_pos (by omega), if_pos (by omega), rd_nat a i h1, rd_nat b i h2, List.drop_eq_getElem_cons h1, List.drop_eq_getElem_cons h2, wrap_in (by omega) (by omega), cons_dec]
    by_cases he : a[i] = b[i]
    · rw [if_pos he]
      have := ih k (i + 1) (by omega) (by omega) (by omega)
      rw [show ((i + 1 : Nat) : Int) = (i : Int) + 1 from by omega] at this
      rw [this, decide_eq_true he, Bool.true_and]
    · rw [if_neg he, decide_eq_false he, Bool.false_and]
theorem samei_f (a b : List Int) (hl : a.length ≤ 9223372036854775806) : ∃ k, bootchainref01_SameInts.f k a b = some (decide (a = b)) := by
  unfold bootchainref01_SameInts.f
  by_cases h : a.length = b.length
  · refine ⟨a.length + 1, ?_⟩
    rw [if_pos (by omega)]
    have := samei_l0 a b h hl a.length (a.length + 1) 0 (by omega) (by omega) (by omega)
    simpa using this
  · refine ⟨0, ?_⟩
    rw [if_neg (by omega)]
    have : a ≠ b := fun e => h (by rw [e])
    simp [this]

/-! ### Int, Ints -/
theorem u64_mod' (n : Int) : IntKind.u64.wrap n = n % 18446744073709551616 := by
  simp [IntKind.wrap, IntKind.bits, IntKind.signed]
theorem zigzag_f {n : Int} (h : I64 n) : bootchainref01_zigzag.f n = some ((zig n : Nat) : Int) := by
  obtain ⟨h1, h2⟩ := h
  unfold bootchainref01_zigzag.f zig
  by_cases h0 : 0 ≤ n
  · rw [if_pos (by omega), if_pos h0, u64_mod', u64_mod']
    congr 1
    omega
  · rw [if_neg (by omega), if_neg h0, wrap_in (n := n + 1) (by omega) (by omega), wrap_in (by omega) (by omega), u64_mod', u64_mod', u64_mod']
    congr 1
    omega
theorem int_l0 : ∀ (u : Nat) (out : List Int) (k : Nat), u < 18446744073709551616 → out.length + (encU u).length < 140737488355328 → (encU u).length ≤ k → bootchainref01_Int.l0 k (u : Int) out = some (out ++ encU u) := by
  intro u
  induction u using Nat.strongRecOn with
  | _ u ih =>
    intro out k hu hl hk
    have hp := encU_pos u
    obtain ⟨k, rfl⟩ : ∃ m, k = m + 1 := ⟨k - 1, by omega⟩
    simp only [bootchainref01_Int.l0]
    rcases Nat.lt_or_ge u 128 with h | h
    · rw [encU_small h] at hl ⊢
      rw [if_neg (by omega), if_pos (by simp at hl; omega)]
      congr 3
      omega
    · rw [encU_big h] at hl hk ⊢
      rw [List.length_cons] at hl hk
      rw [if_pos (by omega), if_pos (by omega)]
      have e1 : IntKind.u64.wrap (Int.tdiv (u : Int) 128) = ((u / 128 : Nat) : Int) := by
        rw [u64_mod', Int.tdiv_eq_ediv_of_nonneg (by omega)]
        omega
      have e2 : (IntKind.u64.wrap (128 + (Int.tmod (u : Int) 128))) % 256 = ((128 + u % 128 : Nat) : Int) := by
        rw [u64_mod', Int.tmod_eq_emod_of_nonneg (by omega)]
        omega
      rw [e1, e2, ih (u / 128) (by omega) _ k (by omega) (by rw [List.length_append, List.length_singleton]; omega) (by omega), List.append_assoc]
      rfl
theorem int_ev {n : Int} (h : I64 n) : Ev (fun k => bootchainref01_Int.f k n) (encI n) := by
  refine ⟨10, fun k hk => ?_⟩
  unfold bootchainref01_Int.f
  rw [zigzag_f h]
  simp only [Option.bind_some]
  have hl := encU_len10 (zig_lt h)
  have := int_l0 (zig n) [] k (zig_lt h) (by simp; omega) (by omega)
  rw [this]
  rfl
theorem int_f {n : Int} (h : I64 n) : ∃ k, bootchainref01_Int.f k n = some (encI n) := (int_ev h).rounds

theorem ints_l0 (l : List Int) (hI : AllI l) (hl : l.length ≤ 100000) (d : Nat) : ∀ (i : Nat) (out : List Int), i ≤ l.length → l.length - i = d → out.length ≤ 10 + 10 * i → Ev (fun k => bootchainref01_Ints.l0 k l out (i : Int)) (out ++ encLs (l.drop i)) := by
  induction d with
  | zero =>
    intro i out hi hd ho
    refine Ev.step (f := fun _ => some (out ++ encLs (l.drop i))) (fun k => ?_) (Ev.now _)
    simp only [bootchainref01_Ints.l0]
    rw [if_neg (by omega), List.drop_of_length_le (by omega)]
    simp [encLs]
  | succ d ih =>
    intro i out hi hd ho
    have h1 : i < l.length := by omega
    have hx := hI _ (List.getElem_mem h1)
    have hxl := encI_len hx
    refine Ev.step (f := fun k => (bootchainref01_Int.f k (rd l (i : Int))).bind fun t158 => (if out.length + t158.length < 140737488355328 then (bootchainref01_Ints.l0 k l (out ++ t158) (wrap64 ((i : Int) + 1))) else (none))) (fun k => ?_) ?_
    · simp only [bootchainref01_Ints.l0]
      rw [if_pos (by omega), if_pos (by omega)]
    · rw [rd_nat l i h1]
      refine Ev.bind (int_ev hx) ?_
      have e : out ++ encLs (l.drop i) = (out ++ encI l[i]) ++ encLs (l.drop (i + 1)) := by
        rw [List.drop_eq_getElem_cons h1]
        unfold encLs
        rw [List.flatMap_cons, List.append_assoc]
      rw [e]
      refine Ev.congr (fun k => ?_) (ih (i + 1) (out ++ encI l[i]) (by omega) (by omega) (by rw [List.length_append]; omega))
      rw [if_pos (by omega), wrap_in (by omega) (by omega)]
      rfl
theorem ints_f (l : List Int) (hI : AllI l) (hl : l.length ≤ 100000) : ∃ k, bootchainref01_Ints.f k l = some (encL l) := by
  have hn := I64_nat hl
  refine Ev.rounds ?_
  unfold bootchainref01_Ints.f
  refine Ev.bind (int_ev hn) ?_
  have := ints_l0 l hI hl l.length 0 (encI l.length) (by omega) (by omega) (by have := encI_len hn; omega)
  simpa [encL] using this

/-! ### length -/
def lenG : Nat → List Int → Nat
  | _, [] => 0
  | k, c :: r => if 10 ≤ k then 0 else if c < 128 then k + 1 else lenG (k + 1) r
theorem lenG_zero : ∀ (l : List Int) (k acc : Nat), k ≤ 10 → lenG k l = 0 → decG k acc l = (0, 0, if k + l.length < 10 then 6 else 7) := by
  intro l
  induction l with
  | nil =>
    intro k acc hk _
    simp only [decG, List.length_nil, Nat.add_zero]
    split <;> simp_all
  | cons c r ih =>
    intro k acc hk h
    simp only [lenG] at h
    simp only [decG]
    by_cases h10 : 10 ≤ k
    · rw [if_pos h10, if_neg (by omega)]
    · rw [if_neg h10] at h ⊢
      by_cases hc : c < 128
      · rw [if_pos hc] at h
        omega
      · rw [if_neg hc] at h
        rw [if_pos (by omega), ih (k + 1) _ (by omega) h, List.length_cons]
        congr 3
        rw [show k + 1 + r.length = k + (r.length + 1) from by omega]
theorem lenG_ok : ∀ (l : List Int) (k acc : Nat) (x p : Int), decG k acc l = (x, p, 0) → lenG k l = p.toNat := by
  intro l
  induction l with
  | nil =>
    intro k acc x p h
    simp only [decG] at h
    split at h <;> simp at h
  | cons c r ih =>
    intro k acc x p h
    simp only [decG] at h
    simp only [lenG]
    split at h
    · simp at h
    · rename_i hk
      rw [if_neg hk]
      split at h
      · rename_i hc
        rw [if_neg (by omega)]
        exact ih _ _ _ _ h
      · rename_i hc
        rw [if_pos (by omega)]
        split at h
        · simp at h
        · simp only [Prod.mk.injEq] at h
          omega
theorem lenG_bad : ∀ (l : List Int) (k acc : Nat) (x p e : Int), lenG k l ≠ 0 → decG k acc l = (x, p, e) → e = 0 ∨ x = 0 ∧ p = 0 ∧ e = 7 := by
  intro l
  induction l with
  | nil => intro k acc x p e h; simp [lenG] at h
  | cons c r ih =>
    intro k acc x p e hl h
    simp only [lenG] at hl
    simp only [decG] at h
    split at h
    · simp only [Prod.mk.injEq] at h; omega
    · rename_i hk
      rw [if_neg hk] at hl
      split at h
      · rename_i hc
        rw [if_neg (by omega)] at hl
        exact ih _ _ _ _ _ hl h
      · split at h <;> simp only [Prod.mk.injEq] at h <;> omega
theorem lenG_le : ∀ (l : List Int) (k : Nat), lenG k l ≤ k + l.length ∧ (k ≤ 10 → lenG k l ≤ 10) := by
  intro l
  induction l with
  | nil => intro k; simp [lenG]
  | cons c r ih =>
    intro k
    simp only [lenG]
    split
    · omega
    · split
      · simp; omega
      · have := ih (k + 1)
        simp
        omega
theorem length_l0 (b : List Int) (hl : b.length ≤ 1000000) (d : Nat) : ∀ (i : Nat), i ≤ b.length → i ≤ 10 → b.length - i = d → Ev (fun k => bootchainref01_length.l0 k b (i : Int)) ((lenG i (b.drop i) : Nat) : Int) := by
  induction d with
  | zero =>
    intro i hi h10 hd
    rw [List.drop_of_length_le (by omega)]
    refine ⟨2, fun k hk => ?_⟩
    obtain ⟨k, rfl⟩ : ∃ m, k = m + 1 + 1 := ⟨k - 2, by omega⟩
    simp only [bootchainref01_length.l0]
    rw [if_neg (by omega)]
    simp [bootchainref01_length.j1, lenG]
  | succ d ih =>
    intro i hi h10 hd
    have h1 : i < b.length := by omega
    rw [List.drop_eq_getElem_cons h1]
    simp only [lenG]
    by_cases hk : 10 ≤ i
    · rw [if_pos hk]
      refine ⟨2, fun k hk2 => ?_⟩
      obtain ⟨k, rfl⟩ : ∃ m, k = m + 1 + 1 := ⟨k - 2, by omega⟩
      simp only [bootchainref01_length.l0]
      rw [if_pos (by omega), decide_eq_false (by omega)]
      simp [bootchainref01_length.j1]
    · rw [if_neg hk]
      by_cases hc : b[i] < 128
      · rw [if_pos hc]
        refine ⟨2, fun k hk2 => ?_⟩
        obtain ⟨k, rfl⟩ : ∃ m, k = m + 1 + 1 := ⟨k - 2, by omega⟩
        simp only [bootchainref01_length.l0]
        rw [if_pos (by omega), decide_eq_true (by omega)]
        simp only [bootchainref01_length.j1]
        rw [if_pos trivial, if_pos (by omega), if_pos (by omega), rd_nat b i h1, if_pos hc, wrap_in (by omega) (by omega)]
        rfl
      · rw [if_neg hc]
        obtain ⟨K, hK⟩ := ih (i + 1) (by omega) (by omega) (by omega)
        refine ⟨K + 2, fun k hk2 => ?_⟩
        obtain ⟨k, rfl⟩ : ∃ m, k = m + 1 + 1 := ⟨k - 2, by omega⟩
        simp only [bootchainref01_length.l0]
        rw [if_pos (by omega), decide_eq_true (by omega)]
        simp only [bootchainref01_length.j1]
        rw [if_pos trivial, if_pos (by omega), if_pos (by omega), rd_nat b i h1, if_neg hc, wrap_in (by omega) (by omega)]
        exact hK k (by omega)
theorem length_ev (b : List Int) (hl : b.length ≤ 1000000) : Ev (fun k => bootchainref01_length.f k b) ((lenG 0 b : Nat) : Int) := by
  have := length_l0 b hl b.length 0 (by omega) (by omega) (by omega)
  simpa [bootchainref01_length.f] using this

/-! ### GetInt -/
/-- The candidate: the groups of the bytes, added up in 64 bits. -/
def valF : List Int → Nat
  | [] => 0
  | c :: r => (128 * valF r + c.toNat % 128) % 18446744073709551616
theorem valF_lt (l : List Int) : valF l < 18446744073709551616 := by
  cases l with
  | nil => simp [valF]
  | cons c r => simp only [valF]; omega
theorem valF_enc : ∀ u : Nat, u < 18446744073709551616 → valF (encU u) = u := by
  intro u
  induction u using Nat.strongRecOn with
  | _ u ih =>
    intro hu
    rcases Nat.lt_or_ge u 128 with h | h
    · rw [encU_small h]
      simp only [valF]
      omega
    · rw [encU_big h]
      simp only [valF]
      rw [ih (u / 128) (by omega) (by omega)]
      omega
/-- What the reference makes of the candidate. -/
theorem getint_j2 (b : List Int) (n : Nat) (m : Int) (hm : I64 m) (hn : n ≤ b.length) (hn10 : n ≤ 10) (hn0 : n ≠ 0) :
    Ev (fun k => bootchainref01_GetInt.j2 k b (n : Int) m) (if encI m = b.take n then (m, (n : Int), 0) else (0, 0, 7)) := by
  refine Ev.step (f := fun k => (bootchainref01_Int.f k m).bind fun t154 => (if 0 ≤ (n : Int) then (if (n : Int) ≤ (b.length : Int) then ((bootchainref01_Same.f k t154 (b.take (n : Int).toNat)).bind fun t158 => (if t158 = true then (some (m, (n : Int), 0)) else (some (0, 0, 7)))) else (none)) else (none))) (fun k => ?_) ?_
  · simp only [bootchainref01_GetInt.j2]
    rw [if_neg (by omega)]
  · refine Ev.bind (int_ev hm) ?_
    refine Ev.congr (f := fun k => (bootchainref01_Same.f k (encI m) (b.take n)).bind fun t158 => (if t158 = true then (some (m, (n : Int), 0)) else (some (0, 0, 7)))) (fun k => ?_) ?_
    · rw [if_pos (by omega), if_pos (by omega), Int.toNat_natCast]
    · have hl := encI_len hm
      obtain ⟨k0, hk0⟩ := same_f (encI m) (b.take n) (by omega)
      refine Ev.bind (Ev.of (fun k => bootchainref01_Same.mono _ _ k) hk0) ?_
      by_cases he : encI m = b.take n
      · rw [if_pos he, decide_eq_true he]
        exact Ev.now _
      · rw [if_neg he, decide_eq_false he]
        exact Ev.now _
theorem getint_l0 (b : List Int) (n : Nat) (hb : IsB b) (hn : n ≤ b.length) (hn10 : n ≤ 10) (hn0 : n ≠ 0) : ∀ i : Nat, i ≤ n →
    Ev (fun k => bootchainref01_GetInt.l0 k b (n : Int) ((valF ((b.take n).drop i) : Nat) : Int) ((i : Int) - 1)) (if encI (unzig (valF (b.take n))) = b.take n then (unzig (valF (b.take n)), (n : Int), 0) else (0, 0, 7)) := by
  intro i
  induction i with
  | zero =>
    intro _
    have hlt := valF_lt (b.take n)
    rw [List.drop_zero]
    refine Ev.step (f := fun k => bootchainref01_GetInt.j2 k b (n : Int) (unzig (valF (b.take n)))) (fun k => ?_) (getint_j2 b n _ (unzig_range hlt) hn hn10 hn0)
    generalize valF (b.take n) = u at *
    simp only [bootchainref01_GetInt.l0]
    rw [if_neg (by omega), Int.tmod_eq_emod_of_nonneg (by omega), Int.tdiv_eq_ediv_of_nonneg (by omega), u64_mod', Int.emod_eq_of_lt (a := (u : Int) / 2) (by omega) (by omega), wrap_in (n := (u : Int) / 2) (by omega) (by omega), wrap_in (n := -((u : Int) / 2)) (by omega) (by omega), wrap_in (n := -((u : Int) / 2) - 1) (by omega) (by omega)]
    unfold unzig
    by_cases hp : u % 2 = 0
    · rw [if_neg (by omega), if_pos hp]
      congr 1
    · rw [if_pos (by omega), if_neg hp]
      congr 1
  | succ i ih =>
    intro hi
    have hin : i < (b.take n).length := by rw [List.length_take]; omega
    have hib : i < b.length := by omega
    refine Ev.step (f := fun k => bootchainref01_GetInt.l0 k b (n : Int) ((valF ((b.take n).drop i) : Nat) : Int) ((i : Int) - 1)) (fun k => ?_) (ih (by omega))
    have hlt := valF_lt ((b.take n).drop (i + 1))
    have hc := hb _ (List.getElem_mem hib)
    have hv : valF ((b.take n).drop i) = (128 * valF ((b.take n).drop (i + 1)) + b[i].toNat % 128) % 18446744073709551616 := by
      rw [List.drop_eq_getElem_cons hin]
      simp only [valF, List.getElem_take]
    rw [hv]
    generalize valF ((b.take n).drop (i + 1)) = u at *
    simp only [bootchainref01_GetInt.l0]
    rw [show ((i + 1 : Nat) : Int) - 1 = (i : Int) from by omega, if_pos (by omega), if_pos (by omega), if_pos (by omega), rd_nat b i hib, wrap_in (n := (i : Int) - 1) (by omega) (by omega), Int.tmod_eq_emod_of_nonneg hc.1, u64_mod', u64_mod', u64_mod']
    congr 1
    omega
theorem getint_ev (b : List Int) (hb : IsB b) (hl : b.length ≤ 1000000) : Ev (fun k => bootchainref01_GetInt.f k b) (dec b) := by
  unfold bootchainref01_GetInt.f
  refine Ev.bind (length_ev b hl) ?_
  have hle := lenG_le b 0
  by_cases h0 : lenG 0 b = 0
  · have hd := lenG_zero b 0 0 (by omega) h0
    have hd' : dec b = (0, 0, if b.length < 10 then 6 else 7) := by
      unfold dec
      rw [hd]
      simp
    rw [hd', h0]
    refine Ev.congr (f := fun k => bootchainref01_GetInt.j0 k b 0 (decide ((b.length : Int) < 10))) (fun k => if_pos rfl) ?_
    by_cases h10 : b.length < 10
    · rw [if_pos h10, decide_eq_true (by omega)]
      exact ⟨1, fun k hk => by
        obtain ⟨k, rfl⟩ : ∃ m, k = m + 1 := ⟨k - 1, by omega⟩
        simp [bootchainref01_GetInt.j0]⟩
    · rw [if_neg h10, decide_eq_false (by omega)]
      refine ⟨3, fun k hk => ?_⟩
      obtain ⟨k, rfl⟩ : ∃ m, k = m + 1 + 1 + 1 := ⟨k - 3, by omega⟩
      have e : wrap64 (0 - 1) = -1 := by unfold wrap64; omega
      simp only [bootchainref01_GetInt.j0, bootchainref01_GetInt.l0, bootchainref01_GetInt.j2]
      rw [if_neg (by simp), e, if_neg (by omega), if_neg (by decide), if_pos trivial]
  · refine Ev.congr (f := fun k => bootchainref01_GetInt.j0 k b ((lenG 0 b : Nat) : Int) false) (fun k => by rw [if_neg (by omega)]) ?_
    refine Ev.step (f := fun k => bootchainref01_GetInt.l0 k b ((lenG 0 b : Nat) : Int) 0 (wrap64 (((lenG 0 b : Nat) : Int) - 1))) (fun k => by simp only [bootchainref01_GetInt.j0]; rw [if_neg (by simp)]) ?_
    have hn : lenG 0 b ≤ b.length := by omega
    have hn10 : lenG 0 b ≤ 10 := hle.2 (by omega)
    have key := getint_l0 b (lenG 0 b) hb hn hn10 h0 (lenG 0 b) (Nat.le_refl _)
    rw [List.drop_of_length_le (by rw [List.length_take]; omega)] at key
    rw [wrap_in (by omega) (by omega)]
    have hres : (if encI (unzig (valF (b.take (lenG 0 b)))) = b.take (lenG 0 b) then (unzig (valF (b.take (lenG 0 b))), ((lenG 0 b : Nat) : Int), (0 : Int)) else (0, 0, 7)) = dec b := by
      obtain ⟨x, p, e, hd⟩ : ∃ x p e, dec b = (x, p, e) := ⟨_, _, _, rfl⟩
      rw [hd]
      rcases lenG_bad b 0 0 x p e h0 hd with rfl | ⟨rfl, rfl, rfl⟩
      · have hlp := lenG_ok b 0 0 x p hd
        obtain ⟨hI, htake, hp, hp0, hp10, hpl⟩ := dec_ok hb hd
        rw [hlp, htake]
        have hv : valF (encI x) = zig x := valF_enc _ (zig_lt hI)
        rw [hv, unzig_zig, if_pos rfl]
        congr 2
        omega
      · rw [if_neg]
        intro he
        have hI := unzig_range (valF_lt (b.take (lenG 0 b)))
        have hbs : b = encI (unzig (valF (b.take (lenG 0 b)))) ++ b.drop (lenG 0 b) := by rw [he, List.take_append_drop]
        have h2 := dec_enc hI (b.drop (lenG 0 b))
        rw [← hbs, hd] at h2
        simp at h2
    rw [← hres]
    exact key

/-! ### count, GetInts -/
theorem dec_bd0 {b : List Int} {n m e : Int} (hb : IsB b) (h : dec b = (n, m, e)) : 0 ≤ m ∧ m ≤ b.length := by
  rcases dec_err h with rfl | ⟨_, rfl, _⟩
  · have := dec_ok hb h
    omega
  · omega
theorem count_ev (b : List Int) (size : Int) (hs : size = 1 ∨ size = 16) (hb : IsB b) (hl : b.length ≤ 1000000) : Ev (fun k => bootchainref01_count.f k b size) (cnt b size) := by
  unfold bootchainref01_count.f
  refine Ev.bind (getint_ev b hb hl) ?_
  obtain ⟨n, m, e, hd⟩ : ∃ n m e, dec b = (n, m, e) := ⟨_, _, _, rfl⟩
  have hm := dec_bd0 hb hd
  unfold cnt
  rw [hd]
  simp only
  by_cases he : e = 0
  · subst he
    simp only [ne_eq, not_true_eq_false, if_false, if_true]
    refine Ev.congr (f := fun _ => some (if n < 0 then (0, 0, 7) else if (b.length : Int) - m < n * size then (0, 0, 6) else (n, m, 0))) (fun k => ?_) (Ev.now _)
    by_cases hn : n < 0
    · rw [if_pos hn, if_pos hn]
    · rw [if_neg hn, if_neg hn]
      by_cases hnl : n > (b.length : Int)
      · rw [if_pos hnl, if_pos (by rcases hs with rfl | rfl <;> omega)]
      · rw [if_neg hnl, wrap_in (n := n * size) (by rcases hs with rfl | rfl <;> omega) (by rcases hs with rfl | rfl <;> omega), wrap_in (by omega) (by omega)]
        by_cases hc : (b.length : Int) - m < n * size
        · rw [if_pos hc, if_pos (by omega)]
        · rw [if_neg hc, if_neg (by omega)]
  · simp only [ne_eq, he, not_false_eq_true, if_true, if_false]
    exact Ev.now _
theorem count_f (b : List Int) (size : Int) (hs : size = 1 ∨ size = 16) (hb : IsB b) (hl : b.length ≤ 1000000) : ∃ k, bootchainref01_count.f k b size = some (cnt b size) := (count_ev b size hs hb hl).rounds
end Go.Proofs.Ytippclnmijelfaa.Rf
