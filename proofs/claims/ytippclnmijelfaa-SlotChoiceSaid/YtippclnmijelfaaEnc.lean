/- The encoding of integers as lists of bytes, and its decoding: plain lists and numbers, no program. -/
import Derived.RowKit
namespace Go.Proofs.Ytippclnmijelfaa.En

/-- An integer of 64 bits. -/
def I64 (n : Int) : Prop := -9223372036854775808 ≤ n ∧ n ≤ 9223372036854775807
/-- A list of bytes. -/
def IsB (l : List Int) : Prop := ∀ c ∈ l, 0 ≤ c ∧ c ≤ 255

def encU (u : Nat) : List Int := if _h : u < 128 then [(u : Int)] else ((128 + u % 128 : Nat) : Int) :: encU (u / 128)
termination_by u
decreasing_by omega

theorem encU_small {u : Nat} (h : u < 128) : encU u = [(u : Int)] := by
  rw [encU]; simp [h]
theorem encU_big {u : Nat} (h : 128 ≤ u) : encU u = ((128 + u % 128 : Nat) : Int) :: encU (u / 128) := by
  rw [encU]; simp [Nat.not_lt.2 h]

def zig (n : Int) : Nat := if 0 ≤ n then (2 * n).toNat else (-2 * n - 1).toNat
def unzig (u : Nat) : Int := if u % 2 = 0 then ((u / 2 : Nat) : Int) else -((u / 2 : Nat) : Int) - 1
def encI (n : Int) : List Int := encU (zig n)

theorem unzig_zig (n : Int) : unzig (zig n) = n := by
  unfold unzig zig
  split <;> split <;> omega
theorem zig_unzig (u : Nat) : zig (unzig u) = u := by
  unfold unzig zig
  split <;> split <;> omega
theorem zig_lt {n : Int} (h : I64 n) : zig n < 18446744073709551616 := by
  unfold I64 at h
  unfold zig
  split <;> omega
theorem unzig_range {u : Nat} (h : u < 18446744073709551616) : I64 (unzig u) := by
  unfold unzig I64
  split <;> omega

theorem encU_pos (u : Nat) : 1 ≤ (encU u).length := by
  rcases Nat.lt_or_ge u 128 with h | h
  · rw [encU_small h]; simp
  · rw [encU_big h]; simp
theorem encU_bytes (u : Nat) : IsB (encU u) := by
  induction u using Nat.strongRecOn with
  | _ u ih =>
    rcases Nat.lt_or_ge u 128 with h | h
    · rw [encU_small h]
      intro c hc
      simp at hc
      omega
    · rw [encU_big h]
      intro c hc
      rcases List.mem_cons.1 hc with rfl | hc
      · omega
      · exact ih (u / 128) (by omega) c hc
theorem encU_len (j : Nat) : ∀ u : Nat, u < 128 ^ (j + 1) → (encU u).length ≤ j + 1 := by
  induction j with
  | zero =>
    intro u hu
    rw [encU_small (by simpa using hu)]
    simp
  | succ j ih =>
    intro u hu
    rcases Nat.lt_or_ge u 128 with h | h
    · rw [encU_small h]; simp
    · rw [encU_big h, List.length_cons]
      have := ih (u / 128) (by rw [Nat.div_lt_iff_lt_mul (by omega)]; rwa [Nat.pow_succ] at hu)
      omega
theorem encU_len10 {u : Nat} (h : u < 18446744073709551616) : (encU u).length ≤ 10 := encU_len 9 u (Nat.lt_of_lt_of_le h (by decide))

theorem encI_pos (n : Int) : 1 ≤ (encI n).length := encU_pos _
theorem encI_len {n : Int} (h : I64 n) : (encI n).length ≤ 10 := encU_len10 (zig_lt h)
theorem encI_bytes (n : Int) : IsB (encI n) := encU_bytes _

/-- The decoding: k bytes have been read, their groups are acc. -/
def decG : Nat → Nat → List Int → Int × Int × Int
  | k, _, [] => if k < 10 then (0, 0, 6) else (0, 0, 7)
  | k, acc, c :: r => if 10 ≤ k then (0, 0, 7) else if 128 ≤ c then decG (k + 1) (acc + (c.toNat - 128) * 128 ^ k) r
      else if (c = 0 ∧ 0 < k) ∨ (k = 9 ∧ 1 < c) then (0, 0, 7) else (unzig (acc + c.toNat * 128 ^ k), (k : Int) + 1, 0)
def dec (b : List Int) : Int × Int × Int := decG 0 0 b

theorem fits (u d p Q : Nat) (hd : d ≤ 127) (hp : Q * (p * 128) = 18446744073709551616) (h4 : u * (p*128) < 18446744073709551616) : d * p + u * (p * 128) < 18446744073709551616 := by
  rw [← hp] at h4 ⊢
  have h5 : u < Q := Nat.lt_of_mul_lt_mul_right h4
  have h6 : (u + 1) * (p * 128) ≤ Q * (p * 128) := Nat.mul_le_mul_right _ h5
  have h7 : d * p ≤ 127 * p := Nat.mul_le_mul_right _ hd
  rw [Nat.add_mul, Nat.one_mul] at h6
  omega
theorem fits_k {k : Nat} (hk : k ≤ 8) : ∃ Q, Q * (128 ^ k * 128) = 18446744073709551616 := by
  have : k = 0 ∨ k = 1 ∨ k = 2 ∨ k = 3 ∨ k = 4 ∨ k = 5 ∨ k = 6 ∨ k = 7 ∨ k = 8 := by omega
  rcases this with rfl | rfl | rfl | rfl | rfl | rfl | rfl | rfl | rfl
  · exact ⟨144115188075855872, by decide⟩
  · exact ⟨1125899906842624, by decide⟩
  · exact ⟨8796093022208, by decide⟩
  · exact ⟨68719476736, by decide⟩
  · exact ⟨536870912, by decide⟩
  · exact ⟨4194304, by decide⟩
  · exact ⟨32768, by decide⟩
  · exact ⟨256, by decide⟩
  · exact ⟨2, by decide⟩
theorem fits_last {k : Nat} (hk : k ≤ 9) (c : Nat) (h1 : c < 128) (h2 : k = 9 → c ≤ 1) : c * 128 ^ k < 18446744073709551616 := by
  rcases Nat.lt_or_ge k 9 with h | h
  · obtain ⟨Q, hQ⟩ := fits_k (k := k) (by omega)
    have := fits 0 c (128 ^ k) Q (by omega) hQ (by simp)
    simpa using this
  · obtain rfl : k = 9 := by omega
    have h3 := h2 rfl
    have : c = 0 ∨ c = 1 := by omega
    rcases this with rfl | rfl <;> decide

theorem split_group (u k acc : Nat) : acc + u % 128 * 128 ^ k + u / 128 * 128 ^ (k + 1) = acc + u * 128 ^ k := by
  have h : u = 128 * (u / 128) + u % 128 := (Nat.div_add_mod u 128).symm
  have e : u * 128 ^ k = (128 * (u / 128)) * 128 ^ k + u % 128 * 128 ^ k := by
    rw [← Nat.add_mul, ← h]
  rw [e, Nat.pow_succ, Nat.mul_comm 128 (u / 128), Nat.mul_assoc, Nat.mul_comm 128 (128 ^ k)]
  omega

/-- Decoding what was encoded. -/
theorem decG_enc (t : List Int) : ∀ (u k acc : Nat), u * 128 ^ k < 18446744073709551616 → (k = 0 ∨ 0 < u) → k ≤ 9 →
    decG k acc (encU u ++ t) = (unzig (acc + u * 128 ^ k), (k : Int) + (encU u).length, 0) := by
  intro u
  induction u using Nat.strongRecOn with
  | _ u ih =>
    intro k acc hu hk h9
    rcases Nat.lt_or_ge u 128 with h | h
    · rw [encU_small h]
      simp only [List.cons_append, List.nil_append, decG]
      rw [if_neg (by omega), if_neg (by omega), if_neg ?_]
      · simp
      · intro hc
        rcases hc with ⟨h1, h2⟩ | ⟨h1, h2⟩
        · omega
        · subst h1
          have : (128 : Nat) ^ 9 = 9223372036854775808 := by decide
          rw [this] at hu
          omega
    · have hk8 : k ≤ 8 := by
        rcases Nat.lt_or_ge k 9 with h8 | h8
        · omega
        · exfalso
          obtain rfl : k = 9 := by omega
          have : (128 : Nat) ^ 9 = 9223372036854775808 := by decide
          rw [this] at hu
          omega
      rw [encU_big h]
      simp only [List.cons_append, decG]
      rw [if_neg (by omega), if_pos (by omega)]
      have e1 : (((128 + u % 128 : Nat) : Int)).toNat - 128 = u % 128 := by omega
      rw [e1]
      have hs := split_group u k acc
      have hlt : u / 128 * 128 ^ (k + 1) < 18446744073709551616 := by
        have hs0 := split_group u k 0
        omega
      rw [ih (u / 128) (by omega) (k + 1) (acc + u % 128 * 128 ^ k) hlt (by omega) (by omega), hs, List.length_cons]
      have e3 : ((k + 1 : Nat) : Int) + ((encU (u / 128)).length : Int) = (k : Int) + (((encU (u / 128)).length + 1 : Nat) : Int) := by omega
      rw [e3]

set_option maxRecDepth 100000 in
/-- What is decoded is an encoding. -/
theorem decG_ok : ∀ (l : List Int) (k acc : Nat) (n m : Int), IsB l → decG k acc l = (n, m, 0) →
    ∃ u : Nat, n = unzig (acc + u * 128 ^ k) ∧ l.take (m.toNat - k) = encU u ∧ (k = 0 ∨ 0 < u) ∧ u * 128 ^ k < 18446744073709551616 ∧ k ≤ 9 ∧ (k : Int) < m ∧ m ≤ (k : Int) + l.length ∧ m ≤ 10 := by
  intro l
  induction l with
  | nil =>
    intro k acc n m _ h
    simp only [decG] at h
    split at h <;> simp at h
  | cons c r ih =>
    intro k acc n m hB h
    have hc := hB c (by simp)
    simp only [decG] at h
    split at h
    · simp at h
    · rename_i hk
      split at h
      · rename_i hc128
        obtain ⟨u, h1, h2, h3, h4, h5, h6, h7, h8⟩ := ih _ _ _ _ (fun x hx => hB x (by simp [hx])) h
        have hu : 0 < u := by omega
        have e1 : (c.toNat - 128 + 128 * u) / 128 = u := by omega
        have e2 : (c.toNat - 128 + 128 * u) % 128 = c.toNat - 128 := by omega
        have hs := split_group (c.toNat - 128 + 128 * u) k acc
        rw [e1, e2] at hs
        refine ⟨c.toNat - 128 + 128 * u, ?_, ?_, by omega, ?_, by omega, by omega, by simp at h7 ⊢; omega, h8⟩
        · rw [h1, hs]
        · have hm : m.toNat - k = (m.toNat - (k + 1)) + 1 := by omega
          rw [hm, List.take_succ_cons, h2, encU_big (u := c.toNat - 128 + 128 * u) (by omega), e1, e2]
          congr 1
          omega
        · have hs0 := split_group (c.toNat - 128 + 128 * u) k 0
          rw [e1, e2] at hs0
          simp only [Nat.zero_add] at hs0
          rw [← hs0]
          obtain ⟨Q, hQ⟩ := fits_k (k := k) (by omega)
          rw [Nat.pow_succ] at h4 ⊢
          exact fits u (c.toNat - 128) (128 ^ k) Q (by omega) hQ h4
      · rename_i hc128
        split at h
        · simp at h
        · rename_i hbad
          simp only [Prod.mk.injEq] at h
          obtain ⟨rfl, rfl, _⟩ := h
          refine ⟨c.toNat, rfl, ?_, by omega, ?_, by omega, by omega, by simp; omega, by omega⟩
          · have hm : ((k : Int) + 1).toNat - k = 0 + 1 := by omega
            rw [hm, List.take_succ_cons, encU_small (by omega)]
            simp
            omega
          · exact fits_last (by omega) _ (by omega) (by omega)

/-- An encoding, cut short. -/
theorem decG_cut : ∀ (u k acc i : Nat), i < (encU u).length → k + (encU u).length ≤ 10 → decG k acc ((encU u).take i) = (0, 0, 6) := by
  intro u
  induction u using Nat.strongRecOn with
  | _ u ih =>
    intro k acc i hi hk
    cases i with
    | zero =>
      have := encU_pos u
      simp only [List.take_zero, decG]
      rw [if_pos (by omega)]
    | succ i =>
      rcases Nat.lt_or_ge u 128 with h | h
      · rw [encU_small h] at hi
        simp at hi
      · rw [encU_big h, List.length_cons] at hi hk
        rw [encU_big h, List.take_succ_cons]
        simp only [decG]
        rw [if_neg (by omega), if_pos (by omega)]
        exact ih (u / 128) (by omega) (k + 1) _ i (by omega) (by omega)

theorem decG_err : ∀ (l : List Int) (k acc : Nat) (n m e : Int), decG k acc l = (n, m, e) → (e = 0 ∨ n = 0 ∧ m = 0 ∧ (e = 6 ∨ e = 7)) := by
  intro l
  induction l with
  | nil =>
    intro k acc n m e h
    simp only [decG] at h
    split at h <;> simp at h <;> omega
  | cons c r ih =>
    intro k acc n m e h
    simp only [decG] at h
    split at h
    · simp at h; omega
    · split at h
      · exact ih _ _ _ _ _ h
      · split at h
        · simp at h; omega
        · simp only [Prod.mk.injEq] at h; omega

theorem dec_enc {n : Int} (h : I64 n) (t : List Int) : dec (encI n ++ t) = (n, ((encI n).length : Int), 0) := by
  have := decG_enc t (zig n) 0 0 (by have := zig_lt h; omega) (.inl rfl) (by omega)
  unfold dec encI
  rw [this]
  simp [unzig_zig]
theorem dec_enc' {n : Int} (h : I64 n) : dec (encI n) = (n, ((encI n).length : Int), 0) := by
  have := dec_enc h []
  rwa [List.append_nil] at this
/-- What is decoded: an integer of 64 bits, whose encoding the first bytes are. -/
theorem dec_ok {b : List Int} {n m : Int} (hb : IsB b) (h : dec b = (n, m, 0)) : I64 n ∧ b.take m.toNat = encI n ∧ m = (encI n).length ∧ 0 < m ∧ m ≤ 10 ∧ m ≤ b.length := by
  obtain ⟨u, h1, h2, _, h4, _, h6, h7, h8⟩ := decG_ok b 0 0 n m hb h
  simp only [Nat.pow_zero, Nat.mul_one, Nat.zero_add, Nat.sub_zero] at h1 h2 h4
  subst h1
  have he : encI (unzig u) = encU u := by unfold encI; rw [zig_unzig]
  refine ⟨unzig_range h4, by rw [he, h2], ?_, by omega, h8, by simpa using h7⟩
  rw [he, ← h2, List.length_take]
  omega
theorem dec_cut {n : Int} (h : I64 n) (i : Nat) (hi : i < (encI n).length) : dec ((encI n).take i) = (0, 0, 6) :=
  decG_cut (zig n) 0 0 i hi (by have := encI_len h; unfold encI at this; omega)
theorem dec_err {b : List Int} {n m e : Int} (h : dec b = (n, m, e)) : e = 0 ∨ n = 0 ∧ m = 0 ∧ (e = 6 ∨ e = 7) := decG_err _ _ _ _ _ _ h
theorem dec_split {b : List Int} {n m : Int} (hb : IsB b) (h : dec b = (n, m, 0)) : b = encI n ++ b.drop m.toNat := by
  have := (dec_ok hb h).2.1
  rw [← this, List.take_append_drop]

theorem encI_inj {m n : Int} (hm : I64 m) (hn : I64 n) (h : encI m = encI n) : m = n := by
  have h1 := dec_enc' hm
  rw [h, dec_enc' hn] at h1
  simpa using (congrArg (fun p : Int × Int × Int => p.1) h1).symm

theorem IsB.append {a b : List Int} (ha : IsB a) (hb : IsB b) : IsB (a ++ b) := fun c hc => (List.mem_append.1 hc).elim (ha c) (hb c)
theorem IsB.take {a : List Int} (ha : IsB a) (i : Nat) : IsB (a.take i) := fun c hc => ha c (List.mem_of_mem_take hc)
theorem IsB.drop {a : List Int} (ha : IsB a) (i : Nat) : IsB (a.drop i) := fun c hc => ha c (List.mem_of_mem_drop hc)

end Go.Proofs.Ytippclnmijelfaa.En
