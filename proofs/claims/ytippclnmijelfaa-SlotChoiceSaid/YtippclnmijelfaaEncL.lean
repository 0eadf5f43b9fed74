/- The encodings of byte strings, lists of integers and lists of digests, and their decodings: plain lists and numbers, no program. -/
import Derived.Test.YtippclnmijelfaaEnc
namespace Go.Proofs.Ytippclnmijelfaa.En

/-- The number that a list begins with. -/
def cnt (b : List Int) (size : Int) : Int × Int × Int :=
  if (dec b).2.2 ≠ 0 then (0, 0, (dec b).2.2) else if (dec b).1 < 0 then (0, 0, 7)
  else if (b.length : Int) - (dec b).2.1 < (dec b).1 * size then (0, 0, 6) else ((dec b).1, (dec b).2.1, 0)

theorem cnt_enc (n : Nat) (hn : I64 n) (t : List Int) (size : Int) (h : (n : Int) * size ≤ t.length) : cnt (encI n ++ t) size = ((n : Int), ((encI n).length : Int), 0) := by
  unfold cnt
  rw [dec_enc hn]
  simp only [ne_eq, not_true_eq_false, if_false]
  rw [if_neg (by omega), if_neg (by simp only [List.length_append]; omega)]
theorem cnt_short (n : Nat) (hn : I64 n) (t : List Int) (size : Int) (h : (t.length : Int) < (n : Int) * size) : cnt (encI n ++ t) size = (0, 0, 6) := by
  unfold cnt
  rw [dec_enc hn]
  simp only [ne_eq, not_true_eq_false, if_false]
  rw [if_neg (by omega), if_pos (by simp only [List.length_append]; omega)]
theorem cnt_cut (n : Nat) (hn : I64 n) (i : Nat) (hi : i < (encI n).length) (size : Int) : cnt ((encI n).take i) size = (0, 0, 6) := by
  unfold cnt
  rw [dec_cut hn i hi]
  simp
theorem cnt_ok {b : List Int} {size n m : Int} (h : cnt b size = (n, m, 0)) : dec b = (n, m, 0) ∧ 0 ≤ n ∧ n * size ≤ (b.length : Int) - m := by
  unfold cnt at h
  split at h
  · rename_i he
    simp only [Prod.mk.injEq] at h
    exact absurd h.2.2 he
  · rename_i he
    split at h
    · simp at h
    · split at h
      · simp at h
      · simp only [Prod.mk.injEq] at h
        obtain ⟨rfl, rfl, _⟩ := h
        refine ⟨?_, by omega, by omega⟩
        have : (dec b).2.2 = 0 := by omega
        rw [← this]
theorem cnt_err {b : List Int} {size n m e : Int} (h : cnt b size = (n, m, e)) (he : e ≠ 0) : n = 0 ∧ m = 0 := by
  unfold cnt at h
  split at h
  · simp only [Prod.mk.injEq] at h; omega
  · split at h
    · simp only [Prod.mk.injEq] at h; omega
    · split at h <;> simp only [Prod.mk.injEq] at h <;> omega

/-! ### byte strings -/
def encS (s : List Int) : List Int := encI s.length ++ s
def decS (b : List Int) : List Int × Int × Int :=
  if (cnt b 1).2.2 ≠ 0 then ([], 0, (cnt b 1).2.2) else ((b.drop (cnt b 1).2.1.toNat).take (cnt b 1).1.toNat, (cnt b 1).2.1 + (cnt b 1).1, 0)

theorem decS_enc (s t : List Int) (hs : I64 s.length) : decS (encS s ++ t) = (s, ((encS s).length : Int), 0) := by
  unfold decS encS
  rw [List.append_assoc, cnt_enc _ hs _ _ (by simp only [List.length_append]; omega)]
  simp
theorem decS_cut (s : List Int) (hs : I64 s.length) (i : Nat) (hi : i < (encS s).length) : decS ((encS s).take i) = ([], 0, 6) := by
  have : cnt ((encS s).take i) 1 = (0, 0, 6) := by
    unfold encS at hi ⊢
    rcases Nat.lt_or_ge i (encI s.length).length with h | h
    · rw [List.take_append_of_le_length (by omega)]
      exact cnt_cut _ hs i h 1
    · rw [List.take_append, List.take_of_length_le h]
      rw [List.length_append] at hi
      exact cnt_short _ hs _ 1 (by rw [List.length_take]; omega)
  unfold decS
  rw [this]
  simp
theorem decS_ok {b s : List Int} {m : Int} (hb : IsB b) (h : decS b = (s, m, 0)) : I64 s.length ∧ b.take m.toNat = encS s ∧ m = (encS s).length ∧ m ≤ b.length := by
  unfold decS at h
  split at h
  · rename_i he
    simp only [Prod.mk.injEq] at h
    exact absurd h.2.2 he
  · rename_i he
    simp only [Prod.mk.injEq] at h
    obtain ⟨h1, h2, _⟩ := h
    have hc : cnt b 1 = ((cnt b 1).1, (cnt b 1).2.1, 0) := by
      have : (cnt b 1).2.2 = 0 := by omega
      rw [← this]
    obtain ⟨hd, h0, hle⟩ := cnt_ok hc
    generalize (cnt b 1).1 = n at *
    generalize (cnt b 1).2.1 = p at *
    obtain ⟨g1, g2, g3, g4, g5, g6⟩ := dec_ok hb hd
    have hsl : (s.length : Int) = n := by
      rw [← h1, List.length_take, List.length_drop]
      omega
    have he : encS s = encI n ++ s := by unfold encS; rw [hsl]
    refine ⟨by rw [hsl]; exact g1, ?_, ?_, by omega⟩
    · have hm : m.toNat = p.toNat + n.toNat := by omega
      rw [he, hm, List.take_add, g2, h1]
    · rw [he, List.length_append]
      omega
theorem decS_err {b s : List Int} {m e : Int} (h : decS b = (s, m, e)) (he : e ≠ 0) : s = [] ∧ m = 0 := by
  unfold decS at h
  split at h
  · simp only [Prod.mk.injEq] at h; exact ⟨h.1.symm, h.2.1.symm⟩
  · simp only [Prod.mk.injEq] at h; omega

/-! ### lists of integers -/
def encLs (l : List Int) : List Int := l.flatMap encI
def encL (l : List Int) : List Int := encI l.length ++ encLs l
def ints : Nat → List Int → List Int × Int × Int
  | 0, _ => ([], 0, 0)
  | n + 1, b => if (dec b).2.2 ≠ 0 then ([], 0, (dec b).2.2)
      else if (ints n (b.drop (dec b).2.1.toNat)).2.2 ≠ 0 then ([], 0, (ints n (b.drop (dec b).2.1.toNat)).2.2)
      else ((dec b).1 :: (ints n (b.drop (dec b).2.1.toNat)).1, (dec b).2.1 + (ints n (b.drop (dec b).2.1.toNat)).2.1, 0)
def decL (b : List Int) : List Int × Int × Int :=
  if (cnt b 1).2.2 ≠ 0 then ([], 0, (cnt b 1).2.2)
  else if (ints (cnt b 1).1.toNat (b.drop (cnt b 1).2.1.toNat)).2.2 ≠ 0 then ([], 0, (ints (cnt b 1).1.toNat (b.drop (cnt b 1).2.1.toNat)).2.2)
  else ((ints (cnt b 1).1.toNat (b.drop (cnt b 1).2.1.toNat)).1, (cnt b 1).2.1 + (ints (cnt b 1).1.toNat (b.drop (cnt b 1).2.1.toNat)).2.1, 0)
def AllI (l : List Int) : Prop := ∀ x ∈ l, I64 x

theorem encLs_len (l : List Int) : l.length ≤ (encLs l).length := by
  induction l with
  | nil => simp [encLs]
  | cons x l ih =>
    have := encI_pos x
    simp only [encLs, List.flatMap_cons, List.length_append, List.length_cons] at ih ⊢
    omega
theorem encLs_len10 {l : List Int} (h : AllI l) : (encLs l).length ≤ 10 * l.length := by
  induction l with
  | nil => simp [encLs]
  | cons x l ih =>
    have h1 := encI_len (h x (by simp))
    have h2 := ih (fun y hy => h y (by simp [hy]))
    simp only [encLs, List.flatMap_cons, List.length_append, List.length_cons] at h2 ⊢
    omega
theorem encLs_bytes (l : List Int) : IsB (encLs l) := by
  intro c hc
  unfold encLs at hc
  obtain ⟨x, _, h⟩ := List.mem_flatMap.1 hc
  exact encI_bytes x c h
theorem ints_enc (t : List Int) : ∀ l : List Int, AllI l → ints l.length (encLs l ++ t) = (l, ((encLs l).length : Int), 0) := by
  intro l
  induction l with
  | nil => intro _; rfl
  | cons x l ih =>
    intro h
    have hx := h x (by simp)
    have e : encLs (x :: l) ++ t = encI x ++ (encLs l ++ t) := by simp [encLs]
    rw [e, List.length_cons]
    simp only [ints]
    rw [dec_enc hx]
    simp only [Int.toNat_natCast, List.drop_left]
    rw [ih (fun y hy => h y (by simp [hy]))]
    simp [encLs]
theorem ints_cut : ∀ (l : List Int), AllI l → ∀ i : Nat, i < (encLs l).length → ints l.length ((encLs l).take i) = ([], 0, 6) := by
  intro l
  induction l with
  | nil => intro _ i hi; simp [encLs] at hi
  | cons x l ih =>
    intro h i hi
    have hx := h x (by simp)
    have e : encLs (x :: l) = encI x ++ encLs l := by simp [encLs]
    rw [e] at hi ⊢
    rw [List.length_cons]
    rcases Nat.lt_or_ge i (encI x).length with h1 | h1
    · rw [List.take_append_of_le_length (by omega)]
      simp only [ints]
      rw [dec_cut hx i h1]
      simp
    · rw [List.take_append, List.take_of_length_le h1]
      simp only [ints]
      rw [dec_enc hx]
      simp only [Int.toNat_natCast, List.drop_left]
      rw [List.length_append] at hi
      rw [ih (fun y hy => h y (by simp [hy])) (i - (encI x).length) (by omega)]
      simp
theorem ints_ok : ∀ (n : Nat) (b l : List Int) (m : Int), IsB b → ints n b = (l, m, 0) → l.length = n ∧ AllI l ∧ b.take m.toNat = encLs l ∧ m = (encLs l).length ∧ m ≤ b.length := by
  intro n
  induction n with
  | zero =>
    intro b l m _ h
    simp only [ints, Prod.mk.injEq] at h
    obtain ⟨rfl, rfl, _⟩ := h
    exact ⟨rfl, fun x hx => by simp at hx, by simp [encLs], by simp [encLs], by omega⟩
  | succ n ih =>
    intro b l m hb h
    simp only [ints] at h
    split at h
    · rename_i he
      simp only [Prod.mk.injEq] at h
      exact absurd h.2.2 he
    · rename_i he
      have hd : dec b = ((dec b).1, (dec b).2.1, 0) := by
        have : (dec b).2.2 = 0 := by omega
        rw [← this]
      generalize (dec b).1 = x at *
      generalize (dec b).2.1 = p at *
      obtain ⟨g1, g2, g3, g4, g5, g6⟩ := dec_ok hb hd
      split at h
      · rename_i he2
        simp only [Prod.mk.injEq] at h
        exact absurd h.2.2 he2
      · rename_i he2
        simp only [Prod.mk.injEq] at h
        obtain ⟨rfl, rfl, _⟩ := h
        have hi : ints n (b.drop p.toNat) = ((ints n (b.drop p.toNat)).1, (ints n (b.drop p.toNat)).2.1, 0) := by
          have : (ints n (b.drop p.toNat)).2.2 = 0 := by omega
          rw [← this]
        obtain ⟨k1, k2, k3, k4, k5⟩ := ih _ _ _ (hb.drop _) hi
        generalize (ints n (b.drop p.toNat)).1 = l at *
        generalize (ints n (b.drop p.toNat)).2.1 = q at *
        rw [List.length_drop] at k5
        refine ⟨by simp [k1], ?_, ?_, ?_, by omega⟩
        · intro y hy
          rcases List.mem_cons.1 hy with rfl | hy
          · exact g1
          · exact k2 y hy
        · have hm : (p + q).toNat = p.toNat + q.toNat := by omega
          rw [hm, List.take_add, g2, k3]
          simp [encLs]
        · have : encLs (x :: l) = encI x ++ encLs l := by simp [encLs]
          rw [this, List.length_append]
          omega
theorem ints_err : ∀ (n : Nat) (b l : List Int) (m e : Int), ints n b = (l, m, e) → e ≠ 0 → l = [] ∧ m = 0 := by
  intro n b l m e h he
  cases n with
  | zero => simp only [ints, Prod.mk.injEq] at h; omega
  | succ n =>
    simp only [ints] at h
    split at h
    · simp only [Prod.mk.injEq] at h; exact ⟨h.1.symm, h.2.1.symm⟩
    · split at h
      · simp only [Prod.mk.injEq] at h; exact ⟨h.1.symm, h.2.1.symm⟩
      · simp only [Prod.mk.injEq] at h; omega

theorem decL_enc (l t : List Int) (hl : I64 l.length) (h : AllI l) : decL (encL l ++ t) = (l, ((encL l).length : Int), 0) := by
  have hc : cnt (encL l ++ t) 1 = ((l.length : Int), ((encI l.length).length : Int), 0) := by
    unfold encL
    rw [List.append_assoc]
    exact cnt_enc _ hl _ _ (by have := encLs_len l; simp only [List.length_append]; omega)
  have hd : (encL l ++ t).drop (encI l.length).length = encLs l ++ t := by
    unfold encL
    rw [List.append_assoc, List.drop_left]
  unfold decL
  rw [hc]
  simp only [Int.toNat_natCast]
  rw [hd, ints_enc t l h]
  simp [encL]
theorem decL_cut (l : List Int) (hl : I64 l.length) (h : AllI l) (i : Nat) (hi : i < (encL l).length) : decL ((encL l).take i) = ([], 0, 6) := by
  unfold encL at hi ⊢
  rcases Nat.lt_or_ge i (encI l.length).length with h1 | h1
  · have : cnt ((encI l.length ++ encLs l).take i) 1 = (0, 0, 6) := by
      rw [List.take_append_of_le_length (by omega)]
      exact cnt_cut _ hl i h1 1
    unfold decL
    rw [this]
    simp
  · rw [List.take_append, List.take_of_length_le h1]
    rw [List.length_append] at hi
    rcases Nat.lt_or_ge (i - (encI l.length).length) l.length with h2 | h2
    · have : cnt (encI l.length ++ (encLs l).take (i - (encI l.length).length)) 1 = (0, 0, 6) := cnt_short _ hl _ 1 (by rw [List.length_take]; omega)
      unfold decL
      rw [this]
      simp
    · have hc : cnt (encI l.length ++ (encLs l).take (i - (encI l.length).length)) 1 = ((l.length : Int), ((encI l.length).length : Int), 0) := by
        exact cnt_enc _ hl _ _ (by rw [List.length_take]; omega)
      unfold decL
      rw [hc]
      simp only [Int.toNat_natCast]
      rw [List.drop_left, ints_cut l h _ (by omega)]
      simp
theorem decL_ok {b l : List Int} {m : Int} (hb : IsB b) (h : decL b = (l, m, 0)) : I64 l.length ∧ AllI l ∧ b.take m.toNat = encL l ∧ m = (encL l).length ∧ m ≤ b.length := by
  unfold decL at h
  split at h
  · rename_i he
    simp only [Prod.mk.injEq] at h
    exact absurd h.2.2 he
  · rename_i he
    have hc : cnt b 1 = ((cnt b 1).1, (cnt b 1).2.1, 0) := by
      have : (cnt b 1).2.2 = 0 := by omega
      rw [← this]
    obtain ⟨hd, h0, hle⟩ := cnt_ok hc
    generalize (cnt b 1).1 = n at *
    generalize (cnt b 1).2.1 = p at *
    obtain ⟨g1, g2, g3, g4, g5, g6⟩ := dec_ok hb hd
    split at h
    · rename_i he2
      simp only [Prod.mk.injEq] at h
      exact absurd h.2.2 he2
    · rename_i he2
      simp only [Prod.mk.injEq] at h
      obtain ⟨rfl, rfl, _⟩ := h
      have hi : ints n.toNat (b.drop p.toNat) = ((ints n.toNat (b.drop p.toNat)).1, (ints n.toNat (b.drop p.toNat)).2.1, 0) := by
        have : (ints n.toNat (b.drop p.toNat)).2.2 = 0 := by omega
        rw [← this]
      obtain ⟨k1, k2, k3, k4, k5⟩ := ints_ok _ _ _ _ (hb.drop _) hi
      generalize (ints n.toNat (b.drop p.toNat)).1 = l at *
      generalize (ints n.toNat (b.drop p.toNat)).2.1 = q at *
      rw [List.length_drop] at k5
      have hsl : (l.length : Int) = n := by omega
      have he : encL l = encI n ++ encLs l := by unfold encL; rw [hsl]
      refine ⟨by rw [hsl]; exact g1, k2, ?_, ?_, by omega⟩
      · have hm : (p + q).toNat = p.toNat + q.toNat := by omega
        rw [he, hm, List.take_add, g2, k3]
      · rw [he, List.length_append]
        omega
theorem decL_err {b l : List Int} {m e : Int} (h : decL b = (l, m, e)) (he : e ≠ 0) : l = [] ∧ m = 0 := by
  unfold decL at h
  split at h
  · simp only [Prod.mk.injEq] at h; exact ⟨h.1.symm, h.2.1.symm⟩
  · split at h
    · simp only [Prod.mk.injEq] at h; exact ⟨h.1.symm, h.2.1.symm⟩
    · simp only [Prod.mk.injEq] at h; omega
theorem encL_bytes (l : List Int) : IsB (encL l) := (encI_bytes _).append (encLs_bytes _)
theorem encL_inj {k l : List Int} (hk : I64 k.length) (hl : I64 l.length) (hk' : AllI k) (hl' : AllI l) (h : encL k = encL l) : k = l := by
  have h1 := decL_enc k [] hk hk'
  rw [h, decL_enc l [] hl hl'] at h1
  simpa using (congrArg (fun p : List Int × Int × Int => p.1) h1).symm
theorem encL_len {l : List Int} (hl : I64 l.length) (h : AllI l) : 1 ≤ (encL l).length ∧ (encL l).length ≤ 10 + 10 * l.length := by
  have h1 := encI_len hl
  have h2 := encI_pos l.length
  have h3 := encLs_len10 h
  unfold encL
  rw [List.length_append]
  omega

/-! ### lists of digests -/
def encD (d : List (List Int)) : List Int := encI d.length ++ d.flatten
def chunks : Nat → List Int → List (List Int)
  | 0, _ => []
  | n + 1, b => b.take 16 :: chunks n (b.drop 16)
def decD (b : List Int) : List (List Int) × Int × Int :=
  if (cnt b 16).2.2 ≠ 0 then ([], 0, (cnt b 16).2.2) else (chunks (cnt b 16).1.toNat (b.drop (cnt b 16).2.1.toNat), (cnt b 16).2.1 + 16 * (cnt b 16).1, 0)
/-- A list of digests. -/
def Dig (d : List (List Int)) : Prop := ∀ x ∈ d, x.length = 16 ∧ IsB x

theorem flat_len {d : List (List Int)} (h : Dig d) : d.flatten.length = 16 * d.length := by
  induction d with
  | nil => rfl
  | cons x d ih =>
    have h1 := (h x (by simp)).1
    have h2 := ih (fun y hy => h y (by simp [hy]))
    simp only [List.flatten_cons, List.length_append, List.length_cons]
    omega
theorem chunks_len (n : Nat) : ∀ b : List Int, (chunks n b).length = n := by
  induction n with
  | zero => intro b; rfl
  | succ n ih => intro b; simp [chunks, ih]
theorem chunks_flat (t : List Int) : ∀ d : List (List Int), Dig d → chunks d.length (d.flatten ++ t) = d := by
  intro d
  induction d with
  | nil => intro _; rfl
  | cons x d ih =>
    intro h
    have h1 := (h x (by simp)).1
    rw [List.length_cons, List.flatten_cons, List.append_assoc]
    simp only [chunks]
    rw [← h1, List.take_left, List.drop_left, ih (fun y hy => h y (by simp [hy]))]
theorem flat_chunks : ∀ (n : Nat) (b : List Int), 16 * n ≤ b.length → (chunks n b).flatten = b.take (16 * n) := by
  intro n
  induction n with
  | zero => intro b _; simp [chunks]
  | succ n ih =>
    intro b h
    simp only [chunks, List.flatten_cons]
    rw [ih _ (by rw [List.length_drop]; omega), show 16 * (n + 1) = 16 + 16 * n from by omega, List.take_add]
theorem chunks_dig : ∀ (n : Nat) (b : List Int), IsB b → 16 * n ≤ b.length → Dig (chunks n b) := by
  intro n
  induction n with
  | zero => intro b _ _ x hx; simp [chunks] at hx
  | succ n ih =>
    intro b hb h x hx
    simp only [chunks] at hx
    rcases List.mem_cons.1 hx with rfl | hx
    · exact ⟨by rw [List.length_take]; omega, hb.take _⟩
    · exact ih _ (hb.drop _) (by rw [List.length_drop]; omega) x hx
theorem decD_enc (d : List (List Int)) (t : List Int) (hd : I64 d.length) (h : Dig d) : decD (encD d ++ t) = (d, ((encD d).length : Int), 0) := by
  have hf := flat_len h
  have hc : cnt (encD d ++ t) 16 = ((d.length : Int), ((encI d.length).length : Int), 0) := by
    unfold encD
    rw [List.append_assoc]
    exact cnt_enc _ hd _ _ (by simp only [List.length_append]; omega)
  have hdr : (encD d ++ t).drop (encI d.length).length = d.flatten ++ t := by
    unfold encD
    rw [List.append_assoc, List.drop_left]
  unfold decD
  rw [hc]
  simp only [Int.toNat_natCast]
  rw [hdr, chunks_flat t d h]
  simp only [ne_eq, not_true_eq_false, if_false, encD, List.length_append, hf, Prod.mk.injEq, true_and, and_true]
  omega
theorem decD_cut (d : List (List Int)) (hd : I64 d.length) (h : Dig d) (i : Nat) (hi : i < (encD d).length) : decD ((encD d).take i) = ([], 0, 6) := by
  have hf := flat_len h
  have : cnt ((encD d).take i) 16 = (0, 0, 6) := by
    unfold encD at hi ⊢
    rcases Nat.lt_or_ge i (encI d.length).length with h1 | h1
    · rw [List.take_append_of_le_length (by omega)]
      exact cnt_cut _ hd i h1 16
    · rw [List.take_append, List.take_of_length_le h1]
      rw [List.length_append] at hi
      exact cnt_short _ hd _ 16 (by rw [List.length_take]; omega)
  unfold decD
  rw [this]
  simp
theorem decD_ok {b : List Int} {d : List (List Int)} {m : Int} (hb : IsB b) (h : decD b = (d, m, 0)) : I64 d.length ∧ Dig d ∧ b.take m.toNat = encD d ∧ m = (encD d).length ∧ m ≤ b.length := by
  unfold decD at h
  split at h
  · rename_i he
    simp only [Prod.mk.injEq] at h
    exact absurd h.2.2 he
  · rename_i he
    simp only [Prod.mk.injEq] at h
    obtain ⟨h1, h2, _⟩ := h
    have hc : cnt b 16 = ((cnt b 16).1, (cnt b 16).2.1, 0) := by
      have : (cnt b 16).2.2 = 0 := by omega
      rw [← this]
    obtain ⟨hd, h0, hle⟩ := cnt_ok hc
    generalize (cnt b 16).1 = n at *
    generalize (cnt b 16).2.1 = p at *
    obtain ⟨g1, g2, g3, g4, g5, g6⟩ := dec_ok hb hd
    have hsl : (d.length : Int) = n := by rw [← h1, chunks_len]; omega
    have he : encD d = encI n ++ d.flatten := by unfold encD; rw [hsl]
    have hfl : d.flatten = (b.drop p.toNat).take (16 * n.toNat) := by rw [← h1, flat_chunks _ _ (by rw [List.length_drop]; omega)]
    refine ⟨by rw [hsl]; exact g1, ?_, ?_, ?_, by omega⟩
    · rw [← h1]
      exact chunks_dig _ _ (hb.drop _) (by rw [List.length_drop]; omega)
    · have hm : m.toNat = p.toNat + 16 * n.toNat := by omega
      rw [he, hm, List.take_add, g2, hfl]
    · rw [he, List.length_append, hfl, List.length_take, List.length_drop]
      omega
theorem decD_err {b : List Int} {d : List (List Int)} {m e : Int} (h : decD b = (d, m, e)) (he : e ≠ 0) : d = [] ∧ m = 0 := by
  unfold decD at h
  split at h
  · simp only [Prod.mk.injEq] at h; exact ⟨h.1.symm, h.2.1.symm⟩
  · simp only [Prod.mk.injEq] at h; omega
theorem flat_bytes {d : List (List Int)} (h : Dig d) : IsB d.flatten := by
  intro c hc
  obtain ⟨x, hx, hcx⟩ := List.mem_flatten.1 hc
  exact (h x hx).2 c hcx
theorem encD_bytes {d : List (List Int)} (h : Dig d) : IsB (encD d) := (encI_bytes _).append (flat_bytes h)
theorem encS_bytes {s : List Int} (h : IsB s) : IsB (encS s) := (encI_bytes _).append h

/-- The length of a short list is an integer of 64 bits. -/
theorem I64_nat {n : Nat} (h : n ≤ 100000) : I64 n := by unfold I64; omega

end Go.Proofs.Ytippclnmijelfaa.En
