/- How a boot state and a slice of moves read; the contract of the statements' one step. -/
import Derived.Test.YtippclnmijelfaaSlA
import Derived.Test.YtippclnmijelfaaOpen
import Derived.Deep.Fields
import Derived.Deep.Slices
import Derived.Test.YtippclnmijelfaaSlE
namespace Go.Proofs.Ytippclnmijelfaa.Op
open Go.ChangeShapes Go.WideShapes Go.ChangeAt Go.RowKit Go.Deep
open Go.Proofs.YtippclnmijelfaaW.PrintWords Go.Proofs.Ytippclnmijelfaa.En Go.Proofs.Ytippclnmijelfaa.Wi Go.Proofs.Ytippclnmijelfaa.Sl
set_option linter.unusedVariables false
/-- The numbers of a slot are numbers of the machine. -/
def M64 (x : Slot) : Prop := I64 x.s ∧ I64 x.v ∧ I64 x.t
/-- A move: its kind, its slot, its version. -/
structure Mv where
  k : Int
  i : Int
  v : Int
instance : Inhabited Mv := ⟨⟨0, 0, 0⟩⟩
@[reducible] def mvV (m : Mv) : Value := .agg #[.int .u8 m.k, .int .u8 m.i, .int .u8 m.v]
/-- The numbers of a move are bytes. -/
def M8 (m : Mv) : Prop := (0 ≤ m.k ∧ m.k ≤ 255) ∧ (0 ≤ m.i ∧ m.i ≤ 255) ∧ (0 ≤ m.v ∧ m.v ≤ 255)
section
variable {H : Type} {enc : TypeId × Value → H} {P : Program} {W : World} {base : Nat} {spare : Nat → Bool} {held : Bool}

theorem op_slot {fuel : Nat} {cs : List Value} {x : DataW H × List MemPlace} {t : TypeId} {f0 f1 f2 : Field} (ht : P.underlying t = some (.struct #[f0, f1, f2])) (hone : oneCellFields P #[f0, f1, f2] = true)
    (h0 : P.underlying f0.type = some (.int .i64)) (h1 : P.underlying f1.type = some (.int .i64)) (h2 : P.underlying f2.type = some (.int .i64)) (hC : P.cellsOf t = 3)
    (h : DataW.trod enc P W base spare held fuel t cs = some x) : ∃ a : Slot, M64 a ∧ cs = [.int .i64 a.s, .int .i64 a.v, .int .i64 a.t] := by
  obtain ⟨xs, n, _, hx, hl, hlen, hg⟩ := DataW.trod_struct ht h
  rw [hC] at hl
  obtain ⟨o0, k0⟩ := hone_of hone 0 f0 rfl
  obtain ⟨o1, k1⟩ := hone_of hone 1 f1 rfl
  obtain ⟨o2, k2⟩ := hone_of hone 2 f2 rfl
  match cs, hl with
  | [c0, c1, c2], _ =>
    have g0 := hg 0 f0 rfl
    have g1 := hg 1 f1 rfl
    have g2 := hg 2 f2 rfl
    rw [o0, k0] at g0
    rw [o1, k1] at g1
    rw [o2, k2] at g2
    match xs, hlen with
    | [y0, y1, y2], _ =>
      obtain ⟨a, ha, _, wa⟩ := DataW.trod_int h0 g0
      obtain ⟨b, hb, _, wb⟩ := DataW.trod_int h1 g1
      obtain ⟨c, hc, _, wc⟩ := DataW.trod_int h2 g2
      simp at ha hb hc
      subst ha hb hc
      exact ⟨⟨a, b, c⟩, ⟨bounds_i64' wa, bounds_i64' wb, bounds_i64' wc⟩, rfl⟩

/-- A boot state. -/
theorem op_state {r : Reach} {b0 : Nat} {t ta ts : TypeId} {f f0 f1 f2 : Field} {v : Value} {d : DataW H} {ps : List MemPlace} (ht : P.underlying t = some (.struct #[f])) (hf : f.offset = 0 ∧ P.cellsOf f.type = 6) (hCt : P.cellsOf t = 6)
    (hta : P.underlying f.type = some (.array 2 ts)) (hts : P.underlying ts = some (.struct #[f0, f1, f2])) (hone : oneCellFields P #[f0, f1, f2] = true)
    (h0 : P.underlying f0.type = some (.int .i64)) (h1 : P.underlying f1.type = some (.int .i64)) (h2 : P.underlying f2.type = some (.int .i64)) (hC : P.cellsOf ts = 3)
    (hv : Value.okWide P W r b0 t v) (h : DataW.Trod enc P W base spare held t v d ps) : ∃ a b : Slot, v = stV a b ∧ M64 a ∧ M64 b := by
  obtain ⟨cs, rfl, hsz⟩ := okWide_struct ht hv
  obtain ⟨l⟩ := cs
  match l, hsz.trans hCt with
  | [c0, c1, c2, c3, c4, c5], _ =>
    obtain ⟨fuel, hfu⟩ := h
    obtain ⟨xs, n, _, hx, hl, hlen, hg⟩ := DataW.trod_struct ht hfu
    have g := hg 0 f rfl
    rw [hf.1, hf.2] at g
    match xs, hlen with
    | [y], _ =>
      obtain ⟨zs, m, _, _, _, hzl, hz⟩ := DataW.trod_array hta g
      rw [hC] at hz
      match zs, hzl with
      | [z0, z1], _ =>
        obtain ⟨a, Ma, ha⟩ := op_slot hts hone h0 h1 h2 hC (hz 0 (by omega))
        obtain ⟨b, Mb, hb⟩ := op_slot hts hone h0 h1 h2 hC (hz 1 (by omega))
        simp [Value.cells] at ha hb
        obtain ⟨rfl, rfl, rfl⟩ := ha
        obtain ⟨rfl, rfl, rfl⟩ := hb
        exact ⟨a, b, rfl, Ma, Mb⟩

/-- The fields of the elements of a slice of structs. -/
theorem op_rows {t e : TypeId} {fs : Array Field} {a : Option Addr} {len cap : Nat} {d : DataW H} {ps : List MemPlace} (ht : P.underlying t = some (.slice e)) (he : P.underlying e = some (.struct fs))
    (hone : oneCellFields P fs = true) (hC : P.cellsOf e = fs.size) (h : DataW.Trod enc P W base spare held t (.slice a len cap) d ps) :
    len ≤ cap ∧ len ≤ maxLen ∧ ∀ i, i < len → ∃ x, a = some x ∧ ∀ (j : Nat) (f : Field), fs[j]? = some f → ∃ (v : Value) (y : DataW H × List MemPlace) (n : Nat), W.cell? (x.add (i * fs.size + j)) = some v ∧ DataW.trod enc P W base spare held n f.type [v] = some y := by
  obtain ⟨fuel, hf⟩ := h
  rcases open_slice ht hf with ⟨hcs, _⟩ | ⟨x, l, c, m, n, DD, Pl, hcs, _, hl, hmax, hm, _, hi⟩
  · simp [Value.cells] at hcs
    obtain ⟨rfl, rfl, rfl⟩ := hcs
    exact ⟨Nat.le_refl _, by unfold maxLen; omega, fun i hi => absurd hi (by omega)⟩
  · simp [Value.cells] at hcs
    obtain ⟨rfl, rfl, rfl⟩ := hcs
    refine ⟨hl, by omega, fun i hil => ⟨x, rfl, fun j f hj => ?_⟩⟩
    have hlm : i < m := by
      rw [hm]
      split <;> omega
    obtain ⟨cs', hcl, htr⟩ := hi i hlm
    rw [hC] at hcl
    obtain ⟨ys, n', hn', hy, hlen, hyl, hff⟩ := DataW.trod_struct he htr
    obtain ⟨_, hcll, hat⟩ := World.cells?_some hcl
    obtain ⟨ho, hk⟩ := hone_of hone j f hj
    have hjl : j < fs.size := (Array.getElem?_eq_some_iff.1 hj).1
    have hcell := hat j hjl
    have hv : cs'[j]? = some (cs'[j]'(by omega)) := List.getElem?_eq_getElem (by omega)
    have h1 := hff j f hj
    rw [ho, hk] at h1
    have hone' : (cs'.drop j).take 1 = [cs'[j]'(by omega)] := by
      rw [List.drop_eq_getElem_cons (by omega)]
      rfl
    rw [hone'] at h1
    have hys : ys[j]? = some (ys[j]'(by omega)) := List.getElem?_eq_getElem (by omega)
    refine ⟨_, _, n', ?_, h1.trans hys⟩
    rw [← Go.Deep.add_add, hcell, hv]
end
/-- A slice of moves, read: each move's three cells. -/
def MvC (w : World) (A : Option Addr) (l : List Mv) : Prop :=
  ∀ i m, l[i]? = some m → ∃ b o, A = some ⟨b, o, none⟩ ∧ b < w.heap.size ∧ w.cell? ⟨b, o + i * 3, none⟩ = some (.int .u8 m.k) ∧ w.cell? ⟨b, o + i * 3 + 1, none⟩ = some (.int .u8 m.i) ∧ w.cell? ⟨b, o + i * 3 + 2, none⟩ = some (.int .u8 m.v)
theorem MvC_below {w w1 : World} {A : Option Addr} {l : List Mv} (h : MvC w A l) (hb : Below w.heap.size w w1) : MvC w1 A l := fun i m hi => by
  obtain ⟨b, o, hA, hlt, h0, h1, h2⟩ := h i m hi
  exact ⟨b, o, hA, Nat.lt_of_lt_of_le hlt hb.size, pw_cell_below hb h0, pw_cell_below hb h1, pw_cell_below hb h2⟩
section
variable {H : Type} {enc : TypeId × Value → H} {P : Program} {W : World} {base : Nat} {spare : Nat → Bool} {held : Bool}
/-- A slice of moves. -/
theorem op_moves {t e : TypeId} {f0 f1 f2 : Field} {a : Option Addr} {len cap : Nat} {d : DataW H} {ps : List MemPlace} (ht : P.underlying t = some (.slice e)) (he : P.underlying e = some (.struct #[f0, f1, f2]))
    (hone : oneCellFields P #[f0, f1, f2] = true) (hC : P.cellsOf e = 3) (h0 : P.underlying f0.type = some (.int .u8)) (h1 : P.underlying f1.type = some (.int .u8)) (h2 : P.underlying f2.type = some (.int .u8))
    (h : DataW.Trod enc P W base spare held t (.slice a len cap) d ps) : ∃ l : List Mv, len = l.length ∧ l.length ≤ cap ∧ l.length ≤ 9223372036854775807 ∧ MvC W a l ∧ ∀ m ∈ l, M8 m := by
  obtain ⟨hl, hm, hr⟩ := op_rows ht he hone hC h
  have hex : ∀ i, i < len → ∃ m : Mv, M8 m ∧ ∃ x, a = some x ∧ W.cell? (x.add (i * 3)) = some (.int .u8 m.k) ∧ W.cell? (x.add (i * 3 + 1)) = some (.int .u8 m.i) ∧ W.cell? (x.add (i * 3 + 2)) = some (.int .u8 m.v) := by
    intro i hi
    obtain ⟨x, hx, hj⟩ := hr i hi
    obtain ⟨v0, y0, n0, c0, t0⟩ := hj 0 f0 rfl
    obtain ⟨v1, y1, n1, c1, t1⟩ := hj 1 f1 rfl
    obtain ⟨v2, y2, n2, c2, t2⟩ := hj 2 f2 rfl
    obtain ⟨k, hk, _, wk⟩ := DataW.trod_int h0 t0
    obtain ⟨s, hs, _, ws⟩ := DataW.trod_int h1 t1
    obtain ⟨v, hv, _, wv⟩ := DataW.trod_int h2 t2
    simp at hk hs hv
    subst hk hs hv
    exact ⟨⟨k, s, v⟩, ⟨bounds_u8 wk, bounds_u8 ws, bounds_u8 wv⟩, x, hx, c0, c1, c2⟩
  obtain ⟨f, hf⟩ := choose_lt hex
  refine ⟨(List.range len).map f, by simp, by simpa using hl, by simp; unfold maxLen at hm; omega, fun i m him => ?_, fun m hmm => ?_⟩
  · have hil : i < len := by
      have := (List.getElem?_eq_some_iff.1 him).1
      simpa using this
    have hp : f i = m := by simpa [hil] using him
    subst hp
    obtain ⟨_, x, hx, c0, c1, c2⟩ := hf i hil
    obtain ⟨_, x0, hx0, d0, _, _⟩ := hf 0 (by omega)
    have hxx : x0 = x := by rw [hx] at hx0; injection hx0 with h; exact h.symm
    subst hxx
    have hz' : W.cell? x0 = some (Value.int .u8 (f 0).k) := by simpa [Addr.add] using d0
    have hspot := World.cell?_spot hz'
    have hlt := World.block_lt_of_cell? W x0 hz'
    obtain ⟨b, o, sp⟩ := x0
    simp only at hspot
    subst hspot
    rw [Addr.add_mid] at c0 c1 c2
    exact ⟨b, o, hx, hlt, c0, by rw [Nat.add_assoc]; exact c1, by rw [Nat.add_assoc]; exact c2⟩
  · obtain ⟨i, hi1, rfl⟩ := List.mem_map.1 hmm
    exact (hf i (List.mem_range.1 hi1)).1
end
end Go.Proofs.Ytippclnmijelfaa.Op
namespace Go.Proofs.Ytippclnmijelfaa.Sl
open Go.RowKit Go.Proofs.YtippclnmijelfaaW.PrintWords Go.Proofs.YtippclnmijelfaaW.PrintLast Go.Proofs.YtippclnmijelfaaW.PrintMore
open Go.Proofs.Ytippclnmijelfaa.En Go.Proofs.Ytippclnmijelfaa.Rf Go.Proofs.Ytippclnmijelfaa.Wi Go.Proofs.Ytippclnmijelfaa.Rc Go.Proofs.Ytippclnmijelfaa.Sa Go.Proofs.Ytippclnmijelfaa.Op
set_option linter.unusedVariables false
set_option linter.unusedSimpArgs false
/-- One step. -/
def step (a b : Slot) (m : Mv) : Slot × Slot × Int :=
  if m.k % 5 = 0 then clear a b (m.i % 2) else if m.k % 5 = 1 then stage (1 + m.v % 16) a b (m.i % 2) else if m.k % 5 = 2 then begn a b (m.i % 2) else if m.k % 5 = 3 then confm a b (m.i % 2) else fal a b (m.i % 2)
@[reducible] def oM (m : Mv) : Obj := .cells #[.int .u8 m.k, .int .u8 m.i, .int .u8 m.v] 70 (0, 0)

set_option maxHeartbeats 8000000 in
set_option maxRecDepth 100000 in
theorem step_clear (a b : Slot) (m : Mv) (w : World) (hm : M8 m) (hk : m.k % 5 = 0) : Calls Try.prog 60 #[stV a b, mvV m] w fun e w' => e = .returned (res (clear a b (m.i % 2))) ∧ Below w.heap.size w w' := by
  obtain ⟨⟨hk0, hk1⟩, ⟨hi0, hi1⟩, ⟨hv0, hv1⟩⟩ := hm
  have hb0 := blk_new ((w.alloc (oS a b)).alloc (oM m)) (oS Z Z)
  have hs2 : ((w.alloc (oS a b)).alloc (oM m)).heap.size = w.heap.size + 1 + 1 := by simp
  rw [hs2] at hb0
  have HB0 := Aside0.mk (below_alloc (below_alloc (below_alloc (Below.refl w.heap.size w) (oS a b)) (oM m)) (oS Z Z))
  have HT := Aside0.mk hb0
  clear hb0 hs2
  obtain ⟨p, q, c, hpq⟩ : ∃ p q c, clear a b (m.i % 2) = (p, q, c) := ⟨_, _, _, rfl⟩
  have HP := Aside0.mk hpq
  clear hpq
  go_enter Try.func60, Try.ntmps60
  go_wp2_with fail
  refine (Clear_any a b (m.i % 2) _).mono ?_
  rintro e w1 ⟨rfl, hb1⟩
  have HB1 := Aside0.mk (below_step HB0.out hb1)
  have h2 := blk_below HT.out hb1
  have d0 : w1.cell? ⟨w.heap.size + 1 + 1, 0, none⟩ = some (.int .i64 0) := by rw [blk_cell h2]; rfl
  have d1 : w1.cell? ⟨w.heap.size + 1 + 1, 1, none⟩ = some (.int .i64 0) := by rw [blk_cell h2]; rfl
  have d2 : w1.cell? ⟨w.heap.size + 1 + 1, 2, none⟩ = some (.int .i64 0) := by rw [blk_cell h2]; rfl
  have d3 : w1.cell? ⟨w.heap.size + 1 + 1, 3, none⟩ = some (.int .i64 0) := by rw [blk_cell h2]; rfl
  have d4 : w1.cell? ⟨w.heap.size + 1 + 1, 4, none⟩ = some (.int .i64 0) := by rw [blk_cell h2]; rfl
  have d5 : w1.cell? ⟨w.heap.size + 1 + 1, 5, none⟩ = some (.int .i64 0) := by rw [blk_cell h2]; rfl
  have f1 : ∀ j, w1.frozen? ⟨w.heap.size + 1 + 1, j, none⟩ = false := fun j => blk_frozen h2 j
  clear hb1 HB0 HT h2
  rw [HP.out]
  go_wp2_with fail
  refine bodyPost_ret (v := .tuple #[stV p q, .int .i64 c]) (by simp [results, Try.results60, go_sem, d0, d1, d2, d3, d4, d5]) rfl ⟨by rw [HP.out], ?_⟩
  repeat (first | (with_reducible exact HB1.out) | refine below_set ?_ (by omega))

set_option maxHeartbeats 8000000 in
set_option maxRecDepth 100000 in
theorem step_stage (a b : Slot) (m : Mv) (w : World) (hm : M8 m) (hk : m.k % 5 = 1) : Calls Try.prog 60 #[stV a b, mvV m] w fun e w' => e = .returned (res (stage (1 + m.v % 16) a b (m.i % 2))) ∧ Below w.heap.size w w' := by
  obtain ⟨⟨hk0, hk1⟩, ⟨hi0, hi1⟩, ⟨hv0, hv1⟩⟩ := hm
  have hb0 := blk_new ((w.alloc (oS a b)).alloc (oM m)) (oS Z Z)
  have hs2 : ((w.alloc (oS a b)).alloc (oM m)).heap.size = w.heap.size + 1 + 1 := by simp
  rw [hs2] at hb0
  have HB0 := Aside0.mk (below_alloc (below_alloc (below_alloc (Below.refl w.heap.size w) (oS a b)) (oM m)) (oS Z Z))
  have HT := Aside0.mk hb0
  clear hb0 hs2
  obtain ⟨p, q, c, hpq⟩ : ∃ p q c, stage (1 + m.v % 16) a b (m.i % 2) = (p, q, c) := ⟨_, _, _, rfl⟩
  have HP := Aside0.mk hpq
  clear hpq
  go_enter Try.func60, Try.ntmps60
  go_wp2_with fail
  refine (Stage_any a b (m.i % 2) (1 + m.v % 16) _).mono ?_
  rintro e w1 ⟨rfl, hb1⟩
  have HB1 := Aside0.mk (below_step HB0.out hb1)
  have h2 := blk_below HT.out hb1
  have d0 : w1.cell? ⟨w.heap.size + 1 + 1, 0, none⟩ = some (.int .i64 0) := by rw [blk_cell h2]; rfl
  have d1 : w1.cell? ⟨w.heap.size + 1 + 1, 1, none⟩ = some (.int .i64 0) := by rw [blk_cell h2]; rfl
  have d2 : w1.cell? ⟨w.heap.size + 1 + 1, 2, none⟩ = some (.int .i64 0) := by rw [blk_cell h2]; rfl
  have d3 : w1.cell? ⟨w.heap.size + 1 + 1, 3, none⟩ = some (.int .i64 0) := by rw [blk_cell h2]; rfl
  have d4 : w1.cell? ⟨w.heap.size + 1 + 1, 4, none⟩ = some (.int .i64 0) := by rw [blk_cell h2]; rfl
  have d5 : w1.cell? ⟨w.heap.size + 1 + 1, 5, none⟩ = some (.int .i64 0) := by rw [blk_cell h2]; rfl
  have f1 : ∀ j, w1.frozen? ⟨w.heap.size + 1 + 1, j, none⟩ = false := fun j => blk_frozen h2 j
  clear hb1 HB0 HT h2
  rw [HP.out]
  go_wp2_with fail
  refine bodyPost_ret (v := .tuple #[stV p q, .int .i64 c]) (by simp [results, Try.results60, go_sem, d0, d1, d2, d3, d4, d5]) rfl ⟨by rw [HP.out], ?_⟩
  repeat (first | (with_reducible exact HB1.out) | refine below_set ?_ (by omega))

set_option maxHeartbeats 8000000 in
set_option maxRecDepth 100000 in
theorem step_begn (a b : Slot) (m : Mv) (w : World) (hm : M8 m) (hk : m.k % 5 = 2) : Calls Try.prog 60 #[stV a b, mvV m] w fun e w' => e = .returned (res (begn a b (m.i % 2))) ∧ Below w.heap.size w w' := by
  obtain ⟨⟨hk0, hk1⟩, ⟨hi0, hi1⟩, ⟨hv0, hv1⟩⟩ := hm
  have hb0 := blk_new ((w.alloc (oS a b)).alloc (oM m)) (oS Z Z)
  have hs2 : ((w.alloc (oS a b)).alloc (oM m)).heap.size = w.heap.size + 1 + 1 := by simp
  rw [hs2] at hb0
  have HB0 := Aside0.mk (below_alloc (below_alloc (below_alloc (Below.refl w.heap.size w) (oS a b)) (oM m)) (oS Z Z))
  have HT := Aside0.mk hb0
  clear hb0 hs2
  obtain ⟨p, q, c, hpq⟩ : ∃ p q c, begn a b (m.i % 2) = (p, q, c) := ⟨_, _, _, rfl⟩
  have HP := Aside0.mk hpq
  clear hpq
  go_enter Try.func60, Try.ntmps60
  go_wp2_with fail
  refine (Begin_any a b (m.i % 2) _).mono ?_
  rintro e w1 ⟨rfl, hb1⟩
  have HB1 := Aside0.mk (below_step HB0.out hb1)
  have h2 := blk_below HT.out hb1
  have d0 : w1.cell? ⟨w.heap.size + 1 + 1, 0, none⟩ = some (.int .i64 0) := by rw [blk_cell h2]; rfl
  have d1 : w1.cell? ⟨w.heap.size + 1 + 1, 1, none⟩ = some (.int .i64 0) := by rw [blk_cell h2]; rfl
  have d2 : w1.cell? ⟨w.heap.size + 1 + 1, 2, none⟩ = some (.int .i64 0) := by rw [blk_cell h2]; rfl
  have d3 : w1.cell? ⟨w.heap.size + 1 + 1, 3, none⟩ = some (.int .i64 0) := by rw [blk_cell h2]; rfl
  have d4 : w1.cell? ⟨w.heap.size + 1 + 1, 4, none⟩ = some (.int .i64 0) := by rw [blk_cell h2]; rfl
  have d5 : w1.cell? ⟨w.heap.size + 1 + 1, 5, none⟩ = some (.int .i64 0) := by rw [blk_cell h2]; rfl
  have f1 : ∀ j, w1.frozen? ⟨w.heap.size + 1 + 1, j, none⟩ = false := fun j => blk_frozen h2 j
  clear hb1 HB0 HT h2
  rw [HP.out]
  go_wp2_with fail
  refine bodyPost_ret (v := .tuple #[stV p q, .int .i64 c]) (by simp [results, Try.results60, go_sem, d0, d1, d2, d3, d4, d5]) rfl ⟨by rw [HP.out], ?_⟩
  repeat (first | (with_reducible exact HB1.out) | refine below_set ?_ (by omega))

set_option maxHeartbeats 8000000 in
set_option maxRecDepth 100000 in
theorem step_confm (a b : Slot) (m : Mv) (w : World) (hm : M8 m) (hk : m.k % 5 = 3) : Calls Try.prog 60 #[stV a b, mvV m] w fun e w' => e = .returned (res (confm a b (m.i % 2))) ∧ Below w.heap.size w w' := by
  obtain ⟨⟨hk0, hk1⟩, ⟨hi0, hi1⟩, ⟨hv0, hv1⟩⟩ := hm
  have hb0 := blk_new ((w.alloc (oS a b)).alloc (oM m)) (oS Z Z)
  have hs2 : ((w.alloc (oS a b)).alloc (oM m)).heap.size = w.heap.size + 1 + 1 := by simp
  rw [hs2] at hb0
  have HB0 := Aside0.mk (below_alloc (below_alloc (below_alloc (Below.refl w.heap.size w) (oS a b)) (oM m)) (oS Z Z))
  have HT := Aside0.mk hb0
  clear hb0 hs2
  obtain ⟨p, q, c, hpq⟩ : ∃ p q c, confm a b (m.i % 2) = (p, q, c) := ⟨_, _, _, rfl⟩
  have HP := Aside0.mk hpq
  clear hpq
  go_enter Try.func60, Try.ntmps60
  go_wp2_with fail
  refine (Confirm_any a b (m.i % 2) _).mono ?_
  rintro e w1 ⟨rfl, hb1⟩
  have HB1 := Aside0.mk (below_step HB0.out hb1)
  have h2 := blk_below HT.out hb1
  have d0 : w1.cell? ⟨w.heap.size + 1 + 1, 0, none⟩ = some (.int .i64 0) := by rw [blk_cell h2]; rfl
  have d1 : w1.cell? ⟨w.heap.size + 1 + 1, 1, none⟩ = some (.int .i64 0) := by rw [blk_cell h2]; rfl
  have d2 : w1.cell? ⟨w.heap.size + 1 + 1, 2, none⟩ = some (.int .i64 0) := by rw [blk_cell h2]; rfl
  have d3 : w1.cell? ⟨w.heap.size + 1 + 1, 3, none⟩ = some (.int .i64 0) := by rw [blk_cell h2]; rfl
  have d4 : w1.cell? ⟨w.heap.size + 1 + 1, 4, none⟩ = some (.int .i64 0) := by rw [blk_cell h2]; rfl
  have d5 : w1.cell? ⟨w.heap.size + 1 + 1, 5, none⟩ = some (.int .i64 0) := by rw [blk_cell h2]; rfl
  have f1 : ∀ j, w1.frozen? ⟨w.heap.size + 1 + 1, j, none⟩ = false := fun j => blk_frozen h2 j
  clear hb1 HB0 HT h2
  rw [HP.out]
  go_wp2_with fail
  refine bodyPost_ret (v := .tuple #[stV p q, .int .i64 c]) (by simp [results, Try.results60, go_sem, d0, d1, d2, d3, d4, d5]) rfl ⟨by rw [HP.out], ?_⟩
  repeat (first | (with_reducible exact HB1.out) | refine below_set ?_ (by omega))

set_option maxHeartbeats 8000000 in
set_option maxRecDepth 100000 in
theorem step_fal (a b : Slot) (m : Mv) (w : World) (hm : M8 m) (hk : m.k % 5 = 4) : Calls Try.prog 60 #[stV a b, mvV m] w fun e w' => e = .returned (res (fal a b (m.i % 2))) ∧ Below w.heap.size w w' := by
  obtain ⟨⟨hk0, hk1⟩, ⟨hi0, hi1⟩, ⟨hv0, hv1⟩⟩ := hm
  have hb0 := blk_new ((w.alloc (oS a b)).alloc (oM m)) (oS Z Z)
  have hs2 : ((w.alloc (oS a b)).alloc (oM m)).heap.size = w.heap.size + 1 + 1 := by simp
  rw [hs2] at hb0
  have HB0 := Aside0.mk (below_alloc (below_alloc (below_alloc (Below.refl w.heap.size w) (oS a b)) (oM m)) (oS Z Z))
  have HT := Aside0.mk hb0
  clear hb0 hs2
  obtain ⟨p, q, c, hpq⟩ : ∃ p q c, fal a b (m.i % 2) = (p, q, c) := ⟨_, _, _, rfl⟩
  have HP := Aside0.mk hpq
  clear hpq
  go_enter Try.func60, Try.ntmps60
  go_wp2_with fail
  refine (Fail_any a b (m.i % 2) _).mono ?_
  rintro e w1 ⟨rfl, hb1⟩
  have HB1 := Aside0.mk (below_step HB0.out hb1)
  have h2 := blk_below HT.out hb1
  have d0 : w1.cell? ⟨w.heap.size + 1 + 1, 0, none⟩ = some (.int .i64 0) := by rw [blk_cell h2]; rfl
  have d1 : w1.cell? ⟨w.heap.size + 1 + 1, 1, none⟩ = some (.int .i64 0) := by rw [blk_cell h2]; rfl
  have d2 : w1.cell? ⟨w.heap.size + 1 + 1, 2, none⟩ = some (.int .i64 0) := by rw [blk_cell h2]; rfl
  have d3 : w1.cell? ⟨w.heap.size + 1 + 1, 3, none⟩ = some (.int .i64 0) := by rw [blk_cell h2]; rfl
  have d4 : w1.cell? ⟨w.heap.size + 1 + 1, 4, none⟩ = some (.int .i64 0) := by rw [blk_cell h2]; rfl
  have d5 : w1.cell? ⟨w.heap.size + 1 + 1, 5, none⟩ = some (.int .i64 0) := by rw [blk_cell h2]; rfl
  have f1 : ∀ j, w1.frozen? ⟨w.heap.size + 1 + 1, j, none⟩ = false := fun j => blk_frozen h2 j
  clear hb1 HB0 HT h2
  rw [HP.out]
  go_wp2_with fail
  refine bodyPost_ret (v := .tuple #[stV p q, .int .i64 c]) (by simp [results, Try.results60, go_sem, d0, d1, d2, d3, d4, d5]) rfl ⟨by rw [HP.out], ?_⟩
  repeat (first | (with_reducible exact HB1.out) | refine below_set ?_ (by omega))

theorem step_any (a b : Slot) (m : Mv) (w : World) (hm : M8 m) : Calls Try.prog 60 #[stV a b, mvV m] w fun e w' => e = .returned (res (step a b m)) ∧ Below w.heap.size w w' := by
  have h5 : m.k % 5 = 0 ∨ m.k % 5 = 1 ∨ m.k % 5 = 2 ∨ m.k % 5 = 3 ∨ m.k % 5 = 4 := by omega
  rcases h5 with h | h | h | h | h
  · have hs : step a b m = clear a b (m.i % 2) := by unfold step; simp [h]
    rw [hs]
    exact step_clear a b m w hm h
  · have hs : step a b m = stage (1 + m.v % 16) a b (m.i % 2) := by unfold step; simp [h]
    rw [hs]
    exact step_stage a b m w hm h
  · have hs : step a b m = begn a b (m.i % 2) := by unfold step; simp [h]
    rw [hs]
    exact step_begn a b m w hm h
  · have hs : step a b m = confm a b (m.i % 2) := by unfold step; simp [h]
    rw [hs]
    exact step_confm a b m w hm h
  · have hs : step a b m = fal a b (m.i % 2) := by unfold step; simp [h]
    rw [hs]
    exact step_fal a b m w hm h
end Go.Proofs.Ytippclnmijelfaa.Sl
