/- The contracts of the steps of the slots, and of the choices. -/
import Derived.Test.YtippclnmijelfaaSlC
import Derived.Deep.RegionHeld3
import Derived.StillTailTactics
import Derived.Deep.RegionLaw
import Derived.Deep.QuietTactic
import Derived.BigQuiet
namespace Go.Proofs.Ytippclnmijelfaa.Sl
open Go.RowKit Go.Proofs.YtippclnmijelfaaW.PrintWords Go.Proofs.YtippclnmijelfaaW.PrintLast Go.Proofs.YtippclnmijelfaaW.PrintMore
open Go.Proofs.Ytippclnmijelfaa.En Go.Proofs.Ytippclnmijelfaa.Rf Go.Proofs.Ytippclnmijelfaa.Wi Go.Proofs.Ytippclnmijelfaa.Rc Go.Proofs.Ytippclnmijelfaa.Sa
set_option linter.unusedVariables false
set_option linter.unusedSimpArgs false

structure Three (w : World) (g : Nat) (a b p q : Slot) (fm fn : Value) : Prop where
  c0 : w.cell? ⟨g, 0, none⟩ = some (.int .i64 a.s)
  c1 : w.cell? ⟨g, 1, none⟩ = some (.int .i64 a.v)
  c2 : w.cell? ⟨g, 2, none⟩ = some (.int .i64 a.t)
  c3 : w.cell? ⟨g, 3, none⟩ = some (.int .i64 b.s)
  c4 : w.cell? ⟨g, 4, none⟩ = some (.int .i64 b.v)
  c5 : w.cell? ⟨g, 5, none⟩ = some (.int .i64 b.t)
  r0 : w.cell? ⟨g + 1, 0, none⟩ = some fm
  r1 : w.cell? ⟨g + 1, 1, none⟩ = some fn
  d0 : w.cell? ⟨g + 1 + 1, 0, none⟩ = some (.int .i64 p.s)
  d1 : w.cell? ⟨g + 1 + 1, 1, none⟩ = some (.int .i64 p.v)
  d2 : w.cell? ⟨g + 1 + 1, 2, none⟩ = some (.int .i64 p.t)
  d3 : w.cell? ⟨g + 1 + 1, 3, none⟩ = some (.int .i64 q.s)
  d4 : w.cell? ⟨g + 1 + 1, 4, none⟩ = some (.int .i64 q.v)
  d5 : w.cell? ⟨g + 1 + 1, 5, none⟩ = some (.int .i64 q.t)
  f0 : ∀ j, w.frozen? ⟨g, j, none⟩ = false
  f1 : ∀ j, w.frozen? ⟨g + 1 + 1, j, none⟩ = false
  lt : g + 2 < w.heap.size
@[reducible] def oR (fm fn : Value) : Obj := .cells #[fm, fn] 86 (0, 0)
def Thr (w : World) (g : Nat) (a b p q : Slot) (fm fn : Value) : Prop := w.heap[g]? = some (oS a b) ∧ w.heap[g + 1]? = some (oR fm fn) ∧ w.heap[g + 1 + 1]? = some (oS p q)
theorem three_of {w : World} {g : Nat} {a b p q : Slot} {fm fn : Value} (h : Thr w g a b p q fm fn) : Three w g a b p q fm fn :=
  ⟨by rw [blk_cell h.1]; rfl, by rw [blk_cell h.1]; rfl, by rw [blk_cell h.1]; rfl, by rw [blk_cell h.1]; rfl, by rw [blk_cell h.1]; rfl, by rw [blk_cell h.1]; rfl,
    by rw [blk_cell h.2.1]; rfl, by rw [blk_cell h.2.1]; rfl,
    by rw [blk_cell h.2.2]; rfl, by rw [blk_cell h.2.2]; rfl, by rw [blk_cell h.2.2]; rfl, by rw [blk_cell h.2.2]; rfl, by rw [blk_cell h.2.2]; rfl, by rw [blk_cell h.2.2]; rfl,
    fun j => blk_frozen h.1 j, fun j => blk_frozen h.2.2 j, blk_lt h.2.2⟩
theorem thr_below {w w' : World} {g : Nat} {a b p q : Slot} {fm fn : Value} (h : Thr w g a b p q fm fn) (hb : Below w.heap.size w w') : Thr w' g a b p q fm fn := ⟨blk_below h.1 hb, blk_below h.2.1 hb, blk_below h.2.2 hb⟩
theorem thr_drewN {w : World} {g : Nat} {a b p q : Slot} {fm fn : Value} (h : Thr w g a b p q fm fn) (n : Nat) : Thr (w.drewN n) g a b p q fm fn := h
theorem thr_new (w : World) (a b : Slot) (fm fn : Value) : Thr (((w.alloc (oS a b)).alloc (oR fm fn)).alloc (oS Z Z)) w.heap.size a b Z Z fm fn := by
  have h1 := blk_new (w.alloc (oS a b)) (oR fm fn)
  have h2 := blk_new ((w.alloc (oS a b)).alloc (oR fm fn)) (oS Z Z)
  exact ⟨blk_alloc (blk_alloc (blk_new w _) _) _, by simpa using blk_alloc h1 (oS Z Z), by simpa using h2⟩


/-- The choice. -/
def cho (a b : Slot) (f : Int) : Int := if rk a f = 0 ∧ rk b f = 0 then -1 else if rk a f < rk b f ∨ (rk a f = rk b f ∧ a.v < b.v) then 1 else 0
set_option maxHeartbeats 8000000 in
set_option maxRecDepth 100000 in
theorem rChoose_any (a b : Slot) (f : Int) (w : World) : Calls Try.prog 53 #[stV a b, .int .i64 f] w fun e w' => e = .returned (.int .i64 (cho a b f)) ∧ Below w.heap.size w w' := by
  have HB0 := Aside0.mk (below_alloc (Below.refl w.heap.size w) (oS a b))
  have HG := Aside0.mk (blk_new w (oS a b))
  go_enter Try.func53, Try.ntmps53
  go_wp2_with fail
  refine (rank_any a f _).mono ?_
  rintro e w1 ⟨rfl, hb1⟩
  have HB1 := Aside0.mk (below_step HB0.out hb1)
  have HG1 := Aside0.mk (blk_below HG.out hb1)
  have c3 : w1.cell? ⟨w.heap.size, 3, none⟩ = some (.int .i64 b.s) := by rw [blk_cell HG1.out]; rfl
  have c4 : w1.cell? ⟨w.heap.size, 4, none⟩ = some (.int .i64 b.v) := by rw [blk_cell HG1.out]; rfl
  have c5 : w1.cell? ⟨w.heap.size, 5, none⟩ = some (.int .i64 b.t) := by rw [blk_cell HG1.out]; rfl
  clear hb1 HB0 HG
  go_wp2_with fail
  refine (rank_any b f _).mono ?_
  rintro e w2 ⟨rfl, hb2⟩
  clear c3 c4 c5
  have HB2 := Aside0.mk (below_step HB1.out hb2)
  have c1 : w2.cell? ⟨w.heap.size, 1, none⟩ = some (.int .i64 a.v) := by rw [blk_cell (blk_below HG1.out hb2)]; rfl
  have c4 : w2.cell? ⟨w.heap.size, 4, none⟩ = some (.int .i64 b.v) := by rw [blk_cell (blk_below HG1.out hb2)]; rfl
  clear hb2 HB1 HG1
  have HCH : Aside0 (cho a b f = if rk a f = 0 ∧ rk b f = 0 then -1 else if rk a f < rk b f ∨ (rk a f = rk b f ∧ a.v < b.v) then 1 else 0) := ⟨rfl⟩
  generalize rk a f = x at *
  generalize rk b f = y at *
  obtain h | h | h : (x = 0 ∧ y = 0) ∨ (x = 0 ∧ y ≠ 0) ∨ x ≠ 0 := by omega
  · have p0 : (x == 0) = true := by simp; omega
    have p1 : (y == 0) = true := by simp; omega
    have HR : Aside0 (cho a b f = -1) := ⟨by rw [HCH.out]; simp [h.1, h.2]⟩
    clear HCH
    clear h
    go_wp2
    go_ret
    refine ⟨?_, HB2.out⟩
    show Ending.returned (Value.int .i64 (-1)) = Ending.returned (Value.int .i64 (cho a b f))
    rw [HR.out]
  · have p0 : (x == 0) = true := by simp; omega
    have p1 : (y == 0) = false := by simp; omega
    obtain k | k | k | k : x < y ∨ (¬ x < y ∧ x = y ∧ a.v < b.v) ∨ (¬ x < y ∧ x = y ∧ ¬ a.v < b.v) ∨ (¬ x < y ∧ x ≠ y) := by omega
    · have q0 : decide (x < y) = true := by simp; omega
      have HR : Aside0 (cho a b f = 1) := ⟨by rw [HCH.out, if_neg (by omega), if_pos (by omega)]⟩
      clear HCH k
      clear h
      go_wp2
      go_ret
      refine ⟨?_, HB2.out⟩
      show Ending.returned (Value.int .i64 1) = Ending.returned (Value.int .i64 (cho a b f))
      rw [HR.out]
    · have q0 : decide (x < y) = false := by simp; omega
      have q1 : (x == y) = true := by simp; omega
      have q2 : decide (a.v < b.v) = true := by simp; omega
      have HR : Aside0 (cho a b f = 1) := ⟨by rw [HCH.out, if_neg (by omega), if_pos (by omega)]⟩
      clear HCH k
      clear h
      go_wp2
      go_ret
      refine ⟨?_, HB2.out⟩
      show Ending.returned (Value.int .i64 1) = Ending.returned (Value.int .i64 (cho a b f))
      rw [HR.out]
    · have q0 : decide (x < y) = false := by simp; omega
      have q1 : (x == y) = true := by simp; omega
      have q2 : decide (a.v < b.v) = false := by simp; omega
      have HR : Aside0 (cho a b f = 0) := ⟨by rw [HCH.out, if_neg (by omega), if_neg (by omega)]⟩
      clear HCH k
      clear h
      go_wp2
      go_ret
      refine ⟨?_, HB2.out⟩
      show Ending.returned (Value.int .i64 0) = Ending.returned (Value.int .i64 (cho a b f))
      rw [HR.out]
    · have q0 : decide (x < y) = false := by simp; omega
      have q1 : (x == y) = false := by simp; omega
      have HR : Aside0 (cho a b f = 0) := ⟨by rw [HCH.out, if_neg (by omega), if_neg (by omega)]⟩
      clear HCH k
      clear h
      go_wp2
      go_ret
      refine ⟨?_, HB2.out⟩
      show Ending.returned (Value.int .i64 0) = Ending.returned (Value.int .i64 (cho a b f))
      rw [HR.out]
  · have p0 : (x == 0) = false := by simp; omega
    obtain k | k | k | k : x < y ∨ (¬ x < y ∧ x = y ∧ a.v < b.v) ∨ (¬ x < y ∧ x = y ∧ ¬ a.v < b.v) ∨ (¬ x < y ∧ x ≠ y) := by omega
    · have q0 : decide (x < y) = true := by simp; omega
      have HR : Aside0 (cho a b f = 1) := ⟨by rw [HCH.out, if_neg (by omega), if_pos (by omega)]⟩
      clear HCH k
      clear h
      go_wp2
      go_ret
      refine ⟨?_, HB2.out⟩
      show Ending.returned (Value.int .i64 1) = Ending.returned (Value.int .i64 (cho a b f))
      rw [HR.out]
    · have q0 : decide (x < y) = false := by simp; omega
      have q1 : (x == y) = true := by simp; omega
      have q2 : decide (a.v < b.v) = true := by simp; omega
      have HR : Aside0 (cho a b f = 1) := ⟨by rw [HCH.out, if_neg (by omega), if_pos (by omega)]⟩
      clear HCH k
      clear h
      go_wp2
      go_ret
      refine ⟨?_, HB2.out⟩
      show Ending.returned (Value.int .i64 1) = Ending.returned (Value.int .i64 (cho a b f))
      rw [HR.out]
    · have q0 : decide (x < y) = false := by simp; omega
      have q1 : (x == y) = true := by simp; omega
      have q2 : decide (a.v < b.v) = false := by simp; omega
      have HR : Aside0 (cho a b f = 0) := ⟨by rw [HCH.out, if_neg (by omega), if_neg (by omega)]⟩
      clear HCH k
      clear h
      go_wp2
      go_ret
      refine ⟨?_, HB2.out⟩
      show Ending.returned (Value.int .i64 0) = Ending.returned (Value.int .i64 (cho a b f))
      rw [HR.out]
    · have q0 : decide (x < y) = false := by simp; omega
      have q1 : (x == y) = false := by simp; omega
      have HR : Aside0 (cho a b f = 0) := ⟨by rw [HCH.out, if_neg (by omega), if_neg (by omega)]⟩
      clear HCH k
      clear h
      go_wp2
      go_ret
      refine ⟨?_, HB2.out⟩
      show Ending.returned (Value.int .i64 0) = Ending.returned (Value.int .i64 (cho a b f))
      rw [HR.out]
end Go.Proofs.Ytippclnmijelfaa.Sl
