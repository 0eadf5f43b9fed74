/- The reference's comparison of two lists of digests. -/
import Derived.Test.YtippclnmijelfaaRefD
import Derived.ChangeKeysEq
namespace Go.Proofs.Ytippclnmijelfaa.Rc
open Go.RowKit Go.Proofs.YtippclnmijelfaaW.PrintWords Go.Proofs.YtippclnmijelfaaW.PrintLast Go.Proofs.YtippclnmijelfaaW.PrintMore
open Go.Proofs.Ytippclnmijelfaa.En Go.Proofs.Ytippclnmijelfaa.Rf Go.Proofs.Ytippclnmijelfaa.Wi
attribute [local go_sem] max2_int min2_int max_two min_two
set_option linter.unusedVariables false
set_option linter.unusedSimpArgs false

/-! ### two digests compared -/
theorem eq_items (d : Nat) (x y : List Int) (w : World) : ∀ is : List Nat, (∀ i ∈ is, i < x.length ∧ i < y.length) →
    (Op.eqItems (d + 1) 5 1 (encs (Value.int .u8) x).toArray (encs (Value.int .u8) y).toArray is).run Try.prog w = .ok (is.all fun i => x.getD i 0 == y.getD i 0) w := by
  intro is
  induction is with
  | nil => intro _; simp [Op.eqItems]
  | cons i is ih =>
    intro h
    obtain ⟨h1, h2⟩ := h i (by simp)
    have p1 : (part 5 (encs (Value.int .u8) x).toArray (i * 1)).run Try.prog w = .ok (.int .u8 (x.getD i 0)) w := run_part_plain w (by kernel_rfl) (by rw [Nat.mul_one, List.getElem?_toArray]; exact encs_get x i h1)
    have p2 : (part 5 (encs (Value.int .u8) y).toArray (i * 1)).run Try.prog w = .ok (.int .u8 (y.getD i 0)) w := run_part_plain w (by kernel_rfl) (by rw [Nat.mul_one, List.getElem?_toArray]; exact encs_get y i h2)
    have p3 := run_equalIn_int (P := Try.prog) w d 5 .u8 .u8 (x.getD i 0) (y.getD i 0) Try.underlying5
    have p4 := ih (fun j hj => h j (by simp [hj]))
    simp only [Op.eqItems, Sem.run_bind, p1, p2, p3, Result.andThen_ok, List.all_cons]
    cases hb : x.getD i 0 == y.getD i 0 with
    | false => simp
    | true => simpa using p4
theorem all_eq (x y : List Int) (n : Nat) (hx : x.length = n) (hy : y.length = n) : ((List.range n).all fun i => x.getD i 0 == y.getD i 0) = decide (x = y) := by
  rw [Bool.eq_iff_iff]
  simp only [List.all_eq_true, List.mem_range, beq_iff_eq, decide_eq_true_eq]
  constructor
  · intro h
    refine List.ext_getElem (by omega) fun i h1 h2 => ?_
    have := h i (by omega)
    simpa [List.getD_eq_getElem?_getD, List.getElem?_eq_getElem h1, List.getElem?_eq_getElem h2] using this
  · rintro rfl i _
    rfl
theorem eq_digest (x y : List Int) (hx : x.length = 16) (hy : y.length = 16) (w : World) :
    (Op.equalIn 10000 74 (.agg (encs (Value.int .u8) x).toArray) (.agg (encs (Value.int .u8) y).toArray)).run Try.prog w = .ok (decide (x = y)) w := by
  obtain ⟨i05, hi05, _, hsz5, _⟩ := info_parts info5
  rw [run_equalIn_array (P := Try.prog) w 9999 _ _ Try.underlying74 hi05]
  have hc : Try.prog.cellsOf 5 = 1 := by kernel_rfl
  rw [hc, eq_items 9998 x y w _ (fun i hi => by have := List.mem_range.1 hi; omega), all_eq x y 16 hx hy]

section
variable {P : Program} {ops : Array Oper} {C : World → Prop} {Q : Act → Prop}
/-- A whole array loaded in a region that only reads. -/
theorem wpQuiet_load_mid {rest : List Oper} {op : Oper} {a : Act} (hw : Region.wanted op (yielded ops a.tmps) = true) (ty : TypeId) (x : Operand) (ho : op.op = .load ty x)
    (b o : Nat) (hx : a.eval x = .pointer (some ⟨b, o, none⟩)) (cs : List Value) (d : TypeDesc) (hC : ∀ w, C w → w.rangeAt b o cs)
    (hu : P.underlying ty = some d) (hd : d.isRow = true) (hi : (P.info? ty).map (·.size) = some cs.length)
    (h : wpQuiet P ops C Q rest (a.put op.dst (.agg cs.toArray))) : wpQuiet P ops C Q (op :: rest) a := by
  unfold wpQuiet
  rw [if_pos hw]
  refine ⟨.agg cs.toArray, fun w hw' => ?_, h⟩
  unfold Oper.quietAt execOp
  simp only [ho, hx, Instr.loadAt, Instr.sureAddr, Sem.run_bind, Sem.run_pure, Result.andThen_ok, run_loadVar_mid w b o ty cs d (hC w hw') hu hd hi]
  exact ⟨rfl, rfl⟩
end

set_option maxHeartbeats 4000000 in
set_option maxRecDepth 100000 in
theorem SameDigests_any (A B : Option Addr) (ca cb : Nat) (a b : List (List Int)) (w : World) (ha : D.C w A a.length a) (hca : a.length ≤ ca) (hb : D.C w B b.length b) (hcb : b.length ≤ cb) (hl : a.length ≤ 1000000) :
    Calls Try.prog 37 #[.slice A a.length ca, .slice B b.length cb] w fun e w' => e = .returned (.bool (decide (a = b))) ∧ Below w.heap.size w w' := by
  have HA := Aside0.mk ha
  have HBB := Aside0.mk hb
  clear ha hb
  by_cases hab : a.length = b.length
  · have hne : ((a.length : Int) != (b.length : Int)) = false := by rw [hab]; simp
    have Hab := Aside0.mk hab
    have hlb : b.length ≤ 1000000 := by omega
    clear hab
    go_enter Try.func37, Try.ntmps37
    go_wp2_with fail
    go_loopw [5] (fun x5 wr => ∃ (k : Nat), x5 = .int .i64 (k : Int) ∧ k ≤ a.length ∧ Aside0 (a.take k = b.take k) ∧ Aside0 (Below w.heap.size w wr)) (fun i _ => a.length - (intOf i).toNat)
    case atStart => exact ⟨0, rfl, Nat.zero_le _, ⟨rfl⟩, ⟨Below.refl _ _⟩⟩
    case round =>
      obtain ⟨k, rfl, hk, HE, HB⟩ := hrel
      by_cases hlt : k < a.length
      · have hltb : k < b.length := by have := Hab.out; omega
        obtain ⟨g, o, x, rfl, hx, hx16, hrx, _⟩ := D_at HA.out k hlt
        obtain ⟨g', o', y, rfl, hy, hy16, hry, _⟩ := D_at HBB.out k hltb
        have Hx := Aside0.mk hx
        have Hy := Aside0.mk hy
        have Hrx := Aside0.mk (rangeAt_below hrx HB.out)
        have Hry := Aside0.mk (rangeAt_below hry HB.out)
        have hsx : Aside0 ((Try.prog.info? 74).map (·.size) = some (encs (Value.int .u8) x).length) := ⟨by rw [encs_length, hx16]; exact size74⟩
        have hsy : Aside0 ((Try.prog.info? 74).map (·.size) = some (encs (Value.int .u8) y).length) := ⟨by rw [encs_length, hy16]; exact size74⟩
        have heq := fun W => eq_digest x y hx16 hy16 W
        have hgt : Try.prog.eqGuardType Try.prog.depth 74 = false := by kernel_rfl
        clear hx hy hx16 hy16 hrx hry
        by_cases hxy : x = y
        · have hd : decide (x = y) = true := decide_eq_true hxy
          have HXY := Aside0.mk hxy
          simp only [hd] at heq
          clear hxy hd
          generalize encs (Value.int .u8) x = cx at *
          generalize encs (Value.int .u8) y = cy at *
          go_wp2_with fail
          refine wp_region_quiet_lit (by kernel_rfl) (by kernel_rfl) ?_
          go_big_quiet_step (fail)
          go_big_quiet_step (fail)
          go_big_quiet_step (fail)
          refine wpQuiet_load_mid rfl 74 (.tmp 19) rfl g (o + k * 16) rfl cx _ (fun W hW => by obtain ⟨n, rfl⟩ := hW; exact Hrx.out) Try.underlying74 rfl hsx.out ?_
          simp only [Act.put, List.setIfInBounds_toArray, List.set_cons_zero, List.set_cons_succ]
          go_big_quiet_step (fail)
          go_big_quiet_step (fail)
          go_big_quiet_step (fail)
          refine wpQuiet_load_mid rfl 74 (.tmp 23) rfl g' (o' + k * 16) rfl cy _ (fun W hW => by obtain ⟨n, rfl⟩ := hW; exact Hry.out) Try.underlying74 rfl hsy.out ?_
          simp only [Act.put, List.setIfInBounds_toArray, List.set_cons_zero, List.set_cons_succ]
          go_big_quiet_step (fail)
          refine wpQuiet_nil ?_
          intro _ hw'
          obtain ⟨nq, hw''⟩ := hw'
          subst hw''
          go_wp2
          go_roundw
          case rel => exact ⟨k + 1, by go_num, by omega, ⟨by rw [List.take_add_one, List.take_add_one, Hx.out, Hy.out, HE.out, HXY.out]⟩, ⟨pw_below_drewN HB.out nq⟩⟩
          case measure => simp [intOf]; omega
        · have hd : decide (x = y) = false := decide_eq_false hxy
          have HF : Aside0 (decide (a = b) = false) := ⟨decide_eq_false (fun e => hxy (by
            have h1 := Hx.out
            rw [e, Hy.out] at h1
            injection h1 with h1
            exact h1.symm))⟩
          simp only [hd] at heq
          clear hxy hd
          generalize encs (Value.int .u8) x = cx at *
          generalize encs (Value.int .u8) y = cy at *
          go_wp2_with fail
          refine wp_region_quiet_lit (by kernel_rfl) (by kernel_rfl) ?_
          go_big_quiet_step (fail)
          go_big_quiet_step (fail)
          go_big_quiet_step (fail)
          refine wpQuiet_load_mid rfl 74 (.tmp 19) rfl g (o + k * 16) rfl cx _ (fun W hW => by obtain ⟨n, rfl⟩ := hW; exact Hrx.out) Try.underlying74 rfl hsx.out ?_
          simp only [Act.put, List.setIfInBounds_toArray, List.set_cons_zero, List.set_cons_succ]
          go_big_quiet_step (fail)
          go_big_quiet_step (fail)
          go_big_quiet_step (fail)
          refine wpQuiet_load_mid rfl 74 (.tmp 23) rfl g' (o' + k * 16) rfl cy _ (fun W hW => by obtain ⟨n, rfl⟩ := hW; exact Hry.out) Try.underlying74 rfl hsy.out ?_
          simp only [Act.put, List.setIfInBounds_toArray, List.set_cons_zero, List.set_cons_succ]
          go_big_quiet_step (fail)
          refine wpQuiet_nil ?_
          intro _ hw'
          obtain ⟨nq, hw''⟩ := hw'
          subst hw''
          go_wp2
          go_ret
          exact ⟨by rw [HF.out]; rfl, pw_below_drewN HB.out nq⟩
      · have HT : Aside0 (decide (a = b) = true) := ⟨decide_eq_true (by
          have h1 := HE.out
          have h2 := Hab.out
          rwa [List.take_of_length_le (by omega), List.take_of_length_le (by omega)] at h1)⟩
        go_wp2
        go_ret
        exact ⟨by rw [HT.out]; rfl, HB.out⟩
  · have hne : ((a.length : Int) != (b.length : Int)) = true := by rw [bne_iff_ne]; omega
    have HF : Aside0 (decide (a = b) = false) := ⟨decide_eq_false (fun e => hab (by rw [e]))⟩
    clear hab
    go_enter Try.func37, Try.ntmps37
    go_wp2
    go_ret
    exact ⟨by rw [HF.out]; rfl, Below.refl _ _⟩
end Go.Proofs.Ytippclnmijelfaa.Rc
