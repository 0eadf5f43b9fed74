/- The walk of the statement that decoding the encoding of an integer returns the integer. -/
import Derived.Test.YtippclnmijelfaaTight
namespace Go.Proofs.Ytippclnmijelfaa.LIrt
open Go.RowKit Go.Proofs.YtippclnmijelfaaW.PrintWords Go.Proofs.YtippclnmijelfaaW.PrintLast Go.Proofs.YtippclnmijelfaaW.PrintMore
open Go.Proofs.Ytippclnmijelfaa.En Go.Proofs.Ytippclnmijelfaa.Rf Go.Proofs.Ytippclnmijelfaa.Wi Go.Proofs.Ytippclnmijelfaa.Rc Go.Proofs.Ytippclnmijelfaa.Sa
attribute [local go_sem] max2_int min2_int max_two min_two
set_option linter.unusedVariables false
set_option linter.unusedSimpArgs false

/-- 'b[:len(b):len(b)]'. -/
theorem cut_tight (A : Option Addr) (n c : Nat) (hc : n ≤ c) : ∀ W : World, (Instr.slice 26 (.slice A n c) none (some (.int .i64 (n : Int))) (some (.int .i64 (n : Int)))).run Try.prog W = .ok (.slice A n n) W := by
  intro W
  have hel : Try.prog.elem 26 = 5 := by simp [Program.elem, Try.underlying26]
  have hu : Try.prog.underlying 26 = some (.slice (Try.prog.elem 26)) := by rw [hel]; exact Try.underlying26
  obtain ⟨i05, hi05, _, hsz5, _⟩ := info_parts info5
  have ha : (A.map fun x => x.add 0) = A := by cases A <;> simp [Addr.add]
  rw [run_slice_hm W 26 A n c hu .i64 .i64 (n : Int) (n : Int) (by omega) (by omega) (by omega), hel]
  simp [sizeOf, typeInfo, hi05, hsz5, sliced, Result.andThen, ha]

set_option maxHeartbeats 8000000 in
set_option maxRecDepth 100000 in
theorem walk (n : Int) (A : Option Addr) (c : Nat) (b : List Int) (w : World) (hn : I64 n) (hr : Kd.C (Kd.int .u8) w A b.length b) (hc : b.length ≤ c) (hz : b.length * 1 ≤ 140737488351232) (hb : IsB b) :
    Calls Try.prog 5 #[.int .i64 n, .slice A b.length c] w fun e w' => e = .returned (.bool true) ∧ Below w.heap.size w w' := by
  have HR := Aside0.mk hr
  have HN := Aside0.mk hn
  have HBy := Aside0.mk ((encI_bytes n).append hb)
  have HDec := Aside0.mk (dec_enc hn b)
  clear hr hb
  by_cases hbig : 2000 < b.length
  · go_enter Try.func5, Try.ntmps5
    go_wp2_with fail
    refine (sanity_any _).mono ?_
    rintro e w1 ⟨rfl, hb1⟩
    have HB1 := Aside0.mk hb1
    clear hb1
    go_wp2
    go_ret
    exact ⟨rfl, HB1.out⟩
  · have hel := encI_len hn
    have hep := encI_pos n
    clear hn
    go_enter Try.func5, Try.ntmps5
    go_wp2_with fail
    refine (Int_any n _ HN.out).mono ?_
    rintro e w2 ⟨v2, rfl, ho2, hb2⟩
    have HB2 := Aside0.mk hb2
    generalize encI n = E at *
    obtain ⟨P2, k2, rfl, hk2, hC2⟩ := Kd.R_reads ho2
    have HC2 := Aside0.mk hC2
    have hcut := cut_tight P2 E.length k2 hk2
    clear ho2 hb2 hC2
    obtain ⟨Z, hZ⟩ : ∃ Z, Z = E ++ b := ⟨_, rfl⟩
    rw [← hZ] at HBy HDec
    have HZ := Aside0.mk hZ
    clear hZ
    go_wp2_with (at_builtin; refine wpList_append_tight rfl (.tmp 21) (.tmp 22) rfl P2 A c E b Z HZ.out rfl rfl hep HC2.out (Kd.C_below HR.out HB2.out) (by omega) ?_; intro P3 k3 w3 hk3 hC3 hb3; have HC3 := Aside0.mk hC3; have HB3 := Aside0.mk (below_step HB2.out hb3); clear hC3 hb3)
    refine (GetInt_any P3 k3 Z n (E.length : Int) 0 w3 HBy.out HC3.out hk3 HDec.out).mono ?_
    rintro e w4 ⟨rfl, rfl⟩
    go_wp2_with fail
    refine (sanity_any _).mono ?_
    rintro e w5 ⟨rfl, hb5⟩
    have HB5 := Aside0.mk (below_step HB3.out hb5)
    clear hb5 HB3
    go_wp2
    go_ret
    refine ⟨?_, HB5.out⟩
    show Ending.returned (Value.bool (decide ((E.length : Int) ≤ 10))) = _
    rw [decide_eq_true (by omega)]
end Go.Proofs.Ytippclnmijelfaa.LIrt
