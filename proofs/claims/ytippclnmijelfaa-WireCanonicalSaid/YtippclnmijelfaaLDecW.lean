/- The walk of the statement that the decodings are those of the specification. -/
import Derived.Test.YtippclnmijelfaaSan
namespace Go.Proofs.Ytippclnmijelfaa.LDec
open Go.RowKit Go.Proofs.YtippclnmijelfaaW.PrintWords Go.Proofs.YtippclnmijelfaaW.PrintLast Go.Proofs.YtippclnmijelfaaW.PrintMore
open Go.Proofs.Ytippclnmijelfaa.En Go.Proofs.Ytippclnmijelfaa.Rf Go.Proofs.Ytippclnmijelfaa.Wi Go.Proofs.Ytippclnmijelfaa.Rc Go.Proofs.Ytippclnmijelfaa.Sa
attribute [local go_sem] max2_int min2_int max_two min_two
set_option linter.unusedVariables false
set_option linter.unusedSimpArgs false

theorem ints_len : ∀ (n : Nat) (b : List Int), (ints n b).1.length ≤ n := by
  intro n
  induction n with
  | zero => intro b; simp [ints]
  | succ n ih =>
    intro b
    simp only [ints]
    split
    · simp
    · split
      · simp
      · simp only [List.length_cons]
        have := ih (b.drop (dec b).2.1.toNat)
        omega
theorem decL_len {b l : List Int} {m r : Int} (hb : IsB b) (h : decL b = (l, m, r)) : l.length ≤ b.length := by
  by_cases hr : r = 0
  · subst hr
    obtain ⟨_, _, _, h4, h5⟩ := decL_ok hb h
    have h6 := encLs_len l
    have h7 : (encL l).length = (encI l.length).length + (encLs l).length := by unfold encL; rw [List.length_append]
    omega
  · rw [(decL_err h hr).1]
    simp
theorem decD_len {b : List Int} {d : List (List Int)} {m r : Int} (hb : IsB b) (h : decD b = (d, m, r)) : d.length ≤ b.length := by
  by_cases hr : r = 0
  · subst hr
    obtain ⟨_, h2, _, h4, h5⟩ := decD_ok hb h
    have h6 := flat_len h2
    have h7 : (encD d).length = (encI d.length).length + d.flatten.length := by unfold encD; rw [List.length_append]
    omega
  · rw [(decD_err h hr).1]
    simp

set_option maxHeartbeats 8000000 in
set_option maxRecDepth 100000 in
theorem walk (A : Option Addr) (c : Nat) (b : List Int) (w : World) (hr : Kd.C (Kd.int .u8) w A b.length b) (hc : b.length ≤ c) (hz : b.length * 1 ≤ 140737488351232) (hb : IsB b) :
    Calls Try.prog 4 #[.slice A b.length c] w fun e w' => e = .returned (.bool true) ∧ Below w.heap.size w w' := by
  have HR := Aside0.mk hr
  have HB := Aside0.mk hb
  clear hr hb
  by_cases hbig : 2000 < b.length
  · go_enter Try.func4, Try.ntmps4
    go_wp2_with fail
    refine (sanity_any _).mono ?_
    rintro e w1 ⟨rfl, hb1⟩
    have HB1 := Aside0.mk hb1
    clear hb1
    go_wp2
    go_ret
    exact ⟨rfl, HB1.out⟩
  · have hb6 : b.length ≤ 1000000 := by omega
    obtain ⟨n, u, e, hd⟩ : ∃ n u e, dec b = (n, u, e) := ⟨_, _, _, rfl⟩
    obtain ⟨s, x, g, hs⟩ : ∃ s x g, decS b = (s, x, g) := ⟨_, _, _, rfl⟩
    obtain ⟨l, i, p, hl⟩ : ∃ l i p, decL b = (l, i, p) := ⟨_, _, _, rfl⟩
    obtain ⟨d, y, v, hdd⟩ : ∃ d y v, decD b = (d, y, v) := ⟨_, _, _, rfl⟩
    have Hd := Aside0.mk hd
    have Hs := Aside0.mk hs
    have Hl := Aside0.mk hl
    have Hdd := Aside0.mk hdd
    have hll := decL_len HB.out hl
    have hdl := decD_len HB.out hdd
    clear hd hs hl hdd
    go_enter Try.func4, Try.ntmps4
    go_wp2_with fail
    refine (GetInt_any A c b n u e w HB.out HR.out hc Hd.out).mono ?_
    rintro e1 w1 ⟨rfl, rfl⟩
    go_wp2_with fail
    refine (rGetInt_any A c b n u e w HB.out HR.out hc hb6 Hd.out).mono ?_
    rintro e2 w2 ⟨rfl, hb2⟩
    have HB2 := Aside0.mk hb2
    clear hb2
    go_wp2_with fail
    refine (GetBytes_any A c b s x g _ HB.out (Kd.C_below HR.out HB2.out) hc Hs.out).mono ?_
    rintro e3 w3 ⟨rfl, rfl⟩
    go_wp2_with fail
    refine (rGetBytes_any A c b s x g _ HB.out (Kd.C_below HR.out HB2.out) hc hb6 Hs.out).mono ?_
    rintro e4 w4 ⟨rfl, hb4⟩
    have HB4 := Aside0.mk (below_step HB2.out hb4)
    clear hb4 HB2
    generalize strOfNums s = str at *
    go_wp2_with fail
    refine (GetInts_any A c b l i p _ HB.out (Kd.C_below HR.out HB4.out) hc hb6 Hl.out).mono ?_
    rintro e5 w5 ⟨v5, rfl, ho5, hb5⟩
    have HB5 := Aside0.mk (below_step HB4.out hb5)
    obtain ⟨P5, k5, rfl, hk5, hC5⟩ := Kd.R_reads ho5
    have HC5 := Aside0.mk hC5
    clear ho5 hb5 hC5 HB4
    go_wp2_with fail
    refine (rGetInts_any A c b l i p _ HB.out (Kd.C_below HR.out HB5.out) hc hb6 Hl.out).mono ?_
    rintro e6 w6 ⟨v6, rfl, ho6, hb6'⟩
    have HB6 := Aside0.mk (below_step HB5.out hb6')
    have HC56 := Aside0.mk (Kd.C_below HC5.out hb6')
    obtain ⟨P6, k6, rfl, hk6, hC6⟩ := Kd.R_reads ho6
    have HC6 := Aside0.mk hC6
    clear ho6 hb6' hC6 HB5 HC5
    go_wp2_with fail
    refine (SameInts_is P5 P6 k5 k6 l l true _ (by simp) HC56.out hk5 HC6.out hk6 (by omega)).mono ?_
    rintro e7 w7 ⟨rfl, hb7⟩
    have HB7 := Aside0.mk (below_step HB6.out hb7)
    clear hb7 HB6 HC56 HC6
    go_wp2_with fail
    refine (GetDigests_any A c b d y v _ HB.out (Kd.C_below HR.out HB7.out) hc hb6 Hdd.out).mono ?_
    rintro e8 w8 ⟨v8, rfl, ho8, hb8⟩
    have HB8 := Aside0.mk (below_step HB7.out hb8)
    obtain ⟨P8, k8, rfl, hk8, hC8⟩ := Kd.R_reads ho8
    have HC8 := Aside0.mk hC8
    clear ho8 hb8 hC8 HB7
    go_wp2_with fail
    refine (rGetDigests_any A c b d y v _ HB.out (Kd.C_below HR.out HB8.out) hc hb6 Hdd.out).mono ?_
    rintro e9 w9 ⟨v9, rfl, ho9, hb9⟩
    have HB9 := Aside0.mk (below_step HB8.out hb9)
    have HC89 := Aside0.mk (Kd.C_below HC8.out hb9)
    obtain ⟨P9, k9, rfl, hk9, hC9⟩ := Kd.R_reads ho9
    have HC9 := Aside0.mk hC9
    clear ho9 hb9 hC9 HB8 HC8
    go_wp2_with fail
    refine (sanity_any _).mono ?_
    rintro e10 w10 ⟨rfl, hb10⟩
    have HB10 := Aside0.mk (below_step HB9.out hb10)
    have HC810 := Aside0.mk (Kd.C_below HC89.out hb10)
    have HC910 := Aside0.mk (Kd.C_below HC9.out hb10)
    clear hb10 HB9 HC89 HC9
    go_wp2_with fail
    refine (SameDigests_is P8 P9 k8 k9 d d true _ (by simp) HC810.out hk8 HC910.out hk9 (by omega)).mono ?_
    rintro e11 w11 ⟨rfl, hb11⟩
    have HB11 := Aside0.mk (below_step HB10.out hb11)
    clear hb11 HB10 HC810 HC910
    go_wp2
    go_ret
    exact ⟨rfl, HB11.out⟩
end Go.Proofs.Ytippclnmijelfaa.LDec
