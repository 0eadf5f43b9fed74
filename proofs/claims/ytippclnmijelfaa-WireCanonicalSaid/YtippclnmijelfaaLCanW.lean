/- The walk of the statement that what is decoded was the encoding. -/
import Derived.Test.YtippclnmijelfaaLDecW
namespace Go.Proofs.Ytippclnmijelfaa.LCan
open Go.RowKit Go.Proofs.YtippclnmijelfaaW.PrintWords Go.Proofs.YtippclnmijelfaaW.PrintLast Go.Proofs.YtippclnmijelfaaW.PrintMore
open Go.Proofs.Ytippclnmijelfaa.En Go.Proofs.Ytippclnmijelfaa.Rf Go.Proofs.Ytippclnmijelfaa.Wi Go.Proofs.Ytippclnmijelfaa.Rc Go.Proofs.Ytippclnmijelfaa.Sa
open Go.Proofs.Ytippclnmijelfaa.LDec (decL_len decD_len)
attribute [local go_sem] max2_int min2_int max_two min_two
set_option linter.unusedVariables false
set_option linter.unusedSimpArgs false

set_option maxHeartbeats 4000000 in
set_option maxRecDepth 100000 in
theorem is_err (g : Nat) (A B : Option Addr) (ca cb : Nat) (a b : List Int) (u e : Int) (w : World) (he : e ≠ 0) :
    Calls Try.prog 44 #[.slice B b.length cb, .int .i64 u, .int .i64 e, .pointer (some ⟨g, 0, none⟩)] w fun e w' => e = .returned (.bool true) ∧ Below w.heap.size w w' := by
  have he' : (e != 0) = true := bne_iff_ne.2 he
  go_enter Try.func44, Try.ntmps44
  go_wp2
  go_ret
  exact ⟨rfl, Below.refl _ _⟩

set_option maxHeartbeats 4000000 in
set_option maxRecDepth 100000 in
theorem is_ok (g : Nat) (A B : Option Addr) (ca cb : Nat) (a b : List Int) (w : World) (hg : w.heap[g]? = some (.cells #[.slice A a.length ca] 26 (0, 0)))
    (ha : Kd.C (Kd.int .u8) w A a.length a) (hca : a.length ≤ ca) (hb : Kd.C (Kd.int .u8) w B b.length b) (hcb : b.length ≤ cb) (h0 : 0 < b.length) (hm : b.length ≤ a.length) (hab : a.take b.length = b) (hl : a.length ≤ 1000000) :
    Calls Try.prog 44 #[.slice B b.length cb, .int .i64 (b.length : Int), .int .i64 0, .pointer (some ⟨g, 0, none⟩)] w fun e w' => e = .returned (.bool true) ∧ Below w.heap.size w w' := by
  have hcg : w.cell? ⟨g, 0, none⟩ = some (.slice A a.length ca) := by rw [blk_cell hg]; rfl
  obtain ⟨i05, hi05, _, hsz5, _⟩ := info_parts info5
  obtain ⟨_, hA5, hC5⟩ := print_take_of (P := Try.prog) (Value.int .u8) 0 26 5 .i64 Try.underlying26 hi05 hsz5 A ca a (b.length : Int) (by omega) (by omega) hca
  have HT := Aside0.mk (Kd.C_of_reads (h1 := fun _ => rfl) (hA5 w (Kd.reads_of_C (h1 := fun _ => rfl) ha)))
  have HBb := Aside0.mk hb
  rw [Int.toNat_natCast, hab] at HT hC5
  have hbl : b.length ≤ 1000000 := by omega
  clear hA5 ha hb hab hi05 hsz5 hg
  go_enter Try.func44, Try.ntmps44
  go_wp2_with fail
  refine (Same_is B A cb ca b b true _ (by simp) HBb.out hcb HT.out hC5 hbl).mono ?_
  rintro e w4 ⟨rfl, hb4⟩
  have HB4 := Aside0.mk hb4
  clear hb4
  go_wp2
  go_ret
  exact ⟨rfl, HB4.out⟩
theorem is_any (g : Nat) (A B : Option Addr) (ca cb : Nat) (a b : List Int) (u e : Int) (w : World) (hg : w.heap[g]? = some (.cells #[.slice A a.length ca] 26 (0, 0)))
    (ha : Kd.C (Kd.int .u8) w A a.length a) (hca : a.length ≤ ca) (hb : Kd.C (Kd.int .u8) w B b.length b) (hcb : b.length ≤ cb) (hl : a.length ≤ 1000000)
    (h : e = 0 → u = b.length ∧ 0 < b.length ∧ b.length ≤ a.length ∧ a.take b.length = b) :
    Calls Try.prog 44 #[.slice B b.length cb, .int .i64 u, .int .i64 e, .pointer (some ⟨g, 0, none⟩)] w fun e w' => e = .returned (.bool true) ∧ Below w.heap.size w w' := by
  by_cases he : e = 0
  · subst he
    obtain ⟨rfl, h1, h2, h3⟩ := h rfl
    exact is_ok g A B ca cb a b w hg ha hca hb hcb h1 h2 h3 hl
  · exact is_err g A B ca cb a b u e w he

theorem bytesOf_strOfNums {s : List Int} (h : IsB s) : bytesOf (strOfNums s) = s := by
  show List.map _ (List.map _ s).toArray.toList = s
  rw [List.map_map]
  conv => rhs; rw [← List.map_id s]
  refine List.map_congr_left fun x hx => ?_
  have := h x hx
  show (((UInt8.ofNat x.toNat).toNat : Nat) : Int) = x
  rw [UInt8.toNat_ofNat']
  omega

theorem okI {b : List Int} {n m e : Int} (hb : IsB b) (h : dec b = (n, m, e)) : I64 n ∧ (e = 0 → m = (encI n).length ∧ 0 < (encI n).length ∧ (encI n).length ≤ b.length ∧ b.take (encI n).length = encI n) := by
  by_cases he : e = 0
  · subst he
    obtain ⟨h1, h2, h3, h4, h5, h6⟩ := dec_ok hb h
    refine ⟨h1, fun _ => ⟨h3, by omega, by omega, ?_⟩⟩
    rw [show (encI n).length = m.toNat from by omega, h2]
  · rcases dec_err h with h' | ⟨rfl, _, _⟩
    · exact absurd h' he
    · exact ⟨⟨by decide, by decide⟩, fun h' => absurd h' he⟩
theorem okS {b s : List Int} {m e : Int} (hb : IsB b) (h : decS b = (s, m, e)) : IsB s ∧ s.length ≤ b.length ∧ (e = 0 → m = (encS s).length ∧ 0 < (encS s).length ∧ (encS s).length ≤ b.length ∧ b.take (encS s).length = encS s) := by
  by_cases he : e = 0
  · subst he
    obtain ⟨h1, h2, h3, h4⟩ := decS_ok hb h
    have h5 := encI_pos (s.length : Int)
    have h6 : (encS s).length = (encI (s.length : Int)).length + s.length := by unfold encS; rw [List.length_append]
    refine ⟨fun c hc => hb c (List.mem_of_mem_take (i := m.toNat) (by rw [h2]; unfold encS; exact List.mem_append_right _ hc)), by omega, fun _ => ⟨h3, by omega, by omega, ?_⟩⟩
    rw [show (encS s).length = m.toNat from by omega, h2]
  · rw [(decS_err h he).1]
    exact ⟨fun c hc => (List.not_mem_nil hc).elim, by simp, fun h' => absurd h' he⟩
theorem okL {b l : List Int} {m e : Int} (hb : IsB b) (h : decL b = (l, m, e)) : AllI l ∧ (e = 0 → m = (encL l).length ∧ 0 < (encL l).length ∧ (encL l).length ≤ b.length ∧ b.take (encL l).length = encL l) := by
  by_cases he : e = 0
  · subst he
    obtain ⟨h1, h2, h3, h4, h5⟩ := decL_ok hb h
    have h7 := encI_pos (l.length : Int)
    have h6 : (encL l).length = (encI (l.length : Int)).length + (encLs l).length := by unfold encL; rw [List.length_append]
    refine ⟨h2, fun _ => ⟨h4, by omega, by omega, ?_⟩⟩
    rw [show (encL l).length = m.toNat from by omega, h3]
  · rw [(decL_err h he).1]
    exact ⟨fun c hc => (List.not_mem_nil hc).elim, fun h' => absurd h' he⟩
theorem okD {b : List Int} {l : List (List Int)} {m e : Int} (hb : IsB b) (h : decD b = (l, m, e)) : Dig l ∧ (e = 0 → m = (encD l).length ∧ 0 < (encD l).length ∧ (encD l).length ≤ b.length ∧ b.take (encD l).length = encD l) := by
  by_cases he : e = 0
  · subst he
    obtain ⟨h1, h2, h3, h4, h5⟩ := decD_ok hb h
    have h7 := encI_pos (l.length : Int)
    have h6 : (encD l).length = (encI (l.length : Int)).length + l.flatten.length := by unfold encD; rw [List.length_append]
    refine ⟨h2, fun _ => ⟨h4, by omega, by omega, ?_⟩⟩
    rw [show (encD l).length = m.toNat from by omega, h3]
  · rw [(decD_err h he).1]
    exact ⟨fun c hc => (List.not_mem_nil hc).elim, fun h' => absurd h' he⟩

set_option maxHeartbeats 16000000 in
set_option maxRecDepth 100000 in
theorem walk (A : Option Addr) (c : Nat) (b : List Int) (w : World) (hr : Kd.C (Kd.int .u8) w A b.length b) (hc : b.length ≤ c) (hz : b.length * 1 ≤ 140737488351232) (hb : IsB b) :
    Calls Try.prog 8 #[.slice A b.length c] w fun e w' => e = .returned (.bool true) ∧ Below w.heap.size w w' := by
  have HR := Aside0.mk hr
  have HB := Aside0.mk hb
  clear hr hb
  by_cases hbig : 2000 < b.length
  · go_enter Try.func8, Try.ntmps8
    go_wp2_with fail
    refine (sanity_any _).mono ?_
    rintro e w1 ⟨rfl, hb1⟩
    have HB1 := Aside0.mk (Below.trans (below_alloc (Below.refl w.heap.size w) _) (hb1.mono (by simp)))
    clear hb1
    go_wp2
    go_ret
    exact ⟨rfl, HB1.out⟩
  · have hb6 : b.length ≤ 1000000 := by omega
    obtain ⟨n, u, e, hd⟩ : ∃ n u e, dec b = (n, u, e) := ⟨_, _, _, rfl⟩
    obtain ⟨s, x, g, hs⟩ : ∃ s x g, decS b = (s, x, g) := ⟨_, _, _, rfl⟩
    obtain ⟨l, i, p, hl⟩ : ∃ l i p, decL b = (l, i, p) := ⟨_, _, _, rfl⟩
    obtain ⟨d, y, v, hdd⟩ : ∃ d y v, decD b = (d, y, v) := ⟨_, _, _, rfl⟩
    have hll := decL_len HB.out hl
    have hdl := decD_len HB.out hdd
    have OI := Aside0.mk (okI HB.out hd)
    have OS := Aside0.mk (okS HB.out hs)
    have OL := Aside0.mk (okL HB.out hl)
    have OD := Aside0.mk (okD HB.out hdd)
    have HS := Aside0.mk (bytesOf_strOfNums OS.out.1)
    have hsl : (strOfNums s).size ≤ 100000 := by rw [strOfNums_size]; have := OS.out.2.1; omega
    have HSL := Aside0.mk hsl
    have Hd := Aside0.mk hd
    have Hs := Aside0.mk hs
    have Hl := Aside0.mk hl
    have Hdd := Aside0.mk hdd
    have hl' : l.length ≤ 100000 := by omega
    have hd' : d.length ≤ 100000 := by omega
    clear hd hs hl hdd hsl
    have HB0 := Aside0.mk (below_alloc (Below.refl w.heap.size w) (.cells #[.slice A b.length c] 26))
    have HG0 := Aside0.mk (blk_new w (.cells #[.slice A b.length c] 26))
    have hmf : ∀ (fn : Fn) (first cap : Array Value) (w : World), (Instr.makeFunc fn first cap).run Try.prog w = .ok (.func fn first cap) w := fun _ _ _ _ => rfl
    go_enter Try.func8, Try.ntmps8
    go_wp2_with fail
    refine (GetInt_any A c b n u e _ HB.out (Kd.C_below HR.out HB0.out) hc Hd.out).mono ?_
    rintro e1 w1 ⟨rfl, rfl⟩
    go_wp2_with fail
    refine (GetBytes_any A c b s x g _ HB.out (Kd.C_below HR.out HB0.out) hc Hs.out).mono ?_
    rintro e3 w3 ⟨rfl, rfl⟩
    generalize strOfNums s = str at *
    go_wp2_with fail
    refine (GetInts_any A c b l i p _ HB.out (Kd.C_below HR.out HB0.out) hc hb6 Hl.out).mono ?_
    rintro e5 w5 ⟨v5, rfl, ho5, hb5⟩
    have HB5 := Aside0.mk (below_step HB0.out hb5)
    have HG5 := Aside0.mk (blk_below HG0.out hb5)
    obtain ⟨P5, k5, rfl, hk5, hC5⟩ := Kd.R_reads ho5
    have HC5 := Aside0.mk hC5
    have hcg5 : w5.cell? ⟨w.heap.size, 0, none⟩ = some (.slice A b.length c) := by rw [blk_cell HG5.out]; rfl
    clear ho5 hb5 hC5 HB0 HG0
    go_wp2_with fail
    clear hcg5
    refine (GetDigests_any A c b d y v _ HB.out (Kd.C_below HR.out HB5.out) hc hb6 Hdd.out).mono ?_
    rintro e8 w8 ⟨v8, rfl, ho8, hb8⟩
    have HB8 := Aside0.mk (below_step HB5.out hb8)
    have HG8 := Aside0.mk (blk_below HG5.out hb8)
    have HC58 := Aside0.mk (Kd.C_below HC5.out hb8)
    obtain ⟨P8, k8, rfl, hk8, hC8⟩ := Kd.R_reads ho8
    have HC8 := Aside0.mk hC8
    clear ho8 hb8 hC8 HB5 HG5 HC5
    go_wp2_with fail
    refine (sanity_any _).mono ?_
    rintro e w9 ⟨rfl, hb9⟩
    have HB9 := Aside0.mk (below_step HB8.out hb9)
    have HG9 := Aside0.mk (blk_below HG8.out hb9)
    have HC59 := Aside0.mk (Kd.C_below HC58.out hb9)
    have HC89 := Aside0.mk (Kd.C_below HC8.out hb9)
    clear hb9 HB8 HG8 HC58 HC8
    go_wp2_with fail
    refine (Int_any n _ OI.out.1).mono ?_
    rintro e w10 ⟨v10, rfl, ho10, hb10⟩
    have HB10 := Aside0.mk (below_step HB9.out hb10)
    have HG10 := Aside0.mk (blk_below HG9.out hb10)
    have HC510 := Aside0.mk (Kd.C_below HC59.out hb10)
    have HC810 := Aside0.mk (Kd.C_below HC89.out hb10)
    obtain ⟨P10, k10, rfl, hk10, hC10⟩ := Kd.R_reads ho10
    have HC10 := Aside0.mk hC10
    clear ho10 hb10 hC10 HB9 HG9 HC59 HC89
    go_wp2_with fail
    refine (is_any w.heap.size A P10 c k10 b (encI n) u _ _ HG10.out (Kd.C_below HR.out HB10.out) hc HC10.out hk10 hb6 OI.out.2).mono ?_
    rintro e w11 ⟨rfl, hb11⟩
    have HB11 := Aside0.mk (below_step HB10.out hb11)
    have HG11 := Aside0.mk (blk_below HG10.out hb11)
    have HC511 := Aside0.mk (Kd.C_below HC510.out hb11)
    have HC811 := Aside0.mk (Kd.C_below HC810.out hb11)
    clear hb11 HB10 HG10 HC510 HC810 HC10
    go_wp2_with fail
    refine (Bytes_any str _ HSL.out).mono ?_
    rintro e w12 ⟨v12, rfl, ho12, hb12⟩
    rw [HS.out] at ho12
    have HB12 := Aside0.mk (below_step HB11.out hb12)
    have HG12 := Aside0.mk (blk_below HG11.out hb12)
    have HC512 := Aside0.mk (Kd.C_below HC511.out hb12)
    have HC812 := Aside0.mk (Kd.C_below HC811.out hb12)
    obtain ⟨P12, k12, rfl, hk12, hC12⟩ := Kd.R_reads ho12
    have HC12 := Aside0.mk hC12
    clear ho12 hb12 hC12 HB11 HG11 HC511 HC811
    go_wp2_with fail
    refine (is_any w.heap.size A P12 c k12 b (encS s) x _ _ HG12.out (Kd.C_below HR.out HB12.out) hc HC12.out hk12 hb6 OS.out.2.2).mono ?_
    rintro e w13 ⟨rfl, hb13⟩
    have HB13 := Aside0.mk (below_step HB12.out hb13)
    have HG13 := Aside0.mk (blk_below HG12.out hb13)
    have HC513 := Aside0.mk (Kd.C_below HC512.out hb13)
    have HC813 := Aside0.mk (Kd.C_below HC812.out hb13)
    clear hb13 HB12 HG12 HC512 HC812 HC12
    go_wp2_with fail
    refine (Ints_any P5 k5 l _ HC513.out hk5 hl' OL.out.1).mono ?_
    rintro e w14 ⟨v14, rfl, ho14, hb14⟩
    have HB14 := Aside0.mk (below_step HB13.out hb14)
    have HG14 := Aside0.mk (blk_below HG13.out hb14)
    have HC814 := Aside0.mk (Kd.C_below HC813.out hb14)
    obtain ⟨P14, k14, rfl, hk14, hC14⟩ := Kd.R_reads ho14
    have HC14 := Aside0.mk hC14
    clear ho14 hb14 hC14 HB13 HG13 HC513 HC813
    go_wp2_with fail
    refine (is_any w.heap.size A P14 c k14 b (encL l) i _ _ HG14.out (Kd.C_below HR.out HB14.out) hc HC14.out hk14 hb6 OL.out.2).mono ?_
    rintro e w15 ⟨rfl, hb15⟩
    have HB15 := Aside0.mk (below_step HB14.out hb15)
    have HG15 := Aside0.mk (blk_below HG14.out hb15)
    have HC815 := Aside0.mk (Kd.C_below HC814.out hb15)
    clear hb15 HB14 HG14 HC814 HC14
    go_wp2_with fail
    refine (Digests_any P8 k8 d _ HC815.out hk8 hd' OD.out.1).mono ?_
    rintro e w16 ⟨v16, rfl, ho16, hb16⟩
    have HB16 := Aside0.mk (below_step HB15.out hb16)
    have HG16 := Aside0.mk (blk_below HG15.out hb16)
    obtain ⟨P16, k16, rfl, hk16, hC16⟩ := Kd.R_reads ho16
    have HC16 := Aside0.mk hC16
    clear ho16 hb16 hC16 HB15 HG15 HC815
    go_wp2_with fail
    refine (is_any w.heap.size A P16 c k16 b (encD d) y _ _ HG16.out (Kd.C_below HR.out HB16.out) hc HC16.out hk16 hb6 OD.out.2).mono ?_
    rintro e w17 ⟨rfl, hb17⟩
    have HB17 := Aside0.mk (below_step HB16.out hb17)
    clear hb17 HB16 HG16 HC16
    go_wp2
    go_ret
    exact ⟨rfl, HB17.out⟩
end Go.Proofs.Ytippclnmijelfaa.LCan
