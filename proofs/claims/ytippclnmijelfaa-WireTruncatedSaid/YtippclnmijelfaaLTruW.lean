/- The walk of the statement that every proper beginning of an encoding is refused as cut short. -/
import Derived.Test.YtippclnmijelfaaSan
namespace Go.Proofs.Ytippclnmijelfaa.LTru
open Go.RowKit Go.Proofs.YtippclnmijelfaaW.PrintWords Go.Proofs.YtippclnmijelfaaW.PrintLast Go.Proofs.YtippclnmijelfaaW.PrintMore
open Go.Proofs.Ytippclnmijelfaa.En Go.Proofs.Ytippclnmijelfaa.Rf Go.Proofs.Ytippclnmijelfaa.Wi Go.Proofs.Ytippclnmijelfaa.Rc Go.Proofs.Ytippclnmijelfaa.Sa
attribute [local go_sem] max2_int min2_int max_two min_two
set_option linter.unusedVariables false
set_option linter.unusedSimpArgs false

theorem bytesOf_B (s : ByteArray) : IsB (bytesOf s) := by
  intro c hc
  obtain ⟨x, _, rfl⟩ := List.mem_map.1 hc
  have := x.toNat_lt
  omega
theorem strOfNums_bytesOf' (s : ByteArray) : strOfNums (bytesOf s) = s := by
  obtain ⟨⟨l⟩⟩ := s
  show (⟨(List.map _ (List.map _ l)).toArray⟩ : ByteArray) = ⟨⟨l⟩⟩
  rw [List.map_map, show ((fun n : Int => UInt8.ofNat n.toNat) ∘ fun x : UInt8 => (x.toNat : Int)) = id from ?_, List.map_id]
  funext x
  show UInt8.ofNat (Int.toNat (x.toNat : Int)) = x
  simp

set_option maxHeartbeats 16000000 in
set_option maxRecDepth 100000 in
theorem walk (n : Int) (s : ByteArray) (A2 : Option Addr) (c2 : Nat) (l : List Int) (A3 : Option Addr) (c3 : Nat) (d : List (List Int)) (w : World)
    (hn : I64 n) (hs : s.size ≤ 140737488351232)
    (hr2 : Kd.C (Kd.int .i64) w A2 l.length l) (hc2 : l.length ≤ c2) (hl2 : l.length * 8 ≤ 140737488351232) (hI : AllI l)
    (hr3 : D.C w A3 d.length d) (hc3 : d.length ≤ c3) (hl3 : d.length * 16 ≤ 140737488351232) (hD : Dig d) :
    Calls Try.prog 10 #[.int .i64 n, .string s, .slice A2 l.length c2, .slice A3 d.length c3] w fun e w' => e = .returned (.bool true) ∧ Below w.heap.size w w' := by
  have HR2 := Aside0.mk hr2
  have HR3 := Aside0.mk hr3
  have HI := Aside0.mk hI
  have HD := Aside0.mk hD
  have HN := Aside0.mk hn
  clear hr2 hr3 hI hD hn
  by_cases hbig : 400 < s.size + 8 * l.length + 16 * d.length
  · go_enter Try.func10, Try.ntmps10
    go_wp2_with fail
    refine (sanity_any _).mono ?_
    rintro e w1 ⟨rfl, hb1⟩
    have HB1 := Aside0.mk hb1
    clear hb1
    go_wp2
    go_ret
    exact ⟨rfl, HB1.out⟩
  · have hs' : s.size ≤ 100000 := by omega
    have hl' : l.length ≤ 100000 := by omega
    have hd' : d.length ≤ 100000 := by omega
    have hbl := bytesOf_length s
    have HIb : Aside0 (I64 (bytesOf s).length) := ⟨by rw [hbl]; exact I64_nat hs'⟩
    have HX : Aside0 (∀ i, i < (encI n).length → dec ((encI n).take i) = (0, 0, 6)) := ⟨fun i hi => dec_cut HN.out i hi⟩
    have HY : Aside0 (∀ i, i < (encS (bytesOf s)).length → decS ((encS (bytesOf s)).take i) = ([], 0, 6)) := ⟨fun i hi => decS_cut _ HIb.out i hi⟩
    have HZ : Aside0 (∀ i, i < (encL l).length → decL ((encL l).take i) = ([], 0, 6)) := ⟨fun i hi => decL_cut l (I64_nat hl') HI.out i hi⟩
    have HU : Aside0 (∀ i, i < (encD d).length → decD ((encD d).take i) = ([], 0, 6)) := ⟨fun i hi => decD_cut d (I64_nat hd') HD.out i hi⟩
    have HBX := Aside0.mk (encI_bytes n)
    have HBY := Aside0.mk (encS_bytes (bytesOf_B s))
    have HBZ := Aside0.mk (encL_bytes l)
    have HBU := Aside0.mk (encD_bytes HD.out)
    have hX : (encI n).length ≤ 100000 := by have := encI_len HN.out; omega
    have hY : (encS (bytesOf s)).length ≤ 100000 := by
      have := encI_len HIb.out
      unfold encS
      rw [List.length_append]
      omega
    have hZ : (encL l).length ≤ 100000 := by
      have := (encL_len (I64_nat hl') HI.out).2
      omega
    have hU : (encD d).length ≤ 100000 := by
      have := encI_len (I64_nat hd')
      have := flat_len HD.out
      unfold encD
      rw [List.length_append]
      omega
    clear hbl
    go_enter Try.func10, Try.ntmps10
    go_wp2_with fail
    refine (Int_any n _ HN.out).mono ?_
    rintro e w1 ⟨v1, rfl, ho1, hb1⟩
    have HB1 := Aside0.mk hb1
    obtain ⟨P1, k1, rfl, hk1, hC1⟩ := Kd.R_reads ho1
    have HC1 := Aside0.mk hC1
    clear hb1 ho1 hC1
    go_wp2_with fail
    refine (Bytes_any s _ hs').mono ?_
    rintro e w2 ⟨v2, rfl, ho2, hb2⟩
    have HB2 := Aside0.mk (below_step HB1.out hb2)
    have HC12 := Aside0.mk (Kd.C_below HC1.out hb2)
    obtain ⟨P2, k2, rfl, hk2, hC2⟩ := Kd.R_reads ho2
    have HC2 := Aside0.mk hC2
    clear hb2 ho2 hC2 HB1 HC1
    go_wp2_with fail
    refine (Ints_any A2 c2 l _ (Kd.C_below HR2.out HB2.out) hc2 hl' HI.out).mono ?_
    rintro e w3 ⟨v3, rfl, ho3, hb3⟩
    have HB3 := Aside0.mk (below_step HB2.out hb3)
    have HC13 := Aside0.mk (Kd.C_below HC12.out hb3)
    have HC23 := Aside0.mk (Kd.C_below HC2.out hb3)
    obtain ⟨P3, k3, rfl, hk3, hC3⟩ := Kd.R_reads ho3
    have HC3 := Aside0.mk hC3
    clear hb3 ho3 hC3 HB2 HC12 HC2
    go_wp2_with fail
    refine (Digests_any A3 c3 d _ (Kd.C_below HR3.out HB3.out) hc3 hd' HD.out).mono ?_
    rintro e w4 ⟨v4, rfl, ho4, hb4⟩
    have HB4 := Aside0.mk (below_step HB3.out hb4)
    have HC14 := Aside0.mk (Kd.C_below HC13.out hb4)
    have HC24 := Aside0.mk (Kd.C_below HC23.out hb4)
    have HC34 := Aside0.mk (Kd.C_below HC3.out hb4)
    obtain ⟨P4, k4, rfl, hk4, hC4⟩ := Kd.R_reads ho4
    have HC44 := Aside0.mk hC4
    clear hb4 ho4 hC4 HB3 HC13 HC23 HC3
    generalize encI n = X at *
    generalize encS (bytesOf s) = Y at *
    generalize encL l = Z at *
    generalize encD d = U at *
    go_wp2_with fail
    have HBW := Aside0.mk (below_alloc HB4.out (Obj.cells #[Value.slice P1 X.length k1, Value.slice P2 Y.length k2, Value.slice P3 Z.length k3, Value.slice P4 U.length k4] 26))
    have HGW := Aside0.mk (blk_new w4 (Obj.cells #[Value.slice P1 X.length k1, Value.slice P2 Y.length k2, Value.slice P3 Z.length k3, Value.slice P4 U.length k4] 26))
    have HW1 := Aside0.mk (Kd.C_alloc HC14.out (Obj.cells #[Value.slice P1 X.length k1, Value.slice P2 Y.length k2, Value.slice P3 Z.length k3, Value.slice P4 U.length k4] 26))
    have HW2 := Aside0.mk (Kd.C_alloc HC24.out (Obj.cells #[Value.slice P1 X.length k1, Value.slice P2 Y.length k2, Value.slice P3 Z.length k3, Value.slice P4 U.length k4] 26))
    have HW3 := Aside0.mk (Kd.C_alloc HC34.out (Obj.cells #[Value.slice P1 X.length k1, Value.slice P2 Y.length k2, Value.slice P3 Z.length k3, Value.slice P4 U.length k4] 26))
    have HW4 := Aside0.mk (Kd.C_alloc HC44.out (Obj.cells #[Value.slice P1 X.length k1, Value.slice P2 Y.length k2, Value.slice P3 Z.length k3, Value.slice P4 U.length k4] 26))
    clear HB4 HC14 HC24 HC34 HC44
    generalize w4.alloc (Obj.cells #[Value.slice P1 X.length k1, Value.slice P2 Y.length k2, Value.slice P3 Z.length k3, Value.slice P4 U.length k4] 26) = W0 at *
    generalize w4.heap.size = g at *
    go_loopw [35] (fun x35 wr => ∃ k : Nat, x35 = .int .i64 (k : Int) ∧ k ≤ 4 ∧ Aside0 (Below W0.heap.size W0 wr)) (fun i _ => 4 - (intOf i).toNat)
    case atStart => exact ⟨0, rfl, by omega, ⟨Below.refl _ _⟩⟩
    case round =>
      obtain ⟨k, rfl, hk, HBr⟩ := hrel
      by_cases hlt : k < 4
      · obtain rfl | rfl | rfl | rfl : k = 0 ∨ k = 1 ∨ k = 2 ∨ k = 3 := by omega
        · have hcell : wr.cell? ⟨g, 0, none⟩ = some (.slice P1 X.length k1) := by rw [blk_cell (blk_below HGW.out HBr.out)]; rfl
          go_wp2_with fail
          clear hcell
          go_loopw [42] (fun x42 wq => ∃ i : Nat, x42 = .int .i64 (i : Int) ∧ i ≤ X.length ∧ Aside0 (Below W0.heap.size W0 wq)) (fun i _ => X.length - (intOf i).toNat)
          case atStart => exact ⟨0, rfl, by omega, HBr⟩
          case round =>
            clear HBr
            obtain ⟨i, rfl, hik, HBr⟩ := hrel
            by_cases hi : i < X.length
            · obtain ⟨i0, hi0, _, hsz0, _⟩ := info_parts info5
              obtain ⟨_, hAi, hCi⟩ := print_take_of (P := Try.prog) (Value.int .u8) 0 26 5 .i64 Try.underlying26 hi0 hsz0 P1 k1 X (i : Int) (by omega) (by omega) hk1
              have HCi := Aside0.mk (Kd.C_of_reads (h1 := fun _ => rfl) (hAi wr (Kd.reads_of_C (h1 := fun _ => rfl) (Kd.C_below HW1.out HBr.out))))
              rw [Int.toNat_natCast] at HCi hCi
              have hti : (X.take i).length = i := by rw [List.length_take]; omega
              have hi6 : (X.take i).length ≤ 1000000 := by omega
              have hh := GetInt_any P1 k1 (X.take i) 0 0 6 wr (HBX.out.take i) HCi.out hCi (HX.out i hi)
              rw [hti] at hh
              have HH := Aside0.mk hh
              clear hh hti hi6 hAi hCi HCi hi0 hsz0
              go_wp2_with fail
              refine HH.out.mono ?_
              rintro e w7 ⟨rfl, rfl⟩
              have HBq := Aside0.mk HBr.out
              clear HH HBr
              go_wp2_with fail
              refine ⟨?_, ?_⟩
              · repeat apply Exists.intro
                refine ⟨?_, rfl⟩
                exact ⟨i + 1, by go_num, by omega, HBq⟩
              · simp [intOf]; omega
            · go_wp2_with fail
              go_roundw
              case rel => exact ⟨1, by go_num, by omega, HBr⟩
              case measure => simp [intOf]
        · have hcell : wr.cell? ⟨g, 1, none⟩ = some (.slice P2 Y.length k2) := by rw [blk_cell (blk_below HGW.out HBr.out)]; rfl
          go_wp2_with fail
          clear hcell
          go_loopw [42] (fun x42 wq => ∃ i : Nat, x42 = .int .i64 (i : Int) ∧ i ≤ Y.length ∧ Aside0 (Below W0.heap.size W0 wq)) (fun i _ => Y.length - (intOf i).toNat)
          case atStart => exact ⟨0, rfl, by omega, HBr⟩
          case round =>
            clear HBr
            obtain ⟨i, rfl, hik, HBr⟩ := hrel
            by_cases hi : i < Y.length
            · obtain ⟨i0, hi0, _, hsz0, _⟩ := info_parts info5
              obtain ⟨_, hAi, hCi⟩ := print_take_of (P := Try.prog) (Value.int .u8) 0 26 5 .i64 Try.underlying26 hi0 hsz0 P2 k2 Y (i : Int) (by omega) (by omega) hk2
              have HCi := Aside0.mk (Kd.C_of_reads (h1 := fun _ => rfl) (hAi wr (Kd.reads_of_C (h1 := fun _ => rfl) (Kd.C_below HW2.out HBr.out))))
              rw [Int.toNat_natCast] at HCi hCi
              have hti : (Y.take i).length = i := by rw [List.length_take]; omega
              have hi6 : (Y.take i).length ≤ 1000000 := by omega
              have hh := GetBytes_any P2 k2 (Y.take i) [] 0 6 wr (HBY.out.take i) HCi.out hCi (HY.out i hi)
              rw [hti] at hh
              have HH := Aside0.mk hh
              clear hh hti hi6 hAi hCi HCi hi0 hsz0
              go_wp2_with fail
              refine HH.out.mono ?_
              rintro e w7 ⟨rfl, rfl⟩
              have HBq := Aside0.mk HBr.out
              clear HH HBr
              go_wp2_with fail
              refine ⟨?_, ?_⟩
              · repeat apply Exists.intro
                refine ⟨?_, rfl⟩
                exact ⟨i + 1, by go_num, by omega, HBq⟩
              · simp [intOf]; omega
            · go_wp2_with fail
              go_roundw
              case rel => exact ⟨2, by go_num, by omega, HBr⟩
              case measure => simp [intOf]
        · have hcell : wr.cell? ⟨g, 2, none⟩ = some (.slice P3 Z.length k3) := by rw [blk_cell (blk_below HGW.out HBr.out)]; rfl
          go_wp2_with fail
          clear hcell
          go_loopw [42] (fun x42 wq => ∃ i : Nat, x42 = .int .i64 (i : Int) ∧ i ≤ Z.length ∧ Aside0 (Below W0.heap.size W0 wq)) (fun i _ => Z.length - (intOf i).toNat)
          case atStart => exact ⟨0, rfl, by omega, HBr⟩
          case round =>
            clear HBr
            obtain ⟨i, rfl, hik, HBr⟩ := hrel
            by_cases hi : i < Z.length
            · obtain ⟨i0, hi0, _, hsz0, _⟩ := info_parts info5
              obtain ⟨_, hAi, hCi⟩ := print_take_of (P := Try.prog) (Value.int .u8) 0 26 5 .i64 Try.underlying26 hi0 hsz0 P3 k3 Z (i : Int) (by omega) (by omega) hk3
              have HCi := Aside0.mk (Kd.C_of_reads (h1 := fun _ => rfl) (hAi wr (Kd.reads_of_C (h1 := fun _ => rfl) (Kd.C_below HW3.out HBr.out))))
              rw [Int.toNat_natCast] at HCi hCi
              have hti : (Z.take i).length = i := by rw [List.length_take]; omega
              have hi6 : (Z.take i).length ≤ 1000000 := by omega
              have hh := GetInts_any P3 k3 (Z.take i) [] 0 6 wr (HBZ.out.take i) HCi.out hCi hi6 (HZ.out i hi)
              rw [hti] at hh
              have HH := Aside0.mk hh
              clear hh hti hi6 hAi hCi HCi hi0 hsz0
              go_wp2_with fail
              refine HH.out.mono ?_
              rintro e w7 ⟨v7, rfl, ho7, hb7⟩
              have HBq := Aside0.mk (below_step HBr.out hb7)
              clear ho7 hb7 HH HBr
              go_wp2_with fail
              refine ⟨?_, ?_⟩
              · repeat apply Exists.intro
                refine ⟨?_, rfl⟩
                exact ⟨i + 1, by go_num, by omega, HBq⟩
              · simp [intOf]; omega
            · go_wp2_with fail
              go_roundw
              case rel => exact ⟨3, by go_num, by omega, HBr⟩
              case measure => simp [intOf]
        · have hcell : wr.cell? ⟨g, 3, none⟩ = some (.slice P4 U.length k4) := by rw [blk_cell (blk_below HGW.out HBr.out)]; rfl
          go_wp2_with fail
          clear hcell
          go_loopw [42] (fun x42 wq => ∃ i : Nat, x42 = .int .i64 (i : Int) ∧ i ≤ U.length ∧ Aside0 (Below W0.heap.size W0 wq)) (fun i _ => U.length - (intOf i).toNat)
          case atStart => exact ⟨0, rfl, by omega, HBr⟩
          case round =>
            clear HBr
            obtain ⟨i, rfl, hik, HBr⟩ := hrel
            by_cases hi : i < U.length
            · obtain ⟨i0, hi0, _, hsz0, _⟩ := info_parts info5
              obtain ⟨_, hAi, hCi⟩ := print_take_of (P := Try.prog) (Value.int .u8) 0 26 5 .i64 Try.underlying26 hi0 hsz0 P4 k4 U (i : Int) (by omega) (by omega) hk4
              have HCi := Aside0.mk (Kd.C_of_reads (h1 := fun _ => rfl) (hAi wr (Kd.reads_of_C (h1 := fun _ => rfl) (Kd.C_below HW4.out HBr.out))))
              rw [Int.toNat_natCast] at HCi hCi
              have hti : (U.take i).length = i := by rw [List.length_take]; omega
              have hi6 : (U.take i).length ≤ 1000000 := by omega
              have hh := GetDigests_any P4 k4 (U.take i) [] 0 6 wr (HBU.out.take i) HCi.out hCi hi6 (HU.out i hi)
              rw [hti] at hh
              have HH := Aside0.mk hh
              clear hh hti hi6 hAi hCi HCi hi0 hsz0
              go_wp2_with fail
              refine HH.out.mono ?_
              rintro e w7 ⟨v7, rfl, ho7, hb7⟩
              have HBq := Aside0.mk (below_step HBr.out hb7)
              clear ho7 hb7 HH HBr
              go_wp2_with fail
              refine ⟨?_, ?_⟩
              · repeat apply Exists.intro
                refine ⟨?_, rfl⟩
                exact ⟨i + 1, by go_num, by omega, HBq⟩
              · simp [intOf]; omega
            · go_wp2_with fail
              go_roundw
              case rel => exact ⟨4, by go_num, by omega, HBr⟩
              case measure => simp [intOf]
      · obtain rfl : k = 4 := by omega
        go_wp2_with fail
        refine (sanity_any _).mono ?_
        rintro e w9 ⟨rfl, hb9⟩
        have HB9 := Aside0.mk (below_step HBW.out (below_step HBr.out hb9 |> fun h => h))
        clear hb9
        go_wp2
        go_ret
        exact ⟨rfl, HB9.out⟩
end Go.Proofs.Ytippclnmijelfaa.LTru
