/- The walk of the reference's Print. -/
import Derived.Test.YtokdneolgolkbaaDoorW08g
import Derived.Test.YtokdneolgolkbaaDoorR05
namespace Go.Proofs.YtokdneolgolkbaaDoor
open Go.RowKit P08 P05

theorem rdecs_any (n : Int) (w : World) (h0 : -9223372036854775808 ≤ n) (h1 : n ≤ 9223372036854775807) :
    Calls Tryd.prog 16 #[.int .i64 n] w fun e w' => ∃ s : ByteArray, e = .returned (.string s) ∧ Hid (s.data.toList = decI n) ∧ s.size ≤ 21 ∧ Below w.heap.size w w' := by
  refine (rdecimal_any n w h0 h1).mono fun e w' ⟨he, hb⟩ => ⟨⟨(decI n).toArray⟩, he, ?_, ?_, hb⟩
  · show _ = _
    simp
  · have := decI_len21 ⟨h0, h1⟩
    have e2 : (⟨(decI n).toArray⟩ : ByteArray).size = (decI n).length := by show (decI n).toArray.size = _; simp
    omega
theorem ba3 (a b c : ByteArray) : (a ++ b ++ c).data.toList = a.data.toList ++ b.data.toList ++ c.data.toList := by rw [ba_append, ba_append]
theorem headText_eq (p : Pl) : headText p = [112, 108, 97, 110, 32] ++ decI p.length ++ [10] := by unfold headText lineP; simp [joinB]
theorem dayHead_eq (d : Dy) : dayHead d = [100, 97, 121, 32] ++ decI d.length ++ [10] := by unfold dayHead lineP; simp [joinB]
theorem tourPre_zero (t : Tr) : joinB 32 (tourPre t 0) = [116, 111, 117, 114, 32] ++ decI t.length := by unfold tourPre; simp [joinB]
theorem tourPre_step {t : Tr} {i : Nat} {s : Stp} (h : t[i]? = some s) : joinB 32 (tourPre t (i + 1)) = joinB 32 (tourPre t i) ++ [32] ++ decI s.1 ++ [32] ++ decI s.2 := by
  rw [tourPre_snoc h, show [decI s.1, decI s.2] = [decI s.1] ++ [decI s.2] from rfl, ← List.append_assoc, joinB_snoc, joinB_snoc]
  have e1 : (tourPre t i ++ [decI s.1]).isEmpty = false := by simp
  have e2 : (tourPre t i).isEmpty = false := by simp [tourPre]
  rw [e1, e2]
  simp
theorem allT_two (l : List (Nat × Stp)) (k : Nat) (cu qu : Int) {b : Bool} (h : allT l = b) : allT (l ++ [(k, cu, qu)]) = (b && (toldI cu && toldI qu)) := by rw [allT_snoc, h]; rfl
theorem toldI_iff (n : Int) : toldI n = true ↔ 0 ≤ n ∧ n ≤ 1000000000000000000 := by simp [toldI]

set_option maxHeartbeats 8000000 in
set_option maxRecDepth 100000 in
theorem rprint8_any (v : Value) (p : Pl) (w : World) (hp : RPlan w v p) (hsm : Small p) (hwf : Wf p) :
    Calls Tryd.prog 6 #[v] w fun e w' => e = .returned (.tuple #[bstr (printS p), .bool (toldP p)]) ∧ Below w.heap.size w w' := by
  obtain ⟨dv, rfl, hd⟩ := hp
  obtain ⟨A, c, rfl, h1, h2, hcs⟩ := RDays.open_ hd
  have HCS := Lib.hid hcs
  have HSM := Lib.hid hsm
  have HWF := Lib.hid hwf
  have hpl := hsm.days
  clear hd hsm hwf hcs
  go_enter Tryd.func6, Tryd.ntmps6
  go_wp2_with fail
  have k1 := below_al8 (Below.refl w.heap.size w) (.cells #[.slice A p.length c] 24)
  have bx := Blk.new w 24 [.slice A p.length c]
  refine (rdecs_any _ _ (by omega) (by omega)).mono ?_
  rintro e w2 ⟨s1, rfl, HS1, hs1, hb2⟩
  have k2 := below_nx8 k1 hb2
  have bx2 : Blk w2 w.heap.size 24 [.slice A p.length c] := bx.below hb2 (by simp)
  have HT0 : Hid (((⟨#[112, 108, 97, 110, 32]⟩ : ByteArray) ++ s1 ++ ⟨#[10]⟩).data.toList = textTo p 0) := by
    show _ = _
    rw [ba3, HS1.out, textTo_zero, headText_eq]
  have hT0 : ((⟨#[112, 108, 97, 110, 32]⟩ : ByteArray) ++ s1 ++ ⟨#[10]⟩).size ≤ 1000 := by
    rw [ByteArray.size_append, ByteArray.size_append]
    have a1 : (⟨#[112, 108, 97, 110, 32]⟩ : ByteArray).size = 5 := rfl
    have a2 : (⟨#[10]⟩ : ByteArray).size = 1 := rfl
    omega
  have z0 := bx2.lt
  clear bx hb2 k1
  go_wp2_with fail
  generalize (⟨#[112, 108, 97, 110, 32]⟩ : ByteArray) ++ s1 ++ ⟨#[10]⟩ = T0 at HT0 hT0 ⊢
  go_loopw [4, 5, 6] (fun okv sv iv wr => ∃ (k : Nat) (b : Bool) (s : ByteArray), k ≤ p.length ∧ iv = .int .i64 k ∧ okv = .bool b ∧ sv = .string s ∧ Hid (s.data.toList = textTo p k) ∧ s.size ≤ 1000 + k * 100000 ∧ Hid (allT (stopsF 0 (p.take k)) = b) ∧ Below w2.heap.size w2 wr) (fun _ _ iv _ => p.length - (intOf iv).toNat)
  case atStart => exact ⟨0, true, T0, Nat.zero_le _, rfl, rfl, rfl, HT0, by omega, rfl, Below.refl _ _⟩
  case round =>
    clear HT0 hT0
    obtain ⟨k, b, s, hk, rfl, rfl, rfl, HT, hs, HA, hbel⟩ := hrel
    have c0 : wr.cell? ⟨w.heap.size, 0, none⟩ = some (.slice A p.length c) := (bx2.below hbel bx2.lt).cell 0
    by_cases hlt : k < p.length
    · obtain ⟨d, hd⟩ := some_of_lt hlt
      obtain ⟨bb, o, rfl, hb, tv, htv, hcell⟩ := HCS.out k d hd
      obtain ⟨A2, c2, rfl, g1, g2, hct⟩ := RTours.open_ htv
      have x1 : wr.cell? ⟨bb, o + k, none⟩ = some (.slice A2 d.length c2) := cell_below (k2.trans (hbel.mono k2.size)) (Nat.le_refl _) hcell
      have HCT := Lib.hid hct
      have HCL := Lib.hid hcell
      have HX := Lib.hid (textTo_succ hd)
      have HXF := Lib.hid (stopsF_snoc hd)
      have hdl := HSM.out.tours d (List.mem_of_getElem? hd)
      have HDM := Lib.hid (List.mem_of_getElem? hd)
      have hbw := Nat.lt_of_lt_of_le hb (Nat.le_trans k2.size hbel.size)
      have hzw := Nat.lt_of_lt_of_le z0 hbel.size
      clear hd hcell htv hct
      obtain ⟨wo, hwo⟩ : ∃ wo : World, wo = wr := ⟨_, rfl⟩
      subst hwo
      have hlo := hbel.size
      go_wp2_with fail
      refine (rdecs_any _ _ (by omega) (by omega)).mono ?_
      rintro e w3 ⟨s3, rfl, HS3, hs3, hb3⟩
      have HT2 : Hid ((s ++ (⟨#[100, 97, 121, 32]⟩ : ByteArray) ++ s3 ++ ⟨#[10]⟩).data.toList = textTo p k ++ dayText d 0) := by
        show _ = _
        rw [ba_append, ba3, HS3.out, HT.out, dayText_zero, dayHead_eq]
        simp
      have hT2 : (s ++ (⟨#[100, 97, 121, 32]⟩ : ByteArray) ++ s3 ++ ⟨#[10]⟩).size ≤ 2000 + k * 100000 := by
        rw [ByteArray.size_append, ByteArray.size_append, ByteArray.size_append]
        have a1 : (⟨#[100, 97, 121, 32]⟩ : ByteArray).size = 4 := rfl
        have a2 : (⟨#[10]⟩ : ByteArray).size = 1 := rfl
        omega
      have HA2 : Hid (allT (stopsF 0 (p.take k) ++ stopsD k (d.take 0)) = b) := by show _ = _; rw [← HA.out]; simp [stopsD]
      have q3 := hbel.trans (hb3.mono hlo)
      go_wp2_with fail
      generalize s ++ (⟨#[100, 97, 121, 32]⟩ : ByteArray) ++ s3 ++ ⟨#[10]⟩ = T2 at HT2 hT2 ⊢
      go_loopw [4, 5, 7] (fun okv sv jv wr => ∃ (j : Nat) (b : Bool) (s : ByteArray), j ≤ d.length ∧ jv = .int .i64 j ∧ okv = .bool b ∧ sv = .string s ∧ Hid (s.data.toList = textTo p k ++ dayText d j) ∧ s.size ≤ 2000 + k * 100000 + j * 10000 ∧ Hid (allT (stopsF 0 (p.take k) ++ stopsD k (d.take j)) = b) ∧ Below w2.heap.size w2 wr) (fun _ _ jv _ => d.length - (intOf jv).toNat)
      case atStart => exact ⟨0, b, T2, Nat.zero_le _, rfl, rfl, rfl, HT2, by omega, HA2, q3⟩
      case round =>
        clear HT2 hT2 HA2 q3
        obtain ⟨j, b2, s4, hj, rfl, rfl, rfl, HT3, hs4, HA3, hbel2⟩ := hrel
        have c0' : wr.cell? ⟨w.heap.size, 0, none⟩ = some (.slice (some ⟨bb, o, none⟩) p.length c) := (bx2.below hbel2 bx2.lt).cell 0
        have kk := k2.trans (hbel2.mono k2.size)
        have x1' : wr.cell? ⟨bb, o + k, none⟩ = some (.slice A2 d.length c2) := cell_below kk (Nat.le_refl _) HCL.out
        by_cases hlt2 : j < d.length
        · obtain ⟨t, ht⟩ := some_of_lt hlt2
          obtain ⟨b3, o3, rfl, hb3', sv, hsv, hcell⟩ := HCT.out j t ht
          obtain ⟨A3, c3, rfl, g3, g4, hcs⟩ := RStops.open_ hsv
          have x2 : wr.cell? ⟨b3, o3 + j, none⟩ = some (.slice A3 t.length c3) := cell_below kk (Nat.le_refl _) hcell
          have HS := Lib.hid hcs
          have HX2 := Lib.hid (dayText_succ ht)
          have HXD := Lib.hid (stopsD_snoc (i := k) ht)
          have htm := List.mem_of_getElem? ht
          have htl := HSM.out.stops d HDM.out t htm
          have HWT := Lib.hid (HWF.out d HDM.out t htm)
          obtain ⟨wq, hwq⟩ : ∃ wq : World, wq = wr := ⟨_, rfl⟩
          subst hwq
          have hlq := hbel2.size
          clear ht hcell hsv hcs htm
          go_wp2_with fail
          refine (rdecs_any _ _ (by omega) (by omega)).mono ?_
          rintro e w5 ⟨s5, rfl, HS5, hs5, hb5⟩
          have HT4 : Hid ((s4 ++ (⟨#[116, 111, 117, 114, 32]⟩ : ByteArray) ++ s5).data.toList = textTo p k ++ dayText d j ++ joinB 32 (tourPre t 0)) := by
            show _ = _
            rw [ba3, HS5.out, HT3.out, tourPre_zero]
            simp
          have hT4 : (s4 ++ (⟨#[116, 111, 117, 114, 32]⟩ : ByteArray) ++ s5).size ≤ 3000 + k * 100000 + j * 10000 := by
            rw [ByteArray.size_append, ByteArray.size_append]
            have a1 : (⟨#[116, 111, 117, 114, 32]⟩ : ByteArray).size = 5 := rfl
            omega
          have HA4 : Hid (allT (stopsF 0 (p.take k) ++ stopsD k (d.take j) ++ stopsT k (t.take 0)) = b2) := by show _ = _; rw [← HA3.out]; simp [stopsT]
          have q5 := hbel2.trans (hb5.mono hlq)
          go_wp2_with fail
          generalize s4 ++ (⟨#[116, 111, 117, 114, 32]⟩ : ByteArray) ++ s5 = T4 at HT4 hT4 ⊢
          go_loopw [4, 5, 9] (fun okv sv iv wr => ∃ (i : Nat) (b : Bool) (s : ByteArray), i ≤ t.length ∧ iv = .int .i64 i ∧ okv = .bool b ∧ sv = .string s ∧ Hid (s.data.toList = textTo p k ++ dayText d j ++ joinB 32 (tourPre t i)) ∧ s.size ≤ 3000 + k * 100000 + j * 10000 + i * 100 ∧ Hid (allT (stopsF 0 (p.take k) ++ stopsD k (d.take j) ++ stopsT k (t.take i)) = b) ∧ Below w2.heap.size w2 wr) (fun _ _ iv _ => t.length - (intOf iv).toNat)
          case atStart => exact ⟨0, b2, T4, Nat.zero_le _, rfl, rfl, rfl, HT4, by omega, HA4, q5⟩
          case round =>
            clear HT4 hT4 HA4 q5
            obtain ⟨i, b4, s6, hi, rfl, rfl, rfl, HT5, hs6, HA5, hbel3⟩ := hrel
            by_cases hlt3 : i < t.length
            · obtain ⟨⟨cu, qu⟩, hs⟩ := some_of_lt hlt3
              obtain ⟨b6, o6, rfl, hb6, hcell0, hcell1⟩ := HS.out i _ hs
              have kk3 := k2.trans (hbel3.mono k2.size)
              have u3 : wr.cell? ⟨b6, o6 + i * 2, none⟩ = some (.int .i64 cu) := cell_below kk3 (Nat.le_refl _) hcell0
              have u4 : wr.cell? ⟨b6, o6 + i * 2 + 1, none⟩ = some (.int .i64 qu) := cell_below kk3 (Nat.le_refl _) hcell1
              have HW := Lib.hid (HWT.out _ (List.mem_of_getElem? hs))
              have HST := Lib.hid (tourPre_step hs)
              have HAL := Lib.hid (allT_two _ k cu qu HA5.out)
              have HSN := Lib.hid (stopsT_snoc (i := k) hs)
              have hl3 := hbel3.size
              obtain ⟨hw1, hw2⟩ := HW.out
              obtain ⟨bn, hbn⟩ : ∃ bn, (b4 && (toldI cu && toldI qu)) = bn := ⟨_, rfl⟩
              have HAN : Hid (allT (stopsF 0 (p.take k) ++ stopsD k (d.take j) ++ stopsT k (t.take (i + 1))) = bn) := by
                show _ = _
                rw [HSN.out, ← List.append_assoc, HAL.out, hbn]
              have hcase : (b4 = false ∧ bn = false) ∨ (b4 = true ∧ cu < 0 ∧ bn = false) ∨ (b4 = true ∧ 0 ≤ cu ∧ qu < 0 ∧ bn = false) ∨ (b4 = true ∧ 0 ≤ cu ∧ 0 ≤ qu ∧ 1000000000000000000 < cu ∧ bn = false) ∨
                  (b4 = true ∧ 0 ≤ cu ∧ 0 ≤ qu ∧ cu ≤ 1000000000000000000 ∧ decide (qu ≤ 1000000000000000000) = false ∧ bn = false) ∨ (b4 = true ∧ 0 ≤ cu ∧ 0 ≤ qu ∧ cu ≤ 1000000000000000000 ∧ decide (qu ≤ 1000000000000000000) = true ∧ bn = true) := by
                rw [← hbn]
                cases b4 with
                | false => exact .inl ⟨rfl, rfl⟩
                | true =>
                  right
                  have e : ∀ n : Int, toldI n = (decide (0 ≤ n) && decide (n ≤ 1000000000000000000)) := fun n => rfl
                  rw [e, e]
                  by_cases a1 : 0 ≤ cu
                  · by_cases a2 : 0 ≤ qu
                    · by_cases a3 : cu ≤ 1000000000000000000
                      · by_cases a4 : qu ≤ 1000000000000000000
                        · exact .inr (.inr (.inr (.inr ⟨rfl, a1, a2, a3, by simp [a4], by simp [a1, a2, a3, a4]⟩)))
                        · exact .inr (.inr (.inr (.inl ⟨rfl, a1, a2, a3, by simp [a4], by simp [a4]⟩)))
                      · exact .inr (.inr (.inl ⟨rfl, a1, a2, by omega, by simp [a3]⟩))
                    · exact .inr (.inl ⟨rfl, a1, by omega, by simp [a2]⟩)
                  · exact .inl ⟨rfl, by omega, by simp [a1]⟩
              clear hs hcell0 hcell1 kk3 hbn
              rcases hcase with ⟨rfl, rfl⟩ | ⟨rfl, f1, rfl⟩ | ⟨rfl, f1, f2, rfl⟩ | ⟨rfl, f1, f2, f3, rfl⟩ | ⟨rfl, f1, f2, f3, f4, rfl⟩ | ⟨rfl, f1, f2, f3, f4, rfl⟩
              all_goals
                go_wp2_with fail
                refine (rdecs_any cu _ hw1.1 hw1.2).mono ?_
                rintro e w7 ⟨s7, rfl, HS7, hs7, hb7⟩
                go_wp2_with fail
                refine (rdecs_any qu _ hw2.1 hw2.2).mono ?_
                rintro e w8 ⟨s8, rfl, HS8, hs8, hb8⟩
                have HT7 : Hid ((s6 ++ (⟨#[32]⟩ : ByteArray) ++ s7 ++ ⟨#[32]⟩ ++ s8).data.toList = textTo p k ++ dayText d j ++ joinB 32 (tourPre t (i + 1))) := by
                  show _ = _
                  rw [ba_append, ba_append, ba3, HS7.out, HS8.out, HT5.out, HST.out]
                  simp
                have hT7 : (s6 ++ (⟨#[32]⟩ : ByteArray) ++ s7 ++ ⟨#[32]⟩ ++ s8).size ≤ 3000 + k * 100000 + j * 10000 + (i + 1) * 100 := by
                  rw [ByteArray.size_append, ByteArray.size_append, ByteArray.size_append, ByteArray.size_append]
                  have a2 : (⟨#[32]⟩ : ByteArray).size = 1 := rfl
                  omega
                have q8 := (hbel3.trans (hb7.mono hl3)).trans (hb8.mono (Nat.le_trans hl3 hb7.size))
                go_wp2
                go_roundw
                case rel => exact ⟨i + 1, _, _, by omega, by go_num, rfl, rfl, HT7, hT7, HAN, q8⟩
                case measure => simp [intOf]; omega
            · obtain rfl : i = t.length := by omega
              have HT6 : Hid ((s6 ++ (⟨#[10]⟩ : ByteArray)).data.toList = textTo p k ++ dayText d (j + 1)) := by
                show _ = _
                rw [ba_append, HT5.out, HX2.out, tourPre_all]
                simp [lineP]
              have hT6 : (s6 ++ (⟨#[10]⟩ : ByteArray)).size ≤ 2000 + k * 100000 + (j + 1) * 10000 := by
                rw [ByteArray.size_append]
                have a2 : (⟨#[10]⟩ : ByteArray).size = 1 := rfl
                omega
              go_wp2
              go_roundw
              case rel => exact ⟨j + 1, b4, _, by omega, by go_num, rfl, rfl, HT6, hT6, by show _ = _; rw [HXD.out, ← List.append_assoc, ← HA5.out, List.take_length], hbel3⟩
              case measure => simp [intOf]; omega
        · obtain rfl : j = d.length := by omega
          go_wp2
          go_roundw
          case rel => exact ⟨k + 1, b2, s4, by omega, by go_num, rfl, rfl, by show _ = _; rw [HT3.out, HX.out], by omega, by show _ = _; rw [HXF.out, ← HA3.out, List.take_length], hbel2⟩
          case measure => simp [intOf]; omega
    · obtain rfl : k = p.length := by omega
      have HF : Hid (bstr (planText p) = .string s) := by
        show _ = _
        rw [← textTo_all, ← HT.out]
        unfold bstr
        rw [mk_data]
      have HB : Hid (toldP p = b) := by
        show _ = _
        rw [← HA.out, List.take_length]
        rfl
      cases b with
      | true =>
        go_wp2
        go_ret2
        refine ⟨?_, k2.trans (hbel.mono k2.size)⟩
        unfold printS
        rw [if_pos HB.out, HF.out, HB.out]
        rfl
      | false =>
        go_wp2
        go_ret2
        refine ⟨?_, k2.trans (hbel.mono k2.size)⟩
        unfold printS
        rw [HB.out]
        rfl
end Go.Proofs.YtokdneolgolkbaaDoor
