/- The walk of the reference's Cut. -/
import Derived.Test.YtokdneolgolkbaaDoorM08
import Derived.Outline
namespace Go.Proofs.YtokdneolgolkbaaDoor
open Go.RowKit P08

set_option maxHeartbeats 4000000 in
set_option maxRecDepth 100000 in
theorem rcut_any (v : Value) (p : Pl) (w : World) (hp : RPlan w v p) :
    Calls Tryd.prog 4 #[v] w fun e w' => ∃ v', e = .returned v' ∧ OPlan w.heap.size 38 41 43 w' v' (cutP p) ∧ Below w.heap.size w w' := by
  obtain ⟨dv, rfl, hd⟩ := hp
  obtain ⟨A, c, rfl, h1, h2, hc⟩ := RDays.open_ hd
  have HD := Lib.hid hc
  clear hd hc
  go_enter Tryd.func4, Tryd.ntmps4
  go_wp2_with fail
  go_loopw [4] (fun iv wr => ∃ (k : Nat) (ov : Value), k ≤ p.length ∧ k ≤ 8 ∧ iv = .int .i64 k ∧ Blk wr w.heap.size 24 [.slice A p.length c] ∧ Blk wr (w.heap.size + 1) 24 [.slice none 0 0] ∧ Blk wr (w.heap.size + 1 + 1) 24 [ov] ∧
      Hid (ODays (w.heap.size + 1 + 1 + 1) 38 41 43 wr ov ((cutP p).take k)) ∧ Below w.heap.size w wr) (fun iv _ => p.length - (intOf iv).toNat)
  case atStart =>
    refine ⟨0, .slice none 0 0, Nat.zero_le _, Nat.zero_le _, rfl, ((Blk.new w _ _).alloc _).alloc _, (Blk.newAt' _ _ _ (by simp)).alloc _, Blk.newAt' _ _ _ (by simp), OL.nil_ _ _ _ _ _, ?_⟩
    exact below_al8 (below_al8 (below_al8 (Below.refl _ _) _) _) _
  case round =>
    obtain ⟨k, ov, hk, hk8, rfl, hbx, hbz, hbo, HO, hbel⟩ := hrel
    have z0 := hbx.lt
    have z1 := hbz.lt
    have z2 := hbo.lt
    have c0 : wr.cell? ⟨w.heap.size, 0, none⟩ = some (.slice A p.length c) := hbx.cell 0
    by_cases hlt : k < p.length ∧ k < 8
    · obtain ⟨hlt, hlt8⟩ := hlt
      obtain ⟨d, hd⟩ := some_of_lt hlt
      obtain ⟨b, o, rfl, hb, tv, htv, hcell⟩ := HD.out k d hd
      obtain ⟨A2, c2, rfl, g1, g2, hct⟩ := RTours.open_ htv
      have c1 : wr.cell? ⟨b, o + k, none⟩ = some (.slice A2 d.length c2) := cell_below hbel (Nat.le_refl _) hcell
      have hb' := Nat.lt_of_lt_of_le hb hbel.size
      have HT := Lib.hid hct
      have HX := Lib.hid (cutP_get hd hlt8)
      obtain ⟨wo, hwo⟩ : ∃ wo : World, wo = wr := ⟨_, rfl⟩
      subst hwo
      have hkd : decide ((k : Int) < 8) = true := by simp; omega
      have hkl : decide (k < p.length) = true := by simp; omega
      clear hd hcell htv hct
      go_wp2_with fail
      go_loopw [6] (fun iv wr => ∃ (j : Nat) (dv : Value), j ≤ d.length ∧ j ≤ 6 ∧ iv = .int .i64 j ∧ Blk wr wo.heap.size 38 [dv] ∧
          Hid (OL (wo.heap.size + 1) 41 1 (OTour (wo.heap.size + 1) 43) wr dv ((cutD d).take j)) ∧ Below wo.heap.size wo wr) (fun iv _ => d.length - (intOf iv).toNat)
      case atStart =>
        exact ⟨0, .slice none 0 0, Nat.zero_le _, Nat.zero_le _, rfl, Blk.new _ _ _, OL.nil_ _ _ _ _ _, below_al8 (Below.refl _ _) _⟩
      case round =>
        obtain ⟨j, dv, hj, hj6, rfl, hbd, HOD, hbel2⟩ := hrel
        have y0 := hbd.lt
        have yz := hbel2.size
        have x0 : wr.cell? ⟨w.heap.size, 0, none⟩ = some (.slice (some ⟨b, o, none⟩) p.length c) := cell_below hbel2 (Nat.le_refl _) c0
        have x1 : wr.cell? ⟨b, o + k, none⟩ = some (.slice A2 d.length c2) := cell_below hbel2 (Nat.le_refl _) c1
        by_cases hlt2 : j < d.length ∧ j < 6
        · obtain ⟨hlt2, hlt6⟩ := hlt2
          obtain ⟨t, ht⟩ := some_of_lt hlt2
          obtain ⟨b2, o2, rfl, hb2, sv, hsv, hcell⟩ := HT.out j t ht
          obtain ⟨A3, c3, rfl, g3, g4, hcs⟩ := RStops.open_ hsv
          have hb2w := Nat.lt_of_lt_of_le hb2 hbel.size
          have x2 : wr.cell? ⟨b2, o2 + j, none⟩ = some (.slice A3 t.length c3) := cell_below hbel2 (Nat.le_refl _) (cell_below hbel (Nat.le_refl _) hcell)
          have HS := Lib.hid hcs
          have HX2 := Lib.hid (cutD_get ht hlt6)
          obtain ⟨wp, hwp⟩ : ∃ wp : World, wp = wr := ⟨_, rfl⟩
          subst hwp
          have hjd : decide ((j : Int) < 6) = true := by simp; omega
          have hjl : decide (j < d.length) = true := by simp; omega
          clear ht hcell hsv hcs
          go_wp2_with fail
          go_loopw [7, 8] (fun sv iv wr => ∃ i : Nat, i ≤ t.length ∧ i ≤ 8 ∧ iv = .int .i64 i ∧ Hid (OL wp.heap.size 43 2 RStop wr sv ((cutT t).take i)) ∧ Below wp.heap.size wp wr) (fun _ iv _ => t.length - (intOf iv).toNat)
          case atStart => exact ⟨0, Nat.zero_le _, Nat.zero_le _, rfl, OL.nil_ _ _ _ _ _, Below.refl _ _⟩
          case round =>
            obtain ⟨i, hi, hi8, rfl, HOS, hbel3⟩ := hrel
            have hz3 := hbel3.size
            have u0 : wr.cell? ⟨w.heap.size, 0, none⟩ = some (.slice (some ⟨b, o, none⟩) p.length c) := cell_below hbel3 (Nat.le_refl _) x0
            have u1 : wr.cell? ⟨b, o + k, none⟩ = some (.slice (some ⟨b2, o2, none⟩) d.length c2) := cell_below hbel3 (Nat.le_refl _) x1
            have u2 : wr.cell? ⟨b2, o2 + j, none⟩ = some (.slice A3 t.length c3) := cell_below hbel3 (Nat.le_refl _) x2
            obtain ⟨css, q1, q2, q3, q4⟩ := HOS.out
            by_cases hlt3 : i < t.length ∧ i < 8
            · obtain ⟨hlt3, hlt38⟩ := hlt3
              obtain ⟨s, hs⟩ := some_of_lt hlt3
              obtain ⟨b3, o3, rfl, hb3, hcell0, hcell1⟩ := HS.out i s hs
              have u3 : wr.cell? ⟨b3, o3 + i * 2, none⟩ = some (.int .i64 s.1) := cell_below hbel3 (Nat.le_refl _) (cell_below hbel2 (Nat.le_refl _) (cell_below hbel (Nat.le_refl _) hcell0))
              have u4 : wr.cell? ⟨b3, o3 + i * 2 + 1, none⟩ = some (.int .i64 s.2) := cell_below hbel3 (Nat.le_refl _) (cell_below hbel2 (Nat.le_refl _) (cell_below hbel (Nat.le_refl _) hcell1))
              have hln : ((cutT t).take i).length = i := by unfold cutT; simp; omega
              rw [hln] at q1 q3
              have HQ1 := Lib.hid q1
              have HQ2 := Lib.hid q2
              have HQ4 := Lib.hid q4
              have HST := Lib.hid (take_snoc8 (cutT_get hs hlt38))
              have HLN := Lib.hid hln
              have hin : i ≤ 1000000000 := by omega
              clear hs hcell0 hcell1 q1 q2 q4 hln
              go_wp2_with (at_builtin; refine wpList_append_one' _ rfl (.tmp 54) (.tmp 68) 39 rfl wp.heap.size 43 _ 2 16 Tryd.underlying39 stopinfo rfl (by decide) (by decide) _ _ _ q3 rfl [.int .i64 s.1, .int .i64 s.2] _ rfl rfl rfl hin hz3 ?_; intro g cap w5 ho5 hg0 hg1 hk5 hz5)
              go_roundw
              case rel =>
                refine ⟨i + 1, by omega, by omega, by go_num, ?_, hbel3.trans (hk5.below hz3)⟩
                rw [HST.out]
                exact OL.push HLN.out HQ1.out HQ2.out rfl ho5 (fun a x cs hx hc => HQ4.out a x cs hx hc) rfl
              case measure => simp [intOf]; omega
            · have hex : (¬ i < t.length) ∨ (i < t.length ∧ (8 : Int) ≤ (i : Int)) := by omega
              have hall : (cutT t).take i = cutT t := cutT_all (by omega)
              have HOT : Hid (OL wp.heap.size 43 2 RStop wr u7 (cutT t)) := by rw [← hall]; exact HOS.out
              clear q1 q2 q3 q4
              obtain ⟨css, q1, q2, q3, q4⟩ := HOT.out
              obtain ⟨Av, cv, rfl, -⟩ := RS.of_own q3
              obtain ⟨cst, r1, r2, r3, r4⟩ := HOD.out
              have hln : ((cutD d).take j).length = j := by unfold cutD; simp; omega
              rw [hln] at r1 r3
              replace r3 := own_below r3 hbel3 (Nat.le_refl _)
              have HQ1 := Lib.hid r1
              have HQ2 := Lib.hid r2
              have HQ4 := Lib.hid r4
              have HLN := Lib.hid hln
              have hbd3 := hbd.below hbel3 y0
              have d3 : wr.cell? ⟨wo.heap.size, 0, none⟩ = some dv := hbd3.cell 0
              have hjn : j ≤ 1000000000 := by omega
              have hbase : wo.heap.size + 1 ≤ wr.heap.size := by omega
              clear hall r1 r2 r4 hln q1 q2 q3 q4
              rcases hex with hex | ⟨hex, hex8⟩
              all_goals
                go_wp2_with (at_builtin; refine wpList_append_one' _ rfl (.tmp 71) (.tmp 74) 36 rfl (wo.heap.size + 1) 41 _ 1 24 Tryd.underlying36 tourinfo rfl (by decide) (by decide) _ _ _ r3 rfl [.slice Av (cutT t).length cv] _ rfl rfl rfl hjn hbase ?_; intro g cap w5 ho5 hg0 hg1 hk5 hz5; have hb5 := hk5.below hbase; have hbd5 := hbd3.below hb5 (Nat.lt_succ_self _); have e5 : w5.cell? ⟨wo.heap.size, 0, none⟩ = some dv := hbd5.cell 0; have f5 : w5.frozen? ⟨wo.heap.size, 0, none⟩ = false := hbd5.frozen 0)
                go_roundw
                case rel =>
                  refine ⟨j + 1, .slice (some ⟨g, 0, none⟩) (j + 1) cap, by omega, by omega, by go_num, hbd5.set_ 0 _, ?_, ?_⟩
                  · rw [take_snoc8 HX2.out]
                    exact OTours.set_low (OL.push HLN.out HQ1.out HQ2.out rfl ho5 (fun a x cs hx hc => OTour.keep (OTour.below (HQ4.out a x cs hx hc) hbel3 (Nat.le_refl _)) hk5 (by decide)) ⟨_, rfl, OL.mono (OStops.keep HOT.out hk5 (by decide)) (by omega)⟩) (Nat.lt_succ_self _) _
                  · exact ((hbel2.trans (hbel3.mono yz)).trans (hb5.mono (Nat.le_succ _))).setCell (p := ⟨wo.heap.size, 0, none⟩) (Nat.le_refl _) _
                case measure => simp [intOf]; omega
        · have hex : (¬ j < d.length) ∨ (j < d.length ∧ (6 : Int) ≤ (j : Int)) := by omega
          have hall : (cutD d).take j = cutD d := cutD_all (by omega)
          have HOT : Hid (OL (wo.heap.size + 1) 41 1 (OTour (wo.heap.size + 1) 43) wr dv (cutD d)) := by rw [← hall]; exact HOD.out
          obtain ⟨css, q1, q2, q3, q4⟩ := HOT.out
          obtain ⟨Av, cv, rfl, -⟩ := RS.of_own q3
          obtain ⟨cst, r1, r2, r3, r4⟩ := HO.out
          have hln : ((cutP p).take k).length = k := by unfold cutP; simp; omega
          rw [hln] at r1 r3
          replace r3 := own_below r3 hbel2 (Nat.le_refl _)
          have HQ1 := Lib.hid r1
          have HQ2 := Lib.hid r2
          have HQ4 := Lib.hid r4
          have HLN := Lib.hid hln
          have hbo3 := hbo.below hbel2 z2
          have hbx3 := hbx.below hbel2 z0
          have hbz3 := hbz.below hbel2 z1
          have d3 : wr.cell? ⟨w.heap.size + 1 + 1, 0, none⟩ = some ov := hbo3.cell 0
          have d4 : wr.cell? ⟨wo.heap.size, 0, none⟩ = some (.slice Av (cutD d).length cv) := hbd.cell 0
          have hkn : k ≤ 1000000000 := by omega
          have hbase : w.heap.size + 1 + 1 + 1 ≤ wr.heap.size := by omega
          clear hall r1 r2 r4 hln q1 q2 q3 q4
          rcases hex with hex | ⟨hex, hex8⟩
          all_goals
            go_wp2_with (at_builtin; refine wpList_append_one' _ rfl (.tmp 78) (.tmp 80) 22 rfl (w.heap.size + 1 + 1 + 1) 38 _ 1 24 Tryd.underlying22 dayinfo rfl (by decide) (by decide) _ _ _ r3 rfl [.slice Av (cutD d).length cv] _ rfl rfl rfl hkn hbase ?_; intro g cap w5 ho5 hg0 hg1 hk5 hz5; have hb5 := hk5.below hbase; have hbo5 := hbo3.below hb5 (Nat.lt_succ_self _); have e5 : w5.cell? ⟨w.heap.size + 1 + 1, 0, none⟩ = some ov := hbo5.cell 0; have f5 : w5.frozen? ⟨w.heap.size + 1 + 1, 0, none⟩ = false := hbo5.frozen 0)
            go_roundw
            case rel =>
              refine ⟨k + 1, .slice (some ⟨g, 0, none⟩) (k + 1) cap, by omega, by omega, by go_num, (hbx3.below hb5 (by omega)).far (p := ⟨w.heap.size + 1 + 1, 0, none⟩) (by show w.heap.size ≠ w.heap.size + 1 + 1; omega) _, (hbz3.below hb5 (by omega)).far (p := ⟨w.heap.size + 1 + 1, 0, none⟩) (by show w.heap.size + 1 ≠ w.heap.size + 1 + 1; omega) _, hbo5.set_ 0 _, ?_, ?_⟩
              · rw [take_snoc8 HX.out]
                exact ODays.set_low (OL.push HLN.out HQ1.out HQ2.out rfl ho5 (fun a x cs hx hc => ODay.keep (ODay.below (HQ4.out a x cs hx hc) hbel2 (Nat.le_refl _)) hk5 (by decide) (by decide)) ⟨_, rfl, OTours.mono (OTours.keep HOT.out hk5 (by decide) (by decide)) (by omega)⟩) (Nat.lt_succ_self _) _
              · exact ((hbel.trans (hbel2.mono hbel.size)).trans (hb5.mono (by omega))).setCell (p := ⟨w.heap.size + 1 + 1, 0, none⟩) (by show w.heap.size ≤ w.heap.size + 1 + 1; omega) _
            case measure => simp [intOf]; omega
    · have hex : (¬ k < p.length) ∨ (k < p.length ∧ (8 : Int) ≤ (k : Int)) := by omega
      have hall : (cutP p).take k = cutP p := cutP_all (by omega)
      rw [hall] at HO
      have d3 : wr.cell? ⟨w.heap.size + 1 + 1, 0, none⟩ = some ov := hbo.cell 0
      have d4 : wr.frozen? ⟨w.heap.size + 1, 0, none⟩ = false := hbz.frozen 0
      have d5 : wr.cell? ⟨w.heap.size + 1, 0, none⟩ = some (.slice none 0 0) := hbz.cell 0
      obtain ⟨css, q1, q2, q3, q4⟩ := HO.out
      obtain ⟨Av, cv, rfl, -⟩ := RS.of_own q3
      clear hall q1 q2 q3 q4
      rcases hex with hex | ⟨hex, hex8⟩
      all_goals
        go_wp2
        refine bodyPost_ret (v := .agg #[.slice Av (cutP p).length cv]) (results_blk rfl _ _ (w.heap.size + 1) 24 [.slice Av (cutP p).length cv] _ rfl (hbz.set_ 0 _) Tryd.underlying24 rfl (by kernel_rfl)) rfl ⟨_, rfl, ⟨_, rfl, ODays.mono (ODays.set_low HO.out (by show w.heap.size + 1 < _; omega) _) (by omega)⟩, ?_⟩
        exact hbel.setCell (p := ⟨w.heap.size + 1, 0, none⟩) (by show w.heap.size ≤ w.heap.size + 1; omega) _
end Go.Proofs.YtokdneolgolkbaaDoor
