/- The walk of Clone. -/
import Derived.Test.YtifdggdpglphmaaMem3
import Derived.Test.YtifdggdpglphmaaW06o
import Derived.Test.YtifdggdpglphmaaOrd
namespace Go.Proofs.Ytifdggdpglphmaa
open Go.RowKit P06

set_option maxHeartbeats 2000000 in
theorem cloneI_any (v : Value) (x : Inst) (w : World) (hx : RInst w v x) (hn : x.custs.length ≤ 1000) (hp : ∀ c ∈ x.custs, c.pats.length ≤ 1000) (hd : x.dist.length ≤ 1000) (hr : ∀ r ∈ x.dist, r.length ≤ 1000) :
    Calls Try.prog 20 #[v] w fun e w' => ∃ v', e = .returned v' ∧ OwnInst w.heap.size 46 47 33 3 w' v' x ∧ Below w.heap.size w w' := by
  obtain ⟨cv, dv, rfl, hcs, hds⟩ := hx
  obtain ⟨A, c, rfl, hc1, hc2, hcell⟩ := hcs.open_
  obtain ⟨A1, c1, rfl, hd1, hd2, hdc⟩ := hds
  obtain ⟨days, veh, cap, len, custs, D⟩ := x
  simp only [maxLen] at hc1 hd1 hd2 hcell hdc hn hp hd hr ⊢
  have HC := Lib.hid hcell
  have HD := Lib.hid hdc
  have HP := Lib.hid hp
  have HR := Lib.hid hr
  clear hcell hcs hdc hp hr
  go_enter Try.func20, Try.ntmps20
  go_wp2_with fail
  go_loopw [14] (fun iv wr => ∃ (j : Nat) (v : Value), j ≤ custs.length ∧ iv = .int .i64 j ∧ Blk wr w.heap.size 25 [.int .i64 days, .int .i64 veh, .int .i64 cap, .int .i64 len, .slice A custs.length c, .slice A1 D.length c1] ∧ Blk wr (w.heap.size + 1) 25 [.int .i64 0, .int .i64 0, .int .i64 0, .int .i64 0, .slice none 0 0, .slice none 0 0] ∧ Blk wr (w.heap.size + 1 + 1) 25 [.int .i64 days, .int .i64 veh, .int .i64 cap, .int .i64 len, v, .slice none 0 0] ∧
      OwnCusts (w.heap.size + 1 + 1 + 1) 46 47 wr v (custs.take j) ∧ Below w.heap.size w wr) (fun iv _ => custs.length - (intOf iv).toNat)
  case atStart =>
    refine ⟨0, .slice none 0 0, Nat.zero_le _, rfl, ((Blk.new w _ _).alloc _).alloc _, (Blk.newAt _ _ _ (by simp)).alloc _, Blk.newAt _ _ _ (by simp), OwnCusts.none_ _ _ _ _, ?_⟩
    exact (((Below.refl w.heap.size w).alloc (Nat.le_refl _) _).alloc (by simp) _).alloc (by simp; omega) _
  case round =>
    obtain ⟨j, v, hj, rfl, hbx, hbz, hbo, hown, hbel⟩ := hrel
    have z0 := hbx.lt
    have z1 := hbz.lt
    have z2 := hbo.lt
    by_cases hlt : j < custs.length
    · obtain ⟨x, hx⟩ := some_of_lt hlt
      obtain ⟨b, o, rfl, hb, pv, hpv, k0, k1, k2, k3, k4, k5, k6, k7⟩ := HC.out j x hx
      have hb' := Nat.lt_of_lt_of_le hb hbel.size
      replace k0 := cell_below hbel (Nat.le_refl _) k0
      replace k1 := cell_below hbel (Nat.le_refl _) k1
      replace k2 := cell_below hbel (Nat.le_refl _) k2
      replace k3 := cell_below hbel (Nat.le_refl _) k3
      replace k4 := cell_below hbel (Nat.le_refl _) k4
      replace k5 := cell_below hbel (Nat.le_refl _) k5
      replace k6 := cell_below hbel (Nat.le_refl _) k6
      replace k7 := cell_below hbel (Nat.le_refl _) k7
      have hpv' : RPats wr pv x.pats := hpv.below hbel (Nat.le_refl _)
      have hpl := HP.out x (List.mem_of_getElem? hx)
      obtain ⟨Ap, cp, rfl, -⟩ := hpv'.open_
      have HPV : Hid (RPats (wr.alloc (.cells #[.int .i64 x.kind, .int .i64 x.demand, .slice Ap x.pats.length cp, .int .i64 x.rate, .int .i64 x.size, .int .i64 x.start, .int .i64 x.rule, .int .i64 x.hold] 46)) (.slice Ap x.pats.length cp) x.pats) := hpv'.below ((Below.refl _ _).alloc (Nat.le_refl _) _) (Nat.le_refl _)
      have HX := Lib.hid hx
      obtain ⟨pvs, hpvl, how, hpr⟩ := hown
      have hLl : (custs.take j).length = j := by rw [List.length_take, Nat.min_eq_left hj]
      rw [hLl] at how hpvl
      have HPR := Lib.hid hpr
      have HPL := Lib.hid hpvl
      have hjn : j ≤ 1000000000 := by omega
      have hpl2 : x.pats.length ≤ 1000000000 := by omega
      clear hpv hpv' hx hpr hpvl hLl
      have hjl : (j : Int) < (custs.length : Int) := by omega
      have hbase0 : w.heap.size + 1 + 1 + 1 ≤ wr.heap.size := by omega
      go_wp2_with (first
        | (at_builtin; refine wpList_append_fresh _ rfl (.const (.slice none 0 0)) (.tmp 19) 44 rfl 47 _ 1 8 Try.underlying44 u64info rfl (by decide) (by decide) Ap x.pats.length cp (x.pats.map fun (s : Nat) => Value.int .u64 (s : Int)) rfl rfl (HPV.out.rs) (by simp [Value.oneCell']) hpl2 ?_; intro pv2 w2 hown2 hb2; obtain ⟨Aq, cq, rfl, -⟩ := RS.of_own hown2; have hbb := (Blk.newAt wr 46 [.int .i64 x.kind, .int .i64 x.demand, .slice Ap x.pats.length cp, .int .i64 x.rate, .int .i64 x.size, .int .i64 x.start, .int .i64 x.rule, .int .i64 x.hold] rfl).below hb2 (by simp); have hbb2 := hbb.cells8; obtain ⟨g0, g1, g2, g3, g4, g5, g6, g7⟩ := hbb2; have hbf := hbb.frozen 2; have hal2 := (Below.refl wr.heap.size wr).alloc (Nat.le_refl _) (.cells [.int .i64 x.kind, .int .i64 x.demand, .slice Ap x.pats.length cp, .int .i64 x.rate, .int .i64 x.size, .int .i64 x.start, .int .i64 x.rule, .int .i64 x.hold].toArray 46); have hb2r := hal2.trans (hb2.mono (by simp)); have o4 : w2.cell? ⟨w.heap.size + 1 + 1, 4, none⟩ = some v := (hbo.below hb2r z2).cell 4; have hz22 := Nat.lt_of_lt_of_le z2 hb2r.size; have hwr2 := hbb.lt; have hbase2 : w.heap.size + 1 + 1 + 1 ≤ (w2.setCell ⟨wr.heap.size, 2, none⟩ (.slice Aq x.pats.length cq)).heap.size := (by simp; omega); have how2 := own_set (own_below how hb2r (Nat.le_refl _)) (p := ⟨wr.heap.size, 2, none⟩) (fun g hg => Nat.ne_of_lt (how.lt g hg).2) (.slice Aq x.pats.length cq))
        | (at_builtin; go_loud (refine wpList_append_one' (w2.setCell ⟨wr.heap.size, 2, none⟩ (.slice Aq x.pats.length cq)) rfl (.tmp 23) (.tmp 25) 22 rfl (w.heap.size + 1 + 1 + 1) 46 _ 8 80 Try.underlying22 cinfo rfl (by decide) (by decide) _ _ _ how2 rfl (custCells x (.slice Aq x.pats.length cq)) 1 (by rw [World.size_setCell]; rfl) rfl rfl hjn hbase2 ?_); intro g cap w5 ho5 hg0 hg1 hk5 hz5; have hb5 := hk5.below hbase2; have hbo5 := ((hbo.below hb2r z2).far (p := ⟨wr.heap.size, 2, none⟩) (Nat.ne_of_lt z2) (.slice Aq x.pats.length cq)).below hb5 (Nat.lt_succ_self _); have f5 := hbo5.frozen 4; have c5 : w5.cell? ⟨w.heap.size + 1 + 1, 4, none⟩ = some v := hbo5.cell 4))
      go_roundw
      case rel =>
        refine ⟨j + 1, .slice (some ⟨g, 0, none⟩) (j + 1) cap, by omega, by go_num, (((hbx.below hb2r z0).far (p := ⟨wr.heap.size, 2, none⟩) (Nat.ne_of_lt z0) _).below hb5 (by omega)).far (p := ⟨w.heap.size + 1 + 1, 4, none⟩) (by show w.heap.size ≠ w.heap.size + 1 + 1; omega) _,
          (((hbz.below hb2r z1).far (p := ⟨wr.heap.size, 2, none⟩) (Nat.ne_of_lt z1) _).below hb5 (by omega)).far (p := ⟨w.heap.size + 1 + 1, 4, none⟩) (by show w.heap.size + 1 ≠ w.heap.size + 1 + 1; omega) _, hbo5.set_ 4 _, ?_, ?_⟩
        · rw [List.take_add_one, HX.out, Option.toList_some]
          exact (OwnCusts.push (by rw [List.length_take, Nat.min_eq_left (by omega)]) HPL.out ho5 (fun i x' qv hx' hq => hk5.own (own_set (own_below (HPR.out i x' qv hx' hq) hb2r (Nat.le_refl _)) (p := ⟨wr.heap.size, 2, none⟩) (fun g hg => Nat.ne_of_lt ((HPR.out i x' qv hx' hq).lt g hg).2) _) (by decide))
            (hk5.own (own_set (own_mono hown2 (by simp; omega)) (p := ⟨wr.heap.size, 2, none⟩) (fun g hg => by have := (hown2.lt g hg).1; simp at this; show g ≠ wr.heap.size; omega) _) (by decide))).set_low (by show w.heap.size + 1 + 1 < _; omega) _
        · exact ((((hbel.trans (hb2r.mono (by omega))).setCell (p := ⟨wr.heap.size, 2, none⟩) (by show w.heap.size ≤ wr.heap.size; omega) _).trans (hb5.mono (by omega)))).setCell (p := ⟨w.heap.size + 1 + 1, 4, none⟩) (by show w.heap.size ≤ w.heap.size + 1 + 1; omega) _
      case measure => simp [intOf]; omega
    · obtain rfl : j = custs.length := by omega
      have hv : ∃ Av cv, v = .slice Av custs.length cv := by
        obtain ⟨pvs, _, ho, _⟩ := hown
        obtain ⟨Av, cv, hv, _⟩ := RS.of_own ho
        rw [List.take_length] at hv
        exact ⟨Av, cv, hv⟩
      obtain ⟨Av, cv, rfl⟩ := hv
      rw [List.take_length] at hown
      have HB := Lib.hid hbel
      obtain ⟨q0, q1, q2, q3, q4, q5⟩ := hbx.cells6
      clear hlt hbel
      go_wp2_with fail
      clear q0 q1 q2 q3 q4 q5
      go_loopw [32] (fun iv wr => ∃ (i : Nat) (vd : Value), i ≤ D.length ∧ iv = .int .i64 i ∧ Blk wr w.heap.size 25 [.int .i64 days, .int .i64 veh, .int .i64 cap, .int .i64 len, .slice A custs.length c, .slice A1 D.length c1] ∧ Blk wr (w.heap.size + 1) 25 [.int .i64 0, .int .i64 0, .int .i64 0, .int .i64 0, .slice none 0 0, .slice none 0 0] ∧ Blk wr (w.heap.size + 1 + 1) 25 [.int .i64 days, .int .i64 veh, .int .i64 cap, .int .i64 len, .slice Av custs.length cv, vd] ∧
          OwnCusts (w.heap.size + 1 + 1 + 1) 46 47 wr (.slice Av custs.length cv) custs ∧ OwnRows (w.heap.size + 1 + 1 + 1) 33 3 wr vd (D.take i) ∧ Below w.heap.size w wr) (fun iv _ => D.length - (intOf iv).toNat)
      case atStart => exact ⟨0, .slice none 0 0, Nat.zero_le _, rfl, hbx, hbz, hbo, hown, OwnRows.none_ _ _ _ _, HB.out⟩
      case round =>
        clear hbx hbz hbo hown z0 z1 z2
        obtain ⟨i, vd, hi, rfl, hbx, hbz, hbo, hown, hrow, hbel⟩ := hrel
        have z0 := hbx.lt
        have z1 := hbz.lt
        have z2 := hbo.lt
        by_cases hlt : i < D.length
        · obtain ⟨r, hr⟩ := some_of_lt hlt
          obtain ⟨b, o, rfl, hb, hrr⟩ := HD.out (by omega)
          obtain ⟨rv, hrv, k0⟩ := hrr i r hr
          replace k0 := cell_below hbel (Nat.le_refl _) k0
          have hrv' : RInts wr .i64 rv r := hrv.below hbel (Nat.le_refl _)
          have hrl := HR.out r (List.mem_of_getElem? hr)
          obtain ⟨Ar, cr, rfl, -⟩ := hrv'.open_
          have HRV := Lib.hid hrv'
          have HX := Lib.hid hr
          obtain ⟨rvs, how, hrr2⟩ := hrow
          have hLl : (D.take i).length = i := by rw [List.length_take, Nat.min_eq_left hi]
          rw [hLl] at how
          have HPR := Lib.hid hrr2
          have HOW := Lib.hid how
          have HRL : Hid (rvs.length = i) := by have := how.1; show rvs.length = i; omega
          have hin : i ≤ 1000000000 := by omega
          have hrl2 : r.length ≤ 1000000000 := by omega
          have o5 : wr.cell? ⟨w.heap.size + 1 + 1, 5, none⟩ = some vd := hbo.cell 5
          clear hrv hrv' hr hrr hrr2 how hLl
          have hil : (i : Int) < (D.length : Int) := by omega
          have hbase0 : w.heap.size + 1 + 1 + 1 ≤ wr.heap.size := by omega
          go_wp2_with fail
          refine wp_region_L_S (fun w' => w'.cell? ⟨w.heap.size + 1 + 1, 5, none⟩ = some vd) (by kernel_rfl) ?_ (fun hS => ?_)
          · exact o5
          refine wpAnyL_take 0 (v := ?_) rfl (by kernel_rfl) (by kernel_rfl) (by kernel_rfl) (fun _ _ _ h => h) (by rfl) ?_ hS ?_
          rotate_left
          · intro w hSw
            (try dsimp only at hSw)
            go_simp
            try with_reducible rfl
          try simp only [Act.put, List.setIfInBounds_toArray]
          refine wpAnyL_take 1 (v := ?_) rfl (by kernel_rfl) (by kernel_rfl) (by kernel_rfl) (fun _ _ _ h => h) (by rfl) ?_ hS ?_
          rotate_left
          · intro w hSw
            (try dsimp only at hSw)
            go_simp
            try with_reducible rfl
          try simp only [Act.put]
          refine wpAnyL_take 2 (v := ?_) rfl (by kernel_rfl) (by kernel_rfl) (by kernel_rfl) (fun _ _ _ h => h) (by rfl) ?_ hS ?_
          rotate_left
          · intro w hSw
            (try dsimp only at hSw)
            go_simp
            try with_reducible rfl
          try simp only [Act.put]
          refine wpAnyL_one 3 rfl (by kernel_rfl) (by rfl) (fun K hK => ?_)
          refine wp_append_fresh _ _ _ _ (by rfl) 3 _ 1 8 Try.underlying33 iinfo rfl (by decide) (by decide) Ar r.length cr (r.map (Value.int .i64)) (by rfl) (by rfl) (RInts.below HRV.out ((Below.refl wr.heap.size wr).drew) (Nat.le_refl _)) (by simp [Value.oneCell']) hrl2 ?_
          intro rv2 w2 hown2 hb2
          obtain ⟨Aq, cq, rfl, -⟩ := RS.of_own hown2
          refine hK.out _ _ ?_ (fun hS => ?_)
          · exact (hb2.cell (p := ⟨w.heap.size + 1 + 1, 5, none⟩) z2).trans o5
          clear hK K
          try simp only [Act.put]
          refine wpAnyL_one 4 rfl (by kernel_rfl) (by rfl) (fun K hK => ?_)
          go_simp
          have hal := (Below.refl w2.heap.size w2).alloc (Nat.le_refl _) (.cells [.slice Aq r.length cq].toArray 33)
          refine hK.out _ _ ?_ (fun hS => ?_)
          · exact (hal.cell (p := ⟨w.heap.size + 1 + 1, 5, none⟩) (Nat.lt_of_lt_of_le z2 hb2.size)).trans ((hb2.cell (p := ⟨w.heap.size + 1 + 1, 5, none⟩) z2).trans o5)
          clear hK K
          try simp only [Act.put, List.setIfInBounds_toArray, List.set_cons_zero, List.set_cons_succ]
          have hbr2 : Below wr.heap.size wr w2 := (Below.refl wr.heap.size wr).drew.trans hb2
          have hz2 := hbr2.size
          refine wpAnyL_one 5 rfl (by kernel_rfl) (by rfl) (fun K hK => ?_)
          refine wp_append_one w2 _ _ _ (by rfl) (w.heap.size + 1 + 1 + 1) 33 _ 1 24 Try.underlying23 rinfo rfl (by decide) (by decide) _ _ _ (own_below HOW.out hbr2 (Nat.le_refl _)) (by rfl) [.slice Aq r.length cq] _ (by rfl) rfl rfl hin (Nat.le_trans hbase0 hz2) ?_
          intro g cap w5 ho5 hg0 hg1 hk5 hz5
          have hb5 := hk5.below (Nat.le_trans hbase0 hz2)
          refine hK.out _ _ ?_ (fun hS => ?_)
          · exact (hb5.cell (p := ⟨w.heap.size + 1 + 1, 5, none⟩) (Nat.lt_succ_self _)).trans ((hb2.cell (p := ⟨w.heap.size + 1 + 1, 5, none⟩) z2).trans o5)
          clear hK K
          try simp only [Act.put, List.setIfInBounds_toArray]
          refine wpAnyL_take 6 (v := ?_) rfl (by kernel_rfl) (by kernel_rfl) (by kernel_rfl) (fun _ _ _ h => h) (by rfl) ?_ hS ?_
          rotate_left
          · intro w hSw
            (try dsimp only at hSw)
            go_simp
            try with_reducible rfl
          try simp only [Act.put]
          refine wpAnyL_last 7 rfl (by kernel_rfl) (by kernel_rfl) (by kernel_rfl) (by rfl) (fun K hK => ?_)
          have hbo5 := (hbo.below hbr2 z2).below hb5 (Nat.lt_succ_self _)
          have f5 := hbo5.frozen 5
          have c5 : w5.cell? ⟨w.heap.size + 1 + 1, 5, none⟩ = some vd := hbo5.cell 5
          go_simp
          refine hK.out _ _ ?_
          clear hK K
          try simp only [Act.put, List.setIfInBounds_toArray, List.set_cons_zero, List.set_cons_succ]
          go_wp2
          go_roundw
          case rel =>
            refine ⟨i + 1, .slice (some ⟨g, 0, none⟩) (i + 1) cap, by omega, by go_num, ((hbx.below hbr2 z0).below hb5 (by omega)).far (p := ⟨w.heap.size + 1 + 1, 5, none⟩) (by show w.heap.size ≠ w.heap.size + 1 + 1; omega) _,
              ((hbz.below hbr2 z1).below hb5 (by omega)).far (p := ⟨w.heap.size + 1 + 1, 5, none⟩) (by show w.heap.size + 1 ≠ w.heap.size + 1 + 1; omega) _, hbo5.set_ 5 _,
              ((hown.below hbr2 (Nat.le_refl _)).keep hk5 (by decide) (by decide)).set_low (by show w.heap.size + 1 + 1 < _; omega) _, ?_, ?_⟩
            · rw [List.take_add_one, HX.out, Option.toList_some]
              exact (OwnRows.push (by rw [List.length_take, Nat.min_eq_left (by omega)]) HRL.out ho5 (fun a r' qv hr' hq => hk5.own (own_below (HPR.out a r' qv hr' hq) hbr2 (Nat.le_refl _)) (by decide)) (hk5.own (own_mono hown2 (by show _ ≤ wr.heap.size; omega)) (by decide))).set_low (by show w.heap.size + 1 + 1 < _; omega) _
            · exact ((hbel.trans (hbr2.mono (by omega))).trans (hb5.mono (by omega))).setCell (p := ⟨w.heap.size + 1 + 1, 5, none⟩) (by show w.heap.size ≤ w.heap.size + 1 + 1; omega) _
          case measure => simp [intOf]; omega
        · obtain rfl : i = D.length := by omega
          have hvd : ∃ Ad cd, vd = .slice Ad D.length cd := by
            obtain ⟨rvs, hro, _⟩ := hrow
            obtain ⟨Ad, cd, hv, _⟩ := RS.of_own hro
            rw [List.take_length] at hv
            exact ⟨Ad, cd, hv⟩
          obtain ⟨Ad, cd, rfl⟩ := hvd
          rw [List.take_length] at hrow
          obtain ⟨q0, q1, q2, q3, q4, q5⟩ := hbo.cells6
          obtain ⟨y0, y1, y2, y3, y4, y5⟩ := hbz.cells6
          obtain ⟨e0, e1, e2, e3, e4, e5⟩ := hbz.free6
          go_wp2
          refine bodyPost_ret (results_blk rfl _ _ (w.heap.size + 1) 25 [.int .i64 days, .int .i64 veh, .int .i64 cap, .int .i64 len, .slice Av custs.length cv, .slice Ad D.length cd] _ rfl ?hW Try.underlying25 rfl isize) rfl ⟨_, rfl, ?_, ?_⟩
          case hW => exact hbz.set6
          · exact ⟨.slice Av custs.length cv, .slice Ad D.length cd, rfl, (hown.low6 (by omega)).mono (by omega), (hrow.low6 (by omega)).mono (by omega)⟩
          · exact below_set6 hbel (by omega)

end Go.Proofs.Ytifdggdpglphmaa
