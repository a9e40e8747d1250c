/- The walk of the statement InstSame. -/
import Derived.Test.YtifdggdpglphmaaM06e
import Derived.Test.YtifdggdpglphmaaW06z
import Derived.Test.YtifdggdpglphmaaW06za
namespace Go.Proofs.Ytifdggdpglphmaa
open Go.RowKit P06

theorem goodC_pats (c : Cust) (days : Int) : (goodC c days).pats.length ≤ 1000 := by
  unfold goodC
  split
  · simp
  · simp only [goodPats]
    split
    · simp
    · simp; omega
theorem goodP_pats (x : Inst) : ∀ c ∈ (goodP x).custs, c.pats.length ≤ 1000 := by
  intro c hc
  obtain ⟨y, _, rfl⟩ := List.mem_map.1 hc
  exact goodC_pats _ _

set_option maxHeartbeats 4000000 in
theorem instSame_any (v v' : Value) (x y : Inst) (w : World) (hx : RInst w v x) (hwx : x.wf) (hy : RInst w v' y) (hwy : y.wf) :
    Calls Try.prog 8 #[v, v'] w fun e w' => e = .returned (.bool true) ∧ Below w.heap.size w w' := by
  have HX := Lib.hid hx
  have HWX := Lib.hid hwx
  have HY := Lib.hid hy
  have HWY := Lib.hid hwy
  obtain ⟨cv, dv, rfl, ⟨A1, c1, rfl, -⟩, ⟨A2, c2, rfl, -⟩⟩ := hx
  obtain ⟨cv', dv', rfl, ⟨B1, d1, rfl, -⟩, ⟨B2, d2, rfl, -⟩⟩ := hy
  clear hwx hwy
  go_enter Try.func8, Try.ntmps8
  go_wp2_with fail
  have k1 := below_al (below_al (Below.refl w.heap.size w) (.cells [.int .i64 x.days, .int .i64 x.veh, .int .i64 x.cap, .int .i64 x.len, .slice A1 x.custs.length c1, .slice A2 x.dist.length c2].toArray 25)) (.cells [.int .i64 y.days, .int .i64 y.veh, .int .i64 y.cap, .int .i64 y.len, .slice B1 y.custs.length d1, .slice B2 y.dist.length d2].toArray 25)
  refine (goodI_any _ x _ (HX.out.below k1 (Nat.le_refl _)) HWX.out).mono ?_
  rintro e w2 ⟨v2, rfl, hown, hb2⟩
  have k2 := below_nx k1 hb2
  have har := hown.reads
  obtain ⟨gx, HGX⟩ : ∃ y, y = goodP x := ⟨_, rfl⟩
  have hg6 := goodP_custs x
  have hgp := goodP_pats x
  have hgd := goodP_dist x
  have hgr := goodP_rows x
  rw [← HGX] at har hg6 hgp hgd hgr
  have HGP := Lib.hid hgp
  have HGR := Lib.hid hgr
  have HGX' := Lib.hid HGX
  have hgd2 : gx.dist.length ≤ 1000 := by omega
  clear HGX hown hgp hgr hgd
  have HAR := Lib.hid har
  obtain ⟨cv3, dv3, rfl, ⟨A3, c3, rfl, -⟩, ⟨A4, c4, rfl, -⟩⟩ := har
  have hbx0 := (((Blk.new w 25 [.int .i64 x.days, .int .i64 x.veh, .int .i64 x.cap, .int .i64 x.len, .slice A1 x.custs.length c1, .slice A2 x.dist.length c2]).alloc (.cells [.int .i64 y.days, .int .i64 y.veh, .int .i64 y.cap, .int .i64 y.len, .slice B1 y.custs.length d1, .slice B2 y.dist.length d2].toArray 25)).below hb2 (by simp; omega))
  have hby0 := (Blk.newAt (w.alloc (.cells [.int .i64 x.days, .int .i64 x.veh, .int .i64 x.cap, .int .i64 x.len, .slice A1 x.custs.length c1, .slice A2 x.dist.length c2].toArray 25)) 25 [.int .i64 y.days, .int .i64 y.veh, .int .i64 y.cap, .int .i64 y.len, .slice B1 y.custs.length d1, .slice B2 y.dist.length d2] rfl).below hb2 (by simp)
  simp only [World.size_alloc] at hby0
  have hba0 := Blk.newAt w2 25 [.int .i64 gx.days, .int .i64 gx.veh, .int .i64 gx.cap, .int .i64 gx.len, .slice A3 gx.custs.length c3, .slice A4 gx.dist.length c4] rfl
  obtain ⟨q0, q1, q2, q3, q4, q5⟩ := hby0.cells6
  have hy2 := hby0.lt
  go_wp2_with fail
  clear q0 q1 q2 q3 q4 q5
  refine (goodI_any _ y _ (HY.out.below (below_al k2 (.cells [.int .i64 gx.days, .int .i64 gx.veh, .int .i64 gx.cap, .int .i64 gx.len, .slice A3 gx.custs.length c3, .slice A4 gx.dist.length c4].toArray 25)) (Nat.le_refl _)) HWY.out).mono ?_
  rintro e w3 ⟨v3, rfl, hown, hb3⟩
  have k3 := below_nx (below_al k2 _) hb3
  have hbr := hown.reads
  obtain ⟨gy, HGY⟩ : ∃ z, z = goodP y := ⟨_, rfl⟩
  rw [← HGY] at hbr
  clear HGY hown
  have HBR := Lib.hid hbr
  obtain ⟨cv4, dv4, rfl, ⟨A5, c5, rfl, -⟩, ⟨A6, c6, rfl, -⟩⟩ := hbr
  have hba1 := hba0.below hb3 (by simp)
  have k23 : Below w2.heap.size w2 w3 := below_nx (below_al (Below.refl _ _) (.cells [.int .i64 gx.days, .int .i64 gx.veh, .int .i64 gx.cap, .int .i64 gx.len, .slice A3 gx.custs.length c3, .slice A4 gx.dist.length c4].toArray 25)) hb3
  obtain ⟨q0, q1, q2, q3, q4, q5⟩ := hba1.cells6
  have ha3 := hba1.lt
  go_wp2_with fail
  clear q0 q1 q2 q3 q4 q5
  obtain ⟨W3, hW3⟩ : ∃ W3, W3 = w3.alloc (.cells [.int .i64 gy.days, .int .i64 gy.veh, .int .i64 gy.cap, .int .i64 gy.len, .slice A5 gy.custs.length c5, .slice A6 gy.dist.length c6].toArray 25) := ⟨_, rfl⟩
  have hs3 : W3.heap.size = w3.heap.size + 1 := by rw [hW3]; simp
  have kW : Below w3.heap.size w3 W3 := by rw [hW3]; exact (Below.refl _ _).alloc (Nat.le_refl _) _
  have HA3 : Hid (RInst W3 (.agg [.int .i64 gx.days, .int .i64 gx.veh, .int .i64 gx.cap, .int .i64 gx.len, .slice A3 gx.custs.length c3, .slice A4 gx.dist.length c4].toArray) gx) := (HAR.out.below k23 (Nat.le_refl _)).below kW (Nat.le_refl _)
  have HB3 : Hid (RInst W3 (.agg [.int .i64 gy.days, .int .i64 gy.veh, .int .i64 gy.cap, .int .i64 gy.len, .slice A5 gy.custs.length c5, .slice A6 gy.dist.length c6].toArray) gy) := HBR.out.below kW (Nat.le_refl _)
  have hbb1 : Blk W3 w3.heap.size 25 [.int .i64 gy.days, .int .i64 gy.veh, .int .i64 gy.cap, .int .i64 gy.len, .slice A5 gy.custs.length c5, .slice A6 gy.dist.length c6] := by rw [hW3]; exact Blk.newAt _ _ _ rfl
  have hba2 : Blk W3 w2.heap.size 25 [.int .i64 gx.days, .int .i64 gx.veh, .int .i64 gx.cap, .int .i64 gx.len, .slice A3 gx.custs.length c3, .slice A4 gx.dist.length c4] := hba1.below kW hba1.lt
  have kx3 : Below w.heap.size w W3 := below_nx k3 kW
  have hbx3 : Blk W3 w.heap.size 25 [.int .i64 x.days, .int .i64 x.veh, .int .i64 x.cap, .int .i64 x.len, .slice A1 x.custs.length c1, .slice A2 x.dist.length c2] := ((hbx0.below k23 hbx0.lt).below kW (Nat.lt_of_lt_of_le hbx0.lt k23.size))
  rw [show w3.alloc (.cells #[.int .i64 gy.days, .int .i64 gy.veh, .int .i64 gy.cap, .int .i64 gy.len, .slice A5 gy.custs.length c5, .slice A6 gy.dist.length c6] 25) = W3 from hW3.symm]
  have HS3 := Lib.hid hs3
  clear hW3 hs3 hba0 hba1 hbx0 hby0
  refine (cloneI_any _ gx _ HA3.out (by omega) HGP.out hgd2 (fun r hr => by rw [HGR.out r hr]; omega)).mono ?_
  rintro e w4 ⟨v4, rfl, hown4, hb4⟩
  rw [HS3.out] at hown4 hb4
  have hcr := hown4.reads
  have hWC : ∀ cv dv, v4 = .agg #[.int .i64 gx.days, .int .i64 gx.veh, .int .i64 gx.cap, .int .i64 gx.len, cv, dv] → WCusts (w3.heap.size + 1) w4.heap.size w4 cv gx.custs.length ∧ WRows (w3.heap.size + 1) w4.heap.size w4 dv gx.dist.length := by
    rintro cv dv e
    obtain ⟨cv', dv', e', h1, h2⟩ := hown4
    rw [e] at e'
    simp only [Value.agg.injEq, Array.mk.injEq, List.cons.injEq, true_and, and_true] at e'
    obtain ⟨rfl, rfl⟩ := e'
    exact ⟨.of_own h1 (Nat.le_refl _), .of_own h2 (Nat.le_refl _)⟩
  have HWC0 := Lib.hid hWC
  have HCR := Lib.hid hcr
  obtain ⟨cv5, dv5, rfl, ⟨A7, c7, rfl, -⟩, ⟨A8, c8, rfl, -⟩⟩ := hcr
  have HWC := Lib.hid (HWC0.out _ _ rfl)
  clear hWC HWC0 hown4
  have hS3 := HS3.out
  have h43 := hb4.size
  have HA := Lib.hid (HA3.out.below hb4 (by omega))
  have HBB := Lib.hid (HB3.out.below hb4 (by omega))
  have HCC : Hid (RInst w4 (.agg [.int .i64 gx.days, .int .i64 gx.veh, .int .i64 gx.cap, .int .i64 gx.len, .slice A7 gx.custs.length c7, .slice A8 gx.dist.length c8].toArray) gx) := HCR.out
  have hba := (hba2.below hb4 (by have := hba2.lt; omega)).alloc (.cells [.int .i64 gx.days, .int .i64 gx.veh, .int .i64 gx.cap, .int .i64 gx.len, .slice A7 gx.custs.length c7, .slice A8 gx.dist.length c8].toArray 25)
  have hbb := (hbb1.below hb4 (by omega)).alloc (.cells [.int .i64 gx.days, .int .i64 gx.veh, .int .i64 gx.cap, .int .i64 gx.len, .slice A7 gx.custs.length c7, .slice A8 gx.dist.length c8].toArray 25)
  have HRE := Lib.hid (sameP_refl gx)
  obtain ⟨B, hB⟩ : ∃ b, sameP gx gy = b := ⟨_, rfl⟩
  have HEQ := Lib.hid hB
  have HS3' := Lib.hid hS3
  have hz24 := hba2.lt
  clear hB hS3
  go_wp2_with fail
  refine wp_region_G (fun wS => Below w4.heap.size w4 wS ∧ Blk wS w2.heap.size 25 [.int .i64 gx.days, .int .i64 gx.veh, .int .i64 gx.cap, .int .i64 gx.len, .slice A3 gx.custs.length c3, .slice A4 gx.dist.length c4] ∧ Blk wS w3.heap.size 25 [.int .i64 gy.days, .int .i64 gy.veh, .int .i64 gy.cap, .int .i64 gy.len, .slice A5 gy.custs.length c5, .slice A6 gy.dist.length c6] ∧ Blk wS w4.heap.size 25 [.int .i64 gx.days, .int .i64 gx.veh, .int .i64 gx.cap, .int .i64 gx.len, .slice A7 gx.custs.length c7, .slice A8 gx.dist.length c8]) 19 (listed := #[false, false, false, false, false, false, false, false, false, false, false, false, false, false, false, false, false, false, false]) (by kernel_rfl) ?_ (by kernel_rfl) (by kernel_rfl) ?_
  · exact ⟨((Below.refl _ _).alloc (Nat.le_refl _) _).drew, hba.drew, hbb.drew, (Blk.newAt w4 _ _ rfl).drew⟩
  refine wpAnyG_take 0 19 (tm' := ?_) (v := ?_) rfl rfl (by kernel_rfl) (by kernel_rfl) (by kernel_rfl) (listed' := #[true, false, false, false, false, false, false, false, false, false, false, false, false, false, false, false, false, false, false]) (by kernel_rfl) (fun _ _ _ h => h) (wanted_none rfl) ?_ ?_ ?_
  rotate_left 2
  · intro w hSw
    (try dsimp only at hSw)
    obtain ⟨hbS, hxS, hyS, hzS⟩ := hSw
    obtain ⟨q0, q1, q2, q3, q4, q5⟩ := hxS.cells6
    go_simp
    try with_reducible rfl
  · simp only [List.setIfInBounds_toArray, List.set_cons_zero, List.set_cons_succ]; with_reducible rfl
  refine wpAnyG_take 1 20 (tm' := ?_) (v := ?_) rfl rfl (by kernel_rfl) (by kernel_rfl) (by kernel_rfl) (listed' := #[true, true, false, false, false, false, false, false, false, false, false, false, false, false, false, false, false, false, false]) (by kernel_rfl) (fun _ _ _ h => h) (wanted_none rfl) ?_ ?_ ?_
  rotate_left 2
  · intro w hSw
    (try dsimp only at hSw)
    obtain ⟨hbS, hxS, hyS, hzS⟩ := hSw
    obtain ⟨q0, q1, q2, q3, q4, q5⟩ := hyS.cells6
    go_simp
    try with_reducible rfl
  · simp only [List.setIfInBounds_toArray, List.set_cons_zero, List.set_cons_succ]; with_reducible rfl
  refine wpAnyG_call 2 21 (tm' := ?_) (v := .bool B) (f := ?_) (args := ?_) rfl rfl (by kernel_rfl) (by kernel_rfl) (by kernel_rfl) (listed' := #[true, true, true, false, false, false, false, false, false, false, false, false, false, false, false, false, false, false, false]) (by kernel_rfl) (fun _ _ _ h => h) (wanted_none rfl) ?_ ?_ ?_ ?_
  rotate_left 3
  · intro w
    go_simp
    first | with_reducible rfl | (constructor <;> with_reducible rfl)
  · intro wS hSw
    obtain ⟨hbS, hxS, hyS, hzS⟩ := hSw
    exact (same_any _ _ gx gy _ (HA.out.below hbS (Nat.le_refl _)) (HBB.out.below hbS (Nat.le_refl _))).mono fun e w' ⟨he, hb⟩ => ⟨by rw [he, HEQ.out], hbS.trans (hb.mono hbS.size), hxS.below hb hxS.lt, hyS.below hb hyS.lt, hzS.below hb hzS.lt⟩
  · simp only [List.setIfInBounds_toArray, List.set_cons_zero, List.set_cons_succ]; with_reducible rfl
  refine wpAnyG_take 3 22 (tm' := ?_) (v := ?_) rfl rfl (by kernel_rfl) (by kernel_rfl) (by kernel_rfl) (listed' := #[true, true, true, true, false, false, false, false, false, false, false, false, false, false, false, false, false, false, false]) (by kernel_rfl) (fun _ _ _ h => h) (wanted_none rfl) ?_ ?_ ?_
  rotate_left 2
  · intro w hSw
    (try dsimp only at hSw)
    obtain ⟨hbS, hxS, hyS, hzS⟩ := hSw
    obtain ⟨q0, q1, q2, q3, q4, q5⟩ := hxS.cells6
    go_simp
    try with_reducible rfl
  · simp only [List.setIfInBounds_toArray, List.set_cons_zero, List.set_cons_succ]; with_reducible rfl
  refine wpAnyG_take 4 23 (tm' := ?_) (v := ?_) rfl rfl (by kernel_rfl) (by kernel_rfl) (by kernel_rfl) (listed' := #[true, true, true, true, true, false, false, false, false, false, false, false, false, false, false, false, false, false, false]) (by kernel_rfl) (fun _ _ _ h => h) (wanted_none rfl) ?_ ?_ ?_
  rotate_left 2
  · intro w hSw
    (try dsimp only at hSw)
    obtain ⟨hbS, hxS, hyS, hzS⟩ := hSw
    obtain ⟨q0, q1, q2, q3, q4, q5⟩ := hyS.cells6
    go_simp
    try with_reducible rfl
  · simp only [List.setIfInBounds_toArray, List.set_cons_zero, List.set_cons_succ]; with_reducible rfl
  refine wpAnyG_call 5 24 (tm' := ?_) (v := .bool B) (f := ?_) (args := ?_) rfl rfl (by kernel_rfl) (by kernel_rfl) (by kernel_rfl) (listed' := #[true, true, true, true, true, true, false, false, false, false, false, false, false, false, false, false, false, false, false]) (by kernel_rfl) (fun _ _ _ h => h) (wanted_none rfl) ?_ ?_ ?_ ?_
  rotate_left 3
  · intro w
    go_simp
    first | with_reducible rfl | (constructor <;> with_reducible rfl)
  · intro wS hSw
    obtain ⟨hbS, hxS, hyS, hzS⟩ := hSw
    exact (rsame_any _ _ gx gy _ (HA.out.below hbS (Nat.le_refl _)) (HBB.out.below hbS (Nat.le_refl _))).mono fun e w' ⟨he, hb⟩ => ⟨by rw [he, HEQ.out], hbS.trans (hb.mono hbS.size), hxS.below hb hxS.lt, hyS.below hb hyS.lt, hzS.below hb hzS.lt⟩
  · simp only [List.setIfInBounds_toArray, List.set_cons_zero, List.set_cons_succ]; with_reducible rfl
  refine wpAnyG_take 6 25 (tm' := ?_) (v := .bool false) rfl rfl (by kernel_rfl) (by kernel_rfl) (by kernel_rfl) (listed' := #[true, true, true, true, true, true, true, false, false, false, false, false, false, false, false, false, false, false, false]) (by kernel_rfl) (fun _ _ _ h => h) (wanted_none rfl) ?_ ?_ ?_
  rotate_left
  · intro w hSw
    (try dsimp only at hSw)
    go_simp
    try with_reducible rfl
  · simp only [List.setIfInBounds_toArray, List.set_cons_zero, List.set_cons_succ]; with_reducible rfl
  refine wpAnyG_take 7 26 (tm' := ?_) (v := ?_) rfl rfl (by kernel_rfl) (by kernel_rfl) (by kernel_rfl) (listed' := #[true, true, true, true, true, true, true, true, false, false, false, false, false, false, false, false, false, false, false]) (by kernel_rfl) (fun _ _ _ h => h) (wanted_none rfl) ?_ ?_ ?_
  rotate_left 2
  · intro w hSw
    (try dsimp only at hSw)
    go_simp
    try with_reducible rfl
  · simp only [List.setIfInBounds_toArray, List.set_cons_zero, List.set_cons_succ]; with_reducible rfl
  refine wpAnyG_take 8 27 (tm' := ?_) (v := ?_) rfl rfl (by kernel_rfl) (by kernel_rfl) (by kernel_rfl) (listed' := #[true, true, true, true, true, true, true, true, true, false, false, false, false, false, false, false, false, false, false]) (by kernel_rfl) (fun _ _ _ h => h) (wanted_yes 7 26 false rfl rfl rfl) ?_ ?_ ?_
  rotate_left 2
  · intro w hSw
    (try dsimp only at hSw)
    obtain ⟨hbS, hxS, hyS, hzS⟩ := hSw
    obtain ⟨q0, q1, q2, q3, q4, q5⟩ := hxS.cells6
    go_simp
    try with_reducible rfl
  · simp only [List.setIfInBounds_toArray, List.set_cons_zero, List.set_cons_succ]; with_reducible rfl
  refine wpAnyG_take 9 28 (tm' := ?_) (v := ?_) rfl rfl (by kernel_rfl) (by kernel_rfl) (by kernel_rfl) (listed' := #[true, true, true, true, true, true, true, true, true, true, false, false, false, false, false, false, false, false, false]) (by kernel_rfl) (fun _ _ _ h => h) (wanted_yes 7 26 false rfl rfl rfl) ?_ ?_ ?_
  rotate_left 2
  · intro w hSw
    (try dsimp only at hSw)
    obtain ⟨hbS, hxS, hyS, hzS⟩ := hSw
    obtain ⟨q0, q1, q2, q3, q4, q5⟩ := hzS.cells6
    go_simp
    try with_reducible rfl
  · simp only [List.setIfInBounds_toArray, List.set_cons_zero, List.set_cons_succ]; with_reducible rfl
  refine wpAnyG_call 10 29 (tm' := ?_) (v := .bool true) (f := ?_) (args := ?_) rfl rfl (by kernel_rfl) (by kernel_rfl) (by kernel_rfl) (listed' := #[true, true, true, true, true, true, true, true, true, true, true, false, false, false, false, false, false, false, false]) (by kernel_rfl) (fun _ _ _ h => h) (wanted_yes 7 26 false rfl rfl rfl) ?_ ?_ ?_ ?_
  rotate_left 3
  · intro w
    go_simp
    first | with_reducible rfl | (constructor <;> with_reducible rfl)
  · intro wS hSw
    obtain ⟨hbS, hxS, hyS, hzS⟩ := hSw
    exact (same_any _ _ gx gx _ (HA.out.below hbS (Nat.le_refl _)) (HCC.out.below hbS (Nat.le_refl _))).mono fun e w' ⟨he, hb⟩ => ⟨by rw [he, HRE.out], hbS.trans (hb.mono hbS.size), hxS.below hb hxS.lt, hyS.below hb hyS.lt, hzS.below hb hzS.lt⟩
  · simp only [List.setIfInBounds_toArray, List.set_cons_zero, List.set_cons_succ]; with_reducible rfl
  refine wpAnyG_take 11 30 (tm' := ?_) (v := ?_) rfl rfl (by kernel_rfl) (by kernel_rfl) (by kernel_rfl) (listed' := #[true, true, true, true, true, true, true, true, true, true, true, true, false, false, false, false, false, false, false]) (by kernel_rfl) (fun _ _ _ h => h) (wanted_yes 7 26 false rfl rfl rfl) ?_ ?_ ?_
  rotate_left 2
  · intro w hSw
    (try dsimp only at hSw)
    go_simp
    try with_reducible rfl
  · simp only [List.setIfInBounds_toArray, List.set_cons_zero, List.set_cons_succ]; with_reducible rfl
  refine wpAnyG_take 12 31 (tm' := ?_) (v := ?_) rfl rfl (by kernel_rfl) (by kernel_rfl) (by kernel_rfl) (listed' := #[true, true, true, true, true, true, true, true, true, true, true, true, true, false, false, false, false, false, false]) (by kernel_rfl) (fun _ _ _ h => h) (wanted_none rfl) ?_ ?_ ?_
  rotate_left 2
  · intro w hSw
    (try dsimp only at hSw)
    go_simp
    try with_reducible rfl
  · simp only [List.setIfInBounds_toArray, List.set_cons_zero, List.set_cons_succ]; with_reducible rfl
  refine wpAnyG_take 13 32 (tm' := ?_) (v := ?_) rfl rfl (by kernel_rfl) (by kernel_rfl) (by kernel_rfl) (listed' := #[true, true, true, true, true, true, true, true, true, true, true, true, true, true, false, false, false, false, false]) (by kernel_rfl) (fun _ _ _ h => h) (wanted_none rfl) ?_ ?_ ?_
  rotate_left 2
  · intro w hSw
    (try dsimp only at hSw)
    go_simp
    try with_reducible rfl
  · simp only [List.setIfInBounds_toArray, List.set_cons_zero, List.set_cons_succ]; with_reducible rfl
  refine wpAnyG_take 14 33 (tm' := ?_) (v := ?_) rfl rfl (by kernel_rfl) (by kernel_rfl) (by kernel_rfl) (listed' := #[true, true, true, true, true, true, true, true, true, true, true, true, true, true, true, false, false, false, false]) (by kernel_rfl) (fun _ _ _ h => h) (wanted_yes 13 32 false rfl rfl rfl) ?_ ?_ ?_
  rotate_left 2
  · intro w hSw
    (try dsimp only at hSw)
    obtain ⟨hbS, hxS, hyS, hzS⟩ := hSw
    obtain ⟨q0, q1, q2, q3, q4, q5⟩ := hxS.cells6
    go_simp
    try with_reducible rfl
  · simp only [List.setIfInBounds_toArray, List.set_cons_zero, List.set_cons_succ]; with_reducible rfl
  refine wpAnyG_take 15 34 (tm' := ?_) (v := ?_) rfl rfl (by kernel_rfl) (by kernel_rfl) (by kernel_rfl) (listed' := #[true, true, true, true, true, true, true, true, true, true, true, true, true, true, true, true, false, false, false]) (by kernel_rfl) (fun _ _ _ h => h) (wanted_yes 13 32 false rfl rfl rfl) ?_ ?_ ?_
  rotate_left 2
  · intro w hSw
    (try dsimp only at hSw)
    obtain ⟨hbS, hxS, hyS, hzS⟩ := hSw
    obtain ⟨q0, q1, q2, q3, q4, q5⟩ := hzS.cells6
    go_simp
    try with_reducible rfl
  · simp only [List.setIfInBounds_toArray, List.set_cons_zero, List.set_cons_succ]; with_reducible rfl
  refine wpAnyG_call 16 35 (tm' := ?_) (v := .bool true) (f := ?_) (args := ?_) rfl rfl (by kernel_rfl) (by kernel_rfl) (by kernel_rfl) (listed' := #[true, true, true, true, true, true, true, true, true, true, true, true, true, true, true, true, true, false, false]) (by kernel_rfl) (fun _ _ _ h => h) (wanted_yes 13 32 false rfl rfl rfl) ?_ ?_ ?_ ?_
  rotate_left 3
  · intro w
    go_simp
    first | with_reducible rfl | (constructor <;> with_reducible rfl)
  · intro wS hSw
    obtain ⟨hbS, hxS, hyS, hzS⟩ := hSw
    exact (rsame_any _ _ gx gx _ (HA.out.below hbS (Nat.le_refl _)) (HCC.out.below hbS (Nat.le_refl _))).mono fun e w' ⟨he, hb⟩ => ⟨by rw [he, HRE.out], hbS.trans (hb.mono hbS.size), hxS.below hb hxS.lt, hyS.below hb hyS.lt, hzS.below hb hzS.lt⟩
  · simp only [List.setIfInBounds_toArray, List.set_cons_zero, List.set_cons_succ]; with_reducible rfl
  refine wpAnyG_take 17 36 (tm' := ?_) (v := ?_) rfl rfl (by kernel_rfl) (by kernel_rfl) (by kernel_rfl) (listed' := #[true, true, true, true, true, true, true, true, true, true, true, true, true, true, true, true, true, true, false]) (by kernel_rfl) (fun _ _ _ h => h) (wanted_yes 13 32 false rfl rfl rfl) ?_ ?_ ?_
  rotate_left 2
  · intro w hSw
    (try dsimp only at hSw)
    go_simp
    try with_reducible rfl
  · simp only [List.setIfInBounds_toArray, List.set_cons_zero, List.set_cons_succ]; with_reducible rfl
  refine wpAnyG_take 18 37 (tm' := ?_) (v := ?_) rfl rfl (by kernel_rfl) (by kernel_rfl) (by kernel_rfl) (listed' := #[true, true, true, true, true, true, true, true, true, true, true, true, true, true, true, true, true, true, true]) (by kernel_rfl) (fun _ _ _ h => h) (wanted_none rfl) ?_ ?_ ?_
  rotate_left 2
  · intro w hSw
    (try dsimp only at hSw)
    go_simp
    try with_reducible rfl
  · simp only [List.setIfInBounds_toArray, List.set_cons_zero, List.set_cons_succ]; with_reducible rfl
  refine wpAnyF_done (by kernel_rfl) ?_
  intro wf hSf
  obtain ⟨hbf, hxf, hyf, hzf⟩ := hSf
  clear HCC HCR HBB HEQ HB3
  have hwcf := HWC.out.1.below hbf
  have hwrf := HWC.out.2.below hbf
  have kbf : Below (w3.heap.size + 1) W3 wf := hb4.trans (hbf.mono (by have := HS3'.out; omega))
  have HZ34 : Hid (w3.heap.size + 1 ≤ w4.heap.size) := by have := HS3'.out; show _ ≤ _; omega
  have HW3 : Hid (W3.heap.size ≤ w3.heap.size + 1) := by have := HS3'.out; show _ ≤ _; omega
  have HLX : Hid (w.heap.size < w3.heap.size + 1) := by have := kx3.size; have := HS3'.out; have := hbx3.lt; show _ < _; omega
  have HLA : Hid (w2.heap.size < w3.heap.size + 1) := by have := HS3'.out; show _ < _; omega
  clear HS3 HS3' h43 hba hbb hbf hxf hyf HWC hz24 ha3 hb4 hbb1 hy2
  obtain ⟨q0, q1, q2, q3, q4, q5⟩ := hzf.cells6
  go_wp2_with fail
  clear q0 q1 q2 q3 q4 q5
  go_loopw [8] (fun iv wr => ∃ i : Nat, i ≤ gx.dist.length ∧ iv = .int .i64 i ∧ Blk wr w4.heap.size 25 [.int .i64 gx.days, .int .i64 gx.veh, .int .i64 gx.cap, .int .i64 gx.len, .slice A7 gx.custs.length c7, .slice A8 gx.dist.length c8] ∧ WCusts (w3.heap.size + 1) w4.heap.size wr (.slice A7 gx.custs.length c7) gx.custs.length ∧ WRows (w3.heap.size + 1) w4.heap.size wr (.slice A8 gx.dist.length c8) gx.dist.length ∧ Below (w3.heap.size + 1) W3 wr) (fun iv _ => gx.dist.length - (intOf iv).toNat)
  case atStart => exact ⟨0, Nat.zero_le _, rfl, hzf, hwcf, hwrf, kbf⟩
  case round =>
    clear hzf hwcf hwrf kbf
    obtain ⟨i, hi, rfl, hzc, hwc, hwr, hbel⟩ := hrel
    by_cases hlt : i < gx.dist.length
    · have HWR := Lib.hid hwr
      have HWCU := Lib.hid hwc
      obtain ⟨Ad, cd, hde, hd1, hd2, hdr⟩ := hwr
      injection hde with e1 _ e3
      subst e1; subst e3
      obtain ⟨b, o, rfl, hbu, hrr⟩ := hdr (by omega)
      obtain ⟨rv, m, hri, k0⟩ := hrr i hlt
      have HRI := Lib.hid hri
      obtain ⟨Am, cm, rfl, hm1, hm2, -⟩ := hri
      have hil : (i : Int) < (gx.dist.length : Int) := by omega
      clear hdr hrr hwc
      obtain ⟨q0, q1, q2, q3, q4, q5⟩ := hzc.cells6
      go_wp2_with fail
      clear q0 q1 q2 q3 q4 q5
      go_loopw [9] (fun kv wi => ∃ k : Nat, k ≤ m ∧ kv = .int .i64 k ∧ wi.cell? ⟨b, o + i, none⟩ = some (.slice Am m cm) ∧ Hid (WInts .i64 (w3.heap.size + 1) w4.heap.size wi (.slice Am m cm) m) ∧ Blk wi w4.heap.size 25 [.int .i64 gx.days, .int .i64 gx.veh, .int .i64 gx.cap, .int .i64 gx.len, .slice A7 gx.custs.length c7, .slice (some ⟨b, o, none⟩) gx.dist.length c8] ∧ WCusts (w3.heap.size + 1) w4.heap.size wi (.slice A7 gx.custs.length c7) gx.custs.length ∧ WRows (w3.heap.size + 1) w4.heap.size wi (.slice (some ⟨b, o, none⟩) gx.dist.length c8) gx.dist.length ∧ Below (w3.heap.size + 1) W3 wi) (fun kv _ => m - (intOf kv).toNat)
      case atStart => exact ⟨0, Nat.zero_le _, rfl, k0, HRI, hzc, HWCU.out, HWR.out, hbel⟩
      case round =>
        clear hzc hbel HWR HWCU k0 HRI
        obtain ⟨k, hk, rfl, k0, HRI, hzc, hwc, hwr, hbel⟩ := hrel
        obtain ⟨q0, q1, q2, q3, q4, q5⟩ := hzc.cells6
        by_cases hkm : k < m
        · have HWR := Lib.hid hwr
          have HWCU := Lib.hid hwc
          have hri := HRI.out
          obtain ⟨A', c', hde, _, _, hri⟩ := hri
          injection hde with e1 _ e3
          subst e1; subst e3
          obtain ⟨b2, o2, rfl, hb2l, hb2u, hcc⟩ := hri (by omega)
          obtain ⟨⟨z, kz⟩, kf⟩ := hcc k hkm
          have hkl : (k : Int) < (m : Int) := by omega
          clear hri hcc hwr hwc
          go_wp2
          go_roundw
          case rel => exact ⟨k + 1, by omega, by go_num, cell_else k0 kz (by intro e; cases e), HRI.out.set_ kz, hzc.far (p := ⟨b2, o2 + k, none⟩) (by show w4.heap.size ≠ b2; omega) _, HWCU.out.set_ kz, HWR.out.set_ kz, hbel.setCell (p := ⟨b2, o2 + k, none⟩) hb2l _⟩
          case measure => simp [intOf]; omega
        · have hkl : (m : Int) ≤ (k : Int) := by omega
          have HWR := Lib.hid hwr
          have HWCU := Lib.hid hwc
          clear hwr hwc hkm
          go_wp2
          go_roundw
          case rel => exact ⟨i + 1, by omega, by go_num, hzc, HWCU.out, HWR.out, hbel⟩
          case measure => simp [intOf]; omega
    · have hil : (gx.dist.length : Int) ≤ (i : Int) := by omega
      have hdn : decide (i < gx.dist.length) = false := by simp; omega
      obtain ⟨q0, q1, q2, q3, q4, q5⟩ := hzc.cells6
      have HWR := Lib.hid hwr
      have HWCU := Lib.hid hwc
      clear hlt hwr hwc
      go_wp2_with fail
      clear q0 q1 q2 q3 q4 q5 hil hdn
      go_loopw [10] (fun iv wr => ∃ i : Nat, i ≤ gx.custs.length ∧ iv = .int .i64 i ∧ Blk wr w4.heap.size 25 [.int .i64 gx.days, .int .i64 gx.veh, .int .i64 gx.cap, .int .i64 gx.len, .slice A7 gx.custs.length c7, .slice A8 gx.dist.length c8] ∧ WCusts (w3.heap.size + 1) w4.heap.size wr (.slice A7 gx.custs.length c7) gx.custs.length ∧ WRows (w3.heap.size + 1) w4.heap.size wr (.slice A8 gx.dist.length c8) gx.dist.length ∧ Below (w3.heap.size + 1) W3 wr) (fun iv _ => gx.custs.length - (intOf iv).toNat)
      case atStart => exact ⟨0, Nat.zero_le _, rfl, hzc, HWCU.out, HWR.out, hbel⟩
      case round =>
        clear hzc hbel HWR HWCU hi
        obtain ⟨i, hi, rfl, hzc, hwc, hwr, hbel⟩ := hrel
        by_cases hlt : i < gx.custs.length
        · have HWR := Lib.hid hwr
          have HWCU := Lib.hid hwc
          obtain ⟨Ad, cd, hde, hd1, hd2, hdr⟩ := hwc
          injection hde with e1 _ e3
          subst e1; subst e3
          obtain ⟨b, o, rfl, hbl, hbu, hrr⟩ := hdr (by omega)
          obtain ⟨⟨zk, kk⟩, kkf, rv, m, hri, k0⟩ := hrr i hlt
          have HRI := Lib.hid hri
          obtain ⟨Am, cm, rfl, hm1, hm2, -⟩ := hri
          have hil : (i : Int) < (gx.custs.length : Int) := by omega
          clear hdr hrr hwr
          have kz4 := hbel.size
          have hz4 := hzc.lt
          obtain ⟨q0, q1, q2, q3, q4, q5⟩ := hzc.cells6
          go_wp2_with fail
          clear q0 q1 q2 q3 q4 q5
          go_loopw [11] (fun kv wi => ∃ k : Nat, k ≤ m ∧ kv = .int .i64 k ∧ wi.cell? ⟨b, o + i * 8 + 2, none⟩ = some (.slice Am m cm) ∧ Hid (WInts .u64 (w3.heap.size + 1) w4.heap.size wi (.slice Am m cm) m) ∧ Blk wi w4.heap.size 25 [.int .i64 gx.days, .int .i64 gx.veh, .int .i64 gx.cap, .int .i64 gx.len, .slice (some ⟨b, o, none⟩) gx.custs.length c7, .slice A8 gx.dist.length c8] ∧ WCusts (w3.heap.size + 1) w4.heap.size wi (.slice (some ⟨b, o, none⟩) gx.custs.length c7) gx.custs.length ∧ WRows (w3.heap.size + 1) w4.heap.size wi (.slice A8 gx.dist.length c8) gx.dist.length ∧ Below (w3.heap.size + 1) W3 wi) (fun kv _ => m - (intOf kv).toNat)
          case atStart => exact ⟨0, Nat.zero_le _, rfl, cell_else k0 kk (by intro e; cases e), HRI.out.set_ kk, hzc.far (p := ⟨b, o + i * 8, none⟩) (by show w4.heap.size ≠ b; omega) _, HWCU.out.set_ kk, HWR.out.set_ kk, hbel.setCell (p := ⟨b, o + i * 8, none⟩) hbl _⟩
          case round =>
            clear hzc hbel HWR HWCU k0 HRI kk kkf kz4 hz4
            obtain ⟨k, hk, rfl, k0, HRI, hzc, hwc, hwr, hbel⟩ := hrel
            obtain ⟨q0, q1, q2, q3, q4, q5⟩ := hzc.cells6
            by_cases hkm : k < m
            · have HWR := Lib.hid hwr
              have HWCU := Lib.hid hwc
              have hri := HRI.out
              obtain ⟨A', c', hde, _, _, hri⟩ := hri
              injection hde with e1 _ e3
              subst e1; subst e3
              obtain ⟨b2, o2, rfl, hb2l, hb2u, hcc⟩ := hri (by omega)
              obtain ⟨⟨z, kz⟩, kf⟩ := hcc k hkm
              have hkl : (k : Int) < (m : Int) := by omega
              clear hri hcc hwr hwc
              go_wp2
              go_roundw
              case rel => exact ⟨k + 1, by omega, by go_num, cell_else k0 kz (by intro e; cases e), HRI.out.set_ kz, hzc.far (p := ⟨b2, o2 + k, none⟩) (by show w4.heap.size ≠ b2; omega) _, HWCU.out.set_ kz, HWR.out.set_ kz, hbel.setCell (p := ⟨b2, o2 + k, none⟩) hb2l _⟩
              case measure => simp [intOf]; omega
            · have hkl : (m : Int) ≤ (k : Int) := by omega
              have HWR := Lib.hid hwr
              have HWCU := Lib.hid hwc
              clear hwr hwc hkm
              go_wp2
              go_roundw
              case rel => exact ⟨i + 1, by omega, by go_num, hzc, HWCU.out, HWR.out, hbel⟩
              case measure => simp [intOf]; omega
        · have hil : (gx.custs.length : Int) ≤ (i : Int) := by omega
          have hbx := hbx3.below hbel HLX.out
          have hba := hba2.below hbel HLA.out
          have kr := below_nx kx3 (hbel.mono HW3.out)
          obtain ⟨q0, q1, q2, q3, q4, q5⟩ := hzc.cells6
          obtain ⟨p0, p1, p2, p3, p4, p5⟩ := hbx.cells6
          clear hlt hwr hwc
          go_wp2_with fail
          clear q0 q1 q2 q3 q4 q5 p0 p1 p2 p3 p4 p5
          refine (goodI_any _ x _ (HX.out.below kr (Nat.le_refl _)) HWX.out).mono ?_
          rintro e w8 ⟨v8, rfl, hown8, hb8⟩
          have k8 := below_nx kr hb8
          have hr8 := hown8.reads
          rw [← HGX'.out] at hr8
          have HR8 := Lib.hid hr8
          obtain ⟨cv6, dv6, rfl, ⟨E1, f1, rfl, -⟩, ⟨E2, f2, rfl, -⟩⟩ := hr8
          clear hown8
          have hba8 := hba.below hb8 hba.lt
          have hal8 := Nat.lt_of_lt_of_le hba.lt hb8.size
          obtain ⟨q0, q1, q2, q3, q4, q5⟩ := hba8.cells6
          go_wp2_with fail
          refine (rsame_any _ _ gx gx _ ((HA3.out.below hbel HW3.out).below (below_al hb8 _) (Nat.le_refl _)) (HR8.out.below (below_al (Below.refl _ _) _) (Nat.le_refl _))).mono ?_
          rintro e w9 ⟨rfl, hb9⟩
          rw [HRE.out]
          go_wp2_with fail
          refine (lives_any _).mono ?_
          rintro e w10 ⟨rfl, hb10⟩
          go_wp2
          go_ret
          exact ⟨rfl, below_nx (below_nx (below_al k8 _) hb9) hb10⟩

end Go.Proofs.Ytifdggdpglphmaa
