/- The walk of the statement InstMay. -/
import Derived.Test.YtifdggdpglphmaaW06n
import Derived.Test.YtifdggdpglphmaaP06e
import Derived.Test.YtifdggdpglphmaaOrdG
namespace Go.Proofs.Ytifdggdpglphmaa
open Go.RowKit P06

theorem below_nx {w0 w w' : World} (h : Below w0.heap.size w0 w) (h2 : Below w.heap.size w w') : Below w0.heap.size w0 w' := h.trans (h2.mono h.size)

set_option maxHeartbeats 1000000 in
theorem instMay_lo (v : Value) (x : Inst) (t by_ : Int) (w : World) (hx : RInst w v x) (hwf : x.wf) (hby : W64 by_) (hn : x.custs.length ≤ 12) :
    Calls Try.prog 3 #[v, .int .i64 t, .int .i64 by_] w fun e w' => e = .returned (.bool true) ∧ Below w.heap.size w w' := by
  obtain ⟨cv, dv, rfl, hcs, hds⟩ := hx
  obtain ⟨A, c, rfl, hc1, hc2, -⟩ := hcs.open_
  obtain ⟨Ad, cd, rfl, hd1, hd2, -⟩ := hds.open_
  have HX : Hid (RInst w (.agg #[.int .i64 x.days, .int .i64 x.veh, .int .i64 x.cap, .int .i64 x.len, .slice A x.custs.length c, .slice Ad x.dist.length cd]) (cut12 x)) := by
    rw [cut12_id hn]
    exact ⟨_, _, rfl, hcs, hds⟩
  have HW := Lib.hid (cut12_wf hwf)
  have hl12 := cut12_len x
  have HB := Lib.hid hby
  clear hcs hds hwf hby
  rcases Bool.eq_false_or_eq_true (may (cut12 x)) with hM | hM
  · have HM := Lib.hid (mayE_t hM)
    have HMM := Lib.hid hM
    clear hM
    go_enter Try.func3, Try.ntmps3
    go_wp2_with fail
    refine wp_region_G (fun wS => Below w.heap.size w wS ∧ Blk wS w.heap.size 25 [.int .i64 x.days, .int .i64 x.veh, .int .i64 x.cap, .int .i64 x.len, .slice A x.custs.length c, .slice Ad x.dist.length cd]) 6 (listed := #[false, false, false, false, false, false]) (by kernel_rfl) ?_ (by kernel_rfl) (by kernel_rfl) ?_
    · exact ⟨(below_al (Below.refl _ _) _).drew, Blk.drew (Blk.newAt w _ _ rfl)⟩
    refine wpAnyG_take 0 18 (tm' := ?_) (v := ?_) rfl rfl (by kernel_rfl) (by kernel_rfl) (by kernel_rfl) (listed' := #[true, false, false, false, false, false]) (by kernel_rfl) (fun _ _ _ h => h) (wanted_none rfl) ?_ ?_ ?_
    rotate_left 2
    · intro w hSw
      (try dsimp only at hSw)
      obtain ⟨hbS, hxS⟩ := hSw
      obtain ⟨q0, q1, q2, q3, q4, q5⟩ := hxS.cells6
      go_simp
      try with_reducible rfl
    · simp only [List.setIfInBounds_toArray, List.set_cons_zero, List.set_cons_succ]; with_reducible rfl
    refine wpAnyG_call 1 19 (tm' := ?_) (v := .int .i64 0) (f := ?_) (args := ?_) rfl rfl (by kernel_rfl) (by kernel_rfl) (by kernel_rfl) (listed' := #[true, true, false, false, false, false]) (by kernel_rfl) (fun _ _ _ h => h) (wanted_none rfl) ?_ ?_ ?_ ?_
    rotate_left 3
    · intro w
      go_simp
      first | with_reducible rfl | (constructor <;> with_reducible rfl)
    · intro wS hSw
      obtain ⟨hbS, hxS⟩ := hSw
      exact (may_any _ (cut12 x) _ (HX.out.below hbS (Nat.le_refl _)) HW.out (by omega)).mono fun e w' ⟨he, hb⟩ => ⟨he.trans (by rw [HM.out]), hbS.trans (hb.mono hbS.size), hxS.below hb hxS.lt⟩
    · simp only [List.setIfInBounds_toArray, List.set_cons_zero, List.set_cons_succ]; with_reducible rfl
    refine wpAnyG_take 2 20 (tm' := ?_) (v := .bool true) rfl rfl (by kernel_rfl) (by kernel_rfl) (by kernel_rfl) (listed' := #[true, true, true, false, false, false]) (by kernel_rfl) (fun _ _ _ h => h) (wanted_none rfl) ?_ ?_ ?_
    rotate_left
    · intro w hSw
      (try dsimp only at hSw)
      go_simp
      try with_reducible rfl
    · simp only [List.setIfInBounds_toArray, List.set_cons_zero, List.set_cons_succ]; with_reducible rfl
    refine wpAnyG_take 3 21 (tm' := ?_) (v := ?_) rfl rfl (by kernel_rfl) (by kernel_rfl) (by kernel_rfl) (listed' := #[true, true, true, true, false, false]) (by kernel_rfl) (fun _ _ _ h => h) (wanted_none rfl) ?_ ?_ ?_
    rotate_left 2
    · intro w hSw
      (try dsimp only at hSw)
      obtain ⟨hbS, hxS⟩ := hSw
      obtain ⟨q0, q1, q2, q3, q4, q5⟩ := hxS.cells6
      go_simp
      try with_reducible rfl
    · simp only [List.setIfInBounds_toArray, List.set_cons_zero, List.set_cons_succ]; with_reducible rfl
    refine wpAnyG_call 4 22 (tm' := ?_) (v := .bool true) (f := ?_) (args := ?_) rfl rfl (by kernel_rfl) (by kernel_rfl) (by kernel_rfl) (listed' := #[true, true, true, true, true, false]) (by kernel_rfl) (fun _ _ _ h => h) (wanted_none rfl) ?_ ?_ ?_ ?_
    rotate_left 3
    · intro w
      go_simp
      first | with_reducible rfl | (constructor <;> with_reducible rfl)
    · intro wS hSw
      obtain ⟨hbS, hxS⟩ := hSw
      exact (rmay_any _ (cut12 x) _ (HX.out.below hbS (Nat.le_refl _)) HW.out (by omega)).mono fun e w' ⟨he, hb⟩ => ⟨he.trans (by rw [HMM.out]), hbS.trans (hb.mono hbS.size), hxS.below hb hxS.lt⟩
    · simp only [List.setIfInBounds_toArray, List.set_cons_zero, List.set_cons_succ]; with_reducible rfl
    refine wpAnyG_take 5 23 (tm' := ?_) (v := .bool false) rfl rfl (by kernel_rfl) (by kernel_rfl) (by kernel_rfl) (listed' := #[true, true, true, true, true, true]) (by kernel_rfl) (fun _ _ _ h => h) (wanted_none rfl) ?_ ?_ ?_
    rotate_left
    · intro w hSw
      (try dsimp only at hSw)
      go_simp
      try with_reducible rfl
    · simp only [List.setIfInBounds_toArray, List.set_cons_zero, List.set_cons_succ]; with_reducible rfl
    refine wpAnyF_done (by kernel_rfl) ?_
    intro wf hSf
    obtain ⟨hbf, hxf⟩ := hSf
    obtain ⟨q0, q1, q2, q3, q4, q5⟩ := hxf.cells6
    have HXf := Lib.hid (HX.out.below hbf (Nat.le_refl _))
    clear HX HM HMM
    go_wp2_with fail
    refine (goodI_any _ _ _ HXf.out HW.out).mono ?_
    rintro e w2 ⟨v2, rfl, hown, hb2⟩
    have k2 := below_nx hbf hb2
    clear q0 q1 q2 q3 q4 q5
    go_wp2_with fail
    have hg6 := goodP_custs (cut12 x)
    refine (turned_any wf.heap.size v2 (goodP (cut12 x)) t by_ _ hown (goodP_wf _) (by omega) hb2.size (goodP_dist _) (goodP_rows _) HB.out).mono ?_
    rintro e w3 ⟨v3, y, rfl, hy, hyw, hyn, hb3⟩
    have k3 := k2.trans (hb3.mono hbf.size)
    have HY := Lib.hid hy
    have HYW := Lib.hid hyw
    obtain ⟨cv3, dv3, rfl, ⟨A3, c3, rfl, -⟩, ⟨A4, c4, rfl, -⟩⟩ := hy
    clear hyw hown
    rcases Bool.eq_false_or_eq_true (may y) with hM | hM
    rotate_left
    have HE := Lib.hid (mayE_f hM)
    rotate_left
    have HE := Lib.hid (mayE_t hM)
    all_goals
      have HR := Lib.hid hM
      clear hM
      go_wp2_with fail
      refine (may_any _ y _ (HY.out.below (below_al (Below.refl _ _) _) (Nat.le_refl _)) HYW.out hyn).mono ?_
      rintro e w4 ⟨rfl, hb4⟩
      rw [HE.out]
      have hby4 := (Blk.newAt w3 25 [.int .i64 y.days, .int .i64 y.veh, .int .i64 y.cap, .int .i64 y.len, .slice A3 y.custs.length c3, .slice A4 y.dist.length c4] rfl).below hb4 (by simp)
      obtain ⟨q0, q1, q2, q3, q4, q5⟩ := hby4.cells6
      have k4 := below_nx (below_al k3 _) hb4
      have HY4 := Lib.hid (HY.out.below ((below_al (Below.refl _ _) _).trans (hb4.mono (by simp))) (Nat.le_refl _))
      go_wp2_with fail
      refine (rmay_any _ y _ HY4.out HYW.out hyn).mono ?_
      rintro e w5 ⟨rfl, hb5⟩
      rw [HR.out]
      have k5 := below_nx k4 hb5
      clear q0 q1 q2 q3 q4 q5
      go_wp2_with fail
      refine (lives_any _).mono ?_
      rintro e w6 ⟨rfl, hb6⟩
      go_wp2
      go_ret
      exact ⟨rfl, below_nx k5 hb6⟩
  · have HM := Lib.hid (mayE_f hM)
    have HMM := Lib.hid hM
    clear hM
    go_enter Try.func3, Try.ntmps3
    go_wp2_with fail
    refine wp_region_G (fun wS => Below w.heap.size w wS ∧ Blk wS w.heap.size 25 [.int .i64 x.days, .int .i64 x.veh, .int .i64 x.cap, .int .i64 x.len, .slice A x.custs.length c, .slice Ad x.dist.length cd]) 6 (listed := #[false, false, false, false, false, false]) (by kernel_rfl) ?_ (by kernel_rfl) (by kernel_rfl) ?_
    · exact ⟨(below_al (Below.refl _ _) _).drew, Blk.drew (Blk.newAt w _ _ rfl)⟩
    refine wpAnyG_take 0 18 (tm' := ?_) (v := ?_) rfl rfl (by kernel_rfl) (by kernel_rfl) (by kernel_rfl) (listed' := #[true, false, false, false, false, false]) (by kernel_rfl) (fun _ _ _ h => h) (wanted_none rfl) ?_ ?_ ?_
    rotate_left 2
    · intro w hSw
      (try dsimp only at hSw)
      obtain ⟨hbS, hxS⟩ := hSw
      obtain ⟨q0, q1, q2, q3, q4, q5⟩ := hxS.cells6
      go_simp
      try with_reducible rfl
    · simp only [List.setIfInBounds_toArray, List.set_cons_zero, List.set_cons_succ]; with_reducible rfl
    refine wpAnyG_call 1 19 (tm' := ?_) (v := .int .i64 3) (f := ?_) (args := ?_) rfl rfl (by kernel_rfl) (by kernel_rfl) (by kernel_rfl) (listed' := #[true, true, false, false, false, false]) (by kernel_rfl) (fun _ _ _ h => h) (wanted_none rfl) ?_ ?_ ?_ ?_
    rotate_left 3
    · intro w
      go_simp
      first | with_reducible rfl | (constructor <;> with_reducible rfl)
    · intro wS hSw
      obtain ⟨hbS, hxS⟩ := hSw
      exact (may_any _ (cut12 x) _ (HX.out.below hbS (Nat.le_refl _)) HW.out (by omega)).mono fun e w' ⟨he, hb⟩ => ⟨he.trans (by rw [HM.out]), hbS.trans (hb.mono hbS.size), hxS.below hb hxS.lt⟩
    · simp only [List.setIfInBounds_toArray, List.set_cons_zero, List.set_cons_succ]; with_reducible rfl
    refine wpAnyG_take 2 20 (tm' := ?_) (v := .bool false) rfl rfl (by kernel_rfl) (by kernel_rfl) (by kernel_rfl) (listed' := #[true, true, true, false, false, false]) (by kernel_rfl) (fun _ _ _ h => h) (wanted_none rfl) ?_ ?_ ?_
    rotate_left
    · intro w hSw
      (try dsimp only at hSw)
      go_simp
      try with_reducible rfl
    · simp only [List.setIfInBounds_toArray, List.set_cons_zero, List.set_cons_succ]; with_reducible rfl
    refine wpAnyG_take 3 21 (tm' := ?_) (v := ?_) rfl rfl (by kernel_rfl) (by kernel_rfl) (by kernel_rfl) (listed' := #[true, true, true, true, false, false]) (by kernel_rfl) (fun _ _ _ h => h) (wanted_none rfl) ?_ ?_ ?_
    rotate_left 2
    · intro w hSw
      (try dsimp only at hSw)
      obtain ⟨hbS, hxS⟩ := hSw
      obtain ⟨q0, q1, q2, q3, q4, q5⟩ := hxS.cells6
      go_simp
      try with_reducible rfl
    · simp only [List.setIfInBounds_toArray, List.set_cons_zero, List.set_cons_succ]; with_reducible rfl
    refine wpAnyG_call 4 22 (tm' := ?_) (v := .bool false) (f := ?_) (args := ?_) rfl rfl (by kernel_rfl) (by kernel_rfl) (by kernel_rfl) (listed' := #[true, true, true, true, true, false]) (by kernel_rfl) (fun _ _ _ h => h) (wanted_none rfl) ?_ ?_ ?_ ?_
    rotate_left 3
    · intro w
      go_simp
      first | with_reducible rfl | (constructor <;> with_reducible rfl)
    · intro wS hSw
      obtain ⟨hbS, hxS⟩ := hSw
      exact (rmay_any _ (cut12 x) _ (HX.out.below hbS (Nat.le_refl _)) HW.out (by omega)).mono fun e w' ⟨he, hb⟩ => ⟨he.trans (by rw [HMM.out]), hbS.trans (hb.mono hbS.size), hxS.below hb hxS.lt⟩
    · simp only [List.setIfInBounds_toArray, List.set_cons_zero, List.set_cons_succ]; with_reducible rfl
    refine wpAnyG_take 5 23 (tm' := ?_) (v := .bool false) rfl rfl (by kernel_rfl) (by kernel_rfl) (by kernel_rfl) (listed' := #[true, true, true, true, true, true]) (by kernel_rfl) (fun _ _ _ h => h) (wanted_none rfl) ?_ ?_ ?_
    rotate_left
    · intro w hSw
      (try dsimp only at hSw)
      go_simp
      try with_reducible rfl
    · simp only [List.setIfInBounds_toArray, List.set_cons_zero, List.set_cons_succ]; with_reducible rfl
    refine wpAnyF_done (by kernel_rfl) ?_
    intro wf hSf
    obtain ⟨hbf, hxf⟩ := hSf
    obtain ⟨q0, q1, q2, q3, q4, q5⟩ := hxf.cells6
    have HXf := Lib.hid (HX.out.below hbf (Nat.le_refl _))
    clear HX HM HMM
    go_wp2_with fail
    refine (goodI_any _ _ _ HXf.out HW.out).mono ?_
    rintro e w2 ⟨v2, rfl, hown, hb2⟩
    have k2 := below_nx hbf hb2
    clear q0 q1 q2 q3 q4 q5
    go_wp2_with fail
    have hg6 := goodP_custs (cut12 x)
    refine (turned_any wf.heap.size v2 (goodP (cut12 x)) t by_ _ hown (goodP_wf _) (by omega) hb2.size (goodP_dist _) (goodP_rows _) HB.out).mono ?_
    rintro e w3 ⟨v3, y, rfl, hy, hyw, hyn, hb3⟩
    have k3 := k2.trans (hb3.mono hbf.size)
    have HY := Lib.hid hy
    have HYW := Lib.hid hyw
    obtain ⟨cv3, dv3, rfl, ⟨A3, c3, rfl, -⟩, ⟨A4, c4, rfl, -⟩⟩ := hy
    clear hyw hown
    rcases Bool.eq_false_or_eq_true (may y) with hM | hM
    rotate_left
    have HE := Lib.hid (mayE_f hM)
    rotate_left
    have HE := Lib.hid (mayE_t hM)
    all_goals
      have HR := Lib.hid hM
      clear hM
      go_wp2_with fail
      refine (may_any _ y _ (HY.out.below (below_al (Below.refl _ _) _) (Nat.le_refl _)) HYW.out hyn).mono ?_
      rintro e w4 ⟨rfl, hb4⟩
      rw [HE.out]
      have hby4 := (Blk.newAt w3 25 [.int .i64 y.days, .int .i64 y.veh, .int .i64 y.cap, .int .i64 y.len, .slice A3 y.custs.length c3, .slice A4 y.dist.length c4] rfl).below hb4 (by simp)
      obtain ⟨q0, q1, q2, q3, q4, q5⟩ := hby4.cells6
      have k4 := below_nx (below_al k3 _) hb4
      have HY4 := Lib.hid (HY.out.below ((below_al (Below.refl _ _) _).trans (hb4.mono (by simp))) (Nat.le_refl _))
      go_wp2_with fail
      refine (rmay_any _ y _ HY4.out HYW.out hyn).mono ?_
      rintro e w5 ⟨rfl, hb5⟩
      rw [HR.out]
      have k5 := below_nx k4 hb5
      clear q0 q1 q2 q3 q4 q5
      go_wp2_with fail
      refine (lives_any _).mono ?_
      rintro e w6 ⟨rfl, hb6⟩
      go_wp2
      go_ret
      exact ⟨rfl, below_nx k5 hb6⟩

set_option maxHeartbeats 1000000 in
theorem instMay_hi (v : Value) (x : Inst) (t by_ : Int) (w : World) (hx : RInst w v x) (hwf : x.wf) (hby : W64 by_) (hn : 12 < x.custs.length) :
    Calls Try.prog 3 #[v, .int .i64 t, .int .i64 by_] w fun e w' => e = .returned (.bool true) ∧ Below w.heap.size w w' := by
  obtain ⟨cv, dv, rfl, hcs, hds⟩ := hx
  obtain ⟨A, c, rfl, hc1, hc2, -⟩ := hcs.open_
  obtain ⟨Ad, cd, rfl, hd1, hd2, -⟩ := hds.open_
  have HX : Hid (RInst w (.agg #[.int .i64 x.days, .int .i64 x.veh, .int .i64 x.cap, .int .i64 x.len, .slice A 12 c, .slice Ad x.dist.length cd]) (cut12 x)) :=
    ⟨_, _, rfl, hcs.take (by omega), hds⟩
  have HW := Lib.hid (cut12_wf hwf)
  have hl12 := cut12_len x
  have HB := Lib.hid hby
  clear hcs hds hwf hby
  rcases Bool.eq_false_or_eq_true (may (cut12 x)) with hM | hM
  · have HM := Lib.hid (mayE_t hM)
    have HMM := Lib.hid hM
    clear hM
    go_enter Try.func3, Try.ntmps3
    go_wp2_with fail
    refine wp_region_G (fun wS => Below w.heap.size w wS ∧ Blk wS w.heap.size 25 [.int .i64 x.days, .int .i64 x.veh, .int .i64 x.cap, .int .i64 x.len, .slice A 12 c, .slice Ad x.dist.length cd]) 6 (listed := #[false, false, false, false, false, false]) (by kernel_rfl) ?_ (by kernel_rfl) (by kernel_rfl) ?_
    · exact ⟨(below_al (Below.refl _ _) _).drew, Blk.drew (Blk.newAt w _ _ rfl)⟩
    refine wpAnyG_take 0 18 (tm' := ?_) (v := ?_) rfl rfl (by kernel_rfl) (by kernel_rfl) (by kernel_rfl) (listed' := #[true, false, false, false, false, false]) (by kernel_rfl) (fun _ _ _ h => h) (wanted_none rfl) ?_ ?_ ?_
    rotate_left 2
    · intro w hSw
      (try dsimp only at hSw)
      obtain ⟨hbS, hxS⟩ := hSw
      obtain ⟨q0, q1, q2, q3, q4, q5⟩ := hxS.cells6
      go_simp
      try with_reducible rfl
    · simp only [List.setIfInBounds_toArray, List.set_cons_zero, List.set_cons_succ]; with_reducible rfl
    refine wpAnyG_call 1 19 (tm' := ?_) (v := .int .i64 0) (f := ?_) (args := ?_) rfl rfl (by kernel_rfl) (by kernel_rfl) (by kernel_rfl) (listed' := #[true, true, false, false, false, false]) (by kernel_rfl) (fun _ _ _ h => h) (wanted_none rfl) ?_ ?_ ?_ ?_
    rotate_left 3
    · intro w
      go_simp
      first | with_reducible rfl | (constructor <;> with_reducible rfl)
    · intro wS hSw
      obtain ⟨hbS, hxS⟩ := hSw
      exact (may_any _ (cut12 x) _ (HX.out.below hbS (Nat.le_refl _)) HW.out (by omega)).mono fun e w' ⟨he, hb⟩ => ⟨he.trans (by rw [HM.out]), hbS.trans (hb.mono hbS.size), hxS.below hb hxS.lt⟩
    · simp only [List.setIfInBounds_toArray, List.set_cons_zero, List.set_cons_succ]; with_reducible rfl
    refine wpAnyG_take 2 20 (tm' := ?_) (v := .bool true) rfl rfl (by kernel_rfl) (by kernel_rfl) (by kernel_rfl) (listed' := #[true, true, true, false, false, false]) (by kernel_rfl) (fun _ _ _ h => h) (wanted_none rfl) ?_ ?_ ?_
    rotate_left
    · intro w hSw
      (try dsimp only at hSw)
      go_simp
      try with_reducible rfl
    · simp only [List.setIfInBounds_toArray, List.set_cons_zero, List.set_cons_succ]; with_reducible rfl
    refine wpAnyG_take 3 21 (tm' := ?_) (v := ?_) rfl rfl (by kernel_rfl) (by kernel_rfl) (by kernel_rfl) (listed' := #[true, true, true, true, false, false]) (by kernel_rfl) (fun _ _ _ h => h) (wanted_none rfl) ?_ ?_ ?_
    rotate_left 2
    · intro w hSw
      (try dsimp only at hSw)
      obtain ⟨hbS, hxS⟩ := hSw
      obtain ⟨q0, q1, q2, q3, q4, q5⟩ := hxS.cells6
      go_simp
      try with_reducible rfl
    · simp only [List.setIfInBounds_toArray, List.set_cons_zero, List.set_cons_succ]; with_reducible rfl
    refine wpAnyG_call 4 22 (tm' := ?_) (v := .bool true) (f := ?_) (args := ?_) rfl rfl (by kernel_rfl) (by kernel_rfl) (by kernel_rfl) (listed' := #[true, true, true, true, true, false]) (by kernel_rfl) (fun _ _ _ h => h) (wanted_none rfl) ?_ ?_ ?_ ?_
    rotate_left 3
    · intro w
      go_simp
      first | with_reducible rfl | (constructor <;> with_reducible rfl)
    · intro wS hSw
      obtain ⟨hbS, hxS⟩ := hSw
      exact (rmay_any _ (cut12 x) _ (HX.out.below hbS (Nat.le_refl _)) HW.out (by omega)).mono fun e w' ⟨he, hb⟩ => ⟨he.trans (by rw [HMM.out]), hbS.trans (hb.mono hbS.size), hxS.below hb hxS.lt⟩
    · simp only [List.setIfInBounds_toArray, List.set_cons_zero, List.set_cons_succ]; with_reducible rfl
    refine wpAnyG_take 5 23 (tm' := ?_) (v := .bool false) rfl rfl (by kernel_rfl) (by kernel_rfl) (by kernel_rfl) (listed' := #[true, true, true, true, true, true]) (by kernel_rfl) (fun _ _ _ h => h) (wanted_none rfl) ?_ ?_ ?_
    rotate_left
    · intro w hSw
      (try dsimp only at hSw)
      go_simp
      try with_reducible rfl
    · simp only [List.setIfInBounds_toArray, List.set_cons_zero, List.set_cons_succ]; with_reducible rfl
    refine wpAnyF_done (by kernel_rfl) ?_
    intro wf hSf
    obtain ⟨hbf, hxf⟩ := hSf
    obtain ⟨q0, q1, q2, q3, q4, q5⟩ := hxf.cells6
    have HXf := Lib.hid (HX.out.below hbf (Nat.le_refl _))
    clear HX HM HMM
    go_wp2_with fail
    refine (goodI_any _ _ _ HXf.out HW.out).mono ?_
    rintro e w2 ⟨v2, rfl, hown, hb2⟩
    have k2 := below_nx hbf hb2
    clear q0 q1 q2 q3 q4 q5
    go_wp2_with fail
    have hg6 := goodP_custs (cut12 x)
    refine (turned_any wf.heap.size v2 (goodP (cut12 x)) t by_ _ hown (goodP_wf _) (by omega) hb2.size (goodP_dist _) (goodP_rows _) HB.out).mono ?_
    rintro e w3 ⟨v3, y, rfl, hy, hyw, hyn, hb3⟩
    have k3 := k2.trans (hb3.mono hbf.size)
    have HY := Lib.hid hy
    have HYW := Lib.hid hyw
    obtain ⟨cv3, dv3, rfl, ⟨A3, c3, rfl, -⟩, ⟨A4, c4, rfl, -⟩⟩ := hy
    clear hyw hown
    rcases Bool.eq_false_or_eq_true (may y) with hM | hM
    rotate_left
    have HE := Lib.hid (mayE_f hM)
    rotate_left
    have HE := Lib.hid (mayE_t hM)
    all_goals
      have HR := Lib.hid hM
      clear hM
      go_wp2_with fail
      refine (may_any _ y _ (HY.out.below (below_al (Below.refl _ _) _) (Nat.le_refl _)) HYW.out hyn).mono ?_
      rintro e w4 ⟨rfl, hb4⟩
      rw [HE.out]
      have hby4 := (Blk.newAt w3 25 [.int .i64 y.days, .int .i64 y.veh, .int .i64 y.cap, .int .i64 y.len, .slice A3 y.custs.length c3, .slice A4 y.dist.length c4] rfl).below hb4 (by simp)
      obtain ⟨q0, q1, q2, q3, q4, q5⟩ := hby4.cells6
      have k4 := below_nx (below_al k3 _) hb4
      have HY4 := Lib.hid (HY.out.below ((below_al (Below.refl _ _) _).trans (hb4.mono (by simp))) (Nat.le_refl _))
      go_wp2_with fail
      refine (rmay_any _ y _ HY4.out HYW.out hyn).mono ?_
      rintro e w5 ⟨rfl, hb5⟩
      rw [HR.out]
      have k5 := below_nx k4 hb5
      clear q0 q1 q2 q3 q4 q5
      go_wp2_with fail
      refine (lives_any _).mono ?_
      rintro e w6 ⟨rfl, hb6⟩
      go_wp2
      go_ret
      exact ⟨rfl, below_nx k5 hb6⟩
  · have HM := Lib.hid (mayE_f hM)
    have HMM := Lib.hid hM
    clear hM
    go_enter Try.func3, Try.ntmps3
    go_wp2_with fail
    refine wp_region_G (fun wS => Below w.heap.size w wS ∧ Blk wS w.heap.size 25 [.int .i64 x.days, .int .i64 x.veh, .int .i64 x.cap, .int .i64 x.len, .slice A 12 c, .slice Ad x.dist.length cd]) 6 (listed := #[false, false, false, false, false, false]) (by kernel_rfl) ?_ (by kernel_rfl) (by kernel_rfl) ?_
    · exact ⟨(below_al (Below.refl _ _) _).drew, Blk.drew (Blk.newAt w _ _ rfl)⟩
    refine wpAnyG_take 0 18 (tm' := ?_) (v := ?_) rfl rfl (by kernel_rfl) (by kernel_rfl) (by kernel_rfl) (listed' := #[true, false, false, false, false, false]) (by kernel_rfl) (fun _ _ _ h => h) (wanted_none rfl) ?_ ?_ ?_
    rotate_left 2
    · intro w hSw
      (try dsimp only at hSw)
      obtain ⟨hbS, hxS⟩ := hSw
      obtain ⟨q0, q1, q2, q3, q4, q5⟩ := hxS.cells6
      go_simp
      try with_reducible rfl
    · simp only [List.setIfInBounds_toArray, List.set_cons_zero, List.set_cons_succ]; with_reducible rfl
    refine wpAnyG_call 1 19 (tm' := ?_) (v := .int .i64 3) (f := ?_) (args := ?_) rfl rfl (by kernel_rfl) (by kernel_rfl) (by kernel_rfl) (listed' := #[true, true, false, false, false, false]) (by kernel_rfl) (fun _ _ _ h => h) (wanted_none rfl) ?_ ?_ ?_ ?_
    rotate_left 3
    · intro w
      go_simp
      first | with_reducible rfl | (constructor <;> with_reducible rfl)
    · intro wS hSw
      obtain ⟨hbS, hxS⟩ := hSw
      exact (may_any _ (cut12 x) _ (HX.out.below hbS (Nat.le_refl _)) HW.out (by omega)).mono fun e w' ⟨he, hb⟩ => ⟨he.trans (by rw [HM.out]), hbS.trans (hb.mono hbS.size), hxS.below hb hxS.lt⟩
    · simp only [List.setIfInBounds_toArray, List.set_cons_zero, List.set_cons_succ]; with_reducible rfl
    refine wpAnyG_take 2 20 (tm' := ?_) (v := .bool false) rfl rfl (by kernel_rfl) (by kernel_rfl) (by kernel_rfl) (listed' := #[true, true, true, false, false, false]) (by kernel_rfl) (fun _ _ _ h => h) (wanted_none rfl) ?_ ?_ ?_
    rotate_left
    · intro w hSw
      (try dsimp only at hSw)
      go_simp
      try with_reducible rfl
    · simp only [List.setIfInBounds_toArray, List.set_cons_zero, List.set_cons_succ]; with_reducible rfl
    refine wpAnyG_take 3 21 (tm' := ?_) (v := ?_) rfl rfl (by kernel_rfl) (by kernel_rfl) (by kernel_rfl) (listed' := #[true, true, true, true, false, false]) (by kernel_rfl) (fun _ _ _ h => h) (wanted_none rfl) ?_ ?_ ?_
    rotate_left 2
    · intro w hSw
      (try dsimp only at hSw)
      obtain ⟨hbS, hxS⟩ := hSw
      obtain ⟨q0, q1, q2, q3, q4, q5⟩ := hxS.cells6
      go_simp
      try with_reducible rfl
    · simp only [List.setIfInBounds_toArray, List.set_cons_zero, List.set_cons_succ]; with_reducible rfl
    refine wpAnyG_call 4 22 (tm' := ?_) (v := .bool false) (f := ?_) (args := ?_) rfl rfl (by kernel_rfl) (by kernel_rfl) (by kernel_rfl) (listed' := #[true, true, true, true, true, false]) (by kernel_rfl) (fun _ _ _ h => h) (wanted_none rfl) ?_ ?_ ?_ ?_
    rotate_left 3
    · intro w
      go_simp
      first | with_reducible rfl | (constructor <;> with_reducible rfl)
    · intro wS hSw
      obtain ⟨hbS, hxS⟩ := hSw
      exact (rmay_any _ (cut12 x) _ (HX.out.below hbS (Nat.le_refl _)) HW.out (by omega)).mono fun e w' ⟨he, hb⟩ => ⟨he.trans (by rw [HMM.out]), hbS.trans (hb.mono hbS.size), hxS.below hb hxS.lt⟩
    · simp only [List.setIfInBounds_toArray, List.set_cons_zero, List.set_cons_succ]; with_reducible rfl
    refine wpAnyG_take 5 23 (tm' := ?_) (v := .bool false) rfl rfl (by kernel_rfl) (by kernel_rfl) (by kernel_rfl) (listed' := #[true, true, true, true, true, true]) (by kernel_rfl) (fun _ _ _ h => h) (wanted_none rfl) ?_ ?_ ?_
    rotate_left
    · intro w hSw
      (try dsimp only at hSw)
      go_simp
      try with_reducible rfl
    · simp only [List.setIfInBounds_toArray, List.set_cons_zero, List.set_cons_succ]; with_reducible rfl
    refine wpAnyF_done (by kernel_rfl) ?_
    intro wf hSf
    obtain ⟨hbf, hxf⟩ := hSf
    obtain ⟨q0, q1, q2, q3, q4, q5⟩ := hxf.cells6
    have HXf := Lib.hid (HX.out.below hbf (Nat.le_refl _))
    clear HX HM HMM
    go_wp2_with fail
    refine (goodI_any _ _ _ HXf.out HW.out).mono ?_
    rintro e w2 ⟨v2, rfl, hown, hb2⟩
    have k2 := below_nx hbf hb2
    clear q0 q1 q2 q3 q4 q5
    go_wp2_with fail
    have hg6 := goodP_custs (cut12 x)
    refine (turned_any wf.heap.size v2 (goodP (cut12 x)) t by_ _ hown (goodP_wf _) (by omega) hb2.size (goodP_dist _) (goodP_rows _) HB.out).mono ?_
    rintro e w3 ⟨v3, y, rfl, hy, hyw, hyn, hb3⟩
    have k3 := k2.trans (hb3.mono hbf.size)
    have HY := Lib.hid hy
    have HYW := Lib.hid hyw
    obtain ⟨cv3, dv3, rfl, ⟨A3, c3, rfl, -⟩, ⟨A4, c4, rfl, -⟩⟩ := hy
    clear hyw hown
    rcases Bool.eq_false_or_eq_true (may y) with hM | hM
    rotate_left
    have HE := Lib.hid (mayE_f hM)
    rotate_left
    have HE := Lib.hid (mayE_t hM)
    all_goals
      have HR := Lib.hid hM
      clear hM
      go_wp2_with fail
      refine (may_any _ y _ (HY.out.below (below_al (Below.refl _ _) _) (Nat.le_refl _)) HYW.out hyn).mono ?_
      rintro e w4 ⟨rfl, hb4⟩
      rw [HE.out]
      have hby4 := (Blk.newAt w3 25 [.int .i64 y.days, .int .i64 y.veh, .int .i64 y.cap, .int .i64 y.len, .slice A3 y.custs.length c3, .slice A4 y.dist.length c4] rfl).below hb4 (by simp)
      obtain ⟨q0, q1, q2, q3, q4, q5⟩ := hby4.cells6
      have k4 := below_nx (below_al k3 _) hb4
      have HY4 := Lib.hid (HY.out.below ((below_al (Below.refl _ _) _).trans (hb4.mono (by simp))) (Nat.le_refl _))
      go_wp2_with fail
      refine (rmay_any _ y _ HY4.out HYW.out hyn).mono ?_
      rintro e w5 ⟨rfl, hb5⟩
      rw [HR.out]
      have k5 := below_nx k4 hb5
      clear q0 q1 q2 q3 q4 q5
      go_wp2_with fail
      refine (lives_any _).mono ?_
      rintro e w6 ⟨rfl, hb6⟩
      go_wp2
      go_ret
      exact ⟨rfl, below_nx k5 hb6⟩

theorem instMay_any (v : Value) (x : Inst) (t by_ : Int) (w : World) (hx : RInst w v x) (hwf : x.wf) (hby : W64 by_) :
    Calls Try.prog 3 #[v, .int .i64 t, .int .i64 by_] w fun e w' => e = .returned (.bool true) ∧ Below w.heap.size w w' := by
  by_cases hn : x.custs.length ≤ 12
  · exact instMay_lo v x t by_ w hx hwf hby hn
  · exact instMay_hi v x t by_ w hx hwf hby (by omega)

end Go.Proofs.Ytifdggdpglphmaa
