/- The walk of the reference's comparison of instances. -/
import Derived.Test.YtigljnnjamdcnaaDoorQS
import Derived.Test.YtigljnnjamdcnaaDoorQI
import Derived.Test.YtigljnnjamdcnaaDoorQF
namespace Go.Proofs.YtigljnnjamdcnaaDoor
open Go.RowKit P06

set_option maxHeartbeats 1000000 in
theorem rsame_any (v v' : Value) (x y : Inst) (w : World) (hx : RInst w v x) (hy : RInst w v' y) :
    Calls Tryd.prog 12 #[v, v'] w fun e w' => e = .returned (.bool (sameP x y)) ∧ Below w.heap.size w w' := by
  obtain ⟨cv, dv, rfl, hc, hd⟩ := hx
  obtain ⟨cv', dv', rfl, hc', hd'⟩ := hy
  obtain ⟨days1, veh1, cap1, len1, cs1, ds1⟩ := x
  obtain ⟨days2, veh2, cap2, len2, cs2, ds2⟩ := y
  simp only at hc hd hc' hd' ⊢
  have HC := Lib.hid hc
  have HC' := Lib.hid hc'
  have HD := Lib.hid hd
  have HD' := Lib.hid hd'
  obtain ⟨A1, c1, rfl, u1, u2, hcc⟩ := hc.open_
  obtain ⟨A2, c2, rfl, u3, u4, hcc'⟩ := hc'.open_
  obtain ⟨A3, c3, rfl, u5, u6, hdc⟩ := hd
  obtain ⟨A4, c4, rfl, u7, u8, hdc'⟩ := hd'
  simp only [maxLen] at u6 u8
  have HCC := Lib.hid hcc
  have HCC' := Lib.hid hcc'
  have HDC := Lib.hid hdc
  have HDC' := Lib.hid hdc'
  clear hc hc' hcc hcc' hdc hdc'
  by_cases e : days1 = days2
  rotate_left
  · have HF := Lib.hid (sameP_f (x := ⟨days1, veh1, cap1, len1, cs1, ds1⟩) (y := ⟨days2, veh2, cap2, len2, cs2, ds2⟩) (fun h => e (by simp only at h; omega)))
    have hne : (days1 != days2) = true := by rw [bne_iff_ne]; exact e
    clear e
    go_enter Tryd.func12, Tryd.ntmps12
    go_wp2
    go_ret
    exact ⟨ret_bool HF.out.symm, (((Below.refl w.heap.size w).alloc (Nat.le_refl _) _).alloc (by simp) _)⟩
  subst e
  by_cases e : veh1 = veh2
  rotate_left
  · have HF := Lib.hid (sameP_f (x := ⟨days1, veh1, cap1, len1, cs1, ds1⟩) (y := ⟨days1, veh2, cap2, len2, cs2, ds2⟩) (fun h => e (by simp only at h; omega)))
    have hne : (veh1 != veh2) = true := by rw [bne_iff_ne]; exact e
    clear e
    go_enter Tryd.func12, Tryd.ntmps12
    go_wp2
    go_ret
    exact ⟨ret_bool HF.out.symm, (((Below.refl w.heap.size w).alloc (Nat.le_refl _) _).alloc (by simp) _)⟩
  subst e
  by_cases e : cap1 = cap2
  rotate_left
  · have HF := Lib.hid (sameP_f (x := ⟨days1, veh1, cap1, len1, cs1, ds1⟩) (y := ⟨days1, veh1, cap2, len2, cs2, ds2⟩) (fun h => e (by simp only at h; omega)))
    have hne : (cap1 != cap2) = true := by rw [bne_iff_ne]; exact e
    clear e
    go_enter Tryd.func12, Tryd.ntmps12
    go_wp2
    go_ret
    exact ⟨ret_bool HF.out.symm, (((Below.refl w.heap.size w).alloc (Nat.le_refl _) _).alloc (by simp) _)⟩
  subst e
  by_cases e : len1 = len2
  rotate_left
  · have HF := Lib.hid (sameP_f (x := ⟨days1, veh1, cap1, len1, cs1, ds1⟩) (y := ⟨days1, veh1, cap1, len2, cs2, ds2⟩) (fun h => e (by simp only at h; omega)))
    have hne : (len1 != len2) = true := by rw [bne_iff_ne]; exact e
    clear e
    go_enter Tryd.func12, Tryd.ntmps12
    go_wp2
    go_ret
    exact ⟨ret_bool HF.out.symm, (((Below.refl w.heap.size w).alloc (Nat.le_refl _) _).alloc (by simp) _)⟩
  subst e
  have HT := Lib.hid (sameP_t (x := ⟨days1, veh1, cap1, len1, cs1, ds1⟩) (y := ⟨days1, veh1, cap1, len1, cs2, ds2⟩) ⟨rfl, rfl, rfl, rfl⟩)
  by_cases hlen : cs1.length = cs2.length
  rotate_left
  · have HF := Lib.hid (HT.out.trans (by rw [eqAll_len custEq cs1 cs2 hlen, Bool.false_and]))
    have hne : ((cs1.length : Int) != (cs2.length : Int)) = true := by rw [bne_iff_ne]; omega
    clear hlen
    go_enter Tryd.func12, Tryd.ntmps12
    go_wp2
    go_ret
    exact ⟨ret_bool HF.out.symm, (((Below.refl w.heap.size w).alloc (Nat.le_refl _) _).alloc (by simp) _)⟩
  have hnecs1 : ((cs1.length : Int) != (cs2.length : Int)) = false := by rw [bne_eq_false_iff_eq]; omega
  have HEcs1 := Lib.hid hlen
  clear hlen
  by_cases hlen : ds1.length = ds2.length
  rotate_left
  · have HF := Lib.hid (HT.out.trans (by rw [eqAll_len intsEq ds1 ds2 hlen, Bool.and_false]))
    have hne : ((ds1.length : Int) != (ds2.length : Int)) = true := by rw [bne_iff_ne]; omega
    clear hlen
    go_enter Tryd.func12, Tryd.ntmps12
    go_wp2
    go_ret
    exact ⟨ret_bool HF.out.symm, (((Below.refl w.heap.size w).alloc (Nat.le_refl _) _).alloc (by simp) _)⟩
  have hneds1 : ((ds1.length : Int) != (ds2.length : Int)) = false := by rw [bne_eq_false_iff_eq]; omega
  have HEds1 := Lib.hid hlen
  clear hlen
  go_enter Tryd.func12, Tryd.ntmps12
  go_wp2_with fail
  clear hnecs1 hneds1

  go_loopw [5] (fun iv wr => ∃ k : Nat, k ≤ cs1.length ∧ iv = .int .i64 k ∧ Blk wr w.heap.size 25 [.int .i64 days1, .int .i64 veh1, .int .i64 cap1, .int .i64 len1, .slice A1 cs1.length c1, .slice A3 ds1.length c3] ∧ Blk wr (w.heap.size + 1) 25 [.int .i64 days1, .int .i64 veh1, .int .i64 cap1, .int .i64 len1, .slice A2 cs2.length c2, .slice A4 ds2.length c4] ∧ Below w.heap.size w wr ∧ Hid (eqAll custEq cs1 cs2 = eqAll custEq (cs1.drop k) (cs2.drop k))) (fun iv _ => cs1.length - (intOf iv).toNat)
  case atStart => exact ⟨0, Nat.zero_le _, rfl, (Blk.new w _ _).alloc _, Blk.newAt _ _ _ (by simp), (((Below.refl w.heap.size w).alloc (Nat.le_refl _) _).alloc (by simp) _), rfl⟩
  case round =>
    obtain ⟨k, hk, rfl, hbx, hby, hbel, HI⟩ := hrel
    by_cases hlt : k < cs1.length
    · obtain ⟨x, hx⟩ := some_of_lt hlt
      have hltm : k < cs2.length := by have := HEcs1.out; omega
      obtain ⟨y, hy⟩ := some_of_lt hltm
      have HS := Lib.hid (HI.out.trans (eqAll_step _ hx hy))
      obtain ⟨b0, o0, rfl, hb0, pv, hpv, k0, k1, k2, k3, k4, k5, k6, k7⟩ := HCC.out k x hx
      obtain ⟨b1, o1, rfl, hb1, qv, hqv, l0, l1, l2, l3, l4, l5, l6, l7⟩ := HCC'.out k y hy
      replace k0 := cell_below hbel (Nat.le_refl _) k0
      replace k1 := cell_below hbel (Nat.le_refl _) k1
      replace k2 := cell_below hbel (Nat.le_refl _) k2
      replace k3 := cell_below hbel (Nat.le_refl _) k3
      replace k4 := cell_below hbel (Nat.le_refl _) k4
      replace k5 := cell_below hbel (Nat.le_refl _) k5
      replace k6 := cell_below hbel (Nat.le_refl _) k6
      replace k7 := cell_below hbel (Nat.le_refl _) k7
      replace l0 := cell_below hbel (Nat.le_refl _) l0
      replace l1 := cell_below hbel (Nat.le_refl _) l1
      replace l2 := cell_below hbel (Nat.le_refl _) l2
      replace l3 := cell_below hbel (Nat.le_refl _) l3
      replace l4 := cell_below hbel (Nat.le_refl _) l4
      replace l5 := cell_below hbel (Nat.le_refl _) l5
      replace l6 := cell_below hbel (Nat.le_refl _) l6
      replace l7 := cell_below hbel (Nat.le_refl _) l7
      have HPV := Lib.hid (hpv.below hbel (Nat.le_refl _))
      have HQV := Lib.hid (hqv.below hbel (Nat.le_refl _))
      obtain ⟨Ap, cp, rfl, -⟩ := hpv.open_
      obtain ⟨Aq, cq, rfl, -⟩ := hqv.open_
      clear hx hy hpv hqv
      have hkl : (k : Int) < (cs1.length : Int) := by omega
      have hkm : (k : Int) < (cs2.length : Int) := by omega
      obtain ⟨q0, q1, q2, q3, q4, q5⟩ := hbx.cells6
      by_cases hB : custEq x y = true
      · have HB := Lib.hid hB
        clear hB
        go_wp2_with fail
        clear q0 q1 q2 q3 q4 q5
        refine wp_region_G (fun wS => Below wr.heap.size wr wS ∧ Blk wS w.heap.size 25 [.int .i64 days1, .int .i64 veh1, .int .i64 cap1, .int .i64 len1, .slice (some ⟨b0, o0, none⟩) cs1.length c1, .slice A3 ds1.length c3] ∧ Blk wS (w.heap.size + 1) 25 [.int .i64 days1, .int .i64 veh1, .int .i64 cap1, .int .i64 len1, .slice (some ⟨b1, o1, none⟩) cs2.length c2, .slice A4 ds2.length c4]) 12 (listed := #[false, false, false, false, false, false, false, false, false, false, false, false]) (by kernel_rfl) ?_ (by kernel_rfl) (by kernel_rfl) ?_
        · exact ⟨(Below.refl _ _).drew, hbx.drew, hby.drew⟩
        refine wpAnyG_take 0 60 (tm' := ?_) (v := ?_) rfl rfl (by kernel_rfl) (by kernel_rfl) (by kernel_rfl) (listed' := #[true, false, false, false, false, false, false, false, false, false, false, false]) (by kernel_rfl) (fun _ _ _ h => h) (wanted_none rfl) ?_ ?_ ?_
        rotate_left 2
        · intro w hSw
          (try dsimp only at hSw)
          go_simp
          try with_reducible rfl
        · simp only [List.setIfInBounds_toArray, List.set_cons_zero, List.set_cons_succ]; with_reducible rfl
        refine wpAnyG_take 1 61 (tm' := ?_) (v := ?_) rfl rfl (by kernel_rfl) (by kernel_rfl) (by kernel_rfl) (listed' := #[true, true, false, false, false, false, false, false, false, false, false, false]) (by kernel_rfl) (fun _ _ _ h => h) (wanted_none rfl) ?_ ?_ ?_
        rotate_left 2
        · intro w hSw
          (try dsimp only at hSw)
          obtain ⟨hbS, hxS, hyS⟩ := hSw
          obtain ⟨q0, q1, q2, q3, q4, q5⟩ := hxS.cells6
          obtain ⟨p0, p1, p2, p3, p4, p5⟩ := hyS.cells6
          go_simp
          try with_reducible rfl
        · simp only [List.setIfInBounds_toArray, List.set_cons_zero, List.set_cons_succ]; with_reducible rfl
        refine wpAnyG_take 2 62 (tm' := ?_) (v := ?_) rfl rfl (by kernel_rfl) (by kernel_rfl) (by kernel_rfl) (listed' := #[true, true, true, false, false, false, false, false, false, false, false, false]) (by kernel_rfl) (fun _ _ _ h => h) (wanted_none rfl) ?_ ?_ ?_
        rotate_left 2
        · intro w hSw
          (try dsimp only at hSw)
          go_simp
          try with_reducible rfl
        · simp only [List.setIfInBounds_toArray, List.set_cons_zero, List.set_cons_succ]; with_reducible rfl
        refine wpAnyG_take 3 63 (tm' := ?_) (v := ?_) rfl rfl (by kernel_rfl) (by kernel_rfl) (by kernel_rfl) (listed' := #[true, true, true, true, false, false, false, false, false, false, false, false]) (by kernel_rfl) (fun _ _ _ h => h) (wanted_none rfl) ?_ ?_ ?_
        rotate_left 2
        · intro w hSw
          (try dsimp only at hSw)
          go_simp
          try with_reducible rfl
        · simp only [List.setIfInBounds_toArray, List.set_cons_zero, List.set_cons_succ]; with_reducible rfl
        refine wpAnyG_take 4 64 (tm' := ?_) (v := ?_) rfl rfl (by kernel_rfl) (by kernel_rfl) (by kernel_rfl) (listed' := #[true, true, true, true, true, false, false, false, false, false, false, false]) (by kernel_rfl) (fun _ _ _ h => h) (wanted_none rfl) ?_ ?_ ?_
        rotate_left 2
        · intro w hSw
          (try dsimp only at hSw)
          obtain ⟨hbS, hxS, hyS⟩ := hSw
          have k0S := cell_below hbS (Nat.le_refl _) k0
          have k1S := cell_below hbS (Nat.le_refl _) k1
          have k2S := cell_below hbS (Nat.le_refl _) k2
          have k3S := cell_below hbS (Nat.le_refl _) k3
          have k4S := cell_below hbS (Nat.le_refl _) k4
          have k5S := cell_below hbS (Nat.le_refl _) k5
          have k6S := cell_below hbS (Nat.le_refl _) k6
          have k7S := cell_below hbS (Nat.le_refl _) k7
          go_simp
          try with_reducible rfl
        · simp only [List.setIfInBounds_toArray, List.set_cons_zero, List.set_cons_succ]; with_reducible rfl
        refine wpAnyG_take 5 65 (tm' := ?_) (v := ?_) rfl rfl (by kernel_rfl) (by kernel_rfl) (by kernel_rfl) (listed' := #[true, true, true, true, true, true, false, false, false, false, false, false]) (by kernel_rfl) (fun _ _ _ h => h) (wanted_none rfl) ?_ ?_ ?_
        rotate_left 2
        · intro w hSw
          (try dsimp only at hSw)
          go_simp
          try with_reducible rfl
        · simp only [List.setIfInBounds_toArray, List.set_cons_zero, List.set_cons_succ]; with_reducible rfl
        refine wpAnyG_take 6 66 (tm' := ?_) (v := ?_) rfl rfl (by kernel_rfl) (by kernel_rfl) (by kernel_rfl) (listed' := #[true, true, true, true, true, true, true, false, false, false, false, false]) (by kernel_rfl) (fun _ _ _ h => h) (wanted_none rfl) ?_ ?_ ?_
        rotate_left 2
        · intro w hSw
          (try dsimp only at hSw)
          obtain ⟨hbS, hxS, hyS⟩ := hSw
          obtain ⟨q0, q1, q2, q3, q4, q5⟩ := hxS.cells6
          obtain ⟨p0, p1, p2, p3, p4, p5⟩ := hyS.cells6
          go_simp
          try with_reducible rfl
        · simp only [List.setIfInBounds_toArray, List.set_cons_zero, List.set_cons_succ]; with_reducible rfl
        refine wpAnyG_take 7 67 (tm' := ?_) (v := ?_) rfl rfl (by kernel_rfl) (by kernel_rfl) (by kernel_rfl) (listed' := #[true, true, true, true, true, true, true, true, false, false, false, false]) (by kernel_rfl) (fun _ _ _ h => h) (wanted_none rfl) ?_ ?_ ?_
        rotate_left 2
        · intro w hSw
          (try dsimp only at hSw)
          go_simp
          try with_reducible rfl
        · simp only [List.setIfInBounds_toArray, List.set_cons_zero, List.set_cons_succ]; with_reducible rfl
        refine wpAnyG_take 8 68 (tm' := ?_) (v := ?_) rfl rfl (by kernel_rfl) (by kernel_rfl) (by kernel_rfl) (listed' := #[true, true, true, true, true, true, true, true, true, false, false, false]) (by kernel_rfl) (fun _ _ _ h => h) (wanted_none rfl) ?_ ?_ ?_
        rotate_left 2
        · intro w hSw
          (try dsimp only at hSw)
          go_simp
          try with_reducible rfl
        · simp only [List.setIfInBounds_toArray, List.set_cons_zero, List.set_cons_succ]; with_reducible rfl
        refine wpAnyG_take 9 69 (tm' := ?_) (v := ?_) rfl rfl (by kernel_rfl) (by kernel_rfl) (by kernel_rfl) (listed' := #[true, true, true, true, true, true, true, true, true, true, false, false]) (by kernel_rfl) (fun _ _ _ h => h) (wanted_none rfl) ?_ ?_ ?_
        rotate_left 2
        · intro w hSw
          (try dsimp only at hSw)
          obtain ⟨hbS, hxS, hyS⟩ := hSw
          have l0S := cell_below hbS (Nat.le_refl _) l0
          have l1S := cell_below hbS (Nat.le_refl _) l1
          have l2S := cell_below hbS (Nat.le_refl _) l2
          have l3S := cell_below hbS (Nat.le_refl _) l3
          have l4S := cell_below hbS (Nat.le_refl _) l4
          have l5S := cell_below hbS (Nat.le_refl _) l5
          have l6S := cell_below hbS (Nat.le_refl _) l6
          have l7S := cell_below hbS (Nat.le_refl _) l7
          go_simp
          try with_reducible rfl
        · simp only [List.setIfInBounds_toArray, List.set_cons_zero, List.set_cons_succ]; with_reducible rfl
        refine wpAnyG_call 10 70 (tm' := ?_) (v := .bool true) (f := ?_) (args := ?_) rfl rfl (by kernel_rfl) (by kernel_rfl) (by kernel_rfl) (listed' := #[true, true, true, true, true, true, true, true, true, true, true, false]) (by kernel_rfl) (fun _ _ _ h => h) (wanted_none rfl) ?_ ?_ ?_ ?_
        rotate_left 3
        · intro w
          go_simp
          first | with_reducible rfl | (constructor <;> with_reducible rfl)
        · intro wS hSw
          obtain ⟨hbS, hxS, hyS⟩ := hSw
          exact (rsameCust_any x y _ _ _ (HPV.out.below hbS (Nat.le_refl _)) (HQV.out.below hbS (Nat.le_refl _))).mono fun e w' ⟨he, hb⟩ => ⟨by rw [he, HB.out], hbS.trans (hb.mono hbS.size), hxS.below hb hxS.lt, hyS.below hb hyS.lt⟩
        · simp only [List.setIfInBounds_toArray, List.set_cons_zero, List.set_cons_succ]; with_reducible rfl
        refine wpAnyG_take 11 6 (tm' := ?_) (v := .bool true) rfl rfl (by kernel_rfl) (by kernel_rfl) (by kernel_rfl) (listed' := #[true, true, true, true, true, true, true, true, true, true, true, true]) (by kernel_rfl) (fun _ _ _ h => h) (wanted_none rfl) ?_ ?_ ?_
        rotate_left
        · intro w hSw
          (try dsimp only at hSw)
          go_simp
          try with_reducible rfl
        · simp only [List.setIfInBounds_toArray, List.set_cons_zero, List.set_cons_succ]; with_reducible rfl
        refine wpAnyF_done (by kernel_rfl) ?_
        intro wf hSf

        obtain ⟨hbf, hxf, hyf⟩ := hSf
        go_wp2
        go_roundw
        case rel => exact ⟨k + 1, by omega, by go_num, hxf, hyf, below_nx hbel hbf, by have := HS.out; rw [HB.out, Bool.true_and] at this; exact this⟩
        case measure => simp [intOf]; omega

      · have HB := Lib.hid (show custEq x y = false by simpa using hB)
        have HF : Hid (sameP ⟨days1, veh1, cap1, len1, cs1, ds1⟩ ⟨days1, veh1, cap1, len1, cs2, ds2⟩ = false) := by
          have := HS.out
          rw [HB.out, Bool.false_and] at this
          exact HT.out.trans (by rw [this, Bool.false_and])
        clear hB
        go_wp2_with fail
        clear q0 q1 q2 q3 q4 q5
        refine wp_region_G (fun wS => Below wr.heap.size wr wS ∧ Blk wS w.heap.size 25 [.int .i64 days1, .int .i64 veh1, .int .i64 cap1, .int .i64 len1, .slice (some ⟨b0, o0, none⟩) cs1.length c1, .slice A3 ds1.length c3] ∧ Blk wS (w.heap.size + 1) 25 [.int .i64 days1, .int .i64 veh1, .int .i64 cap1, .int .i64 len1, .slice (some ⟨b1, o1, none⟩) cs2.length c2, .slice A4 ds2.length c4]) 12 (listed := #[false, false, false, false, false, false, false, false, false, false, false, false]) (by kernel_rfl) ?_ (by kernel_rfl) (by kernel_rfl) ?_
        · exact ⟨(Below.refl _ _).drew, hbx.drew, hby.drew⟩
        refine wpAnyG_take 0 60 (tm' := ?_) (v := ?_) rfl rfl (by kernel_rfl) (by kernel_rfl) (by kernel_rfl) (listed' := #[true, false, false, false, false, false, false, false, false, false, false, false]) (by kernel_rfl) (fun _ _ _ h => h) (wanted_none rfl) ?_ ?_ ?_
        rotate_left 2
        · intro w hSw
          (try dsimp only at hSw)
          go_simp
          try with_reducible rfl
        · simp only [List.setIfInBounds_toArray, List.set_cons_zero, List.set_cons_succ]; with_reducible rfl
        refine wpAnyG_take 1 61 (tm' := ?_) (v := ?_) rfl rfl (by kernel_rfl) (by kernel_rfl) (by kernel_rfl) (listed' := #[true, true, false, false, false, false, false, false, false, false, false, false]) (by kernel_rfl) (fun _ _ _ h => h) (wanted_none rfl) ?_ ?_ ?_
        rotate_left 2
        · intro w hSw
          (try dsimp only at hSw)
          obtain ⟨hbS, hxS, hyS⟩ := hSw
          obtain ⟨q0, q1, q2, q3, q4, q5⟩ := hxS.cells6
          obtain ⟨p0, p1, p2, p3, p4, p5⟩ := hyS.cells6
          go_simp
          try with_reducible rfl
        · simp only [List.setIfInBounds_toArray, List.set_cons_zero, List.set_cons_succ]; with_reducible rfl
        refine wpAnyG_take 2 62 (tm' := ?_) (v := ?_) rfl rfl (by kernel_rfl) (by kernel_rfl) (by kernel_rfl) (listed' := #[true, true, true, false, false, false, false, false, false, false, false, false]) (by kernel_rfl) (fun _ _ _ h => h) (wanted_none rfl) ?_ ?_ ?_
        rotate_left 2
        · intro w hSw
          (try dsimp only at hSw)
          go_simp
          try with_reducible rfl
        · simp only [List.setIfInBounds_toArray, List.set_cons_zero, List.set_cons_succ]; with_reducible rfl
        refine wpAnyG_take 3 63 (tm' := ?_) (v := ?_) rfl rfl (by kernel_rfl) (by kernel_rfl) (by kernel_rfl) (listed' := #[true, true, true, true, false, false, false, false, false, false, false, false]) (by kernel_rfl) (fun _ _ _ h => h) (wanted_none rfl) ?_ ?_ ?_
        rotate_left 2
        · intro w hSw
          (try dsimp only at hSw)
          go_simp
          try with_reducible rfl
        · simp only [List.setIfInBounds_toArray, List.set_cons_zero, List.set_cons_succ]; with_reducible rfl
        refine wpAnyG_take 4 64 (tm' := ?_) (v := ?_) rfl rfl (by kernel_rfl) (by kernel_rfl) (by kernel_rfl) (listed' := #[true, true, true, true, true, false, false, false, false, false, false, false]) (by kernel_rfl) (fun _ _ _ h => h) (wanted_none rfl) ?_ ?_ ?_
        rotate_left 2
        · intro w hSw
          (try dsimp only at hSw)
          obtain ⟨hbS, hxS, hyS⟩ := hSw
          have k0S := cell_below hbS (Nat.le_refl _) k0
          have k1S := cell_below hbS (Nat.le_refl _) k1
          have k2S := cell_below hbS (Nat.le_refl _) k2
          have k3S := cell_below hbS (Nat.le_refl _) k3
          have k4S := cell_below hbS (Nat.le_refl _) k4
          have k5S := cell_below hbS (Nat.le_refl _) k5
          have k6S := cell_below hbS (Nat.le_refl _) k6
          have k7S := cell_below hbS (Nat.le_refl _) k7
          go_simp
          try with_reducible rfl
        · simp only [List.setIfInBounds_toArray, List.set_cons_zero, List.set_cons_succ]; with_reducible rfl
        refine wpAnyG_take 5 65 (tm' := ?_) (v := ?_) rfl rfl (by kernel_rfl) (by kernel_rfl) (by kernel_rfl) (listed' := #[true, true, true, true, true, true, false, false, false, false, false, false]) (by kernel_rfl) (fun _ _ _ h => h) (wanted_none rfl) ?_ ?_ ?_
        rotate_left 2
        · intro w hSw
          (try dsimp only at hSw)
          go_simp
          try with_reducible rfl
        · simp only [List.setIfInBounds_toArray, List.set_cons_zero, List.set_cons_succ]; with_reducible rfl
        refine wpAnyG_take 6 66 (tm' := ?_) (v := ?_) rfl rfl (by kernel_rfl) (by kernel_rfl) (by kernel_rfl) (listed' := #[true, true, true, true, true, true, true, false, false, false, false, false]) (by kernel_rfl) (fun _ _ _ h => h) (wanted_none rfl) ?_ ?_ ?_
        rotate_left 2
        · intro w hSw
          (try dsimp only at hSw)
          obtain ⟨hbS, hxS, hyS⟩ := hSw
          obtain ⟨q0, q1, q2, q3, q4, q5⟩ := hxS.cells6
          obtain ⟨p0, p1, p2, p3, p4, p5⟩ := hyS.cells6
          go_simp
          try with_reducible rfl
        · simp only [List.setIfInBounds_toArray, List.set_cons_zero, List.set_cons_succ]; with_reducible rfl
        refine wpAnyG_take 7 67 (tm' := ?_) (v := ?_) rfl rfl (by kernel_rfl) (by kernel_rfl) (by kernel_rfl) (listed' := #[true, true, true, true, true, true, true, true, false, false, false, false]) (by kernel_rfl) (fun _ _ _ h => h) (wanted_none rfl) ?_ ?_ ?_
        rotate_left 2
        · intro w hSw
          (try dsimp only at hSw)
          go_simp
          try with_reducible rfl
        · simp only [List.setIfInBounds_toArray, List.set_cons_zero, List.set_cons_succ]; with_reducible rfl
        refine wpAnyG_take 8 68 (tm' := ?_) (v := ?_) rfl rfl (by kernel_rfl) (by kernel_rfl) (by kernel_rfl) (listed' := #[true, true, true, true, true, true, true, true, true, false, false, false]) (by kernel_rfl) (fun _ _ _ h => h) (wanted_none rfl) ?_ ?_ ?_
        rotate_left 2
        · intro w hSw
          (try dsimp only at hSw)
          go_simp
          try with_reducible rfl
        · simp only [List.setIfInBounds_toArray, List.set_cons_zero, List.set_cons_succ]; with_reducible rfl
        refine wpAnyG_take 9 69 (tm' := ?_) (v := ?_) rfl rfl (by kernel_rfl) (by kernel_rfl) (by kernel_rfl) (listed' := #[true, true, true, true, true, true, true, true, true, true, false, false]) (by kernel_rfl) (fun _ _ _ h => h) (wanted_none rfl) ?_ ?_ ?_
        rotate_left 2
        · intro w hSw
          (try dsimp only at hSw)
          obtain ⟨hbS, hxS, hyS⟩ := hSw
          have l0S := cell_below hbS (Nat.le_refl _) l0
          have l1S := cell_below hbS (Nat.le_refl _) l1
          have l2S := cell_below hbS (Nat.le_refl _) l2
          have l3S := cell_below hbS (Nat.le_refl _) l3
          have l4S := cell_below hbS (Nat.le_refl _) l4
          have l5S := cell_below hbS (Nat.le_refl _) l5
          have l6S := cell_below hbS (Nat.le_refl _) l6
          have l7S := cell_below hbS (Nat.le_refl _) l7
          go_simp
          try with_reducible rfl
        · simp only [List.setIfInBounds_toArray, List.set_cons_zero, List.set_cons_succ]; with_reducible rfl
        refine wpAnyG_call 10 70 (tm' := ?_) (v := .bool false) (f := ?_) (args := ?_) rfl rfl (by kernel_rfl) (by kernel_rfl) (by kernel_rfl) (listed' := #[true, true, true, true, true, true, true, true, true, true, true, false]) (by kernel_rfl) (fun _ _ _ h => h) (wanted_none rfl) ?_ ?_ ?_ ?_
        rotate_left 3
        · intro w
          go_simp
          first | with_reducible rfl | (constructor <;> with_reducible rfl)
        · intro wS hSw
          obtain ⟨hbS, hxS, hyS⟩ := hSw
          exact (rsameCust_any x y _ _ _ (HPV.out.below hbS (Nat.le_refl _)) (HQV.out.below hbS (Nat.le_refl _))).mono fun e w' ⟨he, hb⟩ => ⟨by rw [he, HB.out], hbS.trans (hb.mono hbS.size), hxS.below hb hxS.lt, hyS.below hb hyS.lt⟩
        · simp only [List.setIfInBounds_toArray, List.set_cons_zero, List.set_cons_succ]; with_reducible rfl
        refine wpAnyG_take 11 6 (tm' := ?_) (v := .bool false) rfl rfl (by kernel_rfl) (by kernel_rfl) (by kernel_rfl) (listed' := #[true, true, true, true, true, true, true, true, true, true, true, true]) (by kernel_rfl) (fun _ _ _ h => h) (wanted_none rfl) ?_ ?_ ?_
        rotate_left
        · intro w hSw
          (try dsimp only at hSw)
          go_simp
          try with_reducible rfl
        · simp only [List.setIfInBounds_toArray, List.set_cons_zero, List.set_cons_succ]; with_reducible rfl
        refine wpAnyF_done (by kernel_rfl) ?_
        intro wf hSf

        obtain ⟨hbf, hxf, hyf⟩ := hSf
        go_wp2
        go_ret
        exact ⟨ret_bool HF.out.symm, below_nx hbel hbf⟩

    · have H1 := Lib.hid (HI.out.trans (eqAll_end _ (by omega) (by have := HEcs1.out; omega)))
      have hk1 : (cs1.length : Int) ≤ (k : Int) := by omega
      obtain ⟨q0, q1, q2, q3, q4, q5⟩ := hbx.cells6
      clear hlt HI
      go_wp2_with fail
      clear q0 q1 q2 q3 q4 q5 hk1
      go_loopw [7] (fun iv wr => ∃ k : Nat, k ≤ ds1.length ∧ iv = .int .i64 k ∧ Blk wr w.heap.size 25 [.int .i64 days1, .int .i64 veh1, .int .i64 cap1, .int .i64 len1, .slice A1 cs1.length c1, .slice A3 ds1.length c3] ∧ Blk wr (w.heap.size + 1) 25 [.int .i64 days1, .int .i64 veh1, .int .i64 cap1, .int .i64 len1, .slice A2 cs2.length c2, .slice A4 ds2.length c4] ∧ Below w.heap.size w wr ∧ Hid (eqAll intsEq ds1 ds2 = eqAll intsEq (ds1.drop k) (ds2.drop k))) (fun iv _ => ds1.length - (intOf iv).toNat)
      case atStart => exact ⟨0, Nat.zero_le _, rfl, hbx, hby, hbel, rfl⟩
      case round =>
        clear hbx hby hbel
        obtain ⟨k, hk, rfl, hbx, hby, hbel, HI⟩ := hrel
        by_cases hlt : k < ds1.length
        · obtain ⟨x, hx⟩ := some_of_lt hlt
          have hltm : k < ds2.length := by have := HEds1.out; omega
          obtain ⟨y, hy⟩ := some_of_lt hltm
          have HS := Lib.hid (HI.out.trans (eqAll_step _ hx hy))
          obtain ⟨b0, o0, rfl, hb0, hr0⟩ := HDC.out (by omega)
          obtain ⟨rv, hrv, k0⟩ := hr0 k x hx
          obtain ⟨b1, o1, rfl, hb1, hr1⟩ := HDC'.out (by omega)
          obtain ⟨qv, hqv, k1⟩ := hr1 k y hy
          replace k0 := cell_below hbel (Nat.le_refl _) k0
          replace k1 := cell_below hbel (Nat.le_refl _) k1
          have HPV := Lib.hid (hrv.below hbel (Nat.le_refl _))
          have HQV := Lib.hid (hqv.below hbel (Nat.le_refl _))
          obtain ⟨Ap, cp, rfl, -⟩ := hrv.open_
          obtain ⟨Aq, cq, rfl, -⟩ := hqv.open_
          clear hx hy hr0 hr1 hrv hqv
          have hkl : (k : Int) < (ds1.length : Int) := by omega
          have hkm : (k : Int) < (ds2.length : Int) := by omega
          obtain ⟨q0, q1, q2, q3, q4, q5⟩ := hbx.cells6
          by_cases hB : intsEq x y = true
          · have HB := Lib.hid hB
            clear hB
            go_wp2_with fail
            clear q0 q1 q2 q3 q4 q5
            refine wp_region_G (fun wS => Below wr.heap.size wr wS ∧ Blk wS w.heap.size 25 [.int .i64 days1, .int .i64 veh1, .int .i64 cap1, .int .i64 len1, .slice A1 cs1.length c1, .slice (some ⟨b0, o0, none⟩) ds1.length c3] ∧ Blk wS (w.heap.size + 1) 25 [.int .i64 days1, .int .i64 veh1, .int .i64 cap1, .int .i64 len1, .slice A2 cs2.length c2, .slice (some ⟨b1, o1, none⟩) ds2.length c4]) 12 (listed := #[false, false, false, false, false, false, false, false, false, false, false, false]) (by kernel_rfl) ?_ (by kernel_rfl) (by kernel_rfl) ?_
            · exact ⟨(Below.refl _ _).drew, hbx.drew, hby.drew⟩
            refine wpAnyG_take 0 80 (tm' := ?_) (v := ?_) rfl rfl (by kernel_rfl) (by kernel_rfl) (by kernel_rfl) (listed' := #[true, false, false, false, false, false, false, false, false, false, false, false]) (by kernel_rfl) (fun _ _ _ h => h) (wanted_none rfl) ?_ ?_ ?_
            rotate_left 2
            · intro w hSw
              (try dsimp only at hSw)
              go_simp
              try with_reducible rfl
            · simp only [List.setIfInBounds_toArray, List.set_cons_zero, List.set_cons_succ]; with_reducible rfl
            refine wpAnyG_take 1 81 (tm' := ?_) (v := ?_) rfl rfl (by kernel_rfl) (by kernel_rfl) (by kernel_rfl) (listed' := #[true, true, false, false, false, false, false, false, false, false, false, false]) (by kernel_rfl) (fun _ _ _ h => h) (wanted_none rfl) ?_ ?_ ?_
            rotate_left 2
            · intro w hSw
              (try dsimp only at hSw)
              obtain ⟨hbS, hxS, hyS⟩ := hSw
              obtain ⟨q0, q1, q2, q3, q4, q5⟩ := hxS.cells6
              obtain ⟨p0, p1, p2, p3, p4, p5⟩ := hyS.cells6
              go_simp
              try with_reducible rfl
            · simp only [List.setIfInBounds_toArray, List.set_cons_zero, List.set_cons_succ]; with_reducible rfl
            refine wpAnyG_take 2 82 (tm' := ?_) (v := ?_) rfl rfl (by kernel_rfl) (by kernel_rfl) (by kernel_rfl) (listed' := #[true, true, true, false, false, false, false, false, false, false, false, false]) (by kernel_rfl) (fun _ _ _ h => h) (wanted_none rfl) ?_ ?_ ?_
            rotate_left 2
            · intro w hSw
              (try dsimp only at hSw)
              go_simp
              try with_reducible rfl
            · simp only [List.setIfInBounds_toArray, List.set_cons_zero, List.set_cons_succ]; with_reducible rfl
            refine wpAnyG_take 3 83 (tm' := ?_) (v := ?_) rfl rfl (by kernel_rfl) (by kernel_rfl) (by kernel_rfl) (listed' := #[true, true, true, true, false, false, false, false, false, false, false, false]) (by kernel_rfl) (fun _ _ _ h => h) (wanted_none rfl) ?_ ?_ ?_
            rotate_left 2
            · intro w hSw
              (try dsimp only at hSw)
              go_simp
              try with_reducible rfl
            · simp only [List.setIfInBounds_toArray, List.set_cons_zero, List.set_cons_succ]; with_reducible rfl
            refine wpAnyG_take 4 84 (tm' := ?_) (v := ?_) rfl rfl (by kernel_rfl) (by kernel_rfl) (by kernel_rfl) (listed' := #[true, true, true, true, true, false, false, false, false, false, false, false]) (by kernel_rfl) (fun _ _ _ h => h) (wanted_none rfl) ?_ ?_ ?_
            rotate_left 2
            · intro w hSw
              (try dsimp only at hSw)
              obtain ⟨hbS, hxS, hyS⟩ := hSw
              have k0S := cell_below hbS (Nat.le_refl _) k0
              go_simp
              try with_reducible rfl
            · simp only [List.setIfInBounds_toArray, List.set_cons_zero, List.set_cons_succ]; with_reducible rfl
            refine wpAnyG_take 5 85 (tm' := ?_) (v := ?_) rfl rfl (by kernel_rfl) (by kernel_rfl) (by kernel_rfl) (listed' := #[true, true, true, true, true, true, false, false, false, false, false, false]) (by kernel_rfl) (fun _ _ _ h => h) (wanted_none rfl) ?_ ?_ ?_
            rotate_left 2
            · intro w hSw
              (try dsimp only at hSw)
              go_simp
              try with_reducible rfl
            · simp only [List.setIfInBounds_toArray, List.set_cons_zero, List.set_cons_succ]; with_reducible rfl
            refine wpAnyG_take 6 86 (tm' := ?_) (v := ?_) rfl rfl (by kernel_rfl) (by kernel_rfl) (by kernel_rfl) (listed' := #[true, true, true, true, true, true, true, false, false, false, false, false]) (by kernel_rfl) (fun _ _ _ h => h) (wanted_none rfl) ?_ ?_ ?_
            rotate_left 2
            · intro w hSw
              (try dsimp only at hSw)
              obtain ⟨hbS, hxS, hyS⟩ := hSw
              obtain ⟨q0, q1, q2, q3, q4, q5⟩ := hxS.cells6
              obtain ⟨p0, p1, p2, p3, p4, p5⟩ := hyS.cells6
              go_simp
              try with_reducible rfl
            · simp only [List.setIfInBounds_toArray, List.set_cons_zero, List.set_cons_succ]; with_reducible rfl
            refine wpAnyG_take 7 87 (tm' := ?_) (v := ?_) rfl rfl (by kernel_rfl) (by kernel_rfl) (by kernel_rfl) (listed' := #[true, true, true, true, true, true, true, true, false, false, false, false]) (by kernel_rfl) (fun _ _ _ h => h) (wanted_none rfl) ?_ ?_ ?_
            rotate_left 2
            · intro w hSw
              (try dsimp only at hSw)
              go_simp
              try with_reducible rfl
            · simp only [List.setIfInBounds_toArray, List.set_cons_zero, List.set_cons_succ]; with_reducible rfl
            refine wpAnyG_take 8 88 (tm' := ?_) (v := ?_) rfl rfl (by kernel_rfl) (by kernel_rfl) (by kernel_rfl) (listed' := #[true, true, true, true, true, true, true, true, true, false, false, false]) (by kernel_rfl) (fun _ _ _ h => h) (wanted_none rfl) ?_ ?_ ?_
            rotate_left 2
            · intro w hSw
              (try dsimp only at hSw)
              go_simp
              try with_reducible rfl
            · simp only [List.setIfInBounds_toArray, List.set_cons_zero, List.set_cons_succ]; with_reducible rfl
            refine wpAnyG_take 9 89 (tm' := ?_) (v := ?_) rfl rfl (by kernel_rfl) (by kernel_rfl) (by kernel_rfl) (listed' := #[true, true, true, true, true, true, true, true, true, true, false, false]) (by kernel_rfl) (fun _ _ _ h => h) (wanted_none rfl) ?_ ?_ ?_
            rotate_left 2
            · intro w hSw
              (try dsimp only at hSw)
              obtain ⟨hbS, hxS, hyS⟩ := hSw
              have k1S := cell_below hbS (Nat.le_refl _) k1
              go_simp
              try with_reducible rfl
            · simp only [List.setIfInBounds_toArray, List.set_cons_zero, List.set_cons_succ]; with_reducible rfl
            refine wpAnyG_call 10 90 (tm' := ?_) (v := .bool true) (f := ?_) (args := ?_) rfl rfl (by kernel_rfl) (by kernel_rfl) (by kernel_rfl) (listed' := #[true, true, true, true, true, true, true, true, true, true, true, false]) (by kernel_rfl) (fun _ _ _ h => h) (wanted_none rfl) ?_ ?_ ?_ ?_
            rotate_left 3
            · intro w
              go_simp
              first | with_reducible rfl | (constructor <;> with_reducible rfl)
            · intro wS hSw
              obtain ⟨hbS, hxS, hyS⟩ := hSw
              exact (requal_ints _ _ x y _ (HPV.out.below hbS (Nat.le_refl _)) (HQV.out.below hbS (Nat.le_refl _))).mono fun e w' ⟨he, n, hn⟩ => ⟨by rw [he, HB.out], by rw [hn]; exact ⟨below_drewN hbS _, hxS.drewN _, hyS.drewN _⟩⟩
            · simp only [List.setIfInBounds_toArray, List.set_cons_zero, List.set_cons_succ]; with_reducible rfl
            refine wpAnyG_take 11 8 (tm' := ?_) (v := .bool true) rfl rfl (by kernel_rfl) (by kernel_rfl) (by kernel_rfl) (listed' := #[true, true, true, true, true, true, true, true, true, true, true, true]) (by kernel_rfl) (fun _ _ _ h => h) (wanted_none rfl) ?_ ?_ ?_
            rotate_left
            · intro w hSw
              (try dsimp only at hSw)
              go_simp
              try with_reducible rfl
            · simp only [List.setIfInBounds_toArray, List.set_cons_zero, List.set_cons_succ]; with_reducible rfl
            refine wpAnyF_done (by kernel_rfl) ?_
            intro wf hSf

            obtain ⟨hbf, hxf, hyf⟩ := hSf
            go_wp2
            go_roundw
            case rel => exact ⟨k + 1, by omega, by go_num, hxf, hyf, below_nx hbel hbf, by have := HS.out; rw [HB.out, Bool.true_and] at this; exact this⟩
            case measure => simp [intOf]; omega

          · have HB := Lib.hid (show intsEq x y = false by simpa using hB)
            have HF : Hid (sameP ⟨days1, veh1, cap1, len1, cs1, ds1⟩ ⟨days1, veh1, cap1, len1, cs2, ds2⟩ = false) := by
              have := HS.out
              rw [HB.out, Bool.false_and] at this
              exact HT.out.trans (by rw [this, Bool.and_false])
            clear hB
            go_wp2_with fail
            clear q0 q1 q2 q3 q4 q5
            refine wp_region_G (fun wS => Below wr.heap.size wr wS ∧ Blk wS w.heap.size 25 [.int .i64 days1, .int .i64 veh1, .int .i64 cap1, .int .i64 len1, .slice A1 cs1.length c1, .slice (some ⟨b0, o0, none⟩) ds1.length c3] ∧ Blk wS (w.heap.size + 1) 25 [.int .i64 days1, .int .i64 veh1, .int .i64 cap1, .int .i64 len1, .slice A2 cs2.length c2, .slice (some ⟨b1, o1, none⟩) ds2.length c4]) 12 (listed := #[false, false, false, false, false, false, false, false, false, false, false, false]) (by kernel_rfl) ?_ (by kernel_rfl) (by kernel_rfl) ?_
            · exact ⟨(Below.refl _ _).drew, hbx.drew, hby.drew⟩
            refine wpAnyG_take 0 80 (tm' := ?_) (v := ?_) rfl rfl (by kernel_rfl) (by kernel_rfl) (by kernel_rfl) (listed' := #[true, false, false, false, false, false, false, false, false, false, false, false]) (by kernel_rfl) (fun _ _ _ h => h) (wanted_none rfl) ?_ ?_ ?_
            rotate_left 2
            · intro w hSw
              (try dsimp only at hSw)
              go_simp
              try with_reducible rfl
            · simp only [List.setIfInBounds_toArray, List.set_cons_zero, List.set_cons_succ]; with_reducible rfl
            refine wpAnyG_take 1 81 (tm' := ?_) (v := ?_) rfl rfl (by kernel_rfl) (by kernel_rfl) (by kernel_rfl) (listed' := #[true, true, false, false, false, false, false, false, false, false, false, false]) (by kernel_rfl) (fun _ _ _ h => h) (wanted_none rfl) ?_ ?_ ?_
            rotate_left 2
            · intro w hSw
              (try dsimp only at hSw)
              obtain ⟨hbS, hxS, hyS⟩ := hSw
              obtain ⟨q0, q1, q2, q3, q4, q5⟩ := hxS.cells6
              obtain ⟨p0, p1, p2, p3, p4, p5⟩ := hyS.cells6
              go_simp
              try with_reducible rfl
            · simp only [List.setIfInBounds_toArray, List.set_cons_zero, List.set_cons_succ]; with_reducible rfl
            refine wpAnyG_take 2 82 (tm' := ?_) (v := ?_) rfl rfl (by kernel_rfl) (by kernel_rfl) (by kernel_rfl) (listed' := #[true, true, true, false, false, false, false, false, false, false, false, false]) (by kernel_rfl) (fun _ _ _ h => h) (wanted_none rfl) ?_ ?_ ?_
            rotate_left 2
            · intro w hSw
              (try dsimp only at hSw)
              go_simp
              try with_reducible rfl
            · simp only [List.setIfInBounds_toArray, List.set_cons_zero, List.set_cons_succ]; with_reducible rfl
            refine wpAnyG_take 3 83 (tm' := ?_) (v := ?_) rfl rfl (by kernel_rfl) (by kernel_rfl) (by kernel_rfl) (listed' := #[true, true, true, true, false, false, false, false, false, false, false, false]) (by kernel_rfl) (fun _ _ _ h => h) (wanted_none rfl) ?_ ?_ ?_
            rotate_left 2
            · intro w hSw
              (try dsimp only at hSw)
              go_simp
              try with_reducible rfl
            · simp only [List.setIfInBounds_toArray, List.set_cons_zero, List.set_cons_succ]; with_reducible rfl
            refine wpAnyG_take 4 84 (tm' := ?_) (v := ?_) rfl rfl (by kernel_rfl) (by kernel_rfl) (by kernel_rfl) (listed' := #[true, true, true, true, true, false, false, false, false, false, false, false]) (by kernel_rfl) (fun _ _ _ h => h) (wanted_none rfl) ?_ ?_ ?_
            rotate_left 2
            · intro w hSw
              (try dsimp only at hSw)
              obtain ⟨hbS, hxS, hyS⟩ := hSw
              have k0S := cell_below hbS (Nat.le_refl _) k0
              go_simp
              try with_reducible rfl
            · simp only [List.setIfInBounds_toArray, List.set_cons_zero, List.set_cons_succ]; with_reducible rfl
            refine wpAnyG_take 5 85 (tm' := ?_) (v := ?_) rfl rfl (by kernel_rfl) (by kernel_rfl) (by kernel_rfl) (listed' := #[true, true, true, true, true, true, false, false, false, false, false, false]) (by kernel_rfl) (fun _ _ _ h => h) (wanted_none rfl) ?_ ?_ ?_
            rotate_left 2
            · intro w hSw
              (try dsimp only at hSw)
              go_simp
              try with_reducible rfl
            · simp only [List.setIfInBounds_toArray, List.set_cons_zero, List.set_cons_succ]; with_reducible rfl
            refine wpAnyG_take 6 86 (tm' := ?_) (v := ?_) rfl rfl (by kernel_rfl) (by kernel_rfl) (by kernel_rfl) (listed' := #[true, true, true, true, true, true, true, false, false, false, false, false]) (by kernel_rfl) (fun _ _ _ h => h) (wanted_none rfl) ?_ ?_ ?_
            rotate_left 2
            · intro w hSw
              (try dsimp only at hSw)
              obtain ⟨hbS, hxS, hyS⟩ := hSw
              obtain ⟨q0, q1, q2, q3, q4, q5⟩ := hxS.cells6
              obtain ⟨p0, p1, p2, p3, p4, p5⟩ := hyS.cells6
              go_simp
              try with_reducible rfl
            · simp only [List.setIfInBounds_toArray, List.set_cons_zero, List.set_cons_succ]; with_reducible rfl
            refine wpAnyG_take 7 87 (tm' := ?_) (v := ?_) rfl rfl (by kernel_rfl) (by kernel_rfl) (by kernel_rfl) (listed' := #[true, true, true, true, true, true, true, true, false, false, false, false]) (by kernel_rfl) (fun _ _ _ h => h) (wanted_none rfl) ?_ ?_ ?_
            rotate_left 2
            · intro w hSw
              (try dsimp only at hSw)
              go_simp
              try with_reducible rfl
            · simp only [List.setIfInBounds_toArray, List.set_cons_zero, List.set_cons_succ]; with_reducible rfl
            refine wpAnyG_take 8 88 (tm' := ?_) (v := ?_) rfl rfl (by kernel_rfl) (by kernel_rfl) (by kernel_rfl) (listed' := #[true, true, true, true, true, true, true, true, true, false, false, false]) (by kernel_rfl) (fun _ _ _ h => h) (wanted_none rfl) ?_ ?_ ?_
            rotate_left 2
            · intro w hSw
              (try dsimp only at hSw)
              go_simp
              try with_reducible rfl
            · simp only [List.setIfInBounds_toArray, List.set_cons_zero, List.set_cons_succ]; with_reducible rfl
            refine wpAnyG_take 9 89 (tm' := ?_) (v := ?_) rfl rfl (by kernel_rfl) (by kernel_rfl) (by kernel_rfl) (listed' := #[true, true, true, true, true, true, true, true, true, true, false, false]) (by kernel_rfl) (fun _ _ _ h => h) (wanted_none rfl) ?_ ?_ ?_
            rotate_left 2
            · intro w hSw
              (try dsimp only at hSw)
              obtain ⟨hbS, hxS, hyS⟩ := hSw
              have k1S := cell_below hbS (Nat.le_refl _) k1
              go_simp
              try with_reducible rfl
            · simp only [List.setIfInBounds_toArray, List.set_cons_zero, List.set_cons_succ]; with_reducible rfl
            refine wpAnyG_call 10 90 (tm' := ?_) (v := .bool false) (f := ?_) (args := ?_) rfl rfl (by kernel_rfl) (by kernel_rfl) (by kernel_rfl) (listed' := #[true, true, true, true, true, true, true, true, true, true, true, false]) (by kernel_rfl) (fun _ _ _ h => h) (wanted_none rfl) ?_ ?_ ?_ ?_
            rotate_left 3
            · intro w
              go_simp
              first | with_reducible rfl | (constructor <;> with_reducible rfl)
            · intro wS hSw
              obtain ⟨hbS, hxS, hyS⟩ := hSw
              exact (requal_ints _ _ x y _ (HPV.out.below hbS (Nat.le_refl _)) (HQV.out.below hbS (Nat.le_refl _))).mono fun e w' ⟨he, n, hn⟩ => ⟨by rw [he, HB.out], by rw [hn]; exact ⟨below_drewN hbS _, hxS.drewN _, hyS.drewN _⟩⟩
            · simp only [List.setIfInBounds_toArray, List.set_cons_zero, List.set_cons_succ]; with_reducible rfl
            refine wpAnyG_take 11 8 (tm' := ?_) (v := .bool false) rfl rfl (by kernel_rfl) (by kernel_rfl) (by kernel_rfl) (listed' := #[true, true, true, true, true, true, true, true, true, true, true, true]) (by kernel_rfl) (fun _ _ _ h => h) (wanted_none rfl) ?_ ?_ ?_
            rotate_left
            · intro w hSw
              (try dsimp only at hSw)
              go_simp
              try with_reducible rfl
            · simp only [List.setIfInBounds_toArray, List.set_cons_zero, List.set_cons_succ]; with_reducible rfl
            refine wpAnyF_done (by kernel_rfl) ?_
            intro wf hSf

            obtain ⟨hbf, hxf, hyf⟩ := hSf
            go_wp2
            go_ret
            exact ⟨ret_bool HF.out.symm, below_nx hbel hbf⟩

        · have H2 := Lib.hid (HI.out.trans (eqAll_end _ (by omega) (by have := HEds1.out; omega)))
          have hk1 : (ds1.length : Int) ≤ (k : Int) := by omega
          have HF : Hid (sameP ⟨days1, veh1, cap1, len1, cs1, ds1⟩ ⟨days1, veh1, cap1, len1, cs2, ds2⟩ = true) := HT.out.trans (by rw [H1.out, H2.out]; rfl)
          obtain ⟨q0, q1, q2, q3, q4, q5⟩ := hbx.cells6
          clear hlt
          go_wp2
          go_ret
          exact ⟨ret_bool HF.out.symm, hbel⟩
end Go.Proofs.YtigljnnjamdcnaaDoor
