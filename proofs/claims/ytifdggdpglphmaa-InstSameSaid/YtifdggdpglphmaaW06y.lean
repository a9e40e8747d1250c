/- The walks of the comparisons of instances. -/
import Derived.Test.YtifdggdpglphmaaW06x
import Derived.Test.YtifdggdpglphmaaW06o
import Derived.Test.YtifdggdpglphmaaOrdG
namespace Go.Proofs.Ytifdggdpglphmaa
open Go.RowKit P06

set_option maxHeartbeats 2000000 in
theorem equalFunc_custs (v v' : Value) (L M : List Cust) (w : World) (h : RCusts w v L) (h' : RCusts w v' M) :
    Calls Try.prog 29 #[v, v', .func (.func 30) #[] #[]] w fun e w' => e = .returned (.bool (eqAll custEq L M)) ∧ Below w.heap.size w w' := by
  obtain ⟨A, c, rfl, h1, h2, hlc⟩ := h.open_
  obtain ⟨A', c', rfl, h1', h2', hmc⟩ := h'.open_
  have HL := Lib.hid hlc
  have HM := Lib.hid hmc
  clear hlc hmc h h'
  by_cases hlen : L.length = M.length
  rotate_left
  · have H := Lib.hid (eqAll_len custEq L M hlen)
    have hne : ((L.length : Int) != (M.length : Int)) = true := by rw [bne_iff_ne]; omega
    clear hlen
    go_enter Try.func29, Try.ntmps29
    go_wp2
    go_ret
    exact ⟨ret_bool H.out.symm, Below.refl _ _⟩
  · have HE := Lib.hid hlen
    have hne : ((L.length : Int) != (M.length : Int)) = false := by rw [bne_eq_false_iff_eq]; omega
    clear hlen
    go_enter Try.func29, Try.ntmps29
    go_wp2_with fail
    clear hne
    go_loopw [17] (fun iv wr => ∃ k : Nat, k ≤ L.length ∧ iv = .int .i64 k ∧ Below w.heap.size w wr ∧ Hid (eqAll custEq L M = eqAll custEq (L.drop k) (M.drop k))) (fun iv _ => L.length - (intOf iv).toNat)
    case atStart => exact ⟨0, Nat.zero_le _, rfl, Below.refl _ _, rfl⟩
    case round =>
      obtain ⟨k, hk, rfl, hbel, HI⟩ := hrel
      by_cases hlt : k < L.length
      · obtain ⟨x, hx⟩ := some_of_lt hlt
        have hltm : k < M.length := by have := HE.out; omega
        obtain ⟨y, hy⟩ := some_of_lt hltm
        have HS := Lib.hid (HI.out.trans (eqAll_step _ hx hy))
        obtain ⟨b0, o0, rfl, hb0, pv, hpv, k0, k1, k2, k3, k4, k5, k6, k7⟩ := HL.out k x hx
        obtain ⟨b1, o1, rfl, hb1, qv, hqv, l0, l1, l2, l3, l4, l5, l6, l7⟩ := HM.out k y hy
        have hb0' := Nat.lt_of_lt_of_le hb0 hbel.size
        have hb1' := Nat.lt_of_lt_of_le hb1 hbel.size
        replace k0 := cell_below hbel (Nat.le_refl _) k0
        replace k1 := cell_below hbel (Nat.le_refl _) k1
        replace k2 := cell_below hbel (Nat.le_refl _) k2
        replace k3 := cell_below hbel (Nat.le_refl _) k3
        replace k4 := cell_below hbel (Nat.le_refl _) k4
        replace k5 := cell_below hbel (Nat.le_refl _) k5
        replace k6 := cell_below hbel (Nat.le_refl _) k6
        replace k7 := cell_below hbel (Nat.le_refl _) k7
        replace l0 := cell_below hbel (Nat.le_refl _) l0
        replace l1 := cell_below hbel (Nat.le_refl _) l1
        replace l2 := cell_below hbel (Nat.le_refl _) l2
        replace l3 := cell_below hbel (Nat.le_refl _) l3
        replace l4 := cell_below hbel (Nat.le_refl _) l4
        replace l5 := cell_below hbel (Nat.le_refl _) l5
        replace l6 := cell_below hbel (Nat.le_refl _) l6
        replace l7 := cell_below hbel (Nat.le_refl _) l7
        have HPV := Lib.hid (hpv.below hbel (Nat.le_refl _))
        have HQV := Lib.hid (hqv.below hbel (Nat.le_refl _))
        obtain ⟨Ap, cp, rfl, -⟩ := hpv.open_
        obtain ⟨Aq, cq, rfl, -⟩ := hqv.open_
        clear hx hy hpv hqv
        by_cases hB : custEq x y = true
        · have HB := Lib.hid hB
          clear hB
          go_wp2_with fail
          refine (sameCust_any x y _ _ _ (HPV.out.below (((Below.refl wr.heap.size wr).alloc (Nat.le_refl _) _).alloc (by simp) _) (Nat.le_refl _)) (HQV.out.below (((Below.refl wr.heap.size wr).alloc (Nat.le_refl _) _).alloc (by simp) _) (Nat.le_refl _))).mono ?_
          rintro e w3 ⟨rfl, hb3⟩
          rw [HB.out]
          go_wp2
          go_roundw
          case rel => exact ⟨k + 1, by omega, by go_num, below_nx (below_al (below_al hbel _) _) hb3, by have := HS.out; rw [HB.out, Bool.true_and] at this; exact this⟩
          case measure => simp [intOf]; omega
        · have HB := Lib.hid (show custEq x y = false by simpa using hB)
          have HF : Hid (eqAll custEq L M = false) := by
            have := HS.out
            rw [HB.out, Bool.false_and] at this
            exact this
          clear hB
          go_wp2_with fail
          refine (sameCust_any x y _ _ _ (HPV.out.below (((Below.refl wr.heap.size wr).alloc (Nat.le_refl _) _).alloc (by simp) _) (Nat.le_refl _)) (HQV.out.below (((Below.refl wr.heap.size wr).alloc (Nat.le_refl _) _).alloc (by simp) _) (Nat.le_refl _))).mono ?_
          rintro e w3 ⟨rfl, hb3⟩
          rw [HB.out]
          go_wp2
          go_ret
          exact ⟨ret_bool HF.out.symm, below_nx (below_al (below_al hbel _) _) hb3⟩
      · have H := Lib.hid (HI.out.trans (eqAll_end _ (by omega) (by have := HE.out; omega)))
        go_wp2
        go_ret
        exact ⟨ret_bool H.out.symm, hbel⟩

set_option maxHeartbeats 2000000 in
theorem equalFunc_rows (v v' : Value) (L M : List (List Int)) (w : World) (h : RRows w v L) (h' : RRows w v' M) :
    Calls Try.prog 31 #[v, v', .func (.func 32) #[] #[]] w fun e w' => e = .returned (.bool (eqAll intsEq L M)) ∧ ∃ n, w' = w.drewN n := by
  obtain ⟨A, c, rfl, h1, h2, h4⟩ := h
  obtain ⟨A', c', rfl, h1', h2', h4'⟩ := h'
  simp only [maxLen] at h2 h2'
  have HL := Lib.hid h4
  have HM := Lib.hid h4'
  clear h4 h4'
  by_cases hlen : L.length = M.length
  rotate_left
  · have H := Lib.hid (eqAll_len intsEq L M hlen)
    have hne : ((L.length : Int) != (M.length : Int)) = true := by rw [bne_iff_ne]; omega
    clear hlen
    go_enter Try.func31, Try.ntmps31
    go_wp2
    go_ret
    exact ⟨ret_bool H.out.symm, 0, rfl⟩
  · have HE := Lib.hid hlen
    have hne : ((L.length : Int) != (M.length : Int)) = false := by rw [bne_eq_false_iff_eq]; omega
    clear hlen
    go_enter Try.func31, Try.ntmps31
    go_wp2_with fail
    clear hne
    go_loopw [17] (fun iv wr => ∃ (k nd : Nat), k ≤ L.length ∧ iv = .int .i64 k ∧ wr = w.drewN nd ∧ Hid (eqAll intsEq L M = eqAll intsEq (L.drop k) (M.drop k))) (fun iv _ => L.length - (intOf iv).toNat)
    case atStart => exact ⟨0, 0, Nat.zero_le _, rfl, rfl, rfl⟩
    case round =>
      obtain ⟨k, nd, hk, rfl, rfl, HI⟩ := hrel
      by_cases hlt : k < L.length
      · obtain ⟨x, hx⟩ := some_of_lt hlt
        have hltm : k < M.length := by have := HE.out; omega
        obtain ⟨y, hy⟩ := some_of_lt hltm
        have HS := Lib.hid (HI.out.trans (eqAll_step _ hx hy))
        obtain ⟨b0, o0, rfl, hb0, hr0⟩ := HL.out (by omega)
        obtain ⟨rv, hrv, k0⟩ := hr0 k x hx
        obtain ⟨b1, o1, rfl, hb1, hr1⟩ := HM.out (by omega)
        obtain ⟨qv, hqv, k1⟩ := hr1 k y hy
        have HPV := Lib.hid (hrv.below (below_drewN (Below.refl w.heap.size w) nd) (Nat.le_refl _))
        have HQV := Lib.hid (hqv.below (below_drewN (Below.refl w.heap.size w) nd) (Nat.le_refl _))
        clear hx hy hr0 hr1 hrv hqv
        by_cases hB : intsEq x y = true
        · have HB := Lib.hid hB
          clear hB
          go_wp2_with fail
          refine (equal_ints _ _ x y _ HPV.out HQV.out).mono ?_
          rintro e w3 ⟨rfl, n3, rfl⟩
          rw [HB.out, World.drewN_drewN]
          go_wp2
          go_roundw
          case rel => exact ⟨k + 1, _, by omega, by go_num, rfl, by have := HS.out; rw [HB.out, Bool.true_and] at this; exact this⟩
          case measure => simp [intOf]; omega
        · have HB := Lib.hid (show intsEq x y = false by simpa using hB)
          have HF : Hid (eqAll intsEq L M = false) := by
            have := HS.out
            rw [HB.out, Bool.false_and] at this
            exact this
          clear hB
          go_wp2_with fail
          refine (equal_ints _ _ x y _ HPV.out HQV.out).mono ?_
          rintro e w3 ⟨rfl, n3, rfl⟩
          rw [HB.out, World.drewN_drewN]
          go_wp2
          go_ret
          exact ⟨ret_bool HF.out.symm, _, rfl⟩
      · have H := Lib.hid (HI.out.trans (eqAll_end _ (by omega) (by have := HE.out; omega)))
        go_wp2
        go_ret
        exact ⟨ret_bool H.out.symm, _, rfl⟩

set_option maxHeartbeats 1000000 in
theorem same_any (v v' : Value) (x y : Inst) (w : World) (hx : RInst w v x) (hy : RInst w v' y) :
    Calls Try.prog 21 #[v, v'] w fun e w' => e = .returned (.bool (sameP x y)) ∧ Below w.heap.size w w' := by
  obtain ⟨cv, dv, rfl, hc, hd⟩ := hx
  obtain ⟨cv', dv', rfl, hc', hd'⟩ := hy
  obtain ⟨days1, veh1, cap1, len1, cs1, ds1⟩ := x
  obtain ⟨days2, veh2, cap2, len2, cs2, ds2⟩ := y
  simp only at hc hd hc' hd' ⊢
  have HC := Lib.hid hc
  have HC' := Lib.hid hc'
  have HD := Lib.hid hd
  have HD' := Lib.hid hd'
  obtain ⟨A1, c1, rfl, u1, u2, hcc⟩ := hc.open_
  obtain ⟨A2, c2, rfl, u3, u4, hcc'⟩ := hc'.open_
  obtain ⟨A3, c3, rfl, u5, u6, hdc⟩ := hd
  obtain ⟨A4, c4, rfl, u7, u8, hdc'⟩ := hd'
  simp only [maxLen] at u6 u8
  have HCC := Lib.hid hcc
  have HCC' := Lib.hid hcc'
  have HDC := Lib.hid hdc
  have HDC' := Lib.hid hdc'
  clear hc hc' hcc hcc' hdc hdc'
  by_cases e : days1 = days2
  rotate_left
  · have HF := Lib.hid (sameP_f (x := ⟨days1, veh1, cap1, len1, cs1, ds1⟩) (y := ⟨days2, veh2, cap2, len2, cs2, ds2⟩) (fun h => e (by simp only at h; omega)))
    have hne : (days1 == days2) = false := by rw [beq_eq_false_iff_ne]; exact e
    clear e
    go_enter Try.func21, Try.ntmps21
    go_wp2
    go_ret
    exact ⟨ret_bool HF.out.symm, (((Below.refl w.heap.size w).alloc (Nat.le_refl _) _).alloc (by simp) _)⟩
  subst e
  by_cases e : veh1 = veh2
  rotate_left
  · have HF := Lib.hid (sameP_f (x := ⟨days1, veh1, cap1, len1, cs1, ds1⟩) (y := ⟨days1, veh2, cap2, len2, cs2, ds2⟩) (fun h => e (by simp only at h; omega)))
    have hne : (veh1 == veh2) = false := by rw [beq_eq_false_iff_ne]; exact e
    clear e
    go_enter Try.func21, Try.ntmps21
    go_wp2
    go_ret
    exact ⟨ret_bool HF.out.symm, (((Below.refl w.heap.size w).alloc (Nat.le_refl _) _).alloc (by simp) _)⟩
  subst e
  by_cases e : cap1 = cap2
  rotate_left
  · have HF := Lib.hid (sameP_f (x := ⟨days1, veh1, cap1, len1, cs1, ds1⟩) (y := ⟨days1, veh1, cap2, len2, cs2, ds2⟩) (fun h => e (by simp only at h; omega)))
    have hne : (cap1 == cap2) = false := by rw [beq_eq_false_iff_ne]; exact e
    clear e
    go_enter Try.func21, Try.ntmps21
    go_wp2
    go_ret
    exact ⟨ret_bool HF.out.symm, (((Below.refl w.heap.size w).alloc (Nat.le_refl _) _).alloc (by simp) _)⟩
  subst e
  by_cases e : len1 = len2
  rotate_left
  · have HF := Lib.hid (sameP_f (x := ⟨days1, veh1, cap1, len1, cs1, ds1⟩) (y := ⟨days1, veh1, cap1, len2, cs2, ds2⟩) (fun h => e (by simp only at h; omega)))
    have hne : (len1 == len2) = false := by rw [beq_eq_false_iff_ne]; exact e
    clear e
    go_enter Try.func21, Try.ntmps21
    go_wp2
    go_ret
    exact ⟨ret_bool HF.out.symm, (((Below.refl w.heap.size w).alloc (Nat.le_refl _) _).alloc (by simp) _)⟩
  subst e
  have HT := Lib.hid (sameP_t (x := ⟨days1, veh1, cap1, len1, cs1, ds1⟩) (y := ⟨days1, veh1, cap1, len1, cs2, ds2⟩) ⟨rfl, rfl, rfl, rfl⟩)
  by_cases hB : eqAll custEq cs1 cs2 = true
  rotate_left
  · have HB := Lib.hid (show eqAll custEq cs1 cs2 = false by simpa using hB)
    have HF := Lib.hid HT.out
    rw [HB.out, Bool.false_and] at HF
    clear hB
    go_enter Try.func21, Try.ntmps21
    go_wp2_with fail
    refine (equalFunc_custs _ _ cs1 cs2 _ (HC.out.below (((Below.refl w.heap.size w).alloc (Nat.le_refl _) _).alloc (by simp) _) (Nat.le_refl _)) (HC'.out.below (((Below.refl w.heap.size w).alloc (Nat.le_refl _) _).alloc (by simp) _) (Nat.le_refl _))).mono ?_
    rintro e w3 ⟨rfl, hb3⟩
    rw [HB.out]
    go_wp2
    go_ret
    exact ⟨ret_bool HF.out.symm, below_nx (((Below.refl w.heap.size w).alloc (Nat.le_refl _) _).alloc (by simp) _) hb3⟩
  have HB := Lib.hid hB
  clear hB
  have HF := Lib.hid HT.out
  rw [HB.out, Bool.true_and] at HF
  go_enter Try.func21, Try.ntmps21
  go_wp2_with fail
  refine (equalFunc_custs _ _ cs1 cs2 _ (HC.out.below (((Below.refl w.heap.size w).alloc (Nat.le_refl _) _).alloc (by simp) _) (Nat.le_refl _)) (HC'.out.below (((Below.refl w.heap.size w).alloc (Nat.le_refl _) _).alloc (by simp) _) (Nat.le_refl _))).mono ?_
  rintro e w3 ⟨rfl, hb3⟩
  rw [HB.out]
  have hbx := ((Blk.new w 25 [.int .i64 days1, .int .i64 veh1, .int .i64 cap1, .int .i64 len1, .slice A1 cs1.length c1, .slice A3 ds1.length c3]).alloc (.cells #[.int .i64 days1, .int .i64 veh1, .int .i64 cap1, .int .i64 len1, .slice A2 cs2.length c2, .slice A4 ds2.length c4] 25)).below hb3 (by simp; omega)
  have hby := (Blk.newAt (w.alloc (.cells #[.int .i64 days1, .int .i64 veh1, .int .i64 cap1, .int .i64 len1, .slice A1 cs1.length c1, .slice A3 ds1.length c3] 25)) 25 [.int .i64 days1, .int .i64 veh1, .int .i64 cap1, .int .i64 len1, .slice A2 cs2.length c2, .slice A4 ds2.length c4] rfl).below hb3 (by simp)
  simp only [World.size_alloc] at hby
  obtain ⟨q0, q1, q2, q3, q4, q5⟩ := hbx.cells6
  obtain ⟨p0, p1, p2, p3, p4, p5⟩ := hby.cells6
  have k3 := below_nx (((Below.refl w.heap.size w).alloc (Nat.le_refl _) _).alloc (by simp) _) hb3
  go_wp2_with fail
  refine (equalFunc_rows _ _ ds1 ds2 _ (HD.out.below k3 (Nat.le_refl _)) (HD'.out.below k3 (Nat.le_refl _))).mono ?_
  rintro e w4 ⟨rfl, n4, rfl⟩
  generalize eqAll intsEq ds1 ds2 = B at HF ⊢
  go_wp2
  go_ret
  exact ⟨ret_bool HF.out.symm, below_drewN k3 _⟩

end Go.Proofs.Ytifdggdpglphmaa
