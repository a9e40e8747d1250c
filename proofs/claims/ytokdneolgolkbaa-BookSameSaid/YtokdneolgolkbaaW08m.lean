/- The walk of the statement BookSame. -/
import Derived.Test.YtokdneolgolkbaaW08b
import Derived.Test.YtokdneolgolkbaaW08h
import Derived.Test.YtokdneolgolkbaaW08k
import Derived.Test.YtokdneolgolkbaaW08l
import Derived.Test.YtokdneolgolkbaaM08b
import Derived.Test.YtokdneolgolkbaaOrdG
import Derived.Outline
namespace Go.Proofs.Ytokdneolgolkbaa
open Go.RowKit P08

theorem cut_small {q : Pl} (h : Small q) : cutP q = q := by
  unfold cutP
  rw [List.take_of_length_le h.days]
  conv => rhs; rw [← List.map_id q]
  refine List.map_congr_left fun d hd => ?_
  unfold cutD
  rw [List.take_of_length_le (h.tours d hd)]
  show _ = d
  conv => rhs; rw [← List.map_id d]
  refine List.map_congr_left fun t ht => ?_
  exact List.take_of_length_le (h.stops d hd t ht)
theorem cell_off {w : World} {p : Addr} {v u : Value} {b o : Nat} (h : w.cell? ⟨b, o, none⟩ = some v) (hp : b ≠ p.block) : (w.setCell p u).cell? ⟨b, o, none⟩ = some v := by
  rw [cell_same h, if_neg (fun e => hp (by rw [e]))]
set_option maxHeartbeats 8000000 in
set_option maxRecDepth 100000 in
theorem bookSame_any (v v' : Value) (p q : Pl) (w : World) (hp : RPlan w v p) (hq : RPlan w v' q) :
    Calls Try.prog 5 #[v, v'] w fun e w' => e = .returned (.bool true) ∧ Below w.heap.size w w' := by
  have HP := Lib.hid hp
  have HQ := Lib.hid hq
  have HSP := Lib.hid (small_cut p)
  obtain ⟨dv, rfl, hd⟩ := hp
  obtain ⟨A0, c0, rfl, -⟩ := RDays.open_ hd
  obtain ⟨dv', rfl, hd'⟩ := hq
  obtain ⟨A1, c1, rfl, -⟩ := RDays.open_ hd'
  clear hd hd'
  obtain ⟨P, hP⟩ : ∃ q, cutP p = q := ⟨_, rfl⟩
  obtain ⟨Q, hQ⟩ : ∃ r, cutP q = r := ⟨_, rfl⟩
  rw [hP] at HSP
  have HCP := Lib.hid hP
  have HCQ := Lib.hid hQ
  have HCC := Lib.hid (cut_small HSP.out)
  clear hP hQ
  go_enter Try.func5, Try.ntmps5
  go_wp2_with fail
  have k1 := below_al8 (below_al8 (Below.refl w.heap.size w) (.cells #[.slice A0 p.length c0] 24)) (.cells #[.slice A1 q.length c1] 24)
  have x0 : Blk ((w.alloc (.cells #[.slice A0 p.length c0] 24)).alloc (.cells #[.slice A1 q.length c1] 24)) w.heap.size 24 [.slice A0 p.length c0] := (Blk.new w 24 [.slice A0 p.length c0]).alloc (.cells #[.slice A1 q.length c1] 24)
  have x1 : Blk ((w.alloc (.cells #[.slice A0 p.length c0] 24)).alloc (.cells #[.slice A1 q.length c1] 24)) (w.heap.size + 1) 24 [.slice A1 q.length c1] := Blk.newAt' (w.alloc (.cells #[.slice A0 p.length c0] 24)) 24 [.slice A1 q.length c1] (g := w.heap.size + 1) (by simp)
  generalize (w.alloc (.cells #[.slice A0 p.length c0] 24)).alloc (.cells #[.slice A1 q.length c1] 24) = w1 at k1 x0 x1 ⊢
  have z1 := x1.lt
  refine (rcut_any _ p _ (HP.out.below k1 (Nat.le_refl _))).mono ?_
  rintro e w2 ⟨v2, rfl, hown, hb2⟩
  rw [HCP.out] at hown
  obtain ⟨dv2, rfl, hod⟩ := hown
  obtain ⟨A2, c2, rfl, -⟩ := RDays.open_ (ODays.reads hod)
  have y0 := x0.below hb2 x0.lt
  have y1 := x1.below hb2 x1.lt
  have e0 : w2.cell? ⟨w.heap.size, 0, none⟩ = some (.slice A0 p.length c0) := y0.cell 0
  have f0 := y0.frozen 0
  have e1 : w2.cell? ⟨w.heap.size + 1, 0, none⟩ = some (.slice A1 q.length c1) := y1.cell 0
  have f1 := y1.frozen 0
  have y0s := y0.set_ 0 (.slice A2 P.length c2)
  have y1s := y1.far (p := ⟨w.heap.size, 0, none⟩) (by show w.heap.size + 1 ≠ w.heap.size; omega) (.slice A2 P.length c2)
  have hods := ODays.set_low hod (q := ⟨w.heap.size, 0, none⟩) (by show w.heap.size < w1.heap.size; omega) (.slice A2 P.length c2)
  have k2 := (k1.trans (hb2.mono k1.size)).setCell (p := ⟨w.heap.size, 0, none⟩) (Nat.le_refl _) (.slice A2 P.length c2)
  have HODS := Lib.hid hods
  have HY0 := Lib.hid y0s
  have HY1 := Lib.hid y1s
  have HK2 := Lib.hid k2
  clear hod hods k2 y0 y1 x0 x1 y0s y1s
  go_wp2_with fail
  have hsz2 := hb2.size
  have g1 : (w2.setCell ⟨w.heap.size, 0, none⟩ (.slice A2 P.length c2)).heap.size = w2.heap.size := by simp
  clear e0 f0 e1 f1 hb2 k1
  generalize w2.setCell ⟨w.heap.size, 0, none⟩ (.slice A2 P.length c2) = w3 at HODS HY0 HY1 HK2 g1 ⊢
  refine (rcut_any _ q _ (HQ.out.below HK2.out (Nat.le_refl _))).mono ?_
  rintro e w4 ⟨v4, rfl, hown, hb4⟩
  rw [HCQ.out] at hown
  obtain ⟨dv4, rfl, hod⟩ := hown
  obtain ⟨A4, c4, rfl, -⟩ := RDays.open_ (ODays.reads hod)
  have y0 := HY0.out.below hb4 HY0.out.lt
  have y1 := HY1.out.below hb4 HY1.out.lt
  have e0 : w4.cell? ⟨w.heap.size, 0, none⟩ = some (.slice A2 P.length c2) := y0.cell 0
  have e1 : w4.cell? ⟨w.heap.size + 1, 0, none⟩ = some (.slice A1 q.length c1) := y1.cell 0
  have f1 := y1.frozen 0
  have y0s := y0.far (p := ⟨w.heap.size + 1, 0, none⟩) (by show w.heap.size ≠ w.heap.size + 1; omega) (.slice A4 Q.length c4)
  have y1s := y1.set_ 0 (.slice A4 Q.length c4)
  have hodq := ODays.reads (ODays.set_low hod (q := ⟨w.heap.size + 1, 0, none⟩) (by show w.heap.size + 1 < w3.heap.size; omega) (.slice A4 Q.length c4))
  have hodp := ODays.reads (ODays.set_low (ODays.below HODS.out hb4 (Nat.le_refl _)) (q := ⟨w.heap.size + 1, 0, none⟩) (by show w.heap.size + 1 < w1.heap.size; omega) (.slice A4 Q.length c4))
  have k4 := (HK2.out.trans (hb4.mono HK2.out.size)).setCell (p := ⟨w.heap.size + 1, 0, none⟩) (by show w.heap.size ≤ w.heap.size + 1; omega) (.slice A4 Q.length c4)
  have HQ5 := Lib.hid hodq
  have HP5 := Lib.hid hodp
  have HZ0 := Lib.hid y0s
  have HZ1 := Lib.hid y1s
  have HK4 := Lib.hid k4
  have hsz4 := hb4.size
  have g2 : (w4.setCell ⟨w.heap.size + 1, 0, none⟩ (.slice A4 Q.length c4)).heap.size = w4.heap.size := by simp
  have e2 : (w4.setCell ⟨w.heap.size + 1, 0, none⟩ (.slice A4 Q.length c4)).cell? ⟨w.heap.size, 0, none⟩ = some (.slice A2 P.length c2) := HZ0.out.cell 0
  have HE2 := Lib.hid e2
  clear hod hodq hodp y0 y1 y0s y1s k4 HODS HY0 HY1 HK2 hb4 e2
  go_wp2_with fail
  clear e0 e1 f1
  generalize w4.setCell ⟨w.heap.size + 1, 0, none⟩ (.slice A4 Q.length c4) = w5 at HQ5 HP5 HZ0 HZ1 HK4 g2 HE2 ⊢
  refine (clone8_any _ P w5 ⟨_, rfl, HP5.out⟩ HSP.out).mono ?_
  rintro e w6 ⟨v6, rfl, hown, hb6⟩
  obtain ⟨dv6, rfl, hod6⟩ := hown
  have hwd := WDays.of_own hod6
  have hcr := ODays.reads hod6
  obtain ⟨A5, c5, rfl, -⟩ := RDays.open_ hcr
  have u0 := HZ0.out.below hb6 HZ0.out.lt
  have u1 := HZ1.out.below hb6 HZ1.out.lt
  have e0 : w6.cell? ⟨w.heap.size, 0, none⟩ = some (.slice A2 P.length c2) := u0.cell 0
  have hs6 := hb6.size
  have zz := u1.lt
  have zz0 := u0.lt
  have HWD := Lib.hid hwd
  have HCR := Lib.hid hcr
  have hp6 := RDays.below HP5.out hb6 (Nat.le_refl _)
  have HP6 := Lib.hid hp6
  have HQ6 := Lib.hid (RDays.below HQ5.out hb6 (Nat.le_refl _))
  have k6 := HK4.out.trans (hb6.mono HK4.out.size)
  clear hod6 hwd hcr hp6 HQ5
  go_wp2_with fail
  have k7 := below_al8 (Below.refl w6.heap.size w6) (.cells #[.slice A5 P.length c5] 24)
  refine (rcut_any _ P _ ⟨_, rfl, RDays.below HP6.out k7 (Nat.le_refl _)⟩).mono ?_
  rintro e w8 ⟨v8, rfl, hown, hb8⟩
  rw [HCC.out] at hown
  obtain ⟨dv8, rfl, hod8⟩ := hown
  rw [World.size_alloc] at hod8
  obtain ⟨A6, c6, rfl, -⟩ := RDays.open_ (ODays.reads hod8)
  have k68 := below_nx8 k7 hb8
  have hs8 := k68.size
  have hx5 : Blk w8 w6.heap.size 24 [.slice A5 P.length c5] := (Blk.new w6 _ _).below hb8 (by simp)
  have hl5 := hx5.lt
  have hl0 : w.heap.size < w8.heap.size := by omega
  have hl1 : w.heap.size + 1 < w8.heap.size := by omega
  have e1 : w8.cell? ⟨w.heap.size, 0, none⟩ = some (.slice A2 P.length c2) := (u0.below k68 u0.lt).cell 0
  have HX5 := Lib.hid (hx5.alloc (.cells #[.slice A6 P.length c6] 24))
  have HX6 := Lib.hid (Blk.new w8 24 [.slice A6 P.length c6])
  have k89 := k68.alloc hs8 (.cells #[.slice A6 P.length c6] 24)
  have HX2 : Hid (Blk (w8.alloc (.cells #[.slice A6 P.length c6] 24)) w.heap.size 24 [.slice A2 P.length c2]) := u0.below k89 u0.lt
  have HX3 : Hid (Blk (w8.alloc (.cells #[.slice A6 P.length c6] 24)) (w.heap.size + 1) 24 [.slice A4 Q.length c4]) := u1.below k89 u1.lt
  have HP9 := Lib.hid (RDays.below HP6.out k89 (Nat.le_refl _))
  have HQ9 := Lib.hid (RDays.below HQ6.out k89 (Nat.le_refl _))
  have HC9 := Lib.hid (RDays.below HCR.out k89 (Nat.le_refl _))
  have HW9 := Lib.hid (WDays.below HWD.out k89)
  have HK9 := Lib.hid (ODays.below hod8 (below_al8 (Below.refl w8.heap.size w8) (.cells #[.slice A6 P.length c6] 24)) (Nat.le_refl _))
  have HKK := Lib.hid (k6.trans (k89.mono k6.size))
  have HRE := Lib.hid (plEq_refl P)
  have HB59 := Lib.hid (hb6.trans (k89.mono hs6))
  obtain ⟨B, hB⟩ : ∃ b, plEq P Q = b := ⟨_, rfl⟩
  have HEQ := Lib.hid hB
  have hg9 : (w8.alloc (.cells #[.slice A6 P.length c6] 24)).heap.size = w8.heap.size + 1 := by simp
  clear hB hod8 u0 u1 k7 hb8 hx5 HP6 HQ6 HCR HWD HZ0 HZ1 HK4 k6 hb6 e0 e1 HE2
  go_wp2_with fail
  generalize w8.alloc (.cells #[.slice A6 P.length c6] 24) = w9 at HX5 HX6 k89 HX2 HX3 HP9 HQ9 HC9 HW9 HK9 HKK HB59 hg9 ⊢
  refine wp_region_G (fun wS => Below w9.heap.size w9 wS) 19 (listed := #[false, false, false, false, false, false, false, false, false, false, false, false, false, false, false, false, false, false, false]) (by kernel_rfl) ?_ (by kernel_rfl) (by kernel_rfl) ?_
  · exact (Below.refl _ _).drew
  refine wpAnyG_take 0 18 (tm' := ?_) (v := ?_) rfl rfl (by kernel_rfl) (by kernel_rfl) (by kernel_rfl) (listed' := #[true, false, false, false, false, false, false, false, false, false, false, false, false, false, false, false, false, false, false]) (by kernel_rfl) (fun _ _ _ h => h) (wanted_none rfl) ?_ ?_ ?_
  rotate_left 2
  · intro w hSw
    (try dsimp only at hSw)
    have hc := (HX2.out.below hSw HX2.out.lt).cell 0
    simp only [List.getElem?_cons_zero] at hc
    go_simp
    try with_reducible rfl
  · simp only [List.setIfInBounds_toArray, List.set_cons_zero, List.set_cons_succ]; with_reducible rfl
  refine wpAnyG_take 1 19 (tm' := ?_) (v := ?_) rfl rfl (by kernel_rfl) (by kernel_rfl) (by kernel_rfl) (listed' := #[true, true, false, false, false, false, false, false, false, false, false, false, false, false, false, false, false, false, false]) (by kernel_rfl) (fun _ _ _ h => h) (wanted_none rfl) ?_ ?_ ?_
  rotate_left 2
  · intro w hSw
    (try dsimp only at hSw)
    have hc := (HX3.out.below hSw HX3.out.lt).cell 0
    simp only [List.getElem?_cons_zero] at hc
    go_simp
    try with_reducible rfl
  · simp only [List.setIfInBounds_toArray, List.set_cons_zero, List.set_cons_succ]; with_reducible rfl
  refine wpAnyG_call 2 20 (tm' := ?_) (v := .bool B) (f := ?_) (args := ?_) rfl rfl (by kernel_rfl) (by kernel_rfl) (by kernel_rfl) (listed' := #[true, true, true, false, false, false, false, false, false, false, false, false, false, false, false, false, false, false, false]) (by kernel_rfl) (fun _ _ _ h => h) (wanted_none rfl) ?_ ?_ ?_ ?_
  rotate_left 3
  · intro w
    go_simp
    first | with_reducible rfl | (constructor <;> with_reducible rfl)
  · intro wS hSw
    exact (same8_any _ _ P Q _ ⟨_, rfl, RDays.below HP9.out hSw (Nat.le_refl _)⟩ ⟨_, rfl, RDays.below HQ9.out hSw (Nat.le_refl _)⟩).mono fun e w' ⟨he, hb⟩ => ⟨by rw [he, HEQ.out], hSw.trans (hb.mono hSw.size)⟩
  · simp only [List.setIfInBounds_toArray, List.set_cons_zero, List.set_cons_succ]; with_reducible rfl
  refine wpAnyG_take 3 21 (tm' := ?_) (v := ?_) rfl rfl (by kernel_rfl) (by kernel_rfl) (by kernel_rfl) (listed' := #[true, true, true, true, false, false, false, false, false, false, false, false, false, false, false, false, false, false, false]) (by kernel_rfl) (fun _ _ _ h => h) (wanted_none rfl) ?_ ?_ ?_
  rotate_left 2
  · intro w hSw
    (try dsimp only at hSw)
    have hc := (HX2.out.below hSw HX2.out.lt).cell 0
    simp only [List.getElem?_cons_zero] at hc
    go_simp
    try with_reducible rfl
  · simp only [List.setIfInBounds_toArray, List.set_cons_zero, List.set_cons_succ]; with_reducible rfl
  refine wpAnyG_take 4 22 (tm' := ?_) (v := ?_) rfl rfl (by kernel_rfl) (by kernel_rfl) (by kernel_rfl) (listed' := #[true, true, true, true, true, false, false, false, false, false, false, false, false, false, false, false, false, false, false]) (by kernel_rfl) (fun _ _ _ h => h) (wanted_none rfl) ?_ ?_ ?_
  rotate_left 2
  · intro w hSw
    (try dsimp only at hSw)
    have hc := (HX3.out.below hSw HX3.out.lt).cell 0
    simp only [List.getElem?_cons_zero] at hc
    go_simp
    try with_reducible rfl
  · simp only [List.setIfInBounds_toArray, List.set_cons_zero, List.set_cons_succ]; with_reducible rfl
  refine wpAnyG_call 5 23 (tm' := ?_) (v := .bool B) (f := ?_) (args := ?_) rfl rfl (by kernel_rfl) (by kernel_rfl) (by kernel_rfl) (listed' := #[true, true, true, true, true, true, false, false, false, false, false, false, false, false, false, false, false, false, false]) (by kernel_rfl) (fun _ _ _ h => h) (wanted_none rfl) ?_ ?_ ?_ ?_
  rotate_left 3
  · intro w
    go_simp
    first | with_reducible rfl | (constructor <;> with_reducible rfl)
  · intro wS hSw
    exact (rsame8_any _ _ P Q _ ⟨_, rfl, RDays.below HP9.out hSw (Nat.le_refl _)⟩ ⟨_, rfl, RDays.below HQ9.out hSw (Nat.le_refl _)⟩).mono fun e w' ⟨he, hb⟩ => ⟨by rw [he, HEQ.out], hSw.trans (hb.mono hSw.size)⟩
  · simp only [List.setIfInBounds_toArray, List.set_cons_zero, List.set_cons_succ]; with_reducible rfl
  refine wpAnyG_take 6 24 (tm' := ?_) (v := .bool false) rfl rfl (by kernel_rfl) (by kernel_rfl) (by kernel_rfl) (listed' := #[true, true, true, true, true, true, true, false, false, false, false, false, false, false, false, false, false, false, false]) (by kernel_rfl) (fun _ _ _ h => h) (wanted_none rfl) ?_ ?_ ?_
  rotate_left
  · intro w hSw
    (try dsimp only at hSw)
    go_simp
    try with_reducible rfl
  · simp only [List.setIfInBounds_toArray, List.set_cons_zero, List.set_cons_succ]; with_reducible rfl
  refine wpAnyG_take 7 25 (tm' := ?_) (v := ?_) rfl rfl (by kernel_rfl) (by kernel_rfl) (by kernel_rfl) (listed' := #[true, true, true, true, true, true, true, true, false, false, false, false, false, false, false, false, false, false, false]) (by kernel_rfl) (fun _ _ _ h => h) (wanted_none rfl) ?_ ?_ ?_
  rotate_left 2
  · intro w hSw
    (try dsimp only at hSw)
    go_simp
    try with_reducible rfl
  · simp only [List.setIfInBounds_toArray, List.set_cons_zero, List.set_cons_succ]; with_reducible rfl
  refine wpAnyG_take 8 26 (tm' := ?_) (v := ?_) rfl rfl (by kernel_rfl) (by kernel_rfl) (by kernel_rfl) (listed' := #[true, true, true, true, true, true, true, true, true, false, false, false, false, false, false, false, false, false, false]) (by kernel_rfl) (fun _ _ _ h => h) (wanted_yes 7 25 false rfl rfl rfl) ?_ ?_ ?_
  rotate_left 2
  · intro w hSw
    (try dsimp only at hSw)
    have hc := (HX2.out.below hSw HX2.out.lt).cell 0
    simp only [List.getElem?_cons_zero] at hc
    go_simp
    try with_reducible rfl
  · simp only [List.setIfInBounds_toArray, List.set_cons_zero, List.set_cons_succ]; with_reducible rfl
  refine wpAnyG_take 9 27 (tm' := ?_) (v := ?_) rfl rfl (by kernel_rfl) (by kernel_rfl) (by kernel_rfl) (listed' := #[true, true, true, true, true, true, true, true, true, true, false, false, false, false, false, false, false, false, false]) (by kernel_rfl) (fun _ _ _ h => h) (wanted_yes 7 25 false rfl rfl rfl) ?_ ?_ ?_
  rotate_left 2
  · intro w hSw
    (try dsimp only at hSw)
    have hc := (HX5.out.below hSw HX5.out.lt).cell 0
    simp only [List.getElem?_cons_zero] at hc
    go_simp
    try with_reducible rfl
  · simp only [List.setIfInBounds_toArray, List.set_cons_zero, List.set_cons_succ]; with_reducible rfl
  refine wpAnyG_call 10 28 (tm' := ?_) (v := .bool true) (f := ?_) (args := ?_) rfl rfl (by kernel_rfl) (by kernel_rfl) (by kernel_rfl) (listed' := #[true, true, true, true, true, true, true, true, true, true, true, false, false, false, false, false, false, false, false]) (by kernel_rfl) (fun _ _ _ h => h) (wanted_yes 7 25 false rfl rfl rfl) ?_ ?_ ?_ ?_
  rotate_left 3
  · intro w
    go_simp
    first | with_reducible rfl | (constructor <;> with_reducible rfl)
  · intro wS hSw
    exact (same8_any _ _ P P _ ⟨_, rfl, RDays.below HP9.out hSw (Nat.le_refl _)⟩ ⟨_, rfl, RDays.below HC9.out hSw (Nat.le_refl _)⟩).mono fun e w' ⟨he, hb⟩ => ⟨by rw [he, HRE.out], hSw.trans (hb.mono hSw.size)⟩
  · simp only [List.setIfInBounds_toArray, List.set_cons_zero, List.set_cons_succ]; with_reducible rfl
  refine wpAnyG_take 11 29 (tm' := ?_) (v := ?_) rfl rfl (by kernel_rfl) (by kernel_rfl) (by kernel_rfl) (listed' := #[true, true, true, true, true, true, true, true, true, true, true, true, false, false, false, false, false, false, false]) (by kernel_rfl) (fun _ _ _ h => h) (wanted_yes 7 25 false rfl rfl rfl) ?_ ?_ ?_
  rotate_left 2
  · intro w hSw
    (try dsimp only at hSw)
    go_simp
    try with_reducible rfl
  · simp only [List.setIfInBounds_toArray, List.set_cons_zero, List.set_cons_succ]; with_reducible rfl
  refine wpAnyG_take 12 30 (tm' := ?_) (v := ?_) rfl rfl (by kernel_rfl) (by kernel_rfl) (by kernel_rfl) (listed' := #[true, true, true, true, true, true, true, true, true, true, true, true, true, false, false, false, false, false, false]) (by kernel_rfl) (fun _ _ _ h => h) (wanted_none rfl) ?_ ?_ ?_
  rotate_left 2
  · intro w hSw
    (try dsimp only at hSw)
    go_simp
    try with_reducible rfl
  · simp only [List.setIfInBounds_toArray, List.set_cons_zero, List.set_cons_succ]; with_reducible rfl
  refine wpAnyG_take 13 31 (tm' := ?_) (v := ?_) rfl rfl (by kernel_rfl) (by kernel_rfl) (by kernel_rfl) (listed' := #[true, true, true, true, true, true, true, true, true, true, true, true, true, true, false, false, false, false, false]) (by kernel_rfl) (fun _ _ _ h => h) (wanted_none rfl) ?_ ?_ ?_
  rotate_left 2
  · intro w hSw
    (try dsimp only at hSw)
    go_simp
    try with_reducible rfl
  · simp only [List.setIfInBounds_toArray, List.set_cons_zero, List.set_cons_succ]; with_reducible rfl
  refine wpAnyG_take 14 32 (tm' := ?_) (v := ?_) rfl rfl (by kernel_rfl) (by kernel_rfl) (by kernel_rfl) (listed' := #[true, true, true, true, true, true, true, true, true, true, true, true, true, true, true, false, false, false, false]) (by kernel_rfl) (fun _ _ _ h => h) (wanted_yes 13 31 false rfl rfl rfl) ?_ ?_ ?_
  rotate_left 2
  · intro w hSw
    (try dsimp only at hSw)
    have hc := (HX2.out.below hSw HX2.out.lt).cell 0
    simp only [List.getElem?_cons_zero] at hc
    go_simp
    try with_reducible rfl
  · simp only [List.setIfInBounds_toArray, List.set_cons_zero, List.set_cons_succ]; with_reducible rfl
  refine wpAnyG_take 15 33 (tm' := ?_) (v := ?_) rfl rfl (by kernel_rfl) (by kernel_rfl) (by kernel_rfl) (listed' := #[true, true, true, true, true, true, true, true, true, true, true, true, true, true, true, true, false, false, false]) (by kernel_rfl) (fun _ _ _ h => h) (wanted_yes 13 31 false rfl rfl rfl) ?_ ?_ ?_
  rotate_left 2
  · intro w hSw
    (try dsimp only at hSw)
    have hc := (HX5.out.below hSw HX5.out.lt).cell 0
    simp only [List.getElem?_cons_zero] at hc
    go_simp
    try with_reducible rfl
  · simp only [List.setIfInBounds_toArray, List.set_cons_zero, List.set_cons_succ]; with_reducible rfl
  refine wpAnyG_call 16 34 (tm' := ?_) (v := .bool true) (f := ?_) (args := ?_) rfl rfl (by kernel_rfl) (by kernel_rfl) (by kernel_rfl) (listed' := #[true, true, true, true, true, true, true, true, true, true, true, true, true, true, true, true, true, false, false]) (by kernel_rfl) (fun _ _ _ h => h) (wanted_yes 13 31 false rfl rfl rfl) ?_ ?_ ?_ ?_
  rotate_left 3
  · intro w
    go_simp
    first | with_reducible rfl | (constructor <;> with_reducible rfl)
  · intro wS hSw
    exact (rsame8_any _ _ P P _ ⟨_, rfl, RDays.below HP9.out hSw (Nat.le_refl _)⟩ ⟨_, rfl, RDays.below HC9.out hSw (Nat.le_refl _)⟩).mono fun e w' ⟨he, hb⟩ => ⟨by rw [he, HRE.out], hSw.trans (hb.mono hSw.size)⟩
  · simp only [List.setIfInBounds_toArray, List.set_cons_zero, List.set_cons_succ]; with_reducible rfl
  refine wpAnyG_take 17 35 (tm' := ?_) (v := ?_) rfl rfl (by kernel_rfl) (by kernel_rfl) (by kernel_rfl) (listed' := #[true, true, true, true, true, true, true, true, true, true, true, true, true, true, true, true, true, true, false]) (by kernel_rfl) (fun _ _ _ h => h) (wanted_yes 13 31 false rfl rfl rfl) ?_ ?_ ?_
  rotate_left 2
  · intro w hSw
    (try dsimp only at hSw)
    go_simp
    try with_reducible rfl
  · simp only [List.setIfInBounds_toArray, List.set_cons_zero, List.set_cons_succ]; with_reducible rfl
  refine wpAnyG_take 18 36 (tm' := ?_) (v := ?_) rfl rfl (by kernel_rfl) (by kernel_rfl) (by kernel_rfl) (listed' := #[true, true, true, true, true, true, true, true, true, true, true, true, true, true, true, true, true, true, true]) (by kernel_rfl) (fun _ _ _ h => h) (wanted_none rfl) ?_ ?_ ?_
  rotate_left 2
  · intro w hSw
    (try dsimp only at hSw)
    go_simp
    try with_reducible rfl
  · simp only [List.setIfInBounds_toArray, List.set_cons_zero, List.set_cons_succ]; with_reducible rfl
  refine wpAnyF_done (by kernel_rfl) ?_
  intro wf hSf
  have hx5 := HX5.out.below hSf HX5.out.lt
  have hx6 := HX6.out.below hSf HX6.out.lt
  have hx2 := HX2.out.below hSf HX2.out.lt
  have hwd := WDays.below HW9.out (hSf.mono (by omega))
  have HKf := Lib.hid (ODays.below HK9.out hSf (Nat.le_refl _))
  have HB5 := Lib.hid (HB59.out.trans (hSf.mono (Nat.le_trans HB59.out.size (Nat.le_refl _))))
  have HKKf := Lib.hid (HKK.out.trans (hSf.mono HKK.out.size))
  have hsf := hSf.size
  have HX2f := Lib.hid hx2
  clear HX5 HX6 HX2 HX3 HP9 HQ9 HC9 HW9 HK9 HKK k89 hx2 hSf
  go_wp2_with fail
  go_loopw [7] (fun iv wr => ∃ k : Nat, k ≤ P.length ∧ iv = .int .i64 k ∧ Blk wr w6.heap.size 24 [.slice A5 P.length c5] ∧ WDays w5.heap.size w6.heap.size wr (.slice A5 P.length c5) P.length ∧ Hid (ODays (w6.heap.size + 1) 32 36 38 wr (.slice A6 P.length c6) P) ∧ Blk wr w8.heap.size 24 [.slice A6 P.length c6] ∧ Below w5.heap.size wf wr) (fun iv _ => P.length - (intOf iv).toNat)
  case atStart => exact ⟨0, Nat.zero_le _, rfl, hx5, hwd, HKf, hx6, Below.refl _ _⟩
  case round =>
    clear hx5 hx6 hwd HKf
    obtain ⟨k, hk, rfl, h5, hw, HK, h6, hbel⟩ := hrel
    have c5c : wr.cell? ⟨w6.heap.size, 0, none⟩ = some (.slice A5 P.length c5) := h5.cell 0
    by_cases hlt : k < P.length
    · obtain ⟨A7, c7, hv, n1, n2, n3⟩ := hw
      injection hv with hv1 _ hv3
      subst hv1; subst hv3
      obtain ⟨b, o, rfl, hbl, hbu, hty, hel⟩ := n3 (by omega)
      obtain ⟨kf, rv, m, hrm, kc⟩ := hel k hlt
      obtain ⟨A8, c8, rfl⟩ := WLists.slice hrm
      have hw' : WDays w5.heap.size w6.heap.size wr (.slice (some ⟨b, o, none⟩) P.length c5) P.length := ⟨_, _, rfl, n1, n2, n3⟩
      clear hel n3
      go_wp2_with fail
      go_loopw [8] (fun jv wr => ∃ j : Nat, j ≤ m ∧ jv = .int .i64 j ∧ wr.cell? ⟨b, o + k, none⟩ = some (.slice A8 m c8) ∧ wr.frozen? ⟨b, o + k, none⟩ = false ∧ TyAt wr b 32 ∧ WTours w5.heap.size w6.heap.size wr (.slice A8 m c8) m ∧ Blk wr w6.heap.size 24 [.slice (some ⟨b, o, none⟩) P.length c5] ∧ WDays w5.heap.size w6.heap.size wr (.slice (some ⟨b, o, none⟩) P.length c5) P.length ∧ Hid (ODays (w6.heap.size + 1) 32 36 38 wr (.slice A6 P.length c6) P) ∧ Blk wr w8.heap.size 24 [.slice A6 P.length c6] ∧ Below w5.heap.size wf wr) (fun jv _ => m - (intOf jv).toNat)
      case atStart => exact ⟨0, Nat.zero_le _, rfl, kc, kf, hty, hrm, h5, hw', HK, h6, hbel⟩
      case round =>
        clear kc kf hty hrm h5 hw' HK h6 hbel c5c
        obtain ⟨j, hj, rfl, kc, kf, hty, hrm, h5, hw, HK, h6, hbel⟩ := hrel
        have c5c : wr.cell? ⟨w6.heap.size, 0, none⟩ = some (.slice (some ⟨b, o, none⟩) P.length c5) := h5.cell 0
        by_cases hlt2 : j < m
        · obtain ⟨A9, c9, hv, q1, q2, q3⟩ := hrm
          injection hv with hv1 _ hv3
          subst hv1; subst hv3
          obtain ⟨b2, o2, rfl, hbl2, hbu2, hty2, hel2⟩ := q3 (by omega)
          obtain ⟨kf2, rv2, m2, hrm2, kc2⟩ := hel2 j hlt2
          obtain ⟨A10, c10, rfl⟩ := WStops.slice hrm2
          have hrm' : WTours w5.heap.size w6.heap.size wr (.slice (some ⟨b2, o2, none⟩) m c8) m := ⟨_, _, rfl, q1, q2, q3⟩
          have hne := hty.ne hty2 (by decide)
          clear hel2 q3
          go_wp2_with fail
          go_loopw [9] (fun iv wr => ∃ i : Nat, i ≤ m2 ∧ iv = .int .i64 i ∧ wr.cell? ⟨b2, o2 + j, none⟩ = some (.slice A10 m2 c10) ∧ wr.frozen? ⟨b2, o2 + j, none⟩ = false ∧ WStops w5.heap.size w6.heap.size wr (.slice A10 m2 c10) m2 ∧
              wr.cell? ⟨b, o + k, none⟩ = some (.slice (some ⟨b2, o2, none⟩) m c8) ∧ wr.frozen? ⟨b, o + k, none⟩ = false ∧ TyAt wr b 32 ∧ WTours w5.heap.size w6.heap.size wr (.slice (some ⟨b2, o2, none⟩) m c8) m ∧ Blk wr w6.heap.size 24 [.slice (some ⟨b, o, none⟩) P.length c5] ∧ WDays w5.heap.size w6.heap.size wr (.slice (some ⟨b, o, none⟩) P.length c5) P.length ∧ Hid (ODays (w6.heap.size + 1) 32 36 38 wr (.slice A6 P.length c6) P) ∧ Blk wr w8.heap.size 24 [.slice A6 P.length c6] ∧ Below w5.heap.size wf wr) (fun iv _ => m2 - (intOf iv).toNat)
          case atStart => exact ⟨0, Nat.zero_le _, rfl, kc2, kf2, hrm2, kc, kf, hty, hrm', h5, hw, HK, h6, hbel⟩
          case round =>
            clear kc2 kf2 hrm2 kc kf hty hrm' h5 hw HK h6 hbel c5c hty2
            obtain ⟨i, hi, rfl, kc2, kf2, hrm2, kc, kf, hty, hrm, h5, hw, HK, h6, hbel⟩ := hrel
            have c5c : wr.cell? ⟨w6.heap.size, 0, none⟩ = some (.slice (some ⟨b, o, none⟩) P.length c5) := h5.cell 0
            by_cases hlt3 : i < m2
            · obtain ⟨A11, c11, hv, r1, r2, r3⟩ := hrm2
              injection hv with hv1 _ hv3
              subst hv1; subst hv3
              obtain ⟨b3, o3, rfl, hbl3, hbu3, hel3⟩ := r3 (by omega)
              obtain ⟨⟨z, kc3⟩, kf3⟩ := hel3 i hlt3
              have hrm2' : WStops w5.heap.size w6.heap.size wr (.slice (some ⟨b3, o3, none⟩) m2 c10) m2 := ⟨_, _, rfl, r1, r2, r3⟩
              clear hel3 r3
              go_wp2_with fail
              go_roundw
              case rel =>
                exact ⟨i + 1, by omega, by go_num, cell_else kc2 kc3 (by intro e; cases e), by rw [World.frozen?_setCell]; exact kf2, hrm2'.set_int kc3, cell_else kc kc3 (by intro e; cases e), by rw [World.frozen?_setCell]; exact kf, hty.set _ _, hrm.set_int kc3,
                  h5.far (p := ⟨b3, o3 + i * 2 + 1, none⟩) (by show w6.heap.size ≠ b3; omega) _, hw.set_int kc3, ODays.set_low HK.out (by show b3 < w6.heap.size + 1; omega) _, h6.far (p := ⟨b3, o3 + i * 2 + 1, none⟩) (by show w8.heap.size ≠ b3; omega) _, hbel.setCell (p := ⟨b3, o3 + i * 2 + 1, none⟩) hbl3 _⟩
              case measure => simp [intOf]; omega
            · obtain rfl : i = m2 := by omega
              go_wp2_with fail
              go_roundw
              case rel =>
                exact ⟨j + 1, by omega, by go_num, cell_off kc (show b ≠ b2 from hne), by rw [World.frozen?_setCell]; exact kf, hty.set _ _, hrm.set_nil kc2,
                  h5.far (p := ⟨b2, o2 + j, none⟩) (by show w6.heap.size ≠ b2; omega) _, hw.set_nil kc2, ODays.set_low HK.out (by show b2 < w6.heap.size + 1; omega) _, h6.far (p := ⟨b2, o2 + j, none⟩) (by show w8.heap.size ≠ b2; omega) _, hbel.setCell (p := ⟨b2, o2 + j, none⟩) hbl2 _⟩
              case measure => simp [intOf]; omega
        · obtain rfl : j = m := by omega
          go_wp2_with fail
          go_roundw
          case rel =>
            exact ⟨k + 1, by omega, by go_num, h5.far (p := ⟨b, o + k, none⟩) (by show w6.heap.size ≠ b; omega) _, hw.set_nil kc, ODays.set_low HK.out (by show b < w6.heap.size + 1; omega) _, h6.far (p := ⟨b, o + k, none⟩) (by show w8.heap.size ≠ b; omega) _, hbel.setCell (p := ⟨b, o + k, none⟩) hbl _⟩
          case measure => simp [intOf]; omega
    · obtain rfl : k = P.length := by omega
      have b2 := HX2f.out.below hbel (by omega)
      have l2 : wr.cell? ⟨w.heap.size, 0, none⟩ = some (.slice A2 P.length c2) := b2.cell 0
      have l6 : wr.cell? ⟨w8.heap.size, 0, none⟩ = some (.slice A6 P.length c6) := h6.cell 0
      have kf := HKKf.out.trans (hbel.mono (by omega))
      go_wp2_with fail
      refine (rsame8_any _ _ P P wr ⟨_, rfl, RDays.below HP5.out (HB5.out.trans hbel) (Nat.le_refl _)⟩ ⟨_, rfl, ODays.reads HK.out⟩).mono ?_
      rintro e wa ⟨rfl, hba⟩
      rw [HRE.out]
      go_wp2_with fail
      refine (lives8_any _).mono ?_
      rintro e wb ⟨rfl, hbb⟩
      go_wp2
      go_ret
      exact ⟨rfl, below_nx8 (below_nx8 kf hba) hbb⟩
end Go.Proofs.Ytokdneolgolkbaa
