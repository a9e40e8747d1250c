/- The walk of ParseRange. -/
import Derived.Test.YtigljnnjamdcnaaDoorW07u
import Derived.Test.YtigljnnjamdcnaaDoorQV
namespace Go.Proofs.YtigljnnjamdcnaaDoor
open Go.RowKit P05 P06 P07

theorem small_text {y : Inst} (hw : y.wf) (hm : may y = true) (hc : y.custs.length ≤ 10) : (instText y).length ≤ 100000000 := by
  obtain ⟨⟨p1, p2⟩, -, p3, p4, p5, p6, p7, p8⟩ := may_parts hm
  obtain ⟨v1, v2, v3, v4, v5, v6⟩ := hw
  have d1 := dec21 v1
  have d2 := dec21 v2
  have d3 := dec21 v3
  have d4 := dec21 v4
  have d5 := dec21 (n := (y.custs.length : Int)) (by unfold W64; omega)
  have hl : ∀ l ∈ instLines y, l.length ≤ 1000 ∧ ∀ w ∈ l, w.length ≤ 1000 := by
    intro l hl
    unfold instLines headLines at hl
    simp only [List.mem_append, List.mem_cons, List.not_mem_nil, or_false, List.mem_map] at hl
    rcases hl with (rfl | rfl | rfl) | ⟨c, hcm, rfl⟩ | rfl | ⟨r, hrm, rfl⟩
    · exact ⟨by decide, by decide⟩
    · refine ⟨by simp, fun w hw => ?_⟩
      simp only [List.mem_cons, List.not_mem_nil, or_false] at hw
      rcases hw with rfl | rfl | rfl | rfl | rfl | rfl | rfl | rfl <;> first | decide | omega
    · refine ⟨by simp, fun w hw => ?_⟩
      simp only [List.mem_cons, List.not_mem_nil, or_false] at hw
      rcases hw with rfl | rfl <;> first | decide | omega
    · exact custLine_len p2 (v5 c hcm) (p6 c hcm)
    · exact ⟨by decide, by decide⟩
    · have h8 := p8 r hrm
      refine ⟨by rw [List.length_map, h8.1]; omega, fun w hw => ?_⟩
      obtain ⟨z, hz, rfl⟩ := List.mem_map.1 hw
      have := h8.2 z hz
      have := dec21 (n := z) (by unfold W64; omega)
      omega
  have h := flatMap_bd lineP 1001001 (instLines y) fun l hlm => by
    have h1 := hl l hlm
    have h2 := lineP_len h1.2
    have h3 := Nat.mul_le_mul h1.1 (Nat.le_refl 1001)
    omega
  have hn : (instLines y).length ≤ 25 := by
    unfold instLines headLines
    simp
    omega
  have := Nat.mul_le_mul hn (Nat.le_refl 1001001)
  unfold instText
  omega
set_option maxHeartbeats 4000000 in
set_option maxRecDepth 100000 in
theorem print7_no (v : Value) (x : Inst) (w : World) (hx : RInst w v x) (hwf : x.wf) (hc : x.custs.length ≤ 900) (hm : may x = false) :
    Calls Tryd.prog 9 #[v] w fun e w' => e = .returned (.tuple #[.string ⟨#[]⟩, .int .i64 3]) ∧ Below w.heap.size w w' := by
  have HXI := Lib.hid hx
  obtain ⟨A, c, A1, c1, rfl⟩ := hx.shape
  have hal0 := below_al (Below.refl w.heap.size w) (.cells #[.int .i64 x.days, .int .i64 x.veh, .int .i64 x.cap, .int .i64 x.len, .slice A x.custs.length c, .slice A1 x.dist.length c1] 25)
  have HM := Lib.hid hm
  clear hx hm
  go_enter Tryd.func9, Tryd.ntmps9
  go_wp2_with fail
  refine (may_any _ x _ (HXI.out.below hal0 (Nat.le_refl _)) hwf (by omega)).mono ?_
  rintro e w1 ⟨rfl, hb1⟩
  rw [mayE_f HM.out]
  have hal1 : Below w.heap.size w w1 := below_nx hal0 hb1
  clear hb1 hal0
  go_wp2_with fail
  go_ret2
  exact ⟨rfl, hal1⟩
set_option maxHeartbeats 4000000 in
set_option maxRecDepth 100000 in
theorem parseRange_any (v0 : Value) (x : Inst) (m : Int) (w : World) (hx0 : RInst w v0 x) (hw0 : x.wf) (hm : w.cell? ⟨0, 0, none⟩ = some (.int .i64 m)) :
    Calls Tryd.prog 5 #[v0] w fun e w' => e = .returned (.bool true) ∧ Below w.heap.size w w' := by
  have HM := Lib.hid hm
  have HW0 := Lib.hid hw0
  obtain ⟨cv, dv, rfl, hcs, hds⟩ := hx0
  obtain ⟨A, c, rfl, hc1, hc2, -⟩ := hcs.open_
  obtain ⟨A1, c1, rfl, hd1, hd2, -⟩ := hds.open_
  have HCS := Lib.hid hcs
  have HDS := Lib.hid hds
  clear hm hw0 hcs hds
  have hal := below_al (Below.refl w.heap.size w) (.cells #[.int .i64 x.days, .int .i64 x.veh, .int .i64 x.cap, .int .i64 x.len, .slice A x.custs.length c, .slice A1 x.dist.length c1] 25)
  have bA := Blk.new w 25 [.int .i64 x.days, .int .i64 x.veh, .int .i64 x.cap, .int .i64 x.len, .slice A x.custs.length c, .slice A1 x.dist.length c1]
  obtain ⟨k0, k1, k2, k3, k4, k5⟩ := bA.cells6
  obtain ⟨f0, f1, f2, f3, f4, f5⟩ := bA.free6
  by_cases h1 : 10 < x.custs.length <;> by_cases h2 : 11 < x.dist.length
  · have g1 : (10 : Int) < (x.custs.length : Int) := by omega
    have g2 : (11 : Int) < (x.dist.length : Int) := by omega
    have bY : Blk (w.alloc (.cells #[.int .i64 x.days, .int .i64 x.veh, .int .i64 x.cap, .int .i64 x.len, .slice A 10 c, .slice A1 11 c1] 25)) w.heap.size 25 [.int .i64 x.days, .int .i64 x.veh, .int .i64 x.cap, .int .i64 x.len, .slice A 10 c, .slice A1 11 c1] := Blk.new _ _ _
    have hY : Below w.heap.size w (w.alloc (.cells #[.int .i64 x.days, .int .i64 x.veh, .int .i64 x.cap, .int .i64 x.len, .slice A 10 c, .slice A1 11 c1] 25)) := below_al (Below.refl _ _) _
    have HRY : Hid (RInst w (.agg #[.int .i64 x.days, .int .i64 x.veh, .int .i64 x.cap, .int .i64 x.len, .slice A 10 c, .slice A1 11 c1]) ⟨x.days, x.veh, x.cap, x.len, x.custs.take 10, x.dist.take 11⟩) := Lib.hid ⟨_, _, rfl, HCS.out.take (by omega), HDS.out.take (by omega)⟩
    have HWY : Hid (Inst.wf ⟨x.days, x.veh, x.cap, x.len, x.custs.take 10, x.dist.take 11⟩) := Lib.hid (by
      obtain ⟨v1, v2, v3, v4, v5, v6⟩ := HW0.out
      exact ⟨v1, v2, v3, v4, fun c hc => v5 c (List.mem_of_mem_take hc), fun r hr => v6 r (List.mem_of_mem_take hr)⟩)
    have hyc : (x.custs.take 10).length ≤ 10 := by simp; omega
    go_enter Tryd.func5, Tryd.ntmps5
    go_wp2_with fail
    clear k0 k1 k2 k3 k4 k5 f0 f1 f2 f3 f4 f5 g1 g2 h1 h2 bA hal
    obtain ⟨j0, j1, j2, j3, j4, j5⟩ := bY.cells6
    clear j0 j1 j2 j3 j4 j5
    refine (rmay_any _ ⟨x.days, x.veh, x.cap, x.len, x.custs.take 10, x.dist.take 11⟩ _ (HRY.out.below hY (Nat.le_refl _)) HWY.out (by show (x.custs.take 10).length ≤ _; omega)).mono ?_
    rintro e w2 ⟨rfl, hb2⟩
    have ha2 := below_nx hY hb2
    have b2 := bY.below hb2 bY.lt
    obtain ⟨j0, j1, j2, j3, j4, j5⟩ := b2.cells6
    clear bY hY hb2
    cases hmy : may ⟨x.days, x.veh, x.cap, x.len, x.custs.take 10, x.dist.take 11⟩ with
    | false =>
      go_wp2_with fail
      refine (print7_no _ ⟨x.days, x.veh, x.cap, x.len, x.custs.take 10, x.dist.take 11⟩ _ (HRY.out.below ha2 (Nat.le_refl _)) HWY.out (by show (x.custs.take 10).length ≤ _; omega) hmy).mono ?_
      rintro e w3 ⟨rfl, hb3⟩
      have ha3 := below_nx ha2 hb3
      have HM3 := Lib.hid (cell_below ha3 (Nat.le_refl _) HM.out)
      clear j0 j1 j2 j3 j4 j5 hb3
      go_wp2_with fail
      refine (lives7_any m _ HM3.out).mono ?_
      rintro e w4 ⟨rfl, hb4⟩
      go_wp2
      go_ret
      exact ⟨rfl, below_nx ha3 hb4⟩
    | true =>
      have HTX := Lib.hid (small_text HWY.out hmy hyc)
      have HMY := Lib.hid hmy
      clear hmy
      go_wp2_with fail
      refine (print7_any _ ⟨x.days, x.veh, x.cap, x.len, x.custs.take 10, x.dist.take 11⟩ _ (HRY.out.below ha2 (Nat.le_refl _)) HWY.out (by show (x.custs.take 10).length ≤ _; omega) HTX.out).mono ?_
      rintro e w3 ⟨rfl, hb3⟩
      rw [printT_t HMY.out, mayE_t HMY.out]
      obtain ⟨sa, hsa, -, -⟩ := str_of (instText ⟨x.days, x.veh, x.cap, x.len, x.custs.take 10, x.dist.take 11⟩)
      rw [hsa]
      have HSA := Lib.hid hsa
      have ha3 := below_nx ha2 hb3
      have b3 := b2.below hb3 b2.lt
      clear j0 j1 j2 j3 j4 j5 hb3 hsa
      obtain ⟨j0, j1, j2, j3, j4, j5⟩ := b3.cells6
      go_wp2_with fail
      refine (rprint7_any _ ⟨x.days, x.veh, x.cap, x.len, x.custs.take 10, x.dist.take 11⟩ _ (HRY.out.below ha3 (Nat.le_refl _)) HWY.out HMY.out (by show (x.custs.take 10).length ≤ _; omega) HTX.out).mono ?_
      rintro e w4 ⟨rfl, hb4⟩
      rw [HSA.out]
      have hq : (sa.toList == sa.toList) = true := beq_self_eq_true _
      have ha4 := below_nx ha3 hb4
      have HM4 := Lib.hid (cell_below ha4 (Nat.le_refl _) HM.out)
      clear j0 j1 j2 j3 j4 j5 hb4
      go_wp2_with fail
      refine (lives7_any m _ HM4.out).mono ?_
      rintro e w5 ⟨rfl, hb5⟩
      go_wp2
      go_ret
      exact ⟨rfl, below_nx ha4 hb5⟩
  · have g1 : (10 : Int) < (x.custs.length : Int) := by omega
    have g2 : ¬ (11 : Int) < (x.dist.length : Int) := by omega
    have bY : Blk (w.alloc (.cells #[.int .i64 x.days, .int .i64 x.veh, .int .i64 x.cap, .int .i64 x.len, .slice A 10 c, .slice A1 x.dist.length c1] 25)) w.heap.size 25 [.int .i64 x.days, .int .i64 x.veh, .int .i64 x.cap, .int .i64 x.len, .slice A 10 c, .slice A1 x.dist.length c1] := Blk.new _ _ _
    have hY : Below w.heap.size w (w.alloc (.cells #[.int .i64 x.days, .int .i64 x.veh, .int .i64 x.cap, .int .i64 x.len, .slice A 10 c, .slice A1 x.dist.length c1] 25)) := below_al (Below.refl _ _) _
    have HRY : Hid (RInst w (.agg #[.int .i64 x.days, .int .i64 x.veh, .int .i64 x.cap, .int .i64 x.len, .slice A 10 c, .slice A1 x.dist.length c1]) ⟨x.days, x.veh, x.cap, x.len, x.custs.take 10, x.dist⟩) := Lib.hid ⟨_, _, rfl, HCS.out.take (by omega), HDS.out⟩
    have HWY : Hid (Inst.wf ⟨x.days, x.veh, x.cap, x.len, x.custs.take 10, x.dist⟩) := Lib.hid (by
      obtain ⟨v1, v2, v3, v4, v5, v6⟩ := HW0.out
      exact ⟨v1, v2, v3, v4, fun c hc => v5 c (List.mem_of_mem_take hc), v6⟩)
    have hyc : (x.custs.take 10).length ≤ 10 := by simp; omega
    go_enter Tryd.func5, Tryd.ntmps5
    go_wp2_with fail
    clear k0 k1 k2 k3 k4 k5 f0 f1 f2 f3 f4 f5 g1 g2 h1 h2 bA hal
    obtain ⟨j0, j1, j2, j3, j4, j5⟩ := bY.cells6
    clear j0 j1 j2 j3 j4 j5
    refine (rmay_any _ ⟨x.days, x.veh, x.cap, x.len, x.custs.take 10, x.dist⟩ _ (HRY.out.below hY (Nat.le_refl _)) HWY.out (by show (x.custs.take 10).length ≤ _; omega)).mono ?_
    rintro e w2 ⟨rfl, hb2⟩
    have ha2 := below_nx hY hb2
    have b2 := bY.below hb2 bY.lt
    obtain ⟨j0, j1, j2, j3, j4, j5⟩ := b2.cells6
    clear bY hY hb2
    cases hmy : may ⟨x.days, x.veh, x.cap, x.len, x.custs.take 10, x.dist⟩ with
    | false =>
      go_wp2_with fail
      refine (print7_no _ ⟨x.days, x.veh, x.cap, x.len, x.custs.take 10, x.dist⟩ _ (HRY.out.below ha2 (Nat.le_refl _)) HWY.out (by show (x.custs.take 10).length ≤ _; omega) hmy).mono ?_
      rintro e w3 ⟨rfl, hb3⟩
      have ha3 := below_nx ha2 hb3
      have HM3 := Lib.hid (cell_below ha3 (Nat.le_refl _) HM.out)
      clear j0 j1 j2 j3 j4 j5 hb3
      go_wp2_with fail
      refine (lives7_any m _ HM3.out).mono ?_
      rintro e w4 ⟨rfl, hb4⟩
      go_wp2
      go_ret
      exact ⟨rfl, below_nx ha3 hb4⟩
    | true =>
      have HTX := Lib.hid (small_text HWY.out hmy hyc)
      have HMY := Lib.hid hmy
      clear hmy
      go_wp2_with fail
      refine (print7_any _ ⟨x.days, x.veh, x.cap, x.len, x.custs.take 10, x.dist⟩ _ (HRY.out.below ha2 (Nat.le_refl _)) HWY.out (by show (x.custs.take 10).length ≤ _; omega) HTX.out).mono ?_
      rintro e w3 ⟨rfl, hb3⟩
      rw [printT_t HMY.out, mayE_t HMY.out]
      obtain ⟨sa, hsa, -, -⟩ := str_of (instText ⟨x.days, x.veh, x.cap, x.len, x.custs.take 10, x.dist⟩)
      rw [hsa]
      have HSA := Lib.hid hsa
      have ha3 := below_nx ha2 hb3
      have b3 := b2.below hb3 b2.lt
      clear j0 j1 j2 j3 j4 j5 hb3 hsa
      obtain ⟨j0, j1, j2, j3, j4, j5⟩ := b3.cells6
      go_wp2_with fail
      refine (rprint7_any _ ⟨x.days, x.veh, x.cap, x.len, x.custs.take 10, x.dist⟩ _ (HRY.out.below ha3 (Nat.le_refl _)) HWY.out HMY.out (by show (x.custs.take 10).length ≤ _; omega) HTX.out).mono ?_
      rintro e w4 ⟨rfl, hb4⟩
      rw [HSA.out]
      have hq : (sa.toList == sa.toList) = true := beq_self_eq_true _
      have ha4 := below_nx ha3 hb4
      have HM4 := Lib.hid (cell_below ha4 (Nat.le_refl _) HM.out)
      clear j0 j1 j2 j3 j4 j5 hb4
      go_wp2_with fail
      refine (lives7_any m _ HM4.out).mono ?_
      rintro e w5 ⟨rfl, hb5⟩
      go_wp2
      go_ret
      exact ⟨rfl, below_nx ha4 hb5⟩
  · have g1 : ¬ (10 : Int) < (x.custs.length : Int) := by omega
    have g2 : (11 : Int) < (x.dist.length : Int) := by omega
    have bY : Blk (w.alloc (.cells #[.int .i64 x.days, .int .i64 x.veh, .int .i64 x.cap, .int .i64 x.len, .slice A x.custs.length c, .slice A1 11 c1] 25)) w.heap.size 25 [.int .i64 x.days, .int .i64 x.veh, .int .i64 x.cap, .int .i64 x.len, .slice A x.custs.length c, .slice A1 11 c1] := Blk.new _ _ _
    have hY : Below w.heap.size w (w.alloc (.cells #[.int .i64 x.days, .int .i64 x.veh, .int .i64 x.cap, .int .i64 x.len, .slice A x.custs.length c, .slice A1 11 c1] 25)) := below_al (Below.refl _ _) _
    have HRY : Hid (RInst w (.agg #[.int .i64 x.days, .int .i64 x.veh, .int .i64 x.cap, .int .i64 x.len, .slice A x.custs.length c, .slice A1 11 c1]) ⟨x.days, x.veh, x.cap, x.len, x.custs, x.dist.take 11⟩) := Lib.hid ⟨_, _, rfl, HCS.out, HDS.out.take (by omega)⟩
    have HWY : Hid (Inst.wf ⟨x.days, x.veh, x.cap, x.len, x.custs, x.dist.take 11⟩) := Lib.hid (by
      obtain ⟨v1, v2, v3, v4, v5, v6⟩ := HW0.out
      exact ⟨v1, v2, v3, v4, v5, fun r hr => v6 r (List.mem_of_mem_take hr)⟩)
    have hyc : (x.custs).length ≤ 10 := by omega
    go_enter Tryd.func5, Tryd.ntmps5
    go_wp2_with fail
    clear k0 k1 k2 k3 k4 k5 f0 f1 f2 f3 f4 f5 g1 g2 h1 h2 bA hal
    obtain ⟨j0, j1, j2, j3, j4, j5⟩ := bY.cells6
    clear j0 j1 j2 j3 j4 j5
    refine (rmay_any _ ⟨x.days, x.veh, x.cap, x.len, x.custs, x.dist.take 11⟩ _ (HRY.out.below hY (Nat.le_refl _)) HWY.out (by show (x.custs).length ≤ _; omega)).mono ?_
    rintro e w2 ⟨rfl, hb2⟩
    have ha2 := below_nx hY hb2
    have b2 := bY.below hb2 bY.lt
    obtain ⟨j0, j1, j2, j3, j4, j5⟩ := b2.cells6
    clear bY hY hb2
    cases hmy : may ⟨x.days, x.veh, x.cap, x.len, x.custs, x.dist.take 11⟩ with
    | false =>
      go_wp2_with fail
      refine (print7_no _ ⟨x.days, x.veh, x.cap, x.len, x.custs, x.dist.take 11⟩ _ (HRY.out.below ha2 (Nat.le_refl _)) HWY.out (by show (x.custs).length ≤ _; omega) hmy).mono ?_
      rintro e w3 ⟨rfl, hb3⟩
      have ha3 := below_nx ha2 hb3
      have HM3 := Lib.hid (cell_below ha3 (Nat.le_refl _) HM.out)
      clear j0 j1 j2 j3 j4 j5 hb3
      go_wp2_with fail
      refine (lives7_any m _ HM3.out).mono ?_
      rintro e w4 ⟨rfl, hb4⟩
      go_wp2
      go_ret
      exact ⟨rfl, below_nx ha3 hb4⟩
    | true =>
      have HTX := Lib.hid (small_text HWY.out hmy hyc)
      have HMY := Lib.hid hmy
      clear hmy
      go_wp2_with fail
      refine (print7_any _ ⟨x.days, x.veh, x.cap, x.len, x.custs, x.dist.take 11⟩ _ (HRY.out.below ha2 (Nat.le_refl _)) HWY.out (by show (x.custs).length ≤ _; omega) HTX.out).mono ?_
      rintro e w3 ⟨rfl, hb3⟩
      rw [printT_t HMY.out, mayE_t HMY.out]
      obtain ⟨sa, hsa, -, -⟩ := str_of (instText ⟨x.days, x.veh, x.cap, x.len, x.custs, x.dist.take 11⟩)
      rw [hsa]
      have HSA := Lib.hid hsa
      have ha3 := below_nx ha2 hb3
      have b3 := b2.below hb3 b2.lt
      clear j0 j1 j2 j3 j4 j5 hb3 hsa
      obtain ⟨j0, j1, j2, j3, j4, j5⟩ := b3.cells6
      go_wp2_with fail
      refine (rprint7_any _ ⟨x.days, x.veh, x.cap, x.len, x.custs, x.dist.take 11⟩ _ (HRY.out.below ha3 (Nat.le_refl _)) HWY.out HMY.out (by show (x.custs).length ≤ _; omega) HTX.out).mono ?_
      rintro e w4 ⟨rfl, hb4⟩
      rw [HSA.out]
      have hq : (sa.toList == sa.toList) = true := beq_self_eq_true _
      have ha4 := below_nx ha3 hb4
      have HM4 := Lib.hid (cell_below ha4 (Nat.le_refl _) HM.out)
      clear j0 j1 j2 j3 j4 j5 hb4
      go_wp2_with fail
      refine (lives7_any m _ HM4.out).mono ?_
      rintro e w5 ⟨rfl, hb5⟩
      go_wp2
      go_ret
      exact ⟨rfl, below_nx ha4 hb5⟩
  · have g1 : ¬ (10 : Int) < (x.custs.length : Int) := by omega
    have g2 : ¬ (11 : Int) < (x.dist.length : Int) := by omega
    have bY : Blk (w.alloc (.cells #[.int .i64 x.days, .int .i64 x.veh, .int .i64 x.cap, .int .i64 x.len, .slice A x.custs.length c, .slice A1 x.dist.length c1] 25)) w.heap.size 25 [.int .i64 x.days, .int .i64 x.veh, .int .i64 x.cap, .int .i64 x.len, .slice A x.custs.length c, .slice A1 x.dist.length c1] := Blk.new _ _ _
    have hY : Below w.heap.size w (w.alloc (.cells #[.int .i64 x.days, .int .i64 x.veh, .int .i64 x.cap, .int .i64 x.len, .slice A x.custs.length c, .slice A1 x.dist.length c1] 25)) := below_al (Below.refl _ _) _
    have HRY : Hid (RInst w (.agg #[.int .i64 x.days, .int .i64 x.veh, .int .i64 x.cap, .int .i64 x.len, .slice A x.custs.length c, .slice A1 x.dist.length c1]) ⟨x.days, x.veh, x.cap, x.len, x.custs, x.dist⟩) := Lib.hid ⟨_, _, rfl, HCS.out, HDS.out⟩
    have HWY : Hid (Inst.wf ⟨x.days, x.veh, x.cap, x.len, x.custs, x.dist⟩) := Lib.hid (by
      obtain ⟨v1, v2, v3, v4, v5, v6⟩ := HW0.out
      exact ⟨v1, v2, v3, v4, v5, v6⟩)
    have hyc : (x.custs).length ≤ 10 := by omega
    go_enter Tryd.func5, Tryd.ntmps5
    go_wp2_with fail
    clear k0 k1 k2 k3 k4 k5 f0 f1 f2 f3 f4 f5 g1 g2 h1 h2 bA hal
    obtain ⟨j0, j1, j2, j3, j4, j5⟩ := bY.cells6
    clear j0 j1 j2 j3 j4 j5
    refine (rmay_any _ ⟨x.days, x.veh, x.cap, x.len, x.custs, x.dist⟩ _ (HRY.out.below hY (Nat.le_refl _)) HWY.out (by show (x.custs).length ≤ _; omega)).mono ?_
    rintro e w2 ⟨rfl, hb2⟩
    have ha2 := below_nx hY hb2
    have b2 := bY.below hb2 bY.lt
    obtain ⟨j0, j1, j2, j3, j4, j5⟩ := b2.cells6
    clear bY hY hb2
    cases hmy : may ⟨x.days, x.veh, x.cap, x.len, x.custs, x.dist⟩ with
    | false =>
      go_wp2_with fail
      refine (print7_no _ ⟨x.days, x.veh, x.cap, x.len, x.custs, x.dist⟩ _ (HRY.out.below ha2 (Nat.le_refl _)) HWY.out (by show (x.custs).length ≤ _; omega) hmy).mono ?_
      rintro e w3 ⟨rfl, hb3⟩
      have ha3 := below_nx ha2 hb3
      have HM3 := Lib.hid (cell_below ha3 (Nat.le_refl _) HM.out)
      clear j0 j1 j2 j3 j4 j5 hb3
      go_wp2_with fail
      refine (lives7_any m _ HM3.out).mono ?_
      rintro e w4 ⟨rfl, hb4⟩
      go_wp2
      go_ret
      exact ⟨rfl, below_nx ha3 hb4⟩
    | true =>
      have HTX := Lib.hid (small_text HWY.out hmy hyc)
      have HMY := Lib.hid hmy
      clear hmy
      go_wp2_with fail
      refine (print7_any _ ⟨x.days, x.veh, x.cap, x.len, x.custs, x.dist⟩ _ (HRY.out.below ha2 (Nat.le_refl _)) HWY.out (by show (x.custs).length ≤ _; omega) HTX.out).mono ?_
      rintro e w3 ⟨rfl, hb3⟩
      rw [printT_t HMY.out, mayE_t HMY.out]
      obtain ⟨sa, hsa, -, -⟩ := str_of (instText ⟨x.days, x.veh, x.cap, x.len, x.custs, x.dist⟩)
      rw [hsa]
      have HSA := Lib.hid hsa
      have ha3 := below_nx ha2 hb3
      have b3 := b2.below hb3 b2.lt
      clear j0 j1 j2 j3 j4 j5 hb3 hsa
      obtain ⟨j0, j1, j2, j3, j4, j5⟩ := b3.cells6
      go_wp2_with fail
      refine (rprint7_any _ ⟨x.days, x.veh, x.cap, x.len, x.custs, x.dist⟩ _ (HRY.out.below ha3 (Nat.le_refl _)) HWY.out HMY.out (by show (x.custs).length ≤ _; omega) HTX.out).mono ?_
      rintro e w4 ⟨rfl, hb4⟩
      rw [HSA.out]
      have hq : (sa.toList == sa.toList) = true := beq_self_eq_true _
      have ha4 := below_nx ha3 hb4
      have HM4 := Lib.hid (cell_below ha4 (Nat.le_refl _) HM.out)
      clear j0 j1 j2 j3 j4 j5 hb4
      go_wp2_with fail
      refine (lives7_any m _ HM4.out).mono ?_
      rintro e w5 ⟨rfl, hb5⟩
      go_wp2
      go_ret
      exact ⟨rfl, below_nx ha4 hb5⟩
end Go.Proofs.YtigljnnjamdcnaaDoor
