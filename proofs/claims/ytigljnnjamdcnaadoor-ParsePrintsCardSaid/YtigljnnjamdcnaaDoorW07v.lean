/- The walk of ParsePrints. -/
import Derived.Test.YtigljnnjamdcnaaDoorW07u
import Derived.Test.YtigljnnjamdcnaaDoorQQ
namespace Go.Proofs.YtigljnnjamdcnaaDoor
open Go.RowKit P05 P06 P07

theorem fine_lines {y : Inst} (h : Fine y) : ∀ l ∈ linesV (instText y), l.length ≤ 1000 := by
  rw [(linesV_some (lines_inst h.wf h.may)).1]
  intro l hl
  have := h.lines l hl
  omega
set_option maxHeartbeats 4000000 in
set_option maxRecDepth 100000 in
theorem parsePrints_any (v0 : Value) (x0 : Inst) (m : Int) (w : World) (hx0 : RInst w v0 x0) (hw0 : x0.wf) (hm : w.cell? ⟨0, 0, none⟩ = some (.int .i64 m)) :
    Calls Tryd.prog 3 #[v0] w fun e w' => e = .returned (.bool true) ∧ Below w.heap.size w w' := by
  have HM := Lib.hid hm
  have HX0 := Lib.hid hx0
  have HW0 := Lib.hid hw0
  obtain ⟨A, c, A1, c1, rfl⟩ := hx0.shape
  clear hm hx0 hw0
  have ha1 := below_al (Below.refl w.heap.size w) (.cells #[.int .i64 x0.days, .int .i64 x0.veh, .int .i64 x0.cap, .int .i64 x0.len, .slice A x0.custs.length c, .slice A1 x0.dist.length c1] 25)
  have bA := Blk.new w 25 [.int .i64 x0.days, .int .i64 x0.veh, .int .i64 x0.cap, .int .i64 x0.len, .slice A x0.custs.length c, .slice A1 x0.dist.length c1]
  obtain ⟨k0, k1, k2, k3, k4, k5⟩ := bA.cells6
  go_enter Tryd.func3, Tryd.ntmps3
  go_wp2_with fail
  refine (goodI_any _ x0 _ (HX0.out.below ha1 (Nat.le_refl _)) HW0.out).mono ?_
  rintro e w2 ⟨v2, rfl, ho2, hb2⟩
  have HF0 := Lib.hid (fine_good x0)
  generalize goodP x0 = y0 at ho2 HF0
  have hr2 := ho2.reads
  obtain ⟨E, g, E1, g1, rfl⟩ := hr2.shape
  have ha3 := below_nx ha1 hb2
  have hal3 := below_al (Below.refl w2.heap.size w2) (.cells #[.int .i64 y0.days, .int .i64 y0.veh, .int .i64 y0.cap, .int .i64 y0.len, .slice E y0.custs.length g, .slice E1 y0.dist.length g1] 25)
  have ha4 := below_nx ha3 hal3
  have b5 := Blk.new w2 25 [.int .i64 y0.days, .int .i64 y0.veh, .int .i64 y0.cap, .int .i64 y0.len, .slice E y0.custs.length g, .slice E1 y0.dist.length g1]
  have HR0 := Lib.hid (hr2.below hal3 (Nat.le_refl _))
  clear k0 k1 k2 k3 k4 k5 ha1 bA hb2 ho2 hr2 ha3 hal3
  obtain ⟨k0, k1, k2, k3, k4, k5⟩ := b5.cells6
  go_wp2_with fail
  refine (print7_any _ y0 _ HR0.out HF0.out.wf (by have := HF0.out.few; omega) (by have := HF0.out.text; omega)).mono ?_
  rintro e w6 ⟨rfl, hb6⟩
  rw [printT_t HF0.out.may, mayE_t HF0.out.may]
  obtain ⟨sa, hsa, hsal, hsd⟩ := str_of (instText y0)
  rw [hsa]
  have ha6 := below_nx ha4 hb6
  have b6 := b5.below hb6 b5.lt
  have HR06 := Lib.hid (HR0.out.below hb6 (Nat.le_refl _))
  have HMM := Lib.hid (cell_below ha6 (Nat.le_refl _) HM.out)
  have HSA := Lib.hid hsa
  clear k0 k1 k2 k3 k4 k5 hb6 b5 ha4 hsa
  go_wp2_with fail
  refine (parse7_any sa m _ (by rw [str_size hsd]; have := HF0.out.text; omega) (by rw [hsd]; exact fine_lines HF0.out) HMM.out).mono ?_
  rintro e w7 ⟨v7, rfl, ho7, hb7⟩
  rw [hsd, parse_print HF0.out.wf HF0.out.may] at ho7 ⊢
  have hr7 := ho7.reads
  obtain ⟨P, q, P1, q1, rfl⟩ := hr7.shape
  simp only
  have hal8 := below_al (Below.refl w7.heap.size w7) (.cells #[.int .i64 y0.days, .int .i64 y0.veh, .int .i64 y0.cap, .int .i64 y0.len, .slice P y0.custs.length q, .slice P1 y0.dist.length q1] 25)
  have hb8 := below_nx hb7 hal8
  have ha8 := below_nx ha6 hb8
  have b8 := b6.below hb8 b6.lt
  have c8 := Blk.new w7 25 [.int .i64 y0.days, .int .i64 y0.veh, .int .i64 y0.cap, .int .i64 y0.len, .slice P y0.custs.length q, .slice P1 y0.dist.length q1]
  have HR08 := Lib.hid (HR06.out.below hb8 (Nat.le_refl _))
  have HR18 := Lib.hid (hr7.below hal8 (Nat.le_refl _))
  clear hb7 ho7 hr7 b6 ha6 hal8 hb8
  obtain ⟨k0, k1, k2, k3, k4, k5⟩ := b8.cells6
  go_wp2_with fail
  refine (rprint7_any _ y0 _ HR08.out HF0.out.wf HF0.out.may (by have := HF0.out.few; omega) (by have := HF0.out.text; omega)).mono ?_
  rintro e w9 ⟨rfl, hb9⟩
  rw [HSA.out]
  have hq : (sa.toList == sa.toList) = true := beq_self_eq_true _
  have ha9 := below_nx ha8 hb9
  have b9 := b8.below hb9 b8.lt
  have c9 := c8.below hb9 c8.lt
  have HR09 := Lib.hid (HR08.out.below hb9 (Nat.le_refl _))
  have HR19 := Lib.hid (HR18.out.below hb9 (Nat.le_refl _))
  clear k0 k1 k2 k3 k4 k5 hb9 b8 c8 ha8
  obtain ⟨k0, k1, k2, k3, k4, k5⟩ := b9.cells6
  obtain ⟨j0, j1, j2, j3, j4, j5⟩ := c9.cells6
  go_wp2_with fail
  refine (rsame_any _ _ y0 y0 _ HR09.out HR19.out).mono ?_
  rintro e w10 ⟨rfl, hb10⟩
  rw [sameP_refl]
  have ha10 := below_nx ha9 hb10
  have HM10 := Lib.hid (cell_below ha10 (Nat.le_refl _) HM.out)
  clear k0 k1 k2 k3 k4 k5 j0 j1 j2 j3 j4 j5 b9 c9 hb10 ha9
  go_wp2_with fail
  refine (lives7_any m _ HM10.out).mono ?_
  rintro e w11 ⟨rfl, hb11⟩
  go_wp2
  go_ret
  exact ⟨rfl, below_nx ha10 hb11⟩
end Go.Proofs.YtigljnnjamdcnaaDoor
