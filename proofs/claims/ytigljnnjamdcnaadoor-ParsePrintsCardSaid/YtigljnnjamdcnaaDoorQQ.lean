/-
  The walk of ParseApart.
  The walk of ParseMore.
-/
import Derived.Test.YtigljnnjamdcnaaDoorW07p
import Derived.Test.YtigljnnjamdcnaaDoorQC
import Derived.Test.YtigljnnjamdcnaaDoorQR
import Derived.Test.YtigljnnjamdcnaaDoorR06s
namespace Go.Proofs.YtigljnnjamdcnaaDoor
open Go.RowKit P05 P06 P07

theorem RInst.shape {w : World} {v : Value} {x : Inst} (h : RInst w v x) : ∃ A c A1 c1, v = .agg #[.int .i64 x.days, .int .i64 x.veh, .int .i64 x.cap, .int .i64 x.len, .slice A x.custs.length c, .slice A1 x.dist.length c1] := by
  obtain ⟨cv, dv, rfl, hcs, hds⟩ := h
  obtain ⟨A, c, rfl, -⟩ := hcs.open_
  obtain ⟨A1, c1, rfl, -⟩ := hds.open_
  exact ⟨A, c, A1, c1, rfl⟩
/-- What is known of a made instance. -/
structure Fine (y : Inst) : Prop where
  wf : y.wf
  may : may y = true
  few : y.custs.length ≤ 6
  text : (instText y).length ≤ 200000
  lines : ∀ l ∈ instLines y, l.length ≤ 8
theorem goodC_few (c : Cust) (days : Int) : (goodC c days).pats.length ≤ 4 := by
  unfold goodC
  split
  · simp
  · show (goodPats c.pats days).length ≤ 4
    unfold goodPats
    split
    · simp
    · rw [List.length_map]; exact List.length_take_le _ _
theorem good_lines (x : Inst) : ∀ l ∈ instLines (goodP x), l.length ≤ 8 ∧ ∀ w ∈ l, w.length ≤ 1000 := by
  intro l hl
  have hwf := goodP_wf x
  have hc := goodP_custs x
  obtain ⟨v1, v2, v3, v4, v5, v6⟩ := hwf
  have d1 := dec21 v1
  have d2 := dec21 v2
  have d3 := dec21 v3
  have d4 := dec21 v4
  have d5 := dec21 (n := ((goodP x).custs.length : Int)) (by unfold W64; omega)
  have r1 := rnd_bd x.days 1 7 (by omega)
  unfold instLines headLines at hl
  simp only [List.mem_append, List.mem_cons, List.not_mem_nil, or_false, List.mem_map] at hl
  rcases hl with (rfl | rfl | rfl) | ⟨c, hcm, rfl⟩ | rfl | ⟨r, hrm, rfl⟩
  · exact ⟨by decide, by decide⟩
  · refine ⟨by simp, fun w hw => ?_⟩
    simp only [List.mem_cons, List.not_mem_nil, or_false] at hw
    rcases hw with rfl | rfl | rfl | rfl | rfl | rfl | rfl | rfl <;> first | decide | omega
  · refine ⟨by simp, fun w hw => ?_⟩
    simp only [List.mem_cons, List.not_mem_nil, or_false] at hw
    rcases hw with rfl | rfl <;> first | decide | omega
  · obtain ⟨y, -, rfl⟩ := List.mem_map.1 hcm
    have hd : (goodP x).days = rnd x.days 1 7 := rfl
    refine ⟨?_, (custLine_len (by rw [hd]; omega) (goodC_wf _ _) (by rw [hd]; exact goodC_may y r1.1 r1.2)).2⟩
    have := goodC_few y (rnd x.days 1 7)
    unfold custLine
    split
    · simp; omega
    · simp
  · exact ⟨by decide, by decide⟩
  · refine ⟨by rw [List.length_map, goodP_rows x r hrm]; omega, fun w hw => ?_⟩
    obtain ⟨z, hz, rfl⟩ := List.mem_map.1 hw
    have := goodP_cells x r hrm z hz
    have := dec21 (n := z) (by unfold W64; omega)
    omega
theorem fine_good (x : Inst) : Fine (goodP x) := by
  refine ⟨goodP_wf x, goodP_may x, goodP_custs x, ?_, fun l hl => (good_lines x l hl).1⟩
  have h := flatMap_bd lineP 8009 (instLines (goodP x)) fun l hl => by
    have h1 := good_lines x l hl
    have h2 := lineP_len h1.2
    have h3 := Nat.mul_le_mul h1.1 (Nat.le_refl 1001)
    omega
  have hc := goodP_custs x
  have hd := goodP_dist x
  have hn : (instLines (goodP x)).length ≤ 17 := by
    unfold instLines headLines
    simp
    omega
  have := Nat.mul_le_mul hn (Nat.le_refl 8009)
  unfold instText
  omega
theorem str_of (l : List UInt8) : ∃ s : ByteArray, bstr l = .string s ∧ s.toList = l ∧ s.data.toList = l := ⟨⟨l.toArray⟩, rfl, by rw [ByteArray.toList_eq], rfl⟩
theorem same_text {x y : Inst} (hx : Fine x) (hy : Fine y) {a b : ByteArray} (ha : a.toList = instText x) (hb : b.toList = instText y) : (a.toList == b.toList) = sameP x y := by
  rw [ha, hb]
  cases h : sameP x y with
  | true => rw [sameP_iff x y h]; exact beq_self_eq_true _
  | false =>
    rw [beq_eq_false_iff_ne]
    intro e
    rw [text_inj hx.wf hx.may hy.wf hy.may e, sameP_refl] at h
    cases h
set_option maxHeartbeats 4000000 in
set_option maxRecDepth 100000 in
theorem parseApart_any (v0 v1 : Value) (x0 x1 : Inst) (m : Int) (w : World) (hx0 : RInst w v0 x0) (hx1 : RInst w v1 x1) (hw0 : x0.wf) (hw1 : x1.wf) (hm : w.cell? ⟨0, 0, none⟩ = some (.int .i64 m)) :
    Calls Tryd.prog 6 #[v0, v1] w fun e w' => e = .returned (.bool true) ∧ Below w.heap.size w w' := by
  have HM := Lib.hid hm
  have HX0 := Lib.hid hx0
  have HX1 := Lib.hid hx1
  have HW0 := Lib.hid hw0
  have HW1 := Lib.hid hw1
  obtain ⟨A, c, A1, c1, rfl⟩ := hx0.shape
  obtain ⟨D, f, D1, f1, rfl⟩ := hx1.shape
  clear hm hx0 hx1 hw0 hw1
  have ha1 := below_al (Below.refl w.heap.size w) (.cells #[.int .i64 x0.days, .int .i64 x0.veh, .int .i64 x0.cap, .int .i64 x0.len, .slice A x0.custs.length c, .slice A1 x0.dist.length c1] 25)
  have ha2 := ha1.alloc ha1.size (.cells #[.int .i64 x1.days, .int .i64 x1.veh, .int .i64 x1.cap, .int .i64 x1.len, .slice D x1.custs.length f, .slice D1 x1.dist.length f1] 25)
  have bA := (Blk.new w 25 [.int .i64 x0.days, .int .i64 x0.veh, .int .i64 x0.cap, .int .i64 x0.len, .slice A x0.custs.length c, .slice A1 x0.dist.length c1]).alloc (.cells #[.int .i64 x1.days, .int .i64 x1.veh, .int .i64 x1.cap, .int .i64 x1.len, .slice D x1.custs.length f, .slice D1 x1.dist.length f1] 25)
  have bB := Blk.newAt (w.alloc (.cells #[.int .i64 x0.days, .int .i64 x0.veh, .int .i64 x0.cap, .int .i64 x0.len, .slice A x0.custs.length c, .slice A1 x0.dist.length c1] 25)) 25 [.int .i64 x1.days, .int .i64 x1.veh, .int .i64 x1.cap, .int .i64 x1.len, .slice D x1.custs.length f, .slice D1 x1.dist.length f1] (g := w.heap.size + 1) (by simp)
  obtain ⟨k0, k1, k2, k3, k4, k5⟩ := bA.cells6
  go_enter Tryd.func6, Tryd.ntmps6
  go_wp2_with fail
  refine (goodI_any _ x0 _ (HX0.out.below ha2 (Nat.le_refl _)) HW0.out).mono ?_
  rintro e w2 ⟨v2, rfl, ho2, hb2⟩
  have HF0 := Lib.hid (fine_good x0)
  generalize goodP x0 = y0 at ho2 HF0
  have hr2 := ho2.reads
  obtain ⟨E, g, E1, g1, rfl⟩ := hr2.shape
  have hz2 : w.heap.size + 1 < w2.heap.size := by have := hb2.size; simp at this; omega
  have bB2 := bB.below hb2 (by simp)
  have ha3 := below_nx ha2 hb2
  have hal3 := below_al (Below.refl w2.heap.size w2) (.cells #[.int .i64 y0.days, .int .i64 y0.veh, .int .i64 y0.cap, .int .i64 y0.len, .slice E y0.custs.length g, .slice E1 y0.dist.length g1] 25)
  have ha4 := below_nx ha3 hal3
  have bB3 := bB2.below hal3 bB2.lt
  have b5 := Blk.new w2 25 [.int .i64 y0.days, .int .i64 y0.veh, .int .i64 y0.cap, .int .i64 y0.len, .slice E y0.custs.length g, .slice E1 y0.dist.length g1]
  have HR0 := Lib.hid (hr2.below hal3 (Nat.le_refl _))
  have HX1' := Lib.hid (HX1.out.below ha4 (Nat.le_refl _))
  clear k0 k1 k2 k3 k4 k5 ha1 ha2 bA bB hb2 ho2 hr2 bB2 ha3 hal3
  obtain ⟨k0, k1, k2, k3, k4, k5⟩ := bB3.cells6
  go_wp2_with fail
  refine (goodI_any _ x1 _ HX1'.out HW1.out).mono ?_
  rintro e w4 ⟨v4, rfl, ho4, hb4⟩
  have HF1 := Lib.hid (fine_good x1)
  generalize goodP x1 = y1 at ho4 HF1
  have hr4 := ho4.reads
  obtain ⟨P, q, P1, q1, rfl⟩ := hr4.shape
  have b5' := b5.below hb4 (by simp)
  have hal5 := below_al (Below.refl w4.heap.size w4) (.cells #[.int .i64 y1.days, .int .i64 y1.veh, .int .i64 y1.cap, .int .i64 y1.len, .slice P y1.custs.length q, .slice P1 y1.dist.length q1] 25)
  have hb5 := below_nx hb4 hal5
  have ha5 := below_nx ha4 hb5
  have b6 := Blk.new w4 25 [.int .i64 y1.days, .int .i64 y1.veh, .int .i64 y1.cap, .int .i64 y1.len, .slice P y1.custs.length q, .slice P1 y1.dist.length q1]
  have b5x := b5'.below hal5 b5'.lt
  have HR05 := Lib.hid (HR0.out.below hb5 (Nat.le_refl _))
  have HR15 := Lib.hid (hr4.below hal5 (Nat.le_refl _))
  clear k0 k1 k2 k3 k4 k5 hb4 ho4 hr4 b5 b5' bB3 ha4 hal5 hb5 hz2
  obtain ⟨k0, k1, k2, k3, k4, k5⟩ := b5x.cells6
  go_wp2_with fail
  refine (print7_any _ y0 _ HR05.out HF0.out.wf (by have := HF0.out.few; omega) (by have := HF0.out.text; omega)).mono ?_
  rintro e w6 ⟨rfl, hb6⟩
  rw [printT_t HF0.out.may, mayE_t HF0.out.may]
  obtain ⟨sa, hsa, hsal, -⟩ := str_of (instText y0)
  rw [hsa]
  have ha6 := below_nx ha5 hb6
  have b5y := b5x.below hb6 b5x.lt
  have b6y := b6.below hb6 b6.lt
  have HR06 := Lib.hid (HR05.out.below hb6 (Nat.le_refl _))
  have HR16 := Lib.hid (HR15.out.below hb6 (Nat.le_refl _))
  clear k0 k1 k2 k3 k4 k5 hb6 b5x b6 ha5 hsa
  obtain ⟨k0, k1, k2, k3, k4, k5⟩ := b6y.cells6
  go_wp2_with fail
  refine (print7_any _ y1 _ HR16.out HF1.out.wf (by have := HF1.out.few; omega) (by have := HF1.out.text; omega)).mono ?_
  rintro e w7 ⟨rfl, hb7⟩
  rw [printT_t HF1.out.may, mayE_t HF1.out.may]
  obtain ⟨sb, hsb, hsbl, -⟩ := str_of (instText y1)
  rw [hsb]
  have ha7 := below_nx ha6 hb7
  have b5z := b5y.below hb7 b5y.lt
  have b6z := b6y.below hb7 b6y.lt
  have HR07 := Lib.hid (HR06.out.below hb7 (Nat.le_refl _))
  have HR17 := Lib.hid (HR16.out.below hb7 (Nat.le_refl _))
  have hq := same_text HF0.out HF1.out hsal hsbl
  obtain ⟨qs, hqs⟩ : ∃ b, sameP y0 y1 = b := ⟨_, rfl⟩
  rw [hqs] at hq
  have HQS := Lib.hid hqs
  clear k0 k1 k2 k3 k4 k5 hb7 b5y b6y ha6 hsb hsal hsbl hqs
  obtain ⟨k0, k1, k2, k3, k4, k5⟩ := b6z.cells6
  obtain ⟨j0, j1, j2, j3, j4, j5⟩ := b5z.cells6
  go_wp2_with fail
  refine (rsame_any _ _ y0 y1 _ HR07.out HR17.out).mono ?_
  rintro e w8 ⟨rfl, hb8⟩
  rw [HQS.out]
  have ha8 := below_nx ha7 hb8
  have HMM := Lib.hid (cell_below ha8 (Nat.le_refl _) HM.out)
  clear k0 k1 k2 k3 k4 k5 j0 j1 j2 j3 j4 j5 b5z b6z hb8 ha7
  cases qs
  all_goals
    go_wp2_with fail
    refine (lives7_any m _ HMM.out).mono ?_
    rintro e w9 ⟨rfl, hb9⟩
    go_wp2
    go_ret
    exact ⟨rfl, below_nx ha8 hb9⟩
end Go.Proofs.YtigljnnjamdcnaaDoor

namespace Go.Proofs.YtigljnnjamdcnaaDoor
open Go.RowKit P05 P06 P07

theorem more_lines {y : Inst} (h : Fine y) : ∀ l ∈ linesV (instText y ++ [48, 10]), l.length ≤ 1000 := by
  have h0 : linesP [48, 10] = some [[[48]]] := by decide
  rw [(linesV_some (linesP_append (lines_inst h.wf h.may) h0)).1]
  intro l hl
  rcases List.mem_append.1 hl with hl | hl
  · have := h.lines l hl; omega
  · obtain rfl : l = [[48]] := by simpa using hl
    decide
set_option maxHeartbeats 4000000 in
set_option maxRecDepth 100000 in
theorem parseMore_any (v0 : Value) (x0 : Inst) (s : ByteArray) (m : Int) (w : World) (hx0 : RInst w v0 x0) (hw0 : x0.wf) (hs : s.size ≤ 9223372036854775807) (hm : w.cell? ⟨0, 0, none⟩ = some (.int .i64 m)) :
    Calls Tryd.prog 7 #[v0, .string s] w fun e w' => e = .returned (.bool true) ∧ Below w.heap.size w w' := by
  have HM := Lib.hid hm
  have HX0 := Lib.hid hx0
  have HW0 := Lib.hid hw0
  obtain ⟨A, c, A1, c1, rfl⟩ := hx0.shape
  obtain ⟨t, hts, hcase⟩ := cut_text s 50
  clear hm hx0 hw0
  have ha1 := below_al (Below.refl w.heap.size w) (.cells #[.int .i64 x0.days, .int .i64 x0.veh, .int .i64 x0.cap, .int .i64 x0.len, .slice A x0.custs.length c, .slice A1 x0.dist.length c1] 25)
  have bA := Blk.new w 25 [.int .i64 x0.days, .int .i64 x0.veh, .int .i64 x0.cap, .int .i64 x0.len, .slice A x0.custs.length c, .slice A1 x0.dist.length c1]
  obtain ⟨k0, k1, k2, k3, k4, k5⟩ := bA.cells6
  rcases hcase with ⟨h2, ht⟩ | ⟨h2, ht⟩
  have h2' : (50 : Int) < (s.size : Int) := by omega
  rotate_left
  have h2' : ¬ (50 : Int) < (s.size : Int) := by omega
  all_goals
    clear h2
    go_enter Tryd.func7, Tryd.ntmps7
    go_wp2_with fail
    refine (goodI_any _ x0 _ (HX0.out.below ha1 (Nat.le_refl _)) HW0.out).mono ?_
    rintro e w2 ⟨v2, rfl, ho2, hb2⟩
    have HF := Lib.hid (fine_good x0)
    generalize goodP x0 = y at ho2 HF
    have hr2 := ho2.reads
    have ha2 := below_nx ha1 hb2
    clear k0 k1 k2 k3 k4 k5 ha1 bA hb2 ho2
    go_wp2_with fail
    refine (print7_any _ y _ hr2 HF.out.wf (by have := HF.out.few; omega) (by have := HF.out.text; omega)).mono ?_
    rintro e w3 ⟨rfl, hb3⟩
    rw [printT_t HF.out.may, mayE_t HF.out.may]
    obtain ⟨sa, hsa, -, hsal⟩ := str_of (instText y)
    rw [hsa]
    have ha3 := below_nx ha2 hb3
    have hsz : sa.size = (instText y).length := by rw [← hsal]; exact (data_len sa).symm
    have hne : (instText y) ≠ [] := (text_cut HF.out.wf HF.out.may).1
    have hpos : 0 < sa.size := by rw [hsz]; exact List.length_pos_iff.2 hne
    have htx := HF.out.text
    have HSZ := Lib.hid hsz
    have hsb : sa.size ≤ 200000 := by omega
    clear ha2 hb3 hr2 hsa hne hsz
    try rw [← ht]
    clear ht h2'
    go_wp2_with fail
    try (exfalso; omega)
    all_goals
      have HM3 := Lib.hid (cell_below ha3 (Nat.le_refl _) HM.out)
      have hd1 : (sa ++ t ++ (⟨#[120]⟩ : ByteArray)).data.toList = instText y ++ t.data.toList ++ [120] := by
        simp [hsal]
      have hn1 : linesP (sa ++ t ++ (⟨#[120]⟩ : ByteArray)).data.toList = none := by rw [hd1]; exact lines_none (by decide)
      have hs1 : (sa ++ t ++ (⟨#[120]⟩ : ByteArray)).size ≤ 1000000 := by
        have e1 := data_len (sa ++ t ++ (⟨#[120]⟩ : ByteArray))
        have e2 := data_len t
        have e3 : ([120] : List UInt8).length = 1 := rfl
        rw [hd1, List.length_append, List.length_append] at e1
        omega
      refine (parse7_any _ m _ hs1 (by rw [(linesV_none hn1).1]; intro l hl; cases hl) HM3.out).mono ?_
      rintro e w4 ⟨v4, rfl, ho4, hb4⟩
      rw [parse_none hn1] at ho4 ⊢
      obtain ⟨E, g, E1, g1, rfl⟩ := ho4.reads.shape
      have ha4 := below_nx ha3 hb4
      clear hd1 hn1 hs1 ho4 hb4
      have ha5 := ha4.alloc ha4.size (.cells #[.int .i64 zeroI.days, .int .i64 zeroI.veh, .int .i64 zeroI.cap, .int .i64 zeroI.len, .slice E zeroI.custs.length g, .slice E1 zeroI.dist.length g1] 25)
      go_wp2_with fail
      have HM5 := Lib.hid (cell_below ha5 (Nat.le_refl _) HM.out)
      have hd2 : (sa.extract 0 (sa.size - 1)).data.toList = (instText y).dropLast := by
        rw [ByteArray.data_extract, Array.toList_extract, List.extract_eq_take_drop, List.drop_zero, Nat.sub_zero, hsal, List.dropLast_eq_take, HSZ.out]
      have hn2 : linesP (sa.extract 0 (sa.size - 1)).data.toList = none := by rw [hd2]; exact (text_cut HF.out.wf HF.out.may).2
      refine (parse7_any _ m _ (by rw [ByteArray.size_extract]; omega) (by rw [(linesV_none hn2).1]; intro l hl; cases hl) HM5.out).mono ?_
      rintro e w6 ⟨v6, rfl, ho6, hb6⟩
      rw [parse_none hn2] at ho6 ⊢
      obtain ⟨P, q, P1, q1, rfl⟩ := ho6.reads.shape
      have ha6 := below_nx ha5 hb6
      have ha7 := ha6.alloc ha6.size (.cells #[.int .i64 zeroI.days, .int .i64 zeroI.veh, .int .i64 zeroI.cap, .int .i64 zeroI.len, .slice P zeroI.custs.length q, .slice P1 zeroI.dist.length q1] 25)
      have HM7 := Lib.hid (cell_below ha7 (Nat.le_refl _) HM.out)
      clear hd2 hn2 ho6 hb6 ha6
      go_wp2_with fail
      try (exfalso; omega)
      all_goals
        have hd3 : (sa ++ (⟨#[48, 10]⟩ : ByteArray)).data.toList = instText y ++ [48, 10] := by
          simp [hsal]
        have hs3 : (sa ++ (⟨#[48, 10]⟩ : ByteArray)).size ≤ 1000000 := by
          have e1 := data_len (sa ++ (⟨#[48, 10]⟩ : ByteArray))
          have e3 : ([48, 10] : List UInt8).length = 2 := rfl
          rw [hd3, List.length_append] at e1
          omega
        refine (parse7_any _ m _ hs3 (by rw [hd3]; exact more_lines HF.out) HM7.out).mono ?_
        rintro e w8 ⟨v8, rfl, ho8, hb8⟩
        rw [hd3, text_more HF.out.wf HF.out.may] at ho8 ⊢
        obtain ⟨U, u, U1, u1, rfl⟩ := ho8.reads.shape
        have ha8 := below_nx ha7 hb8
        have ha9 := ha8.alloc ha8.size (.cells #[.int .i64 zeroI.days, .int .i64 zeroI.veh, .int .i64 zeroI.cap, .int .i64 zeroI.len, .slice U zeroI.custs.length u, .slice U1 zeroI.dist.length u1] 25)
        have HM9 := Lib.hid (cell_below ha9 (Nat.le_refl _) HM.out)
        clear hd3 hs3 ho8 hb8 ha8
        go_wp2_with fail
        refine (lives7_any m _ HM9.out).mono ?_
        rintro e w10 ⟨rfl, hb10⟩
        go_wp2
        go_ret
        exact ⟨rfl, below_nx ha9 hb10⟩
end Go.Proofs.YtigljnnjamdcnaaDoor
