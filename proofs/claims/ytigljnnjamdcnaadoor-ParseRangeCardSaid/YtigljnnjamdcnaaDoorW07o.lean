/- The walk of Print. -/
import Derived.Test.YtigljnnjamdcnaaDoorQO
import Derived.Test.YtigljnnjamdcnaaDoorQC
import Derived.Test.YtigljnnjamdcnaaDoorQI
import Derived.Test.YtigljnnjamdcnaaDoorQF
import Derived.Outline
namespace Go.Proofs.YtigljnnjamdcnaaDoor
open Go.RowKit P05 P06 P07

def printT (x : Inst) : List UInt8 := if may x then instText x else []
theorem printT_t {x : Inst} (h : may x = true) : printT x = instText x := by unfold printT; rw [if_pos h]
theorem printT_f {x : Inst} (h : may x = false) : printT x = [] := by unfold printT; rw [h]; rfl
theorem RInts.of_cells {w : World} {r : List Int} {A : Option Addr} {c : Nat} (h1 : r.length ≤ c) (h2 : c ≤ 9223372036854775807) (h : ∀ j z, r[j]? = some z → ∃ b1 o1, A = some ⟨b1, o1, none⟩ ∧ b1 < w.heap.size ∧ w.cell? ⟨b1, o1 + j, none⟩ = some (.int .i64 z)) : RInts w .i64 (.slice A r.length c) r := by
  refine ⟨A, c, rfl, h1, by simpa [maxLen] using h2, by simp, fun hn => ?_⟩
  obtain ⟨z, hz⟩ := some_of_lt hn
  obtain ⟨b, o, hA, hb, -⟩ := h 0 z hz
  refine ⟨b, o, hA, hb, fun j u hu => ?_⟩
  rw [List.getElem?_map] at hu
  obtain ⟨z, hz, rfl⟩ := Option.map_eq_some_iff.1 hu
  obtain ⟨b', o', hA', -, hc⟩ := h j z hz
  rw [hA] at hA'
  obtain ⟨rfl, rfl⟩ : b = b' ∧ o = o' := by simpa using hA'
  exact hc
set_option maxHeartbeats 4000000 in
set_option maxRecDepth 100000 in
theorem print7_any (v : Value) (x : Inst) (w : World) (hx : RInst w v x) (hwf : x.wf) (hc : x.custs.length ≤ 900) (hlen : (instText x).length ≤ 100000000) :
    Calls Tryd.prog 9 #[v] w fun e w' => e = .returned (.tuple #[bstr (printT x), .int .i64 (mayE x)]) ∧ Below w.heap.size w w' := by
  have HXI := Lib.hid hx
  obtain ⟨cv, dv, rfl, hcs, hds⟩ := hx
  obtain ⟨A, c, rfl, hc1, hc2, hcell⟩ := hcs.open_
  obtain ⟨A1, c1, rfl, hd1, hd2, hrow⟩ := hds.open_
  have HCC := Lib.hid hcell
  have HRW := Lib.hid hrow
  have HWF := Lib.hid hwf
  have bx0 := Blk.new w 25 [.int .i64 x.days, .int .i64 x.veh, .int .i64 x.cap, .int .i64 x.len, .slice A x.custs.length c, .slice A1 x.dist.length c1]
  have hal0 := below_al (Below.refl w.heap.size w) (.cells #[.int .i64 x.days, .int .i64 x.veh, .int .i64 x.cap, .int .i64 x.len, .slice A x.custs.length c, .slice A1 x.dist.length c1] 25)
  clear hcs hds hcell hrow hwf
  go_enter Tryd.func9, Tryd.ntmps9
  go_wp2_with fail
  refine (may_any _ x _ (HXI.out.below hal0 (Nat.le_refl _)) HWF.out (by omega)).mono ?_
  rintro e w1 ⟨rfl, hb1⟩
  have bx1 := bx0.below hb1 bx0.lt
  have hal1 : Below w.heap.size w w1 := below_nx hal0 hb1
  clear hb1 bx0 hal0
  cases hm : may x with
  | false =>
    rw [mayE_f hm]
    have HME := Lib.hid (mayE_f hm)
    have HPT := Lib.hid (printT_f hm)
    clear hm
    go_wp2_with fail
    go_ret2
    rw [HPT.out, HME.out]
    exact ⟨rfl, hal1⟩
  | true =>
    rw [mayE_t hm]
    have HME := Lib.hid (mayE_t hm)
    have HPT := Lib.hid (printT_t hm)
    obtain ⟨⟨p1, p2⟩, -, p3, p4, p5, p6, p7, p8⟩ := may_parts hm
    have HP6 := Lib.hid p6
    have HP8 := Lib.hid p8
    clear hm p6 p8
    have zx1 := bx1.lt
    have hal2 := below_al (Below.refl w1.heap.size w1) (.cells #[.pointer none, .slice none 0 0] 49)
    have bb2 := BldAt.new w1
    have bs3 := Blk.newAt (w1.alloc (.cells #[.pointer none, .slice none 0 0] 49)) 9 [.string ⟨#[116, 114, 97, 110, 116, 101, 114]⟩, .string ⟨#[49]⟩] (g := w1.heap.size + 1) (by simp)
    have hal3 := hal2.alloc hal2.size (.cells #[.string ⟨#[116, 114, 97, 110, 116, 101, 114]⟩, .string ⟨#[49]⟩] 9)
    have bb3 := bb2.below (below_al (Below.refl _ _) (.cells #[.string ⟨#[116, 114, 97, 110, 116, 101, 114]⟩, .string ⟨#[49]⟩] 9)) (Nat.le_refl _)
    go_wp2_with fail
    refine (ln_any [wTranter, wOne] _ _ (Blk.strs (l := [wTranter, wOne]) bs3) (by decide) (by decide)).mono ?_
    rintro e w4 ⟨s4, rfl, HS4, hb4⟩
    have hal4 := below_nx hal3 hb4
    have bb4 := bb3.below hb4 (Nat.le_refl _)
    go_wp2_with fail
    refine (write_any w1.heap.size [] (lineP [wTranter, wOne]) s4 w4 bb4 HS4.out (by have := lineP_le (il_0 x); simp at this ⊢; omega)).mono ?_
    rintro e w5 ⟨rfl, bb5, hb5, -⟩
    have hal5 := hal4.trans hb5
    have HT5 : Hid ([] ++ lineP [wTranter, wOne] = txt x 1) := by show _ = _; rw [txt_succ (il_0 x)]; rfl
    rw [HT5.out] at bb5
    have bx5 := bx1.below hal5 zx1
    clear hal2 bb2 bs3 hal3 bb3 hb4 hal4 bb4 hb5
    obtain ⟨sd1, hsd1⟩ : ∃ s, bstr (decI x.days) = .string s := ⟨_, rfl⟩
    obtain ⟨sd2, hsd2⟩ : ∃ s, bstr (decI x.veh) = .string s := ⟨_, rfl⟩
    obtain ⟨sd3, hsd3⟩ : ∃ s, bstr (decI x.cap) = .string s := ⟨_, rfl⟩
    obtain ⟨sd4, hsd4⟩ : ∃ s, bstr (decI x.len) = .string s := ⟨_, rfl⟩
    have HD1 := Lib.hid hsd1
    have HD2 := Lib.hid hsd2
    have HD3 := Lib.hid hsd3
    have HD4 := Lib.hid hsd4
    have HBX5 := Lib.hid bx5
    clear hsd1 hsd2 hsd3 hsd4 bx5
    go_wp2_with fail
    refine wp_region_N (fun wS => Below w5.heap.size w5 wS) [14] (by kernel_rfl) ?_ (fun hS => ?_)
    · exact (Below.refl _ _).drew
    refine wpAnyM_take 0 (v := ?_) rfl (by kernel_rfl) (fun _ _ _ h => h) (by rfl) ?_ hS ?_
    rotate_left
    · intro wS hSw
      (try dsimp only at hSw)
      go_simp
      try with_reducible rfl
    try simp only [Act.put, List.setIfInBounds_toArray]
    refine wpAnyM_take 1 (v := ?_) rfl (by kernel_rfl) (fun _ _ _ h => h) (by rfl) ?_ hS ?_
    rotate_left
    · intro wS hSw
      (try dsimp only at hSw)
      have hc := (HBX5.out.below hSw HBX5.out.lt).cell 0
      simp only [List.getElem?_cons_zero] at hc
      go_simp
      try with_reducible rfl
    try simp only [Act.put]
    refine wpAnyM_take 3 (v := ?_) rfl (by kernel_rfl) (fun _ _ _ h => h) (by rfl) ?_ hS ?_
    rotate_left
    · intro wS hSw
      (try dsimp only at hSw)
      go_simp
      try with_reducible rfl
    try simp only [Act.put]
    refine wpAnyM_take 4 (v := ?_) rfl (by kernel_rfl) (fun _ _ _ h => h) (by rfl) ?_ hS ?_
    rotate_left
    · intro wS hSw
      (try dsimp only at hSw)
      have hc := (HBX5.out.below hSw HBX5.out.lt).cell 1
      simp only [List.getElem?_cons_succ, List.getElem?_cons_zero] at hc
      go_simp
      try with_reducible rfl
    try simp only [Act.put]
    refine wpAnyM_take 6 (v := ?_) rfl (by kernel_rfl) (fun _ _ _ h => h) (by rfl) ?_ hS ?_
    rotate_left
    · intro wS hSw
      (try dsimp only at hSw)
      go_simp
      try with_reducible rfl
    try simp only [Act.put]
    refine wpAnyM_take 7 (v := ?_) rfl (by kernel_rfl) (fun _ _ _ h => h) (by rfl) ?_ hS ?_
    rotate_left
    · intro wS hSw
      (try dsimp only at hSw)
      have hc := (HBX5.out.below hSw HBX5.out.lt).cell 2
      simp only [List.getElem?_cons_succ, List.getElem?_cons_zero] at hc
      go_simp
      try with_reducible rfl
    try simp only [Act.put]
    refine wpAnyM_take 9 (v := ?_) rfl (by kernel_rfl) (fun _ _ _ h => h) (by rfl) ?_ hS ?_
    rotate_left
    · intro wS hSw
      (try dsimp only at hSw)
      go_simp
      try with_reducible rfl
    try simp only [Act.put]
    refine wpAnyM_take 10 (v := ?_) rfl (by kernel_rfl) (fun _ _ _ h => h) (by rfl) ?_ hS ?_
    rotate_left
    · intro wS hSw
      (try dsimp only at hSw)
      have hc := (HBX5.out.below hSw HBX5.out.lt).cell 3
      simp only [List.getElem?_cons_succ, List.getElem?_cons_zero] at hc
      go_simp
      try with_reducible rfl
    try simp only [Act.put]
    refine wpAnyM_of_R (R := [2, 5, 8, 11]) _ _ _ ?_ _ hS
    clear hS
    refine wpAnyR_call 2 (v := .string sd1) (f := ?_) (args := ?_) rfl (by kernel_rfl) (by kernel_rfl) (by kernel_rfl) (by kernel_rfl) (by kernel_rfl) (fun _ _ _ h => h) (by rfl) ?_ ?_ ?_
    rotate_left 2
    · intro wS
      go_simp
      first | with_reducible rfl | (constructor <;> with_reducible rfl)
    · intro wS hSw
      refine (decimal_any x.days wS (by omega) (by omega)).mono ?_
      rintro e w' ⟨rfl, hb⟩
      exact ⟨by rw [HD1.out], hSw.trans (hb.mono hSw.size)⟩
    try simp only [Act.put]
    refine wpAnyR_call 5 (v := .string sd2) (f := ?_) (args := ?_) rfl (by kernel_rfl) (by kernel_rfl) (by kernel_rfl) (by kernel_rfl) (by kernel_rfl) (fun _ _ _ h => h) (by rfl) ?_ ?_ ?_
    rotate_left 2
    · intro wS
      go_simp
      first | with_reducible rfl | (constructor <;> with_reducible rfl)
    · intro wS hSw
      refine (decimal_any x.veh wS (by omega) (by omega)).mono ?_
      rintro e w' ⟨rfl, hb⟩
      exact ⟨by rw [HD2.out], hSw.trans (hb.mono hSw.size)⟩
    try simp only [Act.put]
    refine wpAnyR_call 8 (v := .string sd3) (f := ?_) (args := ?_) rfl (by kernel_rfl) (by kernel_rfl) (by kernel_rfl) (by kernel_rfl) (by kernel_rfl) (fun _ _ _ h => h) (by rfl) ?_ ?_ ?_
    rotate_left 2
    · intro wS
      go_simp
      first | with_reducible rfl | (constructor <;> with_reducible rfl)
    · intro wS hSw
      refine (decimal_any x.cap wS (by omega) (by omega)).mono ?_
      rintro e w' ⟨rfl, hb⟩
      exact ⟨by rw [HD3.out], hSw.trans (hb.mono hSw.size)⟩
    try simp only [Act.put]
    refine wpAnyR_call 11 (v := .string sd4) (f := ?_) (args := ?_) rfl (by kernel_rfl) (by kernel_rfl) (by kernel_rfl) (by kernel_rfl) (by kernel_rfl) (fun _ _ _ h => h) (by rfl) ?_ ?_ ?_
    rotate_left 2
    · intro wS
      go_simp
      first | with_reducible rfl | (constructor <;> with_reducible rfl)
    · intro wS hSw
      refine (decimal_any x.len wS (by omega) (by omega)).mono ?_
      rintro e w' ⟨rfl, hb⟩
      exact ⟨by rw [HD4.out], hSw.trans (hb.mono hSw.size)⟩
    try simp only [Act.put]
    refine wpAnyR_done (by kernel_rfl) ?_
    intro wS hSw
    refine wpAnyM_one 12 rfl (by kernel_rfl) (by rfl) (fun K hK => ?_)
    go_simp
    refine hK.out _ _ (hSw.alloc hSw.size _) ?_
    clear hK K
    try simp only [Act.put, List.setIfInBounds_toArray, List.set_cons_zero, List.set_cons_succ]
    refine wpAnyM_one 13 rfl (by kernel_rfl) (by rfl) (fun K hK => ?_)
    go_simp
    refine (ln_any [wDays, decI x.days, wVeh, decI x.veh, wCap, decI x.cap, wLen, decI x.len] _ _ (Blk.strs (l := [wDays, decI x.days, wVeh, decI x.veh, wCap, decI x.cap, wLen, decI x.len]) (show Blk _ _ _ [bstr wDays, bstr (decI x.days), bstr wVeh, bstr (decI x.veh), bstr wCap, bstr (decI x.cap), bstr wLen, bstr (decI x.len)] by rw [HD1.out, HD2.out, HD3.out, HD4.out]; exact Blk.new _ _ _) (by simp)) (by simp) (fun y hy => ?_)).mono ?_
    · obtain ⟨v1, v2, v3, v4, -⟩ := HWF.out
      have := dec21 v1; have := dec21 v2; have := dec21 v3; have := dec21 v4
      simp only [List.mem_cons, List.not_mem_nil, or_false] at hy
      rcases hy with rfl | rfl | rfl | rfl | rfl | rfl | rfl | rfl <;> first | decide | omega
    rintro e w6 ⟨s6, rfl, HS6, hb6⟩
    have hS6 : Below w5.heap.size w5 w6 := below_nx (hSw.alloc hSw.size _) hb6
    refine hK.out _ _ hS6 ?_
    clear hK K
    try simp only [Act.put, List.setIfInBounds_toArray, List.set_cons_zero, List.set_cons_succ]
    refine wpAnyM_late 14 rfl (by kernel_rfl) (by kernel_rfl) (by rfl) (fun K hK => ?_)
    go_simp
    refine (write_any w1.heap.size (txt x 1) (lineP [wDays, decI x.days, wVeh, decI x.veh, wCap, decI x.cap, wLen, decI x.len]) s6 w6 (bb5.below hS6 (Nat.le_refl _)) HS6.out (by have := lineP_le (il_1 x); omega)).mono ?_
    rintro e w7 ⟨rfl, bb7, hb7, -⟩
    refine hK.out _ _ ?_
    clear hK K
    try simp only [Act.put, List.setIfInBounds_toArray, List.set_cons_zero, List.set_cons_succ]
    refine wpAnyM_done (by kernel_rfl) ?_
    unfold onlyN
    have hal7 : Below w1.heap.size w1 w7 := (hal5.trans (hS6.mono hal5.size)).trans hb7
    rw [← txt_succ (il_1 x)] at bb7
    have bx7 := bx1.below hal7 zx1
    obtain ⟨d0, d1, d2, d3, d4, d5⟩ := bx7.cells6
    clear hSw hS6 hb6 hb7 bb5 hal5 HBX5 HD1 HD2 HD3 HD4 HS4 HS6 HT5
    go_wp2_with fail
    refine (dec_any _ _ (by omega) (by omega)).mono ?_
    rintro e w8 ⟨s8, rfl, HS8, hb8⟩
    have hal8 : Below w1.heap.size w1 w8 := below_nx hal7 hb8
    have bb8 := bb7.below hb8 (Nat.le_refl _)
    go_wp2_with fail
    refine (ln_any [wCust, decI x.custs.length] _ _ (two_words (Blk.new w8 _ _) rfl HS8.out) (by simp) (fun y hy => ?_)).mono ?_
    · have := dec21 (n := (x.custs.length : Int)) (by unfold W64; omega)
      simp only [List.mem_cons, List.not_mem_nil, or_false] at hy
      rcases hy with rfl | rfl <;> first | decide | omega
    rintro e w9 ⟨s9, rfl, HS9, hb9⟩
    have hal9 := below_nx (hal8.alloc hal8.size (.cells #[.string ⟨#[99, 117, 115, 116, 111, 109, 101, 114, 115]⟩, .string s8] 9)) hb9
    have bb9 := (bb8.below (below_al (Below.refl _ _) (.cells #[.string ⟨#[99, 117, 115, 116, 111, 109, 101, 114, 115]⟩, .string s8] 9)) (Nat.le_refl _)).below hb9 (Nat.le_refl _)
    go_wp2_with fail
    refine (write_any w1.heap.size (txt x 2) (lineP [wCust, decI x.custs.length]) s9 w9 bb9 HS9.out (by have := lineP_le (il_2 x); omega)).mono ?_
    rintro e w10 ⟨rfl, bb10, hb10, -⟩
    have hal10 := hal9.trans hb10
    rw [← txt_succ (il_2 x)] at bb10
    have bx10 := bx1.below hal10 zx1
    clear d0 d1 d2 d3 d4 d5 hal9 bb9 hb9 hal8 bb8 hb8 hal7 bb7 bx7 hb10 HS8 HS9
    obtain ⟨d0, d1, d2, d3, d4, d5⟩ := bx10.cells6
    clear d0 d1 d2 d3 d5
    go_wp2_with fail
    clear d4
    go_loopw [40] (fun iv wr => ∃ i, i ≤ x.custs.length ∧ iv = .int .i64 i ∧ BldAt w1.heap.size (txt x (3 + i)) wr ∧ Below w1.heap.size w1 wr) (fun iv _ => x.custs.length - (intOf iv).toNat)
    case atStart => exact ⟨0, Nat.zero_le _, rfl, bb10, hal10⟩
    case round =>
      clear bb10 hal10 bx10
      obtain ⟨i, hi, rfl, hbd, hbel⟩ := hrel
      by_cases hlt : i < x.custs.length
      · obtain ⟨cu, hcu⟩ := some_of_lt hlt
        obtain ⟨b, o, rfl, hb, pv, hpv, q0, q1, q2, q3, q4, q5, q6, q7⟩ := HCC.out i cu hcu
        have hbw : Below w.heap.size w wr := hal1.trans (hbel.mono hal1.size)
        have x0 := cell_below hbw (Nat.le_refl _) q0
        have x1 := cell_below hbw (Nat.le_refl _) q1
        have x2 := cell_below hbw (Nat.le_refl _) q2
        have x3 := cell_below hbw (Nat.le_refl _) q3
        have x4 := cell_below hbw (Nat.le_refl _) q4
        have x5 := cell_below hbw (Nat.le_refl _) q5
        have x6 := cell_below hbw (Nat.le_refl _) q6
        have x7 := cell_below hbw (Nat.le_refl _) q7
        have hmem := List.mem_of_getElem? hcu
        have HPV := Lib.hid (RPats.below hpv hbw (Nat.le_refl _))
        have HCW := Lib.hid (HWF.out.2.2.2.2.1 cu hmem)
        have HCM := Lib.hid (HP6.out cu hmem)
        have HIL := Lib.hid (il_cust hcu)
        obtain ⟨Ap, cp, rfl, -⟩ := hpv.open_
        obtain ⟨wo, hwo⟩ : ∃ wo : World, wo = wr := ⟨_, rfl⟩
        subst hwo
        have bc := Blk.new wo 41 [.int .i64 cu.kind, .int .i64 cu.demand, .slice Ap cu.pats.length cp, .int .i64 cu.rate, .int .i64 cu.size, .int .i64 cu.start, .int .i64 cu.rule, .int .i64 cu.hold]
        obtain ⟨k0, k1, k2, k3, k4, k5, k6, k7⟩ := bc.cells8
        have halc := below_al (Below.refl wo.heap.size wo) (.cells #[.int .i64 cu.kind, .int .i64 cu.demand, .slice Ap cu.pats.length cp, .int .i64 cu.rate, .int .i64 cu.size, .int .i64 cu.start, .int .i64 cu.rule, .int .i64 cu.hold] 41)
        have bxo := bx1.below (hbel.trans (halc.mono hbel.size)) zx1
        have e0 : (wo.alloc (.cells #[.int .i64 cu.kind, .int .i64 cu.demand, .slice Ap cu.pats.length cp, .int .i64 cu.rate, .int .i64 cu.size, .int .i64 cu.start, .int .i64 cu.rule, .int .i64 cu.hold] 41)).cell? ⟨w.heap.size, 0, none⟩ = some (.int .i64 x.days) := bxo.cell 0
        obtain ⟨nd, hnd⟩ : ∃ nd : Nat, x.days = (nd : Int) := ⟨x.days.toNat, by omega⟩
        have hcall := customer_any cu nd (.slice Ap cu.pats.length cp) (wo.alloc (.cells #[.int .i64 cu.kind, .int .i64 cu.demand, .slice Ap cu.pats.length cp, .int .i64 cu.rate, .int .i64 cu.size, .int .i64 cu.start, .int .i64 cu.rule, .int .i64 cu.hold] 41)) (HPV.out.below halc (Nat.le_refl _)) HCW.out (by omega) (by omega) (by have := cust_pats HCM.out; omega)
        rw [← hnd] at hcall
        have HCALL := Lib.hid hcall
        clear hcall hnd hcu q0 q1 q2 q3 q4 q5 q6 q7 hpv hmem bxo bc
        go_wp2_with fail
        refine HCALL.out.mono ?_
        rintro e wA ⟨u, rfl, hu, hbA⟩
        have hA := below_nx halc hbA
        have hcl := custLine_len p2 HCW.out HCM.out
        have HCL := Lib.hid hcl
        clear hcl
        go_wp2_with fail
        refine (ln_any (custLine x.days cu) _ _ hu HCL.out.1 HCL.out.2).mono ?_
        rintro e wB ⟨sB, rfl, HSB, hbB⟩
        have hB := below_nx hA hbB
        go_wp2_with fail
        refine (write_any w1.heap.size (txt x (3 + i)) (lineP (custLine x.days cu)) sB wB (hbd.below hB (Nat.le_refl _)) HSB.out (by have := lineP_le HIL.out; omega)).mono ?_
        rintro e wC ⟨rfl, bbC, hbC, -⟩
        rw [← txt_succ HIL.out] at bbC
        have hC := (hbel.trans (hB.mono hbel.size)).trans hbC
        go_wp2_with fail
        go_roundw
        case rel => exact ⟨i + 1, by omega, by go_num, bbC, hC⟩
        case measure => simp [intOf]; omega
      · obtain rfl : i = x.custs.length := by omega
        have hal11 := below_al (Below.refl wr.heap.size wr) (.cells #[.string ⟨#[100, 105, 115, 116, 97, 110, 99, 101, 115]⟩] 9)
        have bb11 := hbd.below hal11 (Nat.le_refl _)
        have bs11 := Blk.new wr 9 [.string ⟨#[100, 105, 115, 116, 97, 110, 99, 101, 115]⟩]
        go_wp2_with fail
        refine (ln_any [wDist] _ _ (Blk.strs (l := [wDist]) bs11) (by decide) (by decide)).mono ?_
        rintro e w12 ⟨s12, rfl, HS12, hb12⟩
        have hal12 := below_nx hal11 hb12
        go_wp2_with fail
        refine (write_any w1.heap.size (txt x (3 + x.custs.length)) (lineP [wDist]) s12 w12 (hbd.below hal12 (Nat.le_refl _)) HS12.out (by have := lineP_le (il_dist x); omega)).mono ?_
        rintro e w13 ⟨rfl, bb13, hb13, -⟩
        rw [← txt_succ (il_dist x)] at bb13
        have hal13 := (hbel.trans (hal12.mono hbel.size)).trans hb13
        have bx13 := bx1.below hal13 zx1
        obtain ⟨d0, d1, d2, d3, d4, d5⟩ := bx13.cells6
        clear d0 d1 d2 d3 d4 hal11 bb11 bs11 hal12 hb12 hb13 hbel hbd HCC bx13
        go_wp2_with fail
        clear d5
        go_loopw [57] (fun iv wr => ∃ j, j ≤ x.dist.length ∧ iv = .int .i64 j ∧ BldAt w1.heap.size (txt x (3 + x.custs.length + 1 + j)) wr ∧ Below w1.heap.size w1 wr) (fun iv _ => x.dist.length - (intOf iv).toNat)
        case atStart => exact ⟨0, Nat.zero_le _, rfl, bb13, hal13⟩
        case round =>
          clear bb13 hal13
          obtain ⟨j, hj, rfl, hbd2, hbel2⟩ := hrel
          by_cases hlt2 : j < x.dist.length
          · obtain ⟨r, hr⟩ := some_of_lt hlt2
            obtain ⟨b, o, rfl, hb, A2, c2, q0, q1, q2, q3⟩ := HRW.out j r hr
            have hbw : Below w.heap.size w wr := hal1.trans (hbel2.mono hal1.size)
            have x0 := cell_below hbw (Nat.le_refl _) q0
            have hr8 := HP8.out r (List.mem_of_getElem? hr)
            have HR8 := Lib.hid hr8
            have HIL := Lib.hid (il_row hr)
            have HRI : Hid (RInts wr .i64 (.slice A2 r.length c2) r) := Lib.hid (RInts.below (RInts.of_cells q1 q2 q3) hbw (Nat.le_refl _))
            clear hr q0 q3 hr8
            go_wp2_with fail
            refine (words_any r _ _ (by rw [HR8.out.1]; omega) (fun z hz => by have := HR8.out.2 z hz; omega) HRI.out).mono ?_
            rintro e wA ⟨u, rfl, hu, hbA⟩
            go_wp2_with fail
            refine (ln_any (r.map decI) _ _ hu (by rw [List.length_map, HR8.out.1]; omega) (fun y hy => ?_)).mono ?_
            · obtain ⟨z, hz, rfl⟩ := List.mem_map.1 hy
              have := HR8.out.2 z hz
              have := dec21 (n := z) (by unfold W64; omega)
              omega
            rintro e wB ⟨sB, rfl, HSB, hbB⟩
            have hB := below_nx hbA hbB
            go_wp2_with fail
            refine (write_any w1.heap.size (txt x (3 + x.custs.length + 1 + j)) (lineP (r.map decI)) sB wB (hbd2.below hB (Nat.le_refl _)) HSB.out (by have := lineP_le HIL.out; omega)).mono ?_
            rintro e wC ⟨rfl, bbC, hbC, -⟩
            rw [← txt_succ HIL.out] at bbC
            have hC := (hbel2.trans (hB.mono hbel2.size)).trans hbC
            go_wp2_with fail
            go_roundw
            case rel => exact ⟨j + 1, by omega, by go_num, bbC, hC⟩
            case measure => simp [intOf]; omega
          · obtain rfl : j = x.dist.length := by omega
            rw [txt_all] at hbd2
            go_wp2_with fail
            refine (string_any w1.heap.size (instText x) _ hbd2).mono ?_
            rintro e w14 ⟨rfl, hb14⟩
            go_wp2_with fail
            go_ret2
            rw [HPT.out, HME.out]
            exact ⟨rfl, hal1.trans ((hbel2.trans hb14).mono hal1.size)⟩
end Go.Proofs.YtigljnnjamdcnaaDoor
