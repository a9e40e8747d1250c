/- The walk of the reference's Print. -/
import Derived.Test.YtigljnnjamdcnaaDoorW07t
import Derived.Test.YtigljnnjamdcnaaDoorP07j
import Derived.Test.YtigljnnjamdcnaaDoorQQ
namespace Go.Proofs.YtigljnnjamdcnaaDoor
open Go.RowKit P05 P06 P07

theorem str_size {s : ByteArray} {l : List UInt8} (h : s.data.toList = l) : s.size = l.length := by rw [← h]; exact (data_len s).symm
theorem visitW_len {c : Cust} {n k : Nat} (hw : c.wf) (hn : n ≤ 64) (hp : c.pats.length ≤ 64) : (joinB 32 (visitW c n k)).length ≤ 70000 := by
  have h := joinB_len 32 1000 (visitW c n k) fun x hx => by
    unfold visitW at hx
    simp only [List.mem_cons, List.mem_map] at hx
    rcases hx with rfl | rfl | ⟨s, -, rfl⟩
    · decide
    · have := dec21 hw.2.1; omega
    · rw [setText_len]; omega
  have h2 : (visitW c n k).length ≤ 66 := by
    unfold visitW
    have := List.length_take_le k c.pats
    simp
    omega
  have := Nat.mul_le_mul h2 (Nat.le_refl 1001)
  omega
set_option maxHeartbeats 8000000 in
set_option maxRecDepth 100000 in
theorem rprint7_any (v : Value) (x : Inst) (w : World) (hx : RInst w v x) (hwf : x.wf) (hm : may x = true) (hc : x.custs.length ≤ 900) (hlen : (instText x).length ≤ 100000000) :
    Calls Tryd.prog 11 #[v] w fun e w' => e = .returned (bstr (instText x)) ∧ Below w.heap.size w w' := by
  obtain ⟨cv, dv, rfl, hcs, hds⟩ := hx
  obtain ⟨A, c, rfl, hc1, hc2, hcell⟩ := hcs.open_
  obtain ⟨A1, c1, rfl, hd1, hd2, hrow⟩ := hds.open_
  have HCC := Lib.hid hcell
  have HRW := Lib.hid hrow
  have HWF := Lib.hid hwf
  obtain ⟨⟨p1, p2⟩, -, p3, p4, p5, p6, p7, p8⟩ := may_parts hm
  have HP6 := Lib.hid p6
  have HP8 := Lib.hid p8
  have bx1 := (Blk.new w 25 [.int .i64 x.days, .int .i64 x.veh, .int .i64 x.cap, .int .i64 x.len, .slice A x.custs.length c, .slice A1 x.dist.length c1])
  have hal1 := below_al (Below.refl w.heap.size w) (.cells #[.int .i64 x.days, .int .i64 x.veh, .int .i64 x.cap, .int .i64 x.len, .slice A x.custs.length c, .slice A1 x.dist.length c1] 25)
  obtain ⟨d0, d1, d2, d3, d4, d5⟩ := bx1.cells6
  have hri : RInts ((w.alloc (.cells #[.int .i64 x.days, .int .i64 x.veh, .int .i64 x.cap, .int .i64 x.len, .slice A x.custs.length c, .slice A1 x.dist.length c1] 25)).alloc (.cells #[.int .i64 x.days, .int .i64 x.veh, .int .i64 x.cap, .int .i64 x.len, .int .i64 x.custs.length] 3)) .i64 (.slice (some ⟨w.heap.size + 1, 0, none⟩) 5 5) [x.days, x.veh, x.cap, x.len, (x.custs.length : Int)] :=
    (Blk.newAt _ 3 ([x.days, x.veh, x.cap, x.len, (x.custs.length : Int)].map (.int .i64)) (g := w.heap.size + 1) (by simp)).RInts rfl (by decide) (by simp [maxLen])
  have hal2 := hal1.alloc hal1.size (.cells #[.int .i64 x.days, .int .i64 x.veh, .int .i64 x.cap, .int .i64 x.len, .int .i64 x.custs.length] 3)
  have bx2 := bx1.alloc (.cells #[.int .i64 x.days, .int .i64 x.veh, .int .i64 x.cap, .int .i64 x.len, .int .i64 x.custs.length] 3)
  have HP7 := Lib.hid p7
  clear hcs hds hcell hrow p6 p7 p8 hm
  go_enter Tryd.func11, Tryd.ntmps11
  go_wp2_with fail
  refine (rwords_any [x.days, x.veh, x.cap, x.len, (x.custs.length : Int)] _ _ (by simp) (fun z hz => by simp only [List.mem_cons, List.not_mem_nil, or_false] at hz; rcases hz with rfl | rfl | rfl | rfl | rfl <;> omega) hri).mono ?_
  rintro e w2 ⟨u, rfl, hu, hb2⟩
  obtain ⟨Au, cu, rfl, g1, g2, hcu⟩ := hu.open_
  obtain ⟨b, o, rfl, hbb, y0⟩ := hcu 0 _ rfl
  obtain ⟨b', o', hA', -, y1⟩ := hcu 1 _ rfl
  obtain ⟨rfl, rfl⟩ : b = b' ∧ o = o' := by simpa using hA'
  obtain ⟨b', o', hA', -, y2⟩ := hcu 2 _ rfl
  obtain ⟨rfl, rfl⟩ : b = b' ∧ o = o' := by simpa using hA'
  obtain ⟨b', o', hA', -, y3⟩ := hcu 3 _ rfl
  obtain ⟨rfl, rfl⟩ : b = b' ∧ o = o' := by simpa using hA'
  obtain ⟨b', o', hA', -, y4⟩ := hcu 4 _ rfl
  obtain ⟨rfl, rfl⟩ : b = b' ∧ o = o' := by simpa using hA'
  rw [Nat.add_zero] at y0
  have e5 : ([x.days, x.veh, x.cap, x.len, (x.custs.length : Int)].map decI).length = 5 := rfl
  rw [e5] at g1
  simp only [e5]
  have ha3 := below_nx hal2 hb2
  have bx3 := bx2.below hb2 bx2.lt
  obtain ⟨s0, hs0, -, hl0⟩ := str_of (decI x.days)
  have z0 : s0.size ≤ 21 := by rw [str_size hl0]; exact dec21 (by unfold W64; omega)
  change w2.cell? _ = some (bstr (decI x.days)) at y0
  rw [hs0] at y0
  obtain ⟨s1, hs1, -, hl1⟩ := str_of (decI x.veh)
  have z1 : s1.size ≤ 21 := by rw [str_size hl1]; exact dec21 (by unfold W64; omega)
  change w2.cell? _ = some (bstr (decI x.veh)) at y1
  rw [hs1] at y1
  obtain ⟨s2, hs2, -, hl2⟩ := str_of (decI x.cap)
  have z2 : s2.size ≤ 21 := by rw [str_size hl2]; exact dec21 (by unfold W64; omega)
  change w2.cell? _ = some (bstr (decI x.cap)) at y2
  rw [hs2] at y2
  obtain ⟨s3, hs3, -, hl3⟩ := str_of (decI x.len)
  have z3 : s3.size ≤ 21 := by rw [str_size hl3]; exact dec21 (by unfold W64; omega)
  change w2.cell? _ = some (bstr (decI x.len)) at y3
  rw [hs3] at y3
  obtain ⟨s4, hs4, -, hl4⟩ := str_of (decI (x.custs.length : Int))
  have z4 : s4.size ≤ 21 := by rw [str_size hl4]; exact dec21 (by unfold W64; omega)
  change w2.cell? _ = some (bstr (decI (x.custs.length : Int))) at y4
  rw [hs4] at y4
  obtain ⟨T1, hT1⟩ : ∃ T : ByteArray, T = (⟨#[116, 114, 97, 110, 116, 101, 114, 32, 49, 10, 100, 97, 121, 115, 32]⟩ : ByteArray) ++ s0 := ⟨_, rfl⟩
  have zT1 : T1.size ≤ 50 := by rw [hT1, ByteArray.size_append]; have : (⟨#[116, 114, 97, 110, 116, 101, 114, 32, 49, 10, 100, 97, 121, 115, 32]⟩ : ByteArray).size = 15 := rfl; omega
  obtain ⟨T2, hT2⟩ : ∃ T : ByteArray, T = T1 ++ (⟨#[32, 118, 101, 104, 105, 99, 108, 101, 115, 32]⟩ : ByteArray) := ⟨_, rfl⟩
  have zT2 : T2.size ≤ 100 := by rw [hT2, ByteArray.size_append]; have : (⟨#[32, 118, 101, 104, 105, 99, 108, 101, 115, 32]⟩ : ByteArray).size = 10 := rfl; omega
  obtain ⟨T3, hT3⟩ : ∃ T : ByteArray, T = T2 ++ s1 := ⟨_, rfl⟩
  have zT3 : T3.size ≤ 150 := by rw [hT3, ByteArray.size_append]; omega
  obtain ⟨T4, hT4⟩ : ∃ T : ByteArray, T = T3 ++ (⟨#[32, 99, 97, 112, 97, 99, 105, 116, 121, 32]⟩ : ByteArray) := ⟨_, rfl⟩
  have zT4 : T4.size ≤ 200 := by rw [hT4, ByteArray.size_append]; have : (⟨#[32, 99, 97, 112, 97, 99, 105, 116, 121, 32]⟩ : ByteArray).size = 10 := rfl; omega
  obtain ⟨T5, hT5⟩ : ∃ T : ByteArray, T = T4 ++ s2 := ⟨_, rfl⟩
  have zT5 : T5.size ≤ 250 := by rw [hT5, ByteArray.size_append]; omega
  obtain ⟨T6, hT6⟩ : ∃ T : ByteArray, T = T5 ++ (⟨#[32, 108, 101, 110, 103, 116, 104, 32]⟩ : ByteArray) := ⟨_, rfl⟩
  have zT6 : T6.size ≤ 300 := by rw [hT6, ByteArray.size_append]; have : (⟨#[32, 108, 101, 110, 103, 116, 104, 32]⟩ : ByteArray).size = 8 := rfl; omega
  obtain ⟨T7, hT7⟩ : ∃ T : ByteArray, T = T6 ++ s3 := ⟨_, rfl⟩
  have zT7 : T7.size ≤ 350 := by rw [hT7, ByteArray.size_append]; omega
  obtain ⟨T8, hT8⟩ : ∃ T : ByteArray, T = T7 ++ (⟨#[10, 99, 117, 115, 116, 111, 109, 101, 114, 115, 32]⟩ : ByteArray) := ⟨_, rfl⟩
  have zT8 : T8.size ≤ 400 := by rw [hT8, ByteArray.size_append]; have : (⟨#[10, 99, 117, 115, 116, 111, 109, 101, 114, 115, 32]⟩ : ByteArray).size = 11 := rfl; omega
  obtain ⟨T9, hT9⟩ : ∃ T : ByteArray, T = T8 ++ s4 := ⟨_, rfl⟩
  have zT9 : T9.size ≤ 450 := by rw [hT9, ByteArray.size_append]; omega
  obtain ⟨T10, hT10⟩ : ∃ T : ByteArray, T = T9 ++ (⟨#[10]⟩ : ByteArray) := ⟨_, rfl⟩
  have zT10 : T10.size ≤ 500 := by rw [hT10, ByteArray.size_append]; have : (⟨#[10]⟩ : ByteArray).size = 1 := rfl; omega
  have HT0 : Hid (T10.data.toList = txt x 3) := Lib.hid (by
    rw [hT10, ba_append, hT9, ba_append, hT8, ba_append, hT7, ba_append, hT6, ba_append, hT5, ba_append, hT4, ba_append, hT3, ba_append, hT2, ba_append, hT1, ba_append, hl0, hl1, hl2, hl3, hl4, head_txt])
  have HBX3 := Lib.hid bx3
  have HC1 := Lib.hid hT1
  have HC2 := Lib.hid hT2
  have HC3 := Lib.hid hT3
  have HC4 := Lib.hid hT4
  have HC5 := Lib.hid hT5
  have HC6 := Lib.hid hT6
  have HC7 := Lib.hid hT7
  have HC8 := Lib.hid hT8
  have HC9 := Lib.hid hT9
  have HC10 := Lib.hid hT10
  clear hT1 hT2 hT3 hT4 hT5 hT6 hT7 hT8 hT9 hT10
  clear hri hal2 bx2 hcu hu hb2 d0 d1 d2 d3 d4 d5 hl0 hl1 hl2 hl3 hl4 hs0 hs1 hs2 hs3 hs4 bx3 bx1 hal1
  go_wp2_with fail
  refine wp_region_N (fun wS => Below w2.heap.size w2 wS) [] (by kernel_rfl) ?_ (fun hS => ?_)
  · exact (Below.refl _ _).drew
  refine wpAnyM_take 0 (v := ?_) rfl (by kernel_rfl) (fun _ _ _ h => h) (by rfl) ?_ hS ?_
  rotate_left
  · intro wS hSw
    (try dsimp only at hSw)
    go_simp
    try with_reducible rfl
  try simp only [Act.put, List.setIfInBounds_toArray]
  refine wpAnyM_take 1 (v := ?_) rfl (by kernel_rfl) (fun _ _ _ h => h) (by rfl) ?_ hS ?_
  rotate_left
  · intro wS hSw
    (try dsimp only at hSw)
    go_simp
    try with_reducible rfl
  try simp only [Act.put]
  refine wpAnyM_take 2 (v := ?_) rfl (by kernel_rfl) (fun _ _ _ h => h) (by rfl) ?_ hS ?_
  rotate_left
  · intro wS hSw
    (try dsimp only at hSw)
    have hc := cell_below hSw (Nat.le_refl _) y0
    go_simp
    try with_reducible rfl
  try simp only [Act.put]
  refine wpAnyM_take 3 (v := .string T1) rfl (by kernel_rfl) (fun _ _ _ h => h) (by rfl) ?_ hS ?_
  · intro wS hSw
    (try dsimp only at hSw)
    go_simp
    rw [if_neg (by omega), HC1.out]
  try simp only [Act.put]
  refine wpAnyM_take 4 (v := .string T2) rfl (by kernel_rfl) (fun _ _ _ h => h) (by rfl) ?_ hS ?_
  · intro wS hSw
    (try dsimp only at hSw)
    go_simp
    rw [if_neg (by omega), HC2.out]
  try simp only [Act.put]
  refine wpAnyM_take 5 (v := ?_) rfl (by kernel_rfl) (fun _ _ _ h => h) (by rfl) ?_ hS ?_
  rotate_left
  · intro wS hSw
    (try dsimp only at hSw)
    go_simp
    try with_reducible rfl
  try simp only [Act.put]
  refine wpAnyM_take 6 (v := ?_) rfl (by kernel_rfl) (fun _ _ _ h => h) (by rfl) ?_ hS ?_
  rotate_left
  · intro wS hSw
    (try dsimp only at hSw)
    go_simp
    try with_reducible rfl
  try simp only [Act.put]
  refine wpAnyM_take 7 (v := ?_) rfl (by kernel_rfl) (fun _ _ _ h => h) (by rfl) ?_ hS ?_
  rotate_left
  · intro wS hSw
    (try dsimp only at hSw)
    have hc := cell_below hSw (Nat.le_refl _) y1
    go_simp
    try with_reducible rfl
  try simp only [Act.put]
  refine wpAnyM_take 8 (v := .string T3) rfl (by kernel_rfl) (fun _ _ _ h => h) (by rfl) ?_ hS ?_
  · intro wS hSw
    (try dsimp only at hSw)
    go_simp
    rw [if_neg (by omega), HC3.out]
  try simp only [Act.put]
  refine wpAnyM_take 9 (v := .string T4) rfl (by kernel_rfl) (fun _ _ _ h => h) (by rfl) ?_ hS ?_
  · intro wS hSw
    (try dsimp only at hSw)
    go_simp
    rw [if_neg (by omega), HC4.out]
  try simp only [Act.put]
  refine wpAnyM_take 10 (v := ?_) rfl (by kernel_rfl) (fun _ _ _ h => h) (by rfl) ?_ hS ?_
  rotate_left
  · intro wS hSw
    (try dsimp only at hSw)
    go_simp
    try with_reducible rfl
  try simp only [Act.put]
  refine wpAnyM_take 11 (v := ?_) rfl (by kernel_rfl) (fun _ _ _ h => h) (by rfl) ?_ hS ?_
  rotate_left
  · intro wS hSw
    (try dsimp only at hSw)
    go_simp
    try with_reducible rfl
  try simp only [Act.put]
  refine wpAnyM_take 12 (v := ?_) rfl (by kernel_rfl) (fun _ _ _ h => h) (by rfl) ?_ hS ?_
  rotate_left
  · intro wS hSw
    (try dsimp only at hSw)
    have hc := cell_below hSw (Nat.le_refl _) y2
    go_simp
    try with_reducible rfl
  try simp only [Act.put]
  refine wpAnyM_take 13 (v := .string T5) rfl (by kernel_rfl) (fun _ _ _ h => h) (by rfl) ?_ hS ?_
  · intro wS hSw
    (try dsimp only at hSw)
    go_simp
    rw [if_neg (by omega), HC5.out]
  try simp only [Act.put]
  refine wpAnyM_take 14 (v := .string T6) rfl (by kernel_rfl) (fun _ _ _ h => h) (by rfl) ?_ hS ?_
  · intro wS hSw
    (try dsimp only at hSw)
    go_simp
    rw [if_neg (by omega), HC6.out]
  try simp only [Act.put]
  refine wpAnyM_take 15 (v := ?_) rfl (by kernel_rfl) (fun _ _ _ h => h) (by rfl) ?_ hS ?_
  rotate_left
  · intro wS hSw
    (try dsimp only at hSw)
    go_simp
    try with_reducible rfl
  try simp only [Act.put]
  refine wpAnyM_take 16 (v := ?_) rfl (by kernel_rfl) (fun _ _ _ h => h) (by rfl) ?_ hS ?_
  rotate_left
  · intro wS hSw
    (try dsimp only at hSw)
    go_simp
    try with_reducible rfl
  try simp only [Act.put]
  refine wpAnyM_take 17 (v := ?_) rfl (by kernel_rfl) (fun _ _ _ h => h) (by rfl) ?_ hS ?_
  rotate_left
  · intro wS hSw
    (try dsimp only at hSw)
    have hc := cell_below hSw (Nat.le_refl _) y3
    go_simp
    try with_reducible rfl
  try simp only [Act.put]
  refine wpAnyM_take 18 (v := .string T7) rfl (by kernel_rfl) (fun _ _ _ h => h) (by rfl) ?_ hS ?_
  · intro wS hSw
    (try dsimp only at hSw)
    go_simp
    rw [if_neg (by omega), HC7.out]
  try simp only [Act.put]
  refine wpAnyM_take 19 (v := .string T8) rfl (by kernel_rfl) (fun _ _ _ h => h) (by rfl) ?_ hS ?_
  · intro wS hSw
    (try dsimp only at hSw)
    go_simp
    rw [if_neg (by omega), HC8.out]
  try simp only [Act.put]
  refine wpAnyM_take 20 (v := ?_) rfl (by kernel_rfl) (fun _ _ _ h => h) (by rfl) ?_ hS ?_
  rotate_left
  · intro wS hSw
    (try dsimp only at hSw)
    go_simp
    try with_reducible rfl
  try simp only [Act.put]
  refine wpAnyM_take 21 (v := ?_) rfl (by kernel_rfl) (fun _ _ _ h => h) (by rfl) ?_ hS ?_
  rotate_left
  · intro wS hSw
    (try dsimp only at hSw)
    go_simp
    try with_reducible rfl
  try simp only [Act.put]
  refine wpAnyM_take 22 (v := ?_) rfl (by kernel_rfl) (fun _ _ _ h => h) (by rfl) ?_ hS ?_
  rotate_left
  · intro wS hSw
    (try dsimp only at hSw)
    have hc := cell_below hSw (Nat.le_refl _) y4
    go_simp
    try with_reducible rfl
  try simp only [Act.put]
  refine wpAnyM_take 23 (v := .string T9) rfl (by kernel_rfl) (fun _ _ _ h => h) (by rfl) ?_ hS ?_
  · intro wS hSw
    (try dsimp only at hSw)
    go_simp
    rw [if_neg (by omega), HC9.out]
  try simp only [Act.put]
  refine wpAnyM_take 24 (v := .string T10) rfl (by kernel_rfl) (fun _ _ _ h => h) (by rfl) ?_ hS ?_
  · intro wS hSw
    (try dsimp only at hSw)
    go_simp
    rw [if_neg (by omega), HC10.out]
  try simp only [Act.put]
  refine wpAnyM_take 25 (v := ?_) rfl (by kernel_rfl) (fun _ _ _ h => h) (by rfl) ?_ hS ?_
  rotate_left
  · intro wS hSw
    (try dsimp only at hSw)
    go_simp
    try with_reducible rfl
  try simp only [Act.put]
  refine wpAnyM_done (by kernel_rfl) ?_
  unfold onlyN
  clear y0 y1 y2 y3 y4 z0 z1 z2 z3 z4 HC1 HC2 HC3 HC4 HC5 HC6 HC7 HC8 HC9 HC10 zT1 zT2 zT3 zT4 zT5 zT6 zT7 zT8 zT9
  have HB0 := Lib.hid (HBX3.out.drew)
  have HA0 := Lib.hid (ha3.drew)
  go_wp2_with fail
  go_loopw [4, 5] (fun sv iv wr => ∃ (i : Nat) (s : ByteArray), i ≤ x.custs.length ∧ iv = .int .i64 i ∧ sv = .string s ∧ Hid (s.data.toList = txt x (3 + i)) ∧ s.size ≤ 100000000 ∧ Below w2.heap.size w2 wr) (fun _ iv _ => x.custs.length - (intOf iv).toNat)
  case atStart => exact ⟨0, T10, Nat.zero_le _, rfl, rfl, HT0, by omega, (Below.refl _ _).drew⟩
  case round =>
    obtain ⟨i, s, hi, rfl, rfl, HT, hs, hbel⟩ := hrel
    have bxr := HBX3.out.below hbel HBX3.out.lt
    obtain ⟨d0, d1, d2, d3, d4, d5⟩ := bxr.cells6
    clear d0 d1 d2 d3 d5
    by_cases hlt : i < x.custs.length
    · obtain ⟨cu, hcu⟩ := some_of_lt hlt
      obtain ⟨b, o, rfl, hb, pv, hpv, q0, q1, q2, q3, q4, q5, q6, q7⟩ := HCC.out i cu hcu
      have hbw : Below w.heap.size w wr := ha3.trans (hbel.mono ha3.size)
      have x0 := cell_below hbw (Nat.le_refl _) q0
      have x1 := cell_below hbw (Nat.le_refl _) q1
      have x2 := cell_below hbw (Nat.le_refl _) q2
      have x3 := cell_below hbw (Nat.le_refl _) q3
      have x4 := cell_below hbw (Nat.le_refl _) q4
      have x5 := cell_below hbw (Nat.le_refl _) q5
      have x6 := cell_below hbw (Nat.le_refl _) q6
      have x7 := cell_below hbw (Nat.le_refl _) q7
      have hmem := List.mem_of_getElem? hcu
      have HCW := Lib.hid (HWF.out.2.2.2.2.1 cu hmem)
      have HCM := Lib.hid (HP6.out cu hmem)
      have HIL := Lib.hid (il_cust hcu)
      have HPO := Lib.hid hpv
      obtain ⟨Ap, cp, rfl, hp1, hp2, hpc⟩ := hpv.open_
      have HPC := Lib.hid hpc
      have hpl := cust_pats HCM.out
      obtain ⟨nd, hnd⟩ : ∃ nd : Nat, x.days = (nd : Int) := ⟨x.days.toNat, by omega⟩
      have hndt : x.days.toNat = nd := by omega
      have HND := Lib.hid hnd
      have HNDT := Lib.hid hndt
      have hn64 : nd ≤ 64 := by omega
      have hn1 : 1 ≤ nd := by omega
      obtain ⟨wo, hwo⟩ : ∃ wo : World, wo = wr := ⟨_, rfl⟩
      subst hwo
      have bc := Blk.new wo 41 [.int .i64 cu.kind, .int .i64 cu.demand, .slice Ap cu.pats.length cp, .int .i64 cu.rate, .int .i64 cu.size, .int .i64 cu.start, .int .i64 cu.rule, .int .i64 cu.hold]
      obtain ⟨k0, k1, k2, k3, k4, k5, k6, k7⟩ := bc.cells8
      have halc := below_al (Below.refl wo.heap.size wo) (.cells #[.int .i64 cu.kind, .int .i64 cu.demand, .slice Ap cu.pats.length cp, .int .i64 cu.rate, .int .i64 cu.size, .int .i64 cu.start, .int .i64 cu.rule, .int .i64 cu.hold] 41)
      have helc := hbel.alloc hbel.size (.cells #[.int .i64 cu.kind, .int .i64 cu.demand, .slice Ap cu.pats.length cp, .int .i64 cu.rate, .int .i64 cu.size, .int .i64 cu.start, .int .i64 cu.rule, .int .i64 cu.hold] 41)
      have HTL := Lib.hid (lineP_le HIL.out)
      obtain ⟨v1, v2, -, v4, v5, v6, v7, v8⟩ := HCW.out
      unfold W64 at v1 v2 v4 v5 v6 v7 v8
      clear hcu q0 q1 q2 q3 q4 q5 q6 q7 hpv hmem hpc hnd hndt
      by_cases hk : cu.kind = 1
      · have hkb : (cu.kind == 1) = true := by rw [hk]; rfl
        have HLN := Lib.hid (visitW_line (days := x.days) hk)
        clear hk
        go_wp2_with fail
        refine (rdec_any cu.demand _ v2.1 v2.2).mono ?_
        rintro e w4 ⟨td, rfl, HTD, hb4⟩
        have htd : td.data.toList = decI cu.demand := by rw [HTD.out]
        have ztd : td.size ≤ 21 := by rw [str_size htd]; exact dec21 ⟨v2.1, v2.2⟩
        have hel4 := below_nx helc hb4
        have bc4 := bc.below hb4 bc.lt
        have HT1 : Hid ((s ++ (⟨#[118, 105, 115, 105, 116, 32]⟩ : ByteArray) ++ td).data.toList = txt x (3 + i) ++ joinB 32 (visitW cu nd 0)) := Lib.hid (by
          rw [ba_append, ba_append, htd, HT.out, visitW_zero, List.append_assoc])
        have hs1 : (s ++ (⟨#[118, 105, 115, 105, 116, 32]⟩ : ByteArray) ++ td).size ≤ 100100000 := by
          rw [ByteArray.size_append, ByteArray.size_append]
          have : (⟨#[118, 105, 115, 105, 116, 32]⟩ : ByteArray).size = 6 := rfl
          omega
        clear k0 k1 k2 k3 k4 k5 k6 k7 hb4 htd
        go_wp2_with fail
        go_loopw [4, 7] (fun sv kv wr => ∃ (k : Nat) (s : ByteArray), k ≤ cu.pats.length ∧ kv = .int .i64 k ∧ sv = .string s ∧ Hid (s.data.toList = txt x (3 + i) ++ joinB 32 (visitW cu nd k)) ∧ s.size ≤ 100100000 ∧ Below w4.heap.size w4 wr) (fun _ kv _ => cu.pats.length - (intOf kv).toNat)
        case atStart => exact ⟨0, _, Nat.zero_le _, rfl, rfl, HT1, hs1, Below.refl _ _⟩
        case round =>
          clear HT1 hs1
          obtain ⟨k, s3, hk, rfl, rfl, HT3, hs3, hbel3⟩ := hrel
          have bc5 := bc4.below hbel3 bc4.lt
          have m2 := bc5.cell 2
          simp only [List.getElem?_cons_succ, List.getElem?_cons_zero] at m2
          by_cases hlt3 : k < cu.pats.length
          · obtain ⟨p, hp⟩ := some_of_lt hlt3
            obtain ⟨b3, o3, rfl, hb3, hc3⟩ := HPC.out k p hp
            have hbw3 : Below w.heap.size w wr := ha3.trans ((hel4.trans (hbel3.mono hel4.size)).mono ha3.size)
            have m3 := cell_below hbw3 (Nat.le_refl _) hc3
            have bx4 := HBX3.out.below (hel4.trans (hbel3.mono hel4.size)) HBX3.out.lt
            have m4 := bx4.cell 0
            simp only [List.getElem?_cons_zero] at m4
            have hpr := HCW.out.2.2.1 p (List.mem_of_getElem? hp)
            have HST := Lib.hid (visitW_step (n := nd) hp)
            have HRT : Hid (∀ W : World, Calls Tryd.prog 34 #[.int .u64 (p : Int), .int .i64 x.days] W fun e w' => ∃ t : ByteArray, e = .returned (.string t) ∧ Hid (t = ⟨(setText p nd).toArray⟩) ∧ Below W.heap.size W w') := Lib.hid (fun W => by
              rw [HND.out]
              exact rtext_any p nd W hpr hn1 hn64)
            obtain ⟨P1, hP1⟩ : ∃ P : ByteArray, P = s3 ++ (⟨#[32]⟩ : ByteArray) := ⟨_, rfl⟩
            have zP1 : P1.size ≤ 100100001 := by rw [hP1, ByteArray.size_append]; have : (⟨#[32]⟩ : ByteArray).size = 1 := rfl; omega
            have HP1 := Lib.hid hP1
            have M2 := Lib.hid m2
            clear hp hc3 hP1 bx4 bxr
            go_wp2_with fail
            refine wp_region_N (fun wS => Below wr.heap.size wr wS) [] (by kernel_rfl) ?_ (fun hS => ?_)
            · exact (Below.refl _ _).drew
            refine wpAnyM_take 0 (v := ?_) rfl (by kernel_rfl) (fun _ _ _ h => h) (by rfl) ?_ hS ?_
            rotate_left
            · intro wS hSw
              (try dsimp only at hSw)
              go_simp
              try with_reducible rfl
            try simp only [Act.put, List.setIfInBounds_toArray]
            refine wpAnyM_take 1 (v := .string P1) rfl (by kernel_rfl) (fun _ _ _ h => h) (by rfl) ?_ hS ?_
            · intro wS hSw
              (try dsimp only at hSw)
              go_simp
              rw [if_neg (by omega), HP1.out]
            try simp only [Act.put]
            refine wpAnyM_take 2 (v := ?_) rfl (by kernel_rfl) (fun _ _ _ h => h) (by rfl) ?_ hS ?_
            rotate_left
            · intro wS hSw
              (try dsimp only at hSw)
              go_simp
              try with_reducible rfl
            try simp only [Act.put]
            refine wpAnyM_take 3 (v := ?_) rfl (by kernel_rfl) (fun _ _ _ h => h) (by rfl) ?_ hS ?_
            rotate_left
            · intro wS hSw
              (try dsimp only at hSw)
              have hc := cell_below hSw (Nat.le_refl _) M2.out
              go_simp
              try with_reducible rfl
            try simp only [Act.put]
            refine wpAnyM_take 4 (v := ?_) rfl (by kernel_rfl) (fun _ _ _ h => h) (by rfl) ?_ hS ?_
            rotate_left
            · intro wS hSw
              (try dsimp only at hSw)
              go_simp
              try with_reducible rfl
            try simp only [Act.put]
            refine wpAnyM_take 5 (v := ?_) rfl (by kernel_rfl) (fun _ _ _ h => h) (by rfl) ?_ hS ?_
            rotate_left
            · intro wS hSw
              (try dsimp only at hSw)
              go_simp
              try with_reducible rfl
            try simp only [Act.put]
            refine wpAnyM_take 6 (v := ?_) rfl (by kernel_rfl) (fun _ _ _ h => h) (by rfl) ?_ hS ?_
            rotate_left
            · intro wS hSw
              (try dsimp only at hSw)
              have hc := cell_below hSw (Nat.le_refl _) m3
              go_simp
              try with_reducible rfl
            try simp only [Act.put]
            refine wpAnyM_take 7 (v := ?_) rfl (by kernel_rfl) (fun _ _ _ h => h) (by rfl) ?_ hS ?_
            rotate_left
            · intro wS hSw
              (try dsimp only at hSw)
              go_simp
              try with_reducible rfl
            try simp only [Act.put]
            refine wpAnyM_take 8 (v := ?_) rfl (by kernel_rfl) (fun _ _ _ h => h) (by rfl) ?_ hS ?_
            rotate_left
            · intro wS hSw
              (try dsimp only at hSw)
              have hc := cell_below hSw (Nat.le_refl _) m4
              go_simp
              try with_reducible rfl
            try simp only [Act.put]
            refine wpAnyM_one 9 rfl (by kernel_rfl) (by rfl) (fun K hK => ?_)
            go_simp
            refine (HRT.out _).mono ?_
            rintro e w6 ⟨tp, rfl, HTP, hb6⟩
            have hS6 : Below wr.heap.size wr w6 := hS.trans (hb6.mono hS.size)
            refine hK.out _ _ hS6 ?_
            clear hK K
            try simp only [Act.put, List.setIfInBounds_toArray, List.set_cons_zero, List.set_cons_succ]
            have htp : tp.data.toList = setText p nd := by rw [HTP.out]
            have ztp : tp.size ≤ 64 := by rw [str_size htp, setText_len]; omega
            obtain ⟨P2, hP2⟩ : ∃ P : ByteArray, P = P1 ++ tp := ⟨_, rfl⟩
            have HP2 := Lib.hid hP2
            clear hP2
            refine wpAnyM_take 10 (v := .string P2) rfl (by kernel_rfl) (fun _ _ _ h => h) (by rfl) ?_ hS6 ?_
            · intro wS hSw
              (try dsimp only at hSw)
              go_simp
              rw [if_neg (by omega), HP2.out]
            try simp only [Act.put, List.setIfInBounds_toArray]
            refine wpAnyM_take 11 (v := ?_) rfl (by kernel_rfl) (fun _ _ _ h => h) (by rfl) ?_ hS6 ?_
            rotate_left
            · intro wS hSw
              (try dsimp only at hSw)
              go_simp
              try with_reducible rfl
            try simp only [Act.put]
            refine wpAnyM_done (by kernel_rfl) ?_
            unfold onlyN
            have HT4 : Hid (P2.data.toList = txt x (3 + i) ++ joinB 32 (visitW cu nd (k + 1))) := Lib.hid (by
              rw [HP2.out, ba_append, HP1.out, ba_append, htp, HT3.out, HST.out]
              simp)
            have hs4 : P2.size ≤ 100100000 := by
              rw [str_size HT4.out, List.length_append]
              have := visitW_len (n := nd) (k := k + 1) HCW.out hn64 hpl
              have := txt_le x (3 + i)
              omega
            clear m2 m3 m4
            go_wp2_with fail
            go_roundw
            case rel => exact ⟨k + 1, P2, by omega, by go_num, rfl, HT4, hs4, hbel3.trans (hS6.mono hbel3.size)⟩
            case measure => simp [intOf]; omega
          · obtain rfl : k = cu.pats.length := by omega
            have HT4 : Hid ((s3 ++ (⟨#[10]⟩ : ByteArray)).data.toList = txt x (3 + (i + 1))) := Lib.hid (by
              rw [ba_append, HT3.out, ← Nat.add_assoc, txt_succ HIL.out, HLN.out, HNDT.out]
              simp)
            have hs4 : (s3 ++ (⟨#[10]⟩ : ByteArray)).size ≤ 100000000 := by
              rw [str_size HT4.out]
              have := txt_le x (3 + (i + 1))
              omega
            go_wp2_with fail
            go_roundw
            case rel => exact ⟨i + 1, _, by omega, by go_num, rfl, HT4, hs4, hel4.trans (hbel3.mono hel4.size)⟩
            case measure => simp [intOf]; omega
      · have hkb : (cu.kind == 1) = false := by rw [beq_eq_false_iff_ne]; exact hk
        have HLN := Lib.hid (tank_line (days := x.days) hk)
        have HRU := Lib.hid (tank_rule hk HCM.out)
        have hri4 : RInts ((wo.alloc (.cells #[.int .i64 cu.kind, .int .i64 cu.demand, .slice Ap cu.pats.length cp, .int .i64 cu.rate, .int .i64 cu.size, .int .i64 cu.start, .int .i64 cu.rule, .int .i64 cu.hold] 41)).alloc (.cells #[.int .i64 cu.rate, .int .i64 cu.size, .int .i64 cu.start, .int .i64 cu.hold] 3)) .i64 (.slice (some ⟨wo.heap.size + 1, 0, none⟩) 4 4) [cu.rate, cu.size, cu.start, cu.hold] :=
          (Blk.newAt _ 3 ([cu.rate, cu.size, cu.start, cu.hold].map (.int .i64)) (g := wo.heap.size + 1) (by simp)).RInts rfl (by decide) (by simp [maxLen])
        have held := helc.alloc helc.size (.cells #[.int .i64 cu.rate, .int .i64 cu.size, .int .i64 cu.start, .int .i64 cu.hold] 3)
        have bcd := bc.alloc (.cells #[.int .i64 cu.rate, .int .i64 cu.size, .int .i64 cu.start, .int .i64 cu.hold] 3)
        clear hk
        go_wp2_with fail
        refine (rwords_any [cu.rate, cu.size, cu.start, cu.hold] _ _ (by simp) (fun z hz => by simp only [List.mem_cons, List.not_mem_nil, or_false] at hz; rcases hz with rfl | rfl | rfl | rfl <;> assumption) hri4).mono ?_
        rintro e w4 ⟨u4, rfl, hu4, hb4⟩
        obtain ⟨Ae, ce, rfl, j1, j2, hcu4⟩ := hu4.open_
        obtain ⟨b4, o4, rfl, hbb4, y0⟩ := hcu4 0 _ rfl
        obtain ⟨b', o', hA', -, y1⟩ := hcu4 1 _ rfl
        obtain ⟨rfl, rfl⟩ : b4 = b' ∧ o4 = o' := by simpa using hA'
        obtain ⟨b', o', hA', -, y2⟩ := hcu4 2 _ rfl
        obtain ⟨rfl, rfl⟩ : b4 = b' ∧ o4 = o' := by simpa using hA'
        obtain ⟨b', o', hA', -, y3⟩ := hcu4 3 _ rfl
        obtain ⟨rfl, rfl⟩ : b4 = b' ∧ o4 = o' := by simpa using hA'
        rw [Nat.add_zero] at y0
        have e4 : ([cu.rate, cu.size, cu.start, cu.hold].map decI).length = 4 := rfl
        rw [e4] at j1
        simp only [e4]
        have hel4 := held.trans (hb4.mono held.size)
        have bc4 := bcd.below hb4 bcd.lt
        have m6 := bc4.cell 6
        simp only [List.getElem?_cons_succ, List.getElem?_cons_zero] at m6
        obtain ⟨r0, hr0, -, hrl0⟩ := str_of (decI cu.rate)
        have z0 : r0.size ≤ 21 := by rw [str_size hrl0]; exact dec21 v4
        change w4.cell? _ = some (bstr (decI cu.rate)) at y0
        rw [hr0] at y0
        have HR0 := Lib.hid hrl0
        obtain ⟨r1, hr1, -, hrl1⟩ := str_of (decI cu.size)
        have z1 : r1.size ≤ 21 := by rw [str_size hrl1]; exact dec21 v5
        change w4.cell? _ = some (bstr (decI cu.size)) at y1
        rw [hr1] at y1
        have HR1 := Lib.hid hrl1
        obtain ⟨r2, hr2, -, hrl2⟩ := str_of (decI cu.start)
        have z2 : r2.size ≤ 21 := by rw [str_size hrl2]; exact dec21 v6
        change w4.cell? _ = some (bstr (decI cu.start)) at y2
        rw [hr2] at y2
        have HR2 := Lib.hid hrl2
        obtain ⟨r3, hr3, -, hrl3⟩ := str_of (decI cu.hold)
        have z3 : r3.size ≤ 21 := by rw [str_size hrl3]; exact dec21 v8
        change w4.cell? _ = some (bstr (decI cu.hold)) at y3
        rw [hr3] at y3
        have HR3 := Lib.hid hrl3
        have HM6 := Lib.hid m6
        clear k0 k1 k2 k3 k4 k5 k6 k7 hri4 held bcd hcu4 hu4 hb4 hr0 hr1 hr2 hr3 hrl0 hrl1 hrl2 hrl3 bxr
        rcases HRU.out with hru | hru
        · have hrb : (cu.rule == 2) = false := by rw [hru]; rfl
          have HLT : Hid (lineP (custLine x.days cu) = [116, 97, 110, 107, 32] ++ decI cu.rate ++ [32] ++ decI cu.size ++ [32] ++ decI cu.start ++ [32] ++ wFill ++ [32] ++ decI cu.hold ++ [10]) := Lib.hid (by rw [HLN.out, hru]; rfl)
          clear hru
          obtain ⟨U1, hU1⟩ : ∃ T : ByteArray, T = s ++ (⟨#[116, 97, 110, 107, 32]⟩ : ByteArray) := ⟨_, rfl⟩
          have zU1 : U1.size ≤ 100000030 := by rw [hU1, ByteArray.size_append]; have : (⟨#[116, 97, 110, 107, 32]⟩ : ByteArray).size = 5 := rfl; omega
          obtain ⟨U2, hU2⟩ : ∃ T : ByteArray, T = U1 ++ r0 := ⟨_, rfl⟩
          have zU2 : U2.size ≤ 100000060 := by rw [hU2, ByteArray.size_append]; omega
          obtain ⟨U3, hU3⟩ : ∃ T : ByteArray, T = U2 ++ (⟨#[32]⟩ : ByteArray) := ⟨_, rfl⟩
          have zU3 : U3.size ≤ 100000090 := by rw [hU3, ByteArray.size_append]; have : (⟨#[32]⟩ : ByteArray).size = 1 := rfl; omega
          obtain ⟨U4, hU4⟩ : ∃ T : ByteArray, T = U3 ++ r1 := ⟨_, rfl⟩
          have zU4 : U4.size ≤ 100000120 := by rw [hU4, ByteArray.size_append]; omega
          obtain ⟨U5, hU5⟩ : ∃ T : ByteArray, T = U4 ++ (⟨#[32]⟩ : ByteArray) := ⟨_, rfl⟩
          have zU5 : U5.size ≤ 100000150 := by rw [hU5, ByteArray.size_append]; have : (⟨#[32]⟩ : ByteArray).size = 1 := rfl; omega
          obtain ⟨U6, hU6⟩ : ∃ T : ByteArray, T = U5 ++ r2 := ⟨_, rfl⟩
          have zU6 : U6.size ≤ 100000180 := by rw [hU6, ByteArray.size_append]; omega
          obtain ⟨U7, hU7⟩ : ∃ T : ByteArray, T = U6 ++ (⟨#[32]⟩ : ByteArray) := ⟨_, rfl⟩
          have zU7 : U7.size ≤ 100000210 := by rw [hU7, ByteArray.size_append]; have : (⟨#[32]⟩ : ByteArray).size = 1 := rfl; omega
          obtain ⟨U8, hU8⟩ : ∃ T : ByteArray, T = U7 ++ (⟨#[102, 105, 108, 108]⟩ : ByteArray) := ⟨_, rfl⟩
          have zU8 : U8.size ≤ 100000240 := by rw [hU8, ByteArray.size_append]; have : (⟨#[102, 105, 108, 108]⟩ : ByteArray).size = 4 := rfl; omega
          obtain ⟨U9, hU9⟩ : ∃ T : ByteArray, T = U8 ++ (⟨#[32]⟩ : ByteArray) := ⟨_, rfl⟩
          have zU9 : U9.size ≤ 100000270 := by rw [hU9, ByteArray.size_append]; have : (⟨#[32]⟩ : ByteArray).size = 1 := rfl; omega
          obtain ⟨U10, hU10⟩ : ∃ T : ByteArray, T = U9 ++ r3 := ⟨_, rfl⟩
          have zU10 : U10.size ≤ 100000300 := by rw [hU10, ByteArray.size_append]; omega
          have HU1 := Lib.hid hU1
          have HU2 := Lib.hid hU2
          have HU3 := Lib.hid hU3
          have HU4 := Lib.hid hU4
          have HU5 := Lib.hid hU5
          have HU6 := Lib.hid hU6
          have HU7 := Lib.hid hU7
          have HU8 := Lib.hid hU8
          have HU9 := Lib.hid hU9
          have HU10 := Lib.hid hU10
          clear hU1 hU2 hU3 hU4 hU5 hU6 hU7 hU8 hU9 hU10
          go_wp2_with fail
          refine wp_region_N (fun wS => Below w4.heap.size w4 wS) [] (by kernel_rfl) ?_ (fun hS => ?_)
          · exact (Below.refl _ _).drew
          refine wpAnyM_take 0 (v := ?_) rfl (by kernel_rfl) (fun _ _ _ h => h) (by rfl) ?_ hS ?_
          rotate_left
          · intro wS hSw
            (try dsimp only at hSw)
            go_simp
            try with_reducible rfl
          try simp only [Act.put, List.setIfInBounds_toArray]
          refine wpAnyM_take 1 (v := .string U1) rfl (by kernel_rfl) (fun _ _ _ h => h) (by rfl) ?_ hS ?_
          · intro wS hSw
            (try dsimp only at hSw)
            go_simp
            rw [if_neg (by omega), HU1.out]
          try simp only [Act.put]
          refine wpAnyM_take 2 (v := ?_) rfl (by kernel_rfl) (fun _ _ _ h => h) (by rfl) ?_ hS ?_
          rotate_left
          · intro wS hSw
            (try dsimp only at hSw)
            go_simp
            try with_reducible rfl
          try simp only [Act.put]
          refine wpAnyM_take 3 (v := ?_) rfl (by kernel_rfl) (fun _ _ _ h => h) (by rfl) ?_ hS ?_
          rotate_left
          · intro wS hSw
            (try dsimp only at hSw)
            go_simp
            try with_reducible rfl
          try simp only [Act.put]
          refine wpAnyM_take 4 (v := ?_) rfl (by kernel_rfl) (fun _ _ _ h => h) (by rfl) ?_ hS ?_
          rotate_left
          · intro wS hSw
            (try dsimp only at hSw)
            have hc := cell_below hSw (Nat.le_refl _) y0
            go_simp
            try with_reducible rfl
          try simp only [Act.put]
          refine wpAnyM_take 5 (v := .string U2) rfl (by kernel_rfl) (fun _ _ _ h => h) (by rfl) ?_ hS ?_
          · intro wS hSw
            (try dsimp only at hSw)
            go_simp
            rw [if_neg (by omega), HU2.out]
          try simp only [Act.put]
          refine wpAnyM_take 6 (v := .string U3) rfl (by kernel_rfl) (fun _ _ _ h => h) (by rfl) ?_ hS ?_
          · intro wS hSw
            (try dsimp only at hSw)
            go_simp
            rw [if_neg (by omega), HU3.out]
          try simp only [Act.put]
          refine wpAnyM_take 7 (v := ?_) rfl (by kernel_rfl) (fun _ _ _ h => h) (by rfl) ?_ hS ?_
          rotate_left
          · intro wS hSw
            (try dsimp only at hSw)
            go_simp
            try with_reducible rfl
          try simp only [Act.put]
          refine wpAnyM_take 8 (v := ?_) rfl (by kernel_rfl) (fun _ _ _ h => h) (by rfl) ?_ hS ?_
          rotate_left
          · intro wS hSw
            (try dsimp only at hSw)
            go_simp
            try with_reducible rfl
          try simp only [Act.put]
          refine wpAnyM_take 9 (v := ?_) rfl (by kernel_rfl) (fun _ _ _ h => h) (by rfl) ?_ hS ?_
          rotate_left
          · intro wS hSw
            (try dsimp only at hSw)
            have hc := cell_below hSw (Nat.le_refl _) y1
            go_simp
            try with_reducible rfl
          try simp only [Act.put]
          refine wpAnyM_take 10 (v := .string U4) rfl (by kernel_rfl) (fun _ _ _ h => h) (by rfl) ?_ hS ?_
          · intro wS hSw
            (try dsimp only at hSw)
            go_simp
            rw [if_neg (by omega), HU4.out]
          try simp only [Act.put]
          refine wpAnyM_take 11 (v := .string U5) rfl (by kernel_rfl) (fun _ _ _ h => h) (by rfl) ?_ hS ?_
          · intro wS hSw
            (try dsimp only at hSw)
            go_simp
            rw [if_neg (by omega), HU5.out]
          try simp only [Act.put]
          refine wpAnyM_take 12 (v := ?_) rfl (by kernel_rfl) (fun _ _ _ h => h) (by rfl) ?_ hS ?_
          rotate_left
          · intro wS hSw
            (try dsimp only at hSw)
            go_simp
            try with_reducible rfl
          try simp only [Act.put]
          refine wpAnyM_take 13 (v := ?_) rfl (by kernel_rfl) (fun _ _ _ h => h) (by rfl) ?_ hS ?_
          rotate_left
          · intro wS hSw
            (try dsimp only at hSw)
            go_simp
            try with_reducible rfl
          try simp only [Act.put]
          refine wpAnyM_take 14 (v := ?_) rfl (by kernel_rfl) (fun _ _ _ h => h) (by rfl) ?_ hS ?_
          rotate_left
          · intro wS hSw
            (try dsimp only at hSw)
            have hc := cell_below hSw (Nat.le_refl _) y2
            go_simp
            try with_reducible rfl
          try simp only [Act.put]
          refine wpAnyM_take 15 (v := .string U6) rfl (by kernel_rfl) (fun _ _ _ h => h) (by rfl) ?_ hS ?_
          · intro wS hSw
            (try dsimp only at hSw)
            go_simp
            rw [if_neg (by omega), HU6.out]
          try simp only [Act.put]
          refine wpAnyM_take 16 (v := .string U7) rfl (by kernel_rfl) (fun _ _ _ h => h) (by rfl) ?_ hS ?_
          · intro wS hSw
            (try dsimp only at hSw)
            go_simp
            rw [if_neg (by omega), HU7.out]
          try simp only [Act.put]
          refine wpAnyM_take 17 (v := ?_) rfl (by kernel_rfl) (fun _ _ _ h => h) (by rfl) ?_ hS ?_
          rotate_left
          · intro wS hSw
            (try dsimp only at hSw)
            go_simp
            try with_reducible rfl
          try simp only [Act.put]
          refine wpAnyM_take 18 (v := .string U8) rfl (by kernel_rfl) (fun _ _ _ h => h) (by rfl) ?_ hS ?_
          · intro wS hSw
            (try dsimp only at hSw)
            go_simp
            rw [if_neg (by omega), HU8.out]
          try simp only [Act.put]
          refine wpAnyM_take 19 (v := .string U9) rfl (by kernel_rfl) (fun _ _ _ h => h) (by rfl) ?_ hS ?_
          · intro wS hSw
            (try dsimp only at hSw)
            go_simp
            rw [if_neg (by omega), HU9.out]
          try simp only [Act.put]
          refine wpAnyM_take 20 (v := ?_) rfl (by kernel_rfl) (fun _ _ _ h => h) (by rfl) ?_ hS ?_
          rotate_left
          · intro wS hSw
            (try dsimp only at hSw)
            go_simp
            try with_reducible rfl
          try simp only [Act.put]
          refine wpAnyM_take 21 (v := ?_) rfl (by kernel_rfl) (fun _ _ _ h => h) (by rfl) ?_ hS ?_
          rotate_left
          · intro wS hSw
            (try dsimp only at hSw)
            go_simp
            try with_reducible rfl
          try simp only [Act.put]
          refine wpAnyM_take 22 (v := ?_) rfl (by kernel_rfl) (fun _ _ _ h => h) (by rfl) ?_ hS ?_
          rotate_left
          · intro wS hSw
            (try dsimp only at hSw)
            have hc := cell_below hSw (Nat.le_refl _) y3
            go_simp
            try with_reducible rfl
          try simp only [Act.put]
          refine wpAnyM_take 23 (v := .string U10) rfl (by kernel_rfl) (fun _ _ _ h => h) (by rfl) ?_ hS ?_
          · intro wS hSw
            (try dsimp only at hSw)
            go_simp
            rw [if_neg (by omega), HU10.out]
          try simp only [Act.put]
          refine wpAnyM_take 24 (v := ?_) rfl (by kernel_rfl) (fun _ _ _ h => h) (by rfl) ?_ hS ?_
          rotate_left
          · intro wS hSw
            (try dsimp only at hSw)
            go_simp
            try with_reducible rfl
          try simp only [Act.put]
          refine wpAnyM_done (by kernel_rfl) ?_
          unfold onlyN
          have HT4 : Hid ((U10 ++ (⟨#[10]⟩ : ByteArray)).data.toList = txt x (3 + (i + 1))) := Lib.hid (by
            rw [← Nat.add_assoc, txt_succ HIL.out, HLT.out, ba_append, HU10.out, ba_append, HU9.out, ba_append, HU8.out, ba_append, HU7.out, ba_append, HU6.out, ba_append, HU5.out, ba_append, HU4.out, ba_append, HU3.out, ba_append, HU2.out, ba_append, HU1.out, ba_append, HR0.out, HR1.out, HR2.out, HR3.out, HT.out]
            simp [wFill])
          have hs4 : (U10 ++ (⟨#[10]⟩ : ByteArray)).size ≤ 100000000 := by
            rw [str_size HT4.out]
            have := txt_le x (3 + (i + 1))
            omega
          go_wp2_with fail
          go_roundw
          case rel => exact ⟨i + 1, _, by omega, by go_num, rfl, HT4, hs4, hel4.drew⟩
          case measure => simp [intOf]; omega
        · have hrb : (cu.rule == 2) = true := by rw [hru]; rfl
          have HLT : Hid (lineP (custLine x.days cu) = [116, 97, 110, 107, 32] ++ decI cu.rate ++ [32] ++ decI cu.size ++ [32] ++ decI cu.start ++ [32] ++ wAny ++ [32] ++ decI cu.hold ++ [10]) := Lib.hid (by rw [HLN.out, hru]; rfl)
          clear hru
          obtain ⟨U1, hU1⟩ : ∃ T : ByteArray, T = s ++ (⟨#[116, 97, 110, 107, 32]⟩ : ByteArray) := ⟨_, rfl⟩
          have zU1 : U1.size ≤ 100000030 := by rw [hU1, ByteArray.size_append]; have : (⟨#[116, 97, 110, 107, 32]⟩ : ByteArray).size = 5 := rfl; omega
          obtain ⟨U2, hU2⟩ : ∃ T : ByteArray, T = U1 ++ r0 := ⟨_, rfl⟩
          have zU2 : U2.size ≤ 100000060 := by rw [hU2, ByteArray.size_append]; omega
          obtain ⟨U3, hU3⟩ : ∃ T : ByteArray, T = U2 ++ (⟨#[32]⟩ : ByteArray) := ⟨_, rfl⟩
          have zU3 : U3.size ≤ 100000090 := by rw [hU3, ByteArray.size_append]; have : (⟨#[32]⟩ : ByteArray).size = 1 := rfl; omega
          obtain ⟨U4, hU4⟩ : ∃ T : ByteArray, T = U3 ++ r1 := ⟨_, rfl⟩
          have zU4 : U4.size ≤ 100000120 := by rw [hU4, ByteArray.size_append]; omega
          obtain ⟨U5, hU5⟩ : ∃ T : ByteArray, T = U4 ++ (⟨#[32]⟩ : ByteArray) := ⟨_, rfl⟩
          have zU5 : U5.size ≤ 100000150 := by rw [hU5, ByteArray.size_append]; have : (⟨#[32]⟩ : ByteArray).size = 1 := rfl; omega
          obtain ⟨U6, hU6⟩ : ∃ T : ByteArray, T = U5 ++ r2 := ⟨_, rfl⟩
          have zU6 : U6.size ≤ 100000180 := by rw [hU6, ByteArray.size_append]; omega
          obtain ⟨U7, hU7⟩ : ∃ T : ByteArray, T = U6 ++ (⟨#[32]⟩ : ByteArray) := ⟨_, rfl⟩
          have zU7 : U7.size ≤ 100000210 := by rw [hU7, ByteArray.size_append]; have : (⟨#[32]⟩ : ByteArray).size = 1 := rfl; omega
          obtain ⟨U8, hU8⟩ : ∃ T : ByteArray, T = U7 ++ (⟨#[97, 110, 121]⟩ : ByteArray) := ⟨_, rfl⟩
          have zU8 : U8.size ≤ 100000240 := by rw [hU8, ByteArray.size_append]; have : (⟨#[97, 110, 121]⟩ : ByteArray).size = 3 := rfl; omega
          obtain ⟨U9, hU9⟩ : ∃ T : ByteArray, T = U8 ++ (⟨#[32]⟩ : ByteArray) := ⟨_, rfl⟩
          have zU9 : U9.size ≤ 100000270 := by rw [hU9, ByteArray.size_append]; have : (⟨#[32]⟩ : ByteArray).size = 1 := rfl; omega
          obtain ⟨U10, hU10⟩ : ∃ T : ByteArray, T = U9 ++ r3 := ⟨_, rfl⟩
          have zU10 : U10.size ≤ 100000300 := by rw [hU10, ByteArray.size_append]; omega
          have HU1 := Lib.hid hU1
          have HU2 := Lib.hid hU2
          have HU3 := Lib.hid hU3
          have HU4 := Lib.hid hU4
          have HU5 := Lib.hid hU5
          have HU6 := Lib.hid hU6
          have HU7 := Lib.hid hU7
          have HU8 := Lib.hid hU8
          have HU9 := Lib.hid hU9
          have HU10 := Lib.hid hU10
          clear hU1 hU2 hU3 hU4 hU5 hU6 hU7 hU8 hU9 hU10
          go_wp2_with fail
          refine wp_region_N (fun wS => Below w4.heap.size w4 wS) [] (by kernel_rfl) ?_ (fun hS => ?_)
          · exact (Below.refl _ _).drew
          refine wpAnyM_take 0 (v := ?_) rfl (by kernel_rfl) (fun _ _ _ h => h) (by rfl) ?_ hS ?_
          rotate_left
          · intro wS hSw
            (try dsimp only at hSw)
            go_simp
            try with_reducible rfl
          try simp only [Act.put, List.setIfInBounds_toArray]
          refine wpAnyM_take 1 (v := .string U1) rfl (by kernel_rfl) (fun _ _ _ h => h) (by rfl) ?_ hS ?_
          · intro wS hSw
            (try dsimp only at hSw)
            go_simp
            rw [if_neg (by omega), HU1.out]
          try simp only [Act.put]
          refine wpAnyM_take 2 (v := ?_) rfl (by kernel_rfl) (fun _ _ _ h => h) (by rfl) ?_ hS ?_
          rotate_left
          · intro wS hSw
            (try dsimp only at hSw)
            go_simp
            try with_reducible rfl
          try simp only [Act.put]
          refine wpAnyM_take 3 (v := ?_) rfl (by kernel_rfl) (fun _ _ _ h => h) (by rfl) ?_ hS ?_
          rotate_left
          · intro wS hSw
            (try dsimp only at hSw)
            go_simp
            try with_reducible rfl
          try simp only [Act.put]
          refine wpAnyM_take 4 (v := ?_) rfl (by kernel_rfl) (fun _ _ _ h => h) (by rfl) ?_ hS ?_
          rotate_left
          · intro wS hSw
            (try dsimp only at hSw)
            have hc := cell_below hSw (Nat.le_refl _) y0
            go_simp
            try with_reducible rfl
          try simp only [Act.put]
          refine wpAnyM_take 5 (v := .string U2) rfl (by kernel_rfl) (fun _ _ _ h => h) (by rfl) ?_ hS ?_
          · intro wS hSw
            (try dsimp only at hSw)
            go_simp
            rw [if_neg (by omega), HU2.out]
          try simp only [Act.put]
          refine wpAnyM_take 6 (v := .string U3) rfl (by kernel_rfl) (fun _ _ _ h => h) (by rfl) ?_ hS ?_
          · intro wS hSw
            (try dsimp only at hSw)
            go_simp
            rw [if_neg (by omega), HU3.out]
          try simp only [Act.put]
          refine wpAnyM_take 7 (v := ?_) rfl (by kernel_rfl) (fun _ _ _ h => h) (by rfl) ?_ hS ?_
          rotate_left
          · intro wS hSw
            (try dsimp only at hSw)
            go_simp
            try with_reducible rfl
          try simp only [Act.put]
          refine wpAnyM_take 8 (v := ?_) rfl (by kernel_rfl) (fun _ _ _ h => h) (by rfl) ?_ hS ?_
          rotate_left
          · intro wS hSw
            (try dsimp only at hSw)
            go_simp
            try with_reducible rfl
          try simp only [Act.put]
          refine wpAnyM_take 9 (v := ?_) rfl (by kernel_rfl) (fun _ _ _ h => h) (by rfl) ?_ hS ?_
          rotate_left
          · intro wS hSw
            (try dsimp only at hSw)
            have hc := cell_below hSw (Nat.le_refl _) y1
            go_simp
            try with_reducible rfl
          try simp only [Act.put]
          refine wpAnyM_take 10 (v := .string U4) rfl (by kernel_rfl) (fun _ _ _ h => h) (by rfl) ?_ hS ?_
          · intro wS hSw
            (try dsimp only at hSw)
            go_simp
            rw [if_neg (by omega), HU4.out]
          try simp only [Act.put]
          refine wpAnyM_take 11 (v := .string U5) rfl (by kernel_rfl) (fun _ _ _ h => h) (by rfl) ?_ hS ?_
          · intro wS hSw
            (try dsimp only at hSw)
            go_simp
            rw [if_neg (by omega), HU5.out]
          try simp only [Act.put]
          refine wpAnyM_take 12 (v := ?_) rfl (by kernel_rfl) (fun _ _ _ h => h) (by rfl) ?_ hS ?_
          rotate_left
          · intro wS hSw
            (try dsimp only at hSw)
            go_simp
            try with_reducible rfl
          try simp only [Act.put]
          refine wpAnyM_take 13 (v := ?_) rfl (by kernel_rfl) (fun _ _ _ h => h) (by rfl) ?_ hS ?_
          rotate_left
          · intro wS hSw
            (try dsimp only at hSw)
            go_simp
            try with_reducible rfl
          try simp only [Act.put]
          refine wpAnyM_take 14 (v := ?_) rfl (by kernel_rfl) (fun _ _ _ h => h) (by rfl) ?_ hS ?_
          rotate_left
          · intro wS hSw
            (try dsimp only at hSw)
            have hc := cell_below hSw (Nat.le_refl _) y2
            go_simp
            try with_reducible rfl
          try simp only [Act.put]
          refine wpAnyM_take 15 (v := .string U6) rfl (by kernel_rfl) (fun _ _ _ h => h) (by rfl) ?_ hS ?_
          · intro wS hSw
            (try dsimp only at hSw)
            go_simp
            rw [if_neg (by omega), HU6.out]
          try simp only [Act.put]
          refine wpAnyM_take 16 (v := .string U7) rfl (by kernel_rfl) (fun _ _ _ h => h) (by rfl) ?_ hS ?_
          · intro wS hSw
            (try dsimp only at hSw)
            go_simp
            rw [if_neg (by omega), HU7.out]
          try simp only [Act.put]
          refine wpAnyM_take 17 (v := ?_) rfl (by kernel_rfl) (fun _ _ _ h => h) (by rfl) ?_ hS ?_
          rotate_left
          · intro wS hSw
            (try dsimp only at hSw)
            go_simp
            try with_reducible rfl
          try simp only [Act.put]
          refine wpAnyM_take 18 (v := .string U8) rfl (by kernel_rfl) (fun _ _ _ h => h) (by rfl) ?_ hS ?_
          · intro wS hSw
            (try dsimp only at hSw)
            go_simp
            rw [if_neg (by omega), HU8.out]
          try simp only [Act.put]
          refine wpAnyM_take 19 (v := .string U9) rfl (by kernel_rfl) (fun _ _ _ h => h) (by rfl) ?_ hS ?_
          · intro wS hSw
            (try dsimp only at hSw)
            go_simp
            rw [if_neg (by omega), HU9.out]
          try simp only [Act.put]
          refine wpAnyM_take 20 (v := ?_) rfl (by kernel_rfl) (fun _ _ _ h => h) (by rfl) ?_ hS ?_
          rotate_left
          · intro wS hSw
            (try dsimp only at hSw)
            go_simp
            try with_reducible rfl
          try simp only [Act.put]
          refine wpAnyM_take 21 (v := ?_) rfl (by kernel_rfl) (fun _ _ _ h => h) (by rfl) ?_ hS ?_
          rotate_left
          · intro wS hSw
            (try dsimp only at hSw)
            go_simp
            try with_reducible rfl
          try simp only [Act.put]
          refine wpAnyM_take 22 (v := ?_) rfl (by kernel_rfl) (fun _ _ _ h => h) (by rfl) ?_ hS ?_
          rotate_left
          · intro wS hSw
            (try dsimp only at hSw)
            have hc := cell_below hSw (Nat.le_refl _) y3
            go_simp
            try with_reducible rfl
          try simp only [Act.put]
          refine wpAnyM_take 23 (v := .string U10) rfl (by kernel_rfl) (fun _ _ _ h => h) (by rfl) ?_ hS ?_
          · intro wS hSw
            (try dsimp only at hSw)
            go_simp
            rw [if_neg (by omega), HU10.out]
          try simp only [Act.put]
          refine wpAnyM_take 24 (v := ?_) rfl (by kernel_rfl) (fun _ _ _ h => h) (by rfl) ?_ hS ?_
          rotate_left
          · intro wS hSw
            (try dsimp only at hSw)
            go_simp
            try with_reducible rfl
          try simp only [Act.put]
          refine wpAnyM_done (by kernel_rfl) ?_
          unfold onlyN
          have HT4 : Hid ((U10 ++ (⟨#[10]⟩ : ByteArray)).data.toList = txt x (3 + (i + 1))) := Lib.hid (by
            rw [← Nat.add_assoc, txt_succ HIL.out, HLT.out, ba_append, HU10.out, ba_append, HU9.out, ba_append, HU8.out, ba_append, HU7.out, ba_append, HU6.out, ba_append, HU5.out, ba_append, HU4.out, ba_append, HU3.out, ba_append, HU2.out, ba_append, HU1.out, ba_append, HR0.out, HR1.out, HR2.out, HR3.out, HT.out]
            simp [wAny])
          have hs4 : (U10 ++ (⟨#[10]⟩ : ByteArray)).size ≤ 100000000 := by
            rw [str_size HT4.out]
            have := txt_le x (3 + (i + 1))
            omega
          go_wp2_with fail
          go_roundw
          case rel => exact ⟨i + 1, _, by omega, by go_num, rfl, HT4, hs4, hel4.drew⟩
          case measure => simp [intOf]; omega
    · obtain rfl : i = x.custs.length := by omega
      have HTD : Hid ((s ++ (⟨#[100, 105, 115, 116, 97, 110, 99, 101, 115, 10]⟩ : ByteArray)).data.toList = txt x (3 + x.custs.length + 1)) := Lib.hid (by rw [ba_append, HT.out, dist_txt])
      have hsd : (s ++ (⟨#[100, 105, 115, 116, 97, 110, 99, 101, 115, 10]⟩ : ByteArray)).size ≤ 100000000 := by
        rw [str_size HTD.out]
        have := txt_le x (3 + x.custs.length + 1)
        omega
      clear bxr
      go_wp2_with fail
      clear d4
      go_loopw [4, 10] (fun sv jv wr => ∃ (j : Nat) (s : ByteArray), j ≤ x.dist.length ∧ jv = .int .i64 j ∧ sv = .string s ∧ Hid (s.data.toList = txt x (3 + x.custs.length + 1 + j)) ∧ s.size ≤ 100000000 ∧ Below w2.heap.size w2 wr) (fun _ jv _ => x.dist.length - (intOf jv).toNat)
      case atStart => exact ⟨0, _, Nat.zero_le _, rfl, rfl, HTD, hsd, hbel⟩
      case round =>
        clear HTD hsd hbel HT hs
        obtain ⟨j, s, hj, rfl, rfl, HT, hs, hbel⟩ := hrel
        have bxr := HBX3.out.below hbel HBX3.out.lt
        obtain ⟨d0, d1, d2, d3, d4, d5⟩ := bxr.cells6
        clear d0 d1 d2 d3 d4 bxr
        by_cases hlt2 : j < x.dist.length
        · obtain ⟨r, hr⟩ := some_of_lt hlt2
          obtain ⟨b, o, rfl, hb, A2, c2, q0, q1, q2, q3⟩ := HRW.out j r hr
          have hbw : Below w.heap.size w wr := ha3.trans (hbel.mono ha3.size)
          have x0 := cell_below hbw (Nat.le_refl _) q0
          have HR8 := Lib.hid (HP8.out r (List.mem_of_getElem? hr))
          have HIL := Lib.hid (il_row hr)
          have HRI : Hid (RInts wr .i64 (.slice A2 r.length c2) r) := Lib.hid (RInts.below (RInts.of_cells q1 q2 q3) hbw (Nat.le_refl _))
          clear hr q0 q3
          go_wp2_with fail
          refine (rwords_any r _ _ (by rw [HR8.out.1]; omega) (fun z hz => by have := HR8.out.2 z hz; omega) HRI.out).mono ?_
          rintro e wA ⟨u, rfl, hu, hbA⟩
          go_wp2_with fail
          refine (rline_any (r.map decI) _ _ hu (by rw [List.length_map, HR8.out.1]; omega) (fun y hy => ?_)).mono ?_
          · obtain ⟨z, hz, rfl⟩ := List.mem_map.1 hy
            have := HR8.out.2 z hz
            have := dec21 (n := z) (by unfold W64; omega)
            omega
          rintro e wB ⟨rfl, rfl⟩
          obtain ⟨tl, htl, -, htd⟩ := str_of (lineP (r.map decI))
          rw [htl]
          have ztl : tl.size ≤ 100000000 := by rw [str_size htd]; have := lineP_le HIL.out; omega
          have HT4 : Hid ((s ++ tl).data.toList = txt x (3 + x.custs.length + 1 + (j + 1))) := Lib.hid (by rw [ba_append, HT.out, htd, ← Nat.add_assoc, txt_succ HIL.out])
          have hs4 : (s ++ tl).size ≤ 100000000 := by
            rw [str_size HT4.out]
            have := txt_le x (3 + x.custs.length + 1 + (j + 1))
            omega
          clear htl htd
          go_wp2_with fail
          go_roundw
          case rel => exact ⟨j + 1, _, by omega, by go_num, rfl, HT4, hs4, hbel.trans (hbA.mono hbel.size)⟩
          case measure => simp [intOf]; omega
        · obtain rfl : j = x.dist.length := by omega
          have hfin : bstr (instText x) = .string s := by rw [← txt_all x, ← HT.out]; exact bstr_data s
          have HFIN := Lib.hid hfin
          clear hfin
          go_wp2_with fail
          go_ret
          rw [HFIN.out]
          exact ⟨rfl, ha3.trans (hbel.mono ha3.size)⟩
end Go.Proofs.YtigljnnjamdcnaaDoor
