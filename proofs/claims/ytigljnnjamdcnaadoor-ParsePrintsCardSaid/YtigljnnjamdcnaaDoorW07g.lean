/- The walk of the reader: a customer of a tank. -/
import Derived.Test.YtigljnnjamdcnaaDoorQK
import Derived.Outline
namespace Go.Proofs.YtigljnnjamdcnaaDoor
open Go.RowKit P05 P06 P07

set_option maxHeartbeats 4000000 in
set_option maxRecDepth 100000 in
theorem tank_any (w0 : World) (R : Nat) (lv : Value) (L : List Line) (st : Rd) (l : List Word) (v : Value) (w : World) (hR : w0.heap.size ≤ R) (hs : RdS w0 R lv L w st) (hv : RStrs w0 v l) (hx : ∀ x ∈ l, x.length ≤ 1000000 ∧ isWord x = true) (hcust : st.x.custs.length ≤ 1000000000) :
    Calls Tryd.prog 56 #[.pointer (some ⟨R, 0, none⟩), v] w fun e w' => e = .returned (.bool (tankC l).isSome) ∧ Below R w0 w' ∧
      ∀ c o, tankC l = some (c, o) → RdS w0 R lv L w' { st with x := ⟨st.x.days, st.x.veh, st.x.cap, st.x.len, st.x.custs ++ [c], st.x.dist⟩, odd := st.odd || o } ∧ KeepO R w w' := by
  have HS := Lib.hid hs
  have z := hs.lt
  have HFR := Lib.hid hs.from_
  have HX := Lib.hid hx
  obtain ⟨A, c, rfl, h1, h2, hlc⟩ := hv.open_
  have HL := Lib.hid hlc
  clear hs hv hlc hx
  by_cases h5 : l.length = 5
  rotate_left
  · have HF : Hid (tankC l = none) := Lib.hid (by
      unfold tankC
      split
      · simp at h5
      · rfl)
    have hne : ((l.length : Int) != 5) = true := by rw [bne_iff_ne]; omega
    clear h5
    go_enter Tryd.func56, Tryd.ntmps56
    go_wp2
    go_ret
    rw [HF.out]
    exact ⟨rfl, HFR.out, fun c o h => by cases h⟩
  · obtain ⟨a, b, d, r, h, rfl⟩ : ∃ a b d r h, l = [a, b, d, r, h] := by
      match l, h5 with
      | [a, b, d, r, h], _ => exact ⟨_, _, _, _, _, rfl⟩
    clear h5
    obtain ⟨bl, o, rfl, hbl, ca⟩ := HL.out 0 a rfl
    obtain ⟨b1, o1, hA1, -, cb⟩ := HL.out 1 b rfl
    obtain ⟨rfl, rfl⟩ : bl = b1 ∧ o = o1 := by simpa using hA1
    obtain ⟨b1, o1, hA1, -, cd⟩ := HL.out 2 d rfl
    obtain ⟨rfl, rfl⟩ : bl = b1 ∧ o = o1 := by simpa using hA1
    obtain ⟨b1, o1, hA1, -, cr⟩ := HL.out 3 r rfl
    obtain ⟨rfl, rfl⟩ : bl = b1 ∧ o = o1 := by simpa using hA1
    obtain ⟨b1, o1, hA1, -, ch⟩ := HL.out 4 h rfl
    obtain ⟨rfl, rfl⟩ : bl = b1 ∧ o = o1 := by simpa using hA1
    rw [Nat.add_zero] at ca
    simp only [List.length_cons, List.length_nil] at h1
    have y0 := cell_below HFR.out hR ca
    have y1 := cell_below HFR.out hR cb
    have y2 := cell_below HFR.out hR cd
    have y3 := cell_below HFR.out hR cr
    have y4 := cell_below HFR.out hR ch
    have hblw : bl < w.heap.size := Nat.lt_of_lt_of_le hbl (by omega)
    clear ca cb cd cr ch HL
    go_enter Tryd.func56, Tryd.ntmps56
    go_wp2_with fail
    refine wp_region_N (fun wS => Below w.heap.size w wS) [] (by kernel_rfl) ?_ (fun hS => ?_)
    · exact (Below.refl _ _).drew
    refine wpAnyM_take 0 (v := ?_) rfl (by kernel_rfl) (fun _ _ _ h => h) (by rfl) ?_ hS ?_
    rotate_left
    · intro wS hSw
      (try dsimp only at hSw)
      go_simp
      try with_reducible rfl
    try simp only [Act.put, List.setIfInBounds_toArray]
    refine wpAnyM_take 1 (v := ?_) rfl (by kernel_rfl) (fun _ _ _ h => h) (by rfl) ?_ hS ?_
    rotate_left
    · intro wS hSw
      (try dsimp only at hSw)
      go_simp
      try with_reducible rfl
    try simp only [Act.put]
    refine wpAnyM_take 2 (v := ?_) rfl (by kernel_rfl) (fun _ _ _ h => h) (by rfl) ?_ hS ?_
    rotate_left
    · intro wS hSw
      (try dsimp only at hSw)
      have hc := cell_below hSw (Nat.le_refl _) y0
      go_simp
      try with_reducible rfl
    try simp only [Act.put]
    refine wpAnyM_take 3 (v := ?_) rfl (by kernel_rfl) (fun _ _ _ h => h) (by rfl) ?_ hS ?_
    rotate_left
    · intro wS hSw
      (try dsimp only at hSw)
      go_simp
      try with_reducible rfl
    try simp only [Act.put]
    refine wpAnyM_take 4 (v := ?_) rfl (by kernel_rfl) (fun _ _ _ h => h) (by rfl) ?_ hS ?_
    rotate_left
    · intro wS hSw
      (try dsimp only at hSw)
      go_simp
      try with_reducible rfl
    try simp only [Act.put]
    refine wpAnyM_take 5 (v := ?_) rfl (by kernel_rfl) (fun _ _ _ h => h) (by rfl) ?_ hS ?_
    rotate_left
    · intro wS hSw
      (try dsimp only at hSw)
      have hc := cell_below hSw (Nat.le_refl _) y1
      go_simp
      try with_reducible rfl
    try simp only [Act.put]
    refine wpAnyM_take 6 (v := ?_) rfl (by kernel_rfl) (fun _ _ _ h => h) (by rfl) ?_ hS ?_
    rotate_left
    · intro wS hSw
      (try dsimp only at hSw)
      go_simp
      try with_reducible rfl
    try simp only [Act.put]
    refine wpAnyM_take 7 (v := ?_) rfl (by kernel_rfl) (fun _ _ _ h => h) (by rfl) ?_ hS ?_
    rotate_left
    · intro wS hSw
      (try dsimp only at hSw)
      go_simp
      try with_reducible rfl
    try simp only [Act.put]
    refine wpAnyM_take 8 (v := ?_) rfl (by kernel_rfl) (fun _ _ _ h => h) (by rfl) ?_ hS ?_
    rotate_left
    · intro wS hSw
      (try dsimp only at hSw)
      have hc := cell_below hSw (Nat.le_refl _) y2
      go_simp
      try with_reducible rfl
    try simp only [Act.put]
    refine wpAnyM_take 9 (v := ?_) rfl (by kernel_rfl) (fun _ _ _ h => h) (by rfl) ?_ hS ?_
    rotate_left
    · intro wS hSw
      (try dsimp only at hSw)
      go_simp
      try with_reducible rfl
    try simp only [Act.put]
    refine wpAnyM_take 10 (v := ?_) rfl (by kernel_rfl) (fun _ _ _ h => h) (by rfl) ?_ hS ?_
    rotate_left
    · intro wS hSw
      (try dsimp only at hSw)
      go_simp
      try with_reducible rfl
    try simp only [Act.put]
    refine wpAnyM_take 11 (v := ?_) rfl (by kernel_rfl) (fun _ _ _ h => h) (by rfl) ?_ hS ?_
    rotate_left
    · intro wS hSw
      (try dsimp only at hSw)
      have hc := cell_below hSw (Nat.le_refl _) y4
      go_simp
      try with_reducible rfl
    try simp only [Act.put]
    refine wpAnyM_one 12 rfl (by kernel_rfl) (by rfl) (fun K hK => ?_)
    go_simp
    refine hK.out _ _ (hS.alloc hS.size _) ?_
    clear hK K
    try simp only [Act.put, List.setIfInBounds_toArray, List.set_cons_zero, List.set_cons_succ]
    refine wpAnyM_one 13 rfl (by kernel_rfl) (by rfl) (fun K hK => ?_)
    go_simp
    obtain ⟨ok, HOK⟩ : ∃ q : Bool, Hid ([a, b, d, h].all isNum = q) := ⟨_, Lib.hid rfl⟩
    have hB4 := (Blk.new w 9 [bstr a, bstr b, bstr d, bstr h]).drew
    refine (numbersO_any [a, b, d, h] _ _ (by simp) (fun x hx => (HX.out x (by simp only [List.mem_cons, List.not_mem_nil, or_false] at hx ⊢; rcases hx with rfl | rfl | rfl | rfl <;> simp)).1) (Blk.strs (l := [a, b, d, h]) hB4 (by simp))).mono ?_
    rintro e w2 ⟨u, rfl, hu, hb2⟩
    rw [HOK.out]
    have hS2 : Below w.heap.size w w2 := (below_al (Below.refl w.heap.size w) _).drew.trans (hb2.mono (show w.heap.size ≤ _ by simp))
    refine hK.out _ _ hS2 ?_
    clear hK K
    try simp only [Act.put, List.setIfInBounds_toArray, List.set_cons_zero, List.set_cons_succ]
    refine wpAnyM_take 14 (v := ?_) rfl (by kernel_rfl) (fun _ _ _ h => h) (by rfl) ?_ hS2 ?_
    rotate_left
    · intro wS hSw
      (try dsimp only at hSw)
      go_simp
      try with_reducible rfl
    try simp only [Act.put, List.setIfInBounds_toArray]
    refine wpAnyM_take 15 (v := ?_) rfl (by kernel_rfl) (fun _ _ _ h => h) (by rfl) ?_ hS2 ?_
    rotate_left
    · intro wS hSw
      (try dsimp only at hSw)
      go_simp
      try with_reducible rfl
    try simp only [Act.put]
    refine wpAnyM_take 16 (v := ?_) rfl (by kernel_rfl) (fun _ _ _ h => h) (by rfl) ?_ hS2 ?_
    rotate_left
    · intro wS hSw
      (try dsimp only at hSw)
      go_simp
      try with_reducible rfl
    try simp only [Act.put]
    refine wpAnyM_take 17 (v := ?_) rfl (by kernel_rfl) (fun _ _ _ h => h) (by rfl) ?_ hS2 ?_
    rotate_left
    · intro wS hSw
      (try dsimp only at hSw)
      go_simp
      try with_reducible rfl
    try simp only [Act.put]
    refine wpAnyM_take 18 (v := ?_) rfl (by kernel_rfl) (fun _ _ _ h => h) (by rfl) ?_ hS2 ?_
    rotate_left
    · intro wS hSw
      (try dsimp only at hSw)
      go_simp
      try with_reducible rfl
    try simp only [Act.put]
    refine wpAnyM_done (by kernel_rfl) ?_
    unfold onlyN
    have HW2 := Lib.hid (HFR.out.trans (hS2.mono (Nat.le_of_lt z)))
    have HU := Lib.hid hu
    have HS2 := Lib.hid hS2
    have HRS := Lib.hid (HS.out.below hS2)
    have y3' := cell_below hS2 (Nat.le_refl _) y3
    clear hu hb2 hS hB4 hS2 HFR HX y0 y1 y2 y4
    cases ok with
    | false =>
      have HF : Hid (tankC [a, b, d, r, h] = none) := Lib.hid (by
        have := HOK.out
        simp only [List.all_cons, List.all_nil, Bool.and_true] at this
        rw [← Bool.and_assoc, ← Bool.and_assoc] at this
        simp only [tankC]
        rw [this]
        rfl)
      go_wp2_with fail
      go_ret
      rw [HF.out]
      exact ⟨rfl, HW2.out, fun c o h => by cases h⟩
    | true =>
      have HU4 : Hid (OInts w.heap.size w2 u [numI a, numI b, numI d, numI h]) := Lib.hid (by
        have := HU.out
        rw [numsP_yes HOK.out] at this
        exact own_mono this (by simp))
      clear HU
      obtain ⟨Au, cu, rfl, g1, g2, hcu⟩ := HU4.out.reads.open_
      obtain ⟨bu, ou, rfl, -, k0⟩ := hcu 0 _ rfl
      have k1 := OInts.cell HU4.out (i := 1) rfl
      have k2 := OInts.cell HU4.out (i := 2) rfl
      have k3 := OInts.cell HU4.out (i := 3) rfl
      rw [Nat.add_zero] at k0
      simp only [List.length_cons, List.length_nil] at g1
      clear hcu
      go_wp2_with fail
      refine wp_region_N (fun wS => Below w2.heap.size w2 wS) [14] (by kernel_rfl) ?_ (fun hS => ?_)
      · exact (Below.refl _ _).drew
      refine wpAnyM_take 0 (v := ?_) rfl (by kernel_rfl) (fun _ _ _ h => h) (by rfl) ?_ hS ?_
      rotate_left
      · intro wS hSw
        (try dsimp only at hSw)
        go_simp
        try with_reducible rfl
      try simp only [Act.put, List.setIfInBounds_toArray]
      refine wpAnyM_take 1 (v := ?_) rfl (by kernel_rfl) (fun _ _ _ h => h) (by rfl) ?_ hS ?_
      rotate_left
      · intro wS hSw
        (try dsimp only at hSw)
        go_simp
        try with_reducible rfl
      try simp only [Act.put]
      refine wpAnyM_take 2 (v := ?_) rfl (by kernel_rfl) (fun _ _ _ h => h) (by rfl) ?_ hS ?_
      rotate_left
      · intro wS hSw
        (try dsimp only at hSw)
        have hc := cell_below hSw (Nat.le_refl _) k0
        go_simp
        try with_reducible rfl
      try simp only [Act.put]
      refine wpAnyM_take 3 (v := ?_) rfl (by kernel_rfl) (fun _ _ _ h => h) (by rfl) ?_ hS ?_
      rotate_left
      · intro wS hSw
        (try dsimp only at hSw)
        go_simp
        try with_reducible rfl
      try simp only [Act.put]
      refine wpAnyM_take 4 (v := ?_) rfl (by kernel_rfl) (fun _ _ _ h => h) (by rfl) ?_ hS ?_
      rotate_left
      · intro wS hSw
        (try dsimp only at hSw)
        go_simp
        try with_reducible rfl
      try simp only [Act.put]
      refine wpAnyM_take 5 (v := ?_) rfl (by kernel_rfl) (fun _ _ _ h => h) (by rfl) ?_ hS ?_
      rotate_left
      · intro wS hSw
        (try dsimp only at hSw)
        have hc := cell_below hSw (Nat.le_refl _) k1
        go_simp
        try with_reducible rfl
      try simp only [Act.put]
      refine wpAnyM_take 6 (v := ?_) rfl (by kernel_rfl) (fun _ _ _ h => h) (by rfl) ?_ hS ?_
      rotate_left
      · intro wS hSw
        (try dsimp only at hSw)
        go_simp
        try with_reducible rfl
      try simp only [Act.put]
      refine wpAnyM_take 7 (v := ?_) rfl (by kernel_rfl) (fun _ _ _ h => h) (by rfl) ?_ hS ?_
      rotate_left
      · intro wS hSw
        (try dsimp only at hSw)
        go_simp
        try with_reducible rfl
      try simp only [Act.put]
      refine wpAnyM_take 8 (v := ?_) rfl (by kernel_rfl) (fun _ _ _ h => h) (by rfl) ?_ hS ?_
      rotate_left
      · intro wS hSw
        (try dsimp only at hSw)
        have hc := cell_below hSw (Nat.le_refl _) k2
        go_simp
        try with_reducible rfl
      try simp only [Act.put]
      refine wpAnyM_take 9 (v := ?_) rfl (by kernel_rfl) (fun _ _ _ h => h) (by rfl) ?_ hS ?_
      rotate_left
      · intro wS hSw
        (try dsimp only at hSw)
        go_simp
        try with_reducible rfl
      try simp only [Act.put]
      refine wpAnyM_take 10 (v := ?_) rfl (by kernel_rfl) (fun _ _ _ h => h) (by rfl) ?_ hS ?_
      rotate_left
      · intro wS hSw
        (try dsimp only at hSw)
        go_simp
        try with_reducible rfl
      try simp only [Act.put]
      refine wpAnyM_take 11 (v := ?_) rfl (by kernel_rfl) (fun _ _ _ h => h) (by rfl) ?_ hS ?_
      rotate_left
      · intro wS hSw
        (try dsimp only at hSw)
        have hc := cell_below hSw (Nat.le_refl _) k3
        go_simp
        try with_reducible rfl
      try simp only [Act.put]
      refine wpAnyM_take 12 (v := ?_) rfl (by kernel_rfl) (fun _ _ _ h => h) (by rfl) ?_ hS ?_
      rotate_left
      · intro wS hSw
        (try dsimp only at hSw)
        go_simp
        try with_reducible rfl
      try simp only [Act.put]
      refine wpAnyM_one 13 rfl (by kernel_rfl) (by rfl) (fun K hK => ?_)
      go_simp
      refine hK.out _ _ (hS.alloc hS.size _) ?_
      clear hK K
      try simp only [Act.put, List.setIfInBounds_toArray, List.set_cons_zero, List.set_cons_succ]
      refine wpAnyM_late 14 rfl (by kernel_rfl) (by kernel_rfl) (by rfl) (fun K hK => ?_)
      go_simp
      refine hK.out _ _ ?_
      clear hK K
      try simp only [Act.put, List.setIfInBounds_toArray, List.set_cons_zero, List.set_cons_succ]
      refine wpAnyM_done (by kernel_rfl) ?_
      unfold onlyN
      generalize hw3 : World.alloc w2 (Obj.cells #[.int .i64 2, .int .i64 0, .slice none 0 0, .int .i64 (numI a), .int .i64 (numI b), .int .i64 (numI d), .int .i64 0, .int .i64 (numI h)] 41) = w3
      have B3 := Lib.hid (show Below w2.heap.size w2 w3 by rw [← hw3]; exact below_al (Below.refl _ _) _)
      have bx : Blk w3 w2.heap.size 41 [.int .i64 2, .int .i64 0, .slice none 0 0, .int .i64 (numI a), .int .i64 (numI b), .int .i64 (numI d), .int .i64 0, .int .i64 (numI h)] := by rw [← hw3]; exact Blk.newAt _ _ _ rfl
      have y5 := cell_below B3.out (Nat.le_refl _) y3'
      have e6 := bx.cell 6
      simp only [List.getElem?_cons_succ, List.getElem?_cons_zero] at e6
      have f6 := bx.frozen 6
      have HBX := Lib.hid bx
      obtain ⟨rs, hrs⟩ : ∃ t : ByteArray, t = ⟨r.toArray⟩ := ⟨_, rfl⟩
      rw [← hrs] at y5
      have HRSZ := Lib.hid hrs
      have hrl : rs.toList = r := by rw [hrs, ByteArray.toList_eq]
      have HRL := Lib.hid hrl
      clear hw3 bx hS hrs hrl k0 k1 k2 k3 y3 y3'
      by_cases hf : r = wFill
      rotate_left
      by_cases ha : r = wAny
      rotate_left
      · have HF : Hid (tankC [a, b, d, r, h] = none) := Lib.hid (by
          have : ruleOf r = none := by unfold ruleOf; rw [if_neg hf, if_neg ha]
          simp only [tankC]
          rw [this]
          split <;> rfl)
        have hq1 : (rs.toList == [102, 105, 108, 108]) = false := by rw [HRL.out, beq_eq_false_iff_ne]; exact hf
        have hq2 : (rs.toList == [97, 110, 121]) = false := by rw [HRL.out, beq_eq_false_iff_ne]; exact ha
        have HB3 := Lib.hid (HW2.out.trans (B3.out.mono (Nat.le_of_lt HRS.out.lt)))
        clear hf ha
        go_wp2_with fail
        go_ret
        rw [HF.out]
        exact ⟨rfl, HB3.out.drew, fun c o h => by cases h⟩
      · have hq1 : (rs.toList == [102, 105, 108, 108]) = true := by rw [HRL.out, beq_iff_eq]; exact hf
        have HRU : Hid (ruleOf r = some 1) := Lib.hid (by unfold ruleOf; rw [if_pos hf])
        clear hf
        go_wp2_with fail
        generalize hw4 : (World.setCell w3 ⟨w2.heap.size, 6, none⟩ (.int .i64 1)).drew = w4
        have B4 := Lib.hid (show Below w2.heap.size w2 w4 by rw [← hw4]; exact (B3.out.setCell (p := ⟨w2.heap.size, 6, none⟩) (Nat.le_refl _) _).drew)
        obtain ⟨rv, HRV, HBX4⟩ : ∃ rv : Int, Hid (ruleOf r = some rv) ∧ Hid (Blk w4 w2.heap.size 41 [.int .i64 2, .int .i64 0, .slice none 0 0, .int .i64 (numI a), .int .i64 (numI b), .int .i64 (numI d), .int .i64 rv, .int .i64 (numI h)]) := ⟨1, HRU, Lib.hid (by rw [← hw4]; exact (HBX.out.set_ 6 _).drew)⟩
        clear hw4 e6 f6 y5 HBX B3 hq1 HRU
        obtain ⟨kk, cv, dv, q1, q2, q3, q4, q5, q6⟩ := HRS.out
        have z2 : R < w2.heap.size := q3.lt
        have qB := q3.below B4.out z2
        obtain ⟨pvs, g1', g2', g3'⟩ := q4.below B4.out (Nat.le_refl _)
        have q5' := q5.below B4.out (Nat.le_refl _)
        have q6' := q6.trans (B4.out.mono (Nat.le_of_lt z2))
        have hzb := HBX4.out.lt
        have hcn : st.x.custs.length ≤ 1000000000 := hcust
        have hbase : R + 1 ≤ w4.heap.size := by omega
        clear q3 q4 q5 q6
        refine wp_region_N (fun _ => True) [] (by kernel_rfl) trivial (fun hT => ?_)
        refine wpAnyM_take 0 (v := ?_) rfl (by kernel_rfl) (fun _ _ _ h => h) (by rfl) ?_ hT ?_
        rotate_left
        · intro wS hSw
          (try dsimp only at hSw)
          go_simp
          try with_reducible rfl
        try simp only [Act.put, List.setIfInBounds_toArray]
        refine wpAnyM_weak (S := fun wS => Below w4.heap.size w4 wS) (late := [8, 9, 10, 11, 12]) _ _ _ _ ?_
        have hS : Below w4.heap.size w4 w4.drew := (Below.refl _ _).drew
        refine wpAnyM_take 1 (v := ?_) rfl (by kernel_rfl) (fun _ _ _ h => h) (by rfl) ?_ hS ?_
        rotate_left
        · intro wS hSw
          (try dsimp only at hSw)
          go_simp
          try with_reducible rfl
        try simp only [Act.put]
        refine wpAnyM_take 2 (v := ?_) rfl (by kernel_rfl) (fun _ _ _ h => h) (by rfl) ?_ hS ?_
        rotate_left
        · intro wS hSw
          (try dsimp only at hSw)
          go_simp
          try with_reducible rfl
        try simp only [Act.put]
        refine wpAnyM_take 3 (v := ?_) rfl (by kernel_rfl) (fun _ _ _ h => h) (by rfl) ?_ hS ?_
        rotate_left
        · intro wS hSw
          (try dsimp only at hSw)
          go_simp
          try with_reducible rfl
        try simp only [Act.put]
        refine wpAnyM_take 4 (v := ?_) rfl (by kernel_rfl) (fun _ _ _ h => h) (by rfl) ?_ hS ?_
        rotate_left
        · intro wS hSw
          (try dsimp only at hSw)
          go_simp
          try with_reducible rfl
        try simp only [Act.put]
        refine wpAnyM_take 5 (v := ?_) rfl (by kernel_rfl) (fun _ _ _ h => h) (by rfl) ?_ hS ?_
        rotate_left
        · intro wS hSw
          (try dsimp only at hSw)
          have hc := (qB.below hSw qB.lt).cell 6
          simp only [List.getElem?_cons_succ, List.getElem?_cons_zero] at hc
          go_simp
          try with_reducible rfl
        try simp only [Act.put]
        refine wpAnyM_take 6 (v := ?_) rfl (by kernel_rfl) (fun _ _ _ h => h) (by rfl) ?_ hS ?_
        rotate_left
        · intro wS hSw
          (try dsimp only at hSw)
          obtain ⟨k0, k1, k2, k3, k4, k5, k6, k7⟩ := (HBX4.out.below hSw HBX4.out.lt).cells8
          go_simp
          try with_reducible rfl
        try simp only [Act.put]
        refine wpAnyM_one 7 rfl (by kernel_rfl) (by rfl) (fun K hK => ?_)
        go_simp
        refine hK.out _ _ (hS.alloc hS.size _) ?_
        clear hK K
        try simp only [Act.put, List.setIfInBounds_toArray, List.set_cons_zero, List.set_cons_succ]
        refine wpAnyM_late 8 rfl (by kernel_rfl) (by kernel_rfl) (by rfl) (fun K hK => ?_)
        refine wp_append_one w4.drew _ _ _ (by rfl) (R + 1) 41 _ 8 80 Tryd.underlying22 cinfo7 rfl (by decide) (by decide) _ _ _ g2'.drew (by rfl) (custCells ⟨2, 0, [], numI a, numI b, numI d, rv, numI h⟩ (.slice none 0 0)) _ (by rfl) rfl rfl hcn hbase ?_
        intro g cap w6 ho6 hg0 hg1 hk6 hz6
        have hb6 := hk6.below (show R + 1 ≤ w4.drew.heap.size from hbase)
        have hB6 := (qB.drew).below hb6 (Nat.lt_succ_self _)
        refine hK.out _ _ ?_
        clear hK K
        try simp only [Act.put, List.setIfInBounds_toArray]
        refine wpAnyM_late 9 rfl (by kernel_rfl) (by kernel_rfl) (by rfl) (fun K hK => ?_)
        go_simp
        refine hK.out _ _ ?_
        clear hK K
        try simp only [Act.put, List.setIfInBounds_toArray, List.set_cons_zero, List.set_cons_succ]
        refine wpAnyM_late 10 rfl (by kernel_rfl) (by kernel_rfl) (by rfl) (fun K hK => ?_)
        go_simp
        refine hK.out _ _ ?_
        clear hK K
        try simp only [Act.put, List.setIfInBounds_toArray, List.set_cons_zero, List.set_cons_succ]
        refine wpAnyM_late 11 rfl (by kernel_rfl) (by kernel_rfl) (by rfl) (fun K hK => ?_)
        go_simp
        refine hK.out _ _ ?_
        clear hK K
        try simp only [Act.put, List.setIfInBounds_toArray, List.set_cons_zero, List.set_cons_succ]
        refine wpAnyM_late 12 rfl (by kernel_rfl) (by kernel_rfl) (by rfl) (fun K hK => ?_)
        have e6 : w6.cell? ⟨R, 6, none⟩ = some cv := hB6.cell 6
        have f6 := hB6.frozen 6
        go_simp
        refine hK.out _ _ ?_
        clear hK K
        try simp only [Act.put, List.setIfInBounds_toArray, List.set_cons_zero, List.set_cons_succ]
        refine wpAnyM_done (by kernel_rfl) ?_
        unfold onlyN
        go_wp2_with fail
        go_ret
        have HVC : tankC [a, b, d, r, h] = some (⟨2, 0, [], numI a, numI b, numI d, rv, numI h⟩, false) := by
          have := HOK.out
          simp only [List.all_cons, List.all_nil, Bool.and_true] at this
          rw [← Bool.and_assoc, ← Bool.and_assoc] at this
          simp only [tankC]
          rw [this, HRV.out]
          rfl
        have hown : w4.ownsRow (R + 1) 68 1 (.slice none 0 0) ([] : List Nat).length (([] : List Nat).map fun (s : Nat) => Value.int .u64 (s : Int)) := World.ownsRow_nil _ _ _ _
        have hB7 := hB6.set_ 6 (.slice (some ⟨g, 0, none⟩) (st.x.custs.length + 1) cap)
        simp only [List.set_cons_succ, List.set_cons_zero] at hB7
        obtain ⟨rvs, r1, r2⟩ := q5'
        have hfin : Below R w0 (w6.setCell ⟨R, 6, none⟩ (.slice (some ⟨g, 0, none⟩) (st.x.custs.length + 1) cap)) := (q6'.drew.trans (hb6.mono (Nat.le_succ R))).setCell (p := ⟨R, 6, none⟩) (Nat.le_refl _) _
        rw [HVC]
        refine ⟨rfl, hfin, fun c' o' h => ?_⟩
        obtain ⟨rfl, rfl⟩ := Prod.mk.inj (Option.some.inj h)
        rw [Bool.or_false]
        refine ⟨⟨kk, .slice (some ⟨g, 0, none⟩) (st.x.custs.length + 1) cap, dv, q1, q2, hB7, ?_, ?_, hfin⟩, (((((KeepO.refl R w).below HS2.out).below B4.out).below ((Below.refl _ _).drew)).keep hk6 (by decide)).set 6 _⟩
        · exact (OwnCusts.push rfl g1' ho6 (fun i x qv hx hq => hk6.own (g3' i x qv hx hq).drew (by decide)) (hk6.own hown.drew (by decide))).set_low (p := ⟨R, 6, none⟩) (Nat.lt_succ_self _) _
        · exact OwnRows.set_low (p := ⟨R, 6, none⟩) ⟨rvs, hk6.own r1.drew (by decide), fun i r rv h h' => hk6.own (r2 i r rv h h').drew (by decide)⟩ (Nat.lt_succ_self _) _
      · have hq1 : (rs.toList == [102, 105, 108, 108]) = false := by rw [HRL.out, beq_eq_false_iff_ne]; exact hf
        have hq2 : (rs.toList == [97, 110, 121]) = true := by rw [HRL.out, beq_iff_eq]; exact ha
        have HRU : Hid (ruleOf r = some 2) := Lib.hid (by unfold ruleOf; rw [if_neg hf, if_pos ha])
        clear hf ha
        go_wp2_with fail
        generalize hw4 : (World.setCell w3 ⟨w2.heap.size, 6, none⟩ (.int .i64 2)).drew = w4
        have B4 := Lib.hid (show Below w2.heap.size w2 w4 by rw [← hw4]; exact (B3.out.setCell (p := ⟨w2.heap.size, 6, none⟩) (Nat.le_refl _) _).drew)
        obtain ⟨rv, HRV, HBX4⟩ : ∃ rv : Int, Hid (ruleOf r = some rv) ∧ Hid (Blk w4 w2.heap.size 41 [.int .i64 2, .int .i64 0, .slice none 0 0, .int .i64 (numI a), .int .i64 (numI b), .int .i64 (numI d), .int .i64 rv, .int .i64 (numI h)]) := ⟨2, HRU, Lib.hid (by rw [← hw4]; exact (HBX.out.set_ 6 _).drew)⟩
        clear hw4 e6 f6 y5 HBX B3 hq1 hq2 HRU
        obtain ⟨kk, cv, dv, q1, q2, q3, q4, q5, q6⟩ := HRS.out
        have z2 : R < w2.heap.size := q3.lt
        have qB := q3.below B4.out z2
        obtain ⟨pvs, g1', g2', g3'⟩ := q4.below B4.out (Nat.le_refl _)
        have q5' := q5.below B4.out (Nat.le_refl _)
        have q6' := q6.trans (B4.out.mono (Nat.le_of_lt z2))
        have hzb := HBX4.out.lt
        have hcn : st.x.custs.length ≤ 1000000000 := hcust
        have hbase : R + 1 ≤ w4.heap.size := by omega
        clear q3 q4 q5 q6
        refine wp_region_N (fun _ => True) [] (by kernel_rfl) trivial (fun hT => ?_)
        refine wpAnyM_take 0 (v := ?_) rfl (by kernel_rfl) (fun _ _ _ h => h) (by rfl) ?_ hT ?_
        rotate_left
        · intro wS hSw
          (try dsimp only at hSw)
          go_simp
          try with_reducible rfl
        try simp only [Act.put, List.setIfInBounds_toArray]
        refine wpAnyM_weak (S := fun wS => Below w4.heap.size w4 wS) (late := [8, 9, 10, 11, 12]) _ _ _ _ ?_
        have hS : Below w4.heap.size w4 w4.drew := (Below.refl _ _).drew
        refine wpAnyM_take 1 (v := ?_) rfl (by kernel_rfl) (fun _ _ _ h => h) (by rfl) ?_ hS ?_
        rotate_left
        · intro wS hSw
          (try dsimp only at hSw)
          go_simp
          try with_reducible rfl
        try simp only [Act.put]
        refine wpAnyM_take 2 (v := ?_) rfl (by kernel_rfl) (fun _ _ _ h => h) (by rfl) ?_ hS ?_
        rotate_left
        · intro wS hSw
          (try dsimp only at hSw)
          go_simp
          try with_reducible rfl
        try simp only [Act.put]
        refine wpAnyM_take 3 (v := ?_) rfl (by kernel_rfl) (fun _ _ _ h => h) (by rfl) ?_ hS ?_
        rotate_left
        · intro wS hSw
          (try dsimp only at hSw)
          go_simp
          try with_reducible rfl
        try simp only [Act.put]
        refine wpAnyM_take 4 (v := ?_) rfl (by kernel_rfl) (fun _ _ _ h => h) (by rfl) ?_ hS ?_
        rotate_left
        · intro wS hSw
          (try dsimp only at hSw)
          go_simp
          try with_reducible rfl
        try simp only [Act.put]
        refine wpAnyM_take 5 (v := ?_) rfl (by kernel_rfl) (fun _ _ _ h => h) (by rfl) ?_ hS ?_
        rotate_left
        · intro wS hSw
          (try dsimp only at hSw)
          have hc := (qB.below hSw qB.lt).cell 6
          simp only [List.getElem?_cons_succ, List.getElem?_cons_zero] at hc
          go_simp
          try with_reducible rfl
        try simp only [Act.put]
        refine wpAnyM_take 6 (v := ?_) rfl (by kernel_rfl) (fun _ _ _ h => h) (by rfl) ?_ hS ?_
        rotate_left
        · intro wS hSw
          (try dsimp only at hSw)
          obtain ⟨k0, k1, k2, k3, k4, k5, k6, k7⟩ := (HBX4.out.below hSw HBX4.out.lt).cells8
          go_simp
          try with_reducible rfl
        try simp only [Act.put]
        refine wpAnyM_one 7 rfl (by kernel_rfl) (by rfl) (fun K hK => ?_)
        go_simp
        refine hK.out _ _ (hS.alloc hS.size _) ?_
        clear hK K
        try simp only [Act.put, List.setIfInBounds_toArray, List.set_cons_zero, List.set_cons_succ]
        refine wpAnyM_late 8 rfl (by kernel_rfl) (by kernel_rfl) (by rfl) (fun K hK => ?_)
        refine wp_append_one w4.drew _ _ _ (by rfl) (R + 1) 41 _ 8 80 Tryd.underlying22 cinfo7 rfl (by decide) (by decide) _ _ _ g2'.drew (by rfl) (custCells ⟨2, 0, [], numI a, numI b, numI d, rv, numI h⟩ (.slice none 0 0)) _ (by rfl) rfl rfl hcn hbase ?_
        intro g cap w6 ho6 hg0 hg1 hk6 hz6
        have hb6 := hk6.below (show R + 1 ≤ w4.drew.heap.size from hbase)
        have hB6 := (qB.drew).below hb6 (Nat.lt_succ_self _)
        refine hK.out _ _ ?_
        clear hK K
        try simp only [Act.put, List.setIfInBounds_toArray]
        refine wpAnyM_late 9 rfl (by kernel_rfl) (by kernel_rfl) (by rfl) (fun K hK => ?_)
        go_simp
        refine hK.out _ _ ?_
        clear hK K
        try simp only [Act.put, List.setIfInBounds_toArray, List.set_cons_zero, List.set_cons_succ]
        refine wpAnyM_late 10 rfl (by kernel_rfl) (by kernel_rfl) (by rfl) (fun K hK => ?_)
        go_simp
        refine hK.out _ _ ?_
        clear hK K
        try simp only [Act.put, List.setIfInBounds_toArray, List.set_cons_zero, List.set_cons_succ]
        refine wpAnyM_late 11 rfl (by kernel_rfl) (by kernel_rfl) (by rfl) (fun K hK => ?_)
        go_simp
        refine hK.out _ _ ?_
        clear hK K
        try simp only [Act.put, List.setIfInBounds_toArray, List.set_cons_zero, List.set_cons_succ]
        refine wpAnyM_late 12 rfl (by kernel_rfl) (by kernel_rfl) (by rfl) (fun K hK => ?_)
        have e6 : w6.cell? ⟨R, 6, none⟩ = some cv := hB6.cell 6
        have f6 := hB6.frozen 6
        go_simp
        refine hK.out _ _ ?_
        clear hK K
        try simp only [Act.put, List.setIfInBounds_toArray, List.set_cons_zero, List.set_cons_succ]
        refine wpAnyM_done (by kernel_rfl) ?_
        unfold onlyN
        go_wp2_with fail
        go_ret
        have HVC : tankC [a, b, d, r, h] = some (⟨2, 0, [], numI a, numI b, numI d, rv, numI h⟩, false) := by
          have := HOK.out
          simp only [List.all_cons, List.all_nil, Bool.and_true] at this
          rw [← Bool.and_assoc, ← Bool.and_assoc] at this
          simp only [tankC]
          rw [this, HRV.out]
          rfl
        have hown : w4.ownsRow (R + 1) 68 1 (.slice none 0 0) ([] : List Nat).length (([] : List Nat).map fun (s : Nat) => Value.int .u64 (s : Int)) := World.ownsRow_nil _ _ _ _
        have hB7 := hB6.set_ 6 (.slice (some ⟨g, 0, none⟩) (st.x.custs.length + 1) cap)
        simp only [List.set_cons_succ, List.set_cons_zero] at hB7
        obtain ⟨rvs, r1, r2⟩ := q5'
        have hfin : Below R w0 (w6.setCell ⟨R, 6, none⟩ (.slice (some ⟨g, 0, none⟩) (st.x.custs.length + 1) cap)) := (q6'.drew.trans (hb6.mono (Nat.le_succ R))).setCell (p := ⟨R, 6, none⟩) (Nat.le_refl _) _
        rw [HVC]
        refine ⟨rfl, hfin, fun c' o' h => ?_⟩
        obtain ⟨rfl, rfl⟩ := Prod.mk.inj (Option.some.inj h)
        rw [Bool.or_false]
        refine ⟨⟨kk, .slice (some ⟨g, 0, none⟩) (st.x.custs.length + 1) cap, dv, q1, q2, hB7, ?_, ?_, hfin⟩, (((((KeepO.refl R w).below HS2.out).below B4.out).below ((Below.refl _ _).drew)).keep hk6 (by decide)).set 6 _⟩
        · exact (OwnCusts.push rfl g1' ho6 (fun i x qv hx hq => hk6.own (g3' i x qv hx hq).drew (by decide)) (hk6.own hown.drew (by decide))).set_low (p := ⟨R, 6, none⟩) (Nat.lt_succ_self _) _
        · exact OwnRows.set_low (p := ⟨R, 6, none⟩) ⟨rvs, hk6.own r1.drew (by decide), fun i r rv h h' => hk6.own (r2 i r rv h h').drew (by decide)⟩ (Nat.lt_succ_self _) _
end Go.Proofs.YtigljnnjamdcnaaDoor
