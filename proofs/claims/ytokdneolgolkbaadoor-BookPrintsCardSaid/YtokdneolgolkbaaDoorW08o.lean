/- The walks of the parts of Parse, at what is printed. -/
import Derived.Test.YtokdneolgolkbaaDoorM08
import Derived.Test.YtokdneolgolkbaaDoorN05
import Derived.Test.YtokdneolgolkbaaDoorW05e
import Derived.Test.YtokdneolgolkbaaDoorOrdR
import Derived.Test.YtokdneolgolkbaaDoorP08f
import Derived.Outline
namespace Go.Proofs.YtokdneolgolkbaaDoor
open Go.RowKit P08 P05

theorem numberD_any (n : Nat) (s : ByteArray) (w : World) (hn : n ≤ 1000000000000000000) (hs : s = ⟨(decI (n : Int)).toArray⟩) :
    Calls Tryd.prog 32 #[.string s] w fun e w' => e = .returned (.tuple #[.int .i64 (n : Int), .bool true]) ∧ w' = w := by
  have h1 := decI_len (n := (n : Int)) ⟨by omega, by omega⟩
  subst hs
  refine (number_l (decI (n : Int)) w (by omega)).mono fun e w' ⟨he, hw⟩ => ⟨?_, hw⟩
  rw [he, numV_dec (by omega) (by omega), isNum_decI (by omega) (by omega)]
set_option maxHeartbeats 2000000 in
set_option maxRecDepth 100000 in
theorem counted_any (v : Value) (sw : ByteArray) (n : Nat) (L : List (List (List UInt8))) (w : World) (hn : n ≤ 1000000000000000000) (hr : RLines w v ([sw.data.toList, decI (n : Int)] :: L)) :
    Calls Tryd.prog 19 #[v, .string sw] w fun e w' => ∃ v', e = .returned (.tuple #[v', .int .i64 (n : Int), .bool true]) ∧ (∀ w0, RLines w0 v ([sw.data.toList, decI (n : Int)] :: L) → RLines w0 v' L) ∧ w' = w := by
  have HR := Lib.hid hr
  obtain ⟨A, c, rfl, h1, h2, hc⟩ := RLines.open_ hr
  obtain ⟨b, o, rfl, hb, rv, hrv, k0⟩ := hc 0 _ rfl
  obtain ⟨A2, c2, rfl, g1, g2, hc2⟩ := RStrs.open_ hrv
  obtain ⟨b2, o2, rfl, hb2, k1⟩ := hc2 0 _ rfl
  obtain ⟨b2', o2', hA, -, k2⟩ := hc2 1 _ rfl
  obtain ⟨rfl, rfl⟩ : b2 = b2' ∧ o2 = o2' := by simpa using hA
  simp only [List.length_cons, List.length_nil, Nat.zero_add, Nat.add_zero, Nat.reduceAdd] at h1 g1 k0 k1 k2 HR ⊢
  rw [mk_data] at k1
  obtain ⟨sn, hsn⟩ : ∃ s : ByteArray, s = ⟨(decI (n : Int)).toArray⟩ := ⟨_, rfl⟩
  rw [← hsn] at k2
  have HSN := Lib.hid hsn
  clear hr hc hrv hc2 hA hsn
  go_enter Tryd.func19, Tryd.ntmps19
  go_wp2_with fail
  refine (numberD_any n sn w hn HSN.out).mono ?_
  rintro e w2 ⟨rfl, rfl⟩
  go_wp2_with fail
  · subst_vars
    go_ret3
    exact ⟨_, rfl, fun _ _ => ⟨_, _, rfl, Nat.le_refl _, by simp [maxLen], fun h => absurd h (by simp)⟩, rfl⟩
  · go_ret3
    exact ⟨_, rfl, fun w0 h => RL.drop (L := [sw.data.toList, decI (n : Int)] :: L) (n := 1) h (by simp) (by simp) (by simp only [maxLen]; omega), rfl⟩
theorem RStrs.tail {w : World} {b o c c' : Nat} {l : List (List UInt8)} (h : RStrs w (.slice (some ⟨b, o, none⟩) l.length c) l) (h1 : l.length - 1 ≤ c') (hm : c' ≤ maxLen) : RStrs w (.slice (some ⟨b, o + 1, none⟩) (l.length - 1) c') (l.drop 1) := by
  obtain ⟨A, c0, hv, g1, g2, g3, g4⟩ := h
  injection hv with e1 _ e3
  subst e1; subst e3
  refine ⟨_, c', by rw [List.length_drop], by rw [List.length_drop]; exact h1, hm, by simp, fun hn => ?_⟩
  rw [List.length_drop] at hn
  obtain ⟨b', o', hA, hb, hc⟩ := g4 (by omega)
  obtain ⟨rfl, rfl⟩ : b = b' ∧ o = o' := by simpa using hA
  refine ⟨b, o + 1, rfl, hb, fun j u hu => ?_⟩
  rw [List.map_drop, List.getElem?_drop] at hu
  have := hc (1 + j) u hu
  rw [← Nat.add_assoc] at this
  exact this
/-- The numbers of a tour's line. -/
def tourNums (t : Tr) : List Int := (t.length : Int) :: t.flatMap fun s => [s.1, s.2]
theorem tourNums_len (t : Tr) : (tourNums t).length = 2 * t.length + 1 := by
  have : ∀ t : Tr, (t.flatMap fun s => [s.1, s.2]).length = 2 * t.length := by
    intro t
    induction t with
    | nil => rfl
    | cons a t ih => rw [List.flatMap_cons, List.length_append, ih]; simp; omega
  unfold tourNums
  rw [List.length_cons, this]
theorem tourNums_get : ∀ (t : Tr) (i : Nat) (s : Stp), t[i]? = some s → (t.flatMap fun s => [s.1, s.2])[2 * i]? = some s.1 ∧ (t.flatMap fun s => [s.1, s.2])[2 * i + 1]? = some s.2
  | [], i, s, h => by simp at h
  | a :: t, 0, s, h => by
    obtain rfl : a = s := by simpa using h
    exact ⟨rfl, rfl⟩
  | a :: t, i + 1, s, h => by
    have ih := tourNums_get t i s (by simpa using h)
    rw [List.flatMap_cons, show 2 * (i + 1) = 2 + 2 * i by omega, show 2 + 2 * i + 1 = 2 + (2 * i + 1) by omega, List.getElem?_append_right (by simp), List.getElem?_append_right (by simp)]
    simp only [List.length_cons, List.length_nil, Nat.reduceAdd, Nat.add_sub_cancel_left]
    exact ih
theorem tourNums_words {t : Tr} (hl : t.length ≤ 1000) (hw : ∀ s ∈ t, toldS s = true) : ((tourWords t).drop 1).all isNum = true ∧ ((tourWords t).drop 1).map numI = tourNums t := by
  have hd : ∀ n : Int, toldI n = true → isNum (decI n) = true ∧ numI (decI n) = n := by
    intro n h
    rw [toldI, Bool.and_eq_true, decide_eq_true_eq, decide_eq_true_eq] at h
    exact ⟨isNum_decI h.1 (by omega), numV_dec h.1 h.2⟩
  have h0 := hd (t.length : Int) (by rw [toldI, Bool.and_eq_true, decide_eq_true_eq, decide_eq_true_eq]; omega)
  have h1 : ∀ t : Tr, (∀ s ∈ t, toldS s = true) → (t.flatMap fun s => [decI s.1, decI s.2]).all isNum = true ∧ (t.flatMap fun s => [decI s.1, decI s.2]).map numI = t.flatMap fun s => [s.1, s.2] := by
    intro t
    induction t with
    | nil => intro _; exact ⟨rfl, rfl⟩
    | cons a t ih =>
      intro hs
      obtain ⟨i1, i2⟩ := ih fun s h => hs s (by simp [h])
      have ha := hs a (by simp)
      rw [toldS, Bool.and_eq_true] at ha
      obtain ⟨a1, a2⟩ := hd _ ha.1
      obtain ⟨b1, b2⟩ := hd _ ha.2
      rw [List.flatMap_cons, List.flatMap_cons, List.all_append, List.map_append, i1, i2]
      simp [a1, a2, b1, b2]
  obtain ⟨i1, i2⟩ := h1 t hw
  have e : (tourWords t).drop 1 = decI t.length :: t.flatMap fun s => [decI s.1, decI s.2] := rfl
  rw [e, List.all_cons, List.map_cons, i1, i2, h0.1, h0.2]
  exact ⟨rfl, rfl⟩
set_option maxHeartbeats 4000000 in
set_option maxRecDepth 100000 in
theorem readTour_any (v : Value) (t : Tr) (L : List (List (List UInt8))) (w : World) (ht : t.length ≤ 8) (hw : ∀ s ∈ t, toldS s = true) (hr : RLines w v (tourWords t :: L)) :
    Calls Tryd.prog 33 #[v] w fun e w' => ∃ v' tv, e = .returned (.tuple #[v', .agg #[tv], .bool true]) ∧ (∀ w0, RLines w0 v (tourWords t :: L) → RLines w0 v' L) ∧ OL w.heap.size 43 2 RStop w' tv t ∧ Below w.heap.size w w' := by
  have HR := Lib.hid hr
  obtain ⟨A, c, rfl, h1, h2, hc⟩ := RLines.open_ hr
  obtain ⟨b, o, rfl, hb, rv, hrv, k0⟩ := hc 0 _ rfl
  have HRV := Lib.hid hrv
  obtain ⟨A2, c2, rfl, g1, g2, hc2⟩ := RStrs.open_ hrv
  obtain ⟨b2, o2, rfl, hb2, k1⟩ := hc2 0 _ rfl
  have hwl : (tourWords t).length = 2 + 2 * t.length := by rw [← tourPre_all]; exact tourPre_len t _ (Nat.le_refl _)
  obtain ⟨hn1, hn2⟩ := tourNums_words (by omega) hw
  simp only [List.length_cons, Nat.add_zero] at h1 k0 k1 HR ⊢
  have HT := Lib.hid (RStrs.tail HRV.out (c' := (tourWords t).length - 1) (by simp [tourWords]) (by rw [hwl]; simp only [maxLen]; omega))
  have hwl2 : ((tourWords t).drop 1).length = 1 + 2 * t.length := by rw [List.length_drop, hwl]; omega
  have hwx : ∀ x ∈ (tourWords t).drop 1, x.length ≤ 1000000 := fun x hx => by
    have hx2 := List.mem_of_mem_drop hx
    rw [← tourPre_all] at hx2
    have := tour_len (by omega) (fun s hs => by
      have := hw s hs
      simp only [toldS, toldI, Bool.and_eq_true, decide_eq_true_eq] at this
      exact ⟨⟨by omega, by omega⟩, by omega, by omega⟩) _ x hx2
    omega
  have HN := Lib.hid hn1
  have HM := Lib.hid hn2
  have HW2 := Lib.hid hwl2
  have HWX := Lib.hid hwx
  rw [hwl] at k0 HT g1
  rw [show 2 + 2 * t.length - 1 = 1 + 2 * t.length by omega] at HT
  clear hr hc hrv hc2 hn1 hn2 hwl hwl2 hwx HRV hw
  go_enter Tryd.func33, Tryd.ntmps33
  go_wp2_with fail
  have a1 := (Below.refl w.heap.size w).alloc (Nat.le_refl _) (.cells #[.slice none 0 0] 41)
  refine (numbers_any ((tourWords t).drop 1) _ _ (by rw [HW2.out]; omega) HWX.out (HT.out.below a1 (Nat.le_refl _))).mono ?_
  rintro e w2 ⟨u, rfl, hu, hb3⟩
  rw [HN.out]
  rw [numsP_yes HN.out, HM.out] at hu
  obtain ⟨An, cn, rfl, g5, g6, hnc⟩ := hu.open_
  obtain ⟨bn, on, rfl, hbn, y0⟩ := hnc 0 (t.length : Int) rfl
  have HNC := Lib.hid hnc
  rw [tourNums_len] at g5 ⊢
  rw [Nat.add_zero] at y0
  have q2 := below_nx8 a1 hb3
  have bq2 : Blk w2 w.heap.size 41 [.slice none 0 0] := (Blk.new w _ _).below hb3 (by simp)
  have zq := bq2.lt
  clear hu hnc a1 hb3 k0 k1 hb2
  go_wp2_with fail
  have eb0 : (2 * (t.length : Int) + 1 == 0) = false := by simp only [beq_eq_false_iff_ne]; omega
  rw [eb0]
  go_loopw [9] (fun iv wr => ∃ (j : Nat) (sv : Value), j ≤ t.length ∧ iv = .int .i64 (2 * (j : Int) + 1) ∧ Blk wr w2.heap.size 41 [sv] ∧ Hid (OL (w2.heap.size + 1) 43 2 RStop wr sv (t.take j)) ∧ Below w2.heap.size w2 wr) (fun iv _ => 2 * t.length + 1 - (intOf iv).toNat)
  case atStart => exact ⟨0, .slice none 0 0, Nat.zero_le _, rfl, Blk.new w2 _ _, OL.nil_ _ _ _ _ _, below_al8 (Below.refl _ _) _⟩
  case round =>
    obtain ⟨j, sv, hj, rfl, hbox, HOS, hbel⟩ := hrel
    have hz := hbox.lt
    by_cases hlt : j < t.length
    · obtain ⟨⟨cu, qu⟩, hs⟩ := some_of_lt hlt
      obtain ⟨n1, n2⟩ := tourNums_get t j _ hs
      obtain ⟨b5, o5, hA5, -, y1⟩ := HNC.out (2 * j + 1) cu n1
      obtain ⟨rfl, rfl⟩ : bn = b5 ∧ on = o5 := by simpa using hA5
      obtain ⟨b6, o6, hA6, -, y2⟩ := HNC.out (2 * j + 1 + 1) qu n2
      obtain ⟨rfl, rfl⟩ : bn = b6 ∧ on = o6 := by simpa using hA6
      replace y1 := cell_below hbel (Nat.le_refl _) y1
      replace y2 := cell_below hbel (Nat.le_refl _) y2
      have HX := Lib.hid hs
      obtain ⟨css, r1, r2, r3, r4⟩ := HOS.out
      have hln : (t.take j).length = j := by rw [List.length_take]; omega
      rw [hln] at r1 r3
      have HQ1 := Lib.hid r1
      have HQ2 := Lib.hid r2
      have HQ4 := Lib.hid r4
      have HLN := Lib.hid hln
      have hjn : j ≤ 1000000000 := by omega
      have hbase : w2.heap.size + 1 ≤ wr.heap.size := by omega
      have e1 : IntKind.i64.wrap (2 * (j : Int) + 1 + 1) = 2 * (j : Int) + 1 + 1 := IntWalk.i64_in _ (by omega)
      have e2 : (2 * (j : Int) + 1).toNat = 2 * j + 1 := by omega
      have e3 : (2 * (j : Int) + 1 + 1).toNat = 2 * j + 1 + 1 := by omega
      have p1 : (0 : Int) ≤ 2 * (j : Int) + 1 := by omega
      have p2 : (0 : Int) ≤ 2 * (j : Int) + 1 + 1 := by omega
      have p3 : 2 * j + 1 < 2 * t.length + 1 := by omega
      have p4 : 2 * j + 1 + 1 < 2 * t.length + 1 := by omega
      have p5 : 2 * (j : Int) + 1 < 2 * (t.length : Int) + 1 := by omega
      have p6 : 2 * (j : Int) + 1 + 1 < 2 * (t.length : Int) + 1 := by omega
      obtain ⟨wz, hwz⟩ : ∃ wz : World, wz = wr := ⟨_, rfl⟩
      subst hwz
      clear hs n1 n2 hA5 hA6 r1 r2 r4 hln
      go_wp2_with fail
      refine wp_region_N (fun wS => Below wz.heap.size wz wS) [13, 14, 15] (by kernel_rfl) ?_ (fun hS => ?_)
      · exact (Below.refl _ _).drew
      refine wpAnyM_take 0 (v := ?_) rfl (by kernel_rfl) (fun _ _ _ h => h) (by rfl) ?_ hS ?_
      rotate_left
      · intro wS hSw
        (try dsimp only at hSw)
        go_simp
        try with_reducible rfl
      try simp only [Act.put, List.setIfInBounds_toArray]
      refine wpAnyM_take 1 (v := ?_) rfl (by kernel_rfl) (fun _ _ _ h => h) (by rfl) ?_ hS ?_
      rotate_left
      · intro wS hSw
        (try dsimp only at hSw)
        have hc := (hbox.below hSw hbox.lt).cell 0
        simp only [List.getElem?_cons_zero] at hc
        go_simp
        try with_reducible rfl
      try simp only [Act.put]
      refine wpAnyM_take 2 (v := ?_) rfl (by kernel_rfl) (fun _ _ _ h => h) (by rfl) ?_ hS ?_
      rotate_left
      · intro wS hSw
        (try dsimp only at hSw)
        go_simp
        try with_reducible rfl
      try simp only [Act.put]
      refine wpAnyM_take 3 (v := ?_) rfl (by kernel_rfl) (fun _ _ _ h => h) (by rfl) ?_ hS ?_
      rotate_left
      · intro wS hSw
        (try dsimp only at hSw)
        go_simp
        try with_reducible rfl
      try simp only [Act.put]
      refine wpAnyM_take 4 (v := ?_) rfl (by kernel_rfl) (fun _ _ _ h => h) (by rfl) ?_ hS ?_
      rotate_left
      · intro wS hSw
        (try dsimp only at hSw)
        go_simp
        try with_reducible rfl
      try simp only [Act.put]
      refine wpAnyM_take 5 (v := ?_) rfl (by kernel_rfl) (fun _ _ _ h => h) (by rfl) ?_ hS ?_
      rotate_left
      · intro wS hSw
        (try dsimp only at hSw)
        have hn1 := cell_below hSw (Nat.le_refl _) y1
        have hn2 := cell_below hSw (Nat.le_refl _) y2
        go_simp
        try with_reducible rfl
      try simp only [Act.put]
      refine wpAnyM_take 6 (v := ?_) rfl (by kernel_rfl) (fun _ _ _ h => h) (by rfl) ?_ hS ?_
      rotate_left
      · intro wS hSw
        (try dsimp only at hSw)
        go_simp
        try with_reducible rfl
      try simp only [Act.put]
      refine wpAnyM_take 7 (v := ?_) rfl (by kernel_rfl) (fun _ _ _ h => h) (by rfl) ?_ hS ?_
      rotate_left
      · intro wS hSw
        (try dsimp only at hSw)
        go_simp
        try with_reducible rfl
      try simp only [Act.put]
      refine wpAnyM_take 8 (v := ?_) rfl (by kernel_rfl) (fun _ _ _ h => h) (by rfl) ?_ hS ?_
      rotate_left
      · intro wS hSw
        (try dsimp only at hSw)
        go_simp
        try with_reducible rfl
      try simp only [Act.put]
      refine wpAnyM_take 9 (v := ?_) rfl (by kernel_rfl) (fun _ _ _ h => h) (by rfl) ?_ hS ?_
      rotate_left
      · intro wS hSw
        (try dsimp only at hSw)
        go_simp
        try with_reducible rfl
      try simp only [Act.put]
      refine wpAnyM_take 10 (v := ?_) rfl (by kernel_rfl) (fun _ _ _ h => h) (by rfl) ?_ hS ?_
      rotate_left
      · intro wS hSw
        (try dsimp only at hSw)
        have hn1 := cell_below hSw (Nat.le_refl _) y1
        have hn2 := cell_below hSw (Nat.le_refl _) y2
        go_simp
        try with_reducible rfl
      try simp only [Act.put]
      refine wpAnyM_take 11 (v := ?_) rfl (by kernel_rfl) (fun _ _ _ h => h) (by rfl) ?_ hS ?_
      rotate_left
      · intro wS hSw
        (try dsimp only at hSw)
        go_simp
        try with_reducible rfl
      try simp only [Act.put]
      refine wpAnyM_one 12 rfl (by kernel_rfl) (by rfl) (fun K hK => ?_)
      go_simp
      refine hK.out _ _ (hS.alloc hS.size _) ?_
      clear hK K
      try simp only [Act.put, List.setIfInBounds_toArray, List.set_cons_zero, List.set_cons_succ]
      refine wpAnyM_late 13 rfl (by kernel_rfl) (by kernel_rfl) (by rfl) (fun K hK => ?_)
      refine wp_append_one wz.drew _ _ _ (by rfl) (w2.heap.size + 1) 43 _ 2 16 Tryd.underlying39 stopinfo rfl (by decide) (by decide) _ _ _ r3.drew (by rfl) [.int .i64 cu, .int .i64 qu] _ (by rfl) rfl rfl hjn hbase ?_
      intro g cap w5 ho5 hg0 hg1 hk5 hz5
      have hb5 := hk5.below (show w2.heap.size + 1 ≤ wz.drew.heap.size from hbase)
      have hbx5 := (hbox.drew).below hb5 (Nat.lt_succ_self _)
      refine hK.out _ _ ?_
      clear hK K
      try simp only [Act.put, List.setIfInBounds_toArray]
      refine wpAnyM_late 14 rfl (by kernel_rfl) (by kernel_rfl) (by rfl) (fun K hK => ?_)
      go_simp
      refine hK.out _ _ ?_
      clear hK K
      try simp only [Act.put, List.setIfInBounds_toArray, List.set_cons_zero, List.set_cons_succ]
      refine wpAnyM_late 15 rfl (by kernel_rfl) (by kernel_rfl) (by rfl) (fun K hK => ?_)
      have e5 : w5.cell? ⟨w2.heap.size, 0, none⟩ = some sv := hbx5.cell 0
      have f5 : w5.frozen? ⟨w2.heap.size, 0, none⟩ = false := hbx5.frozen 0
      go_simp
      refine hK.out _ _ ?_
      clear hK K
      try simp only [Act.put, List.setIfInBounds_toArray, List.set_cons_zero, List.set_cons_succ]
      refine wpAnyM_done (by kernel_rfl) ?_
      unfold onlyN
      go_wp2
      go_roundw
      case rel =>
        refine ⟨j + 1, .slice (some ⟨g, 0, none⟩) (j + 1) cap, by omega, by go_num, hbx5.set_ 0 _, ?_, ?_⟩
        · rw [take_snoc8 HX.out]
          exact OStops.set_low (OL.push HLN.out HQ1.out HQ2.out rfl ho5 (fun a x cs hx hc => HQ4.out a x cs hx hc) (show RStop w5 [.int .i64 cu, .int .i64 qu] (cu, qu) from rfl)) (Nat.lt_succ_self _) _
        · exact (((hbel.drew).trans (hb5.mono (Nat.le_succ _)))).setCell (p := ⟨w2.heap.size, 0, none⟩) (Nat.le_refl _) _
      case measure => simp [intOf]; omega
    · obtain rfl : j = t.length := by omega
      rw [List.take_length] at HOS
      obtain ⟨css, r1, r2, r3, r4⟩ := HOS.out
      obtain ⟨As, cs, rfl, -⟩ := RS.of_own r3
      have hres := bq2.below hbel bq2.lt
      have kk := q2.trans (hbel.mono q2.size)
      clear r1 r2 r3 r4
      by_cases hL : L = []
      · subst hL
        simp only [List.length_nil, Nat.zero_add] at h1
        have c1 : (1 : Int) ≤ (c : Int) := by omega
        go_wp2_with fail
        refine wp_region_N (fun wS => wS.cell? ⟨w2.heap.size, 0, none⟩ = some (.slice As t.length cs)) [9] (by kernel_rfl) ?_ (fun hS => ?_)
        · exact (hbox.drew).cell 0
        refine wpAnyM_take 0 (v := ?_) rfl (by kernel_rfl) (fun _ _ _ h => h) (by rfl) ?_ hS ?_
        rotate_left
        · intro wS hSw
          (try dsimp only at hSw)
          go_simp
          try with_reducible rfl
        try simp only [Act.put, List.setIfInBounds_toArray]
        refine wpAnyM_take 1 (v := ?_) rfl (by kernel_rfl) (fun _ _ _ h => h) (by rfl) ?_ hS ?_
        rotate_left
        · intro wS hSw
          (try dsimp only at hSw)
          go_simp
          try with_reducible rfl
        try simp only [Act.put]
        refine wpAnyM_take 2 (v := ?_) rfl (by kernel_rfl) (fun _ _ _ h => h) (by rfl) ?_ hS ?_
        rotate_left
        · intro wS hSw
          (try dsimp only at hSw)
          go_simp
          try with_reducible rfl
        try simp only [Act.put]
        refine wpAnyM_take 3 (v := ?_) rfl (by kernel_rfl) (fun _ _ _ h => h) (by rfl) ?_ hS ?_
        rotate_left
        · intro wS hSw
          (try dsimp only at hSw)
          go_simp
          try with_reducible rfl
        try simp only [Act.put]
        refine wpAnyM_take 4 (v := ?_) rfl (by kernel_rfl) (fun _ _ _ h => h) (by rfl) ?_ hS ?_
        rotate_left
        · intro wS hSw
          (try dsimp only at hSw)
          go_simp
          try with_reducible rfl
        try simp only [Act.put]
        refine wpAnyM_take 5 (v := ?_) rfl (by kernel_rfl) (fun _ _ _ h => h) (by rfl) ?_ hS ?_
        rotate_left
        · intro wS hSw
          (try dsimp only at hSw)
          go_simp
          try with_reducible rfl
        try simp only [Act.put]
        refine wpAnyM_take 6 (v := ?_) rfl (by kernel_rfl) (fun _ _ _ h => h) (by rfl) ?_ hS ?_
        rotate_left
        · intro wS hSw
          (try dsimp only at hSw)
          have hc := hSw
          go_simp
          try with_reducible rfl
        try simp only [Act.put]
        refine wpAnyM_take 7 (v := ?_) rfl (by kernel_rfl) (fun _ _ _ h => h) (by rfl) ?_ hS ?_
        rotate_left
        · intro wS hSw
          (try dsimp only at hSw)
          go_simp
          try with_reducible rfl
        try simp only [Act.put]
        refine wpAnyM_one 8 rfl (by kernel_rfl) (by rfl) (fun K hK => ?_)
        have q8 := hres.drew
        have e8 : wr.drew.cell? ⟨w.heap.size, 0, none⟩ = some (.slice none 0 0) := q8.cell 0
        have f8 : wr.drew.frozen? ⟨w.heap.size, 0, none⟩ = false := q8.frozen 0
        go_simp
        refine hK.out _ _ ?_ ?_
        · exact ((hbox.drew).far (p := ⟨w.heap.size, 0, none⟩) (by show w2.heap.size ≠ w.heap.size; omega) _).cell 0
        clear hK K
        try simp only [Act.put, List.setIfInBounds_toArray, List.set_cons_zero, List.set_cons_succ]
        refine wpAnyM_late 9 rfl (by kernel_rfl) (by kernel_rfl) (by rfl) (fun K hK => ?_)
        go_simp
        refine hK.out _ _ ?_
        clear hK K
        try simp only [Act.put, List.setIfInBounds_toArray, List.set_cons_zero, List.set_cons_succ]
        refine wpAnyM_done (by kernel_rfl) ?_
        unfold onlyN
        go_wp2
        refine bodyPost_ret (v := .tuple #[.slice (some ⟨b, o, none⟩) 0 0, .agg #[.slice As t.length cs], .bool true]) ?_ rfl ⟨_, _, rfl, ?_, ?_, ?_⟩
        · have hc := (hres.set_ 0 (.slice As t.length cs)).cell 0
          simp only [List.set_cons_zero, List.getElem?_cons_zero] at hc
          simp [results, Tryd.results33, go_sem, hc]
        · exact fun _ _ => ⟨_, _, rfl, Nat.le_refl _, by simp [maxLen], fun h => absurd h (by simp)⟩
        · exact OL.mono (OStops.set_low (OL.below HOS.out ((Below.refl wr.heap.size wr).drew) (Nat.le_refl _) (fun _ _ h => h)) (by show w.heap.size < w2.heap.size + 1; omega) _) (by omega)
        · exact (kk.drew).setCell (p := ⟨w.heap.size, 0, none⟩) (Nat.le_refl _) _
      · have c1 : (1 : Int) ≤ (c : Int) := by omega
        have c2 : (1 : Int) ≤ (L.length : Int) + 1 := by omega
        have c3 : (0 : Int) ≤ (L.length : Int) + 1 := by omega
        have c4 : (L.length : Int) + 1 ≤ (c : Int) := by omega
        go_wp2_with fail
        refine wp_region_N (fun wS => wS.cell? ⟨w2.heap.size, 0, none⟩ = some (.slice As t.length cs)) [9] (by kernel_rfl) ?_ (fun hS => ?_)
        · exact (hbox.drew).cell 0
        refine wpAnyM_take 0 (v := ?_) rfl (by kernel_rfl) (fun _ _ _ h => h) (by rfl) ?_ hS ?_
        rotate_left
        · intro wS hSw
          (try dsimp only at hSw)
          go_simp
          try with_reducible rfl
        try simp only [Act.put, List.setIfInBounds_toArray]
        refine wpAnyM_take 1 (v := ?_) rfl (by kernel_rfl) (fun _ _ _ h => h) (by rfl) ?_ hS ?_
        rotate_left
        · intro wS hSw
          (try dsimp only at hSw)
          go_simp
          try with_reducible rfl
        try simp only [Act.put]
        refine wpAnyM_take 2 (v := ?_) rfl (by kernel_rfl) (fun _ _ _ h => h) (by rfl) ?_ hS ?_
        rotate_left
        · intro wS hSw
          (try dsimp only at hSw)
          go_simp
          try with_reducible rfl
        try simp only [Act.put]
        refine wpAnyM_take 3 (v := ?_) rfl (by kernel_rfl) (fun _ _ _ h => h) (by rfl) ?_ hS ?_
        rotate_left
        · intro wS hSw
          (try dsimp only at hSw)
          go_simp
          try with_reducible rfl
        try simp only [Act.put]
        refine wpAnyM_take 4 (v := ?_) rfl (by kernel_rfl) (fun _ _ _ h => h) (by rfl) ?_ hS ?_
        rotate_left
        · intro wS hSw
          (try dsimp only at hSw)
          go_simp
          try with_reducible rfl
        try simp only [Act.put]
        refine wpAnyM_take 5 (v := ?_) rfl (by kernel_rfl) (fun _ _ _ h => h) (by rfl) ?_ hS ?_
        rotate_left
        · intro wS hSw
          (try dsimp only at hSw)
          go_simp
          try with_reducible rfl
        try simp only [Act.put]
        refine wpAnyM_take 6 (v := ?_) rfl (by kernel_rfl) (fun _ _ _ h => h) (by rfl) ?_ hS ?_
        rotate_left
        · intro wS hSw
          (try dsimp only at hSw)
          have hc := hSw
          go_simp
          try with_reducible rfl
        try simp only [Act.put]
        refine wpAnyM_take 7 (v := ?_) rfl (by kernel_rfl) (fun _ _ _ h => h) (by rfl) ?_ hS ?_
        rotate_left
        · intro wS hSw
          (try dsimp only at hSw)
          go_simp
          try with_reducible rfl
        try simp only [Act.put]
        refine wpAnyM_one 8 rfl (by kernel_rfl) (by rfl) (fun K hK => ?_)
        have q8 := hres.drew
        have e8 : wr.drew.cell? ⟨w.heap.size, 0, none⟩ = some (.slice none 0 0) := q8.cell 0
        have f8 : wr.drew.frozen? ⟨w.heap.size, 0, none⟩ = false := q8.frozen 0
        go_simp
        refine hK.out _ _ ?_ ?_
        · exact ((hbox.drew).far (p := ⟨w.heap.size, 0, none⟩) (by show w2.heap.size ≠ w.heap.size; omega) _).cell 0
        clear hK K
        try simp only [Act.put, List.setIfInBounds_toArray, List.set_cons_zero, List.set_cons_succ]
        refine wpAnyM_late 9 rfl (by kernel_rfl) (by kernel_rfl) (by rfl) (fun K hK => ?_)
        go_simp
        refine hK.out _ _ ?_
        clear hK K
        try simp only [Act.put, List.setIfInBounds_toArray, List.set_cons_zero, List.set_cons_succ]
        refine wpAnyM_done (by kernel_rfl) ?_
        unfold onlyN
        go_wp2
        refine bodyPost_ret (v := .tuple #[.slice (some ⟨b, o + 1, none⟩) L.length L.length, .agg #[.slice As t.length cs], .bool true]) ?_ rfl ⟨_, _, rfl, ?_, ?_, ?_⟩
        · have hc := (hres.set_ 0 (.slice As t.length cs)).cell 0
          simp only [List.set_cons_zero, List.getElem?_cons_zero] at hc
          simp [results, Tryd.results33, go_sem, hc]
        · exact fun w0 h => RL.drop (L := tourWords t :: L) (n := 1) h (by simp) (by simp) (by simp only [maxLen]; omega)
        · exact OL.mono (OStops.set_low (OL.below HOS.out ((Below.refl wr.heap.size wr).drew) (Nat.le_refl _) (fun _ _ h => h)) (by show w.heap.size < w2.heap.size + 1; omega) _) (by omega)
        · exact (kk.drew).setCell (p := ⟨w.heap.size, 0, none⟩) (Nat.le_refl _) _
end Go.Proofs.YtokdneolgolkbaaDoor
