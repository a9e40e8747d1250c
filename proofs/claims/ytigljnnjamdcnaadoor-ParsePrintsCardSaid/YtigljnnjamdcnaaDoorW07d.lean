/- The walks of the reader: limits, how many. -/
import Derived.Test.YtigljnnjamdcnaaDoorQJ
import Derived.Test.YtigljnnjamdcnaaDoorQF
import Derived.Outline
namespace Go.Proofs.YtigljnnjamdcnaaDoor
open Go.RowKit P05 P06 P07

theorem OInts.cell {lb b o c n : Nat} {w : World} {l : List Int} (h : OInts lb w (.slice (some ⟨b, o, none⟩) n c) l) {i : Nat} {z : Int} (hz : l[i]? = some z) : w.cell? ⟨b, o + i, none⟩ = some (.int .i64 z) := by
  obtain ⟨A, c', hv, -, -, hc⟩ := h.reads.open_
  injection hv with e1 _ _
  obtain ⟨b', o', hA, -, h⟩ := hc i z hz
  rw [← e1] at hA
  obtain ⟨rfl, rfl⟩ : b = b' ∧ o = o' := by simpa using hA
  exact h
set_option maxHeartbeats 4000000 in
set_option maxRecDepth 100000 in
theorem how_any (w0 : World) (R : Nat) (lv : Value) (L : List Line) (st : Rd) (w : World) (hC : RdC w0 R lv L) (hs : RdS w0 R lv L w st) :
    Calls Tryd.prog 28 #[.pointer (some ⟨R, 0, none⟩)] w fun e w' => e = .returned (.bool (howR st).isSome) ∧ Below R w0 w' ∧ ∀ st', howR st = some st' → RdS w0 R lv L w' st' ∧ KeepO R w w' := by
  have HC := Lib.hid hC
  have HS := Lib.hid hs
  have z := hs.lt
  clear hC hs
  go_enter Tryd.func28, Tryd.ntmps28
  go_wp2_with fail
  refine (named_any w0 R lv L st [wCust] w.heap.size 9 _ HC.out (HS.out.below (below_al (Below.refl _ _) _)) (by omega) (Blk.new w _ _) (by decide)).mono ?_
  rintro e w2 ⟨v, rfl, hs2, hko, hm⟩
  have HKO := Lib.hid (((KeepO.refl R w).below (below_al (Below.refl _ _) _)).trans hko)
  clear hko
  cases hn : namedN [wCust] (nextR st).1 with
  | none =>
    have HN : Hid (howR st = none) := Lib.hid (by unfold howR; rw [hn])
    have HS2 := Lib.hid hs2
    clear hn hm hs2
    go_wp2_with fail
    go_ret
    rw [HN.out]
    exact ⟨rfl, HS2.out.from_, fun st' h => by cases h⟩
  | some m =>
    obtain ⟨ds, l1, -, -, l4⟩ := namedN_inv hn
    obtain ⟨n, rfl⟩ : ∃ n, m = [n] := by
      rw [l4]
      match ds, l1 with
      | [k], _ => exact ⟨_, rfl⟩
    have HN : Hid (howR st = some { (nextR st).2 with count := n }) := Lib.hid (by unfold howR; rw [hn])
    have how := hm _ hn
    obtain ⟨A, c, rfl, g1, g2, hc⟩ := how.reads.open_
    obtain ⟨b, o, rfl, hb, y0⟩ := hc 0 n rfl
    simp only [List.length_cons, List.length_nil, Nat.add_zero] at y0 g1
    clear hn hm l1 l4 hc how
    obtain ⟨st2, hst2⟩ : ∃ s, s = (nextR st).2 := ⟨_, rfl⟩
    rw [← hst2] at hs2 HN
    clear hst2
    obtain ⟨k, cv, dv, h1, h2, h3, h4, h5, h6⟩ := hs2
    obtain ⟨c0, c1, c2, c3, c4, c5, c6, c7, c8, c9⟩ := h3.cells10
    have f8 := h3.free10 8
    have hB := h3.set_ 8 (.int .i64 n)
    simp only [List.set_cons_succ, List.set_cons_zero] at hB
    have HS2 : Hid (RdS w0 R lv L (w2.setCell ⟨R, 8, none⟩ (.int .i64 n)) { st2 with count := n }) := Lib.hid
      ⟨k, cv, dv, h1, h2, hB, h4.set_low (p := ⟨R, 8, none⟩) (Nat.lt_succ_self _) _, h5.set_low (p := ⟨R, 8, none⟩) (Nat.lt_succ_self _) _, h6.setCell (p := ⟨R, 8, none⟩) (Nat.le_refl _) _⟩
    clear hB h1 h2 h3 h4 h5 h6
    go_wp2_with fail
    go_ret
    rw [HN.out]
    exact ⟨rfl, HS2.out.from_, fun st' h => by obtain rfl := Option.some.inj h; exact ⟨HS2.out, HKO.out.set 8 _⟩⟩
set_option maxHeartbeats 4000000 in
set_option maxRecDepth 100000 in
theorem limits_any (w0 : World) (R : Nat) (lv : Value) (L : List Line) (st : Rd) (w : World) (hC : RdC w0 R lv L) (hs : RdS w0 R lv L w st) :
    Calls Tryd.prog 27 #[.pointer (some ⟨R, 0, none⟩)] w fun e w' => e = .returned (.bool (limitsR st).isSome) ∧ Below R w0 w' ∧ ∀ st', limitsR st = some st' → RdS w0 R lv L w' st' ∧ KeepO R w w' := by
  have HC := Lib.hid hC
  have HS := Lib.hid hs
  have z := hs.lt
  clear hC hs
  go_enter Tryd.func27, Tryd.ntmps27
  go_wp2_with fail
  refine (named_any w0 R lv L st [wDays, wVeh, wCap, wLen] w.heap.size 9 _ HC.out (HS.out.below (below_al (Below.refl _ _) _)) (by omega) (Blk.new w _ _) (by decide)).mono ?_
  rintro e w2 ⟨v, rfl, hs2, hko, hm⟩
  have HKO := Lib.hid (((KeepO.refl R w).below (below_al (Below.refl _ _) _)).trans hko)
  clear hko
  cases hn : namedN [wDays, wVeh, wCap, wLen] (nextR st).1 with
  | none =>
    have HN : Hid (limitsR st = none) := Lib.hid (by unfold limitsR; rw [hn])
    have HS2 := Lib.hid hs2
    clear hn hm hs2
    go_wp2_with fail
    go_ret
    rw [HN.out]
    exact ⟨rfl, HS2.out.from_, fun st' h => by cases h⟩
  | some m =>
    obtain ⟨ds, l1, -, -, l4⟩ := namedN_inv hn
    obtain ⟨na, nb, nc, nd, rfl⟩ : ∃ a b c d, m = [a, b, c, d] := by
      rw [l4]
      match ds, l1 with
      | [a, b, c, d], _ => exact ⟨_, _, _, _, rfl⟩
    have HN : Hid (limitsR st = some { (nextR st).2 with x := ⟨na, nb, nc, nd, st.x.custs, st.x.dist⟩ }) := Lib.hid (by unfold limitsR; rw [hn])
    have HOW := Lib.hid (hm _ hn)
    have hx2 : (nextR st).2.x = st.x := by unfold nextR; split <;> rfl
    clear hn hm l1 l4
    obtain ⟨A, c, rfl, g1, g2, hc⟩ := HOW.out.reads.open_
    obtain ⟨b, o, rfl, -, -⟩ := hc 0 na rfl
    simp only [List.length_cons, List.length_nil] at g1 HOW
    clear hc
    rw [← hx2] at HN
    obtain ⟨st2, hst2⟩ : ∃ s, s = (nextR st).2 := ⟨_, rfl⟩
    rw [← hst2] at hs2 HN
    clear hst2 hx2
    obtain ⟨k, cv, dv, h1, h2, h3, h4, h5, h6⟩ := hs2
    have HO0 := own_below HOW.out ((Below.refl w2.heap.size w2).drew) (Nat.le_refl _)
    have hz := h3.lt
    have b0 := h3.drew
    have b1 := b0.set_ 2 (.int .i64 na)
    have b2 := b1.set_ 3 (.int .i64 nb)
    have b3 := b2.set_ 4 (.int .i64 nc)
    have b4 := b3.set_ 5 (.int .i64 nd)
    simp only [List.set_cons_succ, List.set_cons_zero] at b1 b2 b3 b4
    have o1 := own_set_low (p := ⟨R, 2, none⟩) HO0 (Nat.lt_succ_self _) (.int .i64 na)
    have o2 := own_set_low (p := ⟨R, 3, none⟩) o1 (Nat.lt_succ_self _) (.int .i64 nb)
    have o3 := own_set_low (p := ⟨R, 4, none⟩) o2 (Nat.lt_succ_self _) (.int .i64 nc)
    have o4 := own_set_low (p := ⟨R, 5, none⟩) o3 (Nat.lt_succ_self _) (.int .i64 nd)
    have B0 := Lib.hid b0
    have HB3 := Lib.hid h3
    have B1 := Lib.hid b1
    have B2 := Lib.hid b2
    have B3 := Lib.hid b3
    have O1 := Lib.hid o1
    have O2 := Lib.hid o2
    have O3 := Lib.hid o3
    have O4 := Lib.hid o4
    have HS2 : Hid (RdS w0 R lv L ((((w2.drew.setCell ⟨R, 2, none⟩ (.int .i64 na)).setCell ⟨R, 3, none⟩ (.int .i64 nb)).setCell ⟨R, 4, none⟩ (.int .i64 nc)).setCell ⟨R, 5, none⟩ (.int .i64 nd)) { st2 with x := ⟨na, nb, nc, nd, st2.x.custs, st2.x.dist⟩ }) := Lib.hid
      ⟨k, cv, dv, h1, h2, b4, ((((h4.below ((Below.refl w2.heap.size w2).drew) (Nat.le_refl _)).set_low (p := ⟨R, 2, none⟩) (Nat.lt_succ_self _) _).set_low (p := ⟨R, 3, none⟩) (Nat.lt_succ_self _) _).set_low (p := ⟨R, 4, none⟩) (Nat.lt_succ_self _) _).set_low (p := ⟨R, 5, none⟩) (Nat.lt_succ_self _) _,
       ((((h5.below ((Below.refl w2.heap.size w2).drew) (Nat.le_refl _)).set_low (p := ⟨R, 2, none⟩) (Nat.lt_succ_self _) _).set_low (p := ⟨R, 3, none⟩) (Nat.lt_succ_self _) _).set_low (p := ⟨R, 4, none⟩) (Nat.lt_succ_self _) _).set_low (p := ⟨R, 5, none⟩) (Nat.lt_succ_self _) _,
       (((h6.drew.setCell (p := ⟨R, 2, none⟩) (Nat.le_refl _) _).setCell (p := ⟨R, 3, none⟩) (Nat.le_refl _) _).setCell (p := ⟨R, 4, none⟩) (Nat.le_refl _) _).setCell (p := ⟨R, 5, none⟩) (Nat.le_refl _) _⟩
    clear b0 b1 b2 b3 b4 o1 o2 o3 o4 h1 h2 h3 h4 h5 h6
    go_wp2_with fail
    refine wp_region_N (fun wS => OInts (R + 1) wS (.slice (some ⟨b, o, none⟩) [na, nb, nc, nd].length c) [na, nb, nc, nd]) [] (by kernel_rfl) ?_ (fun hS => ?_)
    · exact HO0
    refine wpAnyM_take 0 (v := ?_) rfl (by kernel_rfl) (fun _ _ _ h => h) (by rfl) ?_ hS ?_
    rotate_left
    · intro wS hSw
      (try dsimp only at hSw)
      go_simp
      try with_reducible rfl
    try simp only [Act.put, List.setIfInBounds_toArray]
    refine wpAnyM_take 1 (v := ?_) rfl (by kernel_rfl) (fun _ _ _ h => h) (by rfl) ?_ hS ?_
    rotate_left
    · intro wS hSw
      (try dsimp only at hSw)
      go_simp
      try with_reducible rfl
    try simp only [Act.put]
    refine wpAnyM_take 2 (v := ?_) rfl (by kernel_rfl) (fun _ _ _ h => h) (by rfl) ?_ hS ?_
    rotate_left
    · intro wS hSw
      (try dsimp only at hSw)
      go_simp
      try with_reducible rfl
    try simp only [Act.put]
    refine wpAnyM_take 3 (v := ?_) rfl (by kernel_rfl) (fun _ _ _ h => h) (by rfl) ?_ hS ?_
    rotate_left
    · intro wS hSw
      (try dsimp only at hSw)
      go_simp
      try with_reducible rfl
    try simp only [Act.put]
    refine wpAnyM_take 4 (v := ?_) rfl (by kernel_rfl) (fun _ _ _ h => h) (by rfl) ?_ hS ?_
    rotate_left
    · intro wS hSw
      (try dsimp only at hSw)
      go_simp
      try with_reducible rfl
    try simp only [Act.put]
    refine wpAnyM_take 5 (v := ?_) rfl (by kernel_rfl) (fun _ _ _ h => h) (by rfl) ?_ hS ?_
    rotate_left
    · intro wS hSw
      (try dsimp only at hSw)
      go_simp
      try with_reducible rfl
    try simp only [Act.put]
    refine wpAnyM_take 6 (v := ?_) rfl (by kernel_rfl) (fun _ _ _ h => h) (by rfl) ?_ hS ?_
    rotate_left
    · intro wS hSw
      (try dsimp only at hSw)
      have hc := OInts.cell hSw (i := 0) rfl
      rw [Nat.add_zero] at hc
      go_simp
      try with_reducible rfl
    try simp only [Act.put]
    refine wpAnyM_take 7 (v := ?_) rfl (by kernel_rfl) (fun _ _ _ h => h) (by rfl) ?_ hS ?_
    rotate_left
    · intro wS hSw
      (try dsimp only at hSw)
      go_simp
      try with_reducible rfl
    try simp only [Act.put]
    refine wpAnyM_take 8 (v := ?_) rfl (by kernel_rfl) (fun _ _ _ h => h) (by rfl) ?_ hS ?_
    rotate_left
    · intro wS hSw
      (try dsimp only at hSw)
      go_simp
      try with_reducible rfl
    try simp only [Act.put]
    refine wpAnyM_take 9 (v := ?_) rfl (by kernel_rfl) (fun _ _ _ h => h) (by rfl) ?_ hS ?_
    rotate_left
    · intro wS hSw
      (try dsimp only at hSw)
      have hc := OInts.cell hSw (i := 1) rfl
      go_simp
      try with_reducible rfl
    try simp only [Act.put]
    refine wpAnyM_take 10 (v := ?_) rfl (by kernel_rfl) (fun _ _ _ h => h) (by rfl) ?_ hS ?_
    rotate_left
    · intro wS hSw
      (try dsimp only at hSw)
      go_simp
      try with_reducible rfl
    try simp only [Act.put]
    refine wpAnyM_take 11 (v := ?_) rfl (by kernel_rfl) (fun _ _ _ h => h) (by rfl) ?_ hS ?_
    rotate_left
    · intro wS hSw
      (try dsimp only at hSw)
      go_simp
      try with_reducible rfl
    try simp only [Act.put]
    refine wpAnyM_take 12 (v := ?_) rfl (by kernel_rfl) (fun _ _ _ h => h) (by rfl) ?_ hS ?_
    rotate_left
    · intro wS hSw
      (try dsimp only at hSw)
      have hc := OInts.cell hSw (i := 2) rfl
      go_simp
      try with_reducible rfl
    try simp only [Act.put]
    refine wpAnyM_take 13 (v := ?_) rfl (by kernel_rfl) (fun _ _ _ h => h) (by rfl) ?_ hS ?_
    rotate_left
    · intro wS hSw
      (try dsimp only at hSw)
      go_simp
      try with_reducible rfl
    try simp only [Act.put]
    refine wpAnyM_take 14 (v := ?_) rfl (by kernel_rfl) (fun _ _ _ h => h) (by rfl) ?_ hS ?_
    rotate_left
    · intro wS hSw
      (try dsimp only at hSw)
      go_simp
      try with_reducible rfl
    try simp only [Act.put]
    refine wpAnyM_take 15 (v := ?_) rfl (by kernel_rfl) (fun _ _ _ h => h) (by rfl) ?_ hS ?_
    rotate_left
    · intro wS hSw
      (try dsimp only at hSw)
      have hc := OInts.cell hSw (i := 3) rfl
      go_simp
      try with_reducible rfl
    try simp only [Act.put]
    refine wpAnyM_take 16 (v := ?_) rfl (by kernel_rfl) (fun _ _ _ h => h) (by rfl) ?_ hS ?_
    rotate_left
    · intro wS hSw
      (try dsimp only at hSw)
      go_simp
      try with_reducible rfl
    try simp only [Act.put]
    refine wpAnyM_take 17 (v := ?_) rfl (by kernel_rfl) (fun _ _ _ h => h) (by rfl) ?_ hS ?_
    rotate_left
    · intro wS hSw
      (try dsimp only at hSw)
      go_simp
      try with_reducible rfl
    try simp only [Act.put]
    refine wpAnyM_take 18 (v := ?_) rfl (by kernel_rfl) (fun _ _ _ h => h) (by rfl) ?_ hS ?_
    rotate_left
    · intro wS hSw
      (try dsimp only at hSw)
      go_simp
      try with_reducible rfl
    try simp only [Act.put]
    refine wpAnyM_one 19 rfl (by kernel_rfl) (by rfl) (fun K hK => ?_)
    have eB := HB3.out.cell 2
    have fB := HB3.out.frozen 2
    have eC := B0.out.cell 2
    have fC := B0.out.frozen 2
    simp only [List.getElem?_cons_succ, List.getElem?_cons_zero] at eB eC
    go_simp
    refine hK.out _ _ O1.out ?_
    clear hK K eC fC eB fB
    try simp only [Act.put, List.setIfInBounds_toArray, List.set_cons_zero, List.set_cons_succ]
    refine wpAnyM_take 20 (v := ?_) rfl (by kernel_rfl) (fun _ _ _ h => h) (by rfl) ?_ O1.out ?_
    rotate_left
    · intro wS hSw
      (try dsimp only at hSw)
      go_simp
      try with_reducible rfl
    try simp only [Act.put, List.setIfInBounds_toArray]
    refine wpAnyM_take 21 (v := ?_) rfl (by kernel_rfl) (fun _ _ _ h => h) (by rfl) ?_ O1.out ?_
    rotate_left
    · intro wS hSw
      (try dsimp only at hSw)
      go_simp
      try with_reducible rfl
    try simp only [Act.put]
    refine wpAnyM_take 22 (v := ?_) rfl (by kernel_rfl) (fun _ _ _ h => h) (by rfl) ?_ O1.out ?_
    rotate_left
    · intro wS hSw
      (try dsimp only at hSw)
      go_simp
      try with_reducible rfl
    try simp only [Act.put]
    refine wpAnyM_one 23 rfl (by kernel_rfl) (by rfl) (fun K hK => ?_)
    have eB := HB3.out.cell 3
    have fB := HB3.out.frozen 3
    have eC := B1.out.cell 3
    have fC := B1.out.frozen 3
    simp only [List.getElem?_cons_succ, List.getElem?_cons_zero] at eB eC
    go_simp
    refine hK.out _ _ O2.out ?_
    clear hK K eC fC eB fB
    try simp only [Act.put, List.setIfInBounds_toArray, List.set_cons_zero, List.set_cons_succ]
    refine wpAnyM_take 24 (v := ?_) rfl (by kernel_rfl) (fun _ _ _ h => h) (by rfl) ?_ O2.out ?_
    rotate_left
    · intro wS hSw
      (try dsimp only at hSw)
      go_simp
      try with_reducible rfl
    try simp only [Act.put, List.setIfInBounds_toArray]
    refine wpAnyM_take 25 (v := ?_) rfl (by kernel_rfl) (fun _ _ _ h => h) (by rfl) ?_ O2.out ?_
    rotate_left
    · intro wS hSw
      (try dsimp only at hSw)
      go_simp
      try with_reducible rfl
    try simp only [Act.put]
    refine wpAnyM_take 26 (v := ?_) rfl (by kernel_rfl) (fun _ _ _ h => h) (by rfl) ?_ O2.out ?_
    rotate_left
    · intro wS hSw
      (try dsimp only at hSw)
      go_simp
      try with_reducible rfl
    try simp only [Act.put]
    refine wpAnyM_one 27 rfl (by kernel_rfl) (by rfl) (fun K hK => ?_)
    have eB := HB3.out.cell 4
    have fB := HB3.out.frozen 4
    have eC := B2.out.cell 4
    have fC := B2.out.frozen 4
    simp only [List.getElem?_cons_succ, List.getElem?_cons_zero] at eB eC
    go_simp
    refine hK.out _ _ O3.out ?_
    clear hK K eC fC eB fB
    try simp only [Act.put, List.setIfInBounds_toArray, List.set_cons_zero, List.set_cons_succ]
    refine wpAnyM_take 28 (v := ?_) rfl (by kernel_rfl) (fun _ _ _ h => h) (by rfl) ?_ O3.out ?_
    rotate_left
    · intro wS hSw
      (try dsimp only at hSw)
      go_simp
      try with_reducible rfl
    try simp only [Act.put, List.setIfInBounds_toArray]
    refine wpAnyM_take 29 (v := ?_) rfl (by kernel_rfl) (fun _ _ _ h => h) (by rfl) ?_ O3.out ?_
    rotate_left
    · intro wS hSw
      (try dsimp only at hSw)
      go_simp
      try with_reducible rfl
    try simp only [Act.put]
    refine wpAnyM_take 30 (v := ?_) rfl (by kernel_rfl) (fun _ _ _ h => h) (by rfl) ?_ O3.out ?_
    rotate_left
    · intro wS hSw
      (try dsimp only at hSw)
      go_simp
      try with_reducible rfl
    try simp only [Act.put]
    refine wpAnyM_one 31 rfl (by kernel_rfl) (by rfl) (fun K hK => ?_)
    have eB := HB3.out.cell 5
    have fB := HB3.out.frozen 5
    have eC := B3.out.cell 5
    have fC := B3.out.frozen 5
    simp only [List.getElem?_cons_succ, List.getElem?_cons_zero] at eB eC
    go_simp
    refine hK.out _ _ O4.out ?_
    clear hK K eC fC eB fB
    try simp only [Act.put, List.setIfInBounds_toArray, List.set_cons_zero, List.set_cons_succ]
    refine wpAnyM_done (by kernel_rfl) ?_
    unfold onlyN
    go_wp2
    go_ret
    rw [HN.out]
    exact ⟨rfl, HS2.out.from_, fun st' h => by obtain rfl := Option.some.inj h; exact ⟨HS2.out, ((((HKO.out.below ((Below.refl _ _).drew)).set 2 _).set 3 _).set 4 _).set 5 _⟩⟩
end Go.Proofs.YtigljnnjamdcnaaDoor
