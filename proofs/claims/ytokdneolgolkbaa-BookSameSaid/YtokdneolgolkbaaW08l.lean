/- The walk of Clone. -/
import Derived.Test.YtokdneolgolkbaaM08
import Derived.Test.YtokdneolgolkbaaOrdR
import Derived.Outline
namespace Go.Proofs.Ytokdneolgolkbaa
open Go.RowKit P08

theorem stops_cells (t : Tr) : (t.flatMap stopC).all (fun u => u.oneCell') = true := by
  rw [List.all_eq_true]
  intro u hu
  obtain ⟨s, _, hu⟩ := List.mem_flatMap.1 hu
  simp only [stopC, List.mem_cons, List.not_mem_nil, or_false] at hu
  rcases hu with rfl | rfl <;> rfl
theorem flatten_get' : ∀ (t : Tr) (i j : Nat) (s : Stp), t[i]? = some s → j < 2 → (t.flatMap stopC)[i * 2 + j]? = (stopC s)[j]?
  | [], i, j, s, h, _ => by simp at h
  | a :: t, 0, j, s, h, hj => by
    obtain rfl : a = s := by simpa using h
    rw [List.flatMap_cons, Nat.zero_mul, Nat.zero_add, List.getElem?_append_left (by simpa [stopC] using hj)]
  | a :: t, i + 1, j, s, h, hj => by
    rw [List.flatMap_cons, List.getElem?_append_right (by simp [stopC]; omega), show (i + 1) * 2 + j - (stopC a).length = i * 2 + j by simp [stopC]; omega]
    exact flatten_get' t i j s (by simpa using h) hj
theorem RStops.rs {w : World} {v : Value} {t : Tr} (h : RL 2 RStop w v t) : RS w 2 v t.length (t.flatMap stopC) := by
  obtain ⟨A, c, rfl, h1, h2, h3⟩ := h
  have hl : ∀ t : Tr, (t.flatMap stopC).length = t.length * 2 := by
    intro t
    induction t with
    | nil => rfl
    | cons a t ih => rw [List.flatMap_cons, List.length_append, ih, List.length_cons]; simp [stopC]; omega
  refine ⟨A, c, rfl, h1, h2, hl t, fun hn => ?_⟩
  obtain ⟨b, o, hA, hb, hc⟩ := h3 hn
  refine ⟨b, o, hA, hb, fun j u hu => ?_⟩
  have hj := lt_of_some hu
  rw [hl] at hj
  obtain ⟨s, hs⟩ := some_of_lt (l := t) (i := j / 2) (by omega)
  obtain ⟨cs, _, rfl, hk⟩ := hc (j / 2) s hs
  have e : (t.flatMap stopC)[j]? = (stopC s)[j % 2]? := by
    have := flatten_get' t (j / 2) (j % 2) s hs (by omega)
    rw [← this]
    congr 1
    omega
  rw [e] at hu
  have := hk (j % 2) u hu
  rw [Nat.add_assoc, show j / 2 * 2 + j % 2 = j by omega] at this
  exact this
set_option maxHeartbeats 4000000 in
set_option maxRecDepth 100000 in
theorem clone8_any (v : Value) (p : Pl) (w : World) (hp : RPlan w v p) (hsm : Small p) :
    Calls Try.prog 10 #[v] w fun e w' => ∃ v', e = .returned v' ∧ OPlan w.heap.size 32 36 38 w' v' p ∧ Below w.heap.size w w' := by
  obtain ⟨dv, rfl, hd⟩ := hp
  obtain ⟨A, c, rfl, h1, h2, hc⟩ := RDays.open_ hd
  have HD := Lib.hid hc
  have HSM := Lib.hid hsm
  clear hd hc hsm
  go_enter Try.func10, Try.ntmps10
  go_wp2_with fail
  go_loopw [12] (fun iv wr => ∃ (k : Nat) (ov : Value), k ≤ p.length ∧ iv = .int .i64 k ∧ Blk wr (w.heap.size + 1) 24 [.slice none 0 0] ∧ Blk wr (w.heap.size + 1 + 1) 24 [ov] ∧
      Hid (ODays (w.heap.size + 1 + 1 + 1) 32 36 38 wr ov (p.take k)) ∧ Below w.heap.size w wr) (fun iv _ => p.length - (intOf iv).toNat)
  case atStart =>
    refine ⟨0, .slice none 0 0, Nat.zero_le _, rfl, (Blk.newAt' _ _ _ (by simp)).alloc _, Blk.newAt' _ _ _ (by simp), OL.nil_ _ _ _ _ _, ?_⟩
    exact below_al8 (below_al8 (below_al8 (Below.refl _ _) _) _) _
  case round =>
    obtain ⟨k, ov, hk, rfl, hbz, hbo, HO, hbel⟩ := hrel
    have z1 := hbz.lt
    have z2 := hbo.lt
    have hpl := HSM.out.days
    by_cases hlt : k < p.length
    · obtain ⟨d, hd⟩ := some_of_lt hlt
      obtain ⟨b, o, rfl, hb, tv, htv, hcell⟩ := HD.out k d hd
      obtain ⟨A2, c2, rfl, g1, g2, hct⟩ := RTours.open_ htv
      have c1 : wr.cell? ⟨b, o + k, none⟩ = some (.slice A2 d.length c2) := cell_below hbel (Nat.le_refl _) hcell
      have hb' := Nat.lt_of_lt_of_le hb hbel.size
      have HT := Lib.hid hct
      have HX := Lib.hid hd
      have hdl := HSM.out.tours d (List.mem_of_getElem? hd)
      obtain ⟨wo, hwo⟩ : ∃ wo : World, wo = wr := ⟨_, rfl⟩
      subst hwo
      clear hd hcell htv hct
      go_wp2_with fail
      go_loopw [19] (fun iv wr => ∃ (j : Nat) (dv : Value), j ≤ d.length ∧ iv = .int .i64 j ∧ Blk wr (wo.heap.size + 1) 32 [dv] ∧
          Hid (OL (wo.heap.size + 1 + 1) 36 1 (OTour (wo.heap.size + 1 + 1) 38) wr dv (d.take j)) ∧ Below wo.heap.size wo wr) (fun iv _ => d.length - (intOf iv).toNat)
      case atStart =>
        exact ⟨0, .slice none 0 0, Nat.zero_le _, rfl, Blk.newAt' _ _ _ (by simp), OL.nil_ _ _ _ _ _, below_al8 (below_al8 (Below.refl _ _) _) _⟩
      case round =>
        obtain ⟨j, dv, hj, rfl, hbd, HOD, hbel2⟩ := hrel
        have y0 := hbd.lt
        have yz := hbel2.size
        by_cases hlt2 : j < d.length
        · obtain ⟨t, ht⟩ := some_of_lt hlt2
          obtain ⟨b2, o2, rfl, hb2, sv, hsv, hcell⟩ := HT.out j t ht
          obtain ⟨A3, c3, rfl, g3, g4, -⟩ := RStops.open_ hsv
          have x2 : wr.cell? ⟨b2, o2 + j, none⟩ = some (.slice A3 t.length c3) := cell_below hbel2 (Nat.le_refl _) (cell_below hbel (Nat.le_refl _) hcell)
          have htl := HSM.out.stops d (List.mem_of_getElem? HX.out) t (List.mem_of_getElem? ht)
          have HX2 := Lib.hid ht
          have hb2w := Nat.lt_of_lt_of_le (Nat.lt_of_lt_of_le hb2 hbel.size) yz
          obtain ⟨wq, hwq⟩ : ∃ wq : World, wq = wr := ⟨_, rfl⟩
          subst hwq
          have HRS := Lib.hid (RStops.rs (RStops.below (RStops.below (RStops.below hsv hbel (Nat.le_refl _)) hbel2 (Nat.le_refl _)) ((below_al8 (Below.refl wq.heap.size wq) (.cells #[.slice A3 t.length c3] 36)).drew) (Nat.le_refl _)))
          have htl2 : t.length ≤ 1000000000 := by omega
          have hjn : j ≤ 1000000000 := by omega
          have hbase : wo.heap.size + 1 + 1 ≤ wq.heap.size := by omega
          obtain ⟨css, r1, r2, r3, r4⟩ := HOD.out
          have hln : (d.take j).length = j := by rw [List.length_take]; omega
          rw [hln] at r1 r3
          have HQ1 := Lib.hid r1
          have HQ2 := Lib.hid r2
          have HQ4 := Lib.hid r4
          have HLN := Lib.hid hln
          clear ht hcell hsv r1 r2 r4 hln
          go_wp2_with fail
          refine wp_region_N (fun wS => wS.cell? ⟨wo.heap.size + 1, 0, none⟩ = some dv ∧ wS.cell? ⟨wq.heap.size, 0, none⟩ = some (.slice A3 t.length c3)) [7, 8, 9] (by kernel_rfl) ?_ (fun hS => ?_)
          · exact ⟨((hbd.alloc (.cells #[.slice A3 t.length c3] 36)).drew).cell 0, ((Blk.new wq 36 [.slice A3 t.length c3]).drew).cell 0⟩
          refine wpAnyM_take 0 (v := ?_) rfl (by kernel_rfl) (fun _ _ _ h => h) (by rfl) ?_ hS ?_
          rotate_left
          · intro wS hSw
            (try dsimp only at hSw)
            go_simp
            try with_reducible rfl
          try simp only [Act.put, List.setIfInBounds_toArray, List.set_cons_zero, List.set_cons_succ]
          refine wpAnyM_take 1 (v := ?_) rfl (by kernel_rfl) (fun _ _ _ h => h) (by rfl) ?_ hS ?_
          rotate_left
          · intro wS hSw
            (try dsimp only at hSw)
            have hc := hSw.1
            go_simp
            try with_reducible rfl
          try simp only [Act.put, List.setIfInBounds_toArray, List.set_cons_zero, List.set_cons_succ]
          refine wpAnyM_take 2 (v := ?_) rfl (by kernel_rfl) (fun _ _ _ h => h) (by rfl) ?_ hS ?_
          rotate_left
          · intro wS hSw
            (try dsimp only at hSw)
            go_simp
            try with_reducible rfl
          try simp only [Act.put, List.setIfInBounds_toArray, List.set_cons_zero, List.set_cons_succ]
          refine wpAnyM_take 3 (v := ?_) rfl (by kernel_rfl) (fun _ _ _ h => h) (by rfl) ?_ hS ?_
          rotate_left
          · intro wS hSw
            (try dsimp only at hSw)
            have hc := hSw.2
            go_simp
            try with_reducible rfl
          try simp only [Act.put, List.setIfInBounds_toArray, List.set_cons_zero, List.set_cons_succ]
          refine wpAnyM_one 4 rfl (by kernel_rfl) (by rfl) (fun K hK => ?_)
          refine wp_append_fresh _ _ _ _ (by rfl) 38 _ 2 16 Try.underlying34 stopinfo rfl (by decide) (by decide) A3 t.length c3 (t.flatMap stopC) (by rfl) (by rfl) HRS.out (stops_cells t) htl2 ?_
          intro rv2 w2 hown2 hb2
          obtain ⟨Aq, cq, rfl, -⟩ := RS.of_own hown2
          have hbr2 : Below wq.heap.size wq w2 := (below_al8 (Below.refl wq.heap.size wq) (.cells #[.slice A3 t.length c3] 36)).drew.trans (hb2.mono (show wq.heap.size ≤ _ by simp))
          have t2 := ((Blk.new wq 36 [.slice A3 t.length c3]).drew).below hb2 (by simp)
          have d2 := hbd.below hbr2 hbd.lt
          refine hK.out _ _ ⟨d2.cell 0, t2.cell 0⟩ ?_
          clear hK K
          try simp only [Act.put, List.setIfInBounds_toArray, List.set_cons_zero, List.set_cons_succ]
          refine wpAnyM_one 5 rfl (by kernel_rfl) (by rfl) (fun K hK => ?_)
          go_simp
          refine hK.out _ _ ⟨d2.cell 0, t2.cell 0⟩ ?_
          clear hK K
          try simp only [Act.put, List.setIfInBounds_toArray, List.set_cons_zero, List.set_cons_succ]
          refine wpAnyM_one 6 rfl (by kernel_rfl) (by rfl) (fun K hK => ?_)
          go_simp
          refine hK.out _ _ ⟨(d2.alloc _).cell 0, (t2.alloc _).cell 0⟩ ?_
          clear hK K
          try simp only [Act.put, List.setIfInBounds_toArray, List.set_cons_zero, List.set_cons_succ]
          refine wpAnyM_late 7 rfl (by kernel_rfl) (by kernel_rfl) (by rfl) (fun K hK => ?_)
          refine wp_append_one w2 _ _ _ (by rfl) (wo.heap.size + 1 + 1) 36 _ 1 24 Try.underlying30 tourinfo rfl (by decide) (by decide) _ _ _ (own_below r3 hbr2 (Nat.le_refl _)) (by rfl) [.slice Aq t.length cq] _ (by rfl) rfl rfl hjn (Nat.le_trans hbase hbr2.size) ?_
          intro g cap w5 ho5 hg0 hg1 hk5 hz5
          have hb5 := hk5.below (Nat.le_trans hbase hbr2.size)
          have d5 := d2.below hb5 (Nat.lt_succ_self _)
          refine hK.out _ _ ?_
          clear hK K
          try simp only [Act.put, List.setIfInBounds_toArray, List.set_cons_zero, List.set_cons_succ]
          refine wpAnyM_late 8 rfl (by kernel_rfl) (by kernel_rfl) (by rfl) (fun K hK => ?_)
          go_simp
          refine hK.out _ _ ?_
          clear hK K
          try simp only [Act.put, List.setIfInBounds_toArray, List.set_cons_zero, List.set_cons_succ]
          refine wpAnyM_late 9 rfl (by kernel_rfl) (by kernel_rfl) (by rfl) (fun K hK => ?_)
          have e5 : w5.cell? ⟨wo.heap.size + 1, 0, none⟩ = some dv := d5.cell 0
          have f5 : w5.frozen? ⟨wo.heap.size + 1, 0, none⟩ = false := d5.frozen 0
          go_simp
          refine hK.out _ _ ?_
          clear hK K
          try simp only [Act.put, List.setIfInBounds_toArray, List.set_cons_zero, List.set_cons_succ]
          refine wpAnyM_done (by kernel_rfl) ?_
          unfold onlyN
          go_wp2
          go_roundw
          case rel =>
            refine ⟨j + 1, .slice (some ⟨g, 0, none⟩) (j + 1) cap, by omega, by go_num, d5.set_ 0 _, ?_, ?_⟩
            · rw [take_snoc8 HX2.out]
              refine OTours.set_low (OL.push HLN.out HQ1.out HQ2.out rfl ho5 (fun a x cs hx hc => OTour.keep (OTour.below (HQ4.out a x cs hx hc) hbr2 (Nat.le_refl _)) hk5 (by decide)) ⟨_, rfl, OStops.keep ?_ hk5 (by decide)⟩) (Nat.lt_succ_self _) _
              exact ⟨t.map stopC, by simp, fun cs hcs => by obtain ⟨x, _, rfl⟩ := List.mem_map.1 hcs; rfl, by rw [← List.flatMap_def]; exact own_mono hown2 (by simp; omega), fun i x cs hx hc => by rw [List.getElem?_map, hx] at hc; exact (by simpa using hc : stopC x = cs).symm⟩
            · exact ((hbel2.trans (hbr2.mono yz)).trans (hb5.mono (by omega))).setCell (p := ⟨wo.heap.size + 1, 0, none⟩) (Nat.le_succ _) _
          case measure => simp [intOf]; omega
        · obtain rfl : j = d.length := by omega
          have HOT : Hid (OL (wo.heap.size + 1 + 1) 36 1 (OTour (wo.heap.size + 1 + 1) 38) wr dv d) := by have := HOD.out; rw [List.take_length] at this; exact this
          obtain ⟨css, q1, q2, q3, q4⟩ := HOT.out
          obtain ⟨Av, cv, rfl, -⟩ := RS.of_own q3
          obtain ⟨cst, r1, r2, r3, r4⟩ := HO.out
          have hln : (p.take k).length = k := by rw [List.length_take]; omega
          rw [hln] at r1 r3
          replace r3 := own_below r3 hbel2 (Nat.le_refl _)
          have HQ1 := Lib.hid r1
          have HQ2 := Lib.hid r2
          have HQ4 := Lib.hid r4
          have HLN := Lib.hid hln
          have hbo3 := hbo.below hbel2 z2
          have hbz3 := hbz.below hbel2 z1
          have d3 : wr.cell? ⟨w.heap.size + 1 + 1, 0, none⟩ = some ov := hbo3.cell 0
          have d4 : wr.cell? ⟨wo.heap.size + 1, 0, none⟩ = some (.slice Av d.length cv) := hbd.cell 0
          have hkn : k ≤ 1000000000 := by omega
          have hbase : w.heap.size + 1 + 1 + 1 ≤ wr.heap.size := by omega
          clear r1 r2 r4 hln q1 q2 q3 q4
          go_wp2_with (at_builtin; refine wpList_append_one' _ rfl (.tmp 34) (.tmp 36) 22 rfl (w.heap.size + 1 + 1 + 1) 32 _ 1 24 Try.underlying22 dayinfo rfl (by decide) (by decide) _ _ _ r3 rfl [.slice Av d.length cv] _ rfl rfl rfl hkn hbase ?_; intro g cap w5 ho5 hg0 hg1 hk5 hz5; have hb5 := hk5.below hbase; have hbo5 := hbo3.below hb5 (Nat.lt_succ_self _); have e5 : w5.cell? ⟨w.heap.size + 1 + 1, 0, none⟩ = some ov := hbo5.cell 0; have f5 : w5.frozen? ⟨w.heap.size + 1 + 1, 0, none⟩ = false := hbo5.frozen 0)
          go_roundw
          case rel =>
            refine ⟨k + 1, .slice (some ⟨g, 0, none⟩) (k + 1) cap, by omega, by go_num, (hbz3.below hb5 (by omega)).far (p := ⟨w.heap.size + 1 + 1, 0, none⟩) (by show w.heap.size + 1 ≠ w.heap.size + 1 + 1; omega) _, hbo5.set_ 0 _, ?_, ?_⟩
            · rw [take_snoc8 HX.out]
              exact ODays.set_low (OL.push HLN.out HQ1.out HQ2.out rfl ho5 (fun a x cs hx hc => ODay.keep (ODay.below (HQ4.out a x cs hx hc) hbel2 (Nat.le_refl _)) hk5 (by decide) (by decide)) ⟨_, rfl, OTours.mono (OTours.keep HOT.out hk5 (by decide) (by decide)) (by omega)⟩) (Nat.lt_succ_self _) _
            · exact ((hbel.trans (hbel2.mono hbel.size)).trans (hb5.mono (by omega))).setCell (p := ⟨w.heap.size + 1 + 1, 0, none⟩) (by show w.heap.size ≤ w.heap.size + 1 + 1; omega) _
          case measure => simp [intOf]; omega
    · obtain rfl : k = p.length := by omega
      rw [List.take_length] at HO
      have d3 : wr.cell? ⟨w.heap.size + 1 + 1, 0, none⟩ = some ov := hbo.cell 0
      have d4 : wr.frozen? ⟨w.heap.size + 1, 0, none⟩ = false := hbz.frozen 0
      have d5 : wr.cell? ⟨w.heap.size + 1, 0, none⟩ = some (.slice none 0 0) := hbz.cell 0
      obtain ⟨css, q1, q2, q3, q4⟩ := HO.out
      obtain ⟨Av, cv, rfl, -⟩ := RS.of_own q3
      clear q1 q2 q3 q4
      go_wp2
      refine bodyPost_ret (v := .agg #[.slice Av p.length cv]) (results_blk rfl _ _ (w.heap.size + 1) 24 [.slice Av p.length cv] _ rfl (hbz.set_ 0 _) Try.underlying24 rfl (by kernel_rfl)) rfl ⟨_, rfl, ⟨_, rfl, ODays.mono (ODays.set_low HO.out (by show w.heap.size + 1 < _; omega) _) (by omega)⟩, ?_⟩
      exact hbel.setCell (p := ⟨w.heap.size + 1, 0, none⟩) (by show w.heap.size ≤ w.heap.size + 1; omega) _
end Go.Proofs.Ytokdneolgolkbaa
