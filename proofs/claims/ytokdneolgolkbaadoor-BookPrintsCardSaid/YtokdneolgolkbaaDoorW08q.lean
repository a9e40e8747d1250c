/- The walks of readDay and of Parse, at what is printed. -/
import Derived.Test.YtokdneolgolkbaaDoorW08o
import Derived.Outline
namespace Go.Proofs.YtokdneolgolkbaaDoor
open Go.RowKit P08 P05

set_option maxHeartbeats 4000000 in
set_option maxRecDepth 100000 in
theorem readDay_any (v : Value) (d : Dy) (L : List (List (List UInt8))) (w : World) (hd : d.length ≤ 1000) (ht : ∀ t ∈ d, t.length ≤ 8) (hw : ∀ t ∈ d, ∀ s ∈ t, toldS s = true) (hr : RLines w v (dayLines d ++ L)) :
    Calls Tryd.prog 20 #[v] w fun e w' => ∃ v' tv, e = .returned (.tuple #[v', .agg #[tv], .bool true]) ∧ (∀ w0, RLines w0 v (dayLines d ++ L) → RLines w0 v' L) ∧ OL w.heap.size 41 1 (OTour w.heap.size 43) w' tv d ∧ Below w.heap.size w w' := by
  have HR := Lib.hid hr
  have HT := Lib.hid ht
  have HW := Lib.hid hw
  clear hr ht hw
  go_enter Tryd.func20, Tryd.ntmps20
  go_wp2_with fail
  refine (counted_any v ⟨#[100, 97, 121]⟩ d.length (d.map tourWords ++ L) _ (by omega) (RLines.below HR.out (below_al8 (Below.refl _ _) _) (Nat.le_refl _))).mono ?_
  rintro e w2 ⟨v1, rfl, hv1, rfl⟩
  have HV1 : Hid (∀ w0, RLines w0 v (dayLines d ++ L) → RLines w0 v1 (d.map tourWords ++ L)) := Lib.hid hv1
  clear hv1
  go_wp2_with fail
  go_loopw [0, 19] (fun lv jv wr => ∃ (j : Nat) (dv : Value), j ≤ d.length ∧ jv = .int .i64 j ∧ Hid (∀ w0, RLines w0 v (dayLines d ++ L) → RLines w0 lv ((d.drop j).map tourWords ++ L)) ∧ Blk wr w.heap.size 38 [.slice none 0 0] ∧ Blk wr (w.heap.size + 1) 38 [dv] ∧
      Hid (OL (w.heap.size + 1 + 1) 41 1 (OTour (w.heap.size + 1 + 1) 43) wr dv (d.take j)) ∧ Below w.heap.size w wr) (fun _ jv _ => d.length - (intOf jv).toNat)
  case atStart =>
    refine ⟨0, .slice none 0 0, Nat.zero_le _, rfl, HV1, (Blk.new w _ _).alloc _, Blk.newAt' _ _ _ (by simp), OL.nil_ _ _ _ _ _, ?_⟩
    exact below_al8 (below_al8 (Below.refl _ _) _) _
  case round =>
    obtain ⟨j, dv, hj, rfl, HL, hbz, hbd, HOD, hbel⟩ := hrel
    have z0 := hbz.lt
    have z1 := hbd.lt
    by_cases hlt : j < d.length
    · obtain ⟨t, htj⟩ := some_of_lt hlt
      have htm := List.mem_of_getElem? htj
      have hdr : d.drop j = t :: d.drop (j + 1) := List.drop_eq_getElem?_toList_append.trans (by rw [htj]; rfl)
      have HL1 : Hid (∀ w0, RLines w0 v (dayLines d ++ L) → RLines w0 u0 (tourWords t :: ((d.drop (j + 1)).map tourWords ++ L))) := by have := HL.out; rw [hdr] at this; exact Lib.hid this
      have h8 := HT.out t htm
      have HWT := Lib.hid (HW.out t htm)
      have HX := Lib.hid htj
      obtain ⟨wo, hwo⟩ : ∃ wo : World, wo = wr := ⟨_, rfl⟩
      subst hwo
      clear htm hdr htj HL
      go_wp2_with fail
      refine (readTour_any u0 t ((d.drop (j + 1)).map tourWords ++ L) _ h8 HWT.out (RLines.below (HL1.out _ HR.out) (below_al8 hbel _) (Nat.le_refl _))).mono ?_
      rintro e w3 ⟨v2, tv, rfl, hv2, hot, hb3⟩
      have HL2 : Hid (∀ w0, RLines w0 v (dayLines d ++ L) → RLines w0 v2 ((d.drop (j + 1)).map tourWords ++ L)) := Lib.hid fun w0 h => hv2 w0 (HL1.out w0 h)
      obtain ⟨cs1, s1, s2, s3, s4⟩ := hot
      obtain ⟨At, ct, rfl, -⟩ := RS.of_own s3
      have HOT : Hid (OL (wo.heap.size + 1) 43 2 RStop w3 (.slice At t.length ct) t) := Lib.hid (OL.mono (show OL _ _ _ _ _ _ _ from ⟨cs1, s1, s2, s3, s4⟩) (by simp))
      have bt3 := (Blk.new wo 41 [.slice none 0 0]).below hb3 (by simp)
      have a3 := (below_al8 (Below.refl wo.heap.size wo) (.cells #[.slice none 0 0] 41)).trans (hb3.mono (by simp))
      have d3 := hbd.below a3 z1
      have t3 := bt3.cell 0
      have f3 := bt3.frozen 0
      have a4 := a3.setCell (p := ⟨wo.heap.size, 0, none⟩) (Nat.le_refl _) (.slice At t.length ct)
      have t4 : (w3.setCell ⟨wo.heap.size, 0, none⟩ (.slice At t.length ct)).cell? ⟨wo.heap.size, 0, none⟩ = some (.slice At t.length ct) := (bt3.set_ 0 (.slice At t.length ct)).cell 0
      have b4 := hbd.below a4 z1
      have d4 : (w3.setCell ⟨wo.heap.size, 0, none⟩ (.slice At t.length ct)).cell? ⟨w.heap.size + 1, 0, none⟩ = some dv := b4.cell 0
      have HO4 := Lib.hid (OTours.below HOD.out a4 (Nat.le_refl _))
      have HT4 := Lib.hid (OStops.set_low HOT.out (show (⟨wo.heap.size, 0, none⟩ : Addr).block < wo.heap.size + 1 from Nat.lt_succ_self _) (.slice At t.length ct))
      obtain ⟨css, r1, r2, r3, r4⟩ := HO4.out
      have hln : (d.take j).length = j := by rw [List.length_take]; omega
      rw [hln] at r1 r3
      have HQ1 := Lib.hid r1
      have HQ2 := Lib.hid r2
      have HQ4 := Lib.hid r4
      have HLN := Lib.hid hln
      have hjn : j ≤ 1000000000 := by omega
      have hzz : (w3.setCell ⟨wo.heap.size, 0, none⟩ (.slice At t.length ct)).heap.size = w3.heap.size := by simp
      have hz3 := hb3.size
      have hbase : w.heap.size + 1 + 1 ≤ (w3.setCell ⟨wo.heap.size, 0, none⟩ (.slice At t.length ct)).heap.size := by simp at hz3 ⊢; omega
      clear r1 r2 r4 hln s1 s2 s3 s4 d3
      go_wp2_with (at_builtin; refine wpList_append_one' _ rfl (.tmp 31) (.tmp 33) 36 rfl (w.heap.size + 1 + 1) 41 _ 1 24 Tryd.underlying36 tourinfo rfl (by decide) (by decide) _ _ _ r3 rfl [.slice At t.length ct] 1 (by rw [hzz]; rfl) rfl rfl hjn hbase ?_; intro g cap w5 ho5 hg0 hg1 hk5 hz5; have hb5 := hk5.below hbase; have hbo5 := b4.below hb5 (Nat.lt_succ_self _); have e5 : w5.cell? ⟨w.heap.size + 1, 0, none⟩ = some dv := hbo5.cell 0; have f5 : w5.frozen? ⟨w.heap.size + 1, 0, none⟩ = false := hbo5.frozen 0)
      go_roundw
      case rel =>
        refine ⟨j + 1, .slice (some ⟨g, 0, none⟩) (j + 1) cap, by omega, by go_num, HL2, ((hbz.below a4 z0).below hb5 (by omega)).far (p := ⟨w.heap.size + 1, 0, none⟩) (by show w.heap.size ≠ w.heap.size + 1; omega) _, hbo5.set_ 0 _, ?_, ?_⟩
        · rw [take_snoc8 HX.out]
          exact OTours.set_low (OL.push HLN.out HQ1.out HQ2.out rfl ho5 (fun a x cs hx hc => OTour.keep (HQ4.out a x cs hx hc) hk5 (by decide)) ⟨_, rfl, OStops.keep (OL.mono HT4.out (by omega)) hk5 (by decide)⟩) (Nat.lt_succ_self _) _
        · exact ((hbel.trans (a4.mono hbel.size)).trans (hb5.mono (by omega))).setCell (p := ⟨w.heap.size + 1, 0, none⟩) (Nat.le_succ _) _
      case measure => simp [intOf]; omega
    · obtain rfl : j = d.length := by omega
      have HOT : Hid (OL (w.heap.size + 1 + 1) 41 1 (OTour (w.heap.size + 1 + 1) 43) wr dv d) := by have := HOD.out; rw [List.take_length] at this; exact Lib.hid this
      obtain ⟨css, q1, q2, q3, q4⟩ := HOT.out
      obtain ⟨Av, cv, rfl, -⟩ := RS.of_own q3
      clear q1 q2 q3 q4
      go_wp2_with fail
      refine wp_region_N (fun wS => wS.cell? ⟨w.heap.size + 1, 0, none⟩ = some (.slice Av d.length cv)) [4] (by kernel_rfl) ?_ (fun hS => ?_)
      · exact (hbd.drew).cell 0
      refine wpAnyM_take 0 (v := ?_) rfl (by kernel_rfl) (fun _ _ _ h => h) (by rfl) ?_ hS ?_
      rotate_left
      · intro wS hSw
        (try dsimp only at hSw)
        go_simp
        try with_reducible rfl
      try simp only [Act.put, List.setIfInBounds_toArray]
      refine wpAnyM_take 1 (v := ?_) rfl (by kernel_rfl) (fun _ _ _ h => h) (by rfl) ?_ hS ?_
      rotate_left
      · intro wS hSw
        (try dsimp only at hSw)
        have hc := hSw
        go_simp
        try with_reducible rfl
      try simp only [Act.put]
      refine wpAnyM_take 2 (v := ?_) rfl (by kernel_rfl) (fun _ _ _ h => h) (by rfl) ?_ hS ?_
      rotate_left
      · intro wS hSw
        (try dsimp only at hSw)
        go_simp
        try with_reducible rfl
      try simp only [Act.put]
      refine wpAnyM_one 3 rfl (by kernel_rfl) (by rfl) (fun K hK => ?_)
      have q8 := hbz.drew
      have e8 : wr.drew.cell? ⟨w.heap.size, 0, none⟩ = some (.slice none 0 0) := q8.cell 0
      have f8 : wr.drew.frozen? ⟨w.heap.size, 0, none⟩ = false := q8.frozen 0
      go_simp
      refine hK.out _ _ ?_ ?_
      · exact ((hbd.drew).far (p := ⟨w.heap.size, 0, none⟩) (by show w.heap.size + 1 ≠ w.heap.size; omega) _).cell 0
      clear hK K
      try simp only [Act.put, List.setIfInBounds_toArray, List.set_cons_zero, List.set_cons_succ]
      refine wpAnyM_late 4 rfl (by kernel_rfl) (by kernel_rfl) (by rfl) (fun K hK => ?_)
      go_simp
      refine hK.out _ _ ?_
      clear hK K
      try simp only [Act.put, List.setIfInBounds_toArray, List.set_cons_zero, List.set_cons_succ]
      refine wpAnyM_done (by kernel_rfl) ?_
      unfold onlyN
      go_wp2
      refine bodyPost_ret (v := .tuple #[u0, .agg #[.slice Av d.length cv], .bool true]) ?_ rfl ⟨_, _, rfl, ?_, ?_, ?_⟩
      · have hc := (hbz.set_ 0 (.slice Av d.length cv)).cell 0
        simp only [List.set_cons_zero, List.getElem?_cons_zero] at hc
        simp [results, Tryd.results20, go_sem, hc]
      · intro w0 h
        have := HL.out w0 h
        rwa [List.drop_length, List.map_nil, List.nil_append] at this
      · exact OTours.mono (OTours.set_low (OTours.below HOT.out ((Below.refl wr.heap.size wr).drew) (Nat.le_refl _)) (by show w.heap.size < w.heap.size + 1 + 1; omega) _) (by omega)
      · exact (hbel.drew).setCell (p := ⟨w.heap.size, 0, none⟩) (Nat.le_refl _) _
theorem told_all {p : Pl} (h : toldP p = true) : ∀ d ∈ p, ∀ t ∈ d, ∀ s ∈ t, toldS s = true := by
  have hF : ∀ (p : Pl) (i : Nat), ∀ d ∈ p, ∀ t ∈ d, ∀ s ∈ t, ∃ j, (j, s) ∈ stopsF i p := by
    intro p
    induction p with
    | nil => intro i d hd; cases hd
    | cons a p ih =>
      intro i d hd t ht s hs
      rcases List.mem_cons.1 hd with rfl | hd
      · exact ⟨i, List.mem_append.2 (.inl (List.mem_flatMap.2 ⟨t, ht, List.mem_map.2 ⟨s, hs, rfl⟩⟩))⟩
      · obtain ⟨j, hj⟩ := ih (i + 1) d hd t ht s hs
        exact ⟨j, List.mem_append.2 (.inr hj)⟩
  intro d hd t ht s hs
  obtain ⟨j, hj⟩ := hF p 0 d hd t ht s hs
  exact List.all_eq_true.1 h _ hj
theorem planLines_ok {p : Pl} (hs : Small p) (hw : Wf p) : ∀ ws ∈ planLines p, ws ≠ [] ∧ ∀ w ∈ ws, isWord w = true := by
  intro ws h
  refine ⟨?_, plan_words hs hw ws h⟩
  rcases List.mem_cons.1 h with rfl | h
  · simp
  · obtain ⟨d, _, h⟩ := List.mem_flatMap.1 h
    rcases List.mem_cons.1 h with rfl | h
    · simp
    · obtain ⟨t, _, rfl⟩ := List.mem_map.1 h
      simp [tourWords]
set_option maxHeartbeats 4000000 in
set_option maxRecDepth 100000 in
theorem parse8_any (s : ByteArray) (p : Pl) (m : Int) (w : World) (hs : s.data.toList = planText p) (hp : Small p) (hw : Wf p) (ht : toldP p = true) (hm : w.cell? ⟨0, 0, none⟩ = some (.int .i64 m)) :
    Calls Tryd.prog 8 #[.string s] w fun e w' => ∃ dv, e = .returned (.tuple #[.agg #[dv], .int .i64 0]) ∧ ODays w.heap.size 38 41 43 w' dv p ∧ Below w.heap.size w w' := by
  have hsz : s.size ≤ 1000000 := by
    have := planText_len hp hw
    rw [size_data, hs]
    omega
  obtain ⟨hl1, hl2⟩ := linesV_some (linesP_lineP _ (planLines_ok hp hw))
  have HL1 : Hid (linesV s.data.toList = planLines p) := by rw [hs]; exact Lib.hid hl1
  have HL2 : Hid (linesE s.data.toList = 0) := by rw [hs]; exact Lib.hid hl2
  have HT := Lib.hid (told_all ht)
  have HP := Lib.hid hp
  have hpl : p.length ≤ 8 := hp.1
  have HMM := Lib.hid (cell_below (below_al8 (Below.refl w.heap.size w) (.cells #[.slice none 0 0] 24)) (Nat.le_refl _) hm)
  clear hl1 hl2 hs ht hw hp hm
  go_enter Tryd.func8, Tryd.ntmps8
  go_wp2_with fail
  refine (lines_any s m _ hsz HMM.out).mono ?_
  rintro e w2 ⟨v, rfl, hv, hb2⟩
  rw [HL2.out]
  rw [HL1.out] at hv
  have HR := Lib.hid (OLines.reads hv)
  have a2 : Below w.heap.size w w2 := below_nx8 (below_al8 (Below.refl w.heap.size w) _) hb2
  have bz2 := (Blk.new w 24 [.slice none 0 0]).below hb2 (by simp)
  have zz2 := bz2.lt
  clear hv hb2 HMM
  go_wp2_with fail
  refine (counted_any v ⟨#[112, 108, 97, 110]⟩ p.length (p.flatMap dayLines) _ (by omega) HR.out).mono ?_
  rintro e w2 ⟨v1, rfl, hv1, rfl⟩
  have HV1 : Hid (∀ w0, RLines w0 v (planLines p) → RLines w0 v1 (p.flatMap dayLines)) := Lib.hid hv1
  clear hv1
  go_wp2_with fail
  go_loopw [4, 28] (fun lv kv wr => ∃ (k : Nat) (ov : Value), k ≤ p.length ∧ kv = .int .i64 k ∧ Hid (∀ w0, RLines w0 v (planLines p) → RLines w0 lv ((p.drop k).flatMap dayLines)) ∧ Blk wr w.heap.size 24 [.slice none 0 0] ∧ Blk wr w2.heap.size 24 [ov] ∧
      Hid (ODays (w2.heap.size + 1) 38 41 43 wr ov (p.take k)) ∧ Below w2.heap.size w2 wr ∧ Below w.heap.size w wr) (fun _ kv _ => p.length - (intOf kv).toNat)
  case atStart =>
    exact ⟨0, .slice none 0 0, Nat.zero_le _, rfl, HV1, bz2.alloc _, Blk.new _ _ _, OL.nil_ _ _ _ _ _, below_al8 (Below.refl _ _) _, a2.alloc a2.size _⟩
  case round =>
    obtain ⟨k, ov, hk, rfl, HL, hbz, hbo, HO, hbel2, hbel⟩ := hrel
    have z0 := hbz.lt
    have z1 := hbo.lt
    by_cases hlt : k < p.length
    · obtain ⟨d, hdk⟩ := some_of_lt hlt
      have hdm := List.mem_of_getElem? hdk
      have hdr : p.drop k = d :: p.drop (k + 1) := List.drop_eq_getElem?_toList_append.trans (by rw [hdk]; rfl)
      have HD1 : Hid (∀ w0, RLines w0 v (planLines p) → RLines w0 u4 (dayLines d ++ (p.drop (k + 1)).flatMap dayLines)) := by have := HL.out; rw [hdr, List.flatMap_cons] at this; exact Lib.hid this
      have hd6 := HP.out.2 d hdm
      have HD8 := Lib.hid (HP.out.3 d hdm)
      have HDT := Lib.hid (HT.out d hdm)
      have HX := Lib.hid hdk
      obtain ⟨wo, hwo⟩ : ∃ wo : World, wo = wr := ⟨_, rfl⟩
      subst hwo
      clear hdm hdr hdk HL
      go_wp2_with fail
      refine (readDay_any u4 d ((p.drop (k + 1)).flatMap dayLines) _ (by omega) HD8.out HDT.out (RLines.below (HD1.out _ HR.out) (below_al8 hbel2 _) (Nat.le_refl _))).mono ?_
      rintro e w3 ⟨v2, tv, rfl, hv2, hot, hb3⟩
      have HD2 : Hid (∀ w0, RLines w0 v (planLines p) → RLines w0 v2 ((p.drop (k + 1)).flatMap dayLines)) := Lib.hid fun w0 h => hv2 w0 (HD1.out w0 h)
      obtain ⟨cs1, s1, s2, s3, s4⟩ := hot
      obtain ⟨At, ct, rfl, -⟩ := RS.of_own s3
      have HOT : Hid (OL (wo.heap.size + 1) 41 1 (OTour (wo.heap.size + 1) 43) w3 (.slice At d.length ct) d) := Lib.hid (OTours.mono (show OL _ _ _ (OTour _ _) _ _ _ from ⟨cs1, s1, s2, s3, s4⟩) (by simp))
      have bt3 := (Blk.new wo 38 [.slice none 0 0]).below hb3 (by simp)
      have a3 := (below_al8 (Below.refl wo.heap.size wo) (.cells #[.slice none 0 0] 38)).trans (hb3.mono (by simp))
      have t3 := bt3.cell 0
      have f3 := bt3.frozen 0
      have a4 := a3.setCell (p := ⟨wo.heap.size, 0, none⟩) (Nat.le_refl _) (.slice At d.length ct)
      have t4 : (w3.setCell ⟨wo.heap.size, 0, none⟩ (.slice At d.length ct)).cell? ⟨wo.heap.size, 0, none⟩ = some (.slice At d.length ct) := (bt3.set_ 0 (.slice At d.length ct)).cell 0
      have b4 := hbo.below a4 z1
      have d4 : (w3.setCell ⟨wo.heap.size, 0, none⟩ (.slice At d.length ct)).cell? ⟨w2.heap.size, 0, none⟩ = some ov := b4.cell 0
      have HO4 := Lib.hid (ODays.below HO.out a4 (Nat.le_refl _))
      have HT4 := Lib.hid (OTours.set_low HOT.out (show (⟨wo.heap.size, 0, none⟩ : Addr).block < wo.heap.size + 1 from Nat.lt_succ_self _) (.slice At d.length ct))
      obtain ⟨css, r1, r2, r3, r4⟩ := HO4.out
      have hln : (p.take k).length = k := by rw [List.length_take]; omega
      rw [hln] at r1 r3
      have HQ1 := Lib.hid r1
      have HQ2 := Lib.hid r2
      have HQ4 := Lib.hid r4
      have HLN := Lib.hid hln
      have hkn : k ≤ 1000000000 := by omega
      have hzz : (w3.setCell ⟨wo.heap.size, 0, none⟩ (.slice At d.length ct)).heap.size = w3.heap.size := by simp
      have hz3 := hb3.size
      have hbase : w2.heap.size + 1 ≤ (w3.setCell ⟨wo.heap.size, 0, none⟩ (.slice At d.length ct)).heap.size := by simp at hz3 ⊢; omega
      clear r1 r2 r4 hln s1 s2 s3 s4
      go_wp2_with (at_builtin; refine wpList_append_one' _ rfl (.tmp 40) (.tmp 42) 22 rfl (w2.heap.size + 1) 38 _ 1 24 Tryd.underlying22 dayinfo rfl (by decide) (by decide) _ _ _ r3 rfl [.slice At d.length ct] 1 (by rw [hzz]; rfl) rfl rfl hkn hbase ?_; intro g cap w5 ho5 hg0 hg1 hk5 hz5; have hb5 := hk5.below hbase; have hbo5 := b4.below hb5 (Nat.lt_succ_self _); have e5 : w5.cell? ⟨w2.heap.size, 0, none⟩ = some ov := hbo5.cell 0; have f5 : w5.frozen? ⟨w2.heap.size, 0, none⟩ = false := hbo5.frozen 0)
      go_roundw
      case rel =>
        refine ⟨k + 1, .slice (some ⟨g, 0, none⟩) (k + 1) cap, by omega, by go_num, HD2, ((hbz.below a4 z0).below hb5 (by omega)).far (p := ⟨w2.heap.size, 0, none⟩) (by show w.heap.size ≠ w2.heap.size; omega) _, hbo5.set_ 0 _, ?_, ?_, ?_⟩
        · rw [take_snoc8 HX.out]
          exact ODays.set_low (OL.push HLN.out HQ1.out HQ2.out rfl ho5 (fun a x cs hx hc => ODay.keep (HQ4.out a x cs hx hc) hk5 (by decide) (by decide)) ⟨_, rfl, OTours.keep (OTours.mono HT4.out (by omega)) hk5 (by decide) (by decide)⟩) (Nat.lt_succ_self _) _
        · exact ((hbel2.trans (a4.mono hbel2.size)).trans (hb5.mono (Nat.le_succ _))).setCell (p := ⟨w2.heap.size, 0, none⟩) (Nat.le_refl _) _
        · exact ((hbel.trans (a4.mono hbel.size)).trans (hb5.mono (by omega))).setCell (p := ⟨w2.heap.size, 0, none⟩) (by show w.heap.size ≤ w2.heap.size; omega) _
      case measure => simp [intOf]; omega
    · obtain rfl : k = p.length := by omega
      have HOT : Hid (ODays (w2.heap.size + 1) 38 41 43 wr ov p) := by have := HO.out; rw [List.take_length] at this; exact Lib.hid this
      obtain ⟨css, q1, q2, q3, q4⟩ := HOT.out
      obtain ⟨Av, cv, rfl, -⟩ := RS.of_own q3
      obtain ⟨Al, cl, rfl, -⟩ : ∃ A c, u4 = .slice A 0 c ∧ True := by
        have := HL.out _ HR.out
        rw [List.drop_length, List.flatMap_nil] at this
        obtain ⟨A, c, h, -⟩ := RLines.open_ this
        exact ⟨A, c, h, trivial⟩
      have d4 : wr.cell? ⟨w2.heap.size, 0, none⟩ = some (.slice Av p.length cv) := hbo.cell 0
      have d5 : wr.cell? ⟨w.heap.size, 0, none⟩ = some (.slice none 0 0) := hbz.cell 0
      have f5 : wr.frozen? ⟨w.heap.size, 0, none⟩ = false := hbz.frozen 0
      clear q1 q2 q3 q4
      go_wp2_with fail
      refine bodyPost_ret (v := .tuple #[.agg #[.slice Av p.length cv], .int .i64 0]) ?_ rfl ⟨_, rfl, ?_, ?_⟩
      · have hc := (hbz.set_ 0 (.slice Av p.length cv)).cell 0
        simp only [List.set_cons_zero, List.getElem?_cons_zero] at hc
        simp [results, Tryd.results8, go_sem, hc]
      · exact ODays.mono (ODays.set_low HOT.out (by show w.heap.size < w2.heap.size + 1; omega) _) (by omega)
      · exact hbel.setCell (p := ⟨w.heap.size, 0, none⟩) (Nat.le_refl _) _
end Go.Proofs.YtokdneolgolkbaaDoor
