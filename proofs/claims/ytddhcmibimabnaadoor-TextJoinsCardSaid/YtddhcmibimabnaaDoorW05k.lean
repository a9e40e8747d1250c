/- The walk of the statement TextJoins. -/
import Derived.Test.YtddhcmibimabnaaDoorW05j
import Derived.Test.YtddhcmibimabnaaDoorMem4
import Derived.Test.YtddhcmibimabnaaDoorP05e
namespace Go.Proofs.YtddhcmibimabnaaDoor
open Go.RowKit P05

theorem append_data (a b : ByteArray) : (a ++ b).data.toList = a.data.toList ++ b.data.toList := by
  rw [ByteArray.data_append]
  simp
theorem linesE_cases (l : List UInt8) : (linesE l = 0 ∧ linesP l = some (linesV l)) ∨ (linesE l = 2 ∧ linesP l = none) := by
  cases h : linesP l with
  | some L => exact .inl ⟨(linesV_some h).2, by rw [(linesV_some h).1]⟩
  | none => exact .inr ⟨(linesV_none h).2, rfl⟩
/-- The lines of the call's own, the headers copied. -/
theorem oline_cells {css : List (List Value)} (_ : ∀ cs ∈ css, cs.length = 1) {lb : Nat} {es : TypeId} {w : World} {L : List (List (List UInt8))} (hl : css.length = L.length)
    (h4 : ∀ (i : Nat) (x : List (List UInt8)) (cs : List Value), L[i]? = some x → css[i]? = some cs → OLine lb es w cs x) : css.flatten.all (fun u => u.oneCell') = true := by
  rw [List.all_eq_true]
  intro u hu
  obtain ⟨cs, hcs, hu⟩ := List.mem_flatten.1 hu
  obtain ⟨i, hi⟩ := List.mem_iff_getElem?.1 hcs
  obtain ⟨x, hx⟩ := some_of_lt (l := L) (i := i) (by have := lt_of_some hi; omega)
  obtain ⟨v, rfl, hv⟩ := h4 i x cs hx hi
  obtain rfl : u = v := by simpa using hu
  obtain ⟨A, c, rfl, _⟩ := RS.of_own hv
  rfl
theorem RLine.below {w w' : World} {cs : List Value} {x : List (List UInt8)} {B : Nat} (h : RLine w cs x) (hb : Below B w w') (hB : w.heap.size ≤ B) : RLine w' cs x := by
  obtain ⟨v, e, hr⟩ := h
  exact ⟨v, e, hr.below hb hB⟩
theorem both_reads {lb : Nat} {er : TypeId} {w : World} {v : Value} {L M : List (List (List UInt8))} {c1 c2 : List (List Value)} (h1 : c1.length = L.length) (h2 : c2.length = M.length) (g1 : ∀ cs ∈ c1, cs.length = 1) (g2 : ∀ cs ∈ c2, cs.length = 1)
    (ho : w.ownsRow lb er 1 v (L.length + M.length) (c1.flatten ++ c2.flatten)) (r1 : ∀ (i : Nat) (x : List (List UInt8)) (cs : List Value), L[i]? = some x → c1[i]? = some cs → RLine w cs x) (r2 : ∀ (i : Nat) (x : List (List UInt8)) (cs : List Value), M[i]? = some x → c2[i]? = some cs → RLine w cs x) :
    RLines w v (L ++ M) := by
  refine OL.reads (lb := lb) (e := er) (O := RLine) ⟨c1 ++ c2, by simp [h1, h2], fun cs hcs => ?_, by rw [List.length_append, List.flatten_append]; exact ho, fun i x cs hx hcs => ?_⟩ (fun _ _ h => h)
  · rcases List.mem_append.1 hcs with h | h
    · exact g1 cs h
    · exact g2 cs h
  · by_cases hi : i < L.length
    · rw [List.getElem?_append_left hi] at hx
      rw [List.getElem?_append_left (by omega)] at hcs
      exact r1 i x cs hx hcs
    · rw [List.getElem?_append_right (by omega)] at hx
      rw [List.getElem?_append_right (by omega), h1] at hcs
      exact r2 _ x cs hx hcs
set_option maxHeartbeats 4000000 in
theorem textJoins_any (s t : ByteArray) (m : Int) (w : World) (hs : s.size ≤ 9223372036854775807) (ht : t.size ≤ 9223372036854775807) (hm : w.cell? ⟨0, 0, none⟩ = some (.int .i64 m)) :
    Calls Tryd.prog 4 #[.string s, .string t] w fun e w' => e = .returned (.bool true) ∧ Below w.heap.size w w' := by
  have HM := Lib.hid hm
  clear hm
  have hcut : ∀ s : ByteArray, ∃ x : ByteArray, x.size ≤ 100 ∧ ((100 < s.size ∧ x = s.extract 0 100) ∨ (s.size ≤ 100 ∧ x = s)) := fun s => by
    by_cases h : 100 < s.size
    · exact ⟨s.extract 0 100, by rw [ByteArray.size_extract]; omega, .inl ⟨h, rfl⟩⟩
    · exact ⟨s, by omega, .inr ⟨by omega, rfl⟩⟩
  obtain ⟨x, hx, hxs⟩ := hcut s
  obtain ⟨y, hy, hyt⟩ := hcut t
  obtain ⟨V1, E1, V2, E2, V3, E3, HL1, HL2, HL3, hE⟩ : ∃ V1 E1 V2 E2 V3 E3, (∀ W : World, W.cell? ⟨0, 0, none⟩ = some (.int .i64 m) → Hid (Calls Tryd.prog 9 #[.string x] W fun e w' => ∃ v, e = .returned (.tuple #[v, .int .i64 E1]) ∧ OLines W.heap.size 35 9 w' v V1 ∧ Below W.heap.size W w')) ∧
      (∀ W : World, W.cell? ⟨0, 0, none⟩ = some (.int .i64 m) → Hid (Calls Tryd.prog 9 #[.string y] W fun e w' => ∃ v, e = .returned (.tuple #[v, .int .i64 E2]) ∧ OLines W.heap.size 35 9 w' v V2 ∧ Below W.heap.size W w')) ∧
      (∀ W : World, W.cell? ⟨0, 0, none⟩ = some (.int .i64 m) → Hid (Calls Tryd.prog 9 #[.string (x ++ y)] W fun e w' => ∃ v, e = .returned (.tuple #[v, .int .i64 E3]) ∧ OLines W.heap.size 35 9 w' v V3 ∧ Below W.heap.size W w')) ∧
      (((E1 != 0) = true) ∨ ((E1 != 0) = false ∧ (E2 != 0) = true) ∨ ((E1 != 0) = false ∧ (E2 != 0) = false ∧ (E3 == 0) = true ∧ V3 = V1 ++ V2 ∧ V1.length ≤ 1000 ∧ V2.length ≤ 1000)) := by
    refine ⟨_, _, _, _, _, _, fun W h => lines_any x m W (by omega) h, fun W h => lines_any y m W (by omega) h, fun W h => lines_any (x ++ y) m W (by rw [ByteArray.size_append]; omega) h, ?_⟩
    rcases linesE_cases x.data.toList with ⟨e1, p1⟩ | ⟨e1, _⟩
    · rcases linesE_cases y.data.toList with ⟨e2, p2⟩ | ⟨e2, _⟩
      · have h3 := linesV_some (linesP_append p1 p2)
        rw [← append_data] at h3
        refine .inr (.inr ⟨by rw [e1]; rfl, by rw [e2]; rfl, by rw [h3.2]; rfl, h3.1, ?_, ?_⟩)
        · exact Nat.le_trans (linesP_len p1) (by rw [data_len]; omega)
        · exact Nat.le_trans (linesP_len p2) (by rw [data_len]; omega)
      · exact .inr (.inl ⟨by rw [e1]; rfl, by rw [e2]; rfl⟩)
    · exact .inl (by rw [e1]; rfl)
  have HL1 := Lib.hid HL1
  have HL2 := Lib.hid HL2
  have HL3 := Lib.hid HL3
  have hsz : x.size + y.size ≤ 200 := by omega
  clear hcut hx hy
  rcases hxs with ⟨h1, rfl⟩ | ⟨h1, rfl⟩ <;> rcases hyt with ⟨h2, rfl⟩ | ⟨h2, rfl⟩
  · have h1' : (100 : Int) < (s.size : Int) := by omega
    have h2' : (100 : Int) < (t.size : Int) := by omega
    clear h1 h2
    rcases hE with hE | ⟨hE, hE2⟩ | ⟨hE, hE2, hE3, hV, hv1, hv2⟩
    · go_enter Tryd.func4, Tryd.ntmps4
      go_wp2_with fail
      refine (HL1.out _ HM.out).out.mono ?_
      rintro e w2 ⟨v2, rfl, ho2, hb2⟩
      have HO2 := Lib.hid ho2
      clear ho2
      go_wp2_with fail
      refine (HL2.out _ (cell_below hb2 (Nat.le_refl _) HM.out)).out.mono ?_
      rintro e w3 ⟨v3, rfl, ho3, hb3⟩
      have HO3 := Lib.hid ho3
      have k3 := below_nx5 hb2 hb3
      clear ho3
      go_wp2_with fail
      refine (HL3.out _ (cell_below k3 (Nat.le_refl _) HM.out)).out.mono ?_
      rintro e w4 ⟨v4, rfl, ho4, hb4⟩
      have HO4 := Lib.hid ho4
      have k4 := below_nx5 k3 hb4
      clear ho4
      go_wp2_with fail
      refine (lives_any m _ (cell_below k4 (Nat.le_refl _) HM.out)).mono ?_
      rintro e w5 ⟨rfl, hb5⟩
      go_wp2
      go_ret
      exact ⟨rfl, below_nx5 k4 hb5⟩
    · go_enter Tryd.func4, Tryd.ntmps4
      go_wp2_with fail
      refine (HL1.out _ HM.out).out.mono ?_
      rintro e w2 ⟨v2, rfl, ho2, hb2⟩
      have HO2 := Lib.hid ho2
      clear ho2
      go_wp2_with fail
      refine (HL2.out _ (cell_below hb2 (Nat.le_refl _) HM.out)).out.mono ?_
      rintro e w3 ⟨v3, rfl, ho3, hb3⟩
      have HO3 := Lib.hid ho3
      have k3 := below_nx5 hb2 hb3
      clear ho3
      go_wp2_with fail
      refine (HL3.out _ (cell_below k3 (Nat.le_refl _) HM.out)).out.mono ?_
      rintro e w4 ⟨v4, rfl, ho4, hb4⟩
      have HO4 := Lib.hid ho4
      have k4 := below_nx5 k3 hb4
      clear ho4
      go_wp2_with fail
      refine (lives_any m _ (cell_below k4 (Nat.le_refl _) HM.out)).mono ?_
      rintro e w5 ⟨rfl, hb5⟩
      go_wp2
      go_ret
      exact ⟨rfl, below_nx5 k4 hb5⟩
    · subst hV
      go_enter Tryd.func4, Tryd.ntmps4
      go_wp2_with fail
      refine (HL1.out _ HM.out).out.mono ?_
      rintro e w2 ⟨v2, rfl, ho2, hb2⟩
      have HO2 := Lib.hid ho2
      clear ho2
      go_wp2_with fail
      refine (HL2.out _ (cell_below hb2 (Nat.le_refl _) HM.out)).out.mono ?_
      rintro e w3 ⟨v3, rfl, ho3, hb3⟩
      have HO3 := Lib.hid ho3
      have k3 := below_nx5 hb2 hb3
      clear ho3
      go_wp2_with fail
      refine (HL3.out _ (cell_below k3 (Nat.le_refl _) HM.out)).out.mono ?_
      rintro e w4 ⟨v4, rfl, ho4, hb4⟩
      have HO4 := Lib.hid ho4
      have k4 := below_nx5 k3 hb4
      clear ho4
      obtain ⟨c1, p1, p2, p3, p4⟩ := (HO2.out.below hb3 (Nat.le_refl _)).below hb4 (Nat.le_refl _)
      obtain ⟨c2, q1, q2, q3, q4⟩ := HO3.out.below hb4 (Nat.le_refl _)
      have hr1 := RS.of_own p3
      have hr2 := RS.of_own q3
      obtain ⟨A1, d1, rfl, -⟩ := RS.of_own p3
      obtain ⟨A2, d2, rfl, -⟩ := RS.of_own q3
      have HR1 := Lib.hid hr1
      have HR2 := Lib.hid hr2
      have HA1 := Lib.hid (oline_cells p2 p1 p4)
      have HA2 := Lib.hid (oline_cells q2 q1 q4)
      have HP := Lib.hid (And.intro p1 (And.intro p2 p4))
      have HQ := Lib.hid (And.intro q1 (And.intro q2 q4))
      have hl1 : V1.length ≤ 1000000000 := by omega
      have hl2 : V1.length + V2.length ≤ 1000000000 := by omega
      clear p1 p2 p3 p4 q1 q2 q3 q4 hr1 hr2
      go_wp2_with (first
        | (at_builtin; refine wpList_append_fresh _ rfl (.tmp 46) (.tmp 47) 22 rfl 35 _ 1 24 Tryd.underlying22 strsinfo rfl (by decide) (by decide) A1 V1.length d1 c1.flatten rfl rfl HR1.out HA1.out hl1 ?_; intro v5 w5 hown5 hb5; obtain ⟨A5, d5, rfl, -⟩ := RS.of_own hown5; have hbase := hb5.size)
        | (at_builtin; refine wpList_append_many _ rfl (.tmp 49) (.tmp 50) 22 rfl w4.heap.size 35 _ 1 24 Tryd.underlying22 strsinfo rfl (by decide) (by decide) _ _ _ hown5 rfl A2 V2.length d2 c2.flatten rfl (RS.below HR2.out hb5 (Nat.le_refl _)) HA2.out hl2 hbase ?_; intro v6 w6 hown6 hk6))
      have k46 := hb5.trans (hk6.below hbase)
      refine (rsame_yes _ _ (V1 ++ V2) _ (RLines.below HO4.out.reads k46 (Nat.le_refl _)) (both_reads HP.out.1 HQ.out.1 HP.out.2.1 HQ.out.2.1 hown6 (fun i x cs hx hcs => ((HP.out.2.2 i x cs hx hcs).reads).below k46 (Nat.le_refl _)) (fun i x cs hx hcs => ((HQ.out.2.2 i x cs hx hcs).reads).below k46 (Nat.le_refl _)))).mono ?_
      rintro e w7 ⟨rfl, n7, rfl⟩
      have k7 := below_drewN (below_nx5 k4 k46) n7
      go_wp2_with fail
      refine (lives_any m _ (cell_below k7 (Nat.le_refl _) HM.out)).mono ?_
      rintro e w8 ⟨rfl, hb8⟩
      go_wp2
      go_ret
      exact ⟨rfl, below_nx5 k7 hb8⟩
  · have h1' : (100 : Int) < (s.size : Int) := by omega
    have h2' : (y.size : Int) ≤ (100 : Int) := by omega
    clear h1 h2
    rcases hE with hE | ⟨hE, hE2⟩ | ⟨hE, hE2, hE3, hV, hv1, hv2⟩
    · go_enter Tryd.func4, Tryd.ntmps4
      go_wp2_with fail
      refine (HL1.out _ HM.out).out.mono ?_
      rintro e w2 ⟨v2, rfl, ho2, hb2⟩
      have HO2 := Lib.hid ho2
      clear ho2
      go_wp2_with fail
      refine (HL2.out _ (cell_below hb2 (Nat.le_refl _) HM.out)).out.mono ?_
      rintro e w3 ⟨v3, rfl, ho3, hb3⟩
      have HO3 := Lib.hid ho3
      have k3 := below_nx5 hb2 hb3
      clear ho3
      go_wp2_with fail
      refine (HL3.out _ (cell_below k3 (Nat.le_refl _) HM.out)).out.mono ?_
      rintro e w4 ⟨v4, rfl, ho4, hb4⟩
      have HO4 := Lib.hid ho4
      have k4 := below_nx5 k3 hb4
      clear ho4
      go_wp2_with fail
      refine (lives_any m _ (cell_below k4 (Nat.le_refl _) HM.out)).mono ?_
      rintro e w5 ⟨rfl, hb5⟩
      go_wp2
      go_ret
      exact ⟨rfl, below_nx5 k4 hb5⟩
    · go_enter Tryd.func4, Tryd.ntmps4
      go_wp2_with fail
      refine (HL1.out _ HM.out).out.mono ?_
      rintro e w2 ⟨v2, rfl, ho2, hb2⟩
      have HO2 := Lib.hid ho2
      clear ho2
      go_wp2_with fail
      refine (HL2.out _ (cell_below hb2 (Nat.le_refl _) HM.out)).out.mono ?_
      rintro e w3 ⟨v3, rfl, ho3, hb3⟩
      have HO3 := Lib.hid ho3
      have k3 := below_nx5 hb2 hb3
      clear ho3
      go_wp2_with fail
      refine (HL3.out _ (cell_below k3 (Nat.le_refl _) HM.out)).out.mono ?_
      rintro e w4 ⟨v4, rfl, ho4, hb4⟩
      have HO4 := Lib.hid ho4
      have k4 := below_nx5 k3 hb4
      clear ho4
      go_wp2_with fail
      refine (lives_any m _ (cell_below k4 (Nat.le_refl _) HM.out)).mono ?_
      rintro e w5 ⟨rfl, hb5⟩
      go_wp2
      go_ret
      exact ⟨rfl, below_nx5 k4 hb5⟩
    · subst hV
      go_enter Tryd.func4, Tryd.ntmps4
      go_wp2_with fail
      refine (HL1.out _ HM.out).out.mono ?_
      rintro e w2 ⟨v2, rfl, ho2, hb2⟩
      have HO2 := Lib.hid ho2
      clear ho2
      go_wp2_with fail
      refine (HL2.out _ (cell_below hb2 (Nat.le_refl _) HM.out)).out.mono ?_
      rintro e w3 ⟨v3, rfl, ho3, hb3⟩
      have HO3 := Lib.hid ho3
      have k3 := below_nx5 hb2 hb3
      clear ho3
      go_wp2_with fail
      refine (HL3.out _ (cell_below k3 (Nat.le_refl _) HM.out)).out.mono ?_
      rintro e w4 ⟨v4, rfl, ho4, hb4⟩
      have HO4 := Lib.hid ho4
      have k4 := below_nx5 k3 hb4
      clear ho4
      obtain ⟨c1, p1, p2, p3, p4⟩ := (HO2.out.below hb3 (Nat.le_refl _)).below hb4 (Nat.le_refl _)
      obtain ⟨c2, q1, q2, q3, q4⟩ := HO3.out.below hb4 (Nat.le_refl _)
      have hr1 := RS.of_own p3
      have hr2 := RS.of_own q3
      obtain ⟨A1, d1, rfl, -⟩ := RS.of_own p3
      obtain ⟨A2, d2, rfl, -⟩ := RS.of_own q3
      have HR1 := Lib.hid hr1
      have HR2 := Lib.hid hr2
      have HA1 := Lib.hid (oline_cells p2 p1 p4)
      have HA2 := Lib.hid (oline_cells q2 q1 q4)
      have HP := Lib.hid (And.intro p1 (And.intro p2 p4))
      have HQ := Lib.hid (And.intro q1 (And.intro q2 q4))
      have hl1 : V1.length ≤ 1000000000 := by omega
      have hl2 : V1.length + V2.length ≤ 1000000000 := by omega
      clear p1 p2 p3 p4 q1 q2 q3 q4 hr1 hr2
      go_wp2_with (first
        | (at_builtin; refine wpList_append_fresh _ rfl (.tmp 46) (.tmp 47) 22 rfl 35 _ 1 24 Tryd.underlying22 strsinfo rfl (by decide) (by decide) A1 V1.length d1 c1.flatten rfl rfl HR1.out HA1.out hl1 ?_; intro v5 w5 hown5 hb5; obtain ⟨A5, d5, rfl, -⟩ := RS.of_own hown5; have hbase := hb5.size)
        | (at_builtin; refine wpList_append_many _ rfl (.tmp 49) (.tmp 50) 22 rfl w4.heap.size 35 _ 1 24 Tryd.underlying22 strsinfo rfl (by decide) (by decide) _ _ _ hown5 rfl A2 V2.length d2 c2.flatten rfl (RS.below HR2.out hb5 (Nat.le_refl _)) HA2.out hl2 hbase ?_; intro v6 w6 hown6 hk6))
      have k46 := hb5.trans (hk6.below hbase)
      refine (rsame_yes _ _ (V1 ++ V2) _ (RLines.below HO4.out.reads k46 (Nat.le_refl _)) (both_reads HP.out.1 HQ.out.1 HP.out.2.1 HQ.out.2.1 hown6 (fun i x cs hx hcs => ((HP.out.2.2 i x cs hx hcs).reads).below k46 (Nat.le_refl _)) (fun i x cs hx hcs => ((HQ.out.2.2 i x cs hx hcs).reads).below k46 (Nat.le_refl _)))).mono ?_
      rintro e w7 ⟨rfl, n7, rfl⟩
      have k7 := below_drewN (below_nx5 k4 k46) n7
      go_wp2_with fail
      refine (lives_any m _ (cell_below k7 (Nat.le_refl _) HM.out)).mono ?_
      rintro e w8 ⟨rfl, hb8⟩
      go_wp2
      go_ret
      exact ⟨rfl, below_nx5 k7 hb8⟩
  · have h1' : (x.size : Int) ≤ (100 : Int) := by omega
    have h2' : (100 : Int) < (t.size : Int) := by omega
    clear h1 h2
    rcases hE with hE | ⟨hE, hE2⟩ | ⟨hE, hE2, hE3, hV, hv1, hv2⟩
    · go_enter Tryd.func4, Tryd.ntmps4
      go_wp2_with fail
      refine (HL1.out _ HM.out).out.mono ?_
      rintro e w2 ⟨v2, rfl, ho2, hb2⟩
      have HO2 := Lib.hid ho2
      clear ho2
      go_wp2_with fail
      refine (HL2.out _ (cell_below hb2 (Nat.le_refl _) HM.out)).out.mono ?_
      rintro e w3 ⟨v3, rfl, ho3, hb3⟩
      have HO3 := Lib.hid ho3
      have k3 := below_nx5 hb2 hb3
      clear ho3
      go_wp2_with fail
      refine (HL3.out _ (cell_below k3 (Nat.le_refl _) HM.out)).out.mono ?_
      rintro e w4 ⟨v4, rfl, ho4, hb4⟩
      have HO4 := Lib.hid ho4
      have k4 := below_nx5 k3 hb4
      clear ho4
      go_wp2_with fail
      refine (lives_any m _ (cell_below k4 (Nat.le_refl _) HM.out)).mono ?_
      rintro e w5 ⟨rfl, hb5⟩
      go_wp2
      go_ret
      exact ⟨rfl, below_nx5 k4 hb5⟩
    · go_enter Tryd.func4, Tryd.ntmps4
      go_wp2_with fail
      refine (HL1.out _ HM.out).out.mono ?_
      rintro e w2 ⟨v2, rfl, ho2, hb2⟩
      have HO2 := Lib.hid ho2
      clear ho2
      go_wp2_with fail
      refine (HL2.out _ (cell_below hb2 (Nat.le_refl _) HM.out)).out.mono ?_
      rintro e w3 ⟨v3, rfl, ho3, hb3⟩
      have HO3 := Lib.hid ho3
      have k3 := below_nx5 hb2 hb3
      clear ho3
      go_wp2_with fail
      refine (HL3.out _ (cell_below k3 (Nat.le_refl _) HM.out)).out.mono ?_
      rintro e w4 ⟨v4, rfl, ho4, hb4⟩
      have HO4 := Lib.hid ho4
      have k4 := below_nx5 k3 hb4
      clear ho4
      go_wp2_with fail
      refine (lives_any m _ (cell_below k4 (Nat.le_refl _) HM.out)).mono ?_
      rintro e w5 ⟨rfl, hb5⟩
      go_wp2
      go_ret
      exact ⟨rfl, below_nx5 k4 hb5⟩
    · subst hV
      go_enter Tryd.func4, Tryd.ntmps4
      go_wp2_with fail
      refine (HL1.out _ HM.out).out.mono ?_
      rintro e w2 ⟨v2, rfl, ho2, hb2⟩
      have HO2 := Lib.hid ho2
      clear ho2
      go_wp2_with fail
      refine (HL2.out _ (cell_below hb2 (Nat.le_refl _) HM.out)).out.mono ?_
      rintro e w3 ⟨v3, rfl, ho3, hb3⟩
      have HO3 := Lib.hid ho3
      have k3 := below_nx5 hb2 hb3
      clear ho3
      go_wp2_with fail
      refine (HL3.out _ (cell_below k3 (Nat.le_refl _) HM.out)).out.mono ?_
      rintro e w4 ⟨v4, rfl, ho4, hb4⟩
      have HO4 := Lib.hid ho4
      have k4 := below_nx5 k3 hb4
      clear ho4
      obtain ⟨c1, p1, p2, p3, p4⟩ := (HO2.out.below hb3 (Nat.le_refl _)).below hb4 (Nat.le_refl _)
      obtain ⟨c2, q1, q2, q3, q4⟩ := HO3.out.below hb4 (Nat.le_refl _)
      have hr1 := RS.of_own p3
      have hr2 := RS.of_own q3
      obtain ⟨A1, d1, rfl, -⟩ := RS.of_own p3
      obtain ⟨A2, d2, rfl, -⟩ := RS.of_own q3
      have HR1 := Lib.hid hr1
      have HR2 := Lib.hid hr2
      have HA1 := Lib.hid (oline_cells p2 p1 p4)
      have HA2 := Lib.hid (oline_cells q2 q1 q4)
      have HP := Lib.hid (And.intro p1 (And.intro p2 p4))
      have HQ := Lib.hid (And.intro q1 (And.intro q2 q4))
      have hl1 : V1.length ≤ 1000000000 := by omega
      have hl2 : V1.length + V2.length ≤ 1000000000 := by omega
      clear p1 p2 p3 p4 q1 q2 q3 q4 hr1 hr2
      go_wp2_with (first
        | (at_builtin; refine wpList_append_fresh _ rfl (.tmp 46) (.tmp 47) 22 rfl 35 _ 1 24 Tryd.underlying22 strsinfo rfl (by decide) (by decide) A1 V1.length d1 c1.flatten rfl rfl HR1.out HA1.out hl1 ?_; intro v5 w5 hown5 hb5; obtain ⟨A5, d5, rfl, -⟩ := RS.of_own hown5; have hbase := hb5.size)
        | (at_builtin; refine wpList_append_many _ rfl (.tmp 49) (.tmp 50) 22 rfl w4.heap.size 35 _ 1 24 Tryd.underlying22 strsinfo rfl (by decide) (by decide) _ _ _ hown5 rfl A2 V2.length d2 c2.flatten rfl (RS.below HR2.out hb5 (Nat.le_refl _)) HA2.out hl2 hbase ?_; intro v6 w6 hown6 hk6))
      have k46 := hb5.trans (hk6.below hbase)
      refine (rsame_yes _ _ (V1 ++ V2) _ (RLines.below HO4.out.reads k46 (Nat.le_refl _)) (both_reads HP.out.1 HQ.out.1 HP.out.2.1 HQ.out.2.1 hown6 (fun i x cs hx hcs => ((HP.out.2.2 i x cs hx hcs).reads).below k46 (Nat.le_refl _)) (fun i x cs hx hcs => ((HQ.out.2.2 i x cs hx hcs).reads).below k46 (Nat.le_refl _)))).mono ?_
      rintro e w7 ⟨rfl, n7, rfl⟩
      have k7 := below_drewN (below_nx5 k4 k46) n7
      go_wp2_with fail
      refine (lives_any m _ (cell_below k7 (Nat.le_refl _) HM.out)).mono ?_
      rintro e w8 ⟨rfl, hb8⟩
      go_wp2
      go_ret
      exact ⟨rfl, below_nx5 k7 hb8⟩
  · have h1' : (x.size : Int) ≤ (100 : Int) := by omega
    have h2' : (y.size : Int) ≤ (100 : Int) := by omega
    clear h1 h2
    rcases hE with hE | ⟨hE, hE2⟩ | ⟨hE, hE2, hE3, hV, hv1, hv2⟩
    · go_enter Tryd.func4, Tryd.ntmps4
      go_wp2_with fail
      refine (HL1.out _ HM.out).out.mono ?_
      rintro e w2 ⟨v2, rfl, ho2, hb2⟩
      have HO2 := Lib.hid ho2
      clear ho2
      go_wp2_with fail
      refine (HL2.out _ (cell_below hb2 (Nat.le_refl _) HM.out)).out.mono ?_
      rintro e w3 ⟨v3, rfl, ho3, hb3⟩
      have HO3 := Lib.hid ho3
      have k3 := below_nx5 hb2 hb3
      clear ho3
      go_wp2_with fail
      refine (HL3.out _ (cell_below k3 (Nat.le_refl _) HM.out)).out.mono ?_
      rintro e w4 ⟨v4, rfl, ho4, hb4⟩
      have HO4 := Lib.hid ho4
      have k4 := below_nx5 k3 hb4
      clear ho4
      go_wp2_with fail
      refine (lives_any m _ (cell_below k4 (Nat.le_refl _) HM.out)).mono ?_
      rintro e w5 ⟨rfl, hb5⟩
      go_wp2
      go_ret
      exact ⟨rfl, below_nx5 k4 hb5⟩
    · go_enter Tryd.func4, Tryd.ntmps4
      go_wp2_with fail
      refine (HL1.out _ HM.out).out.mono ?_
      rintro e w2 ⟨v2, rfl, ho2, hb2⟩
      have HO2 := Lib.hid ho2
      clear ho2
      go_wp2_with fail
      refine (HL2.out _ (cell_below hb2 (Nat.le_refl _) HM.out)).out.mono ?_
      rintro e w3 ⟨v3, rfl, ho3, hb3⟩
      have HO3 := Lib.hid ho3
      have k3 := below_nx5 hb2 hb3
      clear ho3
      go_wp2_with fail
      refine (HL3.out _ (cell_below k3 (Nat.le_refl _) HM.out)).out.mono ?_
      rintro e w4 ⟨v4, rfl, ho4, hb4⟩
      have HO4 := Lib.hid ho4
      have k4 := below_nx5 k3 hb4
      clear ho4
      go_wp2_with fail
      refine (lives_any m _ (cell_below k4 (Nat.le_refl _) HM.out)).mono ?_
      rintro e w5 ⟨rfl, hb5⟩
      go_wp2
      go_ret
      exact ⟨rfl, below_nx5 k4 hb5⟩
    · subst hV
      go_enter Tryd.func4, Tryd.ntmps4
      go_wp2_with fail
      refine (HL1.out _ HM.out).out.mono ?_
      rintro e w2 ⟨v2, rfl, ho2, hb2⟩
      have HO2 := Lib.hid ho2
      clear ho2
      go_wp2_with fail
      refine (HL2.out _ (cell_below hb2 (Nat.le_refl _) HM.out)).out.mono ?_
      rintro e w3 ⟨v3, rfl, ho3, hb3⟩
      have HO3 := Lib.hid ho3
      have k3 := below_nx5 hb2 hb3
      clear ho3
      go_wp2_with fail
      refine (HL3.out _ (cell_below k3 (Nat.le_refl _) HM.out)).out.mono ?_
      rintro e w4 ⟨v4, rfl, ho4, hb4⟩
      have HO4 := Lib.hid ho4
      have k4 := below_nx5 k3 hb4
      clear ho4
      obtain ⟨c1, p1, p2, p3, p4⟩ := (HO2.out.below hb3 (Nat.le_refl _)).below hb4 (Nat.le_refl _)
      obtain ⟨c2, q1, q2, q3, q4⟩ := HO3.out.below hb4 (Nat.le_refl _)
      have hr1 := RS.of_own p3
      have hr2 := RS.of_own q3
      obtain ⟨A1, d1, rfl, -⟩ := RS.of_own p3
      obtain ⟨A2, d2, rfl, -⟩ := RS.of_own q3
      have HR1 := Lib.hid hr1
      have HR2 := Lib.hid hr2
      have HA1 := Lib.hid (oline_cells p2 p1 p4)
      have HA2 := Lib.hid (oline_cells q2 q1 q4)
      have HP := Lib.hid (And.intro p1 (And.intro p2 p4))
      have HQ := Lib.hid (And.intro q1 (And.intro q2 q4))
      have hl1 : V1.length ≤ 1000000000 := by omega
      have hl2 : V1.length + V2.length ≤ 1000000000 := by omega
      clear p1 p2 p3 p4 q1 q2 q3 q4 hr1 hr2
      go_wp2_with (first
        | (at_builtin; refine wpList_append_fresh _ rfl (.tmp 46) (.tmp 47) 22 rfl 35 _ 1 24 Tryd.underlying22 strsinfo rfl (by decide) (by decide) A1 V1.length d1 c1.flatten rfl rfl HR1.out HA1.out hl1 ?_; intro v5 w5 hown5 hb5; obtain ⟨A5, d5, rfl, -⟩ := RS.of_own hown5; have hbase := hb5.size)
        | (at_builtin; refine wpList_append_many _ rfl (.tmp 49) (.tmp 50) 22 rfl w4.heap.size 35 _ 1 24 Tryd.underlying22 strsinfo rfl (by decide) (by decide) _ _ _ hown5 rfl A2 V2.length d2 c2.flatten rfl (RS.below HR2.out hb5 (Nat.le_refl _)) HA2.out hl2 hbase ?_; intro v6 w6 hown6 hk6))
      have k46 := hb5.trans (hk6.below hbase)
      refine (rsame_yes _ _ (V1 ++ V2) _ (RLines.below HO4.out.reads k46 (Nat.le_refl _)) (both_reads HP.out.1 HQ.out.1 HP.out.2.1 HQ.out.2.1 hown6 (fun i x cs hx hcs => ((HP.out.2.2 i x cs hx hcs).reads).below k46 (Nat.le_refl _)) (fun i x cs hx hcs => ((HQ.out.2.2 i x cs hx hcs).reads).below k46 (Nat.le_refl _)))).mono ?_
      rintro e w7 ⟨rfl, n7, rfl⟩
      have k7 := below_drewN (below_nx5 k4 k46) n7
      go_wp2_with fail
      refine (lives_any m _ (cell_below k7 (Nat.le_refl _) HM.out)).mono ?_
      rintro e w8 ⟨rfl, hb8⟩
      go_wp2
      go_ret
      exact ⟨rfl, below_nx5 k7 hb8⟩
end Go.Proofs.YtddhcmibimabnaaDoor
