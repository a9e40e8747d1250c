/- The walk of the statement TextRound. -/
import Derived.Test.YtddhcmibimabnaaDoorW05o
import Derived.Test.YtddhcmibimabnaaDoorW05j
namespace Go.Proofs.YtddhcmibimabnaaDoor
open Go.RowKit P05

/-- A line of words, made of any. -/
def lineW (r : List (List UInt8)) : List (List UInt8) := if (r.take 6).isEmpty = true then [[120]] else (r.take 6).map wordB
def ownW (l : List (List (List UInt8))) : List (List (List UInt8)) := (l.take 6).map lineW
theorem lineW_ok (r : List (List UInt8)) : lineW r ≠ [] ∧ ∀ w ∈ lineW r, isWord w = true := by
  unfold lineW
  by_cases h : (r.take 6).isEmpty = true
  · rw [if_pos h]; exact ⟨by simp, fun w hw => by simp at hw; subst hw; decide⟩
  · rw [if_neg h]
    refine ⟨by simpa using h, fun w hw => ?_⟩
    obtain ⟨x, _, rfl⟩ := List.mem_map.1 hw
    exact wordB_word x
theorem lineW_small (r : List (List UInt8)) : (lineW r).length ≤ 6 ∧ ∀ x ∈ lineW r, x.length ≤ 12 := by
  unfold lineW
  by_cases h : (r.take 6).isEmpty = true
  · rw [if_pos h]; exact ⟨by simp, fun w hw => by simp at hw; subst hw; decide⟩
  · rw [if_neg h]
    refine ⟨by rw [List.length_map, List.length_take]; omega, fun w hw => ?_⟩
    obtain ⟨x, _, rfl⟩ := List.mem_map.1 hw
    exact wordB_len x
theorem lineP_small (r : List (List UInt8)) : (lineP (lineW r)).length ≤ 100 := by
  have h := joinB_len 32 12 _ (lineW_small r).2
  have h2 := (lineW_small r).1
  have h3 : (lineW r).length * (12 + 1) ≤ 6 * 13 := Nat.mul_le_mul h2 (Nat.le_refl _)
  unfold lineP
  rw [List.length_append]
  simp
  omega
theorem ownW_len (l : List (List (List UInt8))) : (ownW l).length = min l.length 6 := by unfold ownW; simp; omega
theorem ownW_get {l : List (List (List UInt8))} {k : Nat} {r : List (List UInt8)} (h : l[k]? = some r) (hk : k < 6) : (ownW l)[k]? = some (lineW r) := by
  unfold ownW
  rw [List.getElem?_map, List.getElem?_take, if_pos hk, h]
  rfl
theorem ownW_ok (l : List (List (List UInt8))) : ∀ ws ∈ ownW l, ws ≠ [] ∧ ∀ w ∈ ws, isWord w = true := by
  intro ws h
  obtain ⟨r, _, rfl⟩ := List.mem_map.1 h
  exact lineW_ok r
theorem lineW_none {r : List (List UInt8)} (h : r = []) : lineW r = [[120]] := by subst h; rfl
theorem lineW_some {r : List (List UInt8)} {j : Nat} (h : r.take j = r.take 6) (hj : 0 < j) (hl : j ≤ r.length) : lineW r = (r.take j).map wordB := by
  have h1 : (r.take 6).isEmpty = false := by
    cases e : r.take 6 with
    | nil =>
      rw [e] at h
      have h2 := congrArg List.length h
      rw [List.length_take] at h2
      simp only [List.length_nil] at h2
      omega
    | cons a t => rfl
  unfold lineW
  rw [h1, h]
  rfl
theorem flat_snoc {L : List (List (List UInt8))} {k : Nat} {x : List (List UInt8)} {t D : ByteArray} (h : L[k]? = some x) (ht : t.data.toList = (L.take k).flatMap lineP) (hD : D.data.toList = lineP x) : (t ++ D).data.toList = (L.take (k + 1)).flatMap lineP := by
  rw [List.take_add_one, h, List.flatMap_append, ba_append, ht, hD]
  simp
theorem ret_true {a b : Bool} (h : a = b) : Ending.returned (.bool a) = .returned (.bool b) := by rw [h]

set_option maxHeartbeats 4000000 in
set_option maxRecDepth 100000 in
theorem textRound_any (v0 : Value) (l : List (List (List UInt8))) (m : Int) (w : World) (h0 : RLines w v0 l) (hs : ∀ r ∈ l, ∀ s ∈ r, s.length ≤ 9223372036854775807) (hm : w.cell? ⟨0, 0, none⟩ = some (.int .i64 m)) :
    Calls Tryd.prog 8 #[v0] w fun e w' => e = .returned (.bool true) ∧ Below w.heap.size w w' := by
  have HM := Lib.hid hm
  obtain ⟨A, c, rfl, a1, a2, hlc⟩ := h0.open_
  have HL := Lib.hid hlc
  have HSZ := Lib.hid hs
  clear hm hlc hs h0
  go_enter Tryd.func8, Tryd.ntmps8
  go_wp2_with fail
  go_loopw [3, 4, 5] (fun ov tv iv wr => ∃ (k : Nat) (t : ByteArray), k ≤ l.length ∧ k ≤ 6 ∧ iv = .int .i64 k ∧ tv = .string t ∧ t.size ≤ k * 100 ∧ Hid (t.data.toList = ((ownW l).take k).flatMap lineP) ∧ Hid (OLines w.heap.size 35 9 wr ov ((ownW l).take k)) ∧ Below w.heap.size w wr) (fun _ _ iv _ => 6 - (intOf iv).toNat)
  case atStart => exact ⟨0, _, Nat.zero_le _, Nat.zero_le _, rfl, rfl, Nat.zero_le _, rfl, OLines.nil_ _ _ _ _, Below.refl _ _⟩
  case round =>
    obtain ⟨k, t, hk, hk6, rfl, rfl, htz, HT, HOL, hbel⟩ := hrel
    have HTK : Hid (((ownW l).take k).length = k) := by
      show _ = _
      rw [List.length_take, ownW_len]
      omega
    by_cases hlt : k < l.length ∧ k < 6
    · obtain ⟨hlt, hlt6⟩ := hlt
      obtain ⟨r, hr⟩ := some_of_lt hlt
      obtain ⟨b, o, rfl, hb, rv, hrv, hc0⟩ := HL.out k r hr
      have hget := ownW_get hr hlt6
      have HTN : Hid ((ownW l).take (k + 1) = (ownW l).take k ++ [lineW r]) := by
        show _ = _
        rw [List.take_add_one, hget]
        rfl
      have HRS := Lib.hid (HSZ.out r (List.mem_of_getElem? hr))
      obtain ⟨D, hD⟩ : ∃ D : ByteArray, (⟨(lineP (lineW r)).toArray⟩ : ByteArray) = D := ⟨_, rfl⟩
      have hDd : D.data.toList = lineP (lineW r) := by rw [← hD]
      have hDs : D.size ≤ 100 := by rw [← data_len, hDd]; exact lineP_small r
      have HCL : Hid (∀ (v : Value) (W : World), RStrs W v (lineW r) → Calls Tryd.prog 20 #[v] W fun e w' => e = .returned (.string D) ∧ Below W.heap.size W w') := by
        show ∀ v W, _
        intro v W h
        rw [← hD]
        exact line_any (lineW r) v W h (by have := (lineW_small r).1; omega) (fun x hx => by have := (lineW_small r).2 x hx; omega)
      have HCR : Hid (∀ (v : Value) (W : World), RStrs W v (lineW r) → Calls Tryd.prog 21 #[v] W fun e w' => e = .returned (.string D) ∧ w' = W) := by
        show ∀ v W, _
        intro v W h
        rw [← hD]
        exact rline_any (lineW r) v W h (by have := (lineW_small r).1; omega) (fun x hx => by have := (lineW_small r).2 x hx; omega)
      have htD : (t ++ D).size ≤ (k + 1) * 100 := by rw [ByteArray.size_append]; omega
      have HTD := Lib.hid (And.intro htD (flat_snoc hget HT.out hDd))
      have htb : t.size ≤ 600 := by omega
      clear hget htD hD hDd
      have hrw := hrv.below hbel (Nat.le_refl _)
      obtain ⟨A2, c2, rfl, q1, q2, hrc⟩ := hrw.open_
      have HRC := Lib.hid hrc
      have hc1 : wr.cell? ⟨b, o + k, none⟩ = some (.slice A2 r.length c2) := cell_below hbel (Nat.le_refl _) hc0
      obtain ⟨wo, hwo⟩ : ∃ wo : World, wo = wr := ⟨_, rfl⟩
      subst hwo
      have hbelo := hbel
      have hbo := Nat.lt_of_lt_of_le hb hbel.size
      have hd6 : decide ((k : Int) < 6) = true := by simp; omega
      have HPRE : Hid (∀ W : World, Below wo.heap.size wo W → ∃ css : List (List Value), css.length = k ∧ (∀ cs ∈ css, cs.length = 1) ∧ W.ownsRow w.heap.size 35 1 u3 k css.flatten ∧ ∀ (i : Nat) (x : List (List UInt8)) (cs : List Value), ((ownW l).take k)[i]? = some x → css[i]? = some cs → OLine w.heap.size 9 W cs x) := by
        show ∀ W : World, _
        intro W hW
        obtain ⟨css, g1, g2, g3, g4⟩ := HOL.out.below hW (Nat.le_refl _)
        rw [HTK.out] at g1 g3
        exact ⟨css, g1, g2, g3, g4⟩
      clear hrv hrw hrc hc0 hb hr hbel
      go_wp2_with fail
      go_loopw [6, 7] (fun lv jv wr => ∃ j : Nat, j ≤ r.length ∧ j ≤ 6 ∧ jv = .int .i64 j ∧ Hid (wr.ownsRow wo.heap.size 9 1 lv j (((r.take j).map wordB).map bstr)) ∧ Below wo.heap.size wo wr) (fun _ jv _ => 6 - (intOf jv).toNat)
      case atStart => exact ⟨0, Nat.zero_le _, Nat.zero_le _, rfl, World.ownsRow_nil _ _ _ _, Below.refl _ _⟩
      case round =>
        obtain ⟨j, hj, hj6, rfl, HO, hbi⟩ := hrel
        have hc2 : wr.cell? ⟨b, o + k, none⟩ = some (.slice A2 r.length c2) := cell_below hbi (Nat.le_refl _) hc1
        by_cases hjt : j < r.length ∧ j < 6
        · obtain ⟨hjt, hjt6⟩ := hjt
          obtain ⟨x, hx⟩ := some_of_lt hjt
          obtain ⟨b2, o2, rfl, hb2, hc3⟩ := HRC.out j x hx
          have hxl := HRS.out x (List.mem_of_getElem? hx)
          obtain ⟨s, hs⟩ : ∃ s : ByteArray, (⟨x.toArray⟩ : ByteArray) = s := ⟨_, rfl⟩
          have hsd : s.data.toList = x := by rw [← hs]
          rw [hs] at hc3
          have hc4 : wr.cell? ⟨b2, o2 + j, none⟩ = some (.string s) := cell_below hbi (Nat.le_refl _) hc3
          have HC := fun W => Lib.hid (word_any s W (by rw [← data_len, hsd]; exact hxl))
          have HMB : Hid (((r.take (j + 1)).map wordB).map bstr = ((r.take j).map wordB).map bstr ++ [.string ⟨(wordB x).toArray⟩]) := by
            show _ = _
            rw [map_take_snoc wordB hx, List.map_append]
            rfl
          rw [hsd] at HC
          have hjn : j ≤ 1000000000 := by omega
          clear hx hs hsd hc3 hb2 hxl
          generalize wordB x = y at HC HMB
          go_wp2_with fail
          refine (HC _).out.mono ?_
          rintro e w4 ⟨rfl, hb4⟩
          unfold bstr
          have how := own_below HO.out hb4 (Nat.le_refl _)
          have k4 := below_nx5 hbi hb4
          have hbase := k4.size
          go_wp2_with (at_builtin; refine wpList_append_one _ rfl (.tmp 35) (.tmp 44) 35 rfl wo.heap.size 9 _ 1 16 Tryd.underlying35 strinfo rfl (by decide) (by decide) _ _ _ how rfl [.string ⟨y.toArray⟩] _ rfl rfl rfl hjn hbase ?_; intro v5 w5 ho5 hb5 hz5)
          go_roundw
          case rel =>
            exact ⟨j + 1, by omega, by omega, by go_num, own_as1 HMB.out ho5, k4.trans hb5⟩
          case measure => simp [intOf]; omega
        · by_cases hj0 : j = 0
          · subst hj0
            have hr0 : r.length = 0 := by omega
            have HLW := Lib.hid (lineW_none (List.eq_nil_of_length_eq_zero hr0))
            have how := HO.out
            obtain ⟨A5, c5, rfl, -⟩ := RS.of_own how
            have hbase := hbi.size
            rw [hr0] at hc2
            clear hjt
            have hkb : k ≤ 1000000000 := by omega
            have hlenN : (lineW r).length = 0 + 1 := by rw [HLW.out]; rfl
            go_wp2_with (first
              | (at_builtin; refine wpList_append_one _ rfl (.tmp 49) (.tmp 50) 35 rfl wo.heap.size 9 _ 1 16 Tryd.underlying35 strinfo rfl (by decide) (by decide) _ _ _ how rfl [.string ⟨#[120]⟩] _ rfl rfl rfl (by omega) hbase ?_; intro v5 w5 ho5 hb5 hz5; obtain ⟨Av, cv, rfl, -⟩ := RS.of_own ho5; have kb := hbi.trans hb5; have hrow : w5.ownsRow wo.heap.size 9 1 (.slice Av (0 + 1) cv) (0 + 1) ((lineW r).map bstr) := own_as1 (by rw [HLW.out]; rfl) ho5; obtain ⟨css, g1, g2, g3, g4⟩ := HPRE.out _ kb; have HG1 := Lib.hid g1; have HG2 := Lib.hid g2; have HG4 := Lib.hid g4; have HROW := Lib.hid hrow; have hbW : w.heap.size ≤ w5.heap.size := Nat.le_trans hbelo.size kb.size; have kbW := hbelo.trans (kb.mono hbelo.size); clear g1 g2 g4 hrow)
              | (at_builtin; refine wpList_append_one' _ rfl (.tmp 52) (.tmp 54) 22 rfl w.heap.size 35 _ 1 24 Tryd.underlying22 strsinfo rfl (by decide) (by decide) _ _ _ g3 rfl [.slice Av (0 + 1) cv] _ rfl rfl rfl hkb hbW ?_; intro g cap w6 ho6 hg0 hg1 hkp hz6))
            have k6 := kbW.trans (hkp.below hbW)
            have hrow6 := hkp.own HROW.out (by decide)
            have hr6 : RStrs w6 (.slice Av (0 + 1) cv) (lineW r) := by unfold RStrs; rw [hlenN]; exact RS.of_own hrow6
            have HN6 : Hid (OLines w.heap.size 35 9 w6 (.slice (some ⟨g, 0, none⟩) (k + 1) cap) ((ownW l).take k ++ [lineW r])) := by
              show OL _ _ _ _ _ _ _
              refine OL.push (n := k) HTK.out HG1.out HG2.out rfl ho6 (fun i x cs hx hcs => ?_) ⟨_, rfl, ?_⟩
              · obtain ⟨v, rfl, hv⟩ := HG4.out i x cs hx hcs
                exact ⟨v, rfl, hkp.own hv (by decide)⟩
              · rw [hlenN]
                exact own_mono hrow6 hbelo.size
            have HR6 := Lib.hid hr6
            clear hrow6 hr6 ho6 g3 hlenN
            refine (HCL.out _ _ HR6.out).mono ?_
            rintro e w7 ⟨rfl, hb7⟩
            have hr7 := HR6.out.below hb7 (Nat.le_refl _)
            go_wp2_with fail
            refine (HCR.out _ _ hr7).mono ?_
            rintro e w8 ⟨rfl, rfl⟩
            go_wp2
            go_roundw
            case rel =>
              refine ⟨k + 1, _, by omega, by omega, by go_num, rfl, HTD.out.1, HTD.out.2, ?_, below_nx5 k6 hb7⟩
              show OLines _ _ _ _ _ _
              rw [HTN.out]
              exact HN6.out.below hb7 (Nat.le_refl _)
            case measure => simp [intOf]; omega
          · have hexit : (¬ j < r.length) ∨ (j < r.length ∧ (6 : Int) ≤ (j : Int)) := by omega
            have hsame : r.take j = r.take 6 := by
              by_cases h : j = 6
              · rw [h]
              · rw [List.take_of_length_le (by omega), List.take_of_length_le (by omega)]
            have HLW := Lib.hid (lineW_some hsame (by omega) hj)
            have hj0' : ((j : Int) == 0) = false := by rw [beq_eq_false_iff_ne]; omega
            obtain ⟨Av, cv, rfl, -⟩ := RS.of_own HO.out
            have hrow : wr.ownsRow wo.heap.size 9 1 (.slice Av j cv) j ((lineW r).map bstr) := own_as1 (by rw [HLW.out]) HO.out
            have kb := hbi
            clear hsame HO
            have hkb : k ≤ 1000000000 := by omega
            have hlenN : (lineW r).length = j := by rw [HLW.out, List.length_map, List.length_take]; omega
            obtain ⟨css, g1, g2, g3, g4⟩ := HPRE.out _ kb
            have HG1 := Lib.hid g1
            have HG2 := Lib.hid g2
            have HG4 := Lib.hid g4
            have HROW := Lib.hid hrow
            have hbW : w.heap.size ≤ wr.heap.size := Nat.le_trans hbelo.size kb.size
            have kbW := hbelo.trans (kb.mono hbelo.size)
            clear g1 g2 g4 hrow
            rcases hexit with hjt | ⟨hjt, hj8⟩
            all_goals
              go_wp2_with (at_builtin; refine wpList_append_one' _ rfl (.tmp 52) (.tmp 54) 22 rfl w.heap.size 35 _ 1 24 Tryd.underlying22 strsinfo rfl (by decide) (by decide) _ _ _ g3 rfl [.slice Av (j) cv] _ rfl rfl rfl hkb hbW ?_; intro g cap w6 ho6 hg0 hg1 hkp hz6)
              have k6 := kbW.trans (hkp.below hbW)
              have hrow6 := hkp.own HROW.out (by decide)
              have hr6 : RStrs w6 (.slice Av (j) cv) (lineW r) := by unfold RStrs; rw [hlenN]; exact RS.of_own hrow6
              have HN6 : Hid (OLines w.heap.size 35 9 w6 (.slice (some ⟨g, 0, none⟩) (k + 1) cap) ((ownW l).take k ++ [lineW r])) := by
                show OL _ _ _ _ _ _ _
                refine OL.push (n := k) HTK.out HG1.out HG2.out rfl ho6 (fun i x cs hx hcs => ?_) ⟨_, rfl, ?_⟩
                · obtain ⟨v, rfl, hv⟩ := HG4.out i x cs hx hcs
                  exact ⟨v, rfl, hkp.own hv (by decide)⟩
                · rw [hlenN]
                  exact own_mono hrow6 hbelo.size
              have HR6 := Lib.hid hr6
              clear hrow6 hr6 ho6 g3 hlenN
              refine (HCL.out _ _ HR6.out).mono ?_
              rintro e w7 ⟨rfl, hb7⟩
              have hr7 := HR6.out.below hb7 (Nat.le_refl _)
              go_wp2_with fail
              refine (HCR.out _ _ hr7).mono ?_
              rintro e w8 ⟨rfl, rfl⟩
              go_wp2
              go_roundw
              case rel =>
                refine ⟨k + 1, _, by omega, by omega, by go_num, rfl, HTD.out.1, HTD.out.2, ?_, below_nx5 k6 hb7⟩
                show OLines _ _ _ _ _ _
                rw [HTN.out]
                exact HN6.out.below hb7 (Nat.le_refl _)
              case measure => simp [intOf]; omega
    · have hexit : (¬ k < l.length) ∨ (k < l.length ∧ (6 : Int) ≤ (k : Int)) := by omega
      have htake : (ownW l).take k = ownW l := List.take_of_length_le (by rw [ownW_len]; omega)
      have ht2 := HT.out
      have ho2 := HOL.out
      rw [htake] at ht2 ho2
      have hlp : linesP t.data.toList = some (ownW l) := by rw [ht2]; exact linesP_lineP _ (ownW_ok l)
      have hlv := linesV_some hlp
      have hmr : wr.cell? ⟨0, 0, none⟩ = some (.int .i64 m) := cell_below hbel (Nat.le_refl _) HM.out
      have HC := lines_any t m wr (by omega) hmr
      rw [hlv.1, hlv.2] at HC
      have HC := Lib.hid HC
      have HO2 := Lib.hid ho2
      clear ht2 ho2 hlp hlv hmr htake HT HOL
      rcases hexit with hlt | ⟨hlt, hx6⟩
      all_goals
        go_wp2_with fail
        refine HC.out.mono ?_
        rintro e w2 ⟨v2, rfl, hov, hb2⟩
        have HOV := Lib.hid hov
        have k2 := below_nx5 hbel hb2
        clear hov
        go_wp2_with fail
        refine (rsame_yes _ _ (ownW l) _ HOV.out.reads (HO2.out.below hb2 (Nat.le_refl _)).reads).mono ?_
        rintro e w3 ⟨rfl, n3, rfl⟩
        have k3 := below_drewN k2 n3
        go_wp2_with fail
        refine (lives_any m _ (cell_below k3 (Nat.le_refl _) HM.out)).mono ?_
        rintro e w5 ⟨rfl, hb5⟩
        go_wp2
        go_ret
        exact ⟨rfl, below_nx5 k3 hb5⟩
end Go.Proofs.YtddhcmibimabnaaDoor
