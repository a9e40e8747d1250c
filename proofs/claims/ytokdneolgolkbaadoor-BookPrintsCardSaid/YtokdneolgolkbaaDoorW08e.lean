/- The walks of the program's comparison of plans. -/
import Derived.Test.YtokdneolgolkbaaDoorM08
import Derived.Test.YtokdneolgolkbaaDoorP08d
import Derived.Deep.QuietTactic
import Derived.BigQuiet
import Derived.Outline
namespace Go.Proofs.YtokdneolgolkbaaDoor
open Go.RowKit P08

theorem ret_bool8 {a b : Bool} (h : a = b) : Ending.returned (.bool a) = .returned (.bool b) := by rw [h]
set_option maxHeartbeats 1000000 in
theorem equal_stops (lv mv : Value) (l m : Tr) (w : World) (hl : RL 2 RStop w lv l) (hm : RL 2 RStop w mv m) :
    Calls Tryd.prog 28 #[lv, mv] w fun e w' => e = .returned (.bool (trEq l m)) ∧ ∃ n, w' = w.drewN n := by
  obtain ⟨A, c, rfl, h1, h2, hlc⟩ := RStops.open_ hl
  obtain ⟨A', c', rfl, h1', h2', hmc⟩ := RStops.open_ hm
  have HL := Lib.hid hlc
  have HM := Lib.hid hmc
  clear hlc hmc hl hm
  by_cases hlen : l.length = m.length
  rotate_left
  · have H := Lib.hid (eqL_len stpEq l m hlen)
    have hne : ((l.length : Int) != (m.length : Int)) = true := by rw [bne_iff_ne]; omega
    clear hlen
    go_enter Tryd.func28, Tryd.ntmps28
    go_wp2
    go_ret
    exact ⟨ret_bool8 H.out.symm, 0, rfl⟩
  · have HE := Lib.hid hlen
    have hne : ((l.length : Int) != (m.length : Int)) = false := by rw [bne_eq_false_iff_eq]; omega
    clear hlen
    go_enter Tryd.func28, Tryd.ntmps28
    go_wp2_with fail
    clear hne
    go_loopw [13] (fun iv wr => ∃ (k nd : Nat), k ≤ l.length ∧ iv = .int .i64 k ∧ wr = w.drewN nd ∧ Hid (trEq l m = eqL stpEq (l.drop k) (m.drop k))) (fun iv _ => l.length - (intOf iv).toNat)
    case atStart => exact ⟨0, 0, Nat.zero_le _, rfl, rfl, rfl⟩
    case round =>
      obtain ⟨k, nd, hk, rfl, rfl, HI⟩ := hrel
      by_cases hlt : k < l.length
      · obtain ⟨⟨a1, a2⟩, ha⟩ := some_of_lt hlt
        have hltm : k < m.length := by have := HE.out; omega
        obtain ⟨⟨b1, b2⟩, hb⟩ := some_of_lt hltm
        have HS := Lib.hid (HI.out.trans (eqL_step _ ha hb))
        obtain ⟨b0, o0, rfl, hb0, hk0, hk1⟩ := HL.out k _ ha
        obtain ⟨b3, o3, rfl, hb3, hk2, hk3⟩ := HM.out k _ hb
        clear ha hb
        by_cases hab : a1 = b1 ∧ a2 = b2
        · obtain ⟨rfl, rfl⟩ := hab
          go_wp2_with fail
          go_quiet (fail)
          go_wp2
          go_roundw
          case rel => exact ⟨k + 1, _, by omega, by go_num, rfl, by have := HS.out; rw [stpEq_refl, Bool.true_and] at this; exact this⟩
          case measure => simp [intOf]; omega
        · have HF : Hid (trEq l m = false) := by
            have := HS.out
            rw [show stpEq (a1, a2) (b1, b2) = false from by unfold stpEq; rw [Bool.and_eq_false_iff, beq_eq_false_iff_ne, beq_eq_false_iff_ne]; by_cases e : a1 = b1; exact .inr (fun e2 => hab ⟨e, e2⟩); exact .inl e, Bool.false_and] at this
            exact this
          by_cases e1 : a1 = b1
          · subst e1
            have hne : (a2 == b2) = false := by rw [beq_eq_false_iff_ne]; exact fun e => hab ⟨rfl, e⟩
            clear hab
            go_wp2_with fail
            go_quiet (fail)
            go_wp2
            go_ret
            exact ⟨ret_bool8 HF.out.symm, _, World.drewN_drewN _ _ _⟩
          · have hne : (a1 == b1) = false := by rw [beq_eq_false_iff_ne]; exact e1
            clear hab e1
            go_wp2_with fail
            go_quiet (fail)
            go_wp2
            go_ret
            exact ⟨ret_bool8 HF.out.symm, _, World.drewN_drewN _ _ _⟩
      · have H := Lib.hid (HI.out.trans (eqL_end _ (by omega) (by have := HE.out; omega)))
        go_wp2
        go_ret
        exact ⟨ret_bool8 H.out.symm, _, rfl⟩
set_option maxHeartbeats 1000000 in
theorem sameTour_any (lv mv : Value) (l m : Tr) (w : World) (hl : RL 2 RStop w lv l) (hm : RL 2 RStop w mv m) :
    Calls Tryd.prog 27 #[.agg #[lv], .agg #[mv]] w fun e w' => e = .returned (.bool (trEq l m)) ∧ Below w.heap.size w w' := by
  have HL := Lib.hid hl
  have HM := Lib.hid hm
  obtain ⟨A, c, rfl, -⟩ := RStops.open_ hl
  obtain ⟨A', c', rfl, -⟩ := RStops.open_ hm
  clear hl hm
  go_enter Tryd.func27, Tryd.ntmps27
  go_wp2_with fail
  have kb := below_al8 (below_al8 (Below.refl w.heap.size w) (.cells #[.slice A l.length c] 41)) (.cells #[.slice A' m.length c'] 41)
  refine (equal_stops _ _ l m _ (RStops.below HL.out kb (Nat.le_refl _)) (RStops.below HM.out kb (Nat.le_refl _))).mono ?_
  rintro e w3 ⟨rfl, n3, rfl⟩
  obtain ⟨B, hB⟩ : ∃ b, trEq l m = b := ⟨_, rfl⟩
  have HB := Lib.hid hB
  rw [hB]
  clear hB
  go_wp2
  go_ret
  exact ⟨ret_bool8 HB.out.symm, below_drewN kb _⟩

set_option maxHeartbeats 2000000 in
theorem equalFunc_tours (v v' : Value) (L M : Dy) (w : World) (h : RL 1 RTour w v L) (h' : RL 1 RTour w v' M) :
    Calls Tryd.prog 26 #[v, v', .func (.func 27) #[] #[]] w fun e w' => e = .returned (.bool (dyEq L M)) ∧ Below w.heap.size w w' := by
  obtain ⟨A, c, rfl, h1, h2, hlc⟩ := RTours.open_ h
  obtain ⟨A', c', rfl, h1', h2', hmc⟩ := RTours.open_ h'
  have HL := Lib.hid hlc
  have HM := Lib.hid hmc
  clear hlc hmc h h'
  by_cases hlen : L.length = M.length
  rotate_left
  · have H := Lib.hid (eqL_len trEq L M hlen)
    have hne : ((L.length : Int) != (M.length : Int)) = true := by rw [bne_iff_ne]; omega
    clear hlen
    go_enter Tryd.func26, Tryd.ntmps26
    go_wp2
    go_ret
    exact ⟨ret_bool8 H.out.symm, Below.refl _ _⟩
  · have HE := Lib.hid hlen
    have hne : ((L.length : Int) != (M.length : Int)) = false := by rw [bne_eq_false_iff_eq]; omega
    clear hlen
    go_enter Tryd.func26, Tryd.ntmps26
    go_wp2_with fail
    clear hne
    go_loopw [17] (fun iv wr => ∃ k : Nat, k ≤ L.length ∧ iv = .int .i64 k ∧ Below w.heap.size w wr ∧ Hid (dyEq L M = eqL trEq (L.drop k) (M.drop k))) (fun iv _ => L.length - (intOf iv).toNat)
    case atStart => exact ⟨0, Nat.zero_le _, rfl, Below.refl _ _, rfl⟩
    case round =>
      obtain ⟨k, hk, rfl, hbel, HI⟩ := hrel
      by_cases hlt : k < L.length
      · obtain ⟨x, hx⟩ := some_of_lt hlt
        have hltm : k < M.length := by have := HE.out; omega
        obtain ⟨y, hy⟩ := some_of_lt hltm
        have HS := Lib.hid (HI.out.trans (eqL_step _ hx hy))
        obtain ⟨b0, o0, rfl, hb0, pv, hpv, k0⟩ := HL.out k x hx
        obtain ⟨b1, o1, rfl, hb1, qv, hqv, k1⟩ := HM.out k y hy
        have hb0' := Nat.lt_of_lt_of_le hb0 hbel.size
        have hb1' := Nat.lt_of_lt_of_le hb1 hbel.size
        replace k0 := cell_below hbel (Nat.le_refl _) k0
        replace k1 := cell_below hbel (Nat.le_refl _) k1
        have HPV := Lib.hid (RStops.below hpv hbel (Nat.le_refl _))
        have HQV := Lib.hid (RStops.below hqv hbel (Nat.le_refl _))
        obtain ⟨Ap, cp, rfl, -⟩ := RStops.open_ hpv
        obtain ⟨Aq, cq, rfl, -⟩ := RStops.open_ hqv
        clear hx hy hpv hqv
        have kb := below_al8 (below_al8 (Below.refl wr.heap.size wr) (.cells #[.slice Ap x.length cp] 41)) (.cells #[.slice Aq y.length cq] 41)
        have HKB := Lib.hid kb
        clear kb
        obtain ⟨B, hB⟩ : ∃ b, trEq x y = b := ⟨_, rfl⟩
        have HB := Lib.hid hB
        clear hB
        cases B with
        | true =>
          go_wp2_with fail
          refine (sameTour_any _ _ x y _ (RStops.below HPV.out HKB.out (Nat.le_refl _)) (RStops.below HQV.out HKB.out (Nat.le_refl _))).mono ?_
          rintro e w3 ⟨rfl, hb3⟩
          rw [HB.out]
          go_wp2
          go_roundw
          case rel => exact ⟨k + 1, by omega, by go_num, below_nx8 hbel (below_nx8 HKB.out hb3), by have := HS.out; rw [HB.out, Bool.true_and] at this; exact this⟩
          case measure => simp [intOf]; omega
        | false =>
          have HF : Hid (dyEq L M = false) := by
            have := HS.out
            rw [HB.out, Bool.false_and] at this
            exact this
          go_wp2_with fail
          refine (sameTour_any _ _ x y _ (RStops.below HPV.out HKB.out (Nat.le_refl _)) (RStops.below HQV.out HKB.out (Nat.le_refl _))).mono ?_
          rintro e w3 ⟨rfl, hb3⟩
          rw [HB.out]
          go_wp2
          go_ret
          exact ⟨ret_bool8 HF.out.symm, below_nx8 hbel (below_nx8 HKB.out hb3)⟩
      · have H := Lib.hid (HI.out.trans (eqL_end _ (by omega) (by have := HE.out; omega)))
        go_wp2
        go_ret
        exact ⟨ret_bool8 H.out.symm, hbel⟩
set_option maxHeartbeats 1000000 in
theorem sameDay_any (lv mv : Value) (l m : Dy) (w : World) (hl : RL 1 RTour w lv l) (hm : RL 1 RTour w mv m) :
    Calls Tryd.prog 25 #[.agg #[lv], .agg #[mv]] w fun e w' => e = .returned (.bool (dyEq l m)) ∧ Below w.heap.size w w' := by
  have HL := Lib.hid hl
  have HM := Lib.hid hm
  obtain ⟨A, c, rfl, -⟩ := RTours.open_ hl
  obtain ⟨A', c', rfl, -⟩ := RTours.open_ hm
  clear hl hm
  go_enter Tryd.func25, Tryd.ntmps25
  go_wp2_with fail
  have kb := below_al8 (below_al8 (Below.refl w.heap.size w) (.cells #[.slice A l.length c] 38)) (.cells #[.slice A' m.length c'] 38)
  refine (equalFunc_tours _ _ l m _ (RTours.below HL.out kb (Nat.le_refl _)) (RTours.below HM.out kb (Nat.le_refl _))).mono ?_
  rintro e w3 ⟨rfl, hb3⟩
  obtain ⟨B, hB⟩ : ∃ b, dyEq l m = b := ⟨_, rfl⟩
  have HB := Lib.hid hB
  rw [hB]
  clear hB
  go_wp2
  go_ret
  exact ⟨ret_bool8 HB.out.symm, below_nx8 kb hb3⟩

set_option maxHeartbeats 2000000 in
theorem equalFunc_days (v v' : Value) (L M : Pl) (w : World) (h : RDays w v L) (h' : RDays w v' M) :
    Calls Tryd.prog 24 #[v, v', .func (.func 25) #[] #[]] w fun e w' => e = .returned (.bool (plEq L M)) ∧ Below w.heap.size w w' := by
  obtain ⟨A, c, rfl, h1, h2, hlc⟩ := RDays.open_ h
  obtain ⟨A', c', rfl, h1', h2', hmc⟩ := RDays.open_ h'
  have HL := Lib.hid hlc
  have HM := Lib.hid hmc
  clear hlc hmc h h'
  by_cases hlen : L.length = M.length
  rotate_left
  · have H := Lib.hid (eqL_len dyEq L M hlen)
    have hne : ((L.length : Int) != (M.length : Int)) = true := by rw [bne_iff_ne]; omega
    clear hlen
    go_enter Tryd.func24, Tryd.ntmps24
    go_wp2
    go_ret
    exact ⟨ret_bool8 H.out.symm, Below.refl _ _⟩
  · have HE := Lib.hid hlen
    have hne : ((L.length : Int) != (M.length : Int)) = false := by rw [bne_eq_false_iff_eq]; omega
    clear hlen
    go_enter Tryd.func24, Tryd.ntmps24
    go_wp2_with fail
    clear hne
    go_loopw [17] (fun iv wr => ∃ k : Nat, k ≤ L.length ∧ iv = .int .i64 k ∧ Below w.heap.size w wr ∧ Hid (plEq L M = eqL dyEq (L.drop k) (M.drop k))) (fun iv _ => L.length - (intOf iv).toNat)
    case atStart => exact ⟨0, Nat.zero_le _, rfl, Below.refl _ _, rfl⟩
    case round =>
      obtain ⟨k, hk, rfl, hbel, HI⟩ := hrel
      by_cases hlt : k < L.length
      · obtain ⟨x, hx⟩ := some_of_lt hlt
        have hltm : k < M.length := by have := HE.out; omega
        obtain ⟨y, hy⟩ := some_of_lt hltm
        have HS := Lib.hid (HI.out.trans (eqL_step _ hx hy))
        obtain ⟨b0, o0, rfl, hb0, pv, hpv, k0⟩ := HL.out k x hx
        obtain ⟨b1, o1, rfl, hb1, qv, hqv, k1⟩ := HM.out k y hy
        have hb0' := Nat.lt_of_lt_of_le hb0 hbel.size
        have hb1' := Nat.lt_of_lt_of_le hb1 hbel.size
        replace k0 := cell_below hbel (Nat.le_refl _) k0
        replace k1 := cell_below hbel (Nat.le_refl _) k1
        have HPV := Lib.hid (RTours.below hpv hbel (Nat.le_refl _))
        have HQV := Lib.hid (RTours.below hqv hbel (Nat.le_refl _))
        obtain ⟨Ap, cp, rfl, -⟩ := RTours.open_ hpv
        obtain ⟨Aq, cq, rfl, -⟩ := RTours.open_ hqv
        clear hx hy hpv hqv
        have kb := below_al8 (below_al8 (Below.refl wr.heap.size wr) (.cells #[.slice Ap x.length cp] 38)) (.cells #[.slice Aq y.length cq] 38)
        have HKB := Lib.hid kb
        clear kb
        obtain ⟨B, hB⟩ : ∃ b, dyEq x y = b := ⟨_, rfl⟩
        have HB := Lib.hid hB
        clear hB
        cases B with
        | true =>
          go_wp2_with fail
          refine (sameDay_any _ _ x y _ (RTours.below HPV.out HKB.out (Nat.le_refl _)) (RTours.below HQV.out HKB.out (Nat.le_refl _))).mono ?_
          rintro e w3 ⟨rfl, hb3⟩
          rw [HB.out]
          go_wp2
          go_roundw
          case rel => exact ⟨k + 1, by omega, by go_num, below_nx8 hbel (below_nx8 HKB.out hb3), by have := HS.out; rw [HB.out, Bool.true_and] at this; exact this⟩
          case measure => simp [intOf]; omega
        | false =>
          have HF : Hid (plEq L M = false) := by
            have := HS.out
            rw [HB.out, Bool.false_and] at this
            exact this
          go_wp2_with fail
          refine (sameDay_any _ _ x y _ (RTours.below HPV.out HKB.out (Nat.le_refl _)) (RTours.below HQV.out HKB.out (Nat.le_refl _))).mono ?_
          rintro e w3 ⟨rfl, hb3⟩
          rw [HB.out]
          go_wp2
          go_ret
          exact ⟨ret_bool8 HF.out.symm, below_nx8 hbel (below_nx8 HKB.out hb3)⟩
      · have H := Lib.hid (HI.out.trans (eqL_end _ (by omega) (by have := HE.out; omega)))
        go_wp2
        go_ret
        exact ⟨ret_bool8 H.out.symm, hbel⟩
set_option maxHeartbeats 1000000 in
theorem same8_any (v v' : Value) (p q : Pl) (w : World) (hl : RPlan w v p) (hm : RPlan w v' q) :
    Calls Tryd.prog 17 #[v, v'] w fun e w' => e = .returned (.bool (plEq p q)) ∧ Below w.heap.size w w' := by
  obtain ⟨lv, rfl, hl⟩ := hl
  obtain ⟨mv, rfl, hm⟩ := hm
  have HL := Lib.hid hl
  have HM := Lib.hid hm
  obtain ⟨A, c, rfl, -⟩ := RDays.open_ hl
  obtain ⟨A', c', rfl, -⟩ := RDays.open_ hm
  clear hl hm
  go_enter Tryd.func17, Tryd.ntmps17
  go_wp2_with fail
  have kb := below_al8 (below_al8 (Below.refl w.heap.size w) (.cells #[.slice A p.length c] 24)) (.cells #[.slice A' q.length c'] 24)
  refine (equalFunc_days _ _ p q _ (RDays.below HL.out kb (Nat.le_refl _)) (RDays.below HM.out kb (Nat.le_refl _))).mono ?_
  rintro e w3 ⟨rfl, hb3⟩
  obtain ⟨B, hB⟩ : ∃ b, plEq p q = b := ⟨_, rfl⟩
  have HB := Lib.hid hB
  rw [hB]
  clear hB
  go_wp2
  go_ret
  exact ⟨ret_bool8 HB.out.symm, below_nx8 kb hb3⟩
end Go.Proofs.YtokdneolgolkbaaDoor
