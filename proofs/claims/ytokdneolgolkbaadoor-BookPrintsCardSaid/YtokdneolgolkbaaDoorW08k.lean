/- The walk of the reference's comparison of plans. -/
import Derived.Test.YtokdneolgolkbaaDoorW08e
namespace Go.Proofs.YtokdneolgolkbaaDoor
open Go.RowKit P08

theorem and_f1 {a b c : Bool} (h : a = (b && c)) (hb : b = false) : a = false := by rw [h, hb]; rfl
set_option maxHeartbeats 4000000 in
set_option maxRecDepth 100000 in
theorem rsame8_any (v v' : Value) (p q : Pl) (w : World) (hp : RPlan w v p) (hq : RPlan w v' q) :
    Calls Tryd.prog 9 #[v, v'] w fun e w' => e = .returned (.bool (plEq p q)) ∧ Below w.heap.size w w' := by
  obtain ⟨lv, rfl, hl⟩ := hp
  obtain ⟨mv, rfl, hm⟩ := hq
  obtain ⟨A, c, rfl, h1, h2, hlc⟩ := RDays.open_ hl
  obtain ⟨A', c', rfl, h1', h2', hmc⟩ := RDays.open_ hm
  have HL := Lib.hid hlc
  have HM := Lib.hid hmc
  clear hl hm hlc hmc
  by_cases hlen : p.length = q.length
  rotate_left
  · have HF := Lib.hid (eqL_len dyEq p q hlen)
    have hne : ((p.length : Int) != (q.length : Int)) = true := by rw [bne_iff_ne]; omega
    clear hlen
    go_enter Tryd.func9, Tryd.ntmps9
    go_wp2
    go_ret
    exact ⟨ret_bool8 HF.out.symm, below_al8 (below_al8 (Below.refl _ _) _) _⟩
  have HE := Lib.hid hlen
  have hne : ((p.length : Int) != (q.length : Int)) = false := by rw [bne_eq_false_iff_eq]; omega
  clear hlen
  go_enter Tryd.func9, Tryd.ntmps9
  go_wp2_with fail
  clear hne
  have kb := below_al8 (below_al8 (Below.refl w.heap.size w) (.cells #[.slice A p.length c] 24)) (.cells #[.slice A' q.length c'] 24)
  have b0 := (Blk.new w 24 [.slice A p.length c]).alloc (.cells #[.slice A' q.length c'] 24)
  have b1 := Blk.newAt' (w.alloc (.cells #[.slice A p.length c] 24)) 24 [.slice A' q.length c'] (g := w.heap.size + 1) (by simp)
  obtain ⟨W, hW⟩ : ∃ W, (w.alloc (.cells #[.slice A p.length c] 24)).alloc (.cells #[.slice A' q.length c'] 24) = W := ⟨_, rfl⟩
  replace b0 : Blk ((w.alloc (.cells #[.slice A p.length c] 24)).alloc (.cells #[.slice A' q.length c'] 24)) w.heap.size 24 [.slice A p.length c] := b0
  replace b1 : Blk ((w.alloc (.cells #[.slice A p.length c] 24)).alloc (.cells #[.slice A' q.length c'] 24)) (w.heap.size + 1) 24 [.slice A' q.length c'] := b1
  rw [hW] at kb b0 b1 ⊢
  clear hW
  have c0 : W.cell? ⟨w.heap.size, 0, none⟩ = some (.slice A p.length c) := b0.cell 0
  have c1 : W.cell? ⟨w.heap.size + 1, 0, none⟩ = some (.slice A' q.length c') := b1.cell 0
  have z0 := b0.lt
  have z1 := b1.lt
  clear b0 b1
  go_loopw [5] (fun iv wr => ∃ (k nd : Nat), k ≤ p.length ∧ iv = .int .i64 k ∧ wr = W.drewN nd ∧ Hid (plEq p q = eqL dyEq (p.drop k) (q.drop k))) (fun iv _ => p.length - (intOf iv).toNat)
  case atStart => exact ⟨0, 0, Nat.zero_le _, rfl, rfl, rfl⟩
  case round =>
    obtain ⟨k, nd, hk, rfl, rfl, HI⟩ := hrel
    by_cases hlt : k < p.length
    · obtain ⟨x, hx⟩ := some_of_lt hlt
      have hltq : k < q.length := by have := HE.out; omega
      obtain ⟨y, hy⟩ := some_of_lt hltq
      have HS := Lib.hid (HI.out.trans (eqL_step _ hx hy))
      obtain ⟨b0, o0, rfl, hb0, pv, hpv, k0⟩ := HL.out k x hx
      obtain ⟨b1, o1, rfl, hb1, qv, hqv, k1⟩ := HM.out k y hy
      replace k0 := cell_below kb (Nat.le_refl _) k0
      replace k1 := cell_below kb (Nat.le_refl _) k1
      obtain ⟨A2, c2, rfl, g1, g2, hxc⟩ := RTours.open_ hpv
      obtain ⟨A3, c3, rfl, g3, g4, hyc⟩ := RTours.open_ hqv
      have HXC := Lib.hid hxc
      have HYC := Lib.hid hyc
      have hbW0 := Nat.lt_of_lt_of_le hb0 kb.size
      have hbW1 := Nat.lt_of_lt_of_le hb1 kb.size
      clear hx hy hpv hqv hxc hyc
      by_cases hlen2 : x.length = y.length
      rotate_left
      · have HF := Lib.hid (and_f1 HS.out (eqL_len trEq x y hlen2))
        have hne : ((x.length : Int) != (y.length : Int)) = true := by rw [bne_iff_ne]; omega
        clear hlen2
        go_wp2_with fail
        go_quiet (fail)
        go_wp2
        go_ret
        exact ⟨ret_bool8 HF.out.symm, below_drewN (below_drewN kb _) _⟩
      have HE2 := Lib.hid hlen2
      have hne : ((x.length : Int) != (y.length : Int)) = false := by rw [bne_eq_false_iff_eq]; omega
      have HS2 : Hid (plEq p q = (eqL trEq (x.drop 0) (y.drop 0) && eqL dyEq (p.drop (k + 1)) (q.drop (k + 1)))) := HS.out
      clear hlen2
      go_wp2_with fail
      go_quiet (fail)
      go_wp2_with fail
      clear hne
      rw [World.drewN_drewN]
      go_loopw [6] (fun iv wr => ∃ (j nd : Nat), j ≤ x.length ∧ iv = .int .i64 j ∧ wr = W.drewN nd ∧ Hid (plEq p q = (eqL trEq (x.drop j) (y.drop j) && eqL dyEq (p.drop (k + 1)) (q.drop (k + 1))))) (fun iv _ => x.length - (intOf iv).toNat)
      case atStart => exact ⟨0, _, Nat.zero_le _, rfl, rfl, HS2⟩
      case round =>
        clear HS2
        obtain ⟨j, nd2, hj, rfl, rfl, HJ⟩ := hrel
        by_cases hlt2 : j < x.length
        · obtain ⟨s, hs⟩ := some_of_lt hlt2
          have hlty : j < y.length := by have := HE2.out; omega
          obtain ⟨t, ht⟩ := some_of_lt hlty
          have HT : Hid (plEq p q = (trEq s t && (eqL trEq (x.drop (j + 1)) (y.drop (j + 1)) && eqL dyEq (p.drop (k + 1)) (q.drop (k + 1))))) := by
            show _ = _
            rw [HJ.out, eqL_step _ hs ht, Bool.and_assoc]
          obtain ⟨b2, o2, rfl, hb2, sv, hsv, m0⟩ := HXC.out j s hs
          obtain ⟨b3, o3, rfl, hb3, tv, htv, m1⟩ := HYC.out j t ht
          replace m0 := cell_below kb (Nat.le_refl _) m0
          replace m1 := cell_below kb (Nat.le_refl _) m1
          obtain ⟨A4, c4, rfl, g5, g6, hsc⟩ := RStops.open_ hsv
          obtain ⟨A5, c5, rfl, g7, g8, htc⟩ := RStops.open_ htv
          have HSC := Lib.hid hsc
          have HTC := Lib.hid htc
          have hbW2 := Nat.lt_of_lt_of_le hb2 kb.size
          have hbW3 := Nat.lt_of_lt_of_le hb3 kb.size
          clear hs ht hsv htv hsc htc
          by_cases hlen3 : s.length = t.length
          rotate_left
          · have HF := Lib.hid (and_f1 HT.out (eqL_len stpEq s t hlen3))
            have hne : ((s.length : Int) != (t.length : Int)) = true := by rw [bne_iff_ne]; omega
            clear hlen3
            go_wp2
            go_ret
            exact ⟨ret_bool8 HF.out.symm, below_drewN kb _⟩
          have HE3 := Lib.hid hlen3
          have hne : ((s.length : Int) != (t.length : Int)) = false := by rw [bne_eq_false_iff_eq]; omega
          have HT2 : Hid (plEq p q = (eqL stpEq (s.drop 0) (t.drop 0) && (eqL trEq (x.drop (j + 1)) (y.drop (j + 1)) && eqL dyEq (p.drop (k + 1)) (q.drop (k + 1))))) := HT.out
          clear hlen3
          go_wp2_with fail
          clear hne
          go_loopw [9] (fun iv wr => ∃ (i nd : Nat), i ≤ s.length ∧ iv = .int .i64 i ∧ wr = W.drewN nd ∧ Hid (plEq p q = (eqL stpEq (s.drop i) (t.drop i) && (eqL trEq (x.drop (j + 1)) (y.drop (j + 1)) && eqL dyEq (p.drop (k + 1)) (q.drop (k + 1)))))) (fun iv _ => s.length - (intOf iv).toNat)
          case atStart => exact ⟨0, _, Nat.zero_le _, rfl, rfl, HT2⟩
          case round =>
            clear HT2
            obtain ⟨i, nd3, hi, rfl, rfl, HU⟩ := hrel
            by_cases hlt3 : i < s.length
            · obtain ⟨⟨a1, a2⟩, ha⟩ := some_of_lt hlt3
              have hltt : i < t.length := by have := HE3.out; omega
              obtain ⟨⟨e1, e2⟩, he⟩ := some_of_lt hltt
              have HV : Hid (plEq p q = (stpEq (a1, a2) (e1, e2) && (eqL stpEq (s.drop (i + 1)) (t.drop (i + 1)) && (eqL trEq (x.drop (j + 1)) (y.drop (j + 1)) && eqL dyEq (p.drop (k + 1)) (q.drop (k + 1)))))) := by
                show _ = _
                rw [HU.out, eqL_step _ ha he, Bool.and_assoc]
              obtain ⟨b4, o4, rfl, hb4, n0, n1⟩ := HSC.out i _ ha
              obtain ⟨b5, o5, rfl, hb5, n2, n3⟩ := HTC.out i _ he
              replace n0 := cell_below kb (Nat.le_refl _) n0
              replace n1 := cell_below kb (Nat.le_refl _) n1
              replace n2 := cell_below kb (Nat.le_refl _) n2
              replace n3 := cell_below kb (Nat.le_refl _) n3
              clear ha he
              by_cases hab : a1 = e1 ∧ a2 = e2
              · obtain ⟨rfl, rfl⟩ := hab
                go_wp2_with fail
                go_quiet (fail)
                go_wp2
                go_roundw
                case rel => exact ⟨i + 1, _, by omega, by go_num, rfl, by have := HV.out; rw [stpEq_refl, Bool.true_and] at this; exact this⟩
                case measure => simp [intOf]; omega
              · have HF := Lib.hid (and_f1 HV.out (show stpEq (a1, a2) (e1, e2) = false from by unfold stpEq; rw [Bool.and_eq_false_iff, beq_eq_false_iff_ne, beq_eq_false_iff_ne]; by_cases e : a1 = e1; exact .inr (fun e2 => hab ⟨e, e2⟩); exact .inl e))
                by_cases h1 : a1 = e1
                · subst h1
                  have hne : (a2 == e2) = false := by rw [beq_eq_false_iff_ne]; exact fun e => hab ⟨rfl, e⟩
                  clear hab
                  go_wp2_with fail
                  go_quiet (fail)
                  go_wp2
                  go_ret
                  exact ⟨ret_bool8 HF.out.symm, below_drewN (below_drewN kb _) _⟩
                · have hne : (a1 == e1) = false := by rw [beq_eq_false_iff_ne]; exact h1
                  clear hab h1
                  go_wp2_with fail
                  go_quiet (fail)
                  go_wp2
                  go_ret
                  exact ⟨ret_bool8 HF.out.symm, below_drewN (below_drewN kb _) _⟩
            · have HN : Hid (plEq p q = (eqL trEq (x.drop (j + 1)) (y.drop (j + 1)) && eqL dyEq (p.drop (k + 1)) (q.drop (k + 1)))) := by
                show _ = _
                rw [HU.out, eqL_end _ (by omega) (by have := HE3.out; omega), Bool.true_and]
              go_wp2
              go_roundw
              case rel => exact ⟨j + 1, _, by omega, by go_num, rfl, HN⟩
              case measure => simp [intOf]; omega
        · have HN : Hid (plEq p q = eqL dyEq (p.drop (k + 1)) (q.drop (k + 1))) := by
            show _ = _
            rw [HJ.out, eqL_end _ (by omega) (by have := HE2.out; omega), Bool.true_and]
          go_wp2
          go_roundw
          case rel => exact ⟨k + 1, _, by omega, by go_num, rfl, HN⟩
          case measure => simp [intOf]; omega
    · have H := Lib.hid (HI.out.trans (eqL_end _ (by omega) (by have := HE.out; omega)))
      go_wp2
      go_ret
      exact ⟨ret_bool8 H.out.symm, below_drewN kb _⟩
end Go.Proofs.YtokdneolgolkbaaDoor
