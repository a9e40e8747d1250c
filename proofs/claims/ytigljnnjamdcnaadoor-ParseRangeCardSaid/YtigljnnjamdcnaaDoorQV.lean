/-
  The walk of May: the reference's customer.
  The walk of May: the reference's.
-/
import Derived.Test.YtigljnnjamdcnaaDoorQI
import Derived.Deep.RegionHeld3
namespace Go.Proofs.YtigljnnjamdcnaaDoor
open Go.RowKit P06

theorem all_pat {l : List Nat} {days : Int} {b : Bool} (h : l.all (fun p => decide (P02.next p days < 0)) = b) (h1 : 1 ≤ l.length) (h2 : l.length ≤ 64) : patternedB l days = b := by
  have e : fromB l.length 1 64 = true := by simp [fromB]; omega
  rw [patternedB, h, e, Bool.and_true]

set_option maxHeartbeats 1000000 in
theorem rcustomer1_any (d r s t u h days : Int) (pv : Value) (l : List Nat) (w : World) (hp : RPats w pv l) (hwf : ∀ s ∈ l, s < 18446744073709551616) :
    Calls Tryd.prog 38 #[.agg #[.int .i64 1, .int .i64 d, pv, .int .i64 r, .int .i64 s, .int .i64 t, .int .i64 u, .int .i64 h], .int .i64 days] w
      fun e w' => e = .returned (.bool (custMay ⟨1, d, l, r, s, t, u, h⟩ days)) ∧ Below w.heap.size w w' := by
  obtain ⟨A, c, rfl, hc1, hc2, hcell⟩ := hp.open_
  clear hp
  by_cases hg : 1 ≤ d ∧ d ≤ 2147483648 ∧ 1 ≤ l.length ∧ l.length ≤ 64 ∧ r = 0 ∧ s = 0 ∧ t = 0 ∧ u = 0 ∧ h = 0
  · obtain ⟨g1, g2, g3, g4, rfl, rfl, rfl, rfl, rfl⟩ := hg
    have H0 := Lib.hid (show custMay ⟨1, d, l, 0, 0, 0, 0, 0⟩ days = patternedB l days by
      have e : fromB d 1 2147483648 = true := by simp [fromB, g1, g2]
      simp [custMay, musts1, tanklessB, e])
    go_enter Tryd.func38, Tryd.ntmps38
    go_wp2_with fail
    go_loopw [5] (fun i wr => ∃ j : Nat, j ≤ l.length ∧ i = .int .i64 j ∧ Hid (l.all (fun p => decide (P02.next p days < 0)) = (l.drop j).all (fun p => decide (P02.next p days < 0))) ∧
        Blk wr w.heap.size 41 [.int .i64 1, .int .i64 d, .slice A l.length c, .int .i64 0, .int .i64 0, .int .i64 0, .int .i64 0, .int .i64 0] ∧ Below w.heap.size w wr) (fun i _ => l.length - (intOf i).toNat)
    case atStart => exact ⟨0, Nat.zero_le _, rfl, rfl, Blk.new _ _ _, (Below.refl _ _).alloc (Nat.le_refl _) _⟩
    case round =>
      obtain ⟨j, hj, rfl, H, hblk, hbel⟩ := hrel
      have hz := hblk.lt
      have b2 : wr.cell? ⟨w.heap.size, 2, none⟩ = some (.slice A l.length c) := hblk.cell 2
      by_cases hlt : j < l.length
      · obtain ⟨p, hp1⟩ := some_of_lt hlt
        obtain ⟨b, o, rfl, hb, hk⟩ := hcell j p hp1
        have hk1 := (hbel.cell (p := ⟨b, o + j, none⟩) hb).trans hk
        have hpw := hwf p (List.mem_of_getElem? hp1)
        have hd := H.out
        rw [drop_some hp1, List.all_cons] at hd
        clear H hcell hp1 hk
        by_cases hn : P02.next p days < 0
        · rw [decide_eq_true hn, Bool.true_and] at hd
          have HD := Lib.hid hd
          clear hd
          go_wp2_with (go_at_call 59; refine (next_any _ hpw _ _).mono ?_; rintro e w1 ⟨rfl, hb1⟩)
          go_roundw
          case rel => exact ⟨j + 1, by omega, by go_num, HD, hblk.below hb1 hz, hbel.trans (hb1.mono (by omega))⟩
          case measure => simp [intOf]; omega
        · rw [decide_eq_false hn, Bool.false_and] at hd
          have HD := Lib.hid hd
          clear hd
          go_wp2_with (go_at_call 59; refine (next_any _ hpw _ _).mono ?_; rintro e w1 ⟨rfl, hb1⟩)
          go_ret
          exact ⟨ret_bool (by rw [H0.out, all_pat HD.out g3 g4]), hbel.trans (hb1.mono (by omega))⟩
      · have hd := H.out
        rw [List.drop_eq_nil_of_le (by omega)] at hd
        have HD := Lib.hid hd
        clear hd H hcell
        go_wp2
        go_ret
        exact ⟨ret_bool (by rw [H0.out, all_pat HD.out g3 g4]; rfl), hbel⟩
  · have H0 := Lib.hid (show custMay ⟨1, d, l, r, s, t, u, h⟩ days = false by
      rw [Bool.eq_false_iff]
      intro hc
      apply hg
      simp [custMay, musts1, tanklessB, patternedB, fromB] at hc
      omega)
    clear hcell
    generalize hL : l.length = n at *
    go_enter Tryd.func38, Tryd.ntmps38
    go_wp2_with fail
    all_goals first
      | (go_ret; exact ⟨ret_bool H0.out.symm, (Below.refl _ _).alloc (Nat.le_refl _) _⟩)
      | (exfalso; simp only [bne_eq_false_iff_eq] at *; omega)

set_option maxHeartbeats 1000000 in
theorem rcustomer2_any (d r s t u h days : Int) (pv : Value) (l : List Nat) (w : World) (hp : RPats w pv l) :
    Calls Tryd.prog 38 #[.agg #[.int .i64 2, .int .i64 d, pv, .int .i64 r, .int .i64 s, .int .i64 t, .int .i64 u, .int .i64 h], .int .i64 days] w
      fun e w' => e = .returned (.bool (custMay ⟨2, d, l, r, s, t, u, h⟩ days)) ∧ Below w.heap.size w w' := by
  obtain ⟨A, c, rfl, hc1, hc2, -⟩ := hp.open_
  clear hp
  by_cases hg : l.length = 0 ∧ d = 0 ∧ 0 ≤ r ∧ r ≤ 2147483648 ∧ 1 ≤ s ∧ s ≤ 2147483648 ∧ 0 ≤ t ∧ t ≤ s
  · obtain ⟨g0, rfl, g1, g2, g3, g4, g5, g6⟩ := hg
    have h0 : custMay ⟨2, 0, l, r, s, t, u, h⟩ days = ((u == 1 || u == 2) && (decide (0 ≤ h) && decide (h ≤ 1024))) := by
      simp [custMay, musts2, patternlessB, fromB, ruledB, g0, g1, g2, g3, g4, g5, g6]
    generalize custMay ⟨2, 0, l, r, s, t, u, h⟩ days = B at h0
    have H0 := Lib.hid h0
    clear h0
    rw [g0]
    go_enter Tryd.func38, Tryd.ntmps38
    go_wp2
    all_goals
      go_ret
      refine ⟨ret_bool ?_, (Below.refl _ _).alloc (Nat.le_refl _) _⟩
      rw [H0.out]
      first | (simp [*]; done) | (simp [*]; omega) | (simp at *; omega)
  · have H0 := Lib.hid (show custMay ⟨2, d, l, r, s, t, u, h⟩ days = false by
      rw [Bool.eq_false_iff]
      intro hc
      apply hg
      rw [custMay, if_neg (show ¬ (2 : Int) = 1 by decide), if_pos rfl] at hc
      simp only [musts2, patternlessB, fromB, List.all_cons, List.all_nil, id, Bool.and_true, Bool.and_eq_true, decide_eq_true_eq, beq_iff_eq] at hc
      omega)
    generalize hL : l.length = n at *
    go_enter Tryd.func38, Tryd.ntmps38
    go_wp2
    all_goals first
      | (go_ret; exact ⟨ret_bool H0.out.symm, (Below.refl _ _).alloc (Nat.le_refl _) _⟩)
      | (exfalso; simp only [bne_eq_false_iff_eq] at *; omega)

set_option maxHeartbeats 400000 in
theorem rcustomer_any (x : Cust) (days : Int) (pv : Value) (w : World) (hp : RPats w pv x.pats) (hwf : ∀ s ∈ x.pats, s < 18446744073709551616) :
    Calls Tryd.prog 38 #[.agg #[.int .i64 x.kind, .int .i64 x.demand, pv, .int .i64 x.rate, .int .i64 x.size, .int .i64 x.start, .int .i64 x.rule, .int .i64 x.hold], .int .i64 days] w
      fun e w' => e = .returned (.bool (custMay x days)) ∧ Below w.heap.size w w' := by
  obtain ⟨k, d, l, r, s, t, u, h⟩ := x
  by_cases h1 : k = 1
  · subst h1; exact rcustomer1_any d r s t u h days pv l w hp hwf
  · by_cases h2 : k = 2
    · subst h2; exact rcustomer2_any d r s t u h days pv l w hp
    · have H := Lib.hid (show custMay ⟨k, d, l, r, s, t, u, h⟩ days = false by rw [custMay, if_neg h1, if_neg h2])
      go_enter Tryd.func38, Tryd.ntmps38
      go_wp2
      go_ret
      exact ⟨ret_bool H.out.symm, (Below.refl _ _).alloc (Nat.le_refl _) _⟩

end Go.Proofs.YtigljnnjamdcnaaDoor

namespace Go.Proofs.YtigljnnjamdcnaaDoor
open Go.RowKit P06

/-- What is asked ahead of the customers. -/
def headB (x : Inst) : Bool := fromB x.days 1 64 && fromB x.veh 0 2147483648 && fromB x.cap 0 2147483648 && fromB x.len 0 2147483648 && decide (x.custs.length ≤ 2000) && decide (x.dist.length = x.custs.length + 1)
theorem may_head (x : Inst) : may x = (headB x && (x.custs.all (fun c => custMay c x.days) && rowsMay (x.custs.length + 1) 0 x.dist)) := by
  rw [may, headB, distMay]
  generalize fromB x.days 1 64 = a1
  generalize fromB x.veh 0 2147483648 = a2
  generalize fromB x.cap 0 2147483648 = a3
  generalize fromB x.len 0 2147483648 = a4
  generalize decide (x.custs.length ≤ 2000) = a5
  generalize decide (x.dist.length = x.custs.length + 1) = a6
  generalize (x.custs.all fun c => custMay c x.days) = a7
  generalize rowsMay (x.custs.length + 1) 0 x.dist = a8
  revert a1 a2 a3 a4 a5 a6 a7 a8
  decide

set_option maxHeartbeats 1000000 in
theorem rmay0_any (v : Value) (x : Inst) (w : World) (hx : RInst w v x) (hn : x.custs.length ≤ 1000000) (hh : headB x = false) :
    Calls Tryd.prog 14 #[v] w fun e w' => e = .returned (.bool false) ∧ Below w.heap.size w w' := by
  obtain ⟨cv, dv, rfl, hcs, hds⟩ := hx
  obtain ⟨A, c, rfl, hc1, hc2, -⟩ := hcs.open_
  obtain ⟨A1, c1, rfl, hd1, hd2, -⟩ := hds.open_
  clear hcs hds
  obtain ⟨days, veh, cap, len, custs, dist⟩ := x
  have hg : ¬ (1 ≤ days ∧ days ≤ 64 ∧ 0 ≤ veh ∧ veh ≤ 2147483648 ∧ 0 ≤ cap ∧ cap ≤ 2147483648 ∧ 0 ≤ len ∧ len ≤ 2147483648 ∧ custs.length ≤ 2000 ∧ dist.length = custs.length + 1) := by
    rintro ⟨h1, h2, h3, h4, h5, h6, h7, h8, h9, h10⟩
    simp [headB, fromB, h1, h2, h3, h4, h5, h6, h7, h8, h9, h10] at hh
  clear hh
  simp only at hc1 hd1 hn ⊢
  generalize custs.length = nc at *
  generalize dist.length = nd at *
  go_enter Tryd.func14, Tryd.ntmps14
  go_wp2_with fail
  all_goals first
    | (go_ret; exact ⟨rfl, (Below.refl _ _).alloc (Nat.le_refl _) _⟩)
    | (exfalso; simp only [bne_eq_false_iff_eq] at *; omega)

set_option maxRecDepth 100000 in
set_option maxHeartbeats 2000000 in
theorem rmay1_any (v : Value) (x : Inst) (w : World) (hx : RInst w v x) (hwf : x.wf) (hh : headB x = true) :
    Calls Tryd.prog 14 #[v] w fun e w' => e = .returned (.bool (x.custs.all (fun c => custMay c x.days) && rowsMay (x.custs.length + 1) 0 x.dist)) ∧ Below w.heap.size w w' := by
  obtain ⟨cv, dv, rfl, hcs, hds⟩ := hx
  obtain ⟨A, c, rfl, hc1, hc2, hcell⟩ := hcs.open_
  obtain ⟨A1, c1, rfl, hd1, hd2, hdcell⟩ := hds.open_
  obtain ⟨-, -, -, -, hcw, -⟩ := hwf
  clear hcs hds
  obtain ⟨days, veh, cap, len, custs, dist⟩ := x
  simp only [headB, fromB, Bool.and_eq_true, decide_eq_true_eq] at hh
  simp only at hc1 hd1 hcell hdcell hcw ⊢
  obtain ⟨⟨⟨⟨⟨⟨g1, g2⟩, g3, g4⟩, g5, g6⟩, g7, g8⟩, g9⟩, g10⟩ := hh
  have q1 : (days < 1 : Prop) = False := by simp; omega
  have hdl : (dist.length : Int) = custs.length + 1 := by omega
  have hbl : ((dist.length : Int) != (custs.length : Int) + 1) = false := by simp [hdl]
  have G10 := Lib.hid g10
  clear g10 hdl q1
  have HC := Lib.hid hcell
  have HW := Lib.hid hcw
  have HD := Lib.hid hdcell
  clear hcell hcw hdcell
  go_enter Tryd.func14, Tryd.ntmps14
  go_wp2_with fail
  clear hbl g1 g2 g3 g4 g5 g6 g7 g8
  go_loopw [4] (fun i wr => ∃ j : Nat, j ≤ custs.length ∧ i = .int .i64 j ∧ Hid (custs.all (fun c => custMay c days) = (custs.drop j).all (fun c => custMay c days)) ∧
      Blk wr w.heap.size 25 [.int .i64 days, .int .i64 veh, .int .i64 cap, .int .i64 len, .slice A custs.length c, .slice A1 dist.length c1] ∧ Below w.heap.size w wr) (fun i _ => custs.length - (intOf i).toNat)
  case atStart => exact ⟨0, Nat.zero_le _, rfl, rfl, Blk.new _ _ [.int .i64 days, .int .i64 veh, .int .i64 cap, .int .i64 len, .slice A custs.length c, .slice A1 dist.length c1], (Below.refl _ _).alloc (Nat.le_refl _) _⟩
  case round =>
    obtain ⟨j, hj, rfl, H, hbox, hbel⟩ := hrel
    have hz := hbox.lt
    by_cases hlt : j < custs.length
    · obtain ⟨x, hx⟩ := some_of_lt hlt
      obtain ⟨b, o, rfl, hb, pv, hpv, k0, k1, k2, k3, k4, k5, k6, k7⟩ := HC.out j x hx
      have hb' := Nat.lt_of_lt_of_le hb hbel.size
      have b0 : wr.cell? ⟨w.heap.size, 0, none⟩ = some (.int .i64 days) := hbox.cell 0
      have b4 : wr.cell? ⟨w.heap.size, 4, none⟩ = some (.slice (some ⟨b, o, none⟩) custs.length c) := hbox.cell 4
      replace k0 := cell_below hbel (Nat.le_refl _) k0
      replace k1 := cell_below hbel (Nat.le_refl _) k1
      replace k2 := cell_below hbel (Nat.le_refl _) k2
      replace k3 := cell_below hbel (Nat.le_refl _) k3
      replace k4 := cell_below hbel (Nat.le_refl _) k4
      replace k5 := cell_below hbel (Nat.le_refl _) k5
      replace k6 := cell_below hbel (Nat.le_refl _) k6
      replace k7 := cell_below hbel (Nat.le_refl _) k7
      have hpv' : RPats wr pv x.pats := hpv.below hbel (Nat.le_refl _)
      have hpw := (HW.out x (List.mem_of_getElem? hx)).2.2.1
      have hd := H.out
      rw [drop_some hx, List.all_cons] at hd
      have hj0 : (0 : Int) ≤ (j : Int) := Int.natCast_nonneg _
      have hj1 : (j : Int) < (custs.length : Int) := by omega
      have HH := Lib.hid hd
      have HP := Lib.hid hpv'
      clear H hx hpv hd hpv'
      go_wp2_with fail
      go_region_held3 (fun w' => w'.cell? ⟨w.heap.size, 0, none⟩ = some (.int .i64 days) ∧ w'.cell? ⟨w.heap.size, 4, none⟩ = some (.slice (some ⟨b, o, none⟩) custs.length c) ∧
          w'.cell? ⟨b, o + j * 8, none⟩ = some (.int .i64 x.kind) ∧ w'.cell? ⟨b, o + j * 8 + 1, none⟩ = some (.int .i64 x.demand) ∧ w'.cell? ⟨b, o + j * 8 + 2, none⟩ = some pv ∧
          w'.cell? ⟨b, o + j * 8 + 3, none⟩ = some (.int .i64 x.rate) ∧ w'.cell? ⟨b, o + j * 8 + 4, none⟩ = some (.int .i64 x.size) ∧ w'.cell? ⟨b, o + j * 8 + 5, none⟩ = some (.int .i64 x.start) ∧
          w'.cell? ⟨b, o + j * 8 + 6, none⟩ = some (.int .i64 x.rule) ∧ w'.cell? ⟨b, o + j * 8 + 7, none⟩ = some (.int .i64 x.hold))
        (first | go_keep | (exact ⟨cell_below hb1 (Nat.le_refl _) b0, cell_below hb1 (Nat.le_refl _) b4, cell_below hb1 (Nat.le_refl _) k0, cell_below hb1 (Nat.le_refl _) k1, cell_below hb1 (Nat.le_refl _) k2, cell_below hb1 (Nat.le_refl _) k3, cell_below hb1 (Nat.le_refl _) k4, cell_below hb1 (Nat.le_refl _) k5, cell_below hb1 (Nat.le_refl _) k6, cell_below hb1 (Nat.le_refl _) k7⟩))
        (first | (go_at_call 38; refine (rcustomer_any x days pv _ (HP.out.below (Below.refl wr.heap.size _).drew (Nat.le_refl _)) hpw).mono ?_; rintro e w1 ⟨rfl, hb1⟩))
      have hb2 : Below wr.heap.size wr w1 := ((Below.refl wr.heap.size wr).drew).trans hb1
      rcases Bool.eq_false_or_eq_true (custMay x days) with hC | hC
      · have HD1 := Lib.hid (HH.out.trans (by rw [hC, Bool.true_and]))
        rw [hC]
        clear HH hC
        go_wp2
        go_roundw
        case rel => exact ⟨j + 1, by omega, by go_num, HD1, hbox.below hb2 hz, hbel.trans (hb2.mono (by omega))⟩
        case measure => simp [intOf]; omega
      · have HD1 := Lib.hid (HH.out.trans (by rw [hC, Bool.false_and]))
        rw [hC]
        clear HH hC
        go_wp2
        go_ret
        exact ⟨ret_bool (by rw [HD1.out]; rfl), hbel.trans (hb2.mono (by omega))⟩
    · have hd := H.out
      rw [List.drop_eq_nil_of_le (by omega)] at hd
      have H1 := Lib.hid (show (custs.all (fun c => custMay c days) && rowsMay (custs.length + 1) 0 dist) = rowsMay (custs.length + 1) 0 dist by rw [hd]; rfl)
      clear H hd
      go_wp2_with fail
      obtain ⟨wo, hwo⟩ : ∃ wo : World, wo = wr := ⟨_, rfl⟩
      subst hwo
      go_loopw [6] (fun i wr => ∃ j : Nat, j ≤ custs.length + 1 ∧ i = .int .i64 j ∧ Hid (rowsMay (custs.length + 1) 0 dist = rowsMay (custs.length + 1) j (dist.drop j)) ∧
          Blk wr w.heap.size 25 [.int .i64 days, .int .i64 veh, .int .i64 cap, .int .i64 len, .slice A custs.length c, .slice A1 dist.length c1] ∧ Below w.heap.size w wr) (fun i _ => custs.length + 1 - (intOf i).toNat)
      case atStart => exact ⟨0, Nat.zero_le _, rfl, rfl, hbox, hbel⟩
      case round =>
        clear hbox hbel
        obtain ⟨j, hj, rfl, H, hbox, hbel⟩ := hrel
        have hz := hbox.lt
        by_cases hlt : j < custs.length + 1
        · obtain ⟨r, hr⟩ := some_of_lt (l := dist) (i := j) (by have := G10.out; omega)
          obtain ⟨b, o, rfl, hb, A2, c2, hk, e1, e2, hrc⟩ := HD.out j r hr
          have hk0 := (hbel.cell (p := ⟨b, o + j, none⟩) hb).trans hk
          have b5 : wr.cell? ⟨w.heap.size, 5, none⟩ = some (.slice (some ⟨b, o, none⟩) dist.length c1) := hbox.cell 5
          have hd := H.out
          rw [drop_some hr, rowsMay, rowMay_cells] at hd
          have hjd : j < dist.length := by have := G10.out; omega
          have hji : (j : Int) < (dist.length : Int) := by omega
          have HK := Lib.hid hk
          clear H hr hk
          by_cases hrl : r.length = custs.length + 1
          · rw [decide_eq_true hrl, Bool.true_and] at hd
            have HR := Lib.hid hd
            have HRL := Lib.hid hrl
            have HRC := Lib.hid hrc
            have hbl : ((r.length : Int) != (custs.length : Int) + 1) = false := by simp [hrl]
            clear hd hrl hrc
            go_wp2_with fail
            clear hbl hk0 b5
            obtain ⟨wp, hwp⟩ : ∃ wp : World, wp = wr := ⟨_, rfl⟩
            subst hwp
            go_loop [7] (fun i => ∃ m : Nat, m ≤ custs.length + 1 ∧ i = .int .i64 m ∧ Hid (cellsMay j 0 r = cellsMay j m (r.drop m))) (fun i => custs.length + 1 - (intOf i).toNat)
            case atStart => exact ⟨0, Nat.zero_le _, rfl, rfl⟩
            case round =>
              obtain ⟨m, hm, rfl, H⟩ := hrel
              by_cases hlm : m < custs.length + 1
              · obtain ⟨z, hz0⟩ := some_of_lt (l := r) (i := m) (by have := HRL.out; omega)
                obtain ⟨b1, o1, rfl, hb1, hk1⟩ := HRC.out m z hz0
                replace hk1 := (hbel.cell (p := ⟨b1, o1 + m, none⟩) hb1).trans hk1
                have hk0 := (hbel.cell (p := ⟨b, o + j, none⟩) hb).trans HK.out
                have b5 : wp.cell? ⟨w.heap.size, 5, none⟩ = some (.slice (some ⟨b, o, none⟩) dist.length c1) := hbox.cell 5
                have hmr : (m : Int) < (r.length : Int) := by have := HRL.out; omega
                have hd := H.out
                rw [drop_some hz0] at hd
                clear H hz0
                by_cases h1 : 0 ≤ z
                · by_cases h2 : z ≤ 2147483648
                  · by_cases h3 : m = j
                    · subst h3
                      by_cases h4 : z = 0
                      · subst h4
                        have HE := Lib.hid (hd.trans (show _ = cellsMay m (m + 1) (r.drop (m + 1)) by simp [cellsMay, fromB, *]))
                        clear hd
                        go_wp2
                        go_round
                        case rel => exact ⟨m + 1, by omega, by go_num, HE⟩
                        case measure => simp [intOf]; omega
                      · have h8 : (z != 0) = true := by simp [h4]
                        have HE := Lib.hid (hd.trans (show _ = false by simp [cellsMay, fromB, *]))
                        clear hd
                        go_wp2
                        go_ret
                        exact ⟨ret_bool (by rw [H1.out, HR.out, HE.out]; rfl), hbel⟩
                    · have h5 : (j == m) = false := by simp; omega
                      have h6 : ((j : Int) == (m : Int)) = false := by simp; omega
                      have h7 : ¬ j = m := by omega
                      have HE := Lib.hid (hd.trans (show _ = cellsMay j (m + 1) (r.drop (m + 1)) by simp [cellsMay, fromB, *]))
                      clear hd
                      go_wp2
                      go_round
                      case rel => exact ⟨m + 1, by omega, by go_num, HE⟩
                      case measure => simp [intOf]; omega
                  · have HE := Lib.hid (hd.trans (show _ = false by simp [cellsMay, fromB, *]))
                    clear hd
                    go_wp2
                    go_ret
                    exact ⟨ret_bool (by rw [H1.out, HR.out, HE.out]; rfl), hbel⟩
                · have HE := Lib.hid (hd.trans (show _ = false by simp [cellsMay, fromB, *]))
                  clear hd
                  go_wp2
                  go_ret
                  exact ⟨ret_bool (by rw [H1.out, HR.out, HE.out]; rfl), hbel⟩
              · have hd := H.out
                rw [List.drop_eq_nil_of_le (by have := HRL.out; omega)] at hd
                have HE := Lib.hid hd
                clear hd H
                go_wp2
                go_roundw
                case rel => exact ⟨j + 1, by omega, by go_num, by have h1 := HR.out; rw [HE.out] at h1; exact h1, hbox, hbel⟩
                case measure => simp [intOf]; omega
          · rw [decide_eq_false hrl, Bool.false_and, Bool.false_and] at hd
            have HR := Lib.hid hd
            have hbl : ((r.length : Int) != (custs.length : Int) + 1) = true := by simp; omega
            clear hd hrl hrc
            go_wp2_with fail
            go_ret
            exact ⟨ret_bool (by rw [H1.out, HR.out]), hbel⟩
        · have hd := H.out
          rw [List.drop_eq_nil_of_le (by have := G10.out; omega)] at hd
          have HR := Lib.hid hd
          clear H hd
          go_wp2_with fail
          go_ret
          exact ⟨ret_bool (by rw [H1.out, HR.out]; rfl), hbel⟩

theorem rmay_any (v : Value) (x : Inst) (w : World) (hx : RInst w v x) (hwf : x.wf) (hn : x.custs.length ≤ 1000000) :
    Calls Tryd.prog 14 #[v] w fun e w' => e = .returned (.bool (may x)) ∧ Below w.heap.size w w' := by
  rcases Bool.eq_false_or_eq_true (headB x) with h | h
  · rw [may_head, h, Bool.true_and]
    exact rmay1_any v x w hx hwf h
  · rw [may_head, h, Bool.false_and]
    exact rmay0_any v x w hx hn h

end Go.Proofs.YtigljnnjamdcnaaDoor
