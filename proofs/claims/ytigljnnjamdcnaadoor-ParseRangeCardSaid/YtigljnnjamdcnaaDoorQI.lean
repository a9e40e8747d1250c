/-
  The walk of May: the program's.
  The walk of May: the program's, all of it.
-/
import Derived.Test.YtigljnnjamdcnaaDoorW06c
namespace Go.Proofs.YtigljnnjamdcnaaDoor
open Go.RowKit P06

set_option maxHeartbeats 400000 in
theorem customerMay_any (x : Cust) (days : Int) (pv : Value) (w : World) (hp : RPats w pv x.pats) (hwf : ∀ s ∈ x.pats, s < 18446744073709551616) :
    Calls Tryd.prog 42 #[.agg #[.int .i64 x.kind, .int .i64 x.demand, pv, .int .i64 x.rate, .int .i64 x.size, .int .i64 x.start, .int .i64 x.rule, .int .i64 x.hold, .int .i64 days]] w
      fun e w' => e = .returned (.bool (custMay x days)) ∧ Below w.heap.size w w' := by
  obtain ⟨k, d, l, r, s, t, u, h⟩ := x
  by_cases h1 : k = 1
  · subst h1
    exact (custMay1_any d r s t u h days pv l w hp hwf).mono fun e w' ⟨he, hb⟩ => ⟨he, hb⟩
  · by_cases h2 : k = 2
    · subst h2
      exact (custMay2_any d r s t u h days pv l w hp hwf).mono fun e w' ⟨he, hb⟩ => ⟨he, hb⟩
    · have H := Lib.hid (show custMay ⟨k, d, l, r, s, t, u, h⟩ days = false by rw [custMay, if_neg h1, if_neg h2])
      go_enter Tryd.func42, Tryd.ntmps42
      go_wp2_with fail
      refine (musts0_any k h1 h2 _).mono ?_
      rintro e w1 ⟨rfl, rfl⟩
      go_wp2_with fail
      go_loop [12] (fun i => i = .int .i64 0) (fun _ => 0)
      case atStart => exact rfl
      case round =>
        subst hrel
        go_wp2
        go_ret
        exact ⟨ret_bool H.out.symm, (Below.refl _ _).alloc (Nat.le_refl _) _⟩

/-- The rows' slice and, under its condition, each row. -/
theorem RRows.open_ {w : World} {v : Value} {L : List (List Int)} (h : RRows w v L) : ∃ A c, v = .slice A L.length c ∧ L.length ≤ c ∧ c ≤ 9223372036854775807 ∧
    ∀ i r, L[i]? = some r → ∃ b o, A = some ⟨b, o, none⟩ ∧ b < w.heap.size ∧ ∃ A1 c1, w.cell? ⟨b, o + i, none⟩ = some (.slice A1 r.length c1) ∧ r.length ≤ c1 ∧ c1 ≤ 9223372036854775807 ∧
      ∀ j z, r[j]? = some z → ∃ b1 o1, A1 = some ⟨b1, o1, none⟩ ∧ b1 < w.heap.size ∧ w.cell? ⟨b1, o1 + j, none⟩ = some (.int .i64 z) := by
  obtain ⟨A, c, hv, h1, h2, h3⟩ := h
  refine ⟨A, c, hv, h1, by simpa [maxLen] using h2, fun i r hr => ?_⟩
  obtain ⟨b, o, hA, hb, hc⟩ := h3 (by have := lt_of_some hr; omega)
  obtain ⟨rv, hrv, hcell⟩ := hc i r hr
  obtain ⟨A1, c1, rfl, g1, g2, g3⟩ := hrv.open_
  exact ⟨b, o, hA, hb, A1, c1, hcell, g1, g2, g3⟩

set_option maxHeartbeats 400000 in
theorem distMay_any (dv : Value) (D : List (List Int)) (n : Nat) (hn : n ≤ 2000000) (w : World) (hd : RRows w dv D) :
    Calls Tryd.prog 43 #[dv, .int .i64 n] w fun e w' => e = .returned (.bool (distMay D n)) ∧ w = w' := by
  obtain ⟨A, c, rfl, hc1, hc2, hcell⟩ := hd.open_
  clear hd
  by_cases hl : D.length = n
  · have H0 := Lib.hid (show distMay D n = rowsMay n 0 D by rw [distMay, decide_eq_true hl, Bool.true_and])
    subst hl
    go_enter Tryd.func43, Tryd.ntmps43
    go_wp2_with fail
    go_loop [15] (fun i => ∃ j : Nat, j ≤ D.length ∧ i = .int .i64 j ∧ Hid (rowsMay D.length 0 D = rowsMay D.length j (D.drop j))) (fun i => D.length - (intOf i).toNat)
    case atStart => exact ⟨0, Nat.zero_le _, rfl, rfl⟩
    case round =>
      obtain ⟨j, hj, rfl, H⟩ := hrel
      by_cases hlt : j < D.length
      · obtain ⟨r, hr⟩ := some_of_lt hlt
        obtain ⟨b, o, rfl, hb, A1, c1, hk, g1, g2, g3⟩ := hcell j r hr
        have hd := H.out
        rw [drop_some hr, rowsMay] at hd
        clear H hcell hr
        by_cases hrl : r.length = D.length
        · obtain ⟨z, hz⟩ := some_of_lt (l := r) (i := j) (by omega)
          obtain ⟨b1, o1, rfl, hb1, hk1⟩ := g3 j z hz
          by_cases hz0 : z = 0
          · have hd2 : rowsMay D.length 0 D = (r.all (fun d => fromB d 0 2147483648) && rowsMay D.length (j + 1) (D.drop (j + 1))) := by
              rw [hd, rowMay, decide_eq_true hrl, hz]; simp [hz0]
            have HD := Lib.hid hd2
            have HRL := Lib.hid hrl
            rw [hrl] at hk
            have G3 := Lib.hid g3
            subst hz0
            clear hd hd2 hrl hz g3
            go_wp2_with fail
            go_loop [33] (fun i => ∃ m : Nat, m ≤ D.length ∧ i = .int .i64 m ∧ Hid (r.all (fun d => fromB d 0 2147483648) = (r.drop m).all (fun d => fromB d 0 2147483648))) (fun i => D.length - (intOf i).toNat)
            case atStart => exact ⟨0, Nat.zero_le _, rfl, rfl⟩
            case round =>
              obtain ⟨m, hm, rfl, H⟩ := hrel
              by_cases hlm : m < D.length
              · obtain ⟨y, hy⟩ := some_of_lt (l := r) (i := m) (by have := HRL.out; omega)
                obtain ⟨b2, o2, he, hb2, hk2⟩ := G3.out m y hy
                injection he with he
                injection he with he1 he2
                subst he1; subst he2
                have hd := H.out
                rw [drop_some hy, List.all_cons] at hd
                clear H hy
                rcases Bool.eq_false_or_eq_true (fromB y 0 2147483648) with hB | hB
                · rw [hB, Bool.true_and] at hd
                  have HE := Lib.hid hd
                  clear hd
                  go_wp2_with (go_at_call 41; refine (from_any _ _ _ _).mono ?_; rintro e w' ⟨rfl, rfl⟩; try rw [hB])
                  go_round
                  case rel => exact ⟨m + 1, by omega, by go_num, HE⟩
                  case measure => simp [intOf]; omega
                · rw [hB, Bool.false_and] at hd
                  have HE := Lib.hid hd
                  clear hd
                  go_wp2_with (go_at_call 41; refine (from_any _ _ _ _).mono ?_; rintro e w' ⟨rfl, rfl⟩; try rw [hB])
                  go_ret
                  exact ⟨ret_bool (by rw [H0.out, HD.out, HE.out]; rfl), rfl⟩
              · have hd := H.out
                rw [List.drop_eq_nil_of_le (by have := HRL.out; omega)] at hd
                have HE := Lib.hid hd
                clear hd H
                go_wp2
                go_round
                case rel => exact ⟨j + 1, by omega, by go_num, by have := HD.out; rw [HE.out] at this; exact this⟩
                case measure => simp [intOf]; omega
          · have hd2 : rowsMay D.length 0 D = false := by
              rw [hd, rowMay, decide_eq_true hrl, hz]; simp [hz0]
            have HD := Lib.hid hd2
            have HRL := Lib.hid hrl
            rw [hrl] at hk
            clear hd hd2 hrl hz g3
            go_wp2_with fail
            go_ret
            exact ⟨ret_bool (by rw [H0.out, HD.out]), rfl⟩
        · have hd2 : rowsMay D.length 0 D = false := by
            rw [hd, rowMay, decide_eq_false hrl]; simp
          have HD := Lib.hid hd2
          clear hd hd2 g3
          go_wp2_with fail
          go_ret
          exact ⟨ret_bool (by rw [H0.out, HD.out]), rfl⟩
      · have hd := H.out
        rw [List.drop_eq_nil_of_le (by omega)] at hd
        have HD := Lib.hid hd
        clear hd H hcell
        go_wp2_with fail
        go_ret
        exact ⟨ret_bool (by rw [H0.out, HD.out]; rfl), rfl⟩
  · have H := Lib.hid (show distMay D n = false by rw [distMay, decide_eq_false hl, Bool.false_and])
    go_enter Tryd.func43, Tryd.ntmps43
    go_wp2
    go_ret
    exact ⟨ret_bool H.out.symm, rfl⟩

end Go.Proofs.YtigljnnjamdcnaaDoor

namespace Go.Proofs.YtigljnnjamdcnaaDoor
open Go.RowKit P06

theorem RCusts.open_ {w : World} {v : Value} {L : List Cust} (h : RCusts w v L) : ∃ A c, v = .slice A L.length c ∧ L.length ≤ c ∧ c ≤ 9223372036854775807 ∧
    ∀ i x, L[i]? = some x → ∃ b o, A = some ⟨b, o, none⟩ ∧ b < w.heap.size ∧ ∃ pv, RPats w pv x.pats ∧
      w.cell? ⟨b, o + i * 8, none⟩ = some (.int .i64 x.kind) ∧ w.cell? ⟨b, o + i * 8 + 1, none⟩ = some (.int .i64 x.demand) ∧ w.cell? ⟨b, o + i * 8 + 2, none⟩ = some pv ∧
      w.cell? ⟨b, o + i * 8 + 3, none⟩ = some (.int .i64 x.rate) ∧ w.cell? ⟨b, o + i * 8 + 4, none⟩ = some (.int .i64 x.size) ∧ w.cell? ⟨b, o + i * 8 + 5, none⟩ = some (.int .i64 x.start) ∧
      w.cell? ⟨b, o + i * 8 + 6, none⟩ = some (.int .i64 x.rule) ∧ w.cell? ⟨b, o + i * 8 + 7, none⟩ = some (.int .i64 x.hold) := by
  obtain ⟨A, c, hv, h1, h2, h3⟩ := h
  refine ⟨A, c, hv, h1, by simpa [maxLen] using h2, fun i x hx => ?_⟩
  obtain ⟨b, o, hA, hb, hc⟩ := h3 (by have := lt_of_some hx; omega)
  exact ⟨b, o, hA, hb, hc i x hx⟩

set_option maxHeartbeats 1000000 in
theorem may_any (v : Value) (x : Inst) (w : World) (hx : RInst w v x) (hwf : x.wf) (hn : x.custs.length ≤ 1000000):
    Calls Tryd.prog 18 #[v] w fun e w' => e = .returned (.int .i64 (mayE x)) ∧ Below w.heap.size w w' := by
  obtain ⟨cv, dv, rfl, hcs, hds⟩ := hx
  obtain ⟨A, c, rfl, hc1, hc2, hcell⟩ := hcs.open_
  obtain ⟨A1, c1, rfl, hd1, hd2, -⟩ := hds.open_
  obtain ⟨-, -, -, -, hcw, -⟩ := hwf
  have HDS := Lib.hid hds
  clear hcs hds
  rcases Bool.eq_false_or_eq_true (fromB x.days 1 64) with hB | hB
  rotate_left
  · have H := Lib.hid (show may x = false by rw [may, hB]; simp)
    clear hcell hcw HDS
    obtain ⟨days, veh, cap, len, custs, dist⟩ := x
    go_enter Tryd.func18, Tryd.ntmps18
    go_wp2_with (go_at_call 41; refine (from_any _ _ _ _).mono ?_; rintro e w' ⟨rfl, rfl⟩; try rw [hB])
    go_ret
    exact ⟨ret_int (mayE_f H.out).symm, (Below.refl _ _).alloc (Nat.le_refl _) _⟩
  by_cases hL : x.custs.length ≤ 2000
  rotate_left
  · have H := Lib.hid (show may x = false by rw [may, decide_eq_false hL]; simp)
    clear hcell hcw HDS
    obtain ⟨days, veh, cap, len, custs, dist⟩ := x
    go_enter Tryd.func18, Tryd.ntmps18
    go_wp2_with (go_at_call 41; refine (from_any _ _ _ _).mono ?_; rintro e w' ⟨rfl, rfl⟩; try rw [hB])
    go_ret
    exact ⟨ret_int (mayE_f H.out).symm, (Below.refl _ _).alloc (Nat.le_refl _) _⟩
  have H0 := Lib.hid (show may x = ([fromB x.veh 0 2147483648, fromB x.cap 0 2147483648, fromB x.len 0 2147483648].all id && (x.custs.all (fun c => custMay c x.days) && distMay x.dist (x.custs.length + 1))) by
    rw [may, hB, decide_eq_true hL]; simp [Bool.and_assoc])
  have hdl : decide ((2000 : Int) < (x.custs.length : Int)) = false := by simp; omega
  clear hL
  obtain ⟨days, veh, cap, len, custs, dist⟩ := x
  go_enter Tryd.func18, Tryd.ntmps18
  go_wp2_with (go_at_call 41; refine (from_any _ _ _ _).mono ?_; rintro e w' ⟨rfl, rfl⟩; try rw [hB])
  clear hdl
  go_loopw [25] (fun i wr => ∃ j : Nat, j ≤ 3 ∧ i = .int .i64 j ∧ Hid ([fromB veh 0 2147483648, fromB cap 0 2147483648, fromB len 0 2147483648].all id = ([fromB veh 0 2147483648, fromB cap 0 2147483648, fromB len 0 2147483648].drop j).all id) ∧
      Blk wr w.heap.size 25 [.int .i64 days, .int .i64 veh, .int .i64 cap, .int .i64 len, .slice A custs.length c, .slice A1 dist.length c1] ∧ Blk wr (w.heap.size + 1) 3 [.int .i64 veh, .int .i64 cap, .int .i64 len] ∧ Below w.heap.size w wr) (fun i _ => 3 - (intOf i).toNat)
  case atStart => exact ⟨0, Nat.zero_le _, rfl, rfl, (Blk.new w _ [.int .i64 days, .int .i64 veh, .int .i64 cap, .int .i64 len, .slice A custs.length c, .slice A1 dist.length c1]).alloc _, by simpa using Blk.new (w.alloc _) _ [.int .i64 veh, .int .i64 cap, .int .i64 len], ((Below.refl _ _).alloc (Nat.le_refl _) _).alloc (by simp) _⟩
  case round =>
    obtain ⟨j, hj, rfl, H, hbox, hnum, hbel⟩ := hrel
    have hj3 : j = 0 ∨ j = 1 ∨ j = 2 ∨ j = 3 := by omega
    rcases hj3 with rfl | rfl | rfl | rfl
    · have f0 : wr.cell? ⟨w.heap.size + 1, 0, none⟩ = some (.int .i64 veh) := hnum.cell 0
      have hd := H.out
      clear H hcell hcw
      rcases Bool.eq_false_or_eq_true (fromB veh 0 2147483648) with hC | hC
      · have HD := Lib.hid (show [fromB veh 0 2147483648, fromB cap 0 2147483648, fromB len 0 2147483648].all id = ([fromB veh 0 2147483648, fromB cap 0 2147483648, fromB len 0 2147483648].drop 1).all id by rw [hd]; simp only [List.drop_succ_cons, List.drop_zero, List.all_cons, id]; rw [hC, Bool.true_and])
        clear hd
        go_wp2_with (go_at_call 41; refine (from_any _ _ _ _).mono ?_; rintro e w' ⟨rfl, rfl⟩; try rw [hC])
        go_roundw
        case rel => exact ⟨1, by omega, by go_num, HD, hbox, hnum, hbel⟩
        case measure => simp [intOf]
      · have HD := Lib.hid (show [fromB veh 0 2147483648, fromB cap 0 2147483648, fromB len 0 2147483648].all id = false by rw [hd]; simp only [List.drop_zero, List.all_cons, id]; rw [hC, Bool.false_and])
        clear hd
        go_wp2_with (go_at_call 41; refine (from_any _ _ _ _).mono ?_; rintro e w' ⟨rfl, rfl⟩; try rw [hC])
        go_ret
        exact ⟨ret_int (mayE_f (by rw [H0.out, HD.out]; rfl)).symm, hbel⟩
    · have f0 : wr.cell? ⟨w.heap.size + 1, 1, none⟩ = some (.int .i64 cap) := hnum.cell 1
      have hd := H.out
      clear H hcell hcw
      rcases Bool.eq_false_or_eq_true (fromB cap 0 2147483648) with hC | hC
      · have HD := Lib.hid (show [fromB veh 0 2147483648, fromB cap 0 2147483648, fromB len 0 2147483648].all id = ([fromB veh 0 2147483648, fromB cap 0 2147483648, fromB len 0 2147483648].drop 2).all id by rw [hd]; simp only [List.drop_succ_cons, List.drop_zero, List.all_cons, id]; rw [hC, Bool.true_and])
        clear hd
        go_wp2_with (go_at_call 41; refine (from_any _ _ _ _).mono ?_; rintro e w' ⟨rfl, rfl⟩; try rw [hC])
        go_roundw
        case rel => exact ⟨2, by omega, by go_num, HD, hbox, hnum, hbel⟩
        case measure => simp [intOf]
      · have HD := Lib.hid (show [fromB veh 0 2147483648, fromB cap 0 2147483648, fromB len 0 2147483648].all id = false by rw [hd]; simp only [List.drop_succ_cons, List.drop_zero, List.all_cons, id]; rw [hC, Bool.false_and])
        clear hd
        go_wp2_with (go_at_call 41; refine (from_any _ _ _ _).mono ?_; rintro e w' ⟨rfl, rfl⟩; try rw [hC])
        go_ret
        exact ⟨ret_int (mayE_f (by rw [H0.out, HD.out]; rfl)).symm, hbel⟩
    · have f0 : wr.cell? ⟨w.heap.size + 1, 2, none⟩ = some (.int .i64 len) := hnum.cell 2
      have hd := H.out
      clear H hcell hcw
      rcases Bool.eq_false_or_eq_true (fromB len 0 2147483648) with hC | hC
      · have HD := Lib.hid (show [fromB veh 0 2147483648, fromB cap 0 2147483648, fromB len 0 2147483648].all id = ([fromB veh 0 2147483648, fromB cap 0 2147483648, fromB len 0 2147483648].drop 3).all id by rw [hd]; simp only [List.drop_succ_cons, List.drop_zero, List.all_cons, id]; rw [hC, Bool.true_and])
        clear hd
        go_wp2_with (go_at_call 41; refine (from_any _ _ _ _).mono ?_; rintro e w' ⟨rfl, rfl⟩; try rw [hC])
        go_roundw
        case rel => exact ⟨3, by omega, by go_num, HD, hbox, hnum, hbel⟩
        case measure => simp [intOf]
      · have HD := Lib.hid (show [fromB veh 0 2147483648, fromB cap 0 2147483648, fromB len 0 2147483648].all id = false by rw [hd]; simp only [List.drop_succ_cons, List.drop_zero, List.all_cons, id]; rw [hC, Bool.false_and])
        clear hd
        go_wp2_with (go_at_call 41; refine (from_any _ _ _ _).mono ?_; rintro e w' ⟨rfl, rfl⟩; try rw [hC])
        go_ret
        exact ⟨ret_int (mayE_f (by rw [H0.out, HD.out]; rfl)).symm, hbel⟩
    · have H1 := Lib.hid (show may ⟨days, veh, cap, len, custs, dist⟩ = (custs.all (fun c => custMay c days) && distMay dist (custs.length + 1)) by rw [H0.out, H.out]; rfl)
      clear H H0 hnum
      have b4 : wr.cell? ⟨w.heap.size, 4, none⟩ = some (.slice A custs.length c) := hbox.cell 4
      rw [show ((3 : Nat) : Int) = 3 from rfl]
      go_wp2_with fail
      clear b4
      obtain ⟨wo, hwo⟩ : ∃ wo : World, wo = wr := ⟨_, rfl⟩
      subst hwo
      go_loopw [36] (fun i wr => ∃ j : Nat, j ≤ custs.length ∧ i = .int .i64 j ∧ Hid (custs.all (fun c => custMay c days) = (custs.drop j).all (fun c => custMay c days)) ∧
          Blk wr w.heap.size 25 [.int .i64 days, .int .i64 veh, .int .i64 cap, .int .i64 len, .slice A custs.length c, .slice A1 dist.length c1] ∧ Below w.heap.size w wr) (fun i _ => custs.length - (intOf i).toNat)
      case atStart => exact ⟨0, Nat.zero_le _, rfl, rfl, hbox, hbel⟩
      case round =>
        clear hbox hbel
        obtain ⟨j, hj, rfl, H, hbox, hbel⟩ := hrel
        have hz := hbox.lt
        by_cases hlt : j < custs.length
        · obtain ⟨x, hx⟩ := some_of_lt hlt
          obtain ⟨b, o, rfl, hb, pv, hpv, k0, k1, k2, k3, k4, k5, k6, k7⟩ := hcell j x hx
          have hb' := Nat.lt_of_lt_of_le hb hbel.size
          have hb0 : wr.cell? ⟨w.heap.size, 0, none⟩ = some (.int .i64 days) := hbox.cell 0
          replace k0 := cell_below hbel (Nat.le_refl _) k0
          replace k1 := cell_below hbel (Nat.le_refl _) k1
          replace k2 := cell_below hbel (Nat.le_refl _) k2
          replace k3 := cell_below hbel (Nat.le_refl _) k3
          replace k4 := cell_below hbel (Nat.le_refl _) k4
          replace k5 := cell_below hbel (Nat.le_refl _) k5
          replace k6 := cell_below hbel (Nat.le_refl _) k6
          replace k7 := cell_below hbel (Nat.le_refl _) k7
          have hpv' : RPats wr pv x.pats := hpv.below hbel (Nat.le_refl _)
          obtain ⟨Ap, cp, rfl, hp1, hp2, -⟩ := hpv'.open_
          have hpw := (hcw x (List.mem_of_getElem? hx)).2.2.1
          have hd := H.out
          rw [drop_some hx, List.all_cons] at hd
          clear H hcell hcw hx
          clear hpv
          have hal : ∀ oo, Below wr.heap.size wr (wr.alloc oo) := fun oo => (Below.refl _ _).alloc (Nat.le_refl _) oo
          rcases Bool.eq_false_or_eq_true (custMay x days) with hC | hC
          · rw [hC, Bool.true_and] at hd
            have HD := Lib.hid hd
            have HC := Lib.hid hC
            have HAL := Lib.hid hal
            have HPV := Lib.hid hpv'
            clear hd hC hal hpv'
            go_wp2_with fail
            refine (customerMay_any x days _ _ (HPV.out.below (HAL.out _) (Nat.le_refl _)) hpw).mono ?_
            rintro e w1 ⟨rfl, hb1⟩
            rw [HC.out]
            have hb2 := (HAL.out _).trans (hb1.mono (by simp))
            go_wp2
            go_roundw
            case rel => exact ⟨j + 1, by omega, by go_num, HD, hbox.below hb2 hz, hbel.trans (hb2.mono (by omega))⟩
            case measure => simp [intOf]; omega
          · rw [hC, Bool.false_and] at hd
            have HD := Lib.hid hd
            have HC := Lib.hid hC
            have HAL := Lib.hid hal
            have HPV := Lib.hid hpv'
            clear hd hC hal hpv'
            go_wp2_with fail
            refine (customerMay_any x days _ _ (HPV.out.below (HAL.out _) (Nat.le_refl _)) hpw).mono ?_
            rintro e w1 ⟨rfl, hb1⟩
            rw [HC.out]
            have hb2 := (HAL.out _).trans (hb1.mono (by simp))
            go_wp2
            go_ret
            exact ⟨ret_int (mayE_f (by rw [H1.out, HD.out]; rfl)).symm, hbel.trans (hb2.mono (by omega))⟩
        · have hd := H.out
          rw [List.drop_eq_nil_of_le (by omega)] at hd
          have HD := Lib.hid (show may ⟨days, veh, cap, len, custs, dist⟩ = distMay dist (custs.length + 1) by rw [H1.out, hd]; rfl)
          have hdd : RRows wr (.slice A1 dist.length c1) dist := HDS.out.below hbel (Nat.le_refl _)
          have HDD := Lib.hid hdd
          clear hd H hcell hcw hdd
          have b4 : wr.cell? ⟨w.heap.size, 4, none⟩ = some (.slice A custs.length c) := hbox.cell 4
          have b5 : wr.cell? ⟨w.heap.size, 5, none⟩ = some (.slice A1 dist.length c1) := hbox.cell 5
          rcases Bool.eq_false_or_eq_true (distMay dist (custs.length + 1)) with hC | hC
          · have HC := Lib.hid hC
            clear hC
            go_wp2_with fail
            refine (distMay_any _ dist (custs.length + 1) (by omega) _ HDD.out).mono ?_
            rintro e w1 ⟨rfl, rfl⟩
            rw [HC.out]
            go_wp2
            go_ret
            exact ⟨ret_int (mayE_t (by rw [HD.out, HC.out])).symm, hbel⟩
          · have HC := Lib.hid hC
            clear hC
            go_wp2_with fail
            refine (distMay_any _ dist (custs.length + 1) (by omega) _ HDD.out).mono ?_
            rintro e w1 ⟨rfl, rfl⟩
            rw [HC.out]
            go_wp2
            go_ret
            exact ⟨ret_int (mayE_f (by rw [HD.out, HC.out])).symm, hbel⟩

end Go.Proofs.YtigljnnjamdcnaaDoor
