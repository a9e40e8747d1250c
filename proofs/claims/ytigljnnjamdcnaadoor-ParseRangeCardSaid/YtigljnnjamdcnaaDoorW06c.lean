/- The walk of what a customer must be: all of it. -/
import Derived.Test.YtigljnnjamdcnaaDoorQH
namespace Go.Proofs.YtigljnnjamdcnaaDoor
open Go.RowKit P06

set_option maxHeartbeats 1000000 in
theorem custMay1_any (d r s t u h days : Int) (pv : Value) (l : List Nat) (w : World) (hp : RPats w pv l) (hwf : ∀ s ∈ l, s < 18446744073709551616) :
    Calls Tryd.prog 42 #[.agg #[.int .i64 1, .int .i64 d, pv, .int .i64 r, .int .i64 s, .int .i64 t, .int .i64 u, .int .i64 h, .int .i64 days]] w fun e w' => e = .returned (.bool ([fromB d 1 2147483648, patternedB l days, (r == 0 && s == 0 && t == 0 && u == 0 && h == 0)].all id)) ∧ Below w.heap.size w w' := by
  go_enter Tryd.func42, Tryd.ntmps42
  go_wp2_with fail
  refine (musts1_any _).mono ?_
  rintro e w1 ⟨rfl, hm, hb1⟩
  have hbox : Blk w1 w.heap.size 78 [.int .i64 1, .int .i64 d, pv, .int .i64 r, .int .i64 s, .int .i64 t, .int .i64 u, .int .i64 h, .int .i64 days] := (Blk.new w _ [.int .i64 1, .int .i64 d, pv, .int .i64 r, .int .i64 s, .int .i64 t, .int .i64 u, .int .i64 h, .int .i64 days]).below hb1 (by simp)
  have hm1 : Blk w1 (w.heap.size + 1) 76 [.func (.func 71) #[] #[], .func (.func 72) #[] #[], .func (.func 73) #[] #[]] := by simpa using hm
  have hb2 : Below w.heap.size w w1 := ((Below.refl _ _).alloc (Nat.le_refl _) _).trans (hb1.mono (by simp))
  clear hm hb1
  go_wp2_with fail
  go_loopw [12] (fun i wr => ∃ j : Nat, j ≤ 3 ∧ i = .int .i64 j ∧ Hid ([fromB d 1 2147483648, patternedB l days, (r == 0 && s == 0 && t == 0 && u == 0 && h == 0)].all id = ([fromB d 1 2147483648, patternedB l days, (r == 0 && s == 0 && t == 0 && u == 0 && h == 0)].drop j).all id) ∧ Blk wr w.heap.size 78 [.int .i64 1, .int .i64 d, pv, .int .i64 r, .int .i64 s, .int .i64 t, .int .i64 u, .int .i64 h, .int .i64 days] ∧
      Blk wr (w.heap.size + 1) 76 [.func (.func 71) #[] #[], .func (.func 72) #[] #[], .func (.func 73) #[] #[]] ∧ Below w.heap.size w wr) (fun i _ => 3 - (intOf i).toNat)
  case atStart => exact ⟨0, Nat.zero_le _, rfl, rfl, hbox, hm1, hb2⟩
  case round =>
    clear hbox hm1 hb2
    obtain ⟨j, hj, rfl, H, hbox, hm, hbel⟩ := hrel
    have hz := hbox.lt
    have hz1 := hm.lt
    have b0 : wr.cell? ⟨w.heap.size, 0, none⟩ = some (.int .i64 1) := hbox.cell 0
    have b1 : wr.cell? ⟨w.heap.size, 1, none⟩ = some (.int .i64 d) := hbox.cell 1
    have b2 : wr.cell? ⟨w.heap.size, 2, none⟩ = some pv := hbox.cell 2
    have b3 : wr.cell? ⟨w.heap.size, 3, none⟩ = some (.int .i64 r) := hbox.cell 3
    have b4 : wr.cell? ⟨w.heap.size, 4, none⟩ = some (.int .i64 s) := hbox.cell 4
    have b5 : wr.cell? ⟨w.heap.size, 5, none⟩ = some (.int .i64 t) := hbox.cell 5
    have b6 : wr.cell? ⟨w.heap.size, 6, none⟩ = some (.int .i64 u) := hbox.cell 6
    have b7 : wr.cell? ⟨w.heap.size, 7, none⟩ = some (.int .i64 h) := hbox.cell 7
    have b8 : wr.cell? ⟨w.heap.size, 8, none⟩ = some (.int .i64 days) := hbox.cell 8
    have hj3 : j = 0 ∨ j = 1 ∨ j = 2 ∨ j = 3 := by omega
    rcases hj3 with rfl | rfl | rfl | rfl
    · have f0 : wr.cell? ⟨w.heap.size + 1, 0, none⟩ = some (.func (.func 71) #[] #[]) := hm.cell 0
      have hd := H.out
      have hpr : RPats wr pv l := hp.below hbel (Nat.le_refl _)
      clear H
      rcases Bool.eq_false_or_eq_true (fromB d 1 2147483648) with hB | hB
      · have HD := Lib.hid (show [fromB d 1 2147483648, patternedB l days, (r == 0 && s == 0 && t == 0 && u == 0 && h == 0)].all id = ([fromB d 1 2147483648, patternedB l days, (r == 0 && s == 0 && t == 0 && u == 0 && h == 0)].drop 1).all id by rw [hd]; simp only [List.drop_succ_cons, List.drop_zero, List.all_cons, id]; rw [hB, Bool.true_and])
        clear hd
        go_wp2_with (go_at_call 71; refine (demands_any _ _ _ _ _ _ _ _ _ _).mono ?_; rintro e w1 ⟨rfl, hb1⟩; try rw [hB])
        go_roundw
        case rel => exact ⟨1, by omega, by go_num, HD, hbox.below hb1 hz, hm.below hb1 hz1, hbel.trans (hb1.mono (by omega))⟩
        case measure => simp [intOf]
      · have HD := Lib.hid (show [fromB d 1 2147483648, patternedB l days, (r == 0 && s == 0 && t == 0 && u == 0 && h == 0)].all id = false by rw [hd]; simp only [List.drop_zero, List.all_cons, id]; rw [hB, Bool.false_and])
        clear hd
        go_wp2_with (go_at_call 71; refine (demands_any _ _ _ _ _ _ _ _ _ _).mono ?_; rintro e w1 ⟨rfl, hb1⟩; try rw [hB])
        go_ret
        exact ⟨ret_bool HD.out.symm, hbel.trans (hb1.mono (by omega))⟩
    · have f0 : wr.cell? ⟨w.heap.size + 1, 1, none⟩ = some (.func (.func 72) #[] #[]) := hm.cell 1
      have hd := H.out
      have hpr : RPats wr pv l := hp.below hbel (Nat.le_refl _)
      clear H
      rcases Bool.eq_false_or_eq_true (patternedB l days) with hB | hB
      · have HD := Lib.hid (show [fromB d 1 2147483648, patternedB l days, (r == 0 && s == 0 && t == 0 && u == 0 && h == 0)].all id = ([fromB d 1 2147483648, patternedB l days, (r == 0 && s == 0 && t == 0 && u == 0 && h == 0)].drop 2).all id by rw [hd]; simp only [List.drop_succ_cons, List.drop_zero, List.all_cons, id]; rw [hB, Bool.true_and])
        clear hd
        go_wp2_with (go_at_call 72; refine (patterned_any _ _ _ _ _ _ _ _ _ l _ hpr hwf).mono ?_; rintro e w1 ⟨rfl, hb1⟩; try rw [hB])
        go_roundw
        case rel => exact ⟨2, by omega, by go_num, HD, hbox.below hb1 hz, hm.below hb1 hz1, hbel.trans (hb1.mono (by omega))⟩
        case measure => simp [intOf]
      · have HD := Lib.hid (show [fromB d 1 2147483648, patternedB l days, (r == 0 && s == 0 && t == 0 && u == 0 && h == 0)].all id = false by rw [hd]; simp only [List.drop_succ_cons, List.drop_zero, List.all_cons, id]; rw [hB, Bool.false_and])
        clear hd
        go_wp2_with (go_at_call 72; refine (patterned_any _ _ _ _ _ _ _ _ _ l _ hpr hwf).mono ?_; rintro e w1 ⟨rfl, hb1⟩; try rw [hB])
        go_ret
        exact ⟨ret_bool HD.out.symm, hbel.trans (hb1.mono (by omega))⟩
    · have f0 : wr.cell? ⟨w.heap.size + 1, 2, none⟩ = some (.func (.func 73) #[] #[]) := hm.cell 2
      have hd := H.out
      have hpr : RPats wr pv l := hp.below hbel (Nat.le_refl _)
      clear H
      rcases Bool.eq_false_or_eq_true (r == 0 && s == 0 && t == 0 && u == 0 && h == 0) with hB | hB
      · have HD := Lib.hid (show [fromB d 1 2147483648, patternedB l days, (r == 0 && s == 0 && t == 0 && u == 0 && h == 0)].all id = ([fromB d 1 2147483648, patternedB l days, (r == 0 && s == 0 && t == 0 && u == 0 && h == 0)].drop 3).all id by rw [hd]; simp only [List.drop_succ_cons, List.drop_zero, List.all_cons, id]; rw [hB, Bool.true_and])
        clear hd
        go_wp2_with (go_at_call 73; refine (tankless_any _ _ _ _ _ _ _ _ _ _).mono ?_; rintro e w1 ⟨rfl, hb1⟩; try rw [hB])
        go_roundw
        case rel => exact ⟨3, by omega, by go_num, HD, hbox.below hb1 hz, hm.below hb1 hz1, hbel.trans (hb1.mono (by omega))⟩
        case measure => simp [intOf]
      · have HD := Lib.hid (show [fromB d 1 2147483648, patternedB l days, (r == 0 && s == 0 && t == 0 && u == 0 && h == 0)].all id = false by rw [hd]; simp only [List.drop_succ_cons, List.drop_zero, List.all_cons, id]; rw [hB, Bool.false_and])
        clear hd
        go_wp2_with (go_at_call 73; refine (tankless_any _ _ _ _ _ _ _ _ _ _).mono ?_; rintro e w1 ⟨rfl, hb1⟩; try rw [hB])
        go_ret
        exact ⟨ret_bool HD.out.symm, hbel.trans (hb1.mono (by omega))⟩
    · have HD := Lib.hid (show [fromB d 1 2147483648, patternedB l days, (r == 0 && s == 0 && t == 0 && u == 0 && h == 0)].all id = true by rw [H.out]; rfl)
      clear H
      go_wp2
      go_ret
      exact ⟨ret_bool HD.out.symm, hbel⟩

set_option maxHeartbeats 1000000 in
theorem custMay2_any (d r s t u h days : Int) (pv : Value) (l : List Nat) (w : World) (hp : RPats w pv l) (_hwf : ∀ s ∈ l, s < 18446744073709551616) :
    Calls Tryd.prog 42 #[.agg #[.int .i64 2, .int .i64 d, pv, .int .i64 r, .int .i64 s, .int .i64 t, .int .i64 u, .int .i64 h, .int .i64 days]] w fun e w' => e = .returned (.bool ([fromB r 0 2147483648, fromB s 1 2147483648, fromB t 0 s, (u == 1 || u == 2), fromB h 0 1024, (decide (l.length = 0) && d == 0)].all id)) ∧ Below w.heap.size w w' := by
  go_enter Tryd.func42, Tryd.ntmps42
  go_wp2_with fail
  refine (musts2_any _).mono ?_
  rintro e w1 ⟨rfl, hm, hb1⟩
  have hbox : Blk w1 w.heap.size 78 [.int .i64 2, .int .i64 d, pv, .int .i64 r, .int .i64 s, .int .i64 t, .int .i64 u, .int .i64 h, .int .i64 days] := (Blk.new w _ [.int .i64 2, .int .i64 d, pv, .int .i64 r, .int .i64 s, .int .i64 t, .int .i64 u, .int .i64 h, .int .i64 days]).below hb1 (by simp)
  have hm1 : Blk w1 (w.heap.size + 1) 76 [.func (.func 74) #[] #[], .func (.func 75) #[] #[], .func (.func 76) #[] #[], .func (.func 77) #[] #[], .func (.func 78) #[] #[], .func (.func 79) #[] #[]] := by simpa using hm
  have hb2 : Below w.heap.size w w1 := ((Below.refl _ _).alloc (Nat.le_refl _) _).trans (hb1.mono (by simp))
  clear hm hb1
  go_wp2_with fail
  go_loopw [12] (fun i wr => ∃ j : Nat, j ≤ 6 ∧ i = .int .i64 j ∧ Hid ([fromB r 0 2147483648, fromB s 1 2147483648, fromB t 0 s, (u == 1 || u == 2), fromB h 0 1024, (decide (l.length = 0) && d == 0)].all id = ([fromB r 0 2147483648, fromB s 1 2147483648, fromB t 0 s, (u == 1 || u == 2), fromB h 0 1024, (decide (l.length = 0) && d == 0)].drop j).all id) ∧ Blk wr w.heap.size 78 [.int .i64 2, .int .i64 d, pv, .int .i64 r, .int .i64 s, .int .i64 t, .int .i64 u, .int .i64 h, .int .i64 days] ∧
      Blk wr (w.heap.size + 1) 76 [.func (.func 74) #[] #[], .func (.func 75) #[] #[], .func (.func 76) #[] #[], .func (.func 77) #[] #[], .func (.func 78) #[] #[], .func (.func 79) #[] #[]] ∧ Below w.heap.size w wr) (fun i _ => 6 - (intOf i).toNat)
  case atStart => exact ⟨0, Nat.zero_le _, rfl, rfl, hbox, hm1, hb2⟩
  case round =>
    clear hbox hm1 hb2
    obtain ⟨j, hj, rfl, H, hbox, hm, hbel⟩ := hrel
    have hz := hbox.lt
    have hz1 := hm.lt
    have b0 : wr.cell? ⟨w.heap.size, 0, none⟩ = some (.int .i64 2) := hbox.cell 0
    have b1 : wr.cell? ⟨w.heap.size, 1, none⟩ = some (.int .i64 d) := hbox.cell 1
    have b2 : wr.cell? ⟨w.heap.size, 2, none⟩ = some pv := hbox.cell 2
    have b3 : wr.cell? ⟨w.heap.size, 3, none⟩ = some (.int .i64 r) := hbox.cell 3
    have b4 : wr.cell? ⟨w.heap.size, 4, none⟩ = some (.int .i64 s) := hbox.cell 4
    have b5 : wr.cell? ⟨w.heap.size, 5, none⟩ = some (.int .i64 t) := hbox.cell 5
    have b6 : wr.cell? ⟨w.heap.size, 6, none⟩ = some (.int .i64 u) := hbox.cell 6
    have b7 : wr.cell? ⟨w.heap.size, 7, none⟩ = some (.int .i64 h) := hbox.cell 7
    have b8 : wr.cell? ⟨w.heap.size, 8, none⟩ = some (.int .i64 days) := hbox.cell 8
    have hj3 : j = 0 ∨ j = 1 ∨ j = 2 ∨ j = 3 ∨ j = 4 ∨ j = 5 ∨ j = 6 := by omega
    rcases hj3 with rfl | rfl | rfl | rfl | rfl | rfl | rfl
    · have f0 : wr.cell? ⟨w.heap.size + 1, 0, none⟩ = some (.func (.func 74) #[] #[]) := hm.cell 0
      have hd := H.out
      have hpr : RPats wr pv l := hp.below hbel (Nat.le_refl _)
      clear H
      rcases Bool.eq_false_or_eq_true (fromB r 0 2147483648) with hB | hB
      · have HD := Lib.hid (show [fromB r 0 2147483648, fromB s 1 2147483648, fromB t 0 s, (u == 1 || u == 2), fromB h 0 1024, (decide (l.length = 0) && d == 0)].all id = ([fromB r 0 2147483648, fromB s 1 2147483648, fromB t 0 s, (u == 1 || u == 2), fromB h 0 1024, (decide (l.length = 0) && d == 0)].drop 1).all id by rw [hd]; simp only [List.drop_succ_cons, List.drop_zero, List.all_cons, id]; rw [hB, Bool.true_and])
        clear hd
        go_wp2_with (go_at_call 74; refine (uses_any _ _ _ _ _ _ _ _ _ _).mono ?_; rintro e w1 ⟨rfl, hb1⟩; try rw [hB])
        go_roundw
        case rel => exact ⟨1, by omega, by go_num, HD, hbox.below hb1 hz, hm.below hb1 hz1, hbel.trans (hb1.mono (by omega))⟩
        case measure => simp [intOf]
      · have HD := Lib.hid (show [fromB r 0 2147483648, fromB s 1 2147483648, fromB t 0 s, (u == 1 || u == 2), fromB h 0 1024, (decide (l.length = 0) && d == 0)].all id = false by rw [hd]; simp only [List.drop_zero, List.all_cons, id]; rw [hB, Bool.false_and])
        clear hd
        go_wp2_with (go_at_call 74; refine (uses_any _ _ _ _ _ _ _ _ _ _).mono ?_; rintro e w1 ⟨rfl, hb1⟩; try rw [hB])
        go_ret
        exact ⟨ret_bool HD.out.symm, hbel.trans (hb1.mono (by omega))⟩
    · have f0 : wr.cell? ⟨w.heap.size + 1, 1, none⟩ = some (.func (.func 75) #[] #[]) := hm.cell 1
      have hd := H.out
      have hpr : RPats wr pv l := hp.below hbel (Nat.le_refl _)
      clear H
      rcases Bool.eq_false_or_eq_true (fromB s 1 2147483648) with hB | hB
      · have HD := Lib.hid (show [fromB r 0 2147483648, fromB s 1 2147483648, fromB t 0 s, (u == 1 || u == 2), fromB h 0 1024, (decide (l.length = 0) && d == 0)].all id = ([fromB r 0 2147483648, fromB s 1 2147483648, fromB t 0 s, (u == 1 || u == 2), fromB h 0 1024, (decide (l.length = 0) && d == 0)].drop 2).all id by rw [hd]; simp only [List.drop_succ_cons, List.drop_zero, List.all_cons, id]; rw [hB, Bool.true_and])
        clear hd
        go_wp2_with (go_at_call 75; refine (sized_any _ _ _ _ _ _ _ _ _ _).mono ?_; rintro e w1 ⟨rfl, hb1⟩; try rw [hB])
        go_roundw
        case rel => exact ⟨2, by omega, by go_num, HD, hbox.below hb1 hz, hm.below hb1 hz1, hbel.trans (hb1.mono (by omega))⟩
        case measure => simp [intOf]
      · have HD := Lib.hid (show [fromB r 0 2147483648, fromB s 1 2147483648, fromB t 0 s, (u == 1 || u == 2), fromB h 0 1024, (decide (l.length = 0) && d == 0)].all id = false by rw [hd]; simp only [List.drop_succ_cons, List.drop_zero, List.all_cons, id]; rw [hB, Bool.false_and])
        clear hd
        go_wp2_with (go_at_call 75; refine (sized_any _ _ _ _ _ _ _ _ _ _).mono ?_; rintro e w1 ⟨rfl, hb1⟩; try rw [hB])
        go_ret
        exact ⟨ret_bool HD.out.symm, hbel.trans (hb1.mono (by omega))⟩
    · have f0 : wr.cell? ⟨w.heap.size + 1, 2, none⟩ = some (.func (.func 76) #[] #[]) := hm.cell 2
      have hd := H.out
      have hpr : RPats wr pv l := hp.below hbel (Nat.le_refl _)
      clear H
      rcases Bool.eq_false_or_eq_true (fromB t 0 s) with hB | hB
      · have HD := Lib.hid (show [fromB r 0 2147483648, fromB s 1 2147483648, fromB t 0 s, (u == 1 || u == 2), fromB h 0 1024, (decide (l.length = 0) && d == 0)].all id = ([fromB r 0 2147483648, fromB s 1 2147483648, fromB t 0 s, (u == 1 || u == 2), fromB h 0 1024, (decide (l.length = 0) && d == 0)].drop 3).all id by rw [hd]; simp only [List.drop_succ_cons, List.drop_zero, List.all_cons, id]; rw [hB, Bool.true_and])
        clear hd
        go_wp2_with (go_at_call 76; refine (started_any _ _ _ _ _ _ _ _ _ _).mono ?_; rintro e w1 ⟨rfl, hb1⟩; try rw [hB])
        go_roundw
        case rel => exact ⟨3, by omega, by go_num, HD, hbox.below hb1 hz, hm.below hb1 hz1, hbel.trans (hb1.mono (by omega))⟩
        case measure => simp [intOf]
      · have HD := Lib.hid (show [fromB r 0 2147483648, fromB s 1 2147483648, fromB t 0 s, (u == 1 || u == 2), fromB h 0 1024, (decide (l.length = 0) && d == 0)].all id = false by rw [hd]; simp only [List.drop_succ_cons, List.drop_zero, List.all_cons, id]; rw [hB, Bool.false_and])
        clear hd
        go_wp2_with (go_at_call 76; refine (started_any _ _ _ _ _ _ _ _ _ _).mono ?_; rintro e w1 ⟨rfl, hb1⟩; try rw [hB])
        go_ret
        exact ⟨ret_bool HD.out.symm, hbel.trans (hb1.mono (by omega))⟩
    · have f0 : wr.cell? ⟨w.heap.size + 1, 3, none⟩ = some (.func (.func 77) #[] #[]) := hm.cell 3
      have hd := H.out
      have hpr : RPats wr pv l := hp.below hbel (Nat.le_refl _)
      clear H
      rcases Bool.eq_false_or_eq_true (u == 1 || u == 2) with hB | hB
      · have HD := Lib.hid (show [fromB r 0 2147483648, fromB s 1 2147483648, fromB t 0 s, (u == 1 || u == 2), fromB h 0 1024, (decide (l.length = 0) && d == 0)].all id = ([fromB r 0 2147483648, fromB s 1 2147483648, fromB t 0 s, (u == 1 || u == 2), fromB h 0 1024, (decide (l.length = 0) && d == 0)].drop 4).all id by rw [hd]; simp only [List.drop_succ_cons, List.drop_zero, List.all_cons, id]; rw [hB, Bool.true_and])
        clear hd
        go_wp2_with (go_at_call 77; refine (ruled_any _ _ _ _ _ _ _ _ _ _).mono ?_; rintro e w1 ⟨rfl, hb1⟩; try rw [hB])
        go_roundw
        case rel => exact ⟨4, by omega, by go_num, HD, hbox.below hb1 hz, hm.below hb1 hz1, hbel.trans (hb1.mono (by omega))⟩
        case measure => simp [intOf]
      · have HD := Lib.hid (show [fromB r 0 2147483648, fromB s 1 2147483648, fromB t 0 s, (u == 1 || u == 2), fromB h 0 1024, (decide (l.length = 0) && d == 0)].all id = false by rw [hd]; simp only [List.drop_succ_cons, List.drop_zero, List.all_cons, id]; rw [hB, Bool.false_and])
        clear hd
        go_wp2_with (go_at_call 77; refine (ruled_any _ _ _ _ _ _ _ _ _ _).mono ?_; rintro e w1 ⟨rfl, hb1⟩; try rw [hB])
        go_ret
        exact ⟨ret_bool HD.out.symm, hbel.trans (hb1.mono (by omega))⟩
    · have f0 : wr.cell? ⟨w.heap.size + 1, 4, none⟩ = some (.func (.func 78) #[] #[]) := hm.cell 4
      have hd := H.out
      have hpr : RPats wr pv l := hp.below hbel (Nat.le_refl _)
      clear H
      rcases Bool.eq_false_or_eq_true (fromB h 0 1024) with hB | hB
      · have HD := Lib.hid (show [fromB r 0 2147483648, fromB s 1 2147483648, fromB t 0 s, (u == 1 || u == 2), fromB h 0 1024, (decide (l.length = 0) && d == 0)].all id = ([fromB r 0 2147483648, fromB s 1 2147483648, fromB t 0 s, (u == 1 || u == 2), fromB h 0 1024, (decide (l.length = 0) && d == 0)].drop 5).all id by rw [hd]; simp only [List.drop_succ_cons, List.drop_zero, List.all_cons, id]; rw [hB, Bool.true_and])
        clear hd
        go_wp2_with (go_at_call 78; refine (holds_any _ _ _ _ _ _ _ _ _ _).mono ?_; rintro e w1 ⟨rfl, hb1⟩; try rw [hB])
        go_roundw
        case rel => exact ⟨5, by omega, by go_num, HD, hbox.below hb1 hz, hm.below hb1 hz1, hbel.trans (hb1.mono (by omega))⟩
        case measure => simp [intOf]
      · have HD := Lib.hid (show [fromB r 0 2147483648, fromB s 1 2147483648, fromB t 0 s, (u == 1 || u == 2), fromB h 0 1024, (decide (l.length = 0) && d == 0)].all id = false by rw [hd]; simp only [List.drop_succ_cons, List.drop_zero, List.all_cons, id]; rw [hB, Bool.false_and])
        clear hd
        go_wp2_with (go_at_call 78; refine (holds_any _ _ _ _ _ _ _ _ _ _).mono ?_; rintro e w1 ⟨rfl, hb1⟩; try rw [hB])
        go_ret
        exact ⟨ret_bool HD.out.symm, hbel.trans (hb1.mono (by omega))⟩
    · have f0 : wr.cell? ⟨w.heap.size + 1, 5, none⟩ = some (.func (.func 79) #[] #[]) := hm.cell 5
      have hd := H.out
      have hpr : RPats wr pv l := hp.below hbel (Nat.le_refl _)
      clear H
      rcases Bool.eq_false_or_eq_true (decide (l.length = 0) && d == 0) with hB | hB
      · have HD := Lib.hid (show [fromB r 0 2147483648, fromB s 1 2147483648, fromB t 0 s, (u == 1 || u == 2), fromB h 0 1024, (decide (l.length = 0) && d == 0)].all id = ([fromB r 0 2147483648, fromB s 1 2147483648, fromB t 0 s, (u == 1 || u == 2), fromB h 0 1024, (decide (l.length = 0) && d == 0)].drop 6).all id by rw [hd]; simp only [List.drop_succ_cons, List.drop_zero, List.all_cons, id]; rw [hB, Bool.true_and])
        clear hd
        go_wp2_with (go_at_call 79; refine (patternless_any _ _ _ _ _ _ _ _ _ l _ hpr).mono ?_; rintro e w1 ⟨rfl, hb1⟩; try rw [hB])
        go_roundw
        case rel => exact ⟨6, by omega, by go_num, HD, hbox.below hb1 hz, hm.below hb1 hz1, hbel.trans (hb1.mono (by omega))⟩
        case measure => simp [intOf]
      · have HD := Lib.hid (show [fromB r 0 2147483648, fromB s 1 2147483648, fromB t 0 s, (u == 1 || u == 2), fromB h 0 1024, (decide (l.length = 0) && d == 0)].all id = false by rw [hd]; simp only [List.drop_succ_cons, List.drop_zero, List.all_cons, id]; rw [hB, Bool.false_and])
        clear hd
        go_wp2_with (go_at_call 79; refine (patternless_any _ _ _ _ _ _ _ _ _ l _ hpr).mono ?_; rintro e w1 ⟨rfl, hb1⟩; try rw [hB])
        go_ret
        exact ⟨ret_bool HD.out.symm, hbel.trans (hb1.mono (by omega))⟩
    · have HD := Lib.hid (show [fromB r 0 2147483648, fromB s 1 2147483648, fromB t 0 s, (u == 1 || u == 2), fromB h 0 1024, (decide (l.length = 0) && d == 0)].all id = true by rw [H.out]; rfl)
      clear H
      go_wp2
      go_ret
      exact ⟨ret_bool HD.out.symm, hbel⟩

end Go.Proofs.YtigljnnjamdcnaaDoor
