/- The walks of what a customer must be, behind them. -/
import Derived.Test.YtifdggdpglphmaaW06a
namespace Go.Proofs.Ytifdggdpglphmaa
open Go.RowKit P06

set_option maxHeartbeats 400000 in
theorem patternless_any (k d r s t u h days : Int) (pv : Value) (l : List Nat) (w : World) (hp : RPats w pv l) :
    Calls Try.prog 48 #[.agg #[.int .i64 k, .int .i64 d, pv, .int .i64 r, .int .i64 s, .int .i64 t, .int .i64 u, .int .i64 h, .int .i64 days]] w fun e w' => e = .returned (.bool (decide (l.length = 0) && d == 0)) ∧ Below w.heap.size w w' := by
  obtain ⟨A, c, rfl, hc1, hc2, hcell⟩ := hp.open_
  clear hcell hp
  generalize l.length = n at *
  go_enter Try.func48, Try.ntmps48
  go_wp2
  all_goals
    go_ret
    refine ⟨ret_bool ?_, (Below.refl _ _).alloc (Nat.le_refl _) _⟩
    first | (simp [*]; done) | (simp [*]; omega)

set_option maxHeartbeats 400000 in
theorem patterned_any (k d r s t u h days : Int) (pv : Value) (l : List Nat) (w : World) (hp : RPats w pv l) (hwf : ∀ s ∈ l, s < 18446744073709551616) :
    Calls Try.prog 41 #[.agg #[.int .i64 k, .int .i64 d, pv, .int .i64 r, .int .i64 s, .int .i64 t, .int .i64 u, .int .i64 h, .int .i64 days]] w fun e w' => e = .returned (.bool (patternedB l days)) ∧ Below w.heap.size w w' := by
  obtain ⟨A, c, rfl, hc1, hc2, hcell⟩ := hp.open_
  go_enter Try.func41, Try.ntmps41
  go_wp2
  go_loopw [9] (fun i wr => ∃ j : Nat, j ≤ l.length ∧ i = .int .i64 j ∧ Hid (l.all (fun p => decide (P02.next p days < 0)) = (l.drop j).all (fun p => decide (P02.next p days < 0))) ∧
      Blk wr w.heap.size 51 [.int .i64 k, .int .i64 d, .slice A l.length c, .int .i64 r, .int .i64 s, .int .i64 t, .int .i64 u, .int .i64 h, .int .i64 days] ∧ Below w.heap.size w wr) (fun i _ => l.length - (intOf i).toNat)
  case atStart => exact ⟨0, Nat.zero_le _, rfl, rfl, Blk.new _ _ _, (Below.refl _ _).alloc (Nat.le_refl _) _⟩
  case round =>
    obtain ⟨j, hj, rfl, H, hblk, hbel⟩ := hrel
    have hz := hblk.lt
    have b2 : wr.cell? ⟨w.heap.size, 2, none⟩ = some (.slice A l.length c) := hblk.cell 2
    have b8 : wr.cell? ⟨w.heap.size, 8, none⟩ = some (.int .i64 days) := hblk.cell 8
    by_cases hlt : j < l.length
    · obtain ⟨p, hp1⟩ := some_of_lt hlt
      obtain ⟨b, o, rfl, hb, hk⟩ := hcell j p hp1
      have hk1 := (hbel.cell (p := ⟨b, o + j, none⟩) hb).trans hk
      have hpw := hwf p (List.mem_of_getElem? hp1)
      have hd := H.out
      rw [drop_some hp1, List.all_cons] at hd
      clear H hcell hp hp1 hk
      by_cases hn : P02.next p days < 0
      · rw [decide_eq_true hn, Bool.true_and] at hd
        have HD := Lib.hid hd
        clear hd
        go_wp2_with (go_at_call 52; refine (dnext_any _ hpw _ _).mono ?_; rintro e w1 ⟨rfl, hb1⟩)
        go_roundw
        case rel => exact ⟨j + 1, by omega, by go_num, HD, hblk.below hb1 hz, hbel.trans (hb1.mono (by omega))⟩
        case measure => simp [intOf]; omega
      · rw [decide_eq_false hn, Bool.false_and] at hd
        have HD := Lib.hid hd
        clear hd
        go_wp2_with (go_at_call 52; refine (dnext_any _ hpw _ _).mono ?_; rintro e w1 ⟨rfl, hb1⟩)
        go_ret
        exact ⟨ret_bool (by rw [patternedB, HD.out, Bool.false_and]), hbel.trans (hb1.mono (by omega))⟩
    · have hd := H.out
      rw [List.drop_eq_nil_of_le (by omega)] at hd
      have HD := Lib.hid hd
      clear hd H hcell hp
      go_wp2_with (go_at_call 23; refine (from_any _ _ _ _).mono ?_; rintro e w' ⟨rfl, rfl⟩)
      go_ret
      exact ⟨ret_bool (by rw [patternedB, HD.out]; rfl), hbel⟩

set_option maxHeartbeats 400000 in
theorem musts1_any (w : World) :
    Calls Try.prog 35 #[.int .i64 1] w fun e w' => e = .returned (.slice (some ⟨w.heap.size, 0, none⟩) 3 3) ∧
      Blk w' w.heap.size 49 [.func (.func 40) #[] #[], .func (.func 41) #[] #[], .func (.func 42) #[] #[]] ∧ Below w.heap.size w w' := by
  go_enter Try.func35, Try.ntmps35
  go_wp2
  go_ret
  exact ⟨rfl, Blk.new _ _ _, (Below.refl _ _).alloc (Nat.le_refl _) _⟩

set_option maxHeartbeats 400000 in
theorem musts2_any (w : World) :
    Calls Try.prog 35 #[.int .i64 2] w fun e w' => e = .returned (.slice (some ⟨w.heap.size, 0, none⟩) 6 6) ∧
      Blk w' w.heap.size 49 [.func (.func 43) #[] #[], .func (.func 44) #[] #[], .func (.func 45) #[] #[],
        .func (.func 46) #[] #[], .func (.func 47) #[] #[], .func (.func 48) #[] #[]] ∧ Below w.heap.size w w' := by
  go_enter Try.func35, Try.ntmps35
  go_wp2
  go_ret
  exact ⟨rfl, Blk.new _ _ _, (Below.refl _ _).alloc (Nat.le_refl _) _⟩

set_option maxHeartbeats 400000 in
theorem musts0_any (k : Int) (h1 : k ≠ 1) (h2 : k ≠ 2) (w : World) :
    Calls Try.prog 35 #[.int .i64 k] w fun e w' => e = .returned (.slice none 0 0) ∧ w = w' := by
  go_enter Try.func35, Try.ntmps35
  go_wp2
  go_ret
  exact ⟨rfl, rfl⟩

end Go.Proofs.Ytifdggdpglphmaa
