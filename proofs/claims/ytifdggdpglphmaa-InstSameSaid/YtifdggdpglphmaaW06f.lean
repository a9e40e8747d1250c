/- The walk of May: the reference's customer. -/
import Derived.Test.YtifdggdpglphmaaW06e
namespace Go.Proofs.Ytifdggdpglphmaa
open Go.RowKit P06

theorem all_pat {l : List Nat} {days : Int} {b : Bool} (h : l.all (fun p => decide (P02.next p days < 0)) = b) (h1 : 1 ≤ l.length) (h2 : l.length ≤ 64) : patternedB l days = b := by
  have e : fromB l.length 1 64 = true := by simp [fromB]; omega
  rw [patternedB, h, e, Bool.and_true]

set_option maxHeartbeats 1000000 in
theorem rcustomer1_any (d r s t u h days : Int) (pv : Value) (l : List Nat) (w : World) (hp : RPats w pv l) (hwf : ∀ s ∈ l, s < 18446744073709551616) :
    Calls Try.prog 26 #[.agg #[.int .i64 1, .int .i64 d, pv, .int .i64 r, .int .i64 s, .int .i64 t, .int .i64 u, .int .i64 h], .int .i64 days] w
      fun e w' => e = .returned (.bool (custMay ⟨1, d, l, r, s, t, u, h⟩ days)) ∧ Below w.heap.size w w' := by
  obtain ⟨A, c, rfl, hc1, hc2, hcell⟩ := hp.open_
  clear hp
  by_cases hg : 1 ≤ d ∧ d ≤ 2147483648 ∧ 1 ≤ l.length ∧ l.length ≤ 64 ∧ r = 0 ∧ s = 0 ∧ t = 0 ∧ u = 0 ∧ h = 0
  · obtain ⟨g1, g2, g3, g4, rfl, rfl, rfl, rfl, rfl⟩ := hg
    have H0 := Lib.hid (show custMay ⟨1, d, l, 0, 0, 0, 0, 0⟩ days = patternedB l days by
      have e : fromB d 1 2147483648 = true := by simp [fromB, g1, g2]
      simp [custMay, musts1, tanklessB, e])
    go_enter Try.func26, Try.ntmps26
    go_wp2_with fail
    go_loopw [5] (fun i wr => ∃ j : Nat, j ≤ l.length ∧ i = .int .i64 j ∧ Hid (l.all (fun p => decide (P02.next p days < 0)) = (l.drop j).all (fun p => decide (P02.next p days < 0))) ∧
        Blk wr w.heap.size 46 [.int .i64 1, .int .i64 d, .slice A l.length c, .int .i64 0, .int .i64 0, .int .i64 0, .int .i64 0, .int .i64 0] ∧ Below w.heap.size w wr) (fun i _ => l.length - (intOf i).toNat)
    case atStart => exact ⟨0, Nat.zero_le _, rfl, rfl, Blk.new _ _ _, (Below.refl _ _).alloc (Nat.le_refl _) _⟩
    case round =>
      obtain ⟨j, hj, rfl, H, hblk, hbel⟩ := hrel
      have hz := hblk.lt
      have b2 : wr.cell? ⟨w.heap.size, 2, none⟩ = some (.slice A l.length c) := hblk.cell 2
      by_cases hlt : j < l.length
      · obtain ⟨p, hp1⟩ := some_of_lt hlt
        obtain ⟨b, o, rfl, hb, hk⟩ := hcell j p hp1
        have hk1 := (hbel.cell (p := ⟨b, o + j, none⟩) hb).trans hk
        have hpw := hwf p (List.mem_of_getElem? hp1)
        have hd := H.out
        rw [drop_some hp1, List.all_cons] at hd
        clear H hcell hp1 hk
        by_cases hn : P02.next p days < 0
        · rw [decide_eq_true hn, Bool.true_and] at hd
          have HD := Lib.hid hd
          clear hd
          go_wp2_with (go_at_call 36; refine (next_any _ hpw _ _).mono ?_; rintro e w1 ⟨rfl, hb1⟩)
          go_roundw
          case rel => exact ⟨j + 1, by omega, by go_num, HD, hblk.below hb1 hz, hbel.trans (hb1.mono (by omega))⟩
          case measure => simp [intOf]; omega
        · rw [decide_eq_false hn, Bool.false_and] at hd
          have HD := Lib.hid hd
          clear hd
          go_wp2_with (go_at_call 36; refine (next_any _ hpw _ _).mono ?_; rintro e w1 ⟨rfl, hb1⟩)
          go_ret
          exact ⟨ret_bool (by rw [H0.out, all_pat HD.out g3 g4]), hbel.trans (hb1.mono (by omega))⟩
      · have hd := H.out
        rw [List.drop_eq_nil_of_le (by omega)] at hd
        have HD := Lib.hid hd
        clear hd H hcell
        go_wp2
        go_ret
        exact ⟨ret_bool (by rw [H0.out, all_pat HD.out g3 g4]; rfl), hbel⟩
  · have H0 := Lib.hid (show custMay ⟨1, d, l, r, s, t, u, h⟩ days = false by
      rw [Bool.eq_false_iff]
      intro hc
      apply hg
      simp [custMay, musts1, tanklessB, patternedB, fromB] at hc
      omega)
    clear hcell
    generalize hL : l.length = n at *
    go_enter Try.func26, Try.ntmps26
    go_wp2_with fail
    all_goals first
      | (go_ret; exact ⟨ret_bool H0.out.symm, (Below.refl _ _).alloc (Nat.le_refl _) _⟩)
      | (exfalso; simp only [bne_eq_false_iff_eq] at *; omega)

set_option maxHeartbeats 1000000 in
theorem rcustomer2_any (d r s t u h days : Int) (pv : Value) (l : List Nat) (w : World) (hp : RPats w pv l) :
    Calls Try.prog 26 #[.agg #[.int .i64 2, .int .i64 d, pv, .int .i64 r, .int .i64 s, .int .i64 t, .int .i64 u, .int .i64 h], .int .i64 days] w
      fun e w' => e = .returned (.bool (custMay ⟨2, d, l, r, s, t, u, h⟩ days)) ∧ Below w.heap.size w w' := by
  obtain ⟨A, c, rfl, hc1, hc2, -⟩ := hp.open_
  clear hp
  by_cases hg : l.length = 0 ∧ d = 0 ∧ 0 ≤ r ∧ r ≤ 2147483648 ∧ 1 ≤ s ∧ s ≤ 2147483648 ∧ 0 ≤ t ∧ t ≤ s
  · obtain ⟨g0, rfl, g1, g2, g3, g4, g5, g6⟩ := hg
    have h0 : custMay ⟨2, 0, l, r, s, t, u, h⟩ days = ((u == 1 || u == 2) && (decide (0 ≤ h) && decide (h ≤ 1024))) := by
      simp [custMay, musts2, patternlessB, fromB, ruledB, g0, g1, g2, g3, g4, g5, g6]
    generalize custMay ⟨2, 0, l, r, s, t, u, h⟩ days = B at h0
    have H0 := Lib.hid h0
    clear h0
    rw [g0]
    go_enter Try.func26, Try.ntmps26
    go_wp2
    all_goals
      go_ret
      refine ⟨ret_bool ?_, (Below.refl _ _).alloc (Nat.le_refl _) _⟩
      rw [H0.out]
      first | (simp [*]; done) | (simp [*]; omega) | (simp at *; omega)
  · have H0 := Lib.hid (show custMay ⟨2, d, l, r, s, t, u, h⟩ days = false by
      rw [Bool.eq_false_iff]
      intro hc
      apply hg
      rw [custMay, if_neg (show ¬ (2 : Int) = 1 by decide), if_pos rfl] at hc
      simp only [musts2, patternlessB, fromB, List.all_cons, List.all_nil, id, Bool.and_true, Bool.and_eq_true, decide_eq_true_eq, beq_iff_eq] at hc
      omega)
    generalize hL : l.length = n at *
    go_enter Try.func26, Try.ntmps26
    go_wp2
    all_goals first
      | (go_ret; exact ⟨ret_bool H0.out.symm, (Below.refl _ _).alloc (Nat.le_refl _) _⟩)
      | (exfalso; simp only [bne_eq_false_iff_eq] at *; omega)

set_option maxHeartbeats 400000 in
theorem rcustomer_any (x : Cust) (days : Int) (pv : Value) (w : World) (hp : RPats w pv x.pats) (hwf : ∀ s ∈ x.pats, s < 18446744073709551616) :
    Calls Try.prog 26 #[.agg #[.int .i64 x.kind, .int .i64 x.demand, pv, .int .i64 x.rate, .int .i64 x.size, .int .i64 x.start, .int .i64 x.rule, .int .i64 x.hold], .int .i64 days] w
      fun e w' => e = .returned (.bool (custMay x days)) ∧ Below w.heap.size w w' := by
  obtain ⟨k, d, l, r, s, t, u, h⟩ := x
  by_cases h1 : k = 1
  · subst h1; exact rcustomer1_any d r s t u h days pv l w hp hwf
  · by_cases h2 : k = 2
    · subst h2; exact rcustomer2_any d r s t u h days pv l w hp
    · have H := Lib.hid (show custMay ⟨k, d, l, r, s, t, u, h⟩ days = false by rw [custMay, if_neg h1, if_neg h2])
      go_enter Try.func26, Try.ntmps26
      go_wp2
      go_ret
      exact ⟨ret_bool H.out.symm, (Below.refl _ _).alloc (Nat.le_refl _) _⟩

end Go.Proofs.Ytifdggdpglphmaa
