/- The walk of May: the program's. -/
import Derived.Test.YtifdggdpglphmaaW06c
namespace Go.Proofs.Ytifdggdpglphmaa
open Go.RowKit P06

set_option maxHeartbeats 400000 in
theorem customerMay_any (x : Cust) (days : Int) (pv : Value) (w : World) (hp : RPats w pv x.pats) (hwf : ∀ s ∈ x.pats, s < 18446744073709551616) :
    Calls Try.prog 24 #[.agg #[.int .i64 x.kind, .int .i64 x.demand, pv, .int .i64 x.rate, .int .i64 x.size, .int .i64 x.start, .int .i64 x.rule, .int .i64 x.hold, .int .i64 days]] w
      fun e w' => e = .returned (.bool (custMay x days)) ∧ Below w.heap.size w w' := by
  obtain ⟨k, d, l, r, s, t, u, h⟩ := x
  by_cases h1 : k = 1
  · subst h1
    exact (custMay1_any d r s t u h days pv l w hp hwf).mono fun e w' ⟨he, hb⟩ => ⟨he, hb⟩
  · by_cases h2 : k = 2
    · subst h2
      exact (custMay2_any d r s t u h days pv l w hp hwf).mono fun e w' ⟨he, hb⟩ => ⟨he, hb⟩
    · have H := Lib.hid (show custMay ⟨k, d, l, r, s, t, u, h⟩ days = false by rw [custMay, if_neg h1, if_neg h2])
      go_enter Try.func24, Try.ntmps24
      go_wp2_with fail
      refine (musts0_any k h1 h2 _).mono ?_
      rintro e w1 ⟨rfl, rfl⟩
      go_wp2_with fail
      go_loop [12] (fun i => i = .int .i64 0) (fun _ => 0)
      case atStart => exact rfl
      case round =>
        subst hrel
        go_wp2
        go_ret
        exact ⟨ret_bool H.out.symm, (Below.refl _ _).alloc (Nat.le_refl _) _⟩

/-- The rows' slice and, under its condition, each row. -/
theorem RRows.open_ {w : World} {v : Value} {L : List (List Int)} (h : RRows w v L) : ∃ A c, v = .slice A L.length c ∧ L.length ≤ c ∧ c ≤ 9223372036854775807 ∧
    ∀ i r, L[i]? = some r → ∃ b o, A = some ⟨b, o, none⟩ ∧ b < w.heap.size ∧ ∃ A1 c1, w.cell? ⟨b, o + i, none⟩ = some (.slice A1 r.length c1) ∧ r.length ≤ c1 ∧ c1 ≤ 9223372036854775807 ∧
      ∀ j z, r[j]? = some z → ∃ b1 o1, A1 = some ⟨b1, o1, none⟩ ∧ b1 < w.heap.size ∧ w.cell? ⟨b1, o1 + j, none⟩ = some (.int .i64 z) := by
  obtain ⟨A, c, hv, h1, h2, h3⟩ := h
  refine ⟨A, c, hv, h1, by simpa [maxLen] using h2, fun i r hr => ?_⟩
  obtain ⟨b, o, hA, hb, hc⟩ := h3 (by have := lt_of_some hr; omega)
  obtain ⟨rv, hrv, hcell⟩ := hc i r hr
  obtain ⟨A1, c1, rfl, g1, g2, g3⟩ := hrv.open_
  exact ⟨b, o, hA, hb, A1, c1, hcell, g1, g2, g3⟩

set_option maxHeartbeats 400000 in
theorem distMay_any (dv : Value) (D : List (List Int)) (n : Nat) (hn : n ≤ 2000000) (w : World) (hd : RRows w dv D) :
    Calls Try.prog 25 #[dv, .int .i64 n] w fun e w' => e = .returned (.bool (distMay D n)) ∧ w = w' := by
  obtain ⟨A, c, rfl, hc1, hc2, hcell⟩ := hd.open_
  clear hd
  by_cases hl : D.length = n
  · have H0 := Lib.hid (show distMay D n = rowsMay n 0 D by rw [distMay, decide_eq_true hl, Bool.true_and])
    subst hl
    go_enter Try.func25, Try.ntmps25
    go_wp2_with fail
    go_loop [15] (fun i => ∃ j : Nat, j ≤ D.length ∧ i = .int .i64 j ∧ Hid (rowsMay D.length 0 D = rowsMay D.length j (D.drop j))) (fun i => D.length - (intOf i).toNat)
    case atStart => exact ⟨0, Nat.zero_le _, rfl, rfl⟩
    case round =>
      obtain ⟨j, hj, rfl, H⟩ := hrel
      by_cases hlt : j < D.length
      · obtain ⟨r, hr⟩ := some_of_lt hlt
        obtain ⟨b, o, rfl, hb, A1, c1, hk, g1, g2, g3⟩ := hcell j r hr
        have hd := H.out
        rw [drop_some hr, rowsMay] at hd
        clear H hcell hr
        by_cases hrl : r.length = D.length
        · obtain ⟨z, hz⟩ := some_of_lt (l := r) (i := j) (by omega)
          obtain ⟨b1, o1, rfl, hb1, hk1⟩ := g3 j z hz
          by_cases hz0 : z = 0
          · have hd2 : rowsMay D.length 0 D = (r.all (fun d => fromB d 0 2147483648) && rowsMay D.length (j + 1) (D.drop (j + 1))) := by
              rw [hd, rowMay, decide_eq_true hrl, hz]; simp [hz0]
            have HD := Lib.hid hd2
            have HRL := Lib.hid hrl
            rw [hrl] at hk
            have G3 := Lib.hid g3
            subst hz0
            clear hd hd2 hrl hz g3
            go_wp2_with fail
            go_loop [33] (fun i => ∃ m : Nat, m ≤ D.length ∧ i = .int .i64 m ∧ Hid (r.all (fun d => fromB d 0 2147483648) = (r.drop m).all (fun d => fromB d 0 2147483648))) (fun i => D.length - (intOf i).toNat)
            case atStart => exact ⟨0, Nat.zero_le _, rfl, rfl⟩
            case round =>
              obtain ⟨m, hm, rfl, H⟩ := hrel
              by_cases hlm : m < D.length
              · obtain ⟨y, hy⟩ := some_of_lt (l := r) (i := m) (by have := HRL.out; omega)
                obtain ⟨b2, o2, he, hb2, hk2⟩ := G3.out m y hy
                injection he with he
                injection he with he1 he2
                subst he1; subst he2
                have hd := H.out
                rw [drop_some hy, List.all_cons] at hd
                clear H hy
                rcases Bool.eq_false_or_eq_true (fromB y 0 2147483648) with hB | hB
                · rw [hB, Bool.true_and] at hd
                  have HE := Lib.hid hd
                  clear hd
                  go_wp2_with (go_at_call 23; refine (from_any _ _ _ _).mono ?_; rintro e w' ⟨rfl, rfl⟩; try rw [hB])
                  go_round
                  case rel => exact ⟨m + 1, by omega, by go_num, HE⟩
                  case measure => simp [intOf]; omega
                · rw [hB, Bool.false_and] at hd
                  have HE := Lib.hid hd
                  clear hd
                  go_wp2_with (go_at_call 23; refine (from_any _ _ _ _).mono ?_; rintro e w' ⟨rfl, rfl⟩; try rw [hB])
                  go_ret
                  exact ⟨ret_bool (by rw [H0.out, HD.out, HE.out]; rfl), rfl⟩
              · have hd := H.out
                rw [List.drop_eq_nil_of_le (by have := HRL.out; omega)] at hd
                have HE := Lib.hid hd
                clear hd H
                go_wp2
                go_round
                case rel => exact ⟨j + 1, by omega, by go_num, by have := HD.out; rw [HE.out] at this; exact this⟩
                case measure => simp [intOf]; omega
          · have hd2 : rowsMay D.length 0 D = false := by
              rw [hd, rowMay, decide_eq_true hrl, hz]; simp [hz0]
            have HD := Lib.hid hd2
            have HRL := Lib.hid hrl
            rw [hrl] at hk
            clear hd hd2 hrl hz g3
            go_wp2_with fail
            go_ret
            exact ⟨ret_bool (by rw [H0.out, HD.out]), rfl⟩
        · have hd2 : rowsMay D.length 0 D = false := by
            rw [hd, rowMay, decide_eq_false hrl]; simp
          have HD := Lib.hid hd2
          clear hd hd2 g3
          go_wp2_with fail
          go_ret
          exact ⟨ret_bool (by rw [H0.out, HD.out]), rfl⟩
      · have hd := H.out
        rw [List.drop_eq_nil_of_le (by omega)] at hd
        have HD := Lib.hid hd
        clear hd H hcell
        go_wp2_with fail
        go_ret
        exact ⟨ret_bool (by rw [H0.out, HD.out]; rfl), rfl⟩
  · have H := Lib.hid (show distMay D n = false by rw [distMay, decide_eq_false hl, Bool.false_and])
    go_enter Try.func25, Try.ntmps25
    go_wp2
    go_ret
    exact ⟨ret_bool H.out.symm, rfl⟩

end Go.Proofs.Ytifdggdpglphmaa
