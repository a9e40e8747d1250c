/- The walks of the program's sets of days. -/
import Derived.Test.YtifdggdpglphmaaW02
namespace Go.Proofs.Ytifdggdpglphmaa
open Go.RowKit

theorem and1 (q : Nat) (h : q < 18446744073709551616) : (bits BinOp.and IntKind.u64 (q : Int) 1 == 1) = decide (q % 2 = 1) := by
  rw [and_one_u64 _ (by omega) (by omega), Bool.eq_iff_iff]
  simp
  omega

set_option maxHeartbeats 400000 in
theorem dhas_any (s : Nat) (hs : s < 18446744073709551616) (d : Int) (w : World) :
    Calls Try.prog 54 #[.int .u64 s, .int .i64 d] w fun e w' => e = .returned (.bool (P02.has s d)) ∧ w = w' := by
  by_cases h0 : 0 ≤ d ∧ d < 64
  · obtain ⟨k, rfl⟩ := Int.eq_ofNat_of_zero_le h0.1
    obtain ⟨h1, h2⟩ := h0
    go_enter Try.func54, Try.ntmps54
    go_wp2
    go_ret
    refine ⟨ret_bool ?_, rfl⟩
    have e : ((s : Int) / 2 ^ k) = ((s / 2 ^ k : Nat) : Int) := by simp
    have hq : s / 2 ^ k < 18446744073709551616 := Nat.lt_of_le_of_lt (Nat.div_le_self _ _) hs
    rw [e, and1 _ hq, P02.has, Int.toNat_natCast, decide_eq_true (show 0 ≤ (k : Int) by omega), decide_eq_true (show (k : Int) ≤ 63 by omega)]
    simp
  · have hr : P02.has s d = false := by simp [P02.has]; omega
    rw [hr]
    clear hr
    by_cases h1 : 0 ≤ d
    all_goals
      go_enter Try.func54, Try.ntmps54
      go_wp2
      go_ret
      exact ⟨rfl, rfl⟩

set_option maxHeartbeats 400000 in
theorem among_any (s : Nat) (hs : s < 18446744073709551616) (d : Int) (w : World) :
    Calls Try.prog 53 #[.func (.func 54) #[.int .u64 s] #[], .int .i64 d] w fun e w' => ∃ v, e = .returned v ∧ RInts w' .i64 v (P02.days s d) ∧ Below w.heap.size w w' := by
  go_enter Try.func53, Try.ntmps53
  obtain ⟨m, hm⟩ : ∃ m : Nat, (d = m ∨ (d < 0 ∧ m = 0)) := by
    by_cases h : 0 ≤ d
    · exact ⟨d.toNat, .inl (by omega)⟩
    · exact ⟨0, .inr ⟨by omega, rfl⟩⟩
  have hm0 : d ≤ m := by omega
  have hst := P02.upTo_start s d m (by omega)
  have hend : 64 ≤ m → P02.days s d = P02.upTo s d m := fun h => by
    rcases hm with rfl | ⟨_, rfl⟩
    · rw [hst, P02.days_upTo]; exact P02.upTo_start s _ 64 (by omega)
    · omega
  obtain ⟨dd, hdd⟩ : ∃ dd, dd = d := ⟨_, rfl⟩
  rw [← hdd] at hst hend hm0
  have HST := Lib.hid hst
  have HEND := Lib.hid hend
  have HM0 := Lib.hid hm0
  have HDD := Lib.hid hdd
  clear hst hdd hend hm0
  rcases hm with rfl | ⟨hd, hm⟩
  rotate_left
  have HM := Lib.hid (show (0 : Int) = m by omega)
  clear hm
  rotate_left
  have HM := Lib.hid (show (m : Int) = m from rfl)
  all_goals
    go_wp2
    go_loopw [5, 6] (fun v dv wr => ∃ k : Nat, m ≤ k ∧ (k ≤ 64 ∨ k = m) ∧ dv = .int .i64 k ∧
        wr.ownsRow (w.heap.size) 3 1 v (P02.upTo s dd k).length ((P02.upTo s dd k).map (Value.int .i64)) ∧ Below w.heap.size w wr) (fun _ dv _ => 64 - (intOf dv).toNat)
    case atStart => exact ⟨m, Nat.le_refl _, .inr rfl, by first | rfl | (rw [HM.out]), by rw [HST.out]; exact World.ownsRow_nil _ _ _ _, Below.refl _ _⟩
    case round =>
      obtain ⟨k, hk0, hk, rfl, hown, hbel⟩ := hrel
      clear HM
      by_cases hlt : k < 64
      · have hL := P02.upTo_len s dd k
        have HS := Lib.hid (P02.upTo_succ s dd k (by have := HM0.out; omega))
        have hhas : P02.has s k = true ∨ P02.has s k = false := by cases P02.has s k <;> simp
        generalize P02.upTo s dd k = L at hL hown HS
        rcases hhas with hq | hq
        · rw [hq] at HS
          have hL2 : L.length ≤ 1000000000 := by omega
          have hbase := hbel.size
          go_wp2_with (first
            | (go_at_call 54; refine (dhas_any s hs _ _).mono ?_; rintro e w' ⟨rfl, rfl⟩; try simp only [hq])
            | (at_builtin; refine wpList_append_one wr rfl _ _ 33 rfl (w.heap.size) 3 _ 1 8 Try.underlying33 iinfo rfl (by decide) (by decide) _ _ _ hown rfl [.int .i64 k] _ rfl rfl rfl hL2 hbase ?_; intro v1 w1 hown1 hb1 hz1))
          go_roundw
          case rel =>
            refine ⟨k + 1, by omega, by omega, by go_num, ?_, ?_⟩
            · rw [HS.out]; simpa using hown1
            · exact hbel.trans hb1
          case measure => simp [intOf]; omega
        · rw [hq] at HS
          go_wp2_with (go_at_call 54; refine (dhas_any s hs _ _).mono ?_; rintro e w' ⟨rfl, rfl⟩; try simp only [hq])
          go_roundw
          case rel =>
            refine ⟨k + 1, by omega, by omega, by go_num, ?_, hbel⟩
            rw [HS.out]; simpa using hown
          case measure => simp [intOf]; omega
      · have he : P02.days s dd = P02.upTo s dd k := by
          by_cases h64 : k ≤ 64
          · obtain rfl : k = 64 := by omega
            rfl
          · obtain rfl : k = m := by omega
            exact HEND.out (by omega)
        have HE := Lib.hid he
        clear he
        go_wp2
        go_ret
        refine ⟨_, rfl, ?_, hbel⟩
        rw [← HDD.out, HE.out]
        exact RS.of_own hown

set_option maxHeartbeats 400000 in
theorem dnext_any (s : Nat) (hs : s < 18446744073709551616) (d : Int) (w : World) :
    Calls Try.prog 52 #[.int .u64 s, .int .i64 d] w fun e w' => e = .returned (.int .i64 (P02.next s d)) ∧ Below w.heap.size w w' := by
  go_enter Try.func52, Try.ntmps52
  have hF : P02.next s d = (P02.days s d).headD (-1) := rfl
  have HF := Lib.hid hF
  clear hF
  go_wp2_with fail
  refine (among_any s hs _ _).mono ?_
  rintro e w1 ⟨v, rfl, hv, hbel⟩
  generalize P02.days s d = l at hv HF
  obtain ⟨A, c, rfl, hc1, hc2, hcell⟩ := hv.open_
  cases l with
  | nil =>
    simp only [List.length_nil] at hc1
    have hl : ([] : List Int).length = 0 := rfl
    rw [hl] at hv ⊢
    clear hcell hl
    go_wp2
    go_ret
    exact ⟨ret_int (by rw [HF.out]; rfl), hbel⟩
  | cons z r =>
    obtain ⟨b, o, rfl, hb, hk⟩ := hcell 0 z rfl
    have hl : (z :: r).length = r.length + 1 := rfl
    rw [Nat.add_zero] at hk
    have hlt : 0 < (z :: r).length := by simp
    clear hcell hl
    generalize (z :: r).length = n at hlt hc1
    go_wp2
    go_ret
    exact ⟨ret_int (by rw [HF.out]; rfl), hbel⟩

end Go.Proofs.Ytifdggdpglphmaa
