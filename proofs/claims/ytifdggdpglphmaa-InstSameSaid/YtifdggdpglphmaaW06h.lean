/- The walks of what makes an instance that may be of any: a customer. -/
import Derived.Test.YtifdggdpglphmaaW06e
import Derived.Test.YtifdggdpglphmaaM06b
import Derived.Test.YtifdggdpglphmaaP06c
import Derived.Deep.RegionWith
import Derived.Deep.RegionHeld3
namespace Go.Proofs.Ytifdggdpglphmaa
open Go.RowKit P06

set_option maxHeartbeats 400000 in
theorem round_any (n lo hi : Int) (w : World) (hn : W64 n) (h0 : 0 ≤ lo) (h1 : lo ≤ hi) (h2 : hi ≤ 2147483648) :
    Calls Try.prog 27 #[.int .i64 n, .int .i64 lo, .int .i64 hi] w fun e w' => e = .returned (.int .i64 (rnd n lo hi)) ∧ w = w' := by
  obtain ⟨n1, n2⟩ := hn
  by_cases hs : n < 0
  · have H := Lib.hid (show rnd n lo hi = lo + (-(n + 1)) % (hi - lo + 1) by rw [rnd, if_pos hs])
    obtain ⟨m, hmm⟩ : ∃ m : Int, m = -(n + 1) := ⟨_, rfl⟩
    have hm := Int.emod_nonneg (-(n + 1)) (show hi - lo + 1 ≠ 0 by omega)
    have hm2 := Int.emod_lt_of_pos (-(n + 1)) (show 0 < hi - lo + 1 by omega)
    go_enter Try.func27, Try.ntmps27
    go_wp2
    go_ret
    exact ⟨ret_int (by rw [H.out, ← Int.neg_tmod, Int.tmod_eq_emod_of_nonneg (by omega), IntWalk.wrap64_in _ (by omega)]), rfl⟩
  · have H := Lib.hid (show rnd n lo hi = lo + n % (hi - lo + 1) by rw [rnd, if_neg hs])
    have hm := Int.emod_nonneg n (show hi - lo + 1 ≠ 0 by omega)
    have hm2 := Int.emod_lt_of_pos n (show 0 < hi - lo + 1 by omega)
    go_enter Try.func27, Try.ntmps27
    go_wp2
    go_ret
    exact ⟨ret_int H.out.symm, rfl⟩

set_option maxHeartbeats 1000000 in
theorem good2_any (x : Cust) (days : Int) (pv : Value) (w : World) (hp : RPats w pv x.pats) (hwf : x.wf) (hk : x.kind % 2 = 0) :
    Calls Try.prog 28 #[.agg #[.int .i64 x.kind, .int .i64 x.demand, pv, .int .i64 x.rate, .int .i64 x.size, .int .i64 x.start, .int .i64 x.rule, .int .i64 x.hold], .int .i64 days] w
      fun e w' => e = .returned (.agg #[.int .i64 2, .int .i64 0, .slice none 0 0, .int .i64 (rnd x.rate 0 9), .int .i64 (rnd x.size 1 30), .int .i64 (rnd x.start 0 (rnd x.size 1 30)), .int .i64 (rnd x.rule 1 2), .int .i64 (rnd x.hold 0 4)]) ∧ Below w.heap.size w w' := by
  obtain ⟨A, c, rfl, hc1, hc2, -⟩ := hp.open_
  clear hp
  obtain ⟨k, d, l, r, s, t, u, h⟩ := x
  obtain ⟨k1, -, -, hr, hs, ht, hu, hh⟩ := hwf
  simp only at *
  have hrem : (k.tmod 2 == 0) = true := by
    rw [beq_iff_eq]
    exact (Int.dvd_iff_tmod_eq_zero).1 (Int.dvd_of_emod_eq_zero hk)
  have HR := Lib.hid hr
  have HS := Lib.hid hs
  have HT := Lib.hid ht
  have HU := Lib.hid hu
  have HH := Lib.hid hh
  obtain ⟨k1, k2⟩ := k1
  clear hr hs ht hu hh
  go_enter Try.func28, Try.ntmps28
  go_wp2_with fail
  have HSZ := Lib.hid (rnd_bd s 1 30 (by omega))
  go_region_held3 (fun w' => w'.cell? ⟨w.heap.size, 3, none⟩ = some (.int .i64 r) ∧ w'.cell? ⟨w.heap.size, 4, none⟩ = some (.int .i64 s) ∧ w'.cell? ⟨w.heap.size, 6, none⟩ = some (.int .i64 u) ∧ w'.cell? ⟨w.heap.size, 7, none⟩ = some (.int .i64 h))
    (go_keep)
    (first
      | (go_at_call 27; ((with_reducible refine (round_any r 0 9 _ HR.out (by omega) (by omega) (by omega)).mono ?_); rintro e w' ⟨rfl, rfl⟩))
      | (go_at_call 27; ((with_reducible refine (round_any s 1 30 _ HS.out (by omega) (by omega) (by omega)).mono ?_); rintro e w' ⟨rfl, rfl⟩))
      | (go_at_call 27; ((with_reducible refine (round_any u 1 2 _ HU.out (by omega) (by omega) (by omega)).mono ?_); rintro e w' ⟨rfl, rfl⟩))
      | (go_at_call 27; ((with_reducible refine (round_any h 0 4 _ HH.out (by omega) (by omega) (by omega)).mono ?_); rintro e w' ⟨rfl, rfl⟩)))
  all_goals
    go_wp2_with (go_at_call 27; ((with_reducible refine (round_any t 0 (rnd s 1 30) _ HT.out (by omega) (by have := HSZ.out; omega) (by have := HSZ.out; omega)).mono ?_); rintro e w' ⟨rfl, rfl⟩))
    refine bodyPost_ret (v := .agg #[.int .i64 2, .int .i64 0, .slice none 0 0, .int .i64 (rnd r 0 9), .int .i64 (rnd s 1 30), .int .i64 (rnd t 0 (rnd s 1 30)), .int .i64 (rnd u 1 2), .int .i64 (rnd h 0 4)]) (by simp [results, Try.results28, go_sem]) rfl ⟨rfl, ?_⟩
    repeat' (first | exact Below.refl _ _ | refine Below.drew ?_ | refine below_drewN ?_ _ | refine Below.alloc ?_ ?_ _)
    all_goals first | (simp; done) | (simp; omega)

end Go.Proofs.Ytifdggdpglphmaa
