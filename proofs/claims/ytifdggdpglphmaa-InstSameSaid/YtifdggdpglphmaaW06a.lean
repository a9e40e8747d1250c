/- The walks of what a customer must be. -/
import Derived.Test.YtifdggdpglphmaaWday
import Derived.Test.YtifdggdpglphmaaM06
namespace Go.Proofs.Ytifdggdpglphmaa
open Go.RowKit P06

set_option maxHeartbeats 400000 in
theorem from_any (n lo hi : Int) (w : World) :
    Calls Try.prog 23 #[.int .i64 n, .int .i64 lo, .int .i64 hi] w fun e w' => e = .returned (.bool (fromB n lo hi)) ∧ w = w' := by
  by_cases h : lo ≤ n
  · have H := Lib.hid (show fromB n lo hi = decide (n ≤ hi) by simp [fromB, h])
    go_enter Try.func23, Try.ntmps23
    go_wp2
    go_ret
    exact ⟨ret_bool H.out.symm, rfl⟩
  · have H := Lib.hid (show fromB n lo hi = false by simp [fromB, h])
    go_enter Try.func23, Try.ntmps23
    go_wp2
    go_ret
    exact ⟨ret_bool H.out.symm, rfl⟩

set_option maxHeartbeats 400000 in
theorem demands_any (k d r s t u h days : Int) (pv : Value) (w : World) :
    Calls Try.prog 40 #[.agg #[.int .i64 k, .int .i64 d, pv, .int .i64 r, .int .i64 s, .int .i64 t, .int .i64 u, .int .i64 h, .int .i64 days]] w fun e w' => e = .returned (.bool (fromB d 1 2147483648)) ∧ Below w.heap.size w w' := by
  go_enter Try.func40, Try.ntmps40
  go_wp2_with (go_at_call 23; refine (from_any _ _ _ _).mono ?_; rintro e w' ⟨rfl, rfl⟩)
  all_goals
    go_ret
    exact ⟨rfl, (Below.refl _ _).alloc (Nat.le_refl _) _⟩

set_option maxHeartbeats 400000 in
theorem uses_any (k d r s t u h days : Int) (pv : Value) (w : World) :
    Calls Try.prog 43 #[.agg #[.int .i64 k, .int .i64 d, pv, .int .i64 r, .int .i64 s, .int .i64 t, .int .i64 u, .int .i64 h, .int .i64 days]] w fun e w' => e = .returned (.bool (fromB r 0 2147483648)) ∧ Below w.heap.size w w' := by
  go_enter Try.func43, Try.ntmps43
  go_wp2_with (go_at_call 23; refine (from_any _ _ _ _).mono ?_; rintro e w' ⟨rfl, rfl⟩)
  all_goals
    go_ret
    exact ⟨rfl, (Below.refl _ _).alloc (Nat.le_refl _) _⟩

set_option maxHeartbeats 400000 in
theorem sized_any (k d r s t u h days : Int) (pv : Value) (w : World) :
    Calls Try.prog 44 #[.agg #[.int .i64 k, .int .i64 d, pv, .int .i64 r, .int .i64 s, .int .i64 t, .int .i64 u, .int .i64 h, .int .i64 days]] w fun e w' => e = .returned (.bool (fromB s 1 2147483648)) ∧ Below w.heap.size w w' := by
  go_enter Try.func44, Try.ntmps44
  go_wp2_with (go_at_call 23; refine (from_any _ _ _ _).mono ?_; rintro e w' ⟨rfl, rfl⟩)
  all_goals
    go_ret
    exact ⟨rfl, (Below.refl _ _).alloc (Nat.le_refl _) _⟩

set_option maxHeartbeats 400000 in
theorem started_any (k d r s t u h days : Int) (pv : Value) (w : World) :
    Calls Try.prog 45 #[.agg #[.int .i64 k, .int .i64 d, pv, .int .i64 r, .int .i64 s, .int .i64 t, .int .i64 u, .int .i64 h, .int .i64 days]] w fun e w' => e = .returned (.bool (fromB t 0 s)) ∧ Below w.heap.size w w' := by
  go_enter Try.func45, Try.ntmps45
  go_wp2_with (go_at_call 23; refine (from_any _ _ _ _).mono ?_; rintro e w' ⟨rfl, rfl⟩)
  all_goals
    go_ret
    exact ⟨rfl, (Below.refl _ _).alloc (Nat.le_refl _) _⟩

set_option maxHeartbeats 400000 in
theorem holds_any (k d r s t u h days : Int) (pv : Value) (w : World) :
    Calls Try.prog 47 #[.agg #[.int .i64 k, .int .i64 d, pv, .int .i64 r, .int .i64 s, .int .i64 t, .int .i64 u, .int .i64 h, .int .i64 days]] w fun e w' => e = .returned (.bool (fromB h 0 1024)) ∧ Below w.heap.size w w' := by
  go_enter Try.func47, Try.ntmps47
  go_wp2_with (go_at_call 23; refine (from_any _ _ _ _).mono ?_; rintro e w' ⟨rfl, rfl⟩)
  all_goals
    go_ret
    exact ⟨rfl, (Below.refl _ _).alloc (Nat.le_refl _) _⟩

set_option maxHeartbeats 400000 in
theorem tankless_any (k d r s t u h days : Int) (pv : Value) (w : World) :
    Calls Try.prog 42 #[.agg #[.int .i64 k, .int .i64 d, pv, .int .i64 r, .int .i64 s, .int .i64 t, .int .i64 u, .int .i64 h, .int .i64 days]] w fun e w' => e = .returned (.bool (r == 0 && s == 0 && t == 0 && u == 0 && h == 0)) ∧ Below w.heap.size w w' := by
  go_enter Try.func42, Try.ntmps42
  go_wp2
  all_goals
    go_ret
    exact ⟨ret_bool (by simp [*]), (Below.refl _ _).alloc (Nat.le_refl _) _⟩

set_option maxHeartbeats 400000 in
theorem ruled_any (k d r s t u h days : Int) (pv : Value) (w : World) :
    Calls Try.prog 46 #[.agg #[.int .i64 k, .int .i64 d, pv, .int .i64 r, .int .i64 s, .int .i64 t, .int .i64 u, .int .i64 h, .int .i64 days]] w fun e w' => e = .returned (.bool (u == 1 || u == 2)) ∧ Below w.heap.size w w' := by
  go_enter Try.func46, Try.ntmps46
  go_wp2
  all_goals
    go_ret
    exact ⟨ret_bool (by simp [*]), (Below.refl _ _).alloc (Nat.le_refl _) _⟩

end Go.Proofs.Ytifdggdpglphmaa
