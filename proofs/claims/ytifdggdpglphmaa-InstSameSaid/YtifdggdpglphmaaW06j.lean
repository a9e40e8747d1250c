/- The walks of Arc, the program's and the reference's. -/
import Derived.Test.YtifdggdpglphmaaW06i
namespace Go.Proofs.Ytifdggdpglphmaa
open Go.RowKit P06

theorem arc_some {D : List (List Int)} {i j : Nat} {r : List Int} {z : Int} (h1 : D[i]? = some r) (h2 : r[j]? = some z) : arc D i j = z := by
  rw [arc, if_neg (by omega), Int.toNat_natCast, Int.toNat_natCast, h1]
  simp [h2]
theorem arc_none1 {D : List (List Int)} {a b : Int} (h : a < 0 ∨ b < 0 ∨ (D.length : Int) ≤ a) : arc D a b = 0 := by
  rw [arc]
  split
  · rfl
  · rw [List.getElem?_eq_none (l := D) (by omega)]; simp
theorem arc_none2 {D : List (List Int)} {i j : Nat} {r : List Int} (h1 : D[i]? = some r) (h2 : r.length ≤ j) : arc D i j = 0 := by
  rw [arc, if_neg (by omega), Int.toNat_natCast, Int.toNat_natCast, h1]
  simp [List.getElem?_eq_none h2]

set_option maxHeartbeats 1000000 in
theorem arc_any (v : Value) (x : Inst) (a b : Int) (w : World) (hx : RInst w v x) :
    Calls Try.prog 14 #[v, .int .i64 a, .int .i64 b] w fun e w' => e = .returned (.int .i64 (arc x.dist a b)) ∧ Below w.heap.size w w' := by
  obtain ⟨cv, dv, rfl, -, hds⟩ := hx
  obtain ⟨A1, c1, rfl, hd1, hd2, hdc⟩ := hds.open_
  clear hds
  obtain ⟨days, veh, cap, len, custs, D⟩ := x
  simp only at hd1 hdc ⊢
  by_cases h0 : a < 0 ∨ b < 0 ∨ (D.length : Int) ≤ a
  · have H := Lib.hid (arc_none1 h0)
    clear hdc
    have h3 : a < 0 ∨ (0 ≤ a ∧ b < 0 ∧ a < D.length) ∨ (0 ≤ a ∧ 0 ≤ b ∧ (D.length : Int) ≤ a) ∨ (0 ≤ a ∧ b < 0 ∧ (D.length : Int) ≤ a) := by omega
    rcases h3 with h1 | ⟨h1, h2, h3⟩ | ⟨h1, h2, h3⟩ | ⟨h1, h2, h3⟩
    all_goals
      clear h0
      go_enter Try.func14, Try.ntmps14
      go_wp2
      go_ret
      exact ⟨ret_int H.out.symm, (Below.refl _ _).alloc (Nat.le_refl _) _⟩
  · obtain ⟨i, rfl⟩ := Int.eq_ofNat_of_zero_le (show 0 ≤ a by omega)
    obtain ⟨j, rfl⟩ := Int.eq_ofNat_of_zero_le (show 0 ≤ b by omega)
    obtain ⟨r, hr⟩ := some_of_lt (l := D) (i := i) (by omega)
    have hi := lt_of_some hr
    obtain ⟨b0, o0, rfl, hb, A2, c2, hk, e1, e2, hrc⟩ := hdc i r hr
    clear hdc h0
    by_cases hj : j < r.length
    · obtain ⟨z, hz⟩ := some_of_lt hj
      obtain ⟨b1, o1, rfl, hb1, hk1⟩ := hrc j z hz
      have H := Lib.hid (arc_some hr hz)
      clear hr hz hrc
      go_enter Try.func14, Try.ntmps14
      go_wp2
      go_ret
      exact ⟨ret_int H.out.symm, (Below.refl _ _).alloc (Nat.le_refl _) _⟩
    · have H := Lib.hid (arc_none2 (j := j) hr (by omega))
      clear hr hrc
      go_enter Try.func14, Try.ntmps14
      go_wp2
      go_ret
      exact ⟨ret_int H.out.symm, (Below.refl _ _).alloc (Nat.le_refl _) _⟩

set_option maxHeartbeats 1000000 in
theorem rarc_any (v : Value) (x : Inst) (a b : Int) (w : World) (hx : RInst w v x) :
    Calls Try.prog 15 #[v, .int .i64 a, .int .i64 b] w fun e w' => e = .returned (.int .i64 (arc x.dist a b)) ∧ Below w.heap.size w w' := by
  obtain ⟨cv, dv, rfl, -, hds⟩ := hx
  obtain ⟨A1, c1, rfl, hd1, hd2, hdc⟩ := hds.open_
  clear hds
  obtain ⟨days, veh, cap, len, custs, D⟩ := x
  simp only at hd1 hdc ⊢
  by_cases h0 : a < 0 ∨ b < 0 ∨ (D.length : Int) ≤ a
  · have H := Lib.hid (arc_none1 h0)
    clear hdc
    have h3 : a < 0 ∨ (0 ≤ a ∧ b < 0 ∧ a < D.length) ∨ (0 ≤ a ∧ 0 ≤ b ∧ (D.length : Int) ≤ a) ∨ (0 ≤ a ∧ b < 0 ∧ (D.length : Int) ≤ a) := by omega
    rcases h3 with h1 | ⟨h1, h2, h3⟩ | ⟨h1, h2, h3⟩ | ⟨h1, h2, h3⟩
    all_goals
      clear h0
      go_enter Try.func15, Try.ntmps15
      go_wp2
      go_ret
      exact ⟨ret_int H.out.symm, (Below.refl _ _).alloc (Nat.le_refl _) _⟩
  · obtain ⟨i, rfl⟩ := Int.eq_ofNat_of_zero_le (show 0 ≤ a by omega)
    obtain ⟨j, rfl⟩ := Int.eq_ofNat_of_zero_le (show 0 ≤ b by omega)
    obtain ⟨r, hr⟩ := some_of_lt (l := D) (i := i) (by omega)
    have hi := lt_of_some hr
    obtain ⟨b0, o0, rfl, hb, A2, c2, hk, e1, e2, hrc⟩ := hdc i r hr
    clear hdc h0
    by_cases hj : j < r.length
    · obtain ⟨z, hz⟩ := some_of_lt hj
      obtain ⟨b1, o1, rfl, hb1, hk1⟩ := hrc j z hz
      have H := Lib.hid (arc_some hr hz)
      clear hr hz hrc
      go_enter Try.func15, Try.ntmps15
      go_wp2
      go_ret
      exact ⟨ret_int H.out.symm, (Below.refl _ _).alloc (Nat.le_refl _) _⟩
    · have H := Lib.hid (arc_none2 (j := j) hr (by omega))
      clear hr hrc
      go_enter Try.func15, Try.ntmps15
      go_wp2
      go_ret
      exact ⟨ret_int H.out.symm, (Below.refl _ _).alloc (Nat.le_refl _) _⟩

end Go.Proofs.Ytifdggdpglphmaa
