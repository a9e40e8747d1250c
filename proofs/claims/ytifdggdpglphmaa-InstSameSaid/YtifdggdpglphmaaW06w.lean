/- The walks of the comparisons of lists of numbers. -/
import Derived.Test.YtifdggdpglphmaaW06m
import Derived.Test.YtifdggdpglphmaaP06g
import Derived.Deep.QuietTactic
import Derived.BigQuiet
namespace Go.Proofs.Ytifdggdpglphmaa
open Go.RowKit P06

set_option maxHeartbeats 1000000 in
theorem equal_ints (lv mv : Value) (l m : List Int) (w : World) (hl : RInts w .i64 lv l) (hm : RInts w .i64 mv m) :
    Calls Try.prog 32 #[lv, mv] w fun e w' => e = .returned (.bool (intsEq l m)) ∧ ∃ n, w' = w.drewN n := by
  obtain ⟨A, c, rfl, h1, h2, hlc⟩ := hl.open_
  obtain ⟨A', c', rfl, h1', h2', hmc⟩ := hm.open_
  have HL := Lib.hid hlc
  have HM := Lib.hid hmc
  clear hlc hmc hl hm
  by_cases hlen : l.length = m.length
  rotate_left
  · have H := Lib.hid (eqAll_len (fun a b => a == b) l m hlen)
    have hne : ((l.length : Int) != (m.length : Int)) = true := by rw [bne_iff_ne]; omega
    clear hlen
    go_enter Try.func32, Try.ntmps32
    go_wp2
    go_ret
    exact ⟨ret_bool H.out.symm, 0, rfl⟩
  · have HE := Lib.hid hlen
    have hne : ((l.length : Int) != (m.length : Int)) = false := by rw [bne_eq_false_iff_eq]; omega
    clear hlen
    go_enter Try.func32, Try.ntmps32
    go_wp2_with fail
    clear hne
    go_loopw [13] (fun iv wr => ∃ (k nd : Nat), k ≤ l.length ∧ iv = .int .i64 k ∧ wr = w.drewN nd ∧ Hid (intsEq l m = eqAll (fun a b => a == b) (l.drop k) (m.drop k))) (fun iv _ => l.length - (intOf iv).toNat)
    case atStart => exact ⟨0, 0, Nat.zero_le _, rfl, rfl, rfl⟩
    case round =>
      obtain ⟨k, nd, hk, rfl, rfl, HI⟩ := hrel
      by_cases hlt : k < l.length
      · obtain ⟨a, ha⟩ := some_of_lt hlt
        have hltm : k < m.length := by have := HE.out; omega
        obtain ⟨b, hb⟩ := some_of_lt hltm
        have HS := Lib.hid (HI.out.trans (eqAll_step _ ha hb))
        obtain ⟨b0, o0, rfl, hb0, hk0⟩ := HL.out k a ha
        obtain ⟨b1, o1, rfl, hb1, hk1⟩ := HM.out k b hb
        clear ha hb
        by_cases hab : a = b
        · subst hab
          go_wp2_with fail
          go_quiet (fail)
          go_wp2
          go_roundw
          case rel => exact ⟨k + 1, _, by omega, by go_num, rfl, by have := HS.out; rw [beq_self_eq_true, Bool.true_and] at this; exact this⟩
          case measure => simp [intOf]; omega
        · have hne : (a != b) = true := by rw [bne_iff_ne]; omega
          have HF : Hid (intsEq l m = false) := by
            have := HS.out
            rw [show (a == b) = false from by rw [beq_eq_false_iff_ne]; exact hab, Bool.false_and] at this
            exact this
          clear hab
          go_wp2_with fail
          go_quiet (fail)
          go_wp2
          go_ret
          exact ⟨ret_bool HF.out.symm, _, World.drewN_drewN _ _ _⟩
      · have H := Lib.hid (HI.out.trans (eqAll_end _ (by omega) (by have := HE.out; omega)))
        go_wp2
        go_ret
        exact ⟨ret_bool H.out.symm, _, rfl⟩

set_option maxHeartbeats 1000000 in
theorem equal_pats (lv mv : Value) (l m : List Nat) (w : World) (hl : RPats w lv l) (hm : RPats w mv m) :
    Calls Try.prog 39 #[lv, mv] w fun e w' => e = .returned (.bool (patsEq l m)) ∧ ∃ n, w' = w.drewN n := by
  obtain ⟨A, c, rfl, h1, h2, hlc⟩ := hl.open_
  obtain ⟨A', c', rfl, h1', h2', hmc⟩ := hm.open_
  have HL := Lib.hid hlc
  have HM := Lib.hid hmc
  clear hlc hmc hl hm
  by_cases hlen : l.length = m.length
  rotate_left
  · have H := Lib.hid (eqAll_len (fun a b => a == b) l m hlen)
    have hne : ((l.length : Int) != (m.length : Int)) = true := by rw [bne_iff_ne]; omega
    clear hlen
    go_enter Try.func39, Try.ntmps39
    go_wp2
    go_ret
    exact ⟨ret_bool H.out.symm, 0, rfl⟩
  · have HE := Lib.hid hlen
    have hne : ((l.length : Int) != (m.length : Int)) = false := by rw [bne_eq_false_iff_eq]; omega
    clear hlen
    go_enter Try.func39, Try.ntmps39
    go_wp2_with fail
    clear hne
    go_loopw [13] (fun iv wr => ∃ (k nd : Nat), k ≤ l.length ∧ iv = .int .i64 k ∧ wr = w.drewN nd ∧ Hid (patsEq l m = eqAll (fun a b => a == b) (l.drop k) (m.drop k))) (fun iv _ => l.length - (intOf iv).toNat)
    case atStart => exact ⟨0, 0, Nat.zero_le _, rfl, rfl, rfl⟩
    case round =>
      obtain ⟨k, nd, hk, rfl, rfl, HI⟩ := hrel
      by_cases hlt : k < l.length
      · obtain ⟨a, ha⟩ := some_of_lt hlt
        have hltm : k < m.length := by have := HE.out; omega
        obtain ⟨b, hb⟩ := some_of_lt hltm
        have HS := Lib.hid (HI.out.trans (eqAll_step _ ha hb))
        obtain ⟨b0, o0, rfl, hb0, hk0⟩ := HL.out k a ha
        obtain ⟨b1, o1, rfl, hb1, hk1⟩ := HM.out k b hb
        clear ha hb
        by_cases hab : a = b
        · subst hab
          go_wp2_with fail
          go_quiet (fail)
          go_wp2
          go_roundw
          case rel => exact ⟨k + 1, _, by omega, by go_num, rfl, by have := HS.out; rw [beq_self_eq_true, Bool.true_and] at this; exact this⟩
          case measure => simp [intOf]; omega
        · have hne : ((a : Int) != (b : Int)) = true := by rw [bne_iff_ne]; omega
          have HF : Hid (patsEq l m = false) := by
            have := HS.out
            rw [show (a == b) = false from by rw [beq_eq_false_iff_ne]; exact hab, Bool.false_and] at this
            exact this
          clear hab
          go_wp2_with fail
          go_quiet (fail)
          go_wp2
          go_ret
          exact ⟨ret_bool HF.out.symm, _, World.drewN_drewN _ _ _⟩
      · have H := Lib.hid (HI.out.trans (eqAll_end _ (by omega) (by have := HE.out; omega)))
        go_wp2
        go_ret
        exact ⟨ret_bool H.out.symm, _, rfl⟩

set_option maxHeartbeats 1000000 in
theorem requal_ints (lv mv : Value) (l m : List Int) (w : World) (hl : RInts w .i64 lv l) (hm : RInts w .i64 mv m) :
    Calls Try.prog 34 #[lv, mv] w fun e w' => e = .returned (.bool (intsEq l m)) ∧ ∃ n, w' = w.drewN n := by
  obtain ⟨A, c, rfl, h1, h2, hlc⟩ := hl.open_
  obtain ⟨A', c', rfl, h1', h2', hmc⟩ := hm.open_
  have HL := Lib.hid hlc
  have HM := Lib.hid hmc
  clear hlc hmc hl hm
  by_cases hlen : l.length = m.length
  rotate_left
  · have H := Lib.hid (eqAll_len (fun a b => a == b) l m hlen)
    have hne : ((l.length : Int) != (m.length : Int)) = true := by rw [bne_iff_ne]; omega
    clear hlen
    go_enter Try.func34, Try.ntmps34
    go_wp2
    go_ret
    exact ⟨ret_bool H.out.symm, 0, rfl⟩
  · have HE := Lib.hid hlen
    have hne : ((l.length : Int) != (m.length : Int)) = false := by rw [bne_eq_false_iff_eq]; omega
    clear hlen
    go_enter Try.func34, Try.ntmps34
    go_wp2_with fail
    clear hne
    go_loopw [5] (fun iv wr => ∃ (k nd : Nat), k ≤ l.length ∧ iv = .int .i64 k ∧ wr = w.drewN nd ∧ Hid (intsEq l m = eqAll (fun a b => a == b) (l.drop k) (m.drop k))) (fun iv _ => l.length - (intOf iv).toNat)
    case atStart => exact ⟨0, 0, Nat.zero_le _, rfl, rfl, rfl⟩
    case round =>
      obtain ⟨k, nd, hk, rfl, rfl, HI⟩ := hrel
      by_cases hlt : k < l.length
      · obtain ⟨a, ha⟩ := some_of_lt hlt
        have hltm : k < m.length := by have := HE.out; omega
        obtain ⟨b, hb⟩ := some_of_lt hltm
        have HS := Lib.hid (HI.out.trans (eqAll_step _ ha hb))
        obtain ⟨b0, o0, rfl, hb0, hk0⟩ := HL.out k a ha
        obtain ⟨b1, o1, rfl, hb1, hk1⟩ := HM.out k b hb
        clear ha hb
        by_cases hab : a = b
        · subst hab
          go_wp2_with fail
          go_quiet (fail)
          go_wp2
          go_roundw
          case rel => exact ⟨k + 1, _, by omega, by go_num, rfl, by have := HS.out; rw [beq_self_eq_true, Bool.true_and] at this; exact this⟩
          case measure => simp [intOf]; omega
        · have hne : (a != b) = true := by rw [bne_iff_ne]; omega
          have HF : Hid (intsEq l m = false) := by
            have := HS.out
            rw [show (a == b) = false from by rw [beq_eq_false_iff_ne]; exact hab, Bool.false_and] at this
            exact this
          clear hab
          go_wp2_with fail
          go_quiet (fail)
          go_wp2
          go_ret
          exact ⟨ret_bool HF.out.symm, _, World.drewN_drewN _ _ _⟩
      · have H := Lib.hid (HI.out.trans (eqAll_end _ (by omega) (by have := HE.out; omega)))
        go_wp2
        go_ret
        exact ⟨ret_bool H.out.symm, _, rfl⟩
end Go.Proofs.Ytifdggdpglphmaa
