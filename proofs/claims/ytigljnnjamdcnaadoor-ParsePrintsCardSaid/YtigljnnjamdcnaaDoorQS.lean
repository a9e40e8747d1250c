/-
  The walk of the reference's comparison of lists of numbers.
  The walk of the reference's comparison of customers.
-/
import Derived.Test.YtigljnnjamdcnaaDoorQD
import Derived.Test.YtigljnnjamdcnaaDoorQH
import Derived.Test.YtigljnnjamdcnaaDoorQB
import Derived.Deep.QuietTactic
import Derived.BigQuiet
namespace Go.Proofs.YtigljnnjamdcnaaDoor
open Go.RowKit P06

set_option maxHeartbeats 1000000 in
theorem requal_ints (lv mv : Value) (l m : List Int) (w : World) (hl : RInts w .i64 lv l) (hm : RInts w .i64 mv m) :
    Calls Tryd.prog 37 #[lv, mv] w fun e w' => e = .returned (.bool (intsEq l m)) ∧ ∃ n, w' = w.drewN n := by
  obtain ⟨A, c, rfl, h1, h2, hlc⟩ := hl.open_
  obtain ⟨A', c', rfl, h1', h2', hmc⟩ := hm.open_
  have HL := Lib.hid hlc
  have HM := Lib.hid hmc
  clear hlc hmc hl hm
  by_cases hlen : l.length = m.length
  rotate_left
  · have H := Lib.hid (eqAll_len (fun a b => a == b) l m hlen)
    have hne : ((l.length : Int) != (m.length : Int)) = true := by rw [bne_iff_ne]; omega
    clear hlen
    go_enter Tryd.func37, Tryd.ntmps37
    go_wp2
    go_ret
    exact ⟨ret_bool H.out.symm, 0, rfl⟩
  · have HE := Lib.hid hlen
    have hne : ((l.length : Int) != (m.length : Int)) = false := by rw [bne_eq_false_iff_eq]; omega
    clear hlen
    go_enter Tryd.func37, Tryd.ntmps37
    go_wp2_with fail
    clear hne
    go_loopw [5] (fun iv wr => ∃ (k nd : Nat), k ≤ l.length ∧ iv = .int .i64 k ∧ wr = w.drewN nd ∧ Hid (intsEq l m = eqAll (fun a b => a == b) (l.drop k) (m.drop k))) (fun iv _ => l.length - (intOf iv).toNat)
    case atStart => exact ⟨0, 0, Nat.zero_le _, rfl, rfl, rfl⟩
    case round =>
      obtain ⟨k, nd, hk, rfl, rfl, HI⟩ := hrel
      by_cases hlt : k < l.length
      · obtain ⟨a, ha⟩ := some_of_lt hlt
        have hltm : k < m.length := by have := HE.out; omega
        obtain ⟨b, hb⟩ := some_of_lt hltm
        have HS := Lib.hid (HI.out.trans (eqAll_step _ ha hb))
        obtain ⟨b0, o0, rfl, hb0, hk0⟩ := HL.out k a ha
        obtain ⟨b1, o1, rfl, hb1, hk1⟩ := HM.out k b hb
        clear ha hb
        by_cases hab : a = b
        · subst hab
          go_wp2_with fail
          go_quiet (fail)
          go_wp2
          go_roundw
          case rel => exact ⟨k + 1, _, by omega, by go_num, rfl, by have := HS.out; rw [beq_self_eq_true, Bool.true_and] at this; exact this⟩
          case measure => simp [intOf]; omega
        · have hne : (a != b) = true := by rw [bne_iff_ne]; omega
          have HF : Hid (intsEq l m = false) := by
            have := HS.out
            rw [show (a == b) = false from by rw [beq_eq_false_iff_ne]; exact hab, Bool.false_and] at this
            exact this
          clear hab
          go_wp2_with fail
          go_quiet (fail)
          go_wp2
          go_ret
          exact ⟨ret_bool HF.out.symm, _, World.drewN_drewN _ _ _⟩
      · have H := Lib.hid (HI.out.trans (eqAll_end _ (by omega) (by have := HE.out; omega)))
        go_wp2
        go_ret
        exact ⟨ret_bool H.out.symm, _, rfl⟩
end Go.Proofs.YtigljnnjamdcnaaDoor

namespace Go.Proofs.YtigljnnjamdcnaaDoor
open Go.RowKit P06

set_option maxHeartbeats 4000000 in
theorem rsameCust_any (x y : Cust) (pv qv : Value) (w : World) (hp : RPats w pv x.pats) (hq : RPats w qv y.pats) :
    Calls Tryd.prog 36 #[.agg #[.int .i64 x.kind, .int .i64 x.demand, pv, .int .i64 x.rate, .int .i64 x.size, .int .i64 x.start, .int .i64 x.rule, .int .i64 x.hold], .agg #[.int .i64 y.kind, .int .i64 y.demand, qv, .int .i64 y.rate, .int .i64 y.size, .int .i64 y.start, .int .i64 y.rule, .int .i64 y.hold]] w fun e w' => e = .returned (.bool (custEq x y)) ∧ Below w.heap.size w w' := by
  obtain ⟨k1, d1, p1, r1, s1, t1, u1, h1⟩ := x
  obtain ⟨k2, d2, p2, r2, s2, t2, u2, h2⟩ := y
  simp only at hp hq ⊢
  have HP := Lib.hid hp
  have HQ := Lib.hid hq
  obtain ⟨A, c, rfl, q1, q2, hpc⟩ := hp.open_
  obtain ⟨A', c', rfl, q1', q2', hqc⟩ := hq.open_
  have HPC := Lib.hid hpc
  have HQC := Lib.hid hqc
  clear hp hq hpc hqc
  by_cases e : k1 = k2
  rotate_left
  · have HF := Lib.hid (custEq_f1 (a := ⟨k1, d1, p1, r1, s1, t1, u1, h1⟩) (b := ⟨k2, d2, p2, r2, s2, t2, u2, h2⟩) (fun h => e (by simp only at h; omega)))
    have hne : (k1 != k2) = true := by rw [bne_iff_ne]; exact e
    clear e
    go_enter Tryd.func36, Tryd.ntmps36
    go_wp2_with fail
    go_wp2
    go_ret
    exact ⟨ret_bool HF.out.symm, (((Below.refl w.heap.size w).alloc (Nat.le_refl _) _).alloc (by simp) _)⟩
  subst e
  by_cases e : d1 = d2
  rotate_left
  · have HF := Lib.hid (custEq_f1 (a := ⟨k1, d1, p1, r1, s1, t1, u1, h1⟩) (b := ⟨k1, d2, p2, r2, s2, t2, u2, h2⟩) (fun h => e (by simp only at h; omega)))
    have hne : (d1 != d2) = true := by rw [bne_iff_ne]; exact e
    clear e
    go_enter Tryd.func36, Tryd.ntmps36
    go_wp2_with fail
    go_wp2
    go_ret
    exact ⟨ret_bool HF.out.symm, (((Below.refl w.heap.size w).alloc (Nat.le_refl _) _).alloc (by simp) _)⟩
  subst e
  by_cases e : r1 = r2
  rotate_left
  · have HF := Lib.hid (custEq_f1 (a := ⟨k1, d1, p1, r1, s1, t1, u1, h1⟩) (b := ⟨k1, d1, p2, r2, s2, t2, u2, h2⟩) (fun h => e (by simp only at h; omega)))
    have hne : (r1 != r2) = true := by rw [bne_iff_ne]; exact e
    clear e
    go_enter Tryd.func36, Tryd.ntmps36
    go_wp2_with fail
    go_wp2
    go_ret
    exact ⟨ret_bool HF.out.symm, (((Below.refl w.heap.size w).alloc (Nat.le_refl _) _).alloc (by simp) _)⟩
  subst e
  by_cases e : s1 = s2
  rotate_left
  · have HF := Lib.hid (custEq_f1 (a := ⟨k1, d1, p1, r1, s1, t1, u1, h1⟩) (b := ⟨k1, d1, p2, r1, s2, t2, u2, h2⟩) (fun h => e (by simp only at h; omega)))
    have hne : (s1 != s2) = true := by rw [bne_iff_ne]; exact e
    clear e
    go_enter Tryd.func36, Tryd.ntmps36
    go_wp2_with fail
    go_wp2
    go_ret
    exact ⟨ret_bool HF.out.symm, (((Below.refl w.heap.size w).alloc (Nat.le_refl _) _).alloc (by simp) _)⟩
  subst e
  by_cases e : t1 = t2
  rotate_left
  · have HF := Lib.hid (custEq_f1 (a := ⟨k1, d1, p1, r1, s1, t1, u1, h1⟩) (b := ⟨k1, d1, p2, r1, s1, t2, u2, h2⟩) (fun h => e (by simp only at h; omega)))
    have hne : (t1 != t2) = true := by rw [bne_iff_ne]; exact e
    clear e
    go_enter Tryd.func36, Tryd.ntmps36
    go_wp2_with fail
    go_wp2
    go_ret
    exact ⟨ret_bool HF.out.symm, (((Below.refl w.heap.size w).alloc (Nat.le_refl _) _).alloc (by simp) _)⟩
  subst e
  by_cases e : u1 = u2
  rotate_left
  · have HF := Lib.hid (custEq_f1 (a := ⟨k1, d1, p1, r1, s1, t1, u1, h1⟩) (b := ⟨k1, d1, p2, r1, s1, t1, u2, h2⟩) (fun h => e (by simp only at h; omega)))
    have hne : (u1 != u2) = true := by rw [bne_iff_ne]; exact e
    clear e
    go_enter Tryd.func36, Tryd.ntmps36
    go_wp2_with fail
    go_wp2
    go_ret
    exact ⟨ret_bool HF.out.symm, (((Below.refl w.heap.size w).alloc (Nat.le_refl _) _).alloc (by simp) _)⟩
  subst e
  by_cases e : h1 = h2
  rotate_left
  · have HF := Lib.hid (custEq_f1 (a := ⟨k1, d1, p1, r1, s1, t1, u1, h1⟩) (b := ⟨k1, d1, p2, r1, s1, t1, u1, h2⟩) (fun h => e (by simp only at h; omega)))
    have hne : (h1 != h2) = true := by rw [bne_iff_ne]; exact e
    clear e
    go_enter Tryd.func36, Tryd.ntmps36
    go_wp2_with fail
    go_wp2
    go_ret
    exact ⟨ret_bool HF.out.symm, (((Below.refl w.heap.size w).alloc (Nat.le_refl _) _).alloc (by simp) _)⟩
  subst e
  have HT := Lib.hid (custEq_t (a := ⟨k1, d1, p1, r1, s1, t1, u1, h1⟩) (b := ⟨k1, d1, p2, r1, s1, t1, u1, h1⟩) ⟨rfl, rfl, rfl, rfl, rfl, rfl, rfl⟩)
  by_cases hlen : p1.length = p2.length
  rotate_left
  · have HF := Lib.hid (custEq_fp (a := ⟨k1, d1, p1, r1, s1, t1, u1, h1⟩) (b := ⟨k1, d1, p2, r1, s1, t1, u1, h1⟩) (eqAll_len (fun a b => a == b) p1 p2 hlen))
    have hne : ((p1.length : Int) != (p2.length : Int)) = true := by rw [bne_iff_ne]; omega
    clear hlen
    go_enter Tryd.func36, Tryd.ntmps36
    go_wp2_with fail
    go_wp2
    go_ret
    exact ⟨ret_bool HF.out.symm, (((Below.refl w.heap.size w).alloc (Nat.le_refl _) _).alloc (by simp) _)⟩
  have hne : ((p1.length : Int) != (p2.length : Int)) = false := by rw [bne_eq_false_iff_eq]; omega
  have HE := Lib.hid hlen
  clear hlen
  go_enter Tryd.func36, Tryd.ntmps36
  go_wp2_with fail
  clear hne
  go_loopw [5] (fun iv wr => ∃ (k nd : Nat), k ≤ p1.length ∧ iv = .int .i64 k ∧ wr = ((w.alloc (.cells #[.int .i64 k1, .int .i64 d1, .slice A p1.length c, .int .i64 r1, .int .i64 s1, .int .i64 t1, .int .i64 u1, .int .i64 h1] 41)).alloc (.cells #[.int .i64 k1, .int .i64 d1, .slice A' p2.length c', .int .i64 r1, .int .i64 s1, .int .i64 t1, .int .i64 u1, .int .i64 h1] 41)).drewN nd ∧ Hid (patsEq p1 p2 = eqAll (fun a b => a == b) (p1.drop k) (p2.drop k))) (fun iv _ => p1.length - (intOf iv).toNat)
  case atStart => exact ⟨0, 0, Nat.zero_le _, rfl, rfl, rfl⟩
  case round =>
    obtain ⟨k, nd, hk, rfl, rfl, HI⟩ := hrel
    by_cases hlt : k < p1.length
    · obtain ⟨a, ha⟩ := some_of_lt hlt
      have hltm : k < p2.length := by have := HE.out; omega
      obtain ⟨b, hb⟩ := some_of_lt hltm
      have HS := Lib.hid (HI.out.trans (eqAll_step _ ha hb))
      obtain ⟨b0, o0, rfl, hb0, hk0⟩ := HPC.out k a ha
      obtain ⟨b1, o1, rfl, hb1, hk1⟩ := HQC.out k b hb
      have n0 : b0 ≠ w.heap.size := by omega
      have n1 : b1 ≠ w.heap.size := by omega
      have n2 : b0 ≠ w.heap.size + 1 := by omega
      have n3 : b1 ≠ w.heap.size + 1 := by omega
      clear ha hb
      by_cases hab : a = b
      · subst hab
        go_wp2_with fail
        go_quiet (fail)
        go_wp2
        go_roundw
        case rel => exact ⟨k + 1, _, by omega, by go_num, rfl, by have := HS.out; rw [beq_self_eq_true, Bool.true_and] at this; exact this⟩
        case measure => simp [intOf]; omega
      · have hne : ((a : Int) != (b : Int)) = true := by rw [bne_iff_ne]; omega
        have HF : Hid (custEq ⟨k1, d1, p1, r1, s1, t1, u1, h1⟩ ⟨k1, d1, p2, r1, s1, t1, u1, h1⟩ = false) := by
          have := HS.out
          rw [show (a == b) = false from by rw [beq_eq_false_iff_ne]; exact hab, Bool.false_and] at this
          exact HT.out.trans this
        clear hab
        go_wp2_with fail
        go_quiet (fail)
        go_wp2
        go_ret
        exact ⟨ret_bool HF.out.symm, below_drewN (below_drewN (((Below.refl w.heap.size w).alloc (Nat.le_refl _) _).alloc (by simp) _) _) _⟩
    · have H := Lib.hid (HT.out.trans (HI.out.trans (eqAll_end _ (by omega) (by have := HE.out; omega))))
      go_wp2
      go_ret
      exact ⟨ret_bool H.out.symm, (below_drewN (((Below.refl w.heap.size w).alloc (Nat.le_refl _) _).alloc (by simp) _) _)⟩

end Go.Proofs.YtigljnnjamdcnaaDoor
