/- The walk of Cheap, the reference's. -/
import Derived.Test.YtifdggdpglphmaaW06m
import Derived.Test.YtifdggdpglphmaaP06f
namespace Go.Proofs.Ytifdggdpglphmaa
open Go.RowKit P06

set_option maxHeartbeats 1000000 in
theorem rcheap_any (v : Value) (x : Inst) (c : Int) (w : World) (hx : RInst w v x) (hA : ArcsOk x.dist) (hn : x.custs.length ≤ 1000000) (h0 : 0 ≤ c) (h1 : c ≤ 1000000) :
    Calls Try.prog 19 #[v, .int .i64 c] w fun e w' => e = .returned (.tuple #[.int .i64 (minTo x.dist c (x.custs.length + 1)), .int .i64 (minFrom x.dist c (x.custs.length + 1))]) ∧ Below w.heap.size w w' := by
  have HX := Lib.hid hx
  have HA := Lib.hid hA
  obtain ⟨cv, dv, rfl, ⟨Ac, cc, rfl, -⟩, ⟨Ad, cd, rfl, -⟩⟩ := hx
  clear hA
  go_enter Try.func19, Try.ntmps19
  go_wp2_with fail
  go_loopw [6, 7, 8] (fun tv fv ov wr => ∃ k : Nat, k ≤ x.custs.length + 1 ∧ ov = .int .i64 k ∧ tv = .int .i64 (refTo x.dist c k) ∧ fv = .int .i64 (refFrom x.dist c k) ∧
      Blk wr w.heap.size 25 [.int .i64 x.days, .int .i64 x.veh, .int .i64 x.cap, .int .i64 x.len, .slice Ac x.custs.length cc, .slice Ad x.dist.length cd] ∧ Below w.heap.size w wr) (fun _ _ ov _ => x.custs.length + 1 - (intOf ov).toNat)
  case atStart => exact ⟨0, Nat.zero_le _, rfl, rfl, rfl, Blk.newAt w _ _ rfl, below_al (Below.refl _ _) _⟩
  case round =>
    obtain ⟨k, hk, rfl, rfl, rfl, hbx, hbel⟩ := hrel
    obtain ⟨q0, q1, q2, q3, q4, q5⟩ := hbx.cells6
    by_cases hlt : k < x.custs.length + 1
    · have HXR := Lib.hid (HX.out.below hbel (Nat.le_refl _))
      by_cases hkc : (k : Int) = c + 1
      · have H1 : Hid (refTo x.dist c (k + 1) = refTo x.dist c k) := by
          show _ = _
          rw [refTo, refTo, if_neg (by omega), if_neg (by omega), minTo_self _ _ _ hkc]
        have H2 : Hid (refFrom x.dist c (k + 1) = refFrom x.dist c k) := by
          show _ = _
          rw [refFrom, refFrom, if_neg (by omega), if_neg (by omega), minFrom_self _ _ _ hkc]
        have hb : ((k : Int) == c + 1) = true := by rw [beq_iff_eq]; exact hkc
        generalize refTo x.dist c k = t0 at *
        generalize refFrom x.dist c k = f0 at *
        have HKC := Lib.hid hkc
        clear hkc
        go_wp2
        go_roundw
        case rel => exact ⟨k + 1, by omega, by go_num, by rw [H1.out], by rw [H2.out], hbx, hbel⟩
        case measure => simp [intOf]; omega
      · have hb : ((k : Int) == c + 1) = false := by rw [beq_eq_false_iff_ne]; exact hkc
        obtain ⟨a, ha⟩ : ∃ a, a = arc x.dist k (c + 1) := ⟨_, rfl⟩
        obtain ⟨b, hbb⟩ : ∃ b, b = arc x.dist (c + 1) k := ⟨_, rfl⟩
        have habd := HA.out k (c + 1)
        have hbbd := HA.out (c + 1) k
        have htb := minTo_bd x.dist c HA.out k
        have hfb := minFrom_bd x.dist c HA.out k
        rw [← ha] at habd
        rw [← hbb] at hbbd
        have H1 : (refTo x.dist c k < 0 ∧ refTo x.dist c (k + 1) = a) ∨ (0 ≤ refTo x.dist c k ∧ a < refTo x.dist c k ∧ refTo x.dist c (k + 1) = a) ∨ (0 ≤ refTo x.dist c k ∧ refTo x.dist c k ≤ a ∧ refTo x.dist c (k + 1) = refTo x.dist c k) := by
          by_cases hk0 : k = 0
          · subst hk0
            refine .inl ⟨by simp [refTo], ?_⟩
            rw [refTo, if_neg (by omega), minTo_one, ha]
            rfl
          · rw [refTo, refTo, if_neg hk0, if_neg (by omega), minTo_other _ _ _ hkc, ← ha]
            omega
        have H2 : (refFrom x.dist c k < 0 ∧ refFrom x.dist c (k + 1) = b) ∨ (0 ≤ refFrom x.dist c k ∧ b < refFrom x.dist c k ∧ refFrom x.dist c (k + 1) = b) ∨ (0 ≤ refFrom x.dist c k ∧ refFrom x.dist c k ≤ b ∧ refFrom x.dist c (k + 1) = refFrom x.dist c k) := by
          by_cases hk0 : k = 0
          · subst hk0
            refine .inl ⟨by simp [refFrom], ?_⟩
            rw [refFrom, if_neg (by omega), minFrom_one, hbb]
            rfl
          · rw [refFrom, refFrom, if_neg hk0, if_neg (by omega), minFrom_other _ _ _ hkc, ← hbb]
            omega
        have HAA := Lib.hid ha
        have HBB := Lib.hid hbb
        clear ha hbb hkc htb hfb
        generalize refTo x.dist c k = t0 at *
        generalize refFrom x.dist c k = f0 at *
        rcases H1 with ⟨g1, e1⟩ | ⟨g1, g1', e1⟩ | ⟨g1, g1', e1⟩
        all_goals
          have H1 := Lib.hid e1
          clear e1
          rcases H2 with ⟨g2, e2⟩ | ⟨g2, g2', e2⟩ | ⟨g2, g2', e2⟩
          all_goals
            have H2 := Lib.hid e2
            clear e2
            go_wp2_with fail
            refine (rarc_any _ x k (c + 1) _ HXR.out).mono ?_
            rintro e w1 ⟨rfl, hb1⟩
            rw [← HAA.out]
            have hx1 := hbx.below hb1 hbx.lt
            have HX1 := Lib.hid (HXR.out.below hb1 (Nat.le_refl _))
            obtain ⟨r0, r1, r2, r3, r4, r5⟩ := hx1.cells6
            go_wp2_with fail
            refine (rarc_any _ x (c + 1) k _ HX1.out).mono ?_
            rintro e w2 ⟨rfl, hb2⟩
            rw [← HBB.out]
            clear r0 r1 r2 r3 r4 r5
            go_wp2
            go_roundw
            case rel => exact ⟨k + 1, by omega, by go_num, by rw [H1.out], by rw [H2.out], hx1.below hb2 hx1.lt, (hbel.trans (hb1.mono hbel.size)).trans (hb2.mono (Nat.le_trans hbel.size hb1.size))⟩
            case measure => simp [intOf]; omega
    · obtain rfl : k = x.custs.length + 1 := by omega
      have H1 : Hid (refTo x.dist c (x.custs.length + 1) = minTo x.dist c (x.custs.length + 1)) := by show _ = _; rw [refTo, if_neg (by omega)]
      have H2 : Hid (refFrom x.dist c (x.custs.length + 1) = minFrom x.dist c (x.custs.length + 1)) := by show _ = _; rw [refFrom, if_neg (by omega)]
      generalize refTo x.dist c (x.custs.length + 1) = t0 at *
      generalize refFrom x.dist c (x.custs.length + 1) = f0 at *
      go_wp2
      go_ret2
      refine ⟨?_, hbel⟩
      show Ending.returned (.tuple #[.int .i64 t0, .int .i64 f0]) = _
      rw [H1.out, H2.out]

end Go.Proofs.Ytifdggdpglphmaa
