/- The walks of Cheap, the program's and the reference's. -/
import Derived.Test.YtifdggdpglphmaaW06m
import Derived.Test.YtifdggdpglphmaaP06f
import Derived.Test.YtifdggdpglphmaaMem2
import Derived.Test.YtifdggdpglphmaaOrdG
namespace Go.Proofs.Ytifdggdpglphmaa
open Go.RowKit P06

def toL (D : List (List Int)) (n k : Nat) : List Int := (List.range k).map fun (i : Nat) => minTo D (i : Int) (n + 1)
def fromL (D : List (List Int)) (n k : Nat) : List Int := (List.range k).map fun (i : Nat) => minFrom D (i : Int) (n + 1)
theorem toL_succ (D : List (List Int)) (n k : Nat) : toL D n (k + 1) = toL D n k ++ [minTo D k (n + 1)] := by simp [toL, List.range_succ]
theorem fromL_succ (D : List (List Int)) (n k : Nat) : fromL D n (k + 1) = fromL D n k ++ [minFrom D k (n + 1)] := by simp [fromL, List.range_succ]
theorem toL_len (D : List (List Int)) (n k : Nat) : (toL D n k).length = k := by simp [toL]
theorem fromL_len (D : List (List Int)) (n k : Nat) : (fromL D n k).length = k := by simp [fromL]

set_option maxHeartbeats 1000000 in
theorem cheap_any (v : Value) (x : Inst) (w : World) (hx : RInst w v x) (hn : x.custs.length ≤ 1000000) :
    Calls Try.prog 18 #[v] w fun e w' => ∃ tv fv, e = .returned (.tuple #[tv, fv]) ∧ RInts w' .i64 tv (toL x.dist x.custs.length x.custs.length) ∧ RInts w' .i64 fv (fromL x.dist x.custs.length x.custs.length) ∧ Below w.heap.size w w' := by
  have HX := Lib.hid hx
  obtain ⟨cv, dv, rfl, ⟨Ac, cc, rfl, -⟩, ⟨Ad, cd, rfl, -⟩⟩ := hx
  go_enter Try.func18, Try.ntmps18
  go_wp2_with fail
  go_loopw [4, 5, 14] (fun cv lv iv wr => ∃ k : Nat, k ≤ x.custs.length ∧ iv = .int .i64 k ∧ wr.ownsRow (w.heap.size + 1) 3 1 cv (toL x.dist x.custs.length k).length ((toL x.dist x.custs.length k).map (Value.int .i64)) ∧
      wr.ownsRow (w.heap.size + 1) 3 1 lv (fromL x.dist x.custs.length k).length ((fromL x.dist x.custs.length k).map (Value.int .i64)) ∧ (∀ g, lv.ownBlock = some g → cv.ownBlock ≠ some g) ∧
      Blk wr w.heap.size 25 [.int .i64 x.days, .int .i64 x.veh, .int .i64 x.cap, .int .i64 x.len, .slice Ac x.custs.length cc, .slice Ad x.dist.length cd] ∧ Below w.heap.size w wr) (fun _ _ iv _ => x.custs.length - (intOf iv).toNat)
  case atStart => exact ⟨0, Nat.zero_le _, rfl, World.ownsRow_nil _ _ _ _, World.ownsRow_nil _ _ _ _, fun g h => by simp [Value.ownBlock] at h, Blk.newAt w _ _ rfl, below_al (Below.refl _ _) _⟩
  case round =>
    obtain ⟨k, hk, rfl, hoc, hol, hne, hbx, hbel⟩ := hrel
    by_cases hlt : k < x.custs.length
    · have HXR := Lib.hid (HX.out.below hbel (Nat.le_refl _))
      have hz := hbx.lt
      have HOC := Lib.hid hoc
      have HOL := Lib.hid hol
      have HNE := Lib.hid hne
      clear hoc hol hne
      go_wp2_with fail
      refine wp_region_G (fun wS => Below wr.heap.size wr wS ∧ Blk wS w.heap.size 25 [.int .i64 x.days, .int .i64 x.veh, .int .i64 x.cap, .int .i64 x.len, .slice Ac x.custs.length cc, .slice Ad x.dist.length cd]) 8 (listed := #[false, false, false, false, false, false, false, false]) (by kernel_rfl) ?_ (by kernel_rfl) (by kernel_rfl) ?_
      · exact ⟨(Below.refl _ _).drew, hbx.drew⟩
      refine wpAnyG_take 0 19 (tm' := ?_) (v := ?_) rfl rfl (by kernel_rfl) (by kernel_rfl) (by kernel_rfl) (listed' := #[true, false, false, false, false, false, false, false]) (by kernel_rfl) (fun _ _ _ h => h) (wanted_none rfl) ?_ ?_ ?_
      rotate_left 2
      · intro w hSw
        (try dsimp only at hSw)
        obtain ⟨hbS, hxS⟩ := hSw
        obtain ⟨q0, q1, q2, q3, q4, q5⟩ := hxS.cells6
        go_simp
        try with_reducible rfl
      · simp only [List.setIfInBounds_toArray, List.set_cons_zero, List.set_cons_succ]; with_reducible rfl
      refine wpAnyG_take 1 20 (tm' := ?_) (v := ?_) rfl rfl (by kernel_rfl) (by kernel_rfl) (by kernel_rfl) (listed' := #[true, true, false, false, false, false, false, false]) (by kernel_rfl) (fun _ _ _ h => h) (wanted_none rfl) ?_ ?_ ?_
      rotate_left 2
      · intro w hSw
        (try dsimp only at hSw)
        go_simp
        try with_reducible rfl
      · simp only [List.setIfInBounds_toArray, List.set_cons_zero, List.set_cons_succ]; with_reducible rfl
      refine wpAnyG_call 2 21 (tm' := ?_) (v := .int .i64 (arc x.dist 0 ((k : Int) + 1))) (f := ?_) (args := ?_) rfl rfl (by kernel_rfl) (by kernel_rfl) (by kernel_rfl) (listed' := #[true, true, true, false, false, false, false, false]) (by kernel_rfl) (fun _ _ _ h => h) (wanted_none rfl) ?_ ?_ ?_ ?_
      rotate_left 3
      · intro w
        go_simp
        first | with_reducible rfl | (constructor <;> with_reducible rfl)
      · intro wS hSw
        obtain ⟨hbS, hxS⟩ := hSw
        exact (arc_any _ x _ _ _ (HXR.out.below hbS (Nat.le_refl _))).mono fun e w' ⟨he, hb⟩ => ⟨he, hbS.trans (hb.mono hbS.size), hxS.below hb hxS.lt⟩
      · simp only [List.setIfInBounds_toArray, List.set_cons_zero, List.set_cons_succ]; with_reducible rfl
      refine wpAnyG_take 3 22 (tm' := ?_) (v := ?_) rfl rfl (by kernel_rfl) (by kernel_rfl) (by kernel_rfl) (listed' := #[true, true, true, true, false, false, false, false]) (by kernel_rfl) (fun _ _ _ h => h) (wanted_none rfl) ?_ ?_ ?_
      rotate_left 2
      · intro w hSw
        (try dsimp only at hSw)
        obtain ⟨hbS, hxS⟩ := hSw
        obtain ⟨q0, q1, q2, q3, q4, q5⟩ := hxS.cells6
        go_simp
        try with_reducible rfl
      · simp only [List.setIfInBounds_toArray, List.set_cons_zero, List.set_cons_succ]; with_reducible rfl
      refine wpAnyG_take 4 23 (tm' := ?_) (v := ?_) rfl rfl (by kernel_rfl) (by kernel_rfl) (by kernel_rfl) (listed' := #[true, true, true, true, true, false, false, false]) (by kernel_rfl) (fun _ _ _ h => h) (wanted_none rfl) ?_ ?_ ?_
      rotate_left 2
      · intro w hSw
        (try dsimp only at hSw)
        go_simp
        try with_reducible rfl
      · simp only [List.setIfInBounds_toArray, List.set_cons_zero, List.set_cons_succ]; with_reducible rfl
      refine wpAnyG_call 5 24 (tm' := ?_) (v := .int .i64 (arc x.dist ((k : Int) + 1) 0)) (f := ?_) (args := ?_) rfl rfl (by kernel_rfl) (by kernel_rfl) (by kernel_rfl) (listed' := #[true, true, true, true, true, true, false, false]) (by kernel_rfl) (fun _ _ _ h => h) (wanted_none rfl) ?_ ?_ ?_ ?_
      rotate_left 3
      · intro w
        go_simp
        first | with_reducible rfl | (constructor <;> with_reducible rfl)
      · intro wS hSw
        obtain ⟨hbS, hxS⟩ := hSw
        exact (arc_any _ x _ _ _ (HXR.out.below hbS (Nat.le_refl _))).mono fun e w' ⟨he, hb⟩ => ⟨he, hbS.trans (hb.mono hbS.size), hxS.below hb hxS.lt⟩
      · simp only [List.setIfInBounds_toArray, List.set_cons_zero, List.set_cons_succ]; with_reducible rfl
      refine wpAnyG_take 6 8 (tm' := ?_) (v := ?_) rfl rfl (by kernel_rfl) (by kernel_rfl) (by kernel_rfl) (listed' := #[true, true, true, true, true, true, true, false]) (by kernel_rfl) (fun _ _ _ h => h) (wanted_none rfl) ?_ ?_ ?_
      rotate_left 2
      · intro w hSw
        (try dsimp only at hSw)
        go_simp
        try with_reducible rfl
      · simp only [List.setIfInBounds_toArray, List.set_cons_zero, List.set_cons_succ]; with_reducible rfl
      refine wpAnyG_take 7 9 (tm' := ?_) (v := ?_) rfl rfl (by kernel_rfl) (by kernel_rfl) (by kernel_rfl) (listed' := #[true, true, true, true, true, true, true, true]) (by kernel_rfl) (fun _ _ _ h => h) (wanted_none rfl) ?_ ?_ ?_
      rotate_left 2
      · intro w hSw
        (try dsimp only at hSw)
        go_simp
        try with_reducible rfl
      · simp only [List.setIfInBounds_toArray, List.set_cons_zero, List.set_cons_succ]; with_reducible rfl
      refine wpAnyF_done (by kernel_rfl) ?_
      intro wf hSf
      obtain ⟨hbf, hxf⟩ := hSf
      obtain ⟨q0, q1, q2, q3, q4, q5⟩ := hxf.cells6
      go_wp2_with fail
      clear q0 q1 q2 q3 q4 q5
      go_loopw [8, 9, 29] (fun inv outv ov wi => ∃ j : Nat, j ≤ x.custs.length + 1 ∧ ov = .int .i64 j ∧ inv = .int .i64 (minTo x.dist k j) ∧ outv = .int .i64 (minFrom x.dist k j) ∧
          Blk wi w.heap.size 25 [.int .i64 x.days, .int .i64 x.veh, .int .i64 x.cap, .int .i64 x.len, .slice Ac x.custs.length cc, .slice Ad x.dist.length cd] ∧ Below wr.heap.size wr wi) (fun _ _ ov _ => x.custs.length + 1 - (intOf ov).toNat)
      case atStart => exact ⟨0, Nat.zero_le _, rfl, rfl, rfl, hxf, hbf⟩
      case round =>
        clear hxf hbf
        obtain ⟨j, hj, rfl, rfl, rfl, hxi, hbi⟩ := hrel
        by_cases hjt : j < x.custs.length + 1
        · by_cases hjk : (j : Int) = (k : Int) + 1
          · have H1 := Lib.hid (minTo_self x.dist k j hjk)
            have H2 := Lib.hid (minFrom_self x.dist k j hjk)
            obtain rfl : j = k + 1 := by omega
            clear hjk
            have hnb : ((((k + 1 : Nat) : Int)) != (k : Int) + 1) = false := by simp
            have hnb2 : ((k : Int) + 1 != (k : Int) + 1) = false := by simp
            go_wp2
            go_roundw
            case rel => exact ⟨k + 1 + 1, by omega, by go_num, by rw [H1.out], by rw [H2.out], hxi, hbi⟩
            case measure => simp [intOf]; omega
          · have H1 := Lib.hid (minTo_other x.dist k j hjk)
            have H2 := Lib.hid (minFrom_other x.dist k j hjk)
            have hnb : ((j : Int) != (k : Int) + 1) = true := by rw [bne_iff_ne]; exact hjk
            have HXI := Lib.hid (HXR.out.below hbi (Nat.le_refl _))
            clear hjk
            have hc1 : (minTo x.dist k j ≤ arc x.dist j (k + 1) ∧ min (minTo x.dist k j) (arc x.dist j (k + 1)) = minTo x.dist k j) ∨ (arc x.dist j (k + 1) < minTo x.dist k j ∧ min (minTo x.dist k j) (arc x.dist j (k + 1)) = arc x.dist j (k + 1)) := by omega
            have hc2 : (minFrom x.dist k j ≤ arc x.dist (k + 1) j ∧ min (minFrom x.dist k j) (arc x.dist (k + 1) j) = minFrom x.dist k j) ∨ (arc x.dist (k + 1) j < minFrom x.dist k j ∧ min (minFrom x.dist k j) (arc x.dist (k + 1) j) = arc x.dist (k + 1) j) := by omega
            rcases hc1 with ⟨hc1, he1⟩ | ⟨hc1, he1⟩
            all_goals
              have HE1 := Lib.hid (H1.out.trans he1)
              clear he1 H1
              rcases hc2 with ⟨hc2, he2⟩ | ⟨hc2, he2⟩
              all_goals
                have HE2 := Lib.hid (H2.out.trans he2)
                clear he2 H2
                obtain ⟨q0, q1, q2, q3, q4, q5⟩ := hxi.cells6
                go_wp2_with fail
                refine (arc_any _ x j ((k : Int) + 1) _ HXI.out).mono ?_
                rintro e w1 ⟨rfl, hb1⟩
                have hx1 := hxi.below hb1 hxi.lt
                have HX1 := Lib.hid (HXI.out.below hb1 (Nat.le_refl _))
                clear q0 q1 q2 q3 q4 q5
                obtain ⟨q0, q1, q2, q3, q4, q5⟩ := hx1.cells6
                go_wp2_with fail
                refine (arc_any _ x ((k : Int) + 1) j _ HX1.out).mono ?_
                rintro e w2 ⟨rfl, hb2⟩
                clear q0 q1 q2 q3 q4 q5
                go_wp2
                go_roundw
                case rel => exact ⟨j + 1, by omega, by go_num, by rw [HE1.out], by rw [HE2.out], hx1.below hb2 hx1.lt, (hbi.trans (hb1.mono hbi.size)).trans (hb2.mono (Nat.le_trans hbi.size hb1.size))⟩
                case measure => simp [intOf]; omega
        · obtain rfl : j = x.custs.length + 1 := by omega
          have hzi := hxi.lt
          have HS1 := Lib.hid (toL_succ x.dist x.custs.length k)
          have HS2 := Lib.hid (fromL_succ x.dist x.custs.length k)
          have hl1 := toL_len x.dist x.custs.length k
          have hl2 := fromL_len x.dist x.custs.length k
          have hoc := HOC.out
          have hol := HOL.out
          replace hoc := own_below hoc hbi (Nat.le_refl _)
          replace hol := own_below hol hbi (Nat.le_refl _)
          have HL1 := Lib.hid hl1
          have HL2 := Lib.hid hl2
          have hn1 : (toL x.dist x.custs.length k).length ≤ 1000000000 := by omega
          have hn2 : (fromL x.dist x.custs.length k).length ≤ 1000000000 := by omega
          clear hl1 hl2
          generalize toL x.dist x.custs.length k = TL at hoc HS1 hn1 HL1
          generalize fromL x.dist x.custs.length k = FL at hol HS2 hn2 HL2
          generalize minTo x.dist k (x.custs.length + 1) = mt at HS1 ⊢
          generalize minFrom x.dist k (x.custs.length + 1) = mf at HS2 ⊢
          go_wp2_with (first
            | (at_builtin; refine wpList_append_two _ rfl (.tmp 48) (.tmp 50) 33 rfl (w.heap.size + 1) 3 _ 1 8 Try.underlying33 iinfo rfl (by decide) (by decide) _ _ _ hoc rfl [.int .i64 mt] _ rfl rfl rfl hn1 hzi ?_; intro g1 cap1 w1 ho1 hw1 hg1 hgl1 hgr1 hb1 hs1; have hol1 := own_other hol hgr1 (HNE.out); have hz1 : w.heap.size + 1 ≤ w1.heap.size := Nat.le_trans hzi (Nat.le_of_lt hs1))
            | (at_builtin; refine wpList_append_two w1 rfl (.tmp 52) (.tmp 54) 33 rfl (w.heap.size + 1) 3 _ 1 8 Try.underlying33 iinfo rfl (by decide) (by decide) _ _ _ hol1 rfl [.int .i64 mf] _ rfl rfl rfl hn2 hz1 ?_; intro g2 cap2 w2 ho2 hw2 hg2 hgl2 hgr2 hb2 hs2))
          go_roundw
          case rel =>
            refine ⟨k + 1, by omega, by go_num, ?_, ?_, ?_, ?_, ?_⟩
            · rw [HS1.out]
              have h := own_other ho1 hgr2 (fun g hg => by
                obtain rfl : g1 = g := by simpa [Value.ownBlock] using hg
                intro he
                rcases hw1 with h | h
                · exact HNE.out _ he h
                · have := (hol1.lt _ he).2
                  have := (hol.lt _ he).2
                  omega)
              simpa using h
            · rw [HS2.out]; simpa using ho2
            · intro g hg he
              obtain rfl : g2 = g := by simpa [Value.ownBlock] using hg
              obtain rfl : g1 = g2 := by simpa [Value.ownBlock] using he
              rcases hw2 with h | h
              · rcases hw1 with h' | h'
                · exact HNE.out _ h h'
                · have := (hol.lt _ h).2
                  omega
              · omega
            · exact (hxi.below hb1 (by omega)).below hb2 (by omega)
            · exact hbel.trans ((hbi.mono hbel.size).trans ((hb1.trans hb2).mono (by omega)))
          case measure => simp [intOf]; omega
    · obtain rfl : k = x.custs.length := by omega
      go_wp2
      go_ret2
      exact ⟨_, _, rfl, RS.of_own hoc, RS.of_own hol, hbel⟩

end Go.Proofs.Ytifdggdpglphmaa
