/- The walk of Way, the reference's. -/
import Derived.Test.YtifdggdpglphmaaW06m
import Derived.Test.YtifdggdpglphmaaOrdG
import Derived.IntWalk
namespace Go.Proofs.Ytifdggdpglphmaa
open Go.RowKit P06

theorem last_get {l : List Int} {n : Nat} {z : Int} (h : l[n]? = some z) (hn : n + 1 = l.length) : l.getLast?.getD 0 = z := by
  rw [List.getLast?_eq_getElem?, ← hn, Nat.add_sub_cancel, h]
  rfl

set_option maxHeartbeats 1000000 in
theorem rway_any (v lv : Value) (x : Inst) (l : List Int) (w : World) (hx : RInst w v x) (hl : RInts w .i64 lv l) (hA : ArcsOk x.dist) (hn : l.length ≤ 1000000) (hc : ∀ z ∈ l, 0 ≤ z ∧ z ≤ 1000000000) :
    Calls Try.prog 17 #[v, lv] w fun e w' => e = .returned (.int .i64 (way x.dist l)) ∧ Below w.heap.size w w' := by
  have HX := Lib.hid hx
  obtain ⟨cv, dv, rfl, hcs, hds⟩ := hx
  obtain ⟨Ac, cc, rfl, -⟩ := hcs.open_
  obtain ⟨Ad, cd, rfl, -⟩ := hds.open_
  obtain ⟨A, c, rfl, hc1, hc2, hcell⟩ := hl.open_
  have HC := Lib.hid hcell
  have HZ := Lib.hid hc
  have HA := Lib.hid hA
  clear hcs hds hcell hc hA hl
  generalize hcv : Value.slice Ac x.custs.length cc = cv at *
  generalize hdv : Value.slice Ad x.dist.length cd = dv at *
  cases l with
  | nil =>
    subst hcv hdv
    simp only [List.length_nil]
    go_enter Try.func17, Try.ntmps17
    go_wp2
    go_ret
    exact ⟨rfl, (Below.refl _ _).alloc (Nat.le_refl _) _⟩
  | cons c0 t0 =>
    have hwe : way x.dist (c0 :: t0) = arc x.dist 0 (c0 + 1) + mid x.dist (c0 :: t0) + arc x.dist (((c0 :: t0).getLast?.getD 0) + 1) 0 := wayFrom_mid x.dist t0 0 c0
    have hz0 : (c0 :: t0)[0]? = some c0 := rfl
    have hlt0 : 0 < (c0 :: t0).length := by simp
    generalize c0 :: t0 = l at *
    obtain ⟨cl, hzl⟩ := some_of_lt (l := l) (i := l.length - 1) (by omega)
    rw [last_get hzl (by omega)] at hwe
    have HWE := Lib.hid hwe
    obtain ⟨b, o, rfl, hb, hk0⟩ := HC.out 0 c0 hz0
    obtain ⟨b', o', he, _, hkl⟩ := HC.out _ cl hzl
    obtain ⟨rfl, rfl⟩ : b = b' ∧ o = o' := by simpa using he
    obtain ⟨z1, z2⟩ := HZ.out c0 (List.mem_of_getElem? hz0)
    obtain ⟨z3, z4⟩ := HZ.out cl (List.mem_of_getElem? hzl)
    rw [Nat.add_zero] at hk0
    have hne : ((l.length : Int) == 0) = false := by rw [beq_eq_false_iff_ne]; omega
    have hne2 : (l.length == 0) = false := by rw [beq_eq_false_iff_ne]; omega
    have hi0 : (0 : Int) < (l.length : Int) := by omega
    have hil : ((l.length : Int) - 1).toNat = l.length - 1 := by omega
    have hi1 : (0 : Int) ≤ (l.length : Int) - 1 := by omega
    have hi2 : (l.length : Int) - 1 < (l.length : Int) := by omega
    have ha0 := HA.out 0 (c0 + 1)
    have ha1 := HA.out (cl + 1) 0
    obtain ⟨m, hm⟩ : ∃ m, m = l.length - 1 := ⟨_, rfl⟩
    rw [← hm] at hkl
    have hlm : l.length = m + 1 := by omega
    have hmb : m ≤ 1000000 := by omega
    clear hwe hil hzl he hz0 hm
    clear hi1 hi2 hne hne2
    have HLM := Lib.hid hlm
    subst hcv hdv
    rw [hlm] at hn hc1 hi0 ⊢
    clear hlm
    have HX1 := HX
    have hw0 : IntKind.i64.wrap (c0 + 1) = c0 + 1 := IntWalk.i64_in _ (by omega)
    have hw1 : IntKind.i64.wrap (cl + 1) = cl + 1 := IntWalk.i64_in _ (by omega)
    have hwm : IntKind.i64.wrap (m : Int) = m := IntWalk.i64_in _ (by omega)
    have hws : IntKind.i64.wrap (arc x.dist 0 (c0 + 1) + arc x.dist (cl + 1) 0) = arc x.dist 0 (c0 + 1) + arc x.dist (cl + 1) 0 := IntWalk.i64_in _ (by omega)
    have hm1 : (m : Int) < (m : Int) + 1 := by omega
    go_enter Try.func17, Try.ntmps17
    go_wp2_with fail
    refine wp_region_G (fun wS => Below w.heap.size w wS ∧ Blk wS w.heap.size 25 [.int .i64 x.days, .int .i64 x.veh, .int .i64 x.cap, .int .i64 x.len, .slice Ac x.custs.length cc, .slice Ad x.dist.length cd]) 17 (listed := #[false, false, false, false, false, false, false, false, false, false, false, false, false, false, false, false, false]) (by kernel_rfl) ?_ (by kernel_rfl) (by kernel_rfl) ?_
    · exact ⟨(below_al (Below.refl _ _) _).drew, Blk.drew (Blk.newAt w _ _ rfl)⟩
    refine wpAnyG_take 0 10 (tm' := ?_) (v := ?_) rfl rfl (by kernel_rfl) (by kernel_rfl) (by kernel_rfl) (listed' := #[true, false, false, false, false, false, false, false, false, false, false, false, false, false, false, false, false]) (by kernel_rfl) (fun _ _ _ h => h) (wanted_none rfl) ?_ ?_ ?_
    rotate_left 2
    · intro w hSw
      (try dsimp only at hSw)
      obtain ⟨hbS, hxS⟩ := hSw
      obtain ⟨q0, q1, q2, q3, q4, q5⟩ := hxS.cells6
      go_simp
      try with_reducible rfl
    · simp only [List.setIfInBounds_toArray, List.set_cons_zero, List.set_cons_succ]; with_reducible rfl
    refine wpAnyG_take 1 11 (tm' := ?_) (v := ?_) rfl rfl (by kernel_rfl) (by kernel_rfl) (by kernel_rfl) (listed' := #[true, true, false, false, false, false, false, false, false, false, false, false, false, false, false, false, false]) (by kernel_rfl) (fun _ _ _ h => h) (wanted_none rfl) ?_ ?_ ?_
    rotate_left 2
    · intro w hSw
      (try dsimp only at hSw)
      go_simp
      try with_reducible rfl
    · simp only [List.setIfInBounds_toArray, List.set_cons_zero, List.set_cons_succ]; with_reducible rfl
    refine wpAnyG_take 2 12 (tm' := ?_) (v := ?_) rfl rfl (by kernel_rfl) (by kernel_rfl) (by kernel_rfl) (listed' := #[true, true, true, false, false, false, false, false, false, false, false, false, false, false, false, false, false]) (by kernel_rfl) (fun _ _ _ h => h) (wanted_none rfl) ?_ ?_ ?_
    rotate_left 2
    · intro w hSw
      (try dsimp only at hSw)
      go_simp
      try with_reducible rfl
    · simp only [List.setIfInBounds_toArray, List.set_cons_zero, List.set_cons_succ]; with_reducible rfl
    refine wpAnyG_take 3 13 (tm' := ?_) (v := ?_) rfl rfl (by kernel_rfl) (by kernel_rfl) (by kernel_rfl) (listed' := #[true, true, true, true, false, false, false, false, false, false, false, false, false, false, false, false, false]) (by kernel_rfl) (fun _ _ _ h => h) (wanted_none rfl) ?_ ?_ ?_
    rotate_left 2
    · intro w hSw
      (try dsimp only at hSw)
      obtain ⟨hbS, hxS⟩ := hSw
      have k0 := (hbS.cell (p := ⟨b, o, none⟩) hb).trans hk0
      go_simp
      try with_reducible rfl
    · simp only [List.setIfInBounds_toArray, List.set_cons_zero, List.set_cons_succ]; with_reducible rfl
    refine wpAnyG_take 4 14 (tm' := ?_) (v := ?_) rfl rfl (by kernel_rfl) (by kernel_rfl) (by kernel_rfl) (listed' := #[true, true, true, true, true, false, false, false, false, false, false, false, false, false, false, false, false]) (by kernel_rfl) (fun _ _ _ h => h) (wanted_none rfl) ?_ ?_ ?_
    rotate_left 2
    · intro w hSw
      (try dsimp only at hSw)
      go_simp
      try with_reducible rfl
    · simp only [List.setIfInBounds_toArray, List.set_cons_zero, List.set_cons_succ]; with_reducible rfl
    refine wpAnyG_call 5 15 (tm' := ?_) (v := .int .i64 (arc x.dist 0 (c0 + 1))) (f := ?_) (args := ?_) rfl rfl (by kernel_rfl) (by kernel_rfl) (by kernel_rfl) (listed' := #[true, true, true, true, true, true, false, false, false, false, false, false, false, false, false, false, false]) (by kernel_rfl) (fun _ _ _ h => h) (wanted_none rfl) ?_ ?_ ?_ ?_
    rotate_left 3
    · intro w
      go_simp
      first | with_reducible rfl | (constructor <;> with_reducible rfl)
    · intro wS hSw
      obtain ⟨hbS, hxS⟩ := hSw
      exact (rarc_any _ x _ _ _ (HX.out.below hbS (Nat.le_refl _))).mono fun e w' ⟨he, hb⟩ => ⟨he, hbS.trans (hb.mono hbS.size), hxS.below hb hxS.lt⟩
    · simp only [List.setIfInBounds_toArray, List.set_cons_zero, List.set_cons_succ]; with_reducible rfl
    refine wpAnyG_take 6 16 (tm' := ?_) (v := ?_) rfl rfl (by kernel_rfl) (by kernel_rfl) (by kernel_rfl) (listed' := #[true, true, true, true, true, true, true, false, false, false, false, false, false, false, false, false, false]) (by kernel_rfl) (fun _ _ _ h => h) (wanted_none rfl) ?_ ?_ ?_
    rotate_left 2
    · intro w hSw
      (try dsimp only at hSw)
      obtain ⟨hbS, hxS⟩ := hSw
      obtain ⟨q0, q1, q2, q3, q4, q5⟩ := hxS.cells6
      go_simp
      try with_reducible rfl
    · simp only [List.setIfInBounds_toArray, List.set_cons_zero, List.set_cons_succ]; with_reducible rfl
    refine wpAnyG_take 7 17 (tm' := ?_) (v := ?_) rfl rfl (by kernel_rfl) (by kernel_rfl) (by kernel_rfl) (listed' := #[true, true, true, true, true, true, true, true, false, false, false, false, false, false, false, false, false]) (by kernel_rfl) (fun _ _ _ h => h) (wanted_none rfl) ?_ ?_ ?_
    rotate_left 2
    · intro w hSw
      (try dsimp only at hSw)
      go_simp
      try with_reducible rfl
    · simp only [List.setIfInBounds_toArray, List.set_cons_zero, List.set_cons_succ]; with_reducible rfl
    refine wpAnyG_take 8 18 (tm' := ?_) (v := ?_) rfl rfl (by kernel_rfl) (by kernel_rfl) (by kernel_rfl) (listed' := #[true, true, true, true, true, true, true, true, true, false, false, false, false, false, false, false, false]) (by kernel_rfl) (fun _ _ _ h => h) (wanted_none rfl) ?_ ?_ ?_
    rotate_left 2
    · intro w hSw
      (try dsimp only at hSw)
      go_simp
      try with_reducible rfl
    · simp only [List.setIfInBounds_toArray, List.set_cons_zero, List.set_cons_succ]; with_reducible rfl
    refine wpAnyG_take 9 19 (tm' := ?_) (v := ?_) rfl rfl (by kernel_rfl) (by kernel_rfl) (by kernel_rfl) (listed' := #[true, true, true, true, true, true, true, true, true, true, false, false, false, false, false, false, false]) (by kernel_rfl) (fun _ _ _ h => h) (wanted_none rfl) ?_ ?_ ?_
    rotate_left 2
    · intro w hSw
      (try dsimp only at hSw)
      go_simp
      try with_reducible rfl
    · simp only [List.setIfInBounds_toArray, List.set_cons_zero, List.set_cons_succ]; with_reducible rfl
    refine wpAnyG_take 10 20 (tm' := ?_) (v := ?_) rfl rfl (by kernel_rfl) (by kernel_rfl) (by kernel_rfl) (listed' := #[true, true, true, true, true, true, true, true, true, true, true, false, false, false, false, false, false]) (by kernel_rfl) (fun _ _ _ h => h) (wanted_none rfl) ?_ ?_ ?_
    rotate_left 2
    · intro w hSw
      (try dsimp only at hSw)
      go_simp
      try with_reducible rfl
    · simp only [List.setIfInBounds_toArray, List.set_cons_zero, List.set_cons_succ]; with_reducible rfl
    refine wpAnyG_take 11 21 (tm' := ?_) (v := ?_) rfl rfl (by kernel_rfl) (by kernel_rfl) (by kernel_rfl) (listed' := #[true, true, true, true, true, true, true, true, true, true, true, true, false, false, false, false, false]) (by kernel_rfl) (fun _ _ _ h => h) (wanted_none rfl) ?_ ?_ ?_
    rotate_left 2
    · intro w hSw
      (try dsimp only at hSw)
      go_simp
      try with_reducible rfl
    · simp only [List.setIfInBounds_toArray, List.set_cons_zero, List.set_cons_succ]; with_reducible rfl
    refine wpAnyG_take 12 22 (tm' := ?_) (v := ?_) rfl rfl (by kernel_rfl) (by kernel_rfl) (by kernel_rfl) (listed' := #[true, true, true, true, true, true, true, true, true, true, true, true, true, false, false, false, false]) (by kernel_rfl) (fun _ _ _ h => h) (wanted_none rfl) ?_ ?_ ?_
    rotate_left 2
    · intro w hSw
      (try dsimp only at hSw)
      obtain ⟨hbS, hxS⟩ := hSw
      have k0 := (hbS.cell (p := ⟨b, o + m, none⟩) hb).trans hkl
      go_simp
      try with_reducible rfl
    · simp only [List.setIfInBounds_toArray, List.set_cons_zero, List.set_cons_succ]; with_reducible rfl
    refine wpAnyG_take 13 23 (tm' := ?_) (v := ?_) rfl rfl (by kernel_rfl) (by kernel_rfl) (by kernel_rfl) (listed' := #[true, true, true, true, true, true, true, true, true, true, true, true, true, true, false, false, false]) (by kernel_rfl) (fun _ _ _ h => h) (wanted_none rfl) ?_ ?_ ?_
    rotate_left 2
    · intro w hSw
      (try dsimp only at hSw)
      go_simp
      try with_reducible rfl
    · simp only [List.setIfInBounds_toArray, List.set_cons_zero, List.set_cons_succ]; with_reducible rfl
    refine wpAnyG_call 14 24 (tm' := ?_) (v := .int .i64 (arc x.dist (cl + 1) 0)) (f := ?_) (args := ?_) rfl rfl (by kernel_rfl) (by kernel_rfl) (by kernel_rfl) (listed' := #[true, true, true, true, true, true, true, true, true, true, true, true, true, true, true, false, false]) (by kernel_rfl) (fun _ _ _ h => h) (wanted_none rfl) ?_ ?_ ?_ ?_
    rotate_left 3
    · intro w
      go_simp
      first | with_reducible rfl | (constructor <;> with_reducible rfl)
    · intro wS hSw
      obtain ⟨hbS, hxS⟩ := hSw
      exact (rarc_any _ x _ _ _ (HX.out.below hbS (Nat.le_refl _))).mono fun e w' ⟨he, hb⟩ => ⟨he, hbS.trans (hb.mono hbS.size), hxS.below hb hxS.lt⟩
    · simp only [List.setIfInBounds_toArray, List.set_cons_zero, List.set_cons_succ]; with_reducible rfl
    refine wpAnyG_take 15 25 (tm' := ?_) (v := ?_) rfl rfl (by kernel_rfl) (by kernel_rfl) (by kernel_rfl) (listed' := #[true, true, true, true, true, true, true, true, true, true, true, true, true, true, true, true, false]) (by kernel_rfl) (fun _ _ _ h => h) (wanted_none rfl) ?_ ?_ ?_
    rotate_left 2
    · intro w hSw
      (try dsimp only at hSw)
      go_simp
      try with_reducible rfl
    · simp only [List.setIfInBounds_toArray, List.set_cons_zero, List.set_cons_succ]; with_reducible rfl
    refine wpAnyG_take 16 5 (tm' := ?_) (v := ?_) rfl rfl (by kernel_rfl) (by kernel_rfl) (by kernel_rfl) (listed' := #[true, true, true, true, true, true, true, true, true, true, true, true, true, true, true, true, true]) (by kernel_rfl) (fun _ _ _ h => h) (wanted_none rfl) ?_ ?_ ?_
    rotate_left 2
    · intro w hSw
      (try dsimp only at hSw)
      go_simp
      try with_reducible rfl
    · simp only [List.setIfInBounds_toArray, List.set_cons_zero, List.set_cons_succ]; with_reducible rfl
    refine wpAnyF_done (by kernel_rfl) ?_
    intro wf hSf
    obtain ⟨hbf, hxf⟩ := hSf
    have hacc0 : Hid (way x.dist l = (arc x.dist 0 (c0 + 1) + arc x.dist (cl + 1) 0) + mid x.dist (l.drop 0)) := by show _ = _; rw [HWE.out, List.drop_zero]; omega
    have hab : 0 ≤ arc x.dist 0 (c0 + 1) + arc x.dist (cl + 1) 0 ∧ arc x.dist 0 (c0 + 1) + arc x.dist (cl + 1) 0 ≤ 4294967296 := by
      clear hw0 hw1 hwm hws
      omega
    clear hw0 hw1 hwm hws hk0 hkl ha0 ha1 HWE z1 z2 z3 z4 hi0
    have HAB := Lib.hid hab
    clear hab
    go_wp2_with fail
    go_loopw [5, 6] (fun sv iv wr => ∃ (j : Nat) (acc : Int), j ≤ m ∧ iv = .int .i64 ((j : Int) + 1) ∧ sv = .int .i64 acc ∧ 0 ≤ acc ∧ acc ≤ 4294967296 + j * 2147483648 ∧ Hid (way x.dist l = acc + mid x.dist (l.drop j)) ∧
        Blk wr w.heap.size 25 [.int .i64 x.days, .int .i64 x.veh, .int .i64 x.cap, .int .i64 x.len, .slice Ac x.custs.length cc, .slice Ad x.dist.length cd] ∧ Below w.heap.size w wr) (fun _ iv _ => m + 1 - (intOf iv).toNat)
    case atStart => exact ⟨0, _, Nat.zero_le _, rfl, rfl, HAB.out.1, by have := HAB.out.2; omega, hacc0, hxf, hbf⟩
    case round =>
      clear hxf hbf hacc0 HAB hb HX
      obtain ⟨j, acc, hj, rfl, rfl, hA0, hA1, HI, hbx, hbel⟩ := hrel
      by_cases hlt : j < m
      · obtain ⟨za, hza⟩ := some_of_lt (l := l) (i := j) (by have := HLM.out; omega)
        obtain ⟨zb, hzb⟩ := some_of_lt (l := l) (i := j + 1) (by have := HLM.out; omega)
        obtain ⟨b1, o1, he1, hb1, hka⟩ := HC.out j za hza
        obtain ⟨rfl, rfl⟩ : b = b1 ∧ o = o1 := by simpa using he1
        obtain ⟨b2, o2, he2, hb2, hkb⟩ := HC.out (j + 1) zb hzb
        obtain ⟨rfl, rfl⟩ : b = b2 ∧ o = o2 := by simpa using he2
        replace hka := (hbel.cell (p := ⟨b, o + j, none⟩) hb1).trans hka
        replace hkb := (hbel.cell (p := ⟨b, o + (j + 1), none⟩) hb1).trans hkb
        have hbw := Nat.lt_of_lt_of_le hb1 hbel.size
        obtain ⟨z1, z2⟩ := HZ.out za (List.mem_of_getElem? hza)
        obtain ⟨z3, z4⟩ := HZ.out zb (List.mem_of_getElem? hzb)
        have hd := HI.out
        rw [drop_some hza, drop_some hzb, mid, ← drop_some hzb] at hd
        have HD := Lib.hid hd
        obtain ⟨hq0, hq1⟩ := HA.out (za + 1) (zb + 1)
        clear HI hza hzb hd he1 he2 hb1 hb2
        have HXW := Lib.hid (HX1.out.below hbel (Nat.le_refl _))
        have hsz := hbel.size
        have hw0 : IntKind.i64.wrap (za + 1) = za + 1 := IntWalk.i64_in _ (by omega)
        have hw1 : IntKind.i64.wrap (zb + 1) = zb + 1 := IntWalk.i64_in _ (by omega)
        have hws : IntKind.i64.wrap (acc + arc x.dist (za + 1) (zb + 1)) = acc + arc x.dist (za + 1) (zb + 1) := IntWalk.i64_in _ (by omega)
        have hj1 : (j : Int) < (m : Int) := by omega
        have hj2 : (0 : Int) ≤ (j : Int) + 1 := by omega
        have hj3 : (j : Int) < (m : Int) + 1 := by omega
        have hj4 : ((j : Int) + 1).toNat = j + 1 := by omega
        have hwj : IntKind.i64.wrap (j : Int) = j := IntWalk.i64_in _ (by omega)
        go_wp2_with fail
        refine wp_region_G (fun wS => Below wr.heap.size wr wS ∧ Blk wS w.heap.size 25 [.int .i64 x.days, .int .i64 x.veh, .int .i64 x.cap, .int .i64 x.len, .slice Ac x.custs.length cc, .slice Ad x.dist.length cd]) 16 (listed := #[false, false, false, false, false, false, false, false, false, false, false, false, false, false, false, false]) (by kernel_rfl) ?_ (by kernel_rfl) (by kernel_rfl) ?_
        · exact ⟨(Below.refl _ _).drew, hbx.drew⟩
        refine wpAnyG_take 0 32 (tm' := ?_) (v := ?_) rfl rfl (by kernel_rfl) (by kernel_rfl) (by kernel_rfl) (listed' := #[true, false, false, false, false, false, false, false, false, false, false, false, false, false, false, false]) (by kernel_rfl) (fun _ _ _ h => h) (wanted_none rfl) ?_ ?_ ?_
        rotate_left 2
        · intro w hSw
          (try dsimp only at hSw)
          go_simp
          try with_reducible rfl
        · simp only [List.setIfInBounds_toArray, List.set_cons_zero, List.set_cons_succ]; with_reducible rfl
        refine wpAnyG_take 1 33 (tm' := ?_) (v := ?_) rfl rfl (by kernel_rfl) (by kernel_rfl) (by kernel_rfl) (listed' := #[true, true, false, false, false, false, false, false, false, false, false, false, false, false, false, false]) (by kernel_rfl) (fun _ _ _ h => h) (wanted_none rfl) ?_ ?_ ?_
        rotate_left 2
        · intro w hSw
          (try dsimp only at hSw)
          obtain ⟨hbS, hxS⟩ := hSw
          obtain ⟨q0, q1, q2, q3, q4, q5⟩ := hxS.cells6
          go_simp
          try with_reducible rfl
        · simp only [List.setIfInBounds_toArray, List.set_cons_zero, List.set_cons_succ]; with_reducible rfl
        refine wpAnyG_take 2 34 (tm' := ?_) (v := ?_) rfl rfl (by kernel_rfl) (by kernel_rfl) (by kernel_rfl) (listed' := #[true, true, true, false, false, false, false, false, false, false, false, false, false, false, false, false]) (by kernel_rfl) (fun _ _ _ h => h) (wanted_none rfl) ?_ ?_ ?_
        rotate_left 2
        · intro w hSw
          (try dsimp only at hSw)
          go_simp
          try with_reducible rfl
        · simp only [List.setIfInBounds_toArray, List.set_cons_zero, List.set_cons_succ]; with_reducible rfl
        refine wpAnyG_take 3 35 (tm' := ?_) (v := ?_) rfl rfl (by kernel_rfl) (by kernel_rfl) (by kernel_rfl) (listed' := #[true, true, true, true, false, false, false, false, false, false, false, false, false, false, false, false]) (by kernel_rfl) (fun _ _ _ h => h) (wanted_none rfl) ?_ ?_ ?_
        rotate_left 2
        · intro w hSw
          (try dsimp only at hSw)
          go_simp
          try with_reducible rfl
        · simp only [List.setIfInBounds_toArray, List.set_cons_zero, List.set_cons_succ]; with_reducible rfl
        refine wpAnyG_take 4 36 (tm' := ?_) (v := ?_) rfl rfl (by kernel_rfl) (by kernel_rfl) (by kernel_rfl) (listed' := #[true, true, true, true, true, false, false, false, false, false, false, false, false, false, false, false]) (by kernel_rfl) (fun _ _ _ h => h) (wanted_none rfl) ?_ ?_ ?_
        rotate_left 2
        · intro w hSw
          (try dsimp only at hSw)
          go_simp
          try with_reducible rfl
        · simp only [List.setIfInBounds_toArray, List.set_cons_zero, List.set_cons_succ]; with_reducible rfl
        refine wpAnyG_take 5 37 (tm' := ?_) (v := ?_) rfl rfl (by kernel_rfl) (by kernel_rfl) (by kernel_rfl) (listed' := #[true, true, true, true, true, true, false, false, false, false, false, false, false, false, false, false]) (by kernel_rfl) (fun _ _ _ h => h) (wanted_none rfl) ?_ ?_ ?_
        rotate_left 2
        · intro w hSw
          (try dsimp only at hSw)
          go_simp
          try with_reducible rfl
        · simp only [List.setIfInBounds_toArray, List.set_cons_zero, List.set_cons_succ]; with_reducible rfl
        refine wpAnyG_take 6 38 (tm' := ?_) (v := ?_) rfl rfl (by kernel_rfl) (by kernel_rfl) (by kernel_rfl) (listed' := #[true, true, true, true, true, true, true, false, false, false, false, false, false, false, false, false]) (by kernel_rfl) (fun _ _ _ h => h) (wanted_none rfl) ?_ ?_ ?_
        rotate_left 2
        · intro w hSw
          (try dsimp only at hSw)
          obtain ⟨hbS, hxS⟩ := hSw
          have k0 := (hbS.cell (p := ⟨b, o + j, none⟩) hbw).trans hka
          go_simp
          try with_reducible rfl
        · simp only [List.setIfInBounds_toArray, List.set_cons_zero, List.set_cons_succ]; with_reducible rfl
        refine wpAnyG_take 7 39 (tm' := ?_) (v := ?_) rfl rfl (by kernel_rfl) (by kernel_rfl) (by kernel_rfl) (listed' := #[true, true, true, true, true, true, true, true, false, false, false, false, false, false, false, false]) (by kernel_rfl) (fun _ _ _ h => h) (wanted_none rfl) ?_ ?_ ?_
        rotate_left 2
        · intro w hSw
          (try dsimp only at hSw)
          go_simp
          try with_reducible rfl
        · simp only [List.setIfInBounds_toArray, List.set_cons_zero, List.set_cons_succ]; with_reducible rfl
        refine wpAnyG_take 8 40 (tm' := ?_) (v := ?_) rfl rfl (by kernel_rfl) (by kernel_rfl) (by kernel_rfl) (listed' := #[true, true, true, true, true, true, true, true, true, false, false, false, false, false, false, false]) (by kernel_rfl) (fun _ _ _ h => h) (wanted_none rfl) ?_ ?_ ?_
        rotate_left 2
        · intro w hSw
          (try dsimp only at hSw)
          go_simp
          try with_reducible rfl
        · simp only [List.setIfInBounds_toArray, List.set_cons_zero, List.set_cons_succ]; with_reducible rfl
        refine wpAnyG_take 9 41 (tm' := ?_) (v := ?_) rfl rfl (by kernel_rfl) (by kernel_rfl) (by kernel_rfl) (listed' := #[true, true, true, true, true, true, true, true, true, true, false, false, false, false, false, false]) (by kernel_rfl) (fun _ _ _ h => h) (wanted_none rfl) ?_ ?_ ?_
        rotate_left 2
        · intro w hSw
          (try dsimp only at hSw)
          go_simp
          try with_reducible rfl
        · simp only [List.setIfInBounds_toArray, List.set_cons_zero, List.set_cons_succ]; with_reducible rfl
        refine wpAnyG_take 10 42 (tm' := ?_) (v := ?_) rfl rfl (by kernel_rfl) (by kernel_rfl) (by kernel_rfl) (listed' := #[true, true, true, true, true, true, true, true, true, true, true, false, false, false, false, false]) (by kernel_rfl) (fun _ _ _ h => h) (wanted_none rfl) ?_ ?_ ?_
        rotate_left 2
        · intro w hSw
          (try dsimp only at hSw)
          go_simp
          try with_reducible rfl
        · simp only [List.setIfInBounds_toArray, List.set_cons_zero, List.set_cons_succ]; with_reducible rfl
        refine wpAnyG_take 11 43 (tm' := ?_) (v := ?_) rfl rfl (by kernel_rfl) (by kernel_rfl) (by kernel_rfl) (listed' := #[true, true, true, true, true, true, true, true, true, true, true, true, false, false, false, false]) (by kernel_rfl) (fun _ _ _ h => h) (wanted_none rfl) ?_ ?_ ?_
        rotate_left 2
        · intro w hSw
          (try dsimp only at hSw)
          obtain ⟨hbS, hxS⟩ := hSw
          have k0 := (hbS.cell (p := ⟨b, o + (j + 1), none⟩) hbw).trans hkb
          go_simp
          try with_reducible rfl
        · simp only [List.setIfInBounds_toArray, List.set_cons_zero, List.set_cons_succ]; with_reducible rfl
        refine wpAnyG_take 12 44 (tm' := ?_) (v := ?_) rfl rfl (by kernel_rfl) (by kernel_rfl) (by kernel_rfl) (listed' := #[true, true, true, true, true, true, true, true, true, true, true, true, true, false, false, false]) (by kernel_rfl) (fun _ _ _ h => h) (wanted_none rfl) ?_ ?_ ?_
        rotate_left 2
        · intro w hSw
          (try dsimp only at hSw)
          go_simp
          try with_reducible rfl
        · simp only [List.setIfInBounds_toArray, List.set_cons_zero, List.set_cons_succ]; with_reducible rfl
        refine wpAnyG_call 13 45 (tm' := ?_) (v := .int .i64 (arc x.dist (za + 1) (zb + 1))) (f := ?_) (args := ?_) rfl rfl (by kernel_rfl) (by kernel_rfl) (by kernel_rfl) (listed' := #[true, true, true, true, true, true, true, true, true, true, true, true, true, true, false, false]) (by kernel_rfl) (fun _ _ _ h => h) (wanted_none rfl) ?_ ?_ ?_ ?_
        rotate_left 3
        · intro w
          go_simp
          first | with_reducible rfl | (constructor <;> with_reducible rfl)
        · intro wS hSw
          obtain ⟨hbS, hxS⟩ := hSw
          exact (rarc_any _ x _ _ _ (HXW.out.below hbS (Nat.le_refl _))).mono fun e w' ⟨he, hb⟩ => ⟨he, hbS.trans (hb.mono hbS.size), hxS.below hb hxS.lt⟩
        · simp only [List.setIfInBounds_toArray, List.set_cons_zero, List.set_cons_succ]; with_reducible rfl
        refine wpAnyG_take 14 46 (tm' := ?_) (v := ?_) rfl rfl (by kernel_rfl) (by kernel_rfl) (by kernel_rfl) (listed' := #[true, true, true, true, true, true, true, true, true, true, true, true, true, true, true, false]) (by kernel_rfl) (fun _ _ _ h => h) (wanted_none rfl) ?_ ?_ ?_
        rotate_left 2
        · intro w hSw
          (try dsimp only at hSw)
          go_simp
          try with_reducible rfl
        · simp only [List.setIfInBounds_toArray, List.set_cons_zero, List.set_cons_succ]; with_reducible rfl
        refine wpAnyG_take 15 5 (tm' := ?_) (v := ?_) rfl rfl (by kernel_rfl) (by kernel_rfl) (by kernel_rfl) (listed' := #[true, true, true, true, true, true, true, true, true, true, true, true, true, true, true, true]) (by kernel_rfl) (fun _ _ _ h => h) (wanted_none rfl) ?_ ?_ ?_
        rotate_left 2
        · intro w hSw
          (try dsimp only at hSw)
          go_simp
          try with_reducible rfl
        · simp only [List.setIfInBounds_toArray, List.set_cons_zero, List.set_cons_succ]; with_reducible rfl
        refine wpAnyF_done (by kernel_rfl) ?_
        intro wf hSf
        obtain ⟨hbf, hxf⟩ := hSf
        clear hw0 hw1 hws hj1 hj2 hj3 hj4 hwj
        go_wp2
        go_roundw
        case rel => exact ⟨j + 1, acc + arc x.dist (za + 1) (zb + 1), by omega, by go_num, rfl, by omega, by push_cast; omega, by have h := HD.out; show _ = _; omega, hxf, hbel.trans (hbf.mono hsz)⟩
        case measure => simp [intOf]; omega
      · obtain rfl : j = m := by omega
        have hd := HI.out
        have hnil : mid x.dist (l.drop j) = 0 := by
          have hlm := HLM.out
          obtain ⟨z, hz⟩ := some_of_lt (l := l) (i := j) (by omega)
          rw [drop_some hz, List.drop_eq_nil_of_le (by omega)]
          rfl
        rw [hnil] at hd
        have HD := Lib.hid hd
        clear HI hd hnil
        go_wp2
        go_ret
        exact ⟨ret_int (by have := HD.out; omega), hbel⟩

end Go.Proofs.Ytifdggdpglphmaa
