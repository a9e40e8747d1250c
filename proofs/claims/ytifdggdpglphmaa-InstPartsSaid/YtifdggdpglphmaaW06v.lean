/- The walk of the statement InstParts. -/
import Derived.Test.YtifdggdpglphmaaW06q
import Derived.Test.YtifdggdpglphmaaP06f
import Derived.Test.YtifdggdpglphmaaOrdG
import Derived.IntWalk
namespace Go.Proofs.Ytifdggdpglphmaa
open Go.RowKit P06

theorem RInts.drop {w : World} {k : IntKind} {b o c n : Nat} {l : List Int} (h : RInts w k (.slice (some ⟨b, o, none⟩) l.length c) l) (hn : n ≤ l.length) : RInts w k (.slice (some ⟨b, o + n, none⟩) (l.length - n) (c - n)) (l.drop n) := by
  obtain ⟨A, c, hv, h1, h2, h3, h4⟩ := h
  injection hv with e1 e2 e3
  subst e1; subst e3
  refine ⟨_, _, by rw [List.length_drop], by rw [List.length_drop]; omega, by omega, by simp, fun hp => ?_⟩
  rw [List.length_drop] at hp
  obtain ⟨b', o', hA, hb, hc⟩ := h4 (by omega)
  obtain ⟨rfl, rfl⟩ : b = b' ∧ o = o' := by simpa using hA
  refine ⟨b, o + n, rfl, hb, fun j u hu => ?_⟩
  rw [Nat.add_assoc]
  refine hc (n + j) u ?_
  rw [← hu, List.getElem?_map, List.getElem?_map, List.getElem?_drop]
theorem way_bd' (D : List (List Int)) (h : ArcsOk D) (l : List Int) : 0 ≤ way D l ∧ way D l ≤ (l.length + 1) * 2147483648 := by
  cases l with
  | nil => simp [way]
  | cons c t => exact way_bd D h (c :: t) 0

set_option maxHeartbeats 2000000 in
theorem instParts_any (v lv : Value) (x : Inst) (l : List Int) (a_ : Int) (w : World) (hx : RInst w v x) (hwf : x.wf) (hl : RInts w .i64 lv l) (hlw : ∀ z ∈ l, W64 z) :
    Calls Try.prog 5 #[v, lv, .int .i64 a_] w fun e w' => e = .returned (.bool true) ∧ Below w.heap.size w w' := by
  have HX := Lib.hid hx
  have HW := Lib.hid hwf
  obtain ⟨cv, dv, rfl, ⟨A1, c1, rfl, -⟩, ⟨A2, c2, rfl, -⟩⟩ := hx
  obtain ⟨A, c, rfl, hc1, hc2, hcell⟩ := hl.open_
  have HC := Lib.hid hcell
  have HZ := Lib.hid hlw
  clear hcell hlw hl hwf
  go_enter Try.func5, Try.ntmps5
  go_wp2_with fail
  refine (goodI_any _ _ _ (HX.out.below (below_al (Below.refl _ _) _) (Nat.le_refl _)) HW.out).mono ?_
  rintro e w2 ⟨v2, rfl, hown, hb2⟩
  have k2 := below_nx (below_al (Below.refl w.heap.size w) _) hb2
  have hyr := hown.reads
  obtain ⟨y, HY⟩ : ∃ y, y = goodP x := ⟨_, rfl⟩
  have HARC := Lib.hid (goodP_arcs x)
  have hy6 := goodP_custs x
  rw [← HY] at hyr HARC hy6
  clear HY hown HX HW
  have HYr := Lib.hid hyr
  obtain ⟨cv3, dv3, rfl, ⟨A3, c3, rfl, -⟩, ⟨A4, c4, rfl, -⟩⟩ := hyr
  go_wp2_with fail
  go_loopw [8, 9] (fun ov iv wr => ∃ (k : Nat) (O : List Int), k ≤ l.length ∧ k ≤ 8 ∧ iv = .int .i64 k ∧
      wr.ownsRow (w2.heap.size + 1) 3 1 ov O.length (O.map (Value.int .i64)) ∧ Hid (∀ c ∈ O, 0 ≤ c ∧ c ≤ 1000000000) ∧ O.length ≤ k ∧
      Blk wr w2.heap.size 25 [.int .i64 y.days, .int .i64 y.veh, .int .i64 y.cap, .int .i64 y.len, .slice A3 y.custs.length c3, .slice A4 y.dist.length c4] ∧ Below w2.heap.size w2 wr) (fun _ iv _ => 8 - (intOf iv).toNat)
  case atStart => exact ⟨0, [], Nat.zero_le _, by omega, rfl, World.ownsRow_nil _ _ _ _, (by show ∀ c ∈ ([] : List Int), _; simp), Nat.le_refl _, Blk.newAt _ _ _ rfl, below_al (Below.refl _ _) _⟩
  case round =>
    obtain ⟨k, O, hk, hk8, rfl, hown, HO, hOk, hyb, hbel⟩ := hrel
    by_cases hlt : k < l.length ∧ k < 8
    · obtain ⟨hlt, hlt8⟩ := hlt
      obtain ⟨z, hz⟩ := some_of_lt hlt
      obtain ⟨b0, o0, rfl, hb, hk0⟩ := HC.out k z hz
      obtain ⟨hz1, hz2⟩ := HZ.out z (List.mem_of_getElem? hz)
      replace hk0 := (k2.cell (p := ⟨b0, o0 + k, none⟩) hb).trans hk0
      replace hk0 := (hbel.cell (p := ⟨b0, o0 + k, none⟩) (Nat.lt_of_lt_of_le hb k2.size)).trans hk0
      have hbw := Nat.lt_of_lt_of_le hb (Nat.le_trans k2.size hbel.size)
      clear hz
      have hkl : (k : Int) < (l.length : Int) := by omega
      have hOwn := Lib.hid hown
      clear hown
      have hcase : z < 0 ∨ (0 ≤ z ∧ (y.custs.length : Int) ≤ z) ∨ (0 ≤ z ∧ z < (y.custs.length : Int)) := by omega
      rcases hcase with h1 | ⟨h1, h2⟩ | ⟨h1, h2⟩
      · go_wp2_with fail
        refine wp_region_G (fun wS => Below wr.heap.size wr wS ∧ Blk wS w2.heap.size 25 [.int .i64 y.days, .int .i64 y.veh, .int .i64 y.cap, .int .i64 y.len, .slice A3 y.custs.length c3, .slice A4 y.dist.length c4]) 15 (listed := #[false, false, false, false, false, false, false, false, false, false, false, false, false, false, false]) (by kernel_rfl) ?_ (by kernel_rfl) (by kernel_rfl) ?_
        · exact ⟨(Below.refl _ _).drew, hyb.drew⟩
        refine wpAnyG_take 0 25 (tm' := ?_) (v := ?_) rfl rfl (by kernel_rfl) (by kernel_rfl) (by kernel_rfl) (listed' := #[true, false, false, false, false, false, false, false, false, false, false, false, false, false, false]) (by kernel_rfl) (fun _ _ _ h => h) (wanted_none rfl) ?_ ?_ ?_
        rotate_left 2
        · intro w hSw
          (try dsimp only at hSw)
          go_simp
          try with_reducible rfl
        · simp only [List.setIfInBounds_toArray, List.set_cons_zero, List.set_cons_succ]; with_reducible rfl
        refine wpAnyG_take 1 26 (tm' := ?_) (v := ?_) rfl rfl (by kernel_rfl) (by kernel_rfl) (by kernel_rfl) (listed' := #[true, true, false, false, false, false, false, false, false, false, false, false, false, false, false]) (by kernel_rfl) (fun _ _ _ h => h) (wanted_none rfl) ?_ ?_ ?_
        rotate_left 2
        · intro w hSw
          (try dsimp only at hSw)
          go_simp
          try with_reducible rfl
        · simp only [List.setIfInBounds_toArray, List.set_cons_zero, List.set_cons_succ]; with_reducible rfl
        refine wpAnyG_take 2 27 (tm' := ?_) (v := ?_) rfl rfl (by kernel_rfl) (by kernel_rfl) (by kernel_rfl) (listed' := #[true, true, true, false, false, false, false, false, false, false, false, false, false, false, false]) (by kernel_rfl) (fun _ _ _ h => h) (wanted_none rfl) ?_ ?_ ?_
        rotate_left 2
        · intro w hSw
          (try dsimp only at hSw)
          go_simp
          try with_reducible rfl
        · simp only [List.setIfInBounds_toArray, List.set_cons_zero, List.set_cons_succ]; with_reducible rfl
        refine wpAnyG_take 3 28 (tm' := ?_) (v := ?_) rfl rfl (by kernel_rfl) (by kernel_rfl) (by kernel_rfl) (listed' := #[true, true, true, true, false, false, false, false, false, false, false, false, false, false, false]) (by kernel_rfl) (fun _ _ _ h => h) (wanted_none rfl) ?_ ?_ ?_
        rotate_left 2
        · intro w hSw
          (try dsimp only at hSw)
          obtain ⟨hbS, hxS⟩ := hSw
          have kk := (hbS.cell (p := ⟨b0, o0 + k, none⟩) hbw).trans hk0
          go_simp
          try with_reducible rfl
        · simp only [List.setIfInBounds_toArray, List.set_cons_zero, List.set_cons_succ]; with_reducible rfl
        refine wpAnyG_take 4 29 (tm' := ?_) (v := .bool false) rfl rfl (by kernel_rfl) (by kernel_rfl) (by kernel_rfl) (listed' := #[true, true, true, true, true, false, false, false, false, false, false, false, false, false, false]) (by kernel_rfl) (fun _ _ _ h => h) (wanted_none rfl) ?_ ?_ ?_
        rotate_left
        · intro w hSw
          (try dsimp only at hSw)
          go_simp
          try with_reducible rfl
        · simp only [List.setIfInBounds_toArray, List.set_cons_zero, List.set_cons_succ]; with_reducible rfl
        refine wpAnyG_take 5 30 (tm' := ?_) (v := .bool false) rfl rfl (by kernel_rfl) (by kernel_rfl) (by kernel_rfl) (listed' := #[true, true, true, true, true, true, false, false, false, false, false, false, false, false, false]) (by kernel_rfl) (fun _ _ _ h => h) (wanted_none rfl) ?_ ?_ ?_
        rotate_left
        · intro w hSw
          (try dsimp only at hSw)
          go_simp
          try with_reducible rfl
        · simp only [List.setIfInBounds_toArray, List.set_cons_zero, List.set_cons_succ]; with_reducible rfl
        refine wpAnyG_skip 6 31 (tm' := ?_) rfl rfl (by kernel_rfl) (by kernel_rfl) (by kernel_rfl) (listed' := #[true, true, true, true, true, true, true, false, false, false, false, false, false, false, false]) (by kernel_rfl) (fun _ _ _ h => h) (wanted_no 5 30 false rfl rfl rfl) ?_ ?_
        rotate_left
        · simp only [List.setIfInBounds_toArray, List.set_cons_zero, List.set_cons_succ]; with_reducible rfl
        refine wpAnyG_skip 7 32 (tm' := ?_) rfl rfl (by kernel_rfl) (by kernel_rfl) (by kernel_rfl) (listed' := #[true, true, true, true, true, true, true, true, false, false, false, false, false, false, false]) (by kernel_rfl) (fun _ _ _ h => h) (wanted_no 5 30 false rfl rfl rfl) ?_ ?_
        rotate_left
        · simp only [List.setIfInBounds_toArray, List.set_cons_zero, List.set_cons_succ]; with_reducible rfl
        refine wpAnyG_skip 8 33 (tm' := ?_) rfl rfl (by kernel_rfl) (by kernel_rfl) (by kernel_rfl) (listed' := #[true, true, true, true, true, true, true, true, true, false, false, false, false, false, false]) (by kernel_rfl) (fun _ _ _ h => h) (wanted_no 5 30 false rfl rfl rfl) ?_ ?_
        rotate_left
        · simp only [List.setIfInBounds_toArray, List.set_cons_zero, List.set_cons_succ]; with_reducible rfl
        refine wpAnyG_skip 9 34 (tm' := ?_) rfl rfl (by kernel_rfl) (by kernel_rfl) (by kernel_rfl) (listed' := #[true, true, true, true, true, true, true, true, true, true, false, false, false, false, false]) (by kernel_rfl) (fun _ _ _ h => h) (wanted_no 5 30 false rfl rfl rfl) ?_ ?_
        rotate_left
        · simp only [List.setIfInBounds_toArray, List.set_cons_zero, List.set_cons_succ]; with_reducible rfl
        refine wpAnyG_skip 10 35 (tm' := ?_) rfl rfl (by kernel_rfl) (by kernel_rfl) (by kernel_rfl) (listed' := #[true, true, true, true, true, true, true, true, true, true, true, false, false, false, false]) (by kernel_rfl) (fun _ _ _ h => h) (wanted_no 5 30 false rfl rfl rfl) ?_ ?_
        rotate_left
        · simp only [List.setIfInBounds_toArray, List.set_cons_zero, List.set_cons_succ]; with_reducible rfl
        refine wpAnyG_skip 11 36 (tm' := ?_) rfl rfl (by kernel_rfl) (by kernel_rfl) (by kernel_rfl) (listed' := #[true, true, true, true, true, true, true, true, true, true, true, true, false, false, false]) (by kernel_rfl) (fun _ _ _ h => h) (wanted_no 5 30 false rfl rfl rfl) ?_ ?_
        rotate_left
        · simp only [List.setIfInBounds_toArray, List.set_cons_zero, List.set_cons_succ]; with_reducible rfl
        refine wpAnyG_skip 12 37 (tm' := ?_) rfl rfl (by kernel_rfl) (by kernel_rfl) (by kernel_rfl) (listed' := #[true, true, true, true, true, true, true, true, true, true, true, true, true, false, false]) (by kernel_rfl) (fun _ _ _ h => h) (wanted_no 5 30 false rfl rfl rfl) ?_ ?_
        rotate_left
        · simp only [List.setIfInBounds_toArray, List.set_cons_zero, List.set_cons_succ]; with_reducible rfl
        refine wpAnyG_skip 13 38 (tm' := ?_) rfl rfl (by kernel_rfl) (by kernel_rfl) (by kernel_rfl) (listed' := #[true, true, true, true, true, true, true, true, true, true, true, true, true, true, false]) (by kernel_rfl) (fun _ _ _ h => h) (wanted_no 5 30 false rfl rfl rfl) ?_ ?_
        rotate_left
        · simp only [List.setIfInBounds_toArray, List.set_cons_zero, List.set_cons_succ]; with_reducible rfl
        refine wpAnyG_take 14 39 (tm' := ?_) (v := .bool false) rfl rfl (by kernel_rfl) (by kernel_rfl) (by kernel_rfl) (listed' := #[true, true, true, true, true, true, true, true, true, true, true, true, true, true, true]) (by kernel_rfl) (fun _ _ _ h => h) (wanted_none rfl) ?_ ?_ ?_
        rotate_left
        · intro w hSw
          (try dsimp only at hSw)
          go_simp
          try with_reducible rfl
        · simp only [List.setIfInBounds_toArray, List.set_cons_zero, List.set_cons_succ]; with_reducible rfl
        refine wpAnyF_done (by kernel_rfl) ?_
        intro wf hSf
        obtain ⟨hbf, hxf⟩ := hSf
        go_wp2
        go_roundw
        case rel => exact ⟨k + 1, O, by omega, by omega, by go_num, own_below hOwn.out hbf (Nat.le_refl _), HO, by omega, hxf, hbel.trans (hbf.mono hbel.size)⟩
        case measure => simp [intOf]; omega
      · go_wp2_with fail
        refine wp_region_G (fun wS => Below wr.heap.size wr wS ∧ Blk wS w2.heap.size 25 [.int .i64 y.days, .int .i64 y.veh, .int .i64 y.cap, .int .i64 y.len, .slice A3 y.custs.length c3, .slice A4 y.dist.length c4]) 15 (listed := #[false, false, false, false, false, false, false, false, false, false, false, false, false, false, false]) (by kernel_rfl) ?_ (by kernel_rfl) (by kernel_rfl) ?_
        · exact ⟨(Below.refl _ _).drew, hyb.drew⟩
        refine wpAnyG_take 0 25 (tm' := ?_) (v := ?_) rfl rfl (by kernel_rfl) (by kernel_rfl) (by kernel_rfl) (listed' := #[true, false, false, false, false, false, false, false, false, false, false, false, false, false, false]) (by kernel_rfl) (fun _ _ _ h => h) (wanted_none rfl) ?_ ?_ ?_
        rotate_left 2
        · intro w hSw
          (try dsimp only at hSw)
          go_simp
          try with_reducible rfl
        · simp only [List.setIfInBounds_toArray, List.set_cons_zero, List.set_cons_succ]; with_reducible rfl
        refine wpAnyG_take 1 26 (tm' := ?_) (v := ?_) rfl rfl (by kernel_rfl) (by kernel_rfl) (by kernel_rfl) (listed' := #[true, true, false, false, false, false, false, false, false, false, false, false, false, false, false]) (by kernel_rfl) (fun _ _ _ h => h) (wanted_none rfl) ?_ ?_ ?_
        rotate_left 2
        · intro w hSw
          (try dsimp only at hSw)
          go_simp
          try with_reducible rfl
        · simp only [List.setIfInBounds_toArray, List.set_cons_zero, List.set_cons_succ]; with_reducible rfl
        refine wpAnyG_take 2 27 (tm' := ?_) (v := ?_) rfl rfl (by kernel_rfl) (by kernel_rfl) (by kernel_rfl) (listed' := #[true, true, true, false, false, false, false, false, false, false, false, false, false, false, false]) (by kernel_rfl) (fun _ _ _ h => h) (wanted_none rfl) ?_ ?_ ?_
        rotate_left 2
        · intro w hSw
          (try dsimp only at hSw)
          go_simp
          try with_reducible rfl
        · simp only [List.setIfInBounds_toArray, List.set_cons_zero, List.set_cons_succ]; with_reducible rfl
        refine wpAnyG_take 3 28 (tm' := ?_) (v := ?_) rfl rfl (by kernel_rfl) (by kernel_rfl) (by kernel_rfl) (listed' := #[true, true, true, true, false, false, false, false, false, false, false, false, false, false, false]) (by kernel_rfl) (fun _ _ _ h => h) (wanted_none rfl) ?_ ?_ ?_
        rotate_left 2
        · intro w hSw
          (try dsimp only at hSw)
          obtain ⟨hbS, hxS⟩ := hSw
          have kk := (hbS.cell (p := ⟨b0, o0 + k, none⟩) hbw).trans hk0
          go_simp
          try with_reducible rfl
        · simp only [List.setIfInBounds_toArray, List.set_cons_zero, List.set_cons_succ]; with_reducible rfl
        refine wpAnyG_take 4 29 (tm' := ?_) (v := .bool true) rfl rfl (by kernel_rfl) (by kernel_rfl) (by kernel_rfl) (listed' := #[true, true, true, true, true, false, false, false, false, false, false, false, false, false, false]) (by kernel_rfl) (fun _ _ _ h => h) (wanted_none rfl) ?_ ?_ ?_
        rotate_left
        · intro w hSw
          (try dsimp only at hSw)
          go_simp
          try with_reducible rfl
        · simp only [List.setIfInBounds_toArray, List.set_cons_zero, List.set_cons_succ]; with_reducible rfl
        refine wpAnyG_take 5 30 (tm' := ?_) (v := .bool true) rfl rfl (by kernel_rfl) (by kernel_rfl) (by kernel_rfl) (listed' := #[true, true, true, true, true, true, false, false, false, false, false, false, false, false, false]) (by kernel_rfl) (fun _ _ _ h => h) (wanted_none rfl) ?_ ?_ ?_
        rotate_left
        · intro w hSw
          (try dsimp only at hSw)
          go_simp
          try with_reducible rfl
        · simp only [List.setIfInBounds_toArray, List.set_cons_zero, List.set_cons_succ]; with_reducible rfl
        refine wpAnyG_take 6 31 (tm' := ?_) (v := ?_) rfl rfl (by kernel_rfl) (by kernel_rfl) (by kernel_rfl) (listed' := #[true, true, true, true, true, true, true, false, false, false, false, false, false, false, false]) (by kernel_rfl) (fun _ _ _ h => h) (wanted_yes 5 30 true rfl rfl rfl) ?_ ?_ ?_
        rotate_left 2
        · intro w hSw
          (try dsimp only at hSw)
          go_simp
          try with_reducible rfl
        · simp only [List.setIfInBounds_toArray, List.set_cons_zero, List.set_cons_succ]; with_reducible rfl
        refine wpAnyG_take 7 32 (tm' := ?_) (v := ?_) rfl rfl (by kernel_rfl) (by kernel_rfl) (by kernel_rfl) (listed' := #[true, true, true, true, true, true, true, true, false, false, false, false, false, false, false]) (by kernel_rfl) (fun _ _ _ h => h) (wanted_yes 5 30 true rfl rfl rfl) ?_ ?_ ?_
        rotate_left 2
        · intro w hSw
          (try dsimp only at hSw)
          go_simp
          try with_reducible rfl
        · simp only [List.setIfInBounds_toArray, List.set_cons_zero, List.set_cons_succ]; with_reducible rfl
        refine wpAnyG_take 8 33 (tm' := ?_) (v := ?_) rfl rfl (by kernel_rfl) (by kernel_rfl) (by kernel_rfl) (listed' := #[true, true, true, true, true, true, true, true, true, false, false, false, false, false, false]) (by kernel_rfl) (fun _ _ _ h => h) (wanted_yes 5 30 true rfl rfl rfl) ?_ ?_ ?_
        rotate_left 2
        · intro w hSw
          (try dsimp only at hSw)
          go_simp
          try with_reducible rfl
        · simp only [List.setIfInBounds_toArray, List.set_cons_zero, List.set_cons_succ]; with_reducible rfl
        refine wpAnyG_take 9 34 (tm' := ?_) (v := ?_) rfl rfl (by kernel_rfl) (by kernel_rfl) (by kernel_rfl) (listed' := #[true, true, true, true, true, true, true, true, true, true, false, false, false, false, false]) (by kernel_rfl) (fun _ _ _ h => h) (wanted_yes 5 30 true rfl rfl rfl) ?_ ?_ ?_
        rotate_left 2
        · intro w hSw
          (try dsimp only at hSw)
          obtain ⟨hbS, hxS⟩ := hSw
          have kk := (hbS.cell (p := ⟨b0, o0 + k, none⟩) hbw).trans hk0
          go_simp
          try with_reducible rfl
        · simp only [List.setIfInBounds_toArray, List.set_cons_zero, List.set_cons_succ]; with_reducible rfl
        refine wpAnyG_take 10 35 (tm' := ?_) (v := ?_) rfl rfl (by kernel_rfl) (by kernel_rfl) (by kernel_rfl) (listed' := #[true, true, true, true, true, true, true, true, true, true, true, false, false, false, false]) (by kernel_rfl) (fun _ _ _ h => h) (wanted_yes 5 30 true rfl rfl rfl) ?_ ?_ ?_
        rotate_left 2
        · intro w hSw
          (try dsimp only at hSw)
          go_simp
          try with_reducible rfl
        · simp only [List.setIfInBounds_toArray, List.set_cons_zero, List.set_cons_succ]; with_reducible rfl
        refine wpAnyG_take 11 36 (tm' := ?_) (v := ?_) rfl rfl (by kernel_rfl) (by kernel_rfl) (by kernel_rfl) (listed' := #[true, true, true, true, true, true, true, true, true, true, true, true, false, false, false]) (by kernel_rfl) (fun _ _ _ h => h) (wanted_yes 5 30 true rfl rfl rfl) ?_ ?_ ?_
        rotate_left 2
        · intro w hSw
          (try dsimp only at hSw)
          obtain ⟨hbS, hxS⟩ := hSw
          obtain ⟨q0, q1, q2, q3, q4, q5⟩ := hxS.cells6
          go_simp
          try with_reducible rfl
        · simp only [List.setIfInBounds_toArray, List.set_cons_zero, List.set_cons_succ]; with_reducible rfl
        refine wpAnyG_take 12 37 (tm' := ?_) (v := ?_) rfl rfl (by kernel_rfl) (by kernel_rfl) (by kernel_rfl) (listed' := #[true, true, true, true, true, true, true, true, true, true, true, true, true, false, false]) (by kernel_rfl) (fun _ _ _ h => h) (wanted_yes 5 30 true rfl rfl rfl) ?_ ?_ ?_
        rotate_left 2
        · intro w hSw
          (try dsimp only at hSw)
          go_simp
          try with_reducible rfl
        · simp only [List.setIfInBounds_toArray, List.set_cons_zero, List.set_cons_succ]; with_reducible rfl
        refine wpAnyG_take 13 38 (tm' := ?_) (v := .bool false) rfl rfl (by kernel_rfl) (by kernel_rfl) (by kernel_rfl) (listed' := #[true, true, true, true, true, true, true, true, true, true, true, true, true, true, false]) (by kernel_rfl) (fun _ _ _ h => h) (wanted_yes 5 30 true rfl rfl rfl) ?_ ?_ ?_
        rotate_left
        · intro w hSw
          (try dsimp only at hSw)
          go_simp
          try with_reducible rfl
        · simp only [List.setIfInBounds_toArray, List.set_cons_zero, List.set_cons_succ]; with_reducible rfl
        refine wpAnyG_take 14 39 (tm' := ?_) (v := .bool false) rfl rfl (by kernel_rfl) (by kernel_rfl) (by kernel_rfl) (listed' := #[true, true, true, true, true, true, true, true, true, true, true, true, true, true, true]) (by kernel_rfl) (fun _ _ _ h => h) (wanted_none rfl) ?_ ?_ ?_
        rotate_left
        · intro w hSw
          (try dsimp only at hSw)
          go_simp
          try with_reducible rfl
        · simp only [List.setIfInBounds_toArray, List.set_cons_zero, List.set_cons_succ]; with_reducible rfl
        refine wpAnyF_done (by kernel_rfl) ?_
        intro wf hSf
        obtain ⟨hbf, hxf⟩ := hSf
        go_wp2
        go_roundw
        case rel => exact ⟨k + 1, O, by omega, by omega, by go_num, own_below hOwn.out hbf (Nat.le_refl _), HO, by omega, hxf, hbel.trans (hbf.mono hbel.size)⟩
        case measure => simp [intOf]; omega
      · go_wp2_with fail
        refine wp_region_G (fun wS => Below wr.heap.size wr wS ∧ Blk wS w2.heap.size 25 [.int .i64 y.days, .int .i64 y.veh, .int .i64 y.cap, .int .i64 y.len, .slice A3 y.custs.length c3, .slice A4 y.dist.length c4]) 15 (listed := #[false, false, false, false, false, false, false, false, false, false, false, false, false, false, false]) (by kernel_rfl) ?_ (by kernel_rfl) (by kernel_rfl) ?_
        · exact ⟨(Below.refl _ _).drew, hyb.drew⟩
        refine wpAnyG_take 0 25 (tm' := ?_) (v := ?_) rfl rfl (by kernel_rfl) (by kernel_rfl) (by kernel_rfl) (listed' := #[true, false, false, false, false, false, false, false, false, false, false, false, false, false, false]) (by kernel_rfl) (fun _ _ _ h => h) (wanted_none rfl) ?_ ?_ ?_
        rotate_left 2
        · intro w hSw
          (try dsimp only at hSw)
          go_simp
          try with_reducible rfl
        · simp only [List.setIfInBounds_toArray, List.set_cons_zero, List.set_cons_succ]; with_reducible rfl
        refine wpAnyG_take 1 26 (tm' := ?_) (v := ?_) rfl rfl (by kernel_rfl) (by kernel_rfl) (by kernel_rfl) (listed' := #[true, true, false, false, false, false, false, false, false, false, false, false, false, false, false]) (by kernel_rfl) (fun _ _ _ h => h) (wanted_none rfl) ?_ ?_ ?_
        rotate_left 2
        · intro w hSw
          (try dsimp only at hSw)
          go_simp
          try with_reducible rfl
        · simp only [List.setIfInBounds_toArray, List.set_cons_zero, List.set_cons_succ]; with_reducible rfl
        refine wpAnyG_take 2 27 (tm' := ?_) (v := ?_) rfl rfl (by kernel_rfl) (by kernel_rfl) (by kernel_rfl) (listed' := #[true, true, true, false, false, false, false, false, false, false, false, false, false, false, false]) (by kernel_rfl) (fun _ _ _ h => h) (wanted_none rfl) ?_ ?_ ?_
        rotate_left 2
        · intro w hSw
          (try dsimp only at hSw)
          go_simp
          try with_reducible rfl
        · simp only [List.setIfInBounds_toArray, List.set_cons_zero, List.set_cons_succ]; with_reducible rfl
        refine wpAnyG_take 3 28 (tm' := ?_) (v := ?_) rfl rfl (by kernel_rfl) (by kernel_rfl) (by kernel_rfl) (listed' := #[true, true, true, true, false, false, false, false, false, false, false, false, false, false, false]) (by kernel_rfl) (fun _ _ _ h => h) (wanted_none rfl) ?_ ?_ ?_
        rotate_left 2
        · intro w hSw
          (try dsimp only at hSw)
          obtain ⟨hbS, hxS⟩ := hSw
          have kk := (hbS.cell (p := ⟨b0, o0 + k, none⟩) hbw).trans hk0
          go_simp
          try with_reducible rfl
        · simp only [List.setIfInBounds_toArray, List.set_cons_zero, List.set_cons_succ]; with_reducible rfl
        refine wpAnyG_take 4 29 (tm' := ?_) (v := .bool true) rfl rfl (by kernel_rfl) (by kernel_rfl) (by kernel_rfl) (listed' := #[true, true, true, true, true, false, false, false, false, false, false, false, false, false, false]) (by kernel_rfl) (fun _ _ _ h => h) (wanted_none rfl) ?_ ?_ ?_
        rotate_left
        · intro w hSw
          (try dsimp only at hSw)
          go_simp
          try with_reducible rfl
        · simp only [List.setIfInBounds_toArray, List.set_cons_zero, List.set_cons_succ]; with_reducible rfl
        refine wpAnyG_take 5 30 (tm' := ?_) (v := .bool true) rfl rfl (by kernel_rfl) (by kernel_rfl) (by kernel_rfl) (listed' := #[true, true, true, true, true, true, false, false, false, false, false, false, false, false, false]) (by kernel_rfl) (fun _ _ _ h => h) (wanted_none rfl) ?_ ?_ ?_
        rotate_left
        · intro w hSw
          (try dsimp only at hSw)
          go_simp
          try with_reducible rfl
        · simp only [List.setIfInBounds_toArray, List.set_cons_zero, List.set_cons_succ]; with_reducible rfl
        refine wpAnyG_take 6 31 (tm' := ?_) (v := ?_) rfl rfl (by kernel_rfl) (by kernel_rfl) (by kernel_rfl) (listed' := #[true, true, true, true, true, true, true, false, false, false, false, false, false, false, false]) (by kernel_rfl) (fun _ _ _ h => h) (wanted_yes 5 30 true rfl rfl rfl) ?_ ?_ ?_
        rotate_left 2
        · intro w hSw
          (try dsimp only at hSw)
          go_simp
          try with_reducible rfl
        · simp only [List.setIfInBounds_toArray, List.set_cons_zero, List.set_cons_succ]; with_reducible rfl
        refine wpAnyG_take 7 32 (tm' := ?_) (v := ?_) rfl rfl (by kernel_rfl) (by kernel_rfl) (by kernel_rfl) (listed' := #[true, true, true, true, true, true, true, true, false, false, false, false, false, false, false]) (by kernel_rfl) (fun _ _ _ h => h) (wanted_yes 5 30 true rfl rfl rfl) ?_ ?_ ?_
        rotate_left 2
        · intro w hSw
          (try dsimp only at hSw)
          go_simp
          try with_reducible rfl
        · simp only [List.setIfInBounds_toArray, List.set_cons_zero, List.set_cons_succ]; with_reducible rfl
        refine wpAnyG_take 8 33 (tm' := ?_) (v := ?_) rfl rfl (by kernel_rfl) (by kernel_rfl) (by kernel_rfl) (listed' := #[true, true, true, true, true, true, true, true, true, false, false, false, false, false, false]) (by kernel_rfl) (fun _ _ _ h => h) (wanted_yes 5 30 true rfl rfl rfl) ?_ ?_ ?_
        rotate_left 2
        · intro w hSw
          (try dsimp only at hSw)
          go_simp
          try with_reducible rfl
        · simp only [List.setIfInBounds_toArray, List.set_cons_zero, List.set_cons_succ]; with_reducible rfl
        refine wpAnyG_take 9 34 (tm' := ?_) (v := ?_) rfl rfl (by kernel_rfl) (by kernel_rfl) (by kernel_rfl) (listed' := #[true, true, true, true, true, true, true, true, true, true, false, false, false, false, false]) (by kernel_rfl) (fun _ _ _ h => h) (wanted_yes 5 30 true rfl rfl rfl) ?_ ?_ ?_
        rotate_left 2
        · intro w hSw
          (try dsimp only at hSw)
          obtain ⟨hbS, hxS⟩ := hSw
          have kk := (hbS.cell (p := ⟨b0, o0 + k, none⟩) hbw).trans hk0
          go_simp
          try with_reducible rfl
        · simp only [List.setIfInBounds_toArray, List.set_cons_zero, List.set_cons_succ]; with_reducible rfl
        refine wpAnyG_take 10 35 (tm' := ?_) (v := ?_) rfl rfl (by kernel_rfl) (by kernel_rfl) (by kernel_rfl) (listed' := #[true, true, true, true, true, true, true, true, true, true, true, false, false, false, false]) (by kernel_rfl) (fun _ _ _ h => h) (wanted_yes 5 30 true rfl rfl rfl) ?_ ?_ ?_
        rotate_left 2
        · intro w hSw
          (try dsimp only at hSw)
          go_simp
          try with_reducible rfl
        · simp only [List.setIfInBounds_toArray, List.set_cons_zero, List.set_cons_succ]; with_reducible rfl
        refine wpAnyG_take 11 36 (tm' := ?_) (v := ?_) rfl rfl (by kernel_rfl) (by kernel_rfl) (by kernel_rfl) (listed' := #[true, true, true, true, true, true, true, true, true, true, true, true, false, false, false]) (by kernel_rfl) (fun _ _ _ h => h) (wanted_yes 5 30 true rfl rfl rfl) ?_ ?_ ?_
        rotate_left 2
        · intro w hSw
          (try dsimp only at hSw)
          obtain ⟨hbS, hxS⟩ := hSw
          obtain ⟨q0, q1, q2, q3, q4, q5⟩ := hxS.cells6
          go_simp
          try with_reducible rfl
        · simp only [List.setIfInBounds_toArray, List.set_cons_zero, List.set_cons_succ]; with_reducible rfl
        refine wpAnyG_take 12 37 (tm' := ?_) (v := ?_) rfl rfl (by kernel_rfl) (by kernel_rfl) (by kernel_rfl) (listed' := #[true, true, true, true, true, true, true, true, true, true, true, true, true, false, false]) (by kernel_rfl) (fun _ _ _ h => h) (wanted_yes 5 30 true rfl rfl rfl) ?_ ?_ ?_
        rotate_left 2
        · intro w hSw
          (try dsimp only at hSw)
          go_simp
          try with_reducible rfl
        · simp only [List.setIfInBounds_toArray, List.set_cons_zero, List.set_cons_succ]; with_reducible rfl
        refine wpAnyG_take 13 38 (tm' := ?_) (v := .bool true) rfl rfl (by kernel_rfl) (by kernel_rfl) (by kernel_rfl) (listed' := #[true, true, true, true, true, true, true, true, true, true, true, true, true, true, false]) (by kernel_rfl) (fun _ _ _ h => h) (wanted_yes 5 30 true rfl rfl rfl) ?_ ?_ ?_
        rotate_left
        · intro w hSw
          (try dsimp only at hSw)
          go_simp
          try with_reducible rfl
        · simp only [List.setIfInBounds_toArray, List.set_cons_zero, List.set_cons_succ]; with_reducible rfl
        refine wpAnyG_take 14 39 (tm' := ?_) (v := .bool true) rfl rfl (by kernel_rfl) (by kernel_rfl) (by kernel_rfl) (listed' := #[true, true, true, true, true, true, true, true, true, true, true, true, true, true, true]) (by kernel_rfl) (fun _ _ _ h => h) (wanted_none rfl) ?_ ?_ ?_
        rotate_left
        · intro w hSw
          (try dsimp only at hSw)
          go_simp
          try with_reducible rfl
        · simp only [List.setIfInBounds_toArray, List.set_cons_zero, List.set_cons_succ]; with_reducible rfl
        refine wpAnyF_done (by kernel_rfl) ?_
        intro wf hSf
        obtain ⟨hbf, hxf⟩ := hSf
        have hown := own_below hOwn.out hbf (Nat.le_refl _)
        have hO2 : O.length ≤ 1000000000 := by omega
        have hbase := hxf.lt
        have kk := (hbf.cell (p := ⟨b0, o0 + k, none⟩) hbw).trans hk0
        have hbw2 := Nat.lt_of_lt_of_le hbw hbf.size
        go_wp2_with (at_builtin; refine wpList_append_one _ rfl _ _ 33 rfl (w2.heap.size + 1) 3 _ 1 8 Try.underlying33 iinfo rfl (by decide) (by decide) _ _ _ hown rfl [.int .i64 z] _ rfl rfl rfl hO2 hbase ?_; intro v1 w1 hown1 hb1' hz1')
        go_roundw
        case rel =>
          refine ⟨k + 1, O ++ [z], by omega, by omega, by go_num, by simpa using hown1, ?_, by simp; omega, hxf.below hb1' (Nat.lt_succ_self _), (hbel.trans (hbf.mono hbel.size)).trans (hb1'.mono (by omega))⟩
          intro c hc
          rcases List.mem_append.1 hc with h | h
          · exact HO.out c h
          · obtain rfl : c = z := by simpa using h
            omega
        case measure => simp [intOf]; omega
    · have hcase : ((l.length : Int) ≤ k) ∨ ((k : Int) < l.length ∧ (8 : Int) ≤ k) := by omega
      have kr := k2.trans (hbel.mono k2.size)
      clear hlt
      by_cases hat : a_ < 1 ∨ (O.length : Int) ≤ a_
      · have hat' : (a_ < 1) ∨ (1 ≤ a_ ∧ (O.length : Int) ≤ a_) := by omega
        obtain ⟨Ao, co, rfl, -⟩ := RInts.open_ (RS.of_own hown : RInts wr .i64 _ O)
        clear hat
        rcases hcase with hc | ⟨hc, hc'⟩
        all_goals
          rcases hat' with h1 | ⟨h1, h2⟩
          all_goals
            go_wp2_with fail
            refine (lives_any _).mono ?_
            rintro e w5 ⟨rfl, hb5⟩
            go_wp2
            go_ret
            exact ⟨rfl, below_nx kr hb5⟩
      · obtain ⟨n, rfl⟩ := Int.eq_ofNat_of_zero_le (show 0 ≤ a_ by omega)
        have hn1 : 1 ≤ n := by omega
        have hn2 : n < O.length := by omega
        clear hat
        obtain ⟨i, rfl⟩ : ∃ i, n = i + 1 := ⟨n - 1, by omega⟩
        obtain ⟨za, hza⟩ := some_of_lt (l := O) (i := i) (by omega)
        obtain ⟨zb, hzb⟩ := some_of_lt (l := O) (i := i + 1) (by omega)
        have HP := Lib.hid (way_parts y.dist O i za zb hza hzb)
        obtain ⟨Ao, co, rfl, ho1, ho2, hoc⟩ := RInts.open_ (RS.of_own hown : RInts wr .i64 _ O)
        obtain ⟨ba, oa, rfl, hba, hka⟩ := hoc i za hza
        obtain ⟨bb, ob, hA, hbb, hkb⟩ := hoc (i + 1) zb hzb
        obtain ⟨rfl, rfl⟩ : ba = bb ∧ oa = ob := by simpa using hA
        have HL := Lib.hid (RS.of_own hown : RInts wr .i64 _ O)
        have HT := Lib.hid (RInts.take HL.out (n := i + 1) (by omega))
        have HD := Lib.hid (RInts.drop HL.out (n := i + 1) (by omega))
        have HG := Lib.hid HO.out
        have HYR := Lib.hid (HYr.out.below hbel (Nat.le_refl _))
        obtain ⟨za0, za1⟩ := HG.out za (List.mem_of_getElem? hza)
        obtain ⟨zb0, zb1⟩ := HG.out zb (List.mem_of_getElem? hzb)
        clear hoc hA hown hza hzb hbb HO
        have hwa := way_bd' y.dist HARC.out (O.take (i + 1))
        have hwb := way_bd' y.dist HARC.out (O.drop (i + 1))
        have har := HARC.out (za + 1) 0
        have hbr := HARC.out 0 (zb + 1)
        have hcr := HARC.out (za + 1) (zb + 1)
        rw [List.length_take, Nat.min_eq_left (by omega)] at hwa
        rw [List.length_drop] at hwb
        obtain ⟨wa, hWA⟩ : ∃ z, way y.dist (O.take (i + 1)) = z := ⟨_, rfl⟩
        obtain ⟨wb, hWB⟩ : ∃ z, way y.dist (O.drop (i + 1)) = z := ⟨_, rfl⟩
        obtain ⟨ar, hAR⟩ : ∃ z, arc y.dist (za + 1) 0 = z := ⟨_, rfl⟩
        obtain ⟨br, hBR⟩ : ∃ z, arc y.dist 0 (zb + 1) = z := ⟨_, rfl⟩
        obtain ⟨cr, hCR⟩ : ∃ z, arc y.dist (za + 1) (zb + 1) = z := ⟨_, rfl⟩
        have hp := HP.out
        rw [hWA, hWB, hAR, hBR, hCR] at hp
        rw [hWA] at hwa
        rw [hWB] at hwb
        rw [hAR] at har
        rw [hBR] at hbr
        rw [hCR] at hcr
        have HPW := Lib.hid hp
        have HWA := Lib.hid hWA
        have HWB := Lib.hid hWB
        have HAR := Lib.hid hAR
        have HBR := Lib.hid hBR
        have HCR := Lib.hid hCR
        clear hp hWA hWB hAR hBR hCR HP
        have hwa2 : wa ≤ 100000000000 := by omega
        have hwb2 : wb ≤ 100000000000 := by omega
        have hs0 : (0 : Int) ≤ (i : Int) + 1 := by omega
        have hs1 : (i : Int) + 1 ≤ (co : Int) := by omega
        have hs2 : i + 1 ≤ co := by omega
        have hs3 : (i : Int) + 1 ≤ (O.length : Int) := by omega
        have hs4 : i + 1 < co := by omega
        rcases hcase with hc | ⟨hc, hc'⟩
        all_goals
          go_wp2_with fail
          have e0 : ((i : Int) + 1).toNat = i + 1 := by omega
          have e1 : IntKind.i64.wrap (wa + wb) = wa + wb := IntWalk.i64_in _ (by omega)
          have e2 : IntKind.i64.wrap (wa + wb - ar) = wa + wb - ar := IntWalk.i64_in _ (by omega)
          have e3 : IntKind.i64.wrap (wa + wb - ar - br) = wa + wb - ar - br := IntWalk.i64_in _ (by omega)
          have e4 : IntKind.i64.wrap (wa + wb - ar - br + cr) = wa + wb - ar - br + cr := IntWalk.i64_in _ (by omega)
          refine wp_region_G (fun wS => Below wr.heap.size wr wS ∧ Blk wS w2.heap.size 25 [.int .i64 y.days, .int .i64 y.veh, .int .i64 y.cap, .int .i64 y.len, .slice A3 y.custs.length c3, .slice A4 y.dist.length c4]) 25 (listed := #[false, false, false, false, false, false, false, false, false, false, false, false, false, false, false, false, false, false, false, false, false, false, false, false, false]) (by kernel_rfl) ?_ (by kernel_rfl) (by kernel_rfl) ?_
          · exact ⟨(Below.refl _ _).drew, hyb.drew⟩
          refine wpAnyG_take 0 67 (tm' := ?_) (v := ?_) rfl rfl (by kernel_rfl) (by kernel_rfl) (by kernel_rfl) (listed' := #[true, false, false, false, false, false, false, false, false, false, false, false, false, false, false, false, false, false, false, false, false, false, false, false, false]) (by kernel_rfl) (fun _ _ _ h => h) (wanted_none rfl) ?_ ?_ ?_
          rotate_left 2
          · intro w hSw
            (try dsimp only at hSw)
            obtain ⟨hbS, hxS⟩ := hSw
            obtain ⟨q0, q1, q2, q3, q4, q5⟩ := hxS.cells6
            go_simp
            try with_reducible rfl
          · simp only [List.setIfInBounds_toArray, List.set_cons_zero, List.set_cons_succ]; with_reducible rfl
          refine wpAnyG_take 1 68 (tm' := ?_) (v := ?_) rfl rfl (by kernel_rfl) (by kernel_rfl) (by kernel_rfl) (listed' := #[true, true, false, false, false, false, false, false, false, false, false, false, false, false, false, false, false, false, false, false, false, false, false, false, false]) (by kernel_rfl) (fun _ _ _ h => h) (wanted_none rfl) ?_ ?_ ?_
          rotate_left 2
          · intro w hSw
            (try dsimp only at hSw)
            go_simp
            try with_reducible rfl
          · simp only [List.setIfInBounds_toArray, List.set_cons_zero, List.set_cons_succ]; with_reducible rfl
          refine wpAnyG_take 2 69 (tm' := ?_) (v := ?_) rfl rfl (by kernel_rfl) (by kernel_rfl) (by kernel_rfl) (listed' := #[true, true, true, false, false, false, false, false, false, false, false, false, false, false, false, false, false, false, false, false, false, false, false, false, false]) (by kernel_rfl) (fun _ _ _ h => h) (wanted_none rfl) ?_ ?_ ?_
          rotate_left 2
          · intro w hSw
            (try dsimp only at hSw)
            go_simp
            try with_reducible rfl
          · simp only [List.setIfInBounds_toArray, List.set_cons_zero, List.set_cons_succ]; with_reducible rfl
          refine wpAnyG_take 3 70 (tm' := ?_) (v := ?_) rfl rfl (by kernel_rfl) (by kernel_rfl) (by kernel_rfl) (listed' := #[true, true, true, true, false, false, false, false, false, false, false, false, false, false, false, false, false, false, false, false, false, false, false, false, false]) (by kernel_rfl) (fun _ _ _ h => h) (wanted_none rfl) ?_ ?_ ?_
          rotate_left 2
          · intro w hSw
            (try dsimp only at hSw)
            go_simp
            try with_reducible rfl
          · simp only [List.setIfInBounds_toArray, List.set_cons_zero, List.set_cons_succ]; with_reducible rfl
          refine wpAnyG_call 4 71 (tm' := ?_) (v := .int .i64 wa) (f := ?_) (args := ?_) rfl rfl (by kernel_rfl) (by kernel_rfl) (by kernel_rfl) (listed' := #[true, true, true, true, true, false, false, false, false, false, false, false, false, false, false, false, false, false, false, false, false, false, false, false, false]) (by kernel_rfl) (fun _ _ _ h => h) (wanted_none rfl) ?_ ?_ ?_ ?_
          rotate_left 3
          · intro w
            go_simp
            first | with_reducible rfl | (constructor <;> with_reducible rfl)
          · intro wS hSw
            obtain ⟨hbS, hxS⟩ := hSw
            exact (way_any _ _ y (O.take (i + 1)) _ (HYR.out.below hbS (Nat.le_refl _)) (HT.out.below hbS (Nat.le_refl _)) HARC.out (by simp; omega) (fun c hc => HG.out c (List.mem_of_mem_take hc))).mono fun e w' ⟨he, hb⟩ => ⟨by rw [he, HWA.out], hbS.trans (hb.mono hbS.size), hxS.below hb hxS.lt⟩
          · simp only [List.setIfInBounds_toArray, List.set_cons_zero, List.set_cons_succ]; with_reducible rfl
          refine wpAnyG_take 5 72 (tm' := ?_) (v := ?_) rfl rfl (by kernel_rfl) (by kernel_rfl) (by kernel_rfl) (listed' := #[true, true, true, true, true, true, false, false, false, false, false, false, false, false, false, false, false, false, false, false, false, false, false, false, false]) (by kernel_rfl) (fun _ _ _ h => h) (wanted_none rfl) ?_ ?_ ?_
          rotate_left 2
          · intro w hSw
            (try dsimp only at hSw)
            obtain ⟨hbS, hxS⟩ := hSw
            obtain ⟨q0, q1, q2, q3, q4, q5⟩ := hxS.cells6
            go_simp
            try with_reducible rfl
          · simp only [List.setIfInBounds_toArray, List.set_cons_zero, List.set_cons_succ]; with_reducible rfl
          refine wpAnyG_take 6 73 (tm' := ?_) (v := ?_) rfl rfl (by kernel_rfl) (by kernel_rfl) (by kernel_rfl) (listed' := #[true, true, true, true, true, true, true, false, false, false, false, false, false, false, false, false, false, false, false, false, false, false, false, false, false]) (by kernel_rfl) (fun _ _ _ h => h) (wanted_none rfl) ?_ ?_ ?_
          rotate_left 2
          · intro w hSw
            (try dsimp only at hSw)
            go_simp
            try with_reducible rfl
          · simp only [List.setIfInBounds_toArray, List.set_cons_zero, List.set_cons_succ]; with_reducible rfl
          refine wpAnyG_take 7 74 (tm' := ?_) (v := ?_) rfl rfl (by kernel_rfl) (by kernel_rfl) (by kernel_rfl) (listed' := #[true, true, true, true, true, true, true, true, false, false, false, false, false, false, false, false, false, false, false, false, false, false, false, false, false]) (by kernel_rfl) (fun _ _ _ h => h) (wanted_none rfl) ?_ ?_ ?_
          rotate_left 2
          · intro w hSw
            (try dsimp only at hSw)
            go_simp
            try with_reducible rfl
          · simp only [List.setIfInBounds_toArray, List.set_cons_zero, List.set_cons_succ]; with_reducible rfl
          refine wpAnyG_take 8 75 (tm' := ?_) (v := ?_) rfl rfl (by kernel_rfl) (by kernel_rfl) (by kernel_rfl) (listed' := #[true, true, true, true, true, true, true, true, true, false, false, false, false, false, false, false, false, false, false, false, false, false, false, false, false]) (by kernel_rfl) (fun _ _ _ h => h) (wanted_none rfl) ?_ ?_ ?_
          rotate_left 2
          · intro w hSw
            (try dsimp only at hSw)
            go_simp
            try with_reducible rfl
          · simp only [List.setIfInBounds_toArray, List.set_cons_zero, List.set_cons_succ]; with_reducible rfl
          refine wpAnyG_call 9 76 (tm' := ?_) (v := .int .i64 wb) (f := ?_) (args := ?_) rfl rfl (by kernel_rfl) (by kernel_rfl) (by kernel_rfl) (listed' := #[true, true, true, true, true, true, true, true, true, true, false, false, false, false, false, false, false, false, false, false, false, false, false, false, false]) (by kernel_rfl) (fun _ _ _ h => h) (wanted_none rfl) ?_ ?_ ?_ ?_
          rotate_left 3
          · intro w
            go_simp
            first | with_reducible rfl | (constructor <;> with_reducible rfl)
          · intro wS hSw
            rw [if_neg (Nat.ne_of_gt hs4)]
            obtain ⟨hbS, hxS⟩ := hSw
            exact (way_any _ _ y (O.drop (i + 1)) _ (HYR.out.below hbS (Nat.le_refl _)) (HD.out.below hbS (Nat.le_refl _)) HARC.out (by simp; omega) (fun c hc => HG.out c (List.mem_of_mem_drop hc))).mono fun e w' ⟨he, hb⟩ => ⟨by rw [he, HWB.out], hbS.trans (hb.mono hbS.size), hxS.below hb hxS.lt⟩
          · simp only [List.setIfInBounds_toArray, List.set_cons_zero, List.set_cons_succ]; with_reducible rfl
          refine wpAnyG_take 10 77 (tm' := ?_) (v := .int .i64 (wa + wb)) rfl rfl (by kernel_rfl) (by kernel_rfl) (by kernel_rfl) (listed' := #[true, true, true, true, true, true, true, true, true, true, true, false, false, false, false, false, false, false, false, false, false, false, false, false, false]) (by kernel_rfl) (fun _ _ _ h => h) (wanted_none rfl) ?_ ?_ ?_
          rotate_left
          · intro w hSw
            (try dsimp only at hSw)
            go_simp
            try with_reducible rfl
          · simp only [List.setIfInBounds_toArray, List.set_cons_zero, List.set_cons_succ]; with_reducible rfl
          refine wpAnyG_take 11 78 (tm' := ?_) (v := ?_) rfl rfl (by kernel_rfl) (by kernel_rfl) (by kernel_rfl) (listed' := #[true, true, true, true, true, true, true, true, true, true, true, true, false, false, false, false, false, false, false, false, false, false, false, false, false]) (by kernel_rfl) (fun _ _ _ h => h) (wanted_none rfl) ?_ ?_ ?_
          rotate_left 2
          · intro w hSw
            (try dsimp only at hSw)
            obtain ⟨hbS, hxS⟩ := hSw
            obtain ⟨q0, q1, q2, q3, q4, q5⟩ := hxS.cells6
            go_simp
            try with_reducible rfl
          · simp only [List.setIfInBounds_toArray, List.set_cons_zero, List.set_cons_succ]; with_reducible rfl
          refine wpAnyG_take 12 79 (tm' := ?_) (v := ?_) rfl rfl (by kernel_rfl) (by kernel_rfl) (by kernel_rfl) (listed' := #[true, true, true, true, true, true, true, true, true, true, true, true, true, false, false, false, false, false, false, false, false, false, false, false, false]) (by kernel_rfl) (fun _ _ _ h => h) (wanted_none rfl) ?_ ?_ ?_
          rotate_left 2
          · intro w hSw
            (try dsimp only at hSw)
            go_simp
            try with_reducible rfl
          · simp only [List.setIfInBounds_toArray, List.set_cons_zero, List.set_cons_succ]; with_reducible rfl
          refine wpAnyG_call 13 80 (tm' := ?_) (v := .int .i64 ar) (f := ?_) (args := ?_) rfl rfl (by kernel_rfl) (by kernel_rfl) (by kernel_rfl) (listed' := #[true, true, true, true, true, true, true, true, true, true, true, true, true, true, false, false, false, false, false, false, false, false, false, false, false]) (by kernel_rfl) (fun _ _ _ h => h) (wanted_none rfl) ?_ ?_ ?_ ?_
          rotate_left 3
          · intro w
            go_simp
            first | with_reducible rfl | (constructor <;> with_reducible rfl)
          · intro wS hSw
            obtain ⟨hbS, hxS⟩ := hSw
            exact (arc_any _ y _ _ _ (HYR.out.below hbS (Nat.le_refl _))).mono fun e w' ⟨he, hb⟩ => ⟨by rw [he, HAR.out], hbS.trans (hb.mono hbS.size), hxS.below hb hxS.lt⟩
          · simp only [List.setIfInBounds_toArray, List.set_cons_zero, List.set_cons_succ]; with_reducible rfl
          refine wpAnyG_take 14 81 (tm' := ?_) (v := .int .i64 (wa + wb - ar)) rfl rfl (by kernel_rfl) (by kernel_rfl) (by kernel_rfl) (listed' := #[true, true, true, true, true, true, true, true, true, true, true, true, true, true, true, false, false, false, false, false, false, false, false, false, false]) (by kernel_rfl) (fun _ _ _ h => h) (wanted_none rfl) ?_ ?_ ?_
          rotate_left
          · intro w hSw
            (try dsimp only at hSw)
            go_simp
            try with_reducible rfl
          · simp only [List.setIfInBounds_toArray, List.set_cons_zero, List.set_cons_succ]; with_reducible rfl
          refine wpAnyG_take 15 82 (tm' := ?_) (v := ?_) rfl rfl (by kernel_rfl) (by kernel_rfl) (by kernel_rfl) (listed' := #[true, true, true, true, true, true, true, true, true, true, true, true, true, true, true, true, false, false, false, false, false, false, false, false, false]) (by kernel_rfl) (fun _ _ _ h => h) (wanted_none rfl) ?_ ?_ ?_
          rotate_left 2
          · intro w hSw
            (try dsimp only at hSw)
            obtain ⟨hbS, hxS⟩ := hSw
            obtain ⟨q0, q1, q2, q3, q4, q5⟩ := hxS.cells6
            go_simp
            try with_reducible rfl
          · simp only [List.setIfInBounds_toArray, List.set_cons_zero, List.set_cons_succ]; with_reducible rfl
          refine wpAnyG_take 16 83 (tm' := ?_) (v := ?_) rfl rfl (by kernel_rfl) (by kernel_rfl) (by kernel_rfl) (listed' := #[true, true, true, true, true, true, true, true, true, true, true, true, true, true, true, true, true, false, false, false, false, false, false, false, false]) (by kernel_rfl) (fun _ _ _ h => h) (wanted_none rfl) ?_ ?_ ?_
          rotate_left 2
          · intro w hSw
            (try dsimp only at hSw)
            go_simp
            try with_reducible rfl
          · simp only [List.setIfInBounds_toArray, List.set_cons_zero, List.set_cons_succ]; with_reducible rfl
          refine wpAnyG_call 17 84 (tm' := ?_) (v := .int .i64 br) (f := ?_) (args := ?_) rfl rfl (by kernel_rfl) (by kernel_rfl) (by kernel_rfl) (listed' := #[true, true, true, true, true, true, true, true, true, true, true, true, true, true, true, true, true, true, false, false, false, false, false, false, false]) (by kernel_rfl) (fun _ _ _ h => h) (wanted_none rfl) ?_ ?_ ?_ ?_
          rotate_left 3
          · intro w
            go_simp
            first | with_reducible rfl | (constructor <;> with_reducible rfl)
          · intro wS hSw
            obtain ⟨hbS, hxS⟩ := hSw
            exact (arc_any _ y _ _ _ (HYR.out.below hbS (Nat.le_refl _))).mono fun e w' ⟨he, hb⟩ => ⟨by rw [he, HBR.out], hbS.trans (hb.mono hbS.size), hxS.below hb hxS.lt⟩
          · simp only [List.setIfInBounds_toArray, List.set_cons_zero, List.set_cons_succ]; with_reducible rfl
          refine wpAnyG_take 18 85 (tm' := ?_) (v := .int .i64 (wa + wb - ar - br)) rfl rfl (by kernel_rfl) (by kernel_rfl) (by kernel_rfl) (listed' := #[true, true, true, true, true, true, true, true, true, true, true, true, true, true, true, true, true, true, true, false, false, false, false, false, false]) (by kernel_rfl) (fun _ _ _ h => h) (wanted_none rfl) ?_ ?_ ?_
          rotate_left
          · intro w hSw
            (try dsimp only at hSw)
            go_simp
            try with_reducible rfl
          · simp only [List.setIfInBounds_toArray, List.set_cons_zero, List.set_cons_succ]; with_reducible rfl
          refine wpAnyG_take 19 86 (tm' := ?_) (v := ?_) rfl rfl (by kernel_rfl) (by kernel_rfl) (by kernel_rfl) (listed' := #[true, true, true, true, true, true, true, true, true, true, true, true, true, true, true, true, true, true, true, true, false, false, false, false, false]) (by kernel_rfl) (fun _ _ _ h => h) (wanted_none rfl) ?_ ?_ ?_
          rotate_left 2
          · intro w hSw
            (try dsimp only at hSw)
            obtain ⟨hbS, hxS⟩ := hSw
            obtain ⟨q0, q1, q2, q3, q4, q5⟩ := hxS.cells6
            go_simp
            try with_reducible rfl
          · simp only [List.setIfInBounds_toArray, List.set_cons_zero, List.set_cons_succ]; with_reducible rfl
          refine wpAnyG_take 20 87 (tm' := ?_) (v := ?_) rfl rfl (by kernel_rfl) (by kernel_rfl) (by kernel_rfl) (listed' := #[true, true, true, true, true, true, true, true, true, true, true, true, true, true, true, true, true, true, true, true, true, false, false, false, false]) (by kernel_rfl) (fun _ _ _ h => h) (wanted_none rfl) ?_ ?_ ?_
          rotate_left 2
          · intro w hSw
            (try dsimp only at hSw)
            go_simp
            try with_reducible rfl
          · simp only [List.setIfInBounds_toArray, List.set_cons_zero, List.set_cons_succ]; with_reducible rfl
          refine wpAnyG_take 21 88 (tm' := ?_) (v := ?_) rfl rfl (by kernel_rfl) (by kernel_rfl) (by kernel_rfl) (listed' := #[true, true, true, true, true, true, true, true, true, true, true, true, true, true, true, true, true, true, true, true, true, true, false, false, false]) (by kernel_rfl) (fun _ _ _ h => h) (wanted_none rfl) ?_ ?_ ?_
          rotate_left 2
          · intro w hSw
            (try dsimp only at hSw)
            go_simp
            try with_reducible rfl
          · simp only [List.setIfInBounds_toArray, List.set_cons_zero, List.set_cons_succ]; with_reducible rfl
          refine wpAnyG_call 22 89 (tm' := ?_) (v := .int .i64 cr) (f := ?_) (args := ?_) rfl rfl (by kernel_rfl) (by kernel_rfl) (by kernel_rfl) (listed' := #[true, true, true, true, true, true, true, true, true, true, true, true, true, true, true, true, true, true, true, true, true, true, true, false, false]) (by kernel_rfl) (fun _ _ _ h => h) (wanted_none rfl) ?_ ?_ ?_ ?_
          rotate_left 3
          · intro w
            go_simp
            first | with_reducible rfl | (constructor <;> with_reducible rfl)
          · intro wS hSw
            obtain ⟨hbS, hxS⟩ := hSw
            exact (arc_any _ y _ _ _ (HYR.out.below hbS (Nat.le_refl _))).mono fun e w' ⟨he, hb⟩ => ⟨by rw [he, HCR.out], hbS.trans (hb.mono hbS.size), hxS.below hb hxS.lt⟩
          · simp only [List.setIfInBounds_toArray, List.set_cons_zero, List.set_cons_succ]; with_reducible rfl
          refine wpAnyG_take 23 90 (tm' := ?_) (v := .int .i64 (wa + wb - ar - br + cr)) rfl rfl (by kernel_rfl) (by kernel_rfl) (by kernel_rfl) (listed' := #[true, true, true, true, true, true, true, true, true, true, true, true, true, true, true, true, true, true, true, true, true, true, true, true, false]) (by kernel_rfl) (fun _ _ _ h => h) (wanted_none rfl) ?_ ?_ ?_
          rotate_left
          · intro w hSw
            (try dsimp only at hSw)
            go_simp
            try with_reducible rfl
          · simp only [List.setIfInBounds_toArray, List.set_cons_zero, List.set_cons_succ]; with_reducible rfl
          refine wpAnyG_take 24 12 (tm' := ?_) (v := ?_) rfl rfl (by kernel_rfl) (by kernel_rfl) (by kernel_rfl) (listed' := #[true, true, true, true, true, true, true, true, true, true, true, true, true, true, true, true, true, true, true, true, true, true, true, true, true]) (by kernel_rfl) (fun _ _ _ h => h) (wanted_none rfl) ?_ ?_ ?_
          rotate_left 2
          · intro w hSw
            (try dsimp only at hSw)
            go_simp
            try with_reducible rfl
          · simp only [List.setIfInBounds_toArray, List.set_cons_zero, List.set_cons_succ]; with_reducible rfl
          refine wpAnyF_done (by kernel_rfl) ?_
          intro wf hSf
          obtain ⟨hbf, hxf⟩ := hSf
          clear e0 e1 e2 e3 e4
          obtain ⟨q0, q1, q2, q3, q4, q5⟩ := hxf.cells6
          go_wp2_with fail
          refine (way_any _ _ y O _ (HYR.out.below hbf (Nat.le_refl _)) (RInts.below HL.out hbf (Nat.le_refl _)) HARC.out (by omega) HG.out).mono ?_
          rintro e w4 ⟨rfl, hb4⟩
          rw [HPW.out]
          go_wp2_with fail
          refine (lives_any _).mono ?_
          rintro e w5 ⟨rfl, hb5⟩
          go_wp2
          go_ret
          exact ⟨rfl, below_nx (below_nx (below_nx kr hbf) hb4) hb5⟩

end Go.Proofs.Ytifdggdpglphmaa
