/- The walk of the statement InstWays. -/
import Derived.Test.YtifdggdpglphmaaW06o
import Derived.Test.YtifdggdpglphmaaW06p
import Derived.Test.YtifdggdpglphmaaOrdG
namespace Go.Proofs.Ytifdggdpglphmaa
open Go.RowKit P06

/-- A customer's number of any number. -/
def own12 (z : Int) : Int := ((z.natAbs % 12 : Nat) : Int)
theorem own12_bd (z : Int) : 0 ≤ own12 z ∧ own12 z ≤ 11 := by unfold own12; omega
theorem own12_pos {z : Int} (h : 0 ≤ z) : z % 12 = own12 z := by unfold own12; omega
theorem own12_neg {z : Int} (h : z < 0) : z.tmod 12 = -own12 z := by
  obtain ⟨n, rfl⟩ : ∃ n : Nat, z = -(n : Int) := ⟨z.natAbs, by omega⟩
  rw [Int.neg_tmod, own12, Int.natAbs_neg, Int.natAbs_natCast]
  rfl
theorem RInts.take {w : World} {k : IntKind} {A : Option Addr} {c n : Nat} {l : List Int} (h : RInts w k (.slice A l.length c) l) (hn : n ≤ l.length) : RInts w k (.slice A n c) (l.take n) := by
  obtain ⟨A, c, hv, h1, h2, h3, h4⟩ := h
  injection hv with e1 e2 e3
  subst e1; subst e3
  refine ⟨_, _, by rw [List.length_take, Nat.min_eq_left hn], by rw [List.length_take]; omega, h2, by simp, fun hp => ?_⟩
  rw [List.length_take] at hp
  obtain ⟨b, o, hA, hb, hc⟩ := h4 (by omega)
  refine ⟨b, o, hA, hb, fun j u hu => hc j u ?_⟩
  rw [List.map_take, List.getElem?_take] at hu
  split at hu
  · exact hu
  · cases hu

set_option maxHeartbeats 1000000 in
theorem instWays_lo (v lv : Value) (x : Inst) (l : List Int) (a b : Int) (w : World) (hx : RInst w v x) (hwf : x.wf) (hl : RInts w .i64 lv l) (hlw : ∀ z ∈ l, W64 z) (hn : l.length ≤ 8) :
    Calls Try.prog 4 #[v, .int .i64 a, .int .i64 b, lv] w fun e w' => e = .returned (.bool true) ∧ Below w.heap.size w w' := by
  have HX := Lib.hid hx
  have HW := Lib.hid hwf
  obtain ⟨cv, dv, rfl, ⟨A1, c1, rfl, -⟩, ⟨A2, c2, rfl, -⟩⟩ := hx
  obtain ⟨L, HL, hL8, hLw, hLn⟩ : ∃ L : List Int, L = l ∧ L.length ≤ 8 ∧ (∀ z ∈ L, W64 z) ∧ L.length = l.length := ⟨l, rfl, hn, hlw, rfl⟩
  subst HL
  obtain ⟨A, c, rfl, hc1, hc2, hcell⟩ := hl.open_
  have HC := Lib.hid hcell
  have HZ := Lib.hid hLw
  have HN := Lib.hid hLn
  clear hcell hLw hLn hl hlw hwf
  go_enter Try.func4, Try.ntmps4
  go_wp2_with fail
  refine (goodI_any _ _ _ (HX.out.below (below_al (Below.refl _ _) _) (Nat.le_refl _)) HW.out).mono ?_
  rintro e w2 ⟨v2, rfl, hown, hb2⟩
  have k2 := below_nx (below_al (Below.refl w.heap.size w) _) hb2
  have hyr := hown.reads
  obtain ⟨y, HY⟩ : ∃ y, y = goodP x := ⟨_, rfl⟩
  have HARC := Lib.hid (goodP_arcs x)
  rw [← HY] at hyr HARC
  clear HY hown HX HW
  have HYr := Lib.hid hyr
  obtain ⟨cv3, dv3, rfl, ⟨A3, c3, rfl, -⟩, ⟨A4, c4, rfl, -⟩⟩ := hyr
  go_wp2_with fail
  go_loopw [10, 11] (fun ov iv wr => ∃ k : Nat, k ≤ L.length ∧ iv = .int .i64 k ∧ wr.ownsRow (w2.heap.size + 1) 3 1 ov ((L.take k).map own12).length (((L.take k).map own12).map (Value.int .i64)) ∧
      Blk wr w2.heap.size 25 [.int .i64 y.days, .int .i64 y.veh, .int .i64 y.cap, .int .i64 y.len, .slice A3 y.custs.length c3, .slice A4 y.dist.length c4] ∧ Below w2.heap.size w2 wr) (fun _ iv _ => L.length - (intOf iv).toNat)
  case atStart => exact ⟨0, Nat.zero_le _, rfl, World.ownsRow_nil _ _ _ _, Blk.newAt _ _ _ rfl, below_al (Below.refl _ _) _⟩
  case round =>
    obtain ⟨k, hk, rfl, hown, hblk, hbel⟩ := hrel
    by_cases hlt : k < L.length
    · have hbase := hblk.lt
      obtain ⟨z, hz⟩ := some_of_lt hlt
      obtain ⟨b0, o0, rfl, hb0, hk0⟩ := HC.out k z hz
      obtain ⟨hz1, hz2⟩ := HZ.out z (List.mem_of_getElem? hz)
      have hk1 := (k2.cell (p := ⟨b0, o0 + k, none⟩) hb0).trans hk0
      have hk2 := (hbel.cell (p := ⟨b0, o0 + k, none⟩) (Nat.lt_of_lt_of_le hb0 k2.size)).trans hk1
      have HS := Lib.hid (show (L.take (k + 1)).map own12 = (L.take k).map own12 ++ [own12 z] by rw [List.take_add_one, hz]; simp)
      have hO : ((L.take k).map own12).length ≤ k := by simp; omega
      have hn2 := HN.out
      clear hk0 hk1 hz
      generalize (L.take k).map own12 = O at *
      have hO2 : O.length ≤ 1000000000 := by omega
      obtain ⟨hq0, hq1⟩ := own12_bd z
      have hcase : (0 ≤ z ∧ z % 12 = own12 z) ∨ (z < 0 ∧ own12 z = 0 ∧ z.tmod 12 = 0) ∨ (z < 0 ∧ 0 < own12 z ∧ z.tmod 12 = -own12 z) := by
        by_cases h : 0 ≤ z
        · exact .inl ⟨h, own12_pos h⟩
        · have h1 := own12_neg (show z < 0 by omega)
          by_cases h0 : own12 z = 0
          · exact .inr (.inl ⟨by omega, h0, by rw [h1, h0]; rfl⟩)
          · exact .inr (.inr ⟨by omega, by omega, h1⟩)
      generalize own12 z = q at *
      rcases hcase with ⟨h1, h2⟩ | ⟨h1, h2, h3⟩ | ⟨h1, h2, h3⟩
      rotate_left
      subst h2
      rotate_left 2
      all_goals
        go_wp2_with (at_builtin; refine wpList_append_one wr rfl _ _ 33 rfl (w2.heap.size + 1) 3 _ 1 8 Try.underlying33 iinfo rfl (by decide) (by decide) _ _ _ hown rfl [.int .i64 _] _ rfl rfl rfl hO2 hbase ?_; intro v1 w1 hown1 hb1 hz1)
        go_roundw
        case rel =>
          refine ⟨k + 1, by omega, by go_num, ?_, hblk.below hb1 (Nat.lt_succ_self _), hbel.trans (hb1.mono (by omega))⟩
          rw [HS.out]
          simpa using hown1
        case measure => simp [intOf]; omega
    · obtain rfl : k = L.length := by omega
      have hn2 := HN.out
      have hO : ((L.take L.length).map own12).length ≤ 8 := by simp; omega
      have hOb : ∀ z ∈ (L.take L.length).map own12, 0 ≤ z ∧ z ≤ 1000000000 := fun z hz => by
        obtain ⟨u, _, rfl⟩ := List.mem_map.1 hz
        have := own12_bd u
        omega
      generalize (L.take L.length).map own12 = O at *
      have HL := Lib.hid (RS.of_own hown : RInts wr .i64 _ O)
      have hyr := Lib.hid (HYr.out.below hbel (Nat.le_refl _))
      have HOB := Lib.hid hOb
      obtain ⟨Ao, co, rfl, -⟩ := RInts.open_ HL.out
      have kr := k2.trans (hbel.mono k2.size)
      clear hOb hown
      go_wp2_with fail
      refine wp_region_G (fun wS => Below wr.heap.size wr wS ∧ Blk wS w2.heap.size 25 [.int .i64 y.days, .int .i64 y.veh, .int .i64 y.cap, .int .i64 y.len, .slice A3 y.custs.length c3, .slice A4 y.dist.length c4]) 22 (listed := #[false, false, false, false, false, false, false, false, false, false, false, false, false, false, false, false, false, false, false, false, false, false]) (by kernel_rfl) ?_ (by kernel_rfl) (by kernel_rfl) ?_
      · exact ⟨(Below.refl _ _).drew, hblk.drew⟩
      refine wpAnyG_take 0 39 (tm' := ?_) (v := ?_) rfl rfl (by kernel_rfl) (by kernel_rfl) (by kernel_rfl) (listed' := #[true, false, false, false, false, false, false, false, false, false, false, false, false, false, false, false, false, false, false, false, false, false]) (by kernel_rfl) (fun _ _ _ h => h) (wanted_none rfl) ?_ ?_ ?_
      rotate_left 2
      · intro w hSw
        (try dsimp only at hSw)
        obtain ⟨hbS, hxS⟩ := hSw
        obtain ⟨q0, q1, q2, q3, q4, q5⟩ := hxS.cells6
        go_simp
        try with_reducible rfl
      · simp only [List.setIfInBounds_toArray, List.set_cons_zero, List.set_cons_succ]; with_reducible rfl
      refine wpAnyG_take 1 40 (tm' := ?_) (v := ?_) rfl rfl (by kernel_rfl) (by kernel_rfl) (by kernel_rfl) (listed' := #[true, true, false, false, false, false, false, false, false, false, false, false, false, false, false, false, false, false, false, false, false, false]) (by kernel_rfl) (fun _ _ _ h => h) (wanted_none rfl) ?_ ?_ ?_
      rotate_left 2
      · intro w hSw
        (try dsimp only at hSw)
        go_simp
        try with_reducible rfl
      · simp only [List.setIfInBounds_toArray, List.set_cons_zero, List.set_cons_succ]; with_reducible rfl
      refine wpAnyG_take 2 41 (tm' := ?_) (v := ?_) rfl rfl (by kernel_rfl) (by kernel_rfl) (by kernel_rfl) (listed' := #[true, true, true, false, false, false, false, false, false, false, false, false, false, false, false, false, false, false, false, false, false, false]) (by kernel_rfl) (fun _ _ _ h => h) (wanted_none rfl) ?_ ?_ ?_
      rotate_left 2
      · intro w hSw
        (try dsimp only at hSw)
        go_simp
        try with_reducible rfl
      · simp only [List.setIfInBounds_toArray, List.set_cons_zero, List.set_cons_succ]; with_reducible rfl
      refine wpAnyG_call 3 42 (tm' := ?_) (v := .int .i64 (arc y.dist a b)) (f := ?_) (args := ?_) rfl rfl (by kernel_rfl) (by kernel_rfl) (by kernel_rfl) (listed' := #[true, true, true, true, false, false, false, false, false, false, false, false, false, false, false, false, false, false, false, false, false, false]) (by kernel_rfl) (fun _ _ _ h => h) (wanted_none rfl) ?_ ?_ ?_ ?_
      rotate_left 3
      · intro w
        go_simp
        first | with_reducible rfl | (constructor <;> with_reducible rfl)
      · intro wS hSw
        obtain ⟨hbS, hxS⟩ := hSw
        exact (arc_any _ y _ _ _ (hyr.out.below hbS (Nat.le_refl _))).mono fun e w' ⟨he, hb⟩ => ⟨he, hbS.trans (hb.mono hbS.size), hxS.below hb hxS.lt⟩
      · simp only [List.setIfInBounds_toArray, List.set_cons_zero, List.set_cons_succ]; with_reducible rfl
      refine wpAnyG_take 4 43 (tm' := ?_) (v := ?_) rfl rfl (by kernel_rfl) (by kernel_rfl) (by kernel_rfl) (listed' := #[true, true, true, true, true, false, false, false, false, false, false, false, false, false, false, false, false, false, false, false, false, false]) (by kernel_rfl) (fun _ _ _ h => h) (wanted_none rfl) ?_ ?_ ?_
      rotate_left 2
      · intro w hSw
        (try dsimp only at hSw)
        obtain ⟨hbS, hxS⟩ := hSw
        obtain ⟨q0, q1, q2, q3, q4, q5⟩ := hxS.cells6
        go_simp
        try with_reducible rfl
      · simp only [List.setIfInBounds_toArray, List.set_cons_zero, List.set_cons_succ]; with_reducible rfl
      refine wpAnyG_take 5 44 (tm' := ?_) (v := ?_) rfl rfl (by kernel_rfl) (by kernel_rfl) (by kernel_rfl) (listed' := #[true, true, true, true, true, true, false, false, false, false, false, false, false, false, false, false, false, false, false, false, false, false]) (by kernel_rfl) (fun _ _ _ h => h) (wanted_none rfl) ?_ ?_ ?_
      rotate_left 2
      · intro w hSw
        (try dsimp only at hSw)
        go_simp
        try with_reducible rfl
      · simp only [List.setIfInBounds_toArray, List.set_cons_zero, List.set_cons_succ]; with_reducible rfl
      refine wpAnyG_take 6 45 (tm' := ?_) (v := ?_) rfl rfl (by kernel_rfl) (by kernel_rfl) (by kernel_rfl) (listed' := #[true, true, true, true, true, true, true, false, false, false, false, false, false, false, false, false, false, false, false, false, false, false]) (by kernel_rfl) (fun _ _ _ h => h) (wanted_none rfl) ?_ ?_ ?_
      rotate_left 2
      · intro w hSw
        (try dsimp only at hSw)
        go_simp
        try with_reducible rfl
      · simp only [List.setIfInBounds_toArray, List.set_cons_zero, List.set_cons_succ]; with_reducible rfl
      refine wpAnyG_call 7 46 (tm' := ?_) (v := .int .i64 (arc y.dist a b)) (f := ?_) (args := ?_) rfl rfl (by kernel_rfl) (by kernel_rfl) (by kernel_rfl) (listed' := #[true, true, true, true, true, true, true, true, false, false, false, false, false, false, false, false, false, false, false, false, false, false]) (by kernel_rfl) (fun _ _ _ h => h) (wanted_none rfl) ?_ ?_ ?_ ?_
      rotate_left 3
      · intro w
        go_simp
        first | with_reducible rfl | (constructor <;> with_reducible rfl)
      · intro wS hSw
        obtain ⟨hbS, hxS⟩ := hSw
        exact (rarc_any _ y _ _ _ (hyr.out.below hbS (Nat.le_refl _))).mono fun e w' ⟨he, hb⟩ => ⟨he, hbS.trans (hb.mono hbS.size), hxS.below hb hxS.lt⟩
      · simp only [List.setIfInBounds_toArray, List.set_cons_zero, List.set_cons_succ]; with_reducible rfl
      refine wpAnyG_take 8 47 (tm' := ?_) (v := .bool true) rfl rfl (by kernel_rfl) (by kernel_rfl) (by kernel_rfl) (listed' := #[true, true, true, true, true, true, true, true, true, false, false, false, false, false, false, false, false, false, false, false, false, false]) (by kernel_rfl) (fun _ _ _ h => h) (wanted_none rfl) ?_ ?_ ?_
      rotate_left
      · intro w hSw
        (try dsimp only at hSw)
        go_simp
        try with_reducible rfl
      · simp only [List.setIfInBounds_toArray, List.set_cons_zero, List.set_cons_succ]; with_reducible rfl
      refine wpAnyG_take 9 48 (tm' := ?_) (v := .bool true) rfl rfl (by kernel_rfl) (by kernel_rfl) (by kernel_rfl) (listed' := #[true, true, true, true, true, true, true, true, true, true, false, false, false, false, false, false, false, false, false, false, false, false]) (by kernel_rfl) (fun _ _ _ h => h) (wanted_none rfl) ?_ ?_ ?_
      rotate_left
      · intro w hSw
        (try dsimp only at hSw)
        go_simp
        try with_reducible rfl
      · simp only [List.setIfInBounds_toArray, List.set_cons_zero, List.set_cons_succ]; with_reducible rfl
      refine wpAnyG_take 10 49 (tm' := ?_) (v := ?_) rfl rfl (by kernel_rfl) (by kernel_rfl) (by kernel_rfl) (listed' := #[true, true, true, true, true, true, true, true, true, true, true, false, false, false, false, false, false, false, false, false, false, false]) (by kernel_rfl) (fun _ _ _ h => h) (wanted_yes 9 48 true rfl rfl rfl) ?_ ?_ ?_
      rotate_left 2
      · intro w hSw
        (try dsimp only at hSw)
        obtain ⟨hbS, hxS⟩ := hSw
        obtain ⟨q0, q1, q2, q3, q4, q5⟩ := hxS.cells6
        go_simp
        try with_reducible rfl
      · simp only [List.setIfInBounds_toArray, List.set_cons_zero, List.set_cons_succ]; with_reducible rfl
      refine wpAnyG_take 11 50 (tm' := ?_) (v := ?_) rfl rfl (by kernel_rfl) (by kernel_rfl) (by kernel_rfl) (listed' := #[true, true, true, true, true, true, true, true, true, true, true, true, false, false, false, false, false, false, false, false, false, false]) (by kernel_rfl) (fun _ _ _ h => h) (wanted_yes 9 48 true rfl rfl rfl) ?_ ?_ ?_
      rotate_left 2
      · intro w hSw
        (try dsimp only at hSw)
        go_simp
        try with_reducible rfl
      · simp only [List.setIfInBounds_toArray, List.set_cons_zero, List.set_cons_succ]; with_reducible rfl
      refine wpAnyG_call 12 51 (tm' := ?_) (v := .int .i64 (way y.dist O)) (f := ?_) (args := ?_) rfl rfl (by kernel_rfl) (by kernel_rfl) (by kernel_rfl) (listed' := #[true, true, true, true, true, true, true, true, true, true, true, true, true, false, false, false, false, false, false, false, false, false]) (by kernel_rfl) (fun _ _ _ h => h) (wanted_yes 9 48 true rfl rfl rfl) ?_ ?_ ?_ ?_
      rotate_left 3
      · intro w
        go_simp
        first | with_reducible rfl | (constructor <;> with_reducible rfl)
      · intro wS hSw
        obtain ⟨hbS, hxS⟩ := hSw
        exact (way_any _ _ y O _ (hyr.out.below hbS (Nat.le_refl _)) (HL.out.below hbS (Nat.le_refl _)) HARC.out (by omega) HOB.out).mono fun e w' ⟨he, hb⟩ => ⟨he, hbS.trans (hb.mono hbS.size), hxS.below hb hxS.lt⟩
      · simp only [List.setIfInBounds_toArray, List.set_cons_zero, List.set_cons_succ]; with_reducible rfl
      refine wpAnyG_take 13 52 (tm' := ?_) (v := ?_) rfl rfl (by kernel_rfl) (by kernel_rfl) (by kernel_rfl) (listed' := #[true, true, true, true, true, true, true, true, true, true, true, true, true, true, false, false, false, false, false, false, false, false]) (by kernel_rfl) (fun _ _ _ h => h) (wanted_yes 9 48 true rfl rfl rfl) ?_ ?_ ?_
      rotate_left 2
      · intro w hSw
        (try dsimp only at hSw)
        obtain ⟨hbS, hxS⟩ := hSw
        obtain ⟨q0, q1, q2, q3, q4, q5⟩ := hxS.cells6
        go_simp
        try with_reducible rfl
      · simp only [List.setIfInBounds_toArray, List.set_cons_zero, List.set_cons_succ]; with_reducible rfl
      refine wpAnyG_take 14 53 (tm' := ?_) (v := ?_) rfl rfl (by kernel_rfl) (by kernel_rfl) (by kernel_rfl) (listed' := #[true, true, true, true, true, true, true, true, true, true, true, true, true, true, true, false, false, false, false, false, false, false]) (by kernel_rfl) (fun _ _ _ h => h) (wanted_yes 9 48 true rfl rfl rfl) ?_ ?_ ?_
      rotate_left 2
      · intro w hSw
        (try dsimp only at hSw)
        go_simp
        try with_reducible rfl
      · simp only [List.setIfInBounds_toArray, List.set_cons_zero, List.set_cons_succ]; with_reducible rfl
      refine wpAnyG_call 15 54 (tm' := ?_) (v := .int .i64 (way y.dist O)) (f := ?_) (args := ?_) rfl rfl (by kernel_rfl) (by kernel_rfl) (by kernel_rfl) (listed' := #[true, true, true, true, true, true, true, true, true, true, true, true, true, true, true, true, false, false, false, false, false, false]) (by kernel_rfl) (fun _ _ _ h => h) (wanted_yes 9 48 true rfl rfl rfl) ?_ ?_ ?_ ?_
      rotate_left 3
      · intro w
        go_simp
        first | with_reducible rfl | (constructor <;> with_reducible rfl)
      · intro wS hSw
        obtain ⟨hbS, hxS⟩ := hSw
        exact (rway_any _ _ y O _ (hyr.out.below hbS (Nat.le_refl _)) (HL.out.below hbS (Nat.le_refl _)) HARC.out (by omega) HOB.out).mono fun e w' ⟨he, hb⟩ => ⟨he, hbS.trans (hb.mono hbS.size), hxS.below hb hxS.lt⟩
      · simp only [List.setIfInBounds_toArray, List.set_cons_zero, List.set_cons_succ]; with_reducible rfl
      refine wpAnyG_take 16 55 (tm' := ?_) (v := .bool true) rfl rfl (by kernel_rfl) (by kernel_rfl) (by kernel_rfl) (listed' := #[true, true, true, true, true, true, true, true, true, true, true, true, true, true, true, true, true, false, false, false, false, false]) (by kernel_rfl) (fun _ _ _ h => h) (wanted_yes 9 48 true rfl rfl rfl) ?_ ?_ ?_
      rotate_left
      · intro w hSw
        (try dsimp only at hSw)
        go_simp
        try with_reducible rfl
      · simp only [List.setIfInBounds_toArray, List.set_cons_zero, List.set_cons_succ]; with_reducible rfl
      refine wpAnyG_take 17 56 (tm' := ?_) (v := .bool true) rfl rfl (by kernel_rfl) (by kernel_rfl) (by kernel_rfl) (listed' := #[true, true, true, true, true, true, true, true, true, true, true, true, true, true, true, true, true, true, false, false, false, false]) (by kernel_rfl) (fun _ _ _ h => h) (wanted_none rfl) ?_ ?_ ?_
      rotate_left
      · intro w hSw
        (try dsimp only at hSw)
        go_simp
        try with_reducible rfl
      · simp only [List.setIfInBounds_toArray, List.set_cons_zero, List.set_cons_succ]; with_reducible rfl
      refine wpAnyG_take 18 57 (tm' := ?_) (v := .bool true) rfl rfl (by kernel_rfl) (by kernel_rfl) (by kernel_rfl) (listed' := #[true, true, true, true, true, true, true, true, true, true, true, true, true, true, true, true, true, true, true, false, false, false]) (by kernel_rfl) (fun _ _ _ h => h) (wanted_none rfl) ?_ ?_ ?_
      rotate_left
      · intro w hSw
        (try dsimp only at hSw)
        go_simp
        try with_reducible rfl
      · simp only [List.setIfInBounds_toArray, List.set_cons_zero, List.set_cons_succ]; with_reducible rfl
      refine wpAnyG_call 19 58 (tm' := ?_) (v := .bool true) (f := ?_) (args := ?_) rfl rfl (by kernel_rfl) (by kernel_rfl) (by kernel_rfl) (listed' := #[true, true, true, true, true, true, true, true, true, true, true, true, true, true, true, true, true, true, true, true, false, false]) (by kernel_rfl) (fun _ _ _ h => h) (wanted_yes 18 57 true rfl rfl rfl) ?_ ?_ ?_ ?_
      rotate_left 3
      · intro w
        go_simp
        first | with_reducible rfl | (constructor <;> with_reducible rfl)
      · intro wS hSw
        obtain ⟨hbS, hxS⟩ := hSw
        exact (lives_any _).mono fun e w' ⟨he, hb⟩ => ⟨he, hbS.trans (hb.mono hbS.size), hxS.below hb hxS.lt⟩
      · simp only [List.setIfInBounds_toArray, List.set_cons_zero, List.set_cons_succ]; with_reducible rfl
      refine wpAnyG_take 20 59 (tm' := ?_) (v := .bool true) rfl rfl (by kernel_rfl) (by kernel_rfl) (by kernel_rfl) (listed' := #[true, true, true, true, true, true, true, true, true, true, true, true, true, true, true, true, true, true, true, true, true, false]) (by kernel_rfl) (fun _ _ _ h => h) (wanted_none rfl) ?_ ?_ ?_
      rotate_left
      · intro w hSw
        (try dsimp only at hSw)
        go_simp
        try with_reducible rfl
      · simp only [List.setIfInBounds_toArray, List.set_cons_zero, List.set_cons_succ]; with_reducible rfl
      refine wpAnyG_take 21 8 (tm' := ?_) (v := .bool true) rfl rfl (by kernel_rfl) (by kernel_rfl) (by kernel_rfl) (listed' := #[true, true, true, true, true, true, true, true, true, true, true, true, true, true, true, true, true, true, true, true, true, true]) (by kernel_rfl) (fun _ _ _ h => h) (wanted_none rfl) ?_ ?_ ?_
      rotate_left
      · intro w hSw
        (try dsimp only at hSw)
        go_simp
        try with_reducible rfl
      · simp only [List.setIfInBounds_toArray, List.set_cons_zero, List.set_cons_succ]; with_reducible rfl
      refine wpAnyF_done (by kernel_rfl) ?_
      intro wf hSf
      obtain ⟨hbf, hxf⟩ := hSf
      go_wp2
      go_ret
      exact ⟨rfl, below_nx kr hbf⟩

set_option maxHeartbeats 1000000 in
theorem instWays_hi (v lv : Value) (x : Inst) (l : List Int) (a b : Int) (w : World) (hx : RInst w v x) (hwf : x.wf) (hl : RInts w .i64 lv l) (hlw : ∀ z ∈ l, W64 z) (hn : 8 < l.length) :
    Calls Try.prog 4 #[v, .int .i64 a, .int .i64 b, lv] w fun e w' => e = .returned (.bool true) ∧ Below w.heap.size w w' := by
  have HX := Lib.hid hx
  have HW := Lib.hid hwf
  obtain ⟨cv, dv, rfl, ⟨A1, c1, rfl, -⟩, ⟨A2, c2, rfl, -⟩⟩ := hx
  obtain ⟨A, c, rfl, hc1, hc2, -⟩ := hl.open_
  have ht := hl.take (n := 8) (by omega)
  obtain ⟨L, HL, hL8, hLw, hLn⟩ : ∃ L : List Int, L = l.take 8 ∧ L.length ≤ 8 ∧ (∀ z ∈ L, W64 z) ∧ L.length = 8 := ⟨l.take 8, rfl, by simp; omega, fun z hz => hlw z (List.mem_of_mem_take hz), by simp; omega⟩
  rw [← HL] at ht
  obtain ⟨A', c', he, -, -, hcell⟩ := ht.open_
  obtain ⟨rfl, rfl⟩ : A = A' ∧ c = c' := by injection he with e1 e2 e3; exact ⟨e1, e3⟩
  clear ht he HL
  have HC := Lib.hid hcell
  have HZ := Lib.hid hLw
  have HN := Lib.hid hLn
  clear hcell hLw hLn hl hlw hwf
  have hB : decide ((8 : Int) < (l.length : Int)) = true := by simp; omega
  go_enter Try.func4, Try.ntmps4
  go_wp2_with fail
  refine (goodI_any _ _ _ (HX.out.below (below_al (Below.refl _ _) _) (Nat.le_refl _)) HW.out).mono ?_
  rintro e w2 ⟨v2, rfl, hown, hb2⟩
  have k2 := below_nx (below_al (Below.refl w.heap.size w) _) hb2
  have hyr := hown.reads
  obtain ⟨y, HY⟩ : ∃ y, y = goodP x := ⟨_, rfl⟩
  have HARC := Lib.hid (goodP_arcs x)
  rw [← HY] at hyr HARC
  clear HY hown HX HW
  have HYr := Lib.hid hyr
  obtain ⟨cv3, dv3, rfl, ⟨A3, c3, rfl, -⟩, ⟨A4, c4, rfl, -⟩⟩ := hyr
  go_wp2_with fail
  go_loopw [10, 11] (fun ov iv wr => ∃ k : Nat, k ≤ L.length ∧ iv = .int .i64 k ∧ wr.ownsRow (w2.heap.size + 1) 3 1 ov ((L.take k).map own12).length (((L.take k).map own12).map (Value.int .i64)) ∧
      Blk wr w2.heap.size 25 [.int .i64 y.days, .int .i64 y.veh, .int .i64 y.cap, .int .i64 y.len, .slice A3 y.custs.length c3, .slice A4 y.dist.length c4] ∧ Below w2.heap.size w2 wr) (fun _ iv _ => L.length - (intOf iv).toNat)
  case atStart => exact ⟨0, Nat.zero_le _, rfl, World.ownsRow_nil _ _ _ _, Blk.newAt _ _ _ rfl, below_al (Below.refl _ _) _⟩
  case round =>
    obtain ⟨k, hk, rfl, hown, hblk, hbel⟩ := hrel
    by_cases hlt : k < L.length
    · have hbase := hblk.lt
      obtain ⟨z, hz⟩ := some_of_lt hlt
      obtain ⟨b0, o0, rfl, hb0, hk0⟩ := HC.out k z hz
      obtain ⟨hz1, hz2⟩ := HZ.out z (List.mem_of_getElem? hz)
      have hk1 := (k2.cell (p := ⟨b0, o0 + k, none⟩) hb0).trans hk0
      have hk2 := (hbel.cell (p := ⟨b0, o0 + k, none⟩) (Nat.lt_of_lt_of_le hb0 k2.size)).trans hk1
      have HS := Lib.hid (show (L.take (k + 1)).map own12 = (L.take k).map own12 ++ [own12 z] by rw [List.take_add_one, hz]; simp)
      have hO : ((L.take k).map own12).length ≤ k := by simp; omega
      have hn2 := HN.out
      clear hk0 hk1 hz
      generalize (L.take k).map own12 = O at *
      have hO2 : O.length ≤ 1000000000 := by omega
      obtain ⟨hq0, hq1⟩ := own12_bd z
      have hcase : (0 ≤ z ∧ z % 12 = own12 z) ∨ (z < 0 ∧ own12 z = 0 ∧ z.tmod 12 = 0) ∨ (z < 0 ∧ 0 < own12 z ∧ z.tmod 12 = -own12 z) := by
        by_cases h : 0 ≤ z
        · exact .inl ⟨h, own12_pos h⟩
        · have h1 := own12_neg (show z < 0 by omega)
          by_cases h0 : own12 z = 0
          · exact .inr (.inl ⟨by omega, h0, by rw [h1, h0]; rfl⟩)
          · exact .inr (.inr ⟨by omega, by omega, h1⟩)
      generalize own12 z = q at *
      rcases hcase with ⟨h1, h2⟩ | ⟨h1, h2, h3⟩ | ⟨h1, h2, h3⟩
      rotate_left
      subst h2
      rotate_left 2
      all_goals
        go_wp2_with (at_builtin; refine wpList_append_one wr rfl _ _ 33 rfl (w2.heap.size + 1) 3 _ 1 8 Try.underlying33 iinfo rfl (by decide) (by decide) _ _ _ hown rfl [.int .i64 _] _ rfl rfl rfl hO2 hbase ?_; intro v1 w1 hown1 hb1 hz1)
        go_roundw
        case rel =>
          refine ⟨k + 1, by omega, by go_num, ?_, hblk.below hb1 (Nat.lt_succ_self _), hbel.trans (hb1.mono (by omega))⟩
          rw [HS.out]
          simpa using hown1
        case measure => simp [intOf]; omega
    · obtain rfl : k = L.length := by omega
      have hn2 := HN.out
      have hO : ((L.take L.length).map own12).length ≤ 8 := by simp; omega
      have hOb : ∀ z ∈ (L.take L.length).map own12, 0 ≤ z ∧ z ≤ 1000000000 := fun z hz => by
        obtain ⟨u, _, rfl⟩ := List.mem_map.1 hz
        have := own12_bd u
        omega
      generalize (L.take L.length).map own12 = O at *
      have HL := Lib.hid (RS.of_own hown : RInts wr .i64 _ O)
      have hyr := Lib.hid (HYr.out.below hbel (Nat.le_refl _))
      have HOB := Lib.hid hOb
      obtain ⟨Ao, co, rfl, -⟩ := RInts.open_ HL.out
      have kr := k2.trans (hbel.mono k2.size)
      clear hOb hown
      go_wp2_with fail
      refine wp_region_G (fun wS => Below wr.heap.size wr wS ∧ Blk wS w2.heap.size 25 [.int .i64 y.days, .int .i64 y.veh, .int .i64 y.cap, .int .i64 y.len, .slice A3 y.custs.length c3, .slice A4 y.dist.length c4]) 22 (listed := #[false, false, false, false, false, false, false, false, false, false, false, false, false, false, false, false, false, false, false, false, false, false]) (by kernel_rfl) ?_ (by kernel_rfl) (by kernel_rfl) ?_
      · exact ⟨(Below.refl _ _).drew, hblk.drew⟩
      refine wpAnyG_take 0 39 (tm' := ?_) (v := ?_) rfl rfl (by kernel_rfl) (by kernel_rfl) (by kernel_rfl) (listed' := #[true, false, false, false, false, false, false, false, false, false, false, false, false, false, false, false, false, false, false, false, false, false]) (by kernel_rfl) (fun _ _ _ h => h) (wanted_none rfl) ?_ ?_ ?_
      rotate_left 2
      · intro w hSw
        (try dsimp only at hSw)
        obtain ⟨hbS, hxS⟩ := hSw
        obtain ⟨q0, q1, q2, q3, q4, q5⟩ := hxS.cells6
        go_simp
        try with_reducible rfl
      · simp only [List.setIfInBounds_toArray, List.set_cons_zero, List.set_cons_succ]; with_reducible rfl
      refine wpAnyG_take 1 40 (tm' := ?_) (v := ?_) rfl rfl (by kernel_rfl) (by kernel_rfl) (by kernel_rfl) (listed' := #[true, true, false, false, false, false, false, false, false, false, false, false, false, false, false, false, false, false, false, false, false, false]) (by kernel_rfl) (fun _ _ _ h => h) (wanted_none rfl) ?_ ?_ ?_
      rotate_left 2
      · intro w hSw
        (try dsimp only at hSw)
        go_simp
        try with_reducible rfl
      · simp only [List.setIfInBounds_toArray, List.set_cons_zero, List.set_cons_succ]; with_reducible rfl
      refine wpAnyG_take 2 41 (tm' := ?_) (v := ?_) rfl rfl (by kernel_rfl) (by kernel_rfl) (by kernel_rfl) (listed' := #[true, true, true, false, false, false, false, false, false, false, false, false, false, false, false, false, false, false, false, false, false, false]) (by kernel_rfl) (fun _ _ _ h => h) (wanted_none rfl) ?_ ?_ ?_
      rotate_left 2
      · intro w hSw
        (try dsimp only at hSw)
        go_simp
        try with_reducible rfl
      · simp only [List.setIfInBounds_toArray, List.set_cons_zero, List.set_cons_succ]; with_reducible rfl
      refine wpAnyG_call 3 42 (tm' := ?_) (v := .int .i64 (arc y.dist a b)) (f := ?_) (args := ?_) rfl rfl (by kernel_rfl) (by kernel_rfl) (by kernel_rfl) (listed' := #[true, true, true, true, false, false, false, false, false, false, false, false, false, false, false, false, false, false, false, false, false, false]) (by kernel_rfl) (fun _ _ _ h => h) (wanted_none rfl) ?_ ?_ ?_ ?_
      rotate_left 3
      · intro w
        go_simp
        first | with_reducible rfl | (constructor <;> with_reducible rfl)
      · intro wS hSw
        obtain ⟨hbS, hxS⟩ := hSw
        exact (arc_any _ y _ _ _ (hyr.out.below hbS (Nat.le_refl _))).mono fun e w' ⟨he, hb⟩ => ⟨he, hbS.trans (hb.mono hbS.size), hxS.below hb hxS.lt⟩
      · simp only [List.setIfInBounds_toArray, List.set_cons_zero, List.set_cons_succ]; with_reducible rfl
      refine wpAnyG_take 4 43 (tm' := ?_) (v := ?_) rfl rfl (by kernel_rfl) (by kernel_rfl) (by kernel_rfl) (listed' := #[true, true, true, true, true, false, false, false, false, false, false, false, false, false, false, false, false, false, false, false, false, false]) (by kernel_rfl) (fun _ _ _ h => h) (wanted_none rfl) ?_ ?_ ?_
      rotate_left 2
      · intro w hSw
        (try dsimp only at hSw)
        obtain ⟨hbS, hxS⟩ := hSw
        obtain ⟨q0, q1, q2, q3, q4, q5⟩ := hxS.cells6
        go_simp
        try with_reducible rfl
      · simp only [List.setIfInBounds_toArray, List.set_cons_zero, List.set_cons_succ]; with_reducible rfl
      refine wpAnyG_take 5 44 (tm' := ?_) (v := ?_) rfl rfl (by kernel_rfl) (by kernel_rfl) (by kernel_rfl) (listed' := #[true, true, true, true, true, true, false, false, false, false, false, false, false, false, false, false, false, false, false, false, false, false]) (by kernel_rfl) (fun _ _ _ h => h) (wanted_none rfl) ?_ ?_ ?_
      rotate_left 2
      · intro w hSw
        (try dsimp only at hSw)
        go_simp
        try with_reducible rfl
      · simp only [List.setIfInBounds_toArray, List.set_cons_zero, List.set_cons_succ]; with_reducible rfl
      refine wpAnyG_take 6 45 (tm' := ?_) (v := ?_) rfl rfl (by kernel_rfl) (by kernel_rfl) (by kernel_rfl) (listed' := #[true, true, true, true, true, true, true, false, false, false, false, false, false, false, false, false, false, false, false, false, false, false]) (by kernel_rfl) (fun _ _ _ h => h) (wanted_none rfl) ?_ ?_ ?_
      rotate_left 2
      · intro w hSw
        (try dsimp only at hSw)
        go_simp
        try with_reducible rfl
      · simp only [List.setIfInBounds_toArray, List.set_cons_zero, List.set_cons_succ]; with_reducible rfl
      refine wpAnyG_call 7 46 (tm' := ?_) (v := .int .i64 (arc y.dist a b)) (f := ?_) (args := ?_) rfl rfl (by kernel_rfl) (by kernel_rfl) (by kernel_rfl) (listed' := #[true, true, true, true, true, true, true, true, false, false, false, false, false, false, false, false, false, false, false, false, false, false]) (by kernel_rfl) (fun _ _ _ h => h) (wanted_none rfl) ?_ ?_ ?_ ?_
      rotate_left 3
      · intro w
        go_simp
        first | with_reducible rfl | (constructor <;> with_reducible rfl)
      · intro wS hSw
        obtain ⟨hbS, hxS⟩ := hSw
        exact (rarc_any _ y _ _ _ (hyr.out.below hbS (Nat.le_refl _))).mono fun e w' ⟨he, hb⟩ => ⟨he, hbS.trans (hb.mono hbS.size), hxS.below hb hxS.lt⟩
      · simp only [List.setIfInBounds_toArray, List.set_cons_zero, List.set_cons_succ]; with_reducible rfl
      refine wpAnyG_take 8 47 (tm' := ?_) (v := .bool true) rfl rfl (by kernel_rfl) (by kernel_rfl) (by kernel_rfl) (listed' := #[true, true, true, true, true, true, true, true, true, false, false, false, false, false, false, false, false, false, false, false, false, false]) (by kernel_rfl) (fun _ _ _ h => h) (wanted_none rfl) ?_ ?_ ?_
      rotate_left
      · intro w hSw
        (try dsimp only at hSw)
        go_simp
        try with_reducible rfl
      · simp only [List.setIfInBounds_toArray, List.set_cons_zero, List.set_cons_succ]; with_reducible rfl
      refine wpAnyG_take 9 48 (tm' := ?_) (v := .bool true) rfl rfl (by kernel_rfl) (by kernel_rfl) (by kernel_rfl) (listed' := #[true, true, true, true, true, true, true, true, true, true, false, false, false, false, false, false, false, false, false, false, false, false]) (by kernel_rfl) (fun _ _ _ h => h) (wanted_none rfl) ?_ ?_ ?_
      rotate_left
      · intro w hSw
        (try dsimp only at hSw)
        go_simp
        try with_reducible rfl
      · simp only [List.setIfInBounds_toArray, List.set_cons_zero, List.set_cons_succ]; with_reducible rfl
      refine wpAnyG_take 10 49 (tm' := ?_) (v := ?_) rfl rfl (by kernel_rfl) (by kernel_rfl) (by kernel_rfl) (listed' := #[true, true, true, true, true, true, true, true, true, true, true, false, false, false, false, false, false, false, false, false, false, false]) (by kernel_rfl) (fun _ _ _ h => h) (wanted_yes 9 48 true rfl rfl rfl) ?_ ?_ ?_
      rotate_left 2
      · intro w hSw
        (try dsimp only at hSw)
        obtain ⟨hbS, hxS⟩ := hSw
        obtain ⟨q0, q1, q2, q3, q4, q5⟩ := hxS.cells6
        go_simp
        try with_reducible rfl
      · simp only [List.setIfInBounds_toArray, List.set_cons_zero, List.set_cons_succ]; with_reducible rfl
      refine wpAnyG_take 11 50 (tm' := ?_) (v := ?_) rfl rfl (by kernel_rfl) (by kernel_rfl) (by kernel_rfl) (listed' := #[true, true, true, true, true, true, true, true, true, true, true, true, false, false, false, false, false, false, false, false, false, false]) (by kernel_rfl) (fun _ _ _ h => h) (wanted_yes 9 48 true rfl rfl rfl) ?_ ?_ ?_
      rotate_left 2
      · intro w hSw
        (try dsimp only at hSw)
        go_simp
        try with_reducible rfl
      · simp only [List.setIfInBounds_toArray, List.set_cons_zero, List.set_cons_succ]; with_reducible rfl
      refine wpAnyG_call 12 51 (tm' := ?_) (v := .int .i64 (way y.dist O)) (f := ?_) (args := ?_) rfl rfl (by kernel_rfl) (by kernel_rfl) (by kernel_rfl) (listed' := #[true, true, true, true, true, true, true, true, true, true, true, true, true, false, false, false, false, false, false, false, false, false]) (by kernel_rfl) (fun _ _ _ h => h) (wanted_yes 9 48 true rfl rfl rfl) ?_ ?_ ?_ ?_
      rotate_left 3
      · intro w
        go_simp
        first | with_reducible rfl | (constructor <;> with_reducible rfl)
      · intro wS hSw
        obtain ⟨hbS, hxS⟩ := hSw
        exact (way_any _ _ y O _ (hyr.out.below hbS (Nat.le_refl _)) (HL.out.below hbS (Nat.le_refl _)) HARC.out (by omega) HOB.out).mono fun e w' ⟨he, hb⟩ => ⟨he, hbS.trans (hb.mono hbS.size), hxS.below hb hxS.lt⟩
      · simp only [List.setIfInBounds_toArray, List.set_cons_zero, List.set_cons_succ]; with_reducible rfl
      refine wpAnyG_take 13 52 (tm' := ?_) (v := ?_) rfl rfl (by kernel_rfl) (by kernel_rfl) (by kernel_rfl) (listed' := #[true, true, true, true, true, true, true, true, true, true, true, true, true, true, false, false, false, false, false, false, false, false]) (by kernel_rfl) (fun _ _ _ h => h) (wanted_yes 9 48 true rfl rfl rfl) ?_ ?_ ?_
      rotate_left 2
      · intro w hSw
        (try dsimp only at hSw)
        obtain ⟨hbS, hxS⟩ := hSw
        obtain ⟨q0, q1, q2, q3, q4, q5⟩ := hxS.cells6
        go_simp
        try with_reducible rfl
      · simp only [List.setIfInBounds_toArray, List.set_cons_zero, List.set_cons_succ]; with_reducible rfl
      refine wpAnyG_take 14 53 (tm' := ?_) (v := ?_) rfl rfl (by kernel_rfl) (by kernel_rfl) (by kernel_rfl) (listed' := #[true, true, true, true, true, true, true, true, true, true, true, true, true, true, true, false, false, false, false, false, false, false]) (by kernel_rfl) (fun _ _ _ h => h) (wanted_yes 9 48 true rfl rfl rfl) ?_ ?_ ?_
      rotate_left 2
      · intro w hSw
        (try dsimp only at hSw)
        go_simp
        try with_reducible rfl
      · simp only [List.setIfInBounds_toArray, List.set_cons_zero, List.set_cons_succ]; with_reducible rfl
      refine wpAnyG_call 15 54 (tm' := ?_) (v := .int .i64 (way y.dist O)) (f := ?_) (args := ?_) rfl rfl (by kernel_rfl) (by kernel_rfl) (by kernel_rfl) (listed' := #[true, true, true, true, true, true, true, true, true, true, true, true, true, true, true, true, false, false, false, false, false, false]) (by kernel_rfl) (fun _ _ _ h => h) (wanted_yes 9 48 true rfl rfl rfl) ?_ ?_ ?_ ?_
      rotate_left 3
      · intro w
        go_simp
        first | with_reducible rfl | (constructor <;> with_reducible rfl)
      · intro wS hSw
        obtain ⟨hbS, hxS⟩ := hSw
        exact (rway_any _ _ y O _ (hyr.out.below hbS (Nat.le_refl _)) (HL.out.below hbS (Nat.le_refl _)) HARC.out (by omega) HOB.out).mono fun e w' ⟨he, hb⟩ => ⟨he, hbS.trans (hb.mono hbS.size), hxS.below hb hxS.lt⟩
      · simp only [List.setIfInBounds_toArray, List.set_cons_zero, List.set_cons_succ]; with_reducible rfl
      refine wpAnyG_take 16 55 (tm' := ?_) (v := .bool true) rfl rfl (by kernel_rfl) (by kernel_rfl) (by kernel_rfl) (listed' := #[true, true, true, true, true, true, true, true, true, true, true, true, true, true, true, true, true, false, false, false, false, false]) (by kernel_rfl) (fun _ _ _ h => h) (wanted_yes 9 48 true rfl rfl rfl) ?_ ?_ ?_
      rotate_left
      · intro w hSw
        (try dsimp only at hSw)
        go_simp
        try with_reducible rfl
      · simp only [List.setIfInBounds_toArray, List.set_cons_zero, List.set_cons_succ]; with_reducible rfl
      refine wpAnyG_take 17 56 (tm' := ?_) (v := .bool true) rfl rfl (by kernel_rfl) (by kernel_rfl) (by kernel_rfl) (listed' := #[true, true, true, true, true, true, true, true, true, true, true, true, true, true, true, true, true, true, false, false, false, false]) (by kernel_rfl) (fun _ _ _ h => h) (wanted_none rfl) ?_ ?_ ?_
      rotate_left
      · intro w hSw
        (try dsimp only at hSw)
        go_simp
        try with_reducible rfl
      · simp only [List.setIfInBounds_toArray, List.set_cons_zero, List.set_cons_succ]; with_reducible rfl
      refine wpAnyG_take 18 57 (tm' := ?_) (v := .bool true) rfl rfl (by kernel_rfl) (by kernel_rfl) (by kernel_rfl) (listed' := #[true, true, true, true, true, true, true, true, true, true, true, true, true, true, true, true, true, true, true, false, false, false]) (by kernel_rfl) (fun _ _ _ h => h) (wanted_none rfl) ?_ ?_ ?_
      rotate_left
      · intro w hSw
        (try dsimp only at hSw)
        go_simp
        try with_reducible rfl
      · simp only [List.setIfInBounds_toArray, List.set_cons_zero, List.set_cons_succ]; with_reducible rfl
      refine wpAnyG_call 19 58 (tm' := ?_) (v := .bool true) (f := ?_) (args := ?_) rfl rfl (by kernel_rfl) (by kernel_rfl) (by kernel_rfl) (listed' := #[true, true, true, true, true, true, true, true, true, true, true, true, true, true, true, true, true, true, true, true, false, false]) (by kernel_rfl) (fun _ _ _ h => h) (wanted_yes 18 57 true rfl rfl rfl) ?_ ?_ ?_ ?_
      rotate_left 3
      · intro w
        go_simp
        first | with_reducible rfl | (constructor <;> with_reducible rfl)
      · intro wS hSw
        obtain ⟨hbS, hxS⟩ := hSw
        exact (lives_any _).mono fun e w' ⟨he, hb⟩ => ⟨he, hbS.trans (hb.mono hbS.size), hxS.below hb hxS.lt⟩
      · simp only [List.setIfInBounds_toArray, List.set_cons_zero, List.set_cons_succ]; with_reducible rfl
      refine wpAnyG_take 20 59 (tm' := ?_) (v := .bool true) rfl rfl (by kernel_rfl) (by kernel_rfl) (by kernel_rfl) (listed' := #[true, true, true, true, true, true, true, true, true, true, true, true, true, true, true, true, true, true, true, true, true, false]) (by kernel_rfl) (fun _ _ _ h => h) (wanted_none rfl) ?_ ?_ ?_
      rotate_left
      · intro w hSw
        (try dsimp only at hSw)
        go_simp
        try with_reducible rfl
      · simp only [List.setIfInBounds_toArray, List.set_cons_zero, List.set_cons_succ]; with_reducible rfl
      refine wpAnyG_take 21 8 (tm' := ?_) (v := .bool true) rfl rfl (by kernel_rfl) (by kernel_rfl) (by kernel_rfl) (listed' := #[true, true, true, true, true, true, true, true, true, true, true, true, true, true, true, true, true, true, true, true, true, true]) (by kernel_rfl) (fun _ _ _ h => h) (wanted_none rfl) ?_ ?_ ?_
      rotate_left
      · intro w hSw
        (try dsimp only at hSw)
        go_simp
        try with_reducible rfl
      · simp only [List.setIfInBounds_toArray, List.set_cons_zero, List.set_cons_succ]; with_reducible rfl
      refine wpAnyF_done (by kernel_rfl) ?_
      intro wf hSf
      obtain ⟨hbf, hxf⟩ := hSf
      go_wp2
      go_ret
      exact ⟨rfl, below_nx kr hbf⟩

theorem instWays_any (v lv : Value) (x : Inst) (l : List Int) (a b : Int) (w : World) (hx : RInst w v x) (hwf : x.wf) (hl : RInts w .i64 lv l) (hlw : ∀ z ∈ l, W64 z) :
    Calls Try.prog 4 #[v, .int .i64 a, .int .i64 b, lv] w fun e w' => e = .returned (.bool true) ∧ Below w.heap.size w w' := by
  by_cases hn : l.length ≤ 8
  · exact instWays_lo v lv x l a b w hx hwf hl hlw hn
  · exact instWays_hi v lv x l a b w hx hwf hl hlw (by omega)

end Go.Proofs.Ytifdggdpglphmaa
