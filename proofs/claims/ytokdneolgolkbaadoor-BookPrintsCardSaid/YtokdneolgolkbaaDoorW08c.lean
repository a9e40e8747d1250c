/- The walk of the iterator over all stops. -/
import Derived.RangeFuncNested
import Derived.RangeFuncBound
import Derived.RangeFuncCalls
import Derived.RangeFuncLeaves
import Derived.Shelf.Abstract
import Derived.Shelf.RegionOpen
import Derived.WalkKit
import Derived.OwnWalkIn
import Derived.TacticsInMore
import Derived.LoopNIn
import Derived.LoopIn
import Derived.Outline
import Derived.Test.YtokdneolgolkbaaDoorM08
import Derived.Test.YtokdneolgolkbaaDoorP08b
namespace Go.Proofs.YtokdneolgolkbaaDoor
open Go.RowKit Go.Shelf P08
attribute [local go_sem] Oper.semAt_some

set_option maxRecDepth 100000 in
set_option maxHeartbeats 4000000 in
theorem stops1_in (n : Nat) (hn : 1 ≤ n) (l Bn : Nat) (w0 : World) (dv : Value) (p : Pl) (hp : RDays w0 dv p) (J Jx : List (Nat × Stp) → World → Prop) (W : World) (hJ : AbidesFrom W.heap.size J)
    (hY : ∀ pre (x : Nat × Stp) W1, J pre W1 → pre.length < (stopsP p).length → YieldAt Fence.wide (n - 1) Tryd.prog l #[.agg #[.int .i64 x.2.1, .int .i64 x.2.2, .int .i64 (x.1 : Int)]] W1 fun e W' =>
      (e = .returned (.bool true) ∧ J (pre ++ [x]) W' ∧ Below w0.heap.size W1 W') ∨ (e = .returned (.bool false) ∧ Jx (pre ++ [x]) W'))
    (hW : Below w0.heap.size w0 W) (hBn : W.cell? ⟨Bn, 0, none⟩ = some dv) (h0 : J [] W) :
    CallsIn Fence.wide n Tryd.prog 21 #[.func (.yield l) #[] #[], .pointer (some ⟨Bn, 0, none⟩)] W fun e W' => (∃ v, e = .returned v) ∧
      ((∃ ys, ys = stopsP p ∧ J ys W') ∨ (∃ pre, pre <+: stopsP p ∧ Jx pre W')) := by
  obtain ⟨A, c, rfl, h1, h2, hc⟩ := RDays.open_ hp
  have HD := Lib.hid hc
  have HY := Lib.hid hY
  have HJ := Lib.hid hJ
  clear hp hc hY hJ
  refine callsIn_of_wp Tryd.func21 rfl trivial ?_ rfl
  simp only [Tryd.ntmps21, List.size_toArray, List.length_cons, List.length_nil, Nat.reduceAdd, Nat.reduceSub, Array.replicate_succ, Array.replicate_zero, List.push_toArray, List.append_toArray, List.nil_append, List.cons_append]
  gi_wp2
  gi_loopw [12] (fun iv wr => ∃ k : Nat, k ≤ p.length ∧ iv = .int .i64 k ∧ J (stopsF 0 (p.take k)) wr ∧ Below w0.heap.size w0 wr) (fun iv _ => p.length - (intOf iv).toNat)
  case atStart => exact ⟨0, Nat.zero_le _, rfl, h0, hW⟩
  case round =>
    obtain ⟨k, hk, rfl, hJs, hnx⟩ := hrel
    by_cases hlt : k < p.length
    · obtain ⟨d, hd⟩ := some_of_lt hlt
      obtain ⟨b, o, rfl, hb, tv, htv, hcell⟩ := HD.out k d hd
      obtain ⟨A2, c2, rfl, g1, g2, hct⟩ := RTours.open_ htv
      have x1 : wr.cell? ⟨b, o + k, none⟩ = some (.slice A2 d.length c2) := cell_below hnx (Nat.le_refl _) hcell
      have HT := Lib.hid hct
      have HX := Lib.hid hd
      clear hd hcell htv hct
      have hJ1 := HJ.out _ _ _ none hJs (World.grownBy_alloc wr (.cells #[.slice A2 d.length c2] 38) none) (fun r e => by cases e)
      have hB1 := hnx.alloc hnx.size (.cells #[.slice A2 d.length c2] 38)
      obtain ⟨wo, hwo⟩ : ∃ wo : World, wo = wr := ⟨_, rfl⟩
      subst hwo
      clear hJs
      gi_wp2
      gi_loopw [20] (fun iv wr => ∃ j : Nat, j ≤ d.length ∧ iv = .int .i64 j ∧ J (stopsF 0 (p.take k) ++ stopsD k (d.take j)) wr ∧ Below w0.heap.size w0 wr) (fun iv _ => d.length - (intOf iv).toNat)
      case atStart => exact ⟨0, Nat.zero_le _, rfl, by simpa [stopsD] using hJ1, hB1⟩
      case round =>
        clear hJ1 hB1
        obtain ⟨j, hj, rfl, hJs, hny⟩ := hrel
        by_cases hlt2 : j < d.length
        · obtain ⟨t, ht⟩ := some_of_lt hlt2
          obtain ⟨b2, o2, rfl, hb2, sv, hsv, hcell⟩ := HT.out j t ht
          obtain ⟨A3, c3, rfl, g3, g4, hcs⟩ := RStops.open_ hsv
          have x2 : wr.cell? ⟨b2, o2 + j, none⟩ = some (.slice A3 t.length c3) := cell_below hny (Nat.le_refl _) hcell
          have HS := Lib.hid hcs
          have HX2 := Lib.hid ht
          have hJ1 := HJ.out _ _ _ none hJs (World.grownBy_alloc wr (.cells #[.slice A3 t.length c3] 41) none) (fun r e => by cases e)
          have hB1 := hny.alloc hny.size (.cells #[.slice A3 t.length c3] 41)
          obtain ⟨wp, hwp⟩ : ∃ wp : World, wp = wr := ⟨_, rfl⟩
          subst hwp
          clear hJs ht hcell hsv hcs
          gi_wp2
          gi_loopw [27] (fun iv wr => ∃ i : Nat, i ≤ t.length ∧ iv = .int .i64 i ∧ J (stopsF 0 (p.take k) ++ stopsD k (d.take j) ++ stopsT k (t.take i)) wr ∧ Below w0.heap.size w0 wr) (fun iv _ => t.length - (intOf iv).toNat)
          case atStart => exact ⟨0, Nat.zero_le _, rfl, by simpa [stopsT] using hJ1, hB1⟩
          case round =>
            clear hJ1 hB1
            obtain ⟨i, hi, rfl, hJs, hnz⟩ := hrel
            by_cases hlt3 : i < t.length
            · obtain ⟨⟨cu, qu⟩, hs⟩ := some_of_lt hlt3
              obtain ⟨b3, o3, rfl, hb3, hcell0, hcell1⟩ := HS.out i _ hs
              have u3 : wr.cell? ⟨b3, o3 + i * 2, none⟩ = some (.int .i64 cu) := cell_below hnz (Nat.le_refl _) hcell0
              have u4 : wr.cell? ⟨b3, o3 + i * 2 + 1, none⟩ = some (.int .i64 qu) := cell_below hnz (Nat.le_refl _) hcell1
              have hJ1 := HJ.out _ _ _ none hJs (World.grownBy_alloc wr (.cells #[.int .i64 cu, .int .i64 qu] 43) none) (fun r e => by cases e)
              have hB1 := hnz.alloc hnz.size (.cells #[.int .i64 cu, .int .i64 qu] 43)
              have hpre := stops_pre HX.out HX2.out hs
              have HPRE := Lib.hid hpre
              obtain ⟨fn, tmps, assign, body, hy, hR⟩ := HY.out _ (k, (cu, qu)) _ hJ1 (by have := hpre.length_le; rw [List.length_append] at this; simp at this ⊢; omega)
              dsimp only at hy
              have HS3 := Lib.hid (stopsT_snoc (i := k) hs)
              clear hs hcell0 hcell1 hpre hJ1
              gi_wp2
              refine hR.mono ?_
              rintro e W3 (⟨rfl, hJ3, hk3⟩ | ⟨rfl, hJx3⟩)
              · gi_wp2
                go_roundw
                case rel => exact ⟨i + 1, by omega, by go_num, by rw [HS3.out, ← List.append_assoc]; exact hJ3, hB1.trans hk3⟩
                case measure => simp [intOf]; omega
              · gi_wp2
                refine bodyPost_ret (results_none rfl _ _ _) rfl ?_
                exact ⟨⟨_, rfl⟩, .inr ⟨_, HPRE.out, hJx3⟩⟩
            · obtain rfl : i = t.length := by omega
              gi_wp2
              go_roundw
              case rel => exact ⟨j + 1, by omega, by go_num, by rw [stopsD_snoc HX2.out, ← List.append_assoc]; rw [List.take_length] at hJs; exact hJs, hnz⟩
              case measure => simp [intOf]; omega
        · obtain rfl : j = d.length := by omega
          gi_wp2
          go_roundw
          case rel => exact ⟨k + 1, by omega, by go_num, by rw [stopsF_snoc HX.out]; rw [List.take_length] at hJs; exact hJs, hny⟩
          case measure => simp [intOf]; omega
    · obtain rfl : k = p.length := by omega
      gi_wp2
      go_end0
      exact ⟨⟨_, rfl⟩, .inl ⟨_, by rw [List.take_length] at hJs ⊢; rfl, hJs⟩⟩
theorem stops_in (n : Nat) (a : Option Addr) (len cap : Nat) (w : World) :
    CallsIn Fence.wide n Tryd.prog 10 #[.agg #[.slice a len cap]] w fun e w' => e = .returned (.func (.func 21) #[] #[.pointer (some ⟨w.heap.size, 0, none⟩)]) ∧ w' = w.alloc (.cells #[.slice a len cap] 24) := by
  refine callsIn_of_wp Tryd.func10 rfl trivial ?_ rfl
  simp only [Tryd.ntmps10, List.size_toArray, List.length_cons, List.length_nil, Nat.reduceAdd, Nat.reduceSub, Array.replicate_succ, Array.replicate_zero, List.push_toArray, List.append_toArray, List.nil_append, List.cons_append]
  gi_wp2
  go_ret
  exact ⟨rfl, rfl⟩
/-- The iterator, as a loop over it wants it. -/
theorem stops_stops (n : Nat) (hn : 1 ≤ n) (Bn : Nat) (w0 : World) (dv : Value) (p : Pl) (hp : RDays w0 dv p) (w : World) (hw : Below w0.heap.size w0 w) (hBs : Bn < w.heap.size) (hBn : w.cell? ⟨Bn, 0, none⟩ = some dv) :
    SeqStopsK Fence.wide n Tryd.prog 21 #[.pointer (some ⟨Bn, 0, none⟩)] (fun x : Nat × Stp => #[.agg #[.int .i64 x.2.1, .int .i64 x.2.2, .int .i64 (x.1 : Int)]]) (Below w0.heap.size) (fun ys => ys = stopsP p) (fun pre => pre <+: stopsP p) (stopsP p).length w :=
  fun l J Jx W hW hJ _ hY h0 => stops1_in n hn l Bn w0 dv p hp J Jx W hJ hY (hw.trans (hW.mono hw.size)) ((hW.cell (p := ⟨Bn, 0, none⟩) hBs).trans hBn) h0
end Go.Proofs.YtokdneolgolkbaaDoor
