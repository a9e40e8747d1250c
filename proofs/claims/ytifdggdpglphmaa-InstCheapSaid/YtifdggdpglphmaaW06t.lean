/- The walk of the statement InstCheap. -/
import Derived.Test.YtifdggdpglphmaaW06o
import Derived.Test.YtifdggdpglphmaaW06r
import Derived.Test.YtifdggdpglphmaaW06s
namespace Go.Proofs.Ytifdggdpglphmaa
open Go.RowKit P06

theorem toL_get (D : List (List Int)) (n k i : Nat) (h : i < k) : (toL D n k)[i]? = some (minTo D i (n + 1)) := by simp [toL, h]
theorem fromL_get (D : List (List Int)) (n k i : Nat) (h : i < k) : (fromL D n k)[i]? = some (minFrom D i (n + 1)) := by simp [fromL, h]

set_option maxHeartbeats 1000000 in
theorem instCheap_any (v : Value) (x : Inst) (w : World) (hx : RInst w v x) (hwf : x.wf) :
    Calls Try.prog 6 #[v] w fun e w' => e = .returned (.bool true) ∧ Below w.heap.size w w' := by
  have HX := Lib.hid hx
  have HW := Lib.hid hwf
  obtain ⟨cv, dv, rfl, ⟨A1, c1, rfl, -⟩, ⟨A2, c2, rfl, -⟩⟩ := hx
  clear hwf
  go_enter Try.func6, Try.ntmps6
  go_wp2_with fail
  refine (goodI_any _ _ _ (HX.out.below (below_al (Below.refl _ _) _) (Nat.le_refl _)) HW.out).mono ?_
  rintro e w2 ⟨v2, rfl, hown, hb2⟩
  have k2 := below_nx (below_al (Below.refl w.heap.size w) _) hb2
  have hyr := hown.reads
  obtain ⟨y, HY⟩ : ∃ y, y = goodP x := ⟨_, rfl⟩
  have HARC := Lib.hid (goodP_arcs x)
  have hy6 := goodP_custs x
  rw [← HY] at hyr HARC hy6
  clear HY hown HX HW
  have HYr := Lib.hid hyr
  obtain ⟨cv3, dv3, rfl, ⟨A3, c3, rfl, -⟩, ⟨A4, c4, rfl, -⟩⟩ := hyr
  go_wp2_with fail
  refine (cheap_any _ y _ (HYr.out.below (below_al (Below.refl _ _) _) (Nat.le_refl _)) (by omega)).mono ?_
  rintro e w3 ⟨tv, fv, rfl, htv, hfv, hb3⟩
  have hyb := (Blk.newAt w2 25 [.int .i64 y.days, .int .i64 y.veh, .int .i64 y.cap, .int .i64 y.len, .slice A3 y.custs.length c3, .slice A4 y.dist.length c4] rfl).below hb3 (by simp)
  have k3 := below_nx (below_al k2 _) hb3
  have HY3 := Lib.hid (HYr.out.below ((below_al (Below.refl _ _) _).trans (hb3.mono (by simp))) (Nat.le_refl _))
  have ht1 := toL_len y.dist y.custs.length y.custs.length
  have hf1 := fromL_len y.dist y.custs.length y.custs.length
  obtain ⟨At, ct, rfl, -, -, htc⟩ := htv.open_
  obtain ⟨Af, cf, rfl, -, -, hfc⟩ := hfv.open_
  rw [ht1, hf1]
  have HTC := Lib.hid htc
  have HFC := Lib.hid hfc
  clear htc hfc htv hfv ht1 hf1
  obtain ⟨q0, q1, q2, q3, q4, q5⟩ := hyb.cells6
  have hnn : ((y.custs.length : Int) != (y.custs.length : Int)) = false := by simp
  go_wp2_with fail
  clear q0 q1 q2 q3 q4 q5 hnn
  go_loopw [6] (fun iv wr => ∃ k : Nat, k ≤ y.custs.length ∧ iv = .int .i64 k ∧ Blk wr w2.heap.size 25 [.int .i64 y.days, .int .i64 y.veh, .int .i64 y.cap, .int .i64 y.len, .slice A3 y.custs.length c3, .slice A4 y.dist.length c4] ∧ Below w3.heap.size w3 wr) (fun iv _ => y.custs.length - (intOf iv).toNat)
  case atStart => exact ⟨0, Nat.zero_le _, rfl, hyb, Below.refl _ _⟩
  case round =>
    clear hyb
    obtain ⟨k, hk, rfl, hyb, hbel⟩ := hrel
    by_cases hlt : k < y.custs.length
    · obtain ⟨bt, ot, rfl, hbt, hkt⟩ := HTC.out k _ (toL_get _ _ _ _ hlt)
      obtain ⟨bf, of_, rfl, hbf, hkf⟩ := HFC.out k _ (fromL_get _ _ _ _ hlt)
      replace hkt := (hbel.cell (p := ⟨bt, ot + k, none⟩) hbt).trans hkt
      replace hkf := (hbel.cell (p := ⟨bf, of_ + k, none⟩) hbf).trans hkf
      obtain ⟨q0, q1, q2, q3, q4, q5⟩ := hyb.cells6
      go_wp2_with fail
      refine (rcheap_any _ y k _ (HY3.out.below hbel (Nat.le_refl _)) HARC.out (by omega) (by omega) (by omega)).mono ?_
      rintro e w4 ⟨rfl, hb4⟩
      have hyb4 := hyb.below hb4 hyb.lt
      replace hkt := (hb4.cell (p := ⟨bt, ot + k, none⟩) (Nat.lt_of_lt_of_le hbt hbel.size)).trans hkt
      replace hkf := (hb4.cell (p := ⟨bf, of_ + k, none⟩) (Nat.lt_of_lt_of_le hbf hbel.size)).trans hkf
      clear q0 q1 q2 q3 q4 q5
      go_wp2
      go_roundw
      case rel => exact ⟨k + 1, by omega, by go_num, hyb4, below_nx hbel hb4⟩
      case measure => simp [intOf]; omega
    · obtain rfl : k = y.custs.length := by omega
      go_wp2_with fail
      refine (lives_any _).mono ?_
      rintro e w5 ⟨rfl, hb5⟩
      go_wp2
      go_ret
      exact ⟨rfl, below_nx (below_nx k3 hbel) hb5⟩

end Go.Proofs.Ytifdggdpglphmaa
