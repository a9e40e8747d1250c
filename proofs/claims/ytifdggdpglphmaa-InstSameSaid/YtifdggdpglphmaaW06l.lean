/- The walks of Way, the program's and the reference's. -/
import Derived.Test.YtifdggdpglphmaaW06k
import Derived.Test.YtifdggdpglphmaaOrdF
import Derived.Test.YtifdggdpglphmaaP06d
namespace Go.Proofs.Ytifdggdpglphmaa
open Go.RowKit P06

set_option maxHeartbeats 2000000 in
theorem way_any (v lv : Value) (x : Inst) (l : List Int) (w : World) (hx : RInst w v x) (hl : RInts w .i64 lv l) (hA : ArcsOk x.dist) (hn : l.length ≤ 1000000) (hc : ∀ z ∈ l, 0 ≤ z ∧ z ≤ 1000000000) :
    Calls Try.prog 16 #[v, lv] w fun e w' => e = .returned (.int .i64 (way x.dist l)) ∧ Below w.heap.size w w' := by
  have HX := Lib.hid hx
  obtain ⟨cv, dv, rfl, hcs, hds⟩ := hx
  obtain ⟨Ac, cc, rfl, -⟩ := hcs.open_
  obtain ⟨Ad, cd, rfl, -⟩ := hds.open_
  obtain ⟨A, c, rfl, hc1, hc2, hcell⟩ := hl.open_
  have HC := Lib.hid hcell
  have HZ := Lib.hid hc
  have HA := Lib.hid hA
  clear hcs hds hcell hc hA hl
  generalize hcv : Value.slice Ac x.custs.length cc = cv at *
  generalize hdv : Value.slice Ad x.dist.length cd = dv at *
  cases l with
  | nil =>
    subst hcv hdv
    simp only [List.length_nil]
    go_enter Try.func16, Try.ntmps16
    go_wp2
    go_ret
    exact ⟨rfl, (Below.refl _ _).alloc (Nat.le_refl _) _⟩
  | cons c0 t0 =>
    have hwe : way x.dist (c0 :: t0) = wayFrom x.dist 0 (c0 :: t0) := rfl
    have hlt0 : 0 < (c0 :: t0).length := by simp
    generalize c0 :: t0 = l at *
    have HWE := Lib.hid hwe
    have hne : ((l.length : Int) == 0) = false := by rw [beq_eq_false_iff_ne]; omega
    have hne2 : (l.length == 0) = false := by rw [beq_eq_false_iff_ne]; omega
    clear hwe
    subst hcv hdv
    go_enter Try.func16, Try.ntmps16
    go_wp2_with fail
    clear hne hne2
    go_loopw [5, 6, 14] (fun sv av kv wr => ∃ (k : Nat) (acc at_ : Int), k ≤ l.length ∧ kv = .int .i64 k ∧ sv = .int .i64 acc ∧ av = .int .i64 at_ ∧ 0 ≤ acc ∧ acc ≤ k * 2147483648 ∧
        Hid (way x.dist l = acc + wayFrom x.dist at_ (l.drop k)) ∧ Blk wr w.heap.size 25 [.int .i64 x.days, .int .i64 x.veh, .int .i64 x.cap, .int .i64 x.len, .slice Ac x.custs.length cc, .slice Ad x.dist.length cd] ∧ Below w.heap.size w wr) (fun _ _ kv _ => l.length - (intOf kv).toNat)
    case atStart => exact ⟨0, 0, 0, Nat.zero_le _, rfl, rfl, rfl, by omega, by omega, by show _ = _; rw [HWE.out]; simp, Blk.new _ _ _, (Below.refl _ _).alloc (Nat.le_refl _) _⟩
    case round =>
      obtain ⟨k, acc, at_, hk, rfl, rfl, rfl, ha0, ha1, HI, hbx, hbel⟩ := hrel
      have hz := hbx.lt
      have HXW := Lib.hid (HX.out.below hbel (Nat.le_refl _))
      obtain ⟨x0, x1, x2, x3, x4, x5⟩ := hbx.cells6
      by_cases hlt : k < l.length
      · obtain ⟨z, hz1⟩ := some_of_lt hlt
        obtain ⟨b, o, rfl, hb, hk1⟩ := HC.out k z hz1
        replace hk1 := (hbel.cell (p := ⟨b, o + k, none⟩) hb).trans hk1
        obtain ⟨hz2, hz3⟩ := HZ.out z (List.mem_of_getElem? hz1)
        have hd := HI.out
        rw [drop_some hz1, wayFrom] at hd
        have HD := Lib.hid hd
        have hbd := HA.out at_ (z + 1)
        obtain ⟨hb0, hb1⟩ := hbd
        clear HI hz1 hd
        go_wp2_with fail
        refine (arc_any _ x at_ (z + 1) _ HXW.out).mono ?_
        rintro e w1 ⟨rfl, hb2⟩
        generalize arc x.dist at_ (z + 1) = q at *
        go_wp2
        go_roundw
        case rel => exact ⟨k + 1, acc + q, z + 1, by omega, by go_num, rfl, rfl, by omega, by push_cast; omega, by have h := HD.out; show _ = _; omega, hbx.below hb2 hz, hbel.trans (hb2.mono (by omega))⟩
        case measure => simp [intOf]; omega
      · have hd := HI.out
        rw [List.drop_eq_nil_of_le (by omega), wayFrom] at hd
        have HD := Lib.hid hd
        obtain ⟨hb0, hb1⟩ := HA.out at_ 0
        clear HI hd
        go_wp2_with fail
        refine (arc_any _ x at_ 0 _ HXW.out).mono ?_
        rintro e w1 ⟨rfl, hb2⟩
        generalize arc x.dist at_ 0 = q at *
        go_wp2
        go_ret
        exact ⟨ret_int HD.out.symm, hbel.trans (hb2.mono (by omega))⟩

end Go.Proofs.Ytifdggdpglphmaa
