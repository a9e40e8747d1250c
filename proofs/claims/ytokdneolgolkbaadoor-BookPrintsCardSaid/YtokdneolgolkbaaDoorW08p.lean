/- The walk of the statement BookPrints. -/
import Derived.Test.YtokdneolgolkbaaDoorW08b
import Derived.Test.YtokdneolgolkbaaDoorW08h
import Derived.Test.YtokdneolgolkbaaDoorW08k
import Derived.Test.YtokdneolgolkbaaDoorW08n
import Derived.Test.YtokdneolgolkbaaDoorW08q
namespace Go.Proofs.YtokdneolgolkbaaDoor
open Go.RowKit P08 P05

set_option maxHeartbeats 2000000 in
set_option maxRecDepth 100000 in
theorem bookPrints_any (v : Value) (p : Pl) (m : Int) (w : World) (hp : RPlan w v p) (hwf : Wf p) (hm : w.cell? ⟨0, 0, none⟩ = some (.int .i64 m)) :
    Calls Tryd.prog 3 #[v] w fun e w' => e = .returned (.bool true) ∧ Below w.heap.size w w' := by
  have HP := Lib.hid hp
  have HMM := Lib.hid hm
  have HSM := Lib.hid (small_cut p)
  have HWF := Lib.hid (wf_cut hwf)
  obtain ⟨dv, rfl, hd⟩ := hp
  obtain ⟨A, c, rfl, h1, h2, -⟩ := RDays.open_ hd
  clear hd hwf hm
  obtain ⟨q, hq⟩ : ∃ q, cutP p = q := ⟨_, rfl⟩
  rw [hq] at HSM HWF
  have HQ := Lib.hid hq
  clear hq
  go_enter Tryd.func3, Tryd.ntmps3
  go_wp2_with fail
  have k1 := (Below.refl w.heap.size w).alloc (Nat.le_refl _) (.cells #[.slice A p.length c] 24)
  have hx0 := Blk.new w 24 [.slice A p.length c]
  refine (rcut_any _ p _ (HP.out.below k1 (Nat.le_refl _))).mono ?_
  rintro e w2 ⟨v2, rfl, hown, hb2⟩
  rw [HQ.out] at hown
  obtain ⟨dv2, rfl, hod⟩ := hown
  simp only [World.size_alloc] at hod hb2
  have k2 : Below w.heap.size w w2 := k1.trans (hb2.mono (Nat.le_succ _))
  have hx2 : Blk w2 w.heap.size 24 [.slice A p.length c] := hx0.below hb2 (Nat.lt_succ_self _)
  have c2 : w2.cell? ⟨w.heap.size, 0, none⟩ = some (.slice A p.length c) := hx2.cell 0
  have f2 := hx2.frozen 0
  obtain ⟨A2, cc, rfl, g1, g2, -⟩ := RDays.open_ (ODays.reads hod)
  have hod3 := ODays.reads (ODays.set_low hod (q := ⟨w.heap.size, 0, none⟩) (Nat.lt_succ_self _) (.slice A2 q.length cc))
  have hx3 := hx2.set_ 0 (.slice A2 q.length cc)
  have k3 := k2.setCell (p := ⟨w.heap.size, 0, none⟩) (Nat.le_refl _) (.slice A2 q.length cc)
  have HOD := Lib.hid hod3
  have HX3 := Lib.hid hx3
  have HK3 := Lib.hid k3
  clear hod hod3 hx3 k3 hx0 k1
  go_wp2_with fail
  refine (print8_any _ q _ ⟨_, rfl, HOD.out⟩ HSM.out HWF.out).mono ?_
  rintro e w3 ⟨rfl, hb3⟩
  have k4 := HK3.out.trans (hb3.mono (by simp; exact k2.size))
  have HOD3 := Lib.hid (RDays.below HOD.out hb3 (Nat.le_refl _))
  have hx4 := HX3.out.below hb3 HX3.out.lt
  have c4 : w3.cell? ⟨w.heap.size, 0, none⟩ = some (.slice A2 q.length cc) := hx4.cell 0
  have z4 := hx4.lt
  by_cases ht : toldP q = true
  rotate_left
  · have e1 : bstr (printS q) = .string ⟨#[]⟩ ∧ printE q = 1 := by
      unfold printS printE
      rw [if_neg ht, if_neg ht]
      exact ⟨rfl, rfl⟩
    have e2 : toldP q = false := by simpa using ht
    have HE1 := Lib.hid e1.1
    have HE2 := Lib.hid e2
    rw [e1.1, e1.2]
    clear e1 e2 ht
    go_wp2_with fail
    refine (rprint8_any _ q _ ⟨_, rfl, HOD3.out⟩ HSM.out HWF.out).mono ?_
    rintro e w4 ⟨rfl, hb4⟩
    rw [HE1.out, HE2.out]
    go_wp2_with fail
    refine (lives8_any _).mono ?_
    rintro e w5 ⟨rfl, hb5⟩
    go_wp2
    go_ret
    exact ⟨rfl, below_nx8 (below_nx8 k4 hb4) hb5⟩
  · obtain ⟨s, hs, hsl⟩ : ∃ s : ByteArray, bstr (printS q) = .string s ∧ s.data.toList = planText q := ⟨_, rfl, by unfold printS; rw [if_pos ht]⟩
    have e2 : printE q = 0 := by unfold printE; rw [if_pos ht]
    have HS := Lib.hid hs
    have HSL := Lib.hid hsl
    have HTD := Lib.hid ht
    rw [hs, e2]
    clear hs hsl e2 ht
    go_wp2_with fail
    refine (rprint8_any _ q _ ⟨_, rfl, HOD3.out⟩ HSM.out HWF.out).mono ?_
    rintro e w4 ⟨rfl, hb4⟩
    rw [HS.out, HTD.out]
    have k5 := below_nx8 k4 hb4
    have HOD4 := Lib.hid (RDays.below HOD3.out hb4 (Nat.le_refl _))
    have hx5 := hx4.below hb4 z4
    have z5 := hx5.lt
    go_wp2_with fail
    refine (parse8_any s q m _ HSL.out HSM.out HWF.out HTD.out (cell_below k5 (Nat.le_refl _) HMM.out)).mono ?_
    rintro e w5 ⟨pv, rfl, hpo, hb5⟩
    have k6 := below_nx8 k5 hb5
    obtain ⟨A5, c5, rfl, -, -, -⟩ := RDays.open_ (ODays.reads hpo)
    have HOD5 := Lib.hid (RDays.below HOD4.out hb5 (Nat.le_refl _))
    have HPO := Lib.hid (ODays.reads hpo)
    have hx6 := hx5.below hb5 z5
    have c6 : w5.cell? ⟨w.heap.size, 0, none⟩ = some (.slice A2 q.length cc) := hx6.cell 0
    have z6 := hx6.lt
    clear hpo c4 z4 z5
    go_wp2_with fail
    refine (rsame8_any _ _ q q _ ⟨_, rfl, RDays.below HOD5.out (below_al8 (Below.refl _ _) _) (Nat.le_refl _)⟩ ⟨_, rfl, RDays.below HPO.out (below_al8 (Below.refl _ _) _) (Nat.le_refl _)⟩).mono ?_
    rintro e w6 ⟨rfl, hb6⟩
    rw [plEq_refl]
    have k7 := below_nx8 (below_al8 k6 _) hb6
    go_wp2_with fail
    refine (lives8_any _).mono ?_
    rintro e w7 ⟨rfl, hb7⟩
    go_wp2
    go_ret
    exact ⟨rfl, below_nx8 k7 hb7⟩
end Go.Proofs.YtokdneolgolkbaaDoor
