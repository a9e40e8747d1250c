/- The walk of what turns a number of an instance. -/
import Derived.Test.YtifdggdpglphmaaW06m
namespace Go.Proofs.Ytifdggdpglphmaa
open Go.RowKit P06

theorem own_open {w : World} {lb : Nat} {e : TypeId} {size n : Nat} {v : Value} {xs : List Value} (h : w.ownsRow lb e size v n xs) (hn : 0 < n) (hs : 0 < size) :
    ∃ g c, v = .slice (some ⟨g, 0, none⟩) n c ∧ lb ≤ g ∧ g < w.heap.size ∧ n ≤ c ∧ c ≤ 9223372036854775807 ∧ (∀ j u, xs[j]? = some u → w.cell? ⟨g, j, none⟩ = some u) ∧ ∀ j, w.frozen? ⟨g, j, none⟩ = false := by
  have hl := h.1
  rcases h.2 with ⟨_, rfl⟩ | ⟨g, cap, cur, rfl, hb, hg, hn, hm, hs, ht⟩
  · have := Nat.mul_pos hn hs
    simp at hl
    omega
  · refine ⟨g, cap, rfl, hb, (Array.getElem?_eq_some_iff.1 hg).1, hn, by simpa [maxLen] using hm, fun j u hu => ?_, fun j => by simp [World.frozen?, hg]⟩
    rw [cell_of_row w g j cur e (0, 0) hg]
    rw [← ht, List.getElem?_take] at hu
    split at hu
    · simpa using hu
    · cases hu
theorem OwnRows.at_ {lb : Nat} {er ei : TypeId} {w : World} {v : Value} {L : List (List Int)} {i k : Nat} {r : List Int} {z : Int} (h : OwnRows lb er ei w v L) (hi : L[i]? = some r) (hz : r[k]? = some z) :
    ∃ g c g2 c2, v = .slice (some ⟨g, 0, none⟩) L.length c ∧ g < w.heap.size ∧ L.length ≤ c ∧ c ≤ 9223372036854775807 ∧ w.cell? ⟨g, i, none⟩ = some (.slice (some ⟨g2, 0, none⟩) r.length c2) ∧ lb ≤ g2 ∧ g2 < w.heap.size ∧ w.cell? ⟨g2, k, none⟩ = some (.int .i64 z) ∧ w.frozen? ⟨g2, k, none⟩ = false := by
  obtain ⟨rvs, h1, h2⟩ := h
  have hlt := lt_of_some hi
  have hl := h1.1
  obtain ⟨g, c, hv, hb, hgs, hc1, hc2, hcell, _⟩ := own_open h1 (by omega) (by omega)
  obtain ⟨rv, hrv⟩ := some_of_lt (l := rvs) (i := i) (by omega)
  have hkk := lt_of_some hz
  obtain ⟨g2, c2, hv2, hb2, hgs2, _, _, hcell2, hf2⟩ := own_open (h2 i r rv hi hrv) (by omega) (by omega)
  exact ⟨g, c, g2, c2, hv, hgs, hc1, hc2, by rw [hcell i rv hrv, hv2], hb2, hgs2, hcell2 k _ (by simp [hz]), hf2 k⟩
theorem OwnCusts.at_ {lb : Nat} {ec ep : TypeId} {w : World} {v : Value} {L : List Cust} {y : Cust} (h : OwnCusts lb ec ep w v L) (hx : L[0]? = some y) :
    ∃ g c pv, v = .slice (some ⟨g, 0, none⟩) L.length c ∧ lb ≤ g ∧ g < w.heap.size ∧ L.length ≤ c ∧ c ≤ 9223372036854775807 ∧ (∀ j u, (custCells y pv)[j]? = some u → w.cell? ⟨g, j, none⟩ = some u) ∧ ∀ j, w.frozen? ⟨g, j, none⟩ = false := by
  obtain ⟨pvs, h1, h2, h3⟩ := h
  have hlt := lt_of_some hx
  obtain ⟨g, c, hv, hb, hgs, hc1, hc2, hcell, hf⟩ := own_open h2 (by omega) (by omega)
  obtain ⟨pv, hpv⟩ := some_of_lt (l := pvs) (i := 0) (by omega)
  refine ⟨g, c, pv, hv, hb, hgs, hc1, hc2, fun j u hu => hcell j u ?_, hf⟩
  have hj := lt_of_some hu
  have := flat8_get L pvs 0 j y pv hx hpv (by simpa [custCells] using hj)
  rw [Nat.zero_mul, Nat.zero_add] at this
  rw [this, hu]

/-- What is left behind: an instance still. -/
def TurnedPost (lb : Nat) (w : World) (e : Ending) (w' : World) : Prop := ∃ v' x', e = .returned v' ∧ RInst w' v' x' ∧ x'.wf ∧ x'.custs.length ≤ 1000000 ∧ Below lb w w'
set_option maxHeartbeats 2000000 in
theorem turned1 (lb : Nat) (v : Value) (x : Inst) (by_ : Int) (w : World) (hx : OwnInst lb 46 47 33 3 w v x) (hwf : x.wf) (hn : x.custs.length ≤ 1000000) (hlb : lb ≤ w.heap.size)
    (hd : x.dist.length = x.custs.length + 1) (_hr : ∀ r ∈ x.dist, r.length = x.custs.length + 1) (hby : W64 by_) :
    Calls Try.prog 11 #[v, .int .i64 1, .int .i64 by_] w (TurnedPost lb w) := by
  have hxr := hx.reads
  obtain ⟨cv, dv, rfl, hcs, hds⟩ := hx
  have HCS := Lib.hid hcs.reads.plain
  have HDS := Lib.hid hds.reads.plain
  obtain ⟨A, c, rfl, hc1, hc2, -⟩ := HCS.out.open_
  obtain ⟨Ad, c1, rfl, hd1, hd2, -⟩ := HDS.out.open_
  have HXR := Lib.hid hxr
  have HWF := Lib.hid hwf
  have HBY := Lib.hid hby
  clear hxr hwf hby hcs hds _hr
  have HD := Lib.hid hd
  rw [hd] at hd1 HXR ⊢
  rw [hd] at HDS
  clear hd
  obtain ⟨days, veh, cap, len, custs, D⟩ := x
  simp only at *
  generalize hN : custs.length = N at *
  have HN := Lib.hid hN
  clear hN
  go_enter Try.func11, Try.ntmps11
  go_wp2
  all_goals
    refine bodyPost_ret (results_blk rfl _ _ (w.heap.size + 1) 25 [.int .i64 by_, .int .i64 veh, .int .i64 cap, .int .i64 len, .slice A N c, .slice Ad (N + 1) c1] _ rfl ?_ Try.underlying25 rfl isize) rfl ⟨_, ⟨by_, veh, cap, len, custs, D⟩, rfl, ⟨_, _, rfl, HCS.out.below (below_al (below_al (Below.refl _ _) _) _) (Nat.le_refl _), HDS.out.below (below_al (below_al (Below.refl _ _) _) _) (Nat.le_refl _)⟩, ⟨HBY.out, HWF.out.2.1, HWF.out.2.2.1, HWF.out.2.2.2.1, HWF.out.2.2.2.2⟩, (by show custs.length ≤ _; rw [HN.out]; exact hn), ((below_al (below_al (Below.refl _ _) _) _)).mono hlb⟩
    · exact Blk.newAt _ _ _ (by simp)
set_option maxHeartbeats 2000000 in
theorem turned2 (lb : Nat) (v : Value) (x : Inst) (by_ : Int) (w : World) (hx : OwnInst lb 46 47 33 3 w v x) (hwf : x.wf) (hn : x.custs.length ≤ 1000000) (hlb : lb ≤ w.heap.size)
    (hd : x.dist.length = x.custs.length + 1) (_hr : ∀ r ∈ x.dist, r.length = x.custs.length + 1) (hby : W64 by_) :
    Calls Try.prog 11 #[v, .int .i64 2, .int .i64 by_] w (TurnedPost lb w) := by
  have hxr := hx.reads
  obtain ⟨cv, dv, rfl, hcs, hds⟩ := hx
  have HCS := Lib.hid hcs.reads.plain
  have HDS := Lib.hid hds.reads.plain
  obtain ⟨A, c, rfl, hc1, hc2, -⟩ := HCS.out.open_
  obtain ⟨Ad, c1, rfl, hd1, hd2, -⟩ := HDS.out.open_
  have HXR := Lib.hid hxr
  have HWF := Lib.hid hwf
  have HBY := Lib.hid hby
  clear hxr hwf hby hcs hds _hr
  have HD := Lib.hid hd
  rw [hd] at hd1 HXR ⊢
  rw [hd] at HDS
  clear hd
  obtain ⟨days, veh, cap, len, custs, D⟩ := x
  simp only at *
  generalize hN : custs.length = N at *
  have HN := Lib.hid hN
  clear hN
  go_enter Try.func11, Try.ntmps11
  go_wp2
  all_goals
    refine bodyPost_ret (results_blk rfl _ _ (w.heap.size + 1) 25 [.int .i64 days, .int .i64 by_, .int .i64 cap, .int .i64 len, .slice A N c, .slice Ad (N + 1) c1] _ rfl ?_ Try.underlying25 rfl isize) rfl ⟨_, ⟨days, by_, cap, len, custs, D⟩, rfl, ⟨_, _, rfl, HCS.out.below (below_al (below_al (Below.refl _ _) _) _) (Nat.le_refl _), HDS.out.below (below_al (below_al (Below.refl _ _) _) _) (Nat.le_refl _)⟩, ⟨HWF.out.1, HBY.out, HWF.out.2.2.1, HWF.out.2.2.2.1, HWF.out.2.2.2.2⟩, (by show custs.length ≤ _; rw [HN.out]; exact hn), ((below_al (below_al (Below.refl _ _) _) _)).mono hlb⟩
    · exact Blk.newAt _ _ _ (by simp)
set_option maxHeartbeats 2000000 in
theorem turned3 (lb : Nat) (v : Value) (x : Inst) (by_ : Int) (w : World) (hx : OwnInst lb 46 47 33 3 w v x) (hwf : x.wf) (hn : x.custs.length ≤ 1000000) (hlb : lb ≤ w.heap.size)
    (hd : x.dist.length = x.custs.length + 1) (_hr : ∀ r ∈ x.dist, r.length = x.custs.length + 1) (hby : W64 by_) :
    Calls Try.prog 11 #[v, .int .i64 3, .int .i64 by_] w (TurnedPost lb w) := by
  have hxr := hx.reads
  obtain ⟨cv, dv, rfl, hcs, hds⟩ := hx
  have HCS := Lib.hid hcs.reads.plain
  have HDS := Lib.hid hds.reads.plain
  obtain ⟨A, c, rfl, hc1, hc2, -⟩ := HCS.out.open_
  obtain ⟨Ad, c1, rfl, hd1, hd2, -⟩ := HDS.out.open_
  have HXR := Lib.hid hxr
  have HWF := Lib.hid hwf
  have HBY := Lib.hid hby
  clear hxr hwf hby hcs hds _hr
  have HD := Lib.hid hd
  rw [hd] at hd1 HXR ⊢
  rw [hd] at HDS
  clear hd
  obtain ⟨days, veh, cap, len, custs, D⟩ := x
  simp only at *
  generalize hN : custs.length = N at *
  have HN := Lib.hid hN
  clear hN
  go_enter Try.func11, Try.ntmps11
  go_wp2
  all_goals
    refine bodyPost_ret (results_blk rfl _ _ (w.heap.size + 1) 25 [.int .i64 days, .int .i64 veh, .int .i64 by_, .int .i64 len, .slice A N c, .slice Ad (N + 1) c1] _ rfl ?_ Try.underlying25 rfl isize) rfl ⟨_, ⟨days, veh, by_, len, custs, D⟩, rfl, ⟨_, _, rfl, HCS.out.below (below_al (below_al (Below.refl _ _) _) _) (Nat.le_refl _), HDS.out.below (below_al (below_al (Below.refl _ _) _) _) (Nat.le_refl _)⟩, ⟨HWF.out.1, HWF.out.2.1, HBY.out, HWF.out.2.2.2.1, HWF.out.2.2.2.2⟩, (by show custs.length ≤ _; rw [HN.out]; exact hn), ((below_al (below_al (Below.refl _ _) _) _)).mono hlb⟩
    · exact Blk.newAt _ _ _ (by simp)
set_option maxHeartbeats 2000000 in
theorem turned4 (lb : Nat) (v : Value) (x : Inst) (by_ : Int) (w : World) (hx : OwnInst lb 46 47 33 3 w v x) (hwf : x.wf) (hn : x.custs.length ≤ 1000000) (hlb : lb ≤ w.heap.size)
    (hd : x.dist.length = x.custs.length + 1) (_hr : ∀ r ∈ x.dist, r.length = x.custs.length + 1) (hby : W64 by_) :
    Calls Try.prog 11 #[v, .int .i64 4, .int .i64 by_] w (TurnedPost lb w) := by
  have hxr := hx.reads
  obtain ⟨cv, dv, rfl, hcs, hds⟩ := hx
  have HCS := Lib.hid hcs.reads.plain
  have HDS := Lib.hid hds.reads.plain
  obtain ⟨A, c, rfl, hc1, hc2, -⟩ := HCS.out.open_
  obtain ⟨Ad, c1, rfl, hd1, hd2, -⟩ := HDS.out.open_
  have HXR := Lib.hid hxr
  have HWF := Lib.hid hwf
  have HBY := Lib.hid hby
  clear hxr hwf hby hcs hds _hr
  have HD := Lib.hid hd
  rw [hd] at hd1 HXR ⊢
  rw [hd] at HDS
  clear hd
  obtain ⟨days, veh, cap, len, custs, D⟩ := x
  simp only at *
  generalize hN : custs.length = N at *
  have HN := Lib.hid hN
  clear hN
  go_enter Try.func11, Try.ntmps11
  go_wp2
  all_goals
    refine bodyPost_ret (results_blk rfl _ _ (w.heap.size + 1) 25 [.int .i64 days, .int .i64 veh, .int .i64 cap, .int .i64 by_, .slice A N c, .slice Ad (N + 1) c1] _ rfl ?_ Try.underlying25 rfl isize) rfl ⟨_, ⟨days, veh, cap, by_, custs, D⟩, rfl, ⟨_, _, rfl, HCS.out.below (below_al (below_al (Below.refl _ _) _) _) (Nat.le_refl _), HDS.out.below (below_al (below_al (Below.refl _ _) _) _) (Nat.le_refl _)⟩, ⟨HWF.out.1, HWF.out.2.1, HWF.out.2.2.1, HBY.out, HWF.out.2.2.2.2⟩, (by show custs.length ≤ _; rw [HN.out]; exact hn), ((below_al (below_al (Below.refl _ _) _) _)).mono hlb⟩
    · exact Blk.newAt _ _ _ (by simp)
set_option maxHeartbeats 2000000 in
theorem turned5 (lb : Nat) (v : Value) (x : Inst) (by_ : Int) (w : World) (hx : OwnInst lb 46 47 33 3 w v x) (hwf : x.wf) (hn : x.custs.length ≤ 1000000) (hlb : lb ≤ w.heap.size)
    (hd : x.dist.length = x.custs.length + 1) (hr : ∀ r ∈ x.dist, r.length = x.custs.length + 1) (hby : W64 by_) :
    Calls Try.prog 11 #[v, .int .i64 5, .int .i64 by_] w (TurnedPost lb w) := by
  have hxr := hx.reads
  obtain ⟨cv, dv, rfl, hcs, hds⟩ := hx
  have HCS := Lib.hid hcs.reads.plain
  have HDS := Lib.hid hds.reads.plain
  obtain ⟨A, c, rfl, hc1, hc2, -⟩ := HCS.out.open_
  obtain ⟨r, hrn⟩ := some_of_lt (l := x.dist) (i := x.custs.length) (by omega)
  have hrl := hr r (List.mem_of_getElem? hrn)
  obtain ⟨z, hz⟩ := some_of_lt (l := r) (i := 0) (by omega)
  obtain ⟨g, c1, g2, c2, rfl, hgs, hd1, hd2, hcell, hlb2, hg2, hk, hf⟩ := hds.at_ hrn hz
  rw [hrl] at hcell
  clear hrn hrl hz
  have HXR := Lib.hid hxr
  have HWF := Lib.hid hwf
  have HBY := Lib.hid hby
  clear hxr hwf hby hcs hds hr
  have HD := Lib.hid hd
  rw [hd] at hd1 HXR ⊢
  rw [hd] at HDS
  clear hd
  obtain ⟨days, veh, cap, len, custs, D⟩ := x
  simp only at *
  generalize hN : custs.length = N at *
  have HN := Lib.hid hN
  clear hN
  obtain ⟨x', HX1, HX2, HX3⟩ := HXR.out.set_ hk HBY.out HWF.out
  replace HX1 := Lib.hid HX1
  replace HX3 := Lib.hid HX3
  go_enter Try.func11, Try.ntmps11
  go_wp2
  all_goals
    refine bodyPost_ret (results_blk rfl _ _ (w.heap.size + 1) 25 [.int .i64 days, .int .i64 veh, .int .i64 cap, .int .i64 len, .slice A N c, .slice (some ⟨g, 0, none⟩) (N + 1) c1] _ rfl ?_ Try.underlying25 rfl isize) rfl ⟨_, x', rfl, HX1.out.below (below_al (below_al (Below.refl _ _) _) _) (Nat.le_refl _), HX2, (by rw [HX3.out]; show custs.length ≤ _; rw [HN.out]; exact hn), ((Below.refl lb w).setCell (p := ⟨g2, 0, none⟩) hlb2 _).trans (((below_al (below_al (Below.refl _ _) _) _)).mono (by simpa using hlb))⟩
    · exact Blk.newAt _ _ _ (by simp)
set_option maxHeartbeats 2000000 in
theorem turned6 (lb : Nat) (v : Value) (x : Inst) (by_ : Int) (w : World) (hx : OwnInst lb 46 47 33 3 w v x) (hwf : x.wf) (hn : x.custs.length ≤ 1000000) (hlb : lb ≤ w.heap.size)
    (hd : x.dist.length = x.custs.length + 1) (hr : ∀ r ∈ x.dist, r.length = x.custs.length + 1) (hby : W64 by_) :
    Calls Try.prog 11 #[v, .int .i64 6, .int .i64 by_] w (TurnedPost lb w) := by
  have hxr := hx.reads
  obtain ⟨cv, dv, rfl, hcs, hds⟩ := hx
  have HCS := Lib.hid hcs.reads.plain
  have HDS := Lib.hid hds.reads.plain
  obtain ⟨A, c, rfl, hc1, hc2, -⟩ := HCS.out.open_
  obtain ⟨r, hrn⟩ := some_of_lt (l := x.dist) (i := x.custs.length) (by omega)
  have hrl := hr r (List.mem_of_getElem? hrn)
  obtain ⟨z, hz⟩ := some_of_lt (l := r) (i := x.custs.length) (by omega)
  obtain ⟨g, c1, g2, c2, rfl, hgs, hd1, hd2, hcell, hlb2, hg2, hk, hf⟩ := hds.at_ hrn hz
  rw [hrl] at hcell
  clear hrn hrl hz
  have HXR := Lib.hid hxr
  have HWF := Lib.hid hwf
  have HBY := Lib.hid hby
  clear hxr hwf hby hcs hds hr
  have HD := Lib.hid hd
  rw [hd] at hd1 HXR ⊢
  rw [hd] at HDS
  clear hd
  obtain ⟨days, veh, cap, len, custs, D⟩ := x
  simp only at *
  generalize hN : custs.length = N at *
  have HN := Lib.hid hN
  clear hN
  obtain ⟨x', HX1, HX2, HX3⟩ := HXR.out.set_ hk HBY.out HWF.out
  replace HX1 := Lib.hid HX1
  replace HX3 := Lib.hid HX3
  go_enter Try.func11, Try.ntmps11
  go_wp2
  all_goals
    refine bodyPost_ret (results_blk rfl _ _ (w.heap.size + 1) 25 [.int .i64 days, .int .i64 veh, .int .i64 cap, .int .i64 len, .slice A N c, .slice (some ⟨g, 0, none⟩) (N + 1) c1] _ rfl ?_ Try.underlying25 rfl isize) rfl ⟨_, x', rfl, HX1.out.below (below_al (below_al (Below.refl _ _) _) _) (Nat.le_refl _), HX2, (by rw [HX3.out]; show custs.length ≤ _; rw [HN.out]; exact hn), ((Below.refl lb w).setCell (p := ⟨g2, N, none⟩) hlb2 _).trans (((below_al (below_al (Below.refl _ _) _) _)).mono (by simpa using hlb))⟩
    · exact Blk.newAt _ _ _ (by simp)
set_option maxHeartbeats 2000000 in
theorem turned7 (lb : Nat) (v : Value) (x : Inst) (by_ : Int) (w : World) (hx : OwnInst lb 46 47 33 3 w v x) (hwf : x.wf) (hn : x.custs.length ≤ 1000000) (hlb : lb ≤ w.heap.size)
    (hd : x.dist.length = x.custs.length + 1) (_hr : ∀ r ∈ x.dist, r.length = x.custs.length + 1) (hby : W64 by_) (h0 : 0 < x.custs.length) :
    Calls Try.prog 11 #[v, .int .i64 7, .int .i64 by_] w (TurnedPost lb w) := by
  have hxr := hx.reads
  obtain ⟨cv, dv, rfl, hcs, hds⟩ := hx
  have HCS := Lib.hid hcs.reads.plain
  have HDS := Lib.hid hds.reads.plain
  obtain ⟨y, hy⟩ := some_of_lt (l := x.custs) (i := 0) (by omega)
  obtain ⟨g, c, pv, rfl, hlb2, hg2, hc1, hc2, hcell, hfree⟩ := hcs.at_ hy
  have hk : w.cell? ⟨g, 1, none⟩ = some (.int .i64 y.demand) := hcell 1 _ rfl
  have hf := hfree 1
  clear hcell hfree hy
  obtain ⟨Ad, c1, rfl, hd1, hd2, -⟩ := HDS.out.open_
  have HXR := Lib.hid hxr
  have HWF := Lib.hid hwf
  have HBY := Lib.hid hby
  clear hxr hwf hby hcs hds _hr
  have HD := Lib.hid hd
  rw [hd] at hd1 HXR ⊢
  rw [hd] at HDS
  clear hd
  obtain ⟨days, veh, cap, len, custs, D⟩ := x
  simp only at *
  generalize hN : custs.length = N at *
  have HN := Lib.hid hN
  clear hN
  have h0' : ((N : Int) == 0) = false := by rw [beq_eq_false_iff_ne]; omega
  obtain ⟨x', HX1, HX2, HX3⟩ := HXR.out.set_ hk HBY.out HWF.out
  replace HX1 := Lib.hid HX1
  replace HX3 := Lib.hid HX3
  go_enter Try.func11, Try.ntmps11
  go_wp2
  all_goals
    refine bodyPost_ret (results_blk rfl _ _ (w.heap.size + 1) 25 [.int .i64 days, .int .i64 veh, .int .i64 cap, .int .i64 len, .slice (some ⟨g, 0, none⟩) N c, .slice Ad (N + 1) c1] _ rfl ?_ Try.underlying25 rfl isize) rfl ⟨_, x', rfl, HX1.out.below (below_al (below_al (Below.refl _ _) _) _) (Nat.le_refl _), HX2, (by rw [HX3.out]; show custs.length ≤ _; rw [HN.out]; exact hn), ((Below.refl lb w).setCell (p := ⟨g, 1, none⟩) hlb2 _).trans (((below_al (below_al (Below.refl _ _) _) _)).mono (by simpa using hlb))⟩
    · exact Blk.newAt _ _ _ (by simp)
set_option maxHeartbeats 2000000 in
theorem turned8 (lb : Nat) (v : Value) (x : Inst) (by_ : Int) (w : World) (hx : OwnInst lb 46 47 33 3 w v x) (hwf : x.wf) (hn : x.custs.length ≤ 1000000) (hlb : lb ≤ w.heap.size)
    (hd : x.dist.length = x.custs.length + 1) (_hr : ∀ r ∈ x.dist, r.length = x.custs.length + 1) (hby : W64 by_) (h0 : 0 < x.custs.length) :
    Calls Try.prog 11 #[v, .int .i64 8, .int .i64 by_] w (TurnedPost lb w) := by
  have hxr := hx.reads
  obtain ⟨cv, dv, rfl, hcs, hds⟩ := hx
  have HCS := Lib.hid hcs.reads.plain
  have HDS := Lib.hid hds.reads.plain
  obtain ⟨y, hy⟩ := some_of_lt (l := x.custs) (i := 0) (by omega)
  obtain ⟨g, c, pv, rfl, hlb2, hg2, hc1, hc2, hcell, hfree⟩ := hcs.at_ hy
  have hk : w.cell? ⟨g, 3, none⟩ = some (.int .i64 y.rate) := hcell 3 _ rfl
  have hf := hfree 3
  clear hcell hfree hy
  obtain ⟨Ad, c1, rfl, hd1, hd2, -⟩ := HDS.out.open_
  have HXR := Lib.hid hxr
  have HWF := Lib.hid hwf
  have HBY := Lib.hid hby
  clear hxr hwf hby hcs hds _hr
  have HD := Lib.hid hd
  rw [hd] at hd1 HXR ⊢
  rw [hd] at HDS
  clear hd
  obtain ⟨days, veh, cap, len, custs, D⟩ := x
  simp only at *
  generalize hN : custs.length = N at *
  have HN := Lib.hid hN
  clear hN
  have h0' : ((N : Int) == 0) = false := by rw [beq_eq_false_iff_ne]; omega
  obtain ⟨x', HX1, HX2, HX3⟩ := HXR.out.set_ hk HBY.out HWF.out
  replace HX1 := Lib.hid HX1
  replace HX3 := Lib.hid HX3
  go_enter Try.func11, Try.ntmps11
  go_wp2
  all_goals
    refine bodyPost_ret (results_blk rfl _ _ (w.heap.size + 1) 25 [.int .i64 days, .int .i64 veh, .int .i64 cap, .int .i64 len, .slice (some ⟨g, 0, none⟩) N c, .slice Ad (N + 1) c1] _ rfl ?_ Try.underlying25 rfl isize) rfl ⟨_, x', rfl, HX1.out.below (below_al (below_al (Below.refl _ _) _) _) (Nat.le_refl _), HX2, (by rw [HX3.out]; show custs.length ≤ _; rw [HN.out]; exact hn), ((Below.refl lb w).setCell (p := ⟨g, 3, none⟩) hlb2 _).trans (((below_al (below_al (Below.refl _ _) _) _)).mono (by simpa using hlb))⟩
    · exact Blk.newAt _ _ _ (by simp)
set_option maxHeartbeats 2000000 in
theorem turned9 (lb : Nat) (v : Value) (x : Inst) (by_ : Int) (w : World) (hx : OwnInst lb 46 47 33 3 w v x) (hwf : x.wf) (hn : x.custs.length ≤ 1000000) (hlb : lb ≤ w.heap.size)
    (hd : x.dist.length = x.custs.length + 1) (_hr : ∀ r ∈ x.dist, r.length = x.custs.length + 1) (hby : W64 by_) (h0 : 0 < x.custs.length) :
    Calls Try.prog 11 #[v, .int .i64 9, .int .i64 by_] w (TurnedPost lb w) := by
  have hxr := hx.reads
  obtain ⟨cv, dv, rfl, hcs, hds⟩ := hx
  have HCS := Lib.hid hcs.reads.plain
  have HDS := Lib.hid hds.reads.plain
  obtain ⟨y, hy⟩ := some_of_lt (l := x.custs) (i := 0) (by omega)
  obtain ⟨g, c, pv, rfl, hlb2, hg2, hc1, hc2, hcell, hfree⟩ := hcs.at_ hy
  have hk : w.cell? ⟨g, 4, none⟩ = some (.int .i64 y.size) := hcell 4 _ rfl
  have hf := hfree 4
  clear hcell hfree hy
  obtain ⟨Ad, c1, rfl, hd1, hd2, -⟩ := HDS.out.open_
  have HXR := Lib.hid hxr
  have HWF := Lib.hid hwf
  have HBY := Lib.hid hby
  clear hxr hwf hby hcs hds _hr
  have HD := Lib.hid hd
  rw [hd] at hd1 HXR ⊢
  rw [hd] at HDS
  clear hd
  obtain ⟨days, veh, cap, len, custs, D⟩ := x
  simp only at *
  generalize hN : custs.length = N at *
  have HN := Lib.hid hN
  clear hN
  have h0' : ((N : Int) == 0) = false := by rw [beq_eq_false_iff_ne]; omega
  obtain ⟨x', HX1, HX2, HX3⟩ := HXR.out.set_ hk HBY.out HWF.out
  replace HX1 := Lib.hid HX1
  replace HX3 := Lib.hid HX3
  go_enter Try.func11, Try.ntmps11
  go_wp2
  all_goals
    refine bodyPost_ret (results_blk rfl _ _ (w.heap.size + 1) 25 [.int .i64 days, .int .i64 veh, .int .i64 cap, .int .i64 len, .slice (some ⟨g, 0, none⟩) N c, .slice Ad (N + 1) c1] _ rfl ?_ Try.underlying25 rfl isize) rfl ⟨_, x', rfl, HX1.out.below (below_al (below_al (Below.refl _ _) _) _) (Nat.le_refl _), HX2, (by rw [HX3.out]; show custs.length ≤ _; rw [HN.out]; exact hn), ((Below.refl lb w).setCell (p := ⟨g, 4, none⟩) hlb2 _).trans (((below_al (below_al (Below.refl _ _) _) _)).mono (by simpa using hlb))⟩
    · exact Blk.newAt _ _ _ (by simp)
set_option maxHeartbeats 2000000 in
theorem turned10 (lb : Nat) (v : Value) (x : Inst) (by_ : Int) (w : World) (hx : OwnInst lb 46 47 33 3 w v x) (hwf : x.wf) (hn : x.custs.length ≤ 1000000) (hlb : lb ≤ w.heap.size)
    (hd : x.dist.length = x.custs.length + 1) (_hr : ∀ r ∈ x.dist, r.length = x.custs.length + 1) (hby : W64 by_) (h0 : 0 < x.custs.length) :
    Calls Try.prog 11 #[v, .int .i64 10, .int .i64 by_] w (TurnedPost lb w) := by
  have hxr := hx.reads
  obtain ⟨cv, dv, rfl, hcs, hds⟩ := hx
  have HCS := Lib.hid hcs.reads.plain
  have HDS := Lib.hid hds.reads.plain
  obtain ⟨y, hy⟩ := some_of_lt (l := x.custs) (i := 0) (by omega)
  obtain ⟨g, c, pv, rfl, hlb2, hg2, hc1, hc2, hcell, hfree⟩ := hcs.at_ hy
  have hk : w.cell? ⟨g, 5, none⟩ = some (.int .i64 y.start) := hcell 5 _ rfl
  have hf := hfree 5
  clear hcell hfree hy
  obtain ⟨Ad, c1, rfl, hd1, hd2, -⟩ := HDS.out.open_
  have HXR := Lib.hid hxr
  have HWF := Lib.hid hwf
  have HBY := Lib.hid hby
  clear hxr hwf hby hcs hds _hr
  have HD := Lib.hid hd
  rw [hd] at hd1 HXR ⊢
  rw [hd] at HDS
  clear hd
  obtain ⟨days, veh, cap, len, custs, D⟩ := x
  simp only at *
  generalize hN : custs.length = N at *
  have HN := Lib.hid hN
  clear hN
  have h0' : ((N : Int) == 0) = false := by rw [beq_eq_false_iff_ne]; omega
  obtain ⟨x', HX1, HX2, HX3⟩ := HXR.out.set_ hk HBY.out HWF.out
  replace HX1 := Lib.hid HX1
  replace HX3 := Lib.hid HX3
  go_enter Try.func11, Try.ntmps11
  go_wp2
  all_goals
    refine bodyPost_ret (results_blk rfl _ _ (w.heap.size + 1) 25 [.int .i64 days, .int .i64 veh, .int .i64 cap, .int .i64 len, .slice (some ⟨g, 0, none⟩) N c, .slice Ad (N + 1) c1] _ rfl ?_ Try.underlying25 rfl isize) rfl ⟨_, x', rfl, HX1.out.below (below_al (below_al (Below.refl _ _) _) _) (Nat.le_refl _), HX2, (by rw [HX3.out]; show custs.length ≤ _; rw [HN.out]; exact hn), ((Below.refl lb w).setCell (p := ⟨g, 5, none⟩) hlb2 _).trans (((below_al (below_al (Below.refl _ _) _) _)).mono (by simpa using hlb))⟩
    · exact Blk.newAt _ _ _ (by simp)
set_option maxHeartbeats 2000000 in
theorem turned11 (lb : Nat) (v : Value) (x : Inst) (by_ : Int) (w : World) (hx : OwnInst lb 46 47 33 3 w v x) (hwf : x.wf) (hn : x.custs.length ≤ 1000000) (hlb : lb ≤ w.heap.size)
    (hd : x.dist.length = x.custs.length + 1) (_hr : ∀ r ∈ x.dist, r.length = x.custs.length + 1) (hby : W64 by_) (h0 : 0 < x.custs.length) :
    Calls Try.prog 11 #[v, .int .i64 11, .int .i64 by_] w (TurnedPost lb w) := by
  have hxr := hx.reads
  obtain ⟨cv, dv, rfl, hcs, hds⟩ := hx
  have HCS := Lib.hid hcs.reads.plain
  have HDS := Lib.hid hds.reads.plain
  obtain ⟨y, hy⟩ := some_of_lt (l := x.custs) (i := 0) (by omega)
  obtain ⟨g, c, pv, rfl, hlb2, hg2, hc1, hc2, hcell, hfree⟩ := hcs.at_ hy
  have hk : w.cell? ⟨g, 6, none⟩ = some (.int .i64 y.rule) := hcell 6 _ rfl
  have hf := hfree 6
  clear hcell hfree hy
  obtain ⟨Ad, c1, rfl, hd1, hd2, -⟩ := HDS.out.open_
  have HXR := Lib.hid hxr
  have HWF := Lib.hid hwf
  have HBY := Lib.hid hby
  clear hxr hwf hby hcs hds _hr
  have HD := Lib.hid hd
  rw [hd] at hd1 HXR ⊢
  rw [hd] at HDS
  clear hd
  obtain ⟨days, veh, cap, len, custs, D⟩ := x
  simp only at *
  generalize hN : custs.length = N at *
  have HN := Lib.hid hN
  clear hN
  have h0' : ((N : Int) == 0) = false := by rw [beq_eq_false_iff_ne]; omega
  obtain ⟨x', HX1, HX2, HX3⟩ := HXR.out.set_ hk HBY.out HWF.out
  replace HX1 := Lib.hid HX1
  replace HX3 := Lib.hid HX3
  go_enter Try.func11, Try.ntmps11
  go_wp2
  all_goals
    refine bodyPost_ret (results_blk rfl _ _ (w.heap.size + 1) 25 [.int .i64 days, .int .i64 veh, .int .i64 cap, .int .i64 len, .slice (some ⟨g, 0, none⟩) N c, .slice Ad (N + 1) c1] _ rfl ?_ Try.underlying25 rfl isize) rfl ⟨_, x', rfl, HX1.out.below (below_al (below_al (Below.refl _ _) _) _) (Nat.le_refl _), HX2, (by rw [HX3.out]; show custs.length ≤ _; rw [HN.out]; exact hn), ((Below.refl lb w).setCell (p := ⟨g, 6, none⟩) hlb2 _).trans (((below_al (below_al (Below.refl _ _) _) _)).mono (by simpa using hlb))⟩
    · exact Blk.newAt _ _ _ (by simp)
set_option maxHeartbeats 2000000 in
theorem turned12 (lb : Nat) (v : Value) (x : Inst) (by_ : Int) (w : World) (hx : OwnInst lb 46 47 33 3 w v x) (hwf : x.wf) (hn : x.custs.length ≤ 1000000) (hlb : lb ≤ w.heap.size)
    (hd : x.dist.length = x.custs.length + 1) (_hr : ∀ r ∈ x.dist, r.length = x.custs.length + 1) (hby : W64 by_) (h0 : 0 < x.custs.length) :
    Calls Try.prog 11 #[v, .int .i64 12, .int .i64 by_] w (TurnedPost lb w) := by
  have hxr := hx.reads
  obtain ⟨cv, dv, rfl, hcs, hds⟩ := hx
  have HCS := Lib.hid hcs.reads.plain
  have HDS := Lib.hid hds.reads.plain
  obtain ⟨y, hy⟩ := some_of_lt (l := x.custs) (i := 0) (by omega)
  obtain ⟨g, c, pv, rfl, hlb2, hg2, hc1, hc2, hcell, hfree⟩ := hcs.at_ hy
  have hk : w.cell? ⟨g, 7, none⟩ = some (.int .i64 y.hold) := hcell 7 _ rfl
  have hf := hfree 7
  clear hcell hfree hy
  obtain ⟨Ad, c1, rfl, hd1, hd2, -⟩ := HDS.out.open_
  have HXR := Lib.hid hxr
  have HWF := Lib.hid hwf
  have HBY := Lib.hid hby
  clear hxr hwf hby hcs hds _hr
  have HD := Lib.hid hd
  rw [hd] at hd1 HXR ⊢
  rw [hd] at HDS
  clear hd
  obtain ⟨days, veh, cap, len, custs, D⟩ := x
  simp only at *
  generalize hN : custs.length = N at *
  have HN := Lib.hid hN
  clear hN
  have h0' : ((N : Int) == 0) = false := by rw [beq_eq_false_iff_ne]; omega
  obtain ⟨x', HX1, HX2, HX3⟩ := HXR.out.set_ hk HBY.out HWF.out
  replace HX1 := Lib.hid HX1
  replace HX3 := Lib.hid HX3
  go_enter Try.func11, Try.ntmps11
  go_wp2
  all_goals
    refine bodyPost_ret (results_blk rfl _ _ (w.heap.size + 1) 25 [.int .i64 days, .int .i64 veh, .int .i64 cap, .int .i64 len, .slice (some ⟨g, 0, none⟩) N c, .slice Ad (N + 1) c1] _ rfl ?_ Try.underlying25 rfl isize) rfl ⟨_, x', rfl, HX1.out.below (below_al (below_al (Below.refl _ _) _) _) (Nat.le_refl _), HX2, (by rw [HX3.out]; show custs.length ≤ _; rw [HN.out]; exact hn), ((Below.refl lb w).setCell (p := ⟨g, 7, none⟩) hlb2 _).trans (((below_al (below_al (Below.refl _ _) _) _)).mono (by simpa using hlb))⟩
    · exact Blk.newAt _ _ _ (by simp)
set_option maxHeartbeats 2000000 in
theorem turned13 (lb : Nat) (v : Value) (x : Inst) (by_ : Int) (w : World) (hx : OwnInst lb 46 47 33 3 w v x) (hwf : x.wf) (hn : x.custs.length ≤ 1000000) (hlb : lb ≤ w.heap.size)
    (hd : x.dist.length = x.custs.length + 1) (_hr : ∀ r ∈ x.dist, r.length = x.custs.length + 1) (hby : W64 by_) (h0 : 0 < x.custs.length) :
    Calls Try.prog 11 #[v, .int .i64 13, .int .i64 by_] w (TurnedPost lb w) := by
  have hxr := hx.reads
  obtain ⟨cv, dv, rfl, hcs, hds⟩ := hx
  have HCS := Lib.hid hcs.reads.plain
  have HDS := Lib.hid hds.reads.plain
  obtain ⟨y, hy⟩ := some_of_lt (l := x.custs) (i := 0) (by omega)
  obtain ⟨g, c, pv, rfl, hlb2, hg2, hc1, hc2, hcell, hfree⟩ := hcs.at_ hy
  have hk : w.cell? ⟨g, 0, none⟩ = some (.int .i64 y.kind) := hcell 0 _ rfl
  have hf := hfree 0
  clear hcell hfree hy
  obtain ⟨Ad, c1, rfl, hd1, hd2, -⟩ := HDS.out.open_
  have HXR := Lib.hid hxr
  have HWF := Lib.hid hwf
  have HBY := Lib.hid hby
  clear hxr hwf hby hcs hds _hr
  have HD := Lib.hid hd
  rw [hd] at hd1 HXR ⊢
  rw [hd] at HDS
  clear hd
  obtain ⟨days, veh, cap, len, custs, D⟩ := x
  simp only at *
  generalize hN : custs.length = N at *
  have HN := Lib.hid hN
  clear hN
  have h0' : ((N : Int) == 0) = false := by rw [beq_eq_false_iff_ne]; omega
  obtain ⟨x', HX1, HX2, HX3⟩ := HXR.out.set_ hk HBY.out HWF.out
  replace HX1 := Lib.hid HX1
  replace HX3 := Lib.hid HX3
  go_enter Try.func11, Try.ntmps11
  go_wp2
  all_goals
    refine bodyPost_ret (results_blk rfl _ _ (w.heap.size + 1) 25 [.int .i64 days, .int .i64 veh, .int .i64 cap, .int .i64 len, .slice (some ⟨g, 0, none⟩) N c, .slice Ad (N + 1) c1] _ rfl ?_ Try.underlying25 rfl isize) rfl ⟨_, x', rfl, HX1.out.below (below_al (below_al (Below.refl _ _) _) _) (Nat.le_refl _), HX2, (by rw [HX3.out]; show custs.length ≤ _; rw [HN.out]; exact hn), ((Below.refl lb w).setCell (p := ⟨g, 0, none⟩) hlb2 _).trans (((below_al (below_al (Below.refl _ _) _) _)).mono (by simpa using hlb))⟩
    · exact Blk.newAt _ _ _ (by simp)
set_option maxHeartbeats 2000000 in
theorem turned14 (lb : Nat) (v : Value) (x : Inst) (by_ : Int) (w : World) (hx : OwnInst lb 46 47 33 3 w v x) (hwf : x.wf) (hn : x.custs.length ≤ 1000000) (hlb : lb ≤ w.heap.size)
    (hd : x.dist.length = x.custs.length + 1) (_hr : ∀ r ∈ x.dist, r.length = x.custs.length + 1) (hby : W64 by_) (h0 : 0 < x.custs.length) :
    Calls Try.prog 11 #[v, .int .i64 14, .int .i64 by_] w (TurnedPost lb w) := by
  have hxr := hx.reads
  obtain ⟨cv, dv, rfl, hcs, hds⟩ := hx
  have HCS := Lib.hid hcs.reads.plain
  have HDS := Lib.hid hds.reads.plain
  obtain ⟨A, c, rfl, hc1, hc2, -⟩ := HCS.out.open_
  obtain ⟨Ad, c1, rfl, hd1, hd2, -⟩ := HDS.out.open_
  have HXR := Lib.hid hxr
  have HWF := Lib.hid hwf
  have HBY := Lib.hid hby
  clear hxr hwf hby hcs hds _hr
  have HD := Lib.hid hd
  rw [hd] at hd1 HXR ⊢
  rw [hd] at HDS
  clear hd
  obtain ⟨days, veh, cap, len, custs, D⟩ := x
  simp only at *
  generalize hN : custs.length = N at *
  have HN := Lib.hid hN
  clear hN
  have h0' : ((N : Int) == 0) = false := by rw [beq_eq_false_iff_ne]; omega
  go_enter Try.func11, Try.ntmps11
  go_wp2
  all_goals
    refine bodyPost_ret (results_blk rfl _ _ (w.heap.size + 1) 25 [.int .i64 days, .int .i64 veh, .int .i64 cap, .int .i64 len, .slice A N c, .slice Ad N c1] _ rfl ?_ Try.underlying25 rfl isize) rfl ⟨_, ⟨days, veh, cap, len, custs, D.take N⟩, rfl, ⟨_, _, rfl, HCS.out.below (below_al (below_al (Below.refl _ _) _) _) (Nat.le_refl _), (RRows.take (by rw [HD.out]; exact HDS.out) (by rw [HD.out]; omega)).below (below_al (below_al (Below.refl _ _) _) _) (Nat.le_refl _)⟩, ⟨HWF.out.1, HWF.out.2.1, HWF.out.2.2.1, HWF.out.2.2.2.1, HWF.out.2.2.2.2.1, fun r hr => HWF.out.2.2.2.2.2 r (List.mem_of_mem_take hr)⟩, (by show custs.length ≤ _; rw [HN.out]; exact hn), ((below_al (below_al (Below.refl _ _) _) _)).mono hlb⟩
    · exact Blk.newAt _ _ _ (by simp)
set_option maxHeartbeats 2000000 in
theorem turnedo1 (lb : Nat) (v : Value) (x : Inst) (t by_ : Int) (w : World) (hx : OwnInst lb 46 47 33 3 w v x) (hwf : x.wf) (hn : x.custs.length ≤ 1000000) (hlb : lb ≤ w.heap.size)
    (hd : x.dist.length = x.custs.length + 1) (_hr : ∀ r ∈ x.dist, r.length = x.custs.length + 1) (hby : W64 by_) (ht : t < 1 ∨ 14 < t) :
    Calls Try.prog 11 #[v, .int .i64 t, .int .i64 by_] w (TurnedPost lb w) := by
  have hxr := hx.reads
  obtain ⟨cv, dv, rfl, hcs, hds⟩ := hx
  have HCS := Lib.hid hcs.reads.plain
  have HDS := Lib.hid hds.reads.plain
  obtain ⟨A, c, rfl, hc1, hc2, -⟩ := HCS.out.open_
  obtain ⟨Ad, c1, rfl, hd1, hd2, -⟩ := HDS.out.open_
  have HXR := Lib.hid hxr
  have HWF := Lib.hid hwf
  have HBY := Lib.hid hby
  clear hxr hwf hby hcs hds _hr
  have HD := Lib.hid hd
  rw [hd] at hd1 HXR ⊢
  rw [hd] at HDS
  clear hd
  obtain ⟨days, veh, cap, len, custs, D⟩ := x
  simp only at *
  generalize hN : custs.length = N at *
  have HN := Lib.hid hN
  clear hN
  have t1 : (t == 1) = false := by rw [beq_eq_false_iff_ne]; omega
  have t2 : (t == 2) = false := by rw [beq_eq_false_iff_ne]; omega
  have t3 : (t == 3) = false := by rw [beq_eq_false_iff_ne]; omega
  have t4 : (t == 4) = false := by rw [beq_eq_false_iff_ne]; omega
  have t5 : (t == 5) = false := by rw [beq_eq_false_iff_ne]; omega
  have t6 : (t == 6) = false := by rw [beq_eq_false_iff_ne]; omega
  have t7 : (t == 7) = false := by rw [beq_eq_false_iff_ne]; omega
  have t8 : (t == 8) = false := by rw [beq_eq_false_iff_ne]; omega
  have t9 : (t == 9) = false := by rw [beq_eq_false_iff_ne]; omega
  have t10 : (t == 10) = false := by rw [beq_eq_false_iff_ne]; omega
  have t11 : (t == 11) = false := by rw [beq_eq_false_iff_ne]; omega
  have t12 : (t == 12) = false := by rw [beq_eq_false_iff_ne]; omega
  have t13 : (t == 13) = false := by rw [beq_eq_false_iff_ne]; omega
  have t14 : (t == 14) = false := by rw [beq_eq_false_iff_ne]; omega
  clear ht
  go_enter Try.func11, Try.ntmps11
  go_wp2
  all_goals
    refine bodyPost_ret (results_blk rfl _ _ (w.heap.size + 1) 25 [.int .i64 days, .int .i64 veh, .int .i64 cap, .int .i64 len, .slice A N c, .slice Ad (N + 1) c1] _ rfl ?_ Try.underlying25 rfl isize) rfl ⟨_, ⟨days, veh, cap, len, custs, D⟩, rfl, HXR.out.below (below_al (below_al (Below.refl _ _) _) _) (Nat.le_refl _), HWF.out, (by show custs.length ≤ _; rw [HN.out]; exact hn), ((below_al (below_al (Below.refl _ _) _) _)).mono hlb⟩
    · exact Blk.newAt _ _ _ (by simp)
set_option maxHeartbeats 2000000 in
theorem turnedo2 (lb : Nat) (v : Value) (x : Inst) (t by_ : Int) (w : World) (hx : OwnInst lb 46 47 33 3 w v x) (hwf : x.wf) (hn : x.custs.length ≤ 1000000) (hlb : lb ≤ w.heap.size)
    (hd : x.dist.length = x.custs.length + 1) (_hr : ∀ r ∈ x.dist, r.length = x.custs.length + 1) (hby : W64 by_) (ht : 6 < t) (h0 : x.custs.length = 0) :
    Calls Try.prog 11 #[v, .int .i64 t, .int .i64 by_] w (TurnedPost lb w) := by
  have hxr := hx.reads
  obtain ⟨cv, dv, rfl, hcs, hds⟩ := hx
  have HCS := Lib.hid hcs.reads.plain
  have HDS := Lib.hid hds.reads.plain
  obtain ⟨A, c, rfl, hc1, hc2, -⟩ := HCS.out.open_
  obtain ⟨Ad, c1, rfl, hd1, hd2, -⟩ := HDS.out.open_
  have HXR := Lib.hid hxr
  have HWF := Lib.hid hwf
  have HBY := Lib.hid hby
  clear hxr hwf hby hcs hds _hr
  have HD := Lib.hid hd
  rw [hd] at hd1 HXR ⊢
  rw [hd] at HDS
  clear hd
  obtain ⟨days, veh, cap, len, custs, D⟩ := x
  simp only at *
  generalize hN : custs.length = N at *
  have HN := Lib.hid hN
  clear hN
  have t1 : (t == 1) = false := by rw [beq_eq_false_iff_ne]; omega
  have t2 : (t == 2) = false := by rw [beq_eq_false_iff_ne]; omega
  have t3 : (t == 3) = false := by rw [beq_eq_false_iff_ne]; omega
  have t4 : (t == 4) = false := by rw [beq_eq_false_iff_ne]; omega
  have t5 : (t == 5) = false := by rw [beq_eq_false_iff_ne]; omega
  have t6 : (t == 6) = false := by rw [beq_eq_false_iff_ne]; omega
  have h0' : ((N : Int) == 0) = true := by rw [beq_iff_eq]; omega
  clear ht h0
  go_enter Try.func11, Try.ntmps11
  go_wp2
  all_goals
    refine bodyPost_ret (results_blk rfl _ _ (w.heap.size + 1) 25 [.int .i64 days, .int .i64 veh, .int .i64 cap, .int .i64 len, .slice A N c, .slice Ad (N + 1) c1] _ rfl ?_ Try.underlying25 rfl isize) rfl ⟨_, ⟨days, veh, cap, len, custs, D⟩, rfl, HXR.out.below (below_al (below_al (Below.refl _ _) _) _) (Nat.le_refl _), HWF.out, (by show custs.length ≤ _; rw [HN.out]; exact hn), ((below_al (below_al (Below.refl _ _) _) _)).mono hlb⟩
    · exact Blk.newAt _ _ _ (by simp)

theorem turned_any (lb : Nat) (v : Value) (x : Inst) (t by_ : Int) (w : World) (hx : OwnInst lb 46 47 33 3 w v x) (hwf : x.wf) (hn : x.custs.length ≤ 1000000) (hlb : lb ≤ w.heap.size)
    (hd : x.dist.length = x.custs.length + 1) (hr : ∀ r ∈ x.dist, r.length = x.custs.length + 1) (hby : W64 by_) :
    Calls Try.prog 11 #[v, .int .i64 t, .int .i64 by_] w (TurnedPost lb w) := by
  by_cases h0 : t < 1 ∨ 14 < t
  · exact turnedo1 lb v x t by_ w hx hwf hn hlb hd hr hby h0
  · by_cases h1 : 6 < t ∧ x.custs.length = 0
    · exact turnedo2 lb v x t by_ w hx hwf hn hlb hd hr hby h1.1 h1.2
    · have h : (t = 1 ∨ t = 2 ∨ t = 3 ∨ t = 4 ∨ t = 5 ∨ t = 6) ∨ (0 < x.custs.length ∧ (t = 7 ∨ t = 8 ∨ t = 9 ∨ t = 10 ∨ t = 11 ∨ t = 12 ∨ t = 13 ∨ t = 14)) := by omega
      rcases h with (rfl | rfl | rfl | rfl | rfl | rfl) | ⟨hp, rfl | rfl | rfl | rfl | rfl | rfl | rfl | rfl⟩
      · exact turned1 lb v x by_ w hx hwf hn hlb hd hr hby
      · exact turned2 lb v x by_ w hx hwf hn hlb hd hr hby
      · exact turned3 lb v x by_ w hx hwf hn hlb hd hr hby
      · exact turned4 lb v x by_ w hx hwf hn hlb hd hr hby
      · exact turned5 lb v x by_ w hx hwf hn hlb hd hr hby
      · exact turned6 lb v x by_ w hx hwf hn hlb hd hr hby
      · exact turned7 lb v x by_ w hx hwf hn hlb hd hr hby hp
      · exact turned8 lb v x by_ w hx hwf hn hlb hd hr hby hp
      · exact turned9 lb v x by_ w hx hwf hn hlb hd hr hby hp
      · exact turned10 lb v x by_ w hx hwf hn hlb hd hr hby hp
      · exact turned11 lb v x by_ w hx hwf hn hlb hd hr hby hp
      · exact turned12 lb v x by_ w hx hwf hn hlb hd hr hby hp
      · exact turned13 lb v x by_ w hx hwf hn hlb hd hr hby hp
      · exact turned14 lb v x by_ w hx hwf hn hlb hd hr hby hp

end Go.Proofs.Ytifdggdpglphmaa
