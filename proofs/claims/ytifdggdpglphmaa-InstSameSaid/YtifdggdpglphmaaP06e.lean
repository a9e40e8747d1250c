/- Instances that are made of any may be: their numbers fit. No program in sight. -/
import Derived.Test.YtifdggdpglphmaaP06d
namespace Go.Proofs.Ytifdggdpglphmaa.P06

theorem W64.of {z : Int} {a b : Int} (h : a ≤ z ∧ z ≤ b) (ha : -1000000 ≤ a) (hb : b ≤ 1000000) : W64 z := ⟨by omega, by omega⟩
theorem goodPat_lt' (s : Nat) : ∀ n, goodPat s n < 18446744073709551616
  | 0 => by simp [goodPat]
  | n + 1 => by
    rw [goodPat]
    split
    · exact P02.put_lt _ _ (goodPat_lt' s n)
    · exact goodPat_lt' s n
theorem goodC_wf (c : Cust) (days : Int) : (goodC c days).wf := by
  have h0 : W64 0 := ⟨by omega, by omega⟩
  have h1 : W64 1 := ⟨by omega, by omega⟩
  have h2 : W64 2 := ⟨by omega, by omega⟩
  unfold goodC
  split
  · refine ⟨h2, h0, by simp, .of (rnd_bd _ _ _ (by omega)) (by omega) (by omega), .of (rnd_bd _ _ _ (by omega)) (by omega) (by omega), ?_, .of (rnd_bd _ _ _ (by omega)) (by omega) (by omega), .of (rnd_bd _ _ _ (by omega)) (by omega) (by omega)⟩
    have h1 := rnd_bd c.size 1 30 (by omega)
    have h2 := rnd_bd c.start 0 (rnd c.size 1 30) (by omega)
    exact ⟨by show _ ≤ rnd c.start 0 (rnd c.size 1 30); omega, by show rnd c.start 0 (rnd c.size 1 30) ≤ _; omega⟩
  · refine ⟨h1, .of (rnd_bd _ _ _ (by omega)) (by omega) (by omega), ?_, h0, h0, h0, h0, h0⟩
    intro s hs
    simp only [goodPats] at hs
    split at hs
    · simp at hs; omega
    · obtain ⟨y, _, rfl⟩ := List.mem_map.1 hs
      exact goodPat_lt' _ _
theorem goodP_custs (x : Inst) : (goodP x).custs.length ≤ 6 := by
  show ((x.custs.take 6).map _).length ≤ 6
  simp
  omega
theorem goodP_dist (x : Inst) : (goodP x).dist.length = (goodP x).custs.length + 1 := by
  show ((List.range (((x.custs.take 6).map fun c => goodC c (rnd x.days 1 7)).length + 1)).map _).length = _
  rw [List.length_map, List.length_range]
  rfl
theorem goodP_rows (x : Inst) : ∀ r ∈ (goodP x).dist, r.length = (goodP x).custs.length + 1 := by
  intro r hr
  have hr : r ∈ (List.range ((goodP x).custs.length + 1)).map fun i => goodRow x.dist ((goodP x).custs.length + 1) i := hr
  obtain ⟨i, _, rfl⟩ := List.mem_map.1 hr
  exact goodRow_len _ _ _
theorem goodRow_cell {d : List (List Int)} {n i : Nat} {z : Int} (h : z ∈ goodRow d n i) : 0 ≤ z ∧ z ≤ 60 := by
  obtain ⟨k, _, rfl⟩ := List.mem_map.1 h
  split
  · omega
  · exact rnd_bd _ _ _ (by omega)
theorem goodP_cells (x : Inst) : ∀ r ∈ (goodP x).dist, ∀ z ∈ r, 0 ≤ z ∧ z ≤ 60 := by
  intro r hr
  have hr : r ∈ (List.range ((goodP x).custs.length + 1)).map fun i => goodRow x.dist ((goodP x).custs.length + 1) i := hr
  obtain ⟨i, _, rfl⟩ := List.mem_map.1 hr
  exact fun z hz => goodRow_cell hz
theorem goodP_wf (x : Inst) : (goodP x).wf := by
  refine ⟨.of (rnd_bd _ _ _ (by omega)) (by omega) (by omega), .of (rnd_bd _ _ _ (by omega)) (by omega) (by omega), .of (rnd_bd _ _ _ (by omega)) (by omega) (by omega), .of (rnd_bd _ _ _ (by omega)) (by omega) (by omega), ?_, fun r hr z hz => .of (goodP_cells x r hr z hz) (by omega) (by omega)⟩
  intro c hc
  obtain ⟨y, _, rfl⟩ := List.mem_map.1 hc
  exact goodC_wf _ _
theorem arc_cells {D : List (List Int)} {lo hi : Int} (h : ∀ r ∈ D, ∀ z ∈ r, lo ≤ z ∧ z ≤ hi) (hl : lo ≤ 0) (hh : 0 ≤ hi) (a b : Int) : lo ≤ arc D a b ∧ arc D a b ≤ hi := by
  unfold arc
  split
  · omega
  · cases hr : D[a.toNat]? with
    | none => simp; omega
    | some r =>
      simp only [Option.getD_some]
      cases hz : r[b.toNat]? with
      | none => simp; omega
      | some z => exact h r (List.mem_of_getElem? hr) z (List.mem_of_getElem? hz)
theorem goodP_arcs (x : Inst) : ArcsOk (goodP x).dist := fun a b => by
  have := arc_cells (goodP_cells x) (by omega) (by omega) a b
  omega
theorem goodP_arc (x : Inst) (a b : Int) : 0 ≤ arc (goodP x).dist a b ∧ arc (goodP x).dist a b ≤ 60 := arc_cells (goodP_cells x) (by omega) (by omega) a b
/-- The first twelve customers. -/
def cut12 (x : Inst) : Inst := { x with custs := x.custs.take 12 }
theorem cut12_wf {x : Inst} (h : x.wf) : (cut12 x).wf := ⟨h.1, h.2.1, h.2.2.1, h.2.2.2.1, fun c hc => h.2.2.2.2.1 c (List.mem_of_mem_take hc), h.2.2.2.2.2⟩
theorem cut12_len (x : Inst) : (cut12 x).custs.length ≤ 12 := by show (x.custs.take 12).length ≤ 12; simp; omega
theorem cut12_id {x : Inst} (h : x.custs.length ≤ 12) : cut12 x = x := by obtain ⟨a, b, c, d, l, e⟩ := x; simp only [cut12]; rw [List.take_of_length_le h]
end Go.Proofs.Ytifdggdpglphmaa.P06
