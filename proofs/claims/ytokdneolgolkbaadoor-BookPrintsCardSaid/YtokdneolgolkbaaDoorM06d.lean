/- Instances of the call's own; a number that is written over a number, wherever it lies. -/
import Derived.Test.YtokdneolgolkbaaDoorM06c
namespace Go.Proofs.YtokdneolgolkbaaDoor
open Go.RowKit P06

theorem OwnCusts.mono {lb lb' : Nat} {ec ep : TypeId} {w : World} {v : Value} {L : List Cust} (h : OwnCusts lb ec ep w v L) (hl : lb' ≤ lb) : OwnCusts lb' ec ep w v L := by
  obtain ⟨pvs, g1, g2, g3⟩ := h
  exact ⟨pvs, g1, own_mono g2 hl, fun i x pv hx hq => own_mono (g3 i x pv hx hq) hl⟩
theorem OwnRows.mono {lb lb' : Nat} {er ei : TypeId} {w : World} {v : Value} {L : List (List Int)} (h : OwnRows lb er ei w v L) (hl : lb' ≤ lb) : OwnRows lb' er ei w v L := by
  obtain ⟨rvs, g2, g3⟩ := h
  exact ⟨rvs, own_mono g2 hl, fun i x pv hx hq => own_mono (g3 i x pv hx hq) hl⟩
/-- An instance, its lists of the call's own. -/
def OwnInst (lb : Nat) (ec ep er ei : TypeId) (w : World) (v : Value) (x : Inst) : Prop :=
  ∃ cv dv, v = .agg #[.int .i64 x.days, .int .i64 x.veh, .int .i64 x.cap, .int .i64 x.len, cv, dv] ∧ OwnCusts lb ec ep w cv x.custs ∧ OwnRows lb er ei w dv x.dist
theorem OwnInst.readsF {lb : Nat} {ec ep er ei : TypeId} {w : World} {v : Value} {x : Inst} (h : OwnInst lb ec ep er ei w v x) : RInstF lb w v x := by
  obtain ⟨cv, dv, hv, h1, h2⟩ := h
  exact ⟨cv, dv, hv, h1.reads, h2.reads⟩
theorem OwnInst.reads {lb : Nat} {ec ep er ei : TypeId} {w : World} {v : Value} {x : Inst} (h : OwnInst lb ec ep er ei w v x) : RInst w v x := by
  obtain ⟨cv, dv, hv, h1, h2⟩ := h
  exact ⟨cv, dv, hv, h1.reads.plain, h2.reads.plain⟩
theorem OwnInst.below {lb : Nat} {ec ep er ei : TypeId} {w w' : World} {v : Value} {x : Inst} {B : Nat} (h : OwnInst lb ec ep er ei w v x) (hb : Below B w w') (hB : w.heap.size ≤ B) : OwnInst lb ec ep er ei w' v x := by
  obtain ⟨cv, dv, hv, h1, h2⟩ := h
  exact ⟨cv, dv, hv, h1.below hb hB, h2.below hb hB⟩

/-- A cell that held something else stays as it is. -/
theorem cell_else {w : World} {p q : Addr} {u u0 v : Value} (h : w.cell? q = some v) (hp : w.cell? p = some u0) (hne : u0 ≠ v) : (w.setCell p u).cell? q = some v := by
  by_cases e : p = q
  · subst e; rw [hp] at h; injection h with h; exact absurd h hne
  · exact (World.cell?_setCell_other w p q u e).trans h
theorem cell_same {w : World} {p q : Addr} {u v : Value} (h : w.cell? q = some v) : (w.setCell p u).cell? q = some (if p = q then u else v) := by
  by_cases e : p = q
  · subst e; rw [if_pos rfl]; exact World.cell?_setCell_same w p u h
  · rw [if_neg e]; exact (World.cell?_setCell_other w p q u e).trans h
theorem list_choice {α β : Type} {P : Nat → β → Prop} (L : List α) (h : ∀ (i : Nat) (x : α), L[i]? = some x → ∃ y, P i y) : ∃ L' : List β, L'.length = L.length ∧ ∀ (i : Nat) (y : β), L'[i]? = some y → P i y := by
  have h' : ∀ i : Fin L.length, ∃ y, P i y := fun i => h i L[i] (List.getElem?_eq_getElem i.2)
  refine ⟨List.ofFn fun i => (h' i).choose, by simp, fun i y hy => ?_⟩
  obtain ⟨hi, rfl⟩ := List.getElem?_eq_some_iff.1 hy
  have hi' : i < L.length := by simpa using hi
  simpa using (h' ⟨i, hi'⟩).choose_spec

theorem RInts.set_ {w : World} {v : Value} {l : List Int} {p : Addr} {z : Int} (h : RInts w .i64 v l) (hz : W64 z) (hl : ∀ y ∈ l, W64 y) :
    ∃ l' : List Int, l'.length = l.length ∧ RInts (w.setCell p (.int .i64 z)) .i64 v l' ∧ ∀ y ∈ l', W64 y := by
  obtain ⟨A, c, rfl, h1, h2, h3, h4⟩ := h
  by_cases hn : 0 < l.length
  · obtain ⟨b, o, rfl, hb, hc⟩ := h4 hn
    refine ⟨l.mapIdx fun j y => if p = ⟨b, o + j, none⟩ then z else y, by simp, ?_, fun y hy => ?_⟩
    · refine ⟨_, c, by simp, by simpa using h1, h2, by simp, fun _ => ⟨b, o, rfl, by simpa using hb, fun j u hu => ?_⟩⟩
      rw [List.getElem?_map, List.getElem?_mapIdx] at hu
      cases hlj : l[j]? with
      | none => simp [hlj] at hu
      | some y =>
        simp only [hlj, Option.map_some, Option.some.injEq] at hu
        subst hu
        rw [cell_same (hc j (.int .i64 y) (by simp [hlj]))]
        split <;> rfl
    · rw [List.mem_mapIdx] at hy
      obtain ⟨i, hi, rfl⟩ := hy
      split
      · exact hz
      · exact hl _ (List.getElem_mem hi)
  · obtain rfl : l = [] := List.eq_nil_of_length_eq_zero (by omega)
    exact ⟨[], rfl, ⟨A, c, rfl, h1, h2, by simp, fun h => absurd h (by simp)⟩, fun y hy => by simp at hy⟩
theorem RPats.set_ {w : World} {v : Value} {l : List Nat} {p : Addr} {z z0 : Int} (h : RPats w v l) (hp : w.cell? p = some (.int .i64 z0)) : RPats (w.setCell p (.int .i64 z)) v l := by
  obtain ⟨A, c, hv, h1, h2, h3, h4⟩ := h
  refine ⟨A, c, hv, h1, h2, h3, fun hn => ?_⟩
  obtain ⟨b, o, hA, hb, hc⟩ := h4 hn
  refine ⟨b, o, hA, by simpa using hb, fun j u hu => ?_⟩
  refine cell_else (hc j u hu) hp (fun he => ?_)
  rw [List.getElem?_map] at hu
  cases hlj : (l.map Int.ofNat)[j]? with
  | none => simp [hlj] at hu
  | some y =>
    simp only [hlj, Option.map_some, Option.some.injEq] at hu
    subst hu
    cases he
theorem RCusts.set_ {w : World} {v : Value} {L : List Cust} {p : Addr} {z z0 : Int} (h : RCusts w v L) (hp : w.cell? p = some (.int .i64 z0)) (hz : W64 z) (hw : ∀ c ∈ L, c.wf) :
    ∃ L' : List Cust, L'.length = L.length ∧ RCusts (w.setCell p (.int .i64 z)) v L' ∧ ∀ c ∈ L', c.wf := by
  obtain ⟨A, c, rfl, h1, h2, h4⟩ := h
  by_cases hn : 0 < L.length
  · obtain ⟨b, o, rfl, hb, hc⟩ := h4 hn
    have hq : ∀ (i : Nat) (x : Cust), L[i]? = some x → ∃ y : Cust, (∃ pv, RPats (w.setCell p (.int .i64 z)) pv y.pats ∧
        (w.setCell p (.int .i64 z)).cell? ⟨b, o + i * 8, none⟩ = some (.int .i64 y.kind) ∧ (w.setCell p (.int .i64 z)).cell? ⟨b, o + i * 8 + 1, none⟩ = some (.int .i64 y.demand) ∧ (w.setCell p (.int .i64 z)).cell? ⟨b, o + i * 8 + 2, none⟩ = some pv ∧
        (w.setCell p (.int .i64 z)).cell? ⟨b, o + i * 8 + 3, none⟩ = some (.int .i64 y.rate) ∧ (w.setCell p (.int .i64 z)).cell? ⟨b, o + i * 8 + 4, none⟩ = some (.int .i64 y.size) ∧ (w.setCell p (.int .i64 z)).cell? ⟨b, o + i * 8 + 5, none⟩ = some (.int .i64 y.start) ∧
        (w.setCell p (.int .i64 z)).cell? ⟨b, o + i * 8 + 6, none⟩ = some (.int .i64 y.rule) ∧ (w.setCell p (.int .i64 z)).cell? ⟨b, o + i * 8 + 7, none⟩ = some (.int .i64 y.hold)) ∧ y.wf := by
      intro i x hx
      obtain ⟨pv, hpv, k0, k1, k2, k3, k4, k5, k6, k7⟩ := hc i x hx
      have hs : ∀ (k : Nat) (y : Int), w.cell? ⟨b, k, none⟩ = some (.int .i64 y) → W64 y → ∃ y', (w.setCell p (.int .i64 z)).cell? ⟨b, k, none⟩ = some (.int .i64 y') ∧ W64 y' := by
        intro k y hk hy
        by_cases e : p = ⟨b, k, none⟩
        · exact ⟨z, by rw [cell_same hk, if_pos e], hz⟩
        · exact ⟨y, by rw [cell_same hk, if_neg e], hy⟩
      obtain ⟨w0, w1, w2, w3, w4, w5, w6, w7⟩ := hw x (List.mem_of_getElem? hx)
      obtain ⟨y0, a0, b0⟩ := hs _ _ k0 w0
      obtain ⟨y1, a1, b1⟩ := hs _ _ k1 w1
      obtain ⟨y3, a3, b3⟩ := hs _ _ k3 w3
      obtain ⟨y4, a4, b4⟩ := hs _ _ k4 w4
      obtain ⟨y5, a5, b5⟩ := hs _ _ k5 w5
      obtain ⟨y6, a6, b6⟩ := hs _ _ k6 w6
      obtain ⟨y7, a7, b7⟩ := hs _ _ k7 w7
      have hpr := hpv.set_ (z := z) hp
      obtain ⟨Ap, cp, rfl, _⟩ := hpv
      exact ⟨⟨y0, y1, x.pats, y3, y4, y5, y6, y7⟩, ⟨_, hpr, a0, a1, cell_else k2 hp (fun he => by cases he), a3, a4, a5, a6, a7⟩, b0, b1, w2, b3, b4, b5, b6, b7⟩
    obtain ⟨L', hl, hL⟩ := list_choice L hq
    refine ⟨L', hl, ⟨_, c, by rw [hl], by omega, h2, fun _ => ⟨b, o, rfl, by simpa using hb, fun i y hy => (hL i y hy).1⟩⟩, fun y hy => ?_⟩
    obtain ⟨i, hi⟩ := List.mem_iff_getElem?.1 hy
    exact (hL i y hi).2
  · obtain rfl : L = [] := List.eq_nil_of_length_eq_zero (by omega)
    exact ⟨[], rfl, ⟨A, c, rfl, h1, h2, fun h => absurd h (by simp)⟩, fun y hy => by simp at hy⟩
theorem RRows.set_ {w : World} {v : Value} {L : List (List Int)} {p : Addr} {z z0 : Int} (h : RRows w v L) (hp : w.cell? p = some (.int .i64 z0)) (hz : W64 z) (hw : ∀ r ∈ L, ∀ y ∈ r, W64 y) :
    ∃ L' : List (List Int), L'.length = L.length ∧ RRows (w.setCell p (.int .i64 z)) v L' ∧ ∀ r ∈ L', ∀ y ∈ r, W64 y := by
  obtain ⟨A, c, rfl, h1, h2, h4⟩ := h
  by_cases hn : 0 < L.length
  · obtain ⟨b, o, rfl, hb, hc⟩ := h4 hn
    have hq : ∀ (i : Nat) (x : List Int), L[i]? = some x → ∃ y : List Int, (∃ rv, RInts (w.setCell p (.int .i64 z)) .i64 rv y ∧ (w.setCell p (.int .i64 z)).cell? ⟨b, o + i, none⟩ = some rv) ∧ ∀ u ∈ y, W64 u := by
      intro i x hx
      obtain ⟨rv, hrv, hcell⟩ := hc i x hx
      obtain ⟨l', _, hl', hw'⟩ := hrv.set_ (p := p) hz (hw x (List.mem_of_getElem? hx))
      obtain ⟨Ap, cp, rfl, _⟩ := hrv
      exact ⟨l', ⟨_, hl', cell_else hcell hp (fun he => by cases he)⟩, hw'⟩
    obtain ⟨L', hl, hL⟩ := list_choice L hq
    refine ⟨L', hl, ⟨_, c, by rw [hl], by omega, h2, fun _ => ⟨b, o, rfl, by simpa using hb, fun i y hy => (hL i y hy).1⟩⟩, fun y hy => ?_⟩
    obtain ⟨i, hi⟩ := List.mem_iff_getElem?.1 hy
    exact (hL i y hi).2
  · obtain rfl : L = [] := List.eq_nil_of_length_eq_zero (by omega)
    exact ⟨[], rfl, ⟨A, c, rfl, h1, h2, fun h => absurd h (by simp)⟩, fun y hy => by simp at hy⟩
/-- An instance over which a number is written somewhere over a number is an instance still. -/
theorem RInst.set_ {w : World} {v : Value} {x : Inst} {p : Addr} {z z0 : Int} (h : RInst w v x) (hp : w.cell? p = some (.int .i64 z0)) (hz : W64 z) (hw : x.wf) :
    ∃ x' : Inst, RInst (w.setCell p (.int .i64 z)) v x' ∧ x'.wf ∧ x'.custs.length = x.custs.length := by
  obtain ⟨cv, dv, rfl, h1, h2⟩ := h
  obtain ⟨w0, w1, w2, w3, w4, w5⟩ := hw
  obtain ⟨L, l1, l2, l3⟩ := h1.set_ hp hz w4
  obtain ⟨D, d1, d2, d3⟩ := h2.set_ hp hz w5
  exact ⟨⟨x.days, x.veh, x.cap, x.len, L, D⟩, ⟨cv, dv, rfl, l2, d2⟩, ⟨w0, w1, w2, w3, l3, d3⟩, l1⟩
theorem RRows.take {w : World} {A : Option Addr} {c k : Nat} {L : List (List Int)} (h : RRows w (.slice A L.length c) L) (hk : k ≤ L.length) : RRows w (.slice A k c) (L.take k) := by
  obtain ⟨A, c, hv, h1, h2, h4⟩ := h
  injection hv with e1 e2 e3
  subst e1; subst e3
  refine ⟨_, _, by rw [List.length_take, Nat.min_eq_left hk], by rw [List.length_take]; omega, h2, fun hn => ?_⟩
  rw [List.length_take] at hn
  obtain ⟨b, o, hA, hb, hc⟩ := h4 (by omega)
  refine ⟨b, o, hA, hb, fun i r hr => ?_⟩
  rw [List.getElem?_take] at hr
  split at hr
  · exact hc i r hr
  · cases hr
theorem RCusts.take {w : World} {A : Option Addr} {c k : Nat} {L : List Cust} (h : RCusts w (.slice A L.length c) L) (hk : k ≤ L.length) : RCusts w (.slice A k c) (L.take k) := by
  obtain ⟨A, c, hv, h1, h2, h4⟩ := h
  injection hv with e1 e2 e3
  subst e1; subst e3
  refine ⟨_, _, by rw [List.length_take, Nat.min_eq_left hk], by rw [List.length_take]; omega, h2, fun hn => ?_⟩
  rw [List.length_take] at hn
  obtain ⟨b, o, hA, hb, hc⟩ := h4 (by omega)
  refine ⟨b, o, hA, hb, fun i r hr => ?_⟩
  rw [List.getElem?_take] at hr
  split at hr
  · exact hc i r hr
  · cases hr
end Go.Proofs.YtokdneolgolkbaaDoor
