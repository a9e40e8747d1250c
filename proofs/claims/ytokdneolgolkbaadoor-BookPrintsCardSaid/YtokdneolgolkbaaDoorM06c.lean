/- Customers in a row of the call's own. -/
import Derived.Test.YtokdneolgolkbaaDoorM06b
namespace Go.Proofs.YtokdneolgolkbaaDoor
open Go.RowKit P06

/-- A customer's eight cells, its patterns where pv says. -/
def custCells (x : Cust) (pv : Value) : List Value := [.int .i64 x.kind, .int .i64 x.demand, pv, .int .i64 x.rate, .int .i64 x.size, .int .i64 x.start, .int .i64 x.rule, .int .i64 x.hold]
/-- Customers in a row of the call's own, their patterns in rows of the call's own. -/
def OwnCusts (lb : Nat) (ec ep : TypeId) (w : World) (v : Value) (L : List Cust) : Prop :=
  ∃ pvs : List Value, pvs.length = L.length ∧ w.ownsRow lb ec 8 v L.length ((L.zip pvs).flatMap fun p => custCells p.1 p.2) ∧
    ∀ (i : Nat) (x : Cust) (pv : Value), L[i]? = some x → pvs[i]? = some pv → w.ownsRow lb ep 1 pv x.pats.length (x.pats.map fun (s : Nat) => Value.int .u64 (s : Int))
theorem OwnCusts.none_ (lb : Nat) (ec ep : TypeId) (w : World) : OwnCusts lb ec ep w (.slice none 0 0) [] := ⟨[], rfl, World.ownsRow_nil _ _ _ _, fun i x pv h => by simp at h⟩
theorem OwnCusts.below {lb : Nat} {ec ep : TypeId} {w w' : World} {v : Value} {L : List Cust} {B : Nat} (h : OwnCusts lb ec ep w v L) (hb : Below B w w') (hB : w.heap.size ≤ B) : OwnCusts lb ec ep w' v L := by
  obtain ⟨pvs, h1, h2, h3⟩ := h
  exact ⟨pvs, h1, own_below h2 hb hB, fun i x pv hx hp => own_below (h3 i x pv hx hp) hb hB⟩
theorem OwnCusts.keep {lb base : Nat} {e ec ep : TypeId} {w w' : World} {v : Value} {L : List Cust} (h : OwnCusts lb ec ep w v L) (hk : Keep e base w w') (h1 : ec ≠ e) (h2 : ep ≠ e) : OwnCusts lb ec ep w' v L := by
  obtain ⟨pvs, g1, g2, g3⟩ := h
  exact ⟨pvs, g1, hk.own g2 h1, fun i x pv hx hp => hk.own (g3 i x pv hx hp) h2⟩
theorem own_set_low {w : World} {base : Nat} {e : TypeId} {size n : Nat} {v : Value} {xs : List Value} (h : w.ownsRow base e size v n xs) {p : Addr} (hp : p.block < base) (u : Value) : (w.setCell p u).ownsRow base e size v n xs :=
  own_set h (fun g hg => by have := (h.lt g hg).1; omega) u
theorem OwnCusts.set_low {lb : Nat} {ec ep : TypeId} {w : World} {v : Value} {L : List Cust} {p : Addr} (h : OwnCusts lb ec ep w v L) (hp : p.block < lb) (u : Value) : OwnCusts lb ec ep (w.setCell p u) v L := by
  obtain ⟨pvs, g1, g2, g3⟩ := h
  exact ⟨pvs, g1, own_set_low g2 hp u, fun i x pv hx hq => own_set_low (g3 i x pv hx hq) hp u⟩
theorem OwnCusts.push {lb : Nat} {ec ep : TypeId} {w : World} {v pv : Value} {L : List Cust} {y : Cust} {pvs : List Value} {n : Nat} (hn : L.length = n) (h1 : pvs.length = n) (h2 : w.ownsRow lb ec 8 v (n + 1) (((L.zip pvs).flatMap fun p => custCells p.1 p.2) ++ custCells y pv))
    (h3 : ∀ (i : Nat) (x : Cust) (qv : Value), L[i]? = some x → pvs[i]? = some qv → w.ownsRow lb ep 1 qv x.pats.length (x.pats.map fun (s : Nat) => Value.int .u64 (s : Int)))
    (hy : w.ownsRow lb ep 1 pv y.pats.length (y.pats.map fun (s : Nat) => Value.int .u64 (s : Int))) : OwnCusts lb ec ep w v (L ++ [y]) := by
  subst hn
  refine ⟨pvs ++ [pv], by simp [h1], ?_, fun i x qv hx hq => ?_⟩
  · rw [List.zip_append h1.symm, List.flatMap_append, List.length_append]
    simpa using h2
  · by_cases hi : i < L.length
    · rw [List.getElem?_append_left hi] at hx
      rw [List.getElem?_append_left (by omega)] at hq
      exact h3 i x qv hx hq
    · have e : i = L.length := by
        have := lt_of_some hx
        simp at this
        omega
      subst e
      rw [List.getElem?_append_right (Nat.le_refl _), Nat.sub_self] at hx
      rw [List.getElem?_append_right (by omega), h1, Nat.sub_self] at hq
      simp only [List.getElem?_cons_zero, Option.some.injEq] at hx hq
      subst hx; subst hq
      exact hy
theorem own_from {w : World} {lb : Nat} {e : TypeId} {size n : Nat} {v : Value} {xs : List Value} (h : w.ownsRow lb e size v n xs) : SliceFrom lb v := by
  intro a k c hv _
  subst hv
  rcases h.2 with ⟨h0, _⟩ | ⟨g, cap, cur, hv, hbg, _⟩
  · cases h0
  · injection hv with e1 _ _
    injection e1 with e1
    subst e1
    exact hbg
theorem own_pats {w : World} {lb : Nat} {e : TypeId} {v : Value} {l : List Nat} (h : w.ownsRow lb e 1 v l.length (l.map fun (s : Nat) => Value.int .u64 (s : Int))) : RPats w v l := by
  unfold RPats RInts
  rw [List.length_map, List.map_map]
  exact RS.of_own h
theorem flat8_get (L : List Cust) : ∀ (pvs : List Value) (i j : Nat) (x : Cust) (pv : Value), L[i]? = some x → pvs[i]? = some pv → j < 8 →
    ((L.zip pvs).flatMap fun p => custCells p.1 p.2)[i * 8 + j]? = (custCells x pv)[j]? := by
  induction L with
  | nil => intro pvs i j x pv h; simp at h
  | cons y L ih =>
    intro pvs i j x pv hx hp hj
    cases pvs with
    | nil => simp at hp
    | cons q pvs =>
      rw [List.zip_cons_cons, List.flatMap_cons]
      cases i with
      | zero =>
        simp only [List.getElem?_cons_zero, Option.some.injEq] at hx hp
        subst hx; subst hp
        rw [List.getElem?_append_left (by simp [custCells]; omega), Nat.zero_mul, Nat.zero_add]
      | succ i =>
        simp only [List.getElem?_cons_succ] at hx hp
        rw [List.getElem?_append_right (by simp [custCells]; omega)]
        rw [show (i + 1) * 8 + j - (custCells y q).length = i * 8 + j by simp [custCells]; omega]
        exact ih pvs i j x pv hx hp hj
theorem OwnCusts.reads {lb : Nat} {ec ep : TypeId} {w : World} {v : Value} {L : List Cust} (h : OwnCusts lb ec ep w v L) : RCustsF lb w v L := by
  obtain ⟨pvs, h1, h2, h3⟩ := h
  obtain ⟨A, c, hv, g1, g2, _, g4⟩ := RS.of_own h2
  refine ⟨A, c, hv, g1, g2, fun hn => ?_⟩
  obtain ⟨b, o, hA, hb, hc⟩ := g4 hn
  have hlb : lb ≤ b := own_from h2 ⟨b, o, none⟩ L.length c (by rw [hv, hA]) hn
  refine ⟨b, o, hA, hlb, hb, fun i x hx => ?_⟩
  obtain ⟨pv, hp⟩ := some_of_lt (l := pvs) (i := i) (by have := lt_of_some hx; omega)
  have hf := fun j hj u hu => hc (i * 8 + j) u ((flat8_get L pvs i j x pv hx hp hj).trans hu)
  exact ⟨pv, own_pats (h3 i x pv hx hp), own_from (h3 i x pv hx hp), hf 0 (by omega) _ rfl, hf 1 (by omega) _ rfl, hf 2 (by omega) _ rfl, hf 3 (by omega) _ rfl, hf 4 (by omega) _ rfl, hf 5 (by omega) _ rfl, hf 6 (by omega) _ rfl, hf 7 (by omega) _ rfl⟩

/-- Rows of numbers in a row of the call's own, each in a row of the call's own. -/
def OwnRows (lb : Nat) (er ei : TypeId) (w : World) (v : Value) (L : List (List Int)) : Prop :=
  ∃ rvs : List Value, w.ownsRow lb er 1 v L.length rvs ∧ ∀ (i : Nat) (r : List Int) (rv : Value), L[i]? = some r → rvs[i]? = some rv → w.ownsRow lb ei 1 rv r.length (r.map (Value.int .i64))
theorem OwnRows.none_ (lb : Nat) (er ei : TypeId) (w : World) : OwnRows lb er ei w (.slice none 0 0) [] := ⟨[], World.ownsRow_nil _ _ _ _, fun i x pv h => by simp at h⟩
theorem OwnRows.below {lb : Nat} {er ei : TypeId} {w w' : World} {v : Value} {L : List (List Int)} {B : Nat} (h : OwnRows lb er ei w v L) (hb : Below B w w') (hB : w.heap.size ≤ B) : OwnRows lb er ei w' v L := by
  obtain ⟨rvs, h2, h3⟩ := h
  exact ⟨rvs, own_below h2 hb hB, fun i x pv hx hp => own_below (h3 i x pv hx hp) hb hB⟩
theorem OwnRows.set_low {lb : Nat} {er ei : TypeId} {w : World} {v : Value} {L : List (List Int)} {p : Addr} (h : OwnRows lb er ei w v L) (hp : p.block < lb) (u : Value) : OwnRows lb er ei (w.setCell p u) v L := by
  obtain ⟨rvs, g2, g3⟩ := h
  exact ⟨rvs, own_set_low g2 hp u, fun i x qv hx hq => own_set_low (g3 i x qv hx hq) hp u⟩
theorem OwnRows.push {lb : Nat} {er ei : TypeId} {w : World} {v rv : Value} {L : List (List Int)} {y : List Int} {rvs : List Value} {n : Nat} (hn : L.length = n) (h1 : rvs.length = n) (h2 : w.ownsRow lb er 1 v (n + 1) (rvs ++ [rv]))
    (h3 : ∀ (i : Nat) (r : List Int) (qv : Value), L[i]? = some r → rvs[i]? = some qv → w.ownsRow lb ei 1 qv r.length (r.map (Value.int .i64)))
    (hy : w.ownsRow lb ei 1 rv y.length (y.map (Value.int .i64))) : OwnRows lb er ei w v (L ++ [y]) := by
  subst hn
  refine ⟨rvs ++ [rv], by simpa using h2, fun i x qv hx hq => ?_⟩
  by_cases hi : i < L.length
  · rw [List.getElem?_append_left hi] at hx
    rw [List.getElem?_append_left (by omega)] at hq
    exact h3 i x qv hx hq
  · have e : i = L.length := by
      have := lt_of_some hx
      simp at this
      omega
    subst e
    rw [List.getElem?_append_right (Nat.le_refl _), Nat.sub_self] at hx
    rw [List.getElem?_append_right (by omega), h1, Nat.sub_self] at hq
    simp only [List.getElem?_cons_zero, Option.some.injEq] at hx hq
    subst hx; subst hq
    exact hy
theorem OwnRows.reads {lb : Nat} {er ei : TypeId} {w : World} {v : Value} {L : List (List Int)} (h : OwnRows lb er ei w v L) : RRowsF lb w v L := by
  obtain ⟨rvs, h2, h3⟩ := h
  obtain ⟨A, c, hv, g1, g2, _, g4⟩ := RS.of_own h2
  refine ⟨A, c, hv, g1, g2, fun hn => ?_⟩
  obtain ⟨b, o, hA, hb, hc⟩ := g4 hn
  have hlb : lb ≤ b := own_from h2 ⟨b, o, none⟩ L.length c (by rw [hv, hA]) hn
  refine ⟨b, o, hA, hlb, hb, fun i r hr => ?_⟩
  have hl := h2.1
  obtain ⟨rv, hp⟩ := some_of_lt (l := rvs) (i := i) (by have := lt_of_some hr; omega)
  exact ⟨rv, RS.of_own (h3 i r rv hr hp), own_from (h3 i r rv hr hp), hc i rv hp⟩
theorem OwnCusts.low6 {lb : Nat} {ec ep : TypeId} {w : World} {v : Value} {L : List Cust} {g : Nat} {a0 a1 a2 a3 a4 a5 : Value} (h : OwnCusts lb ec ep w v L) (hg : g < lb) : OwnCusts lb ec ep ((((((w.setCell ⟨g, 0, none⟩ a0).setCell ⟨g, 1, none⟩ a1).setCell ⟨g, 2, none⟩ a2).setCell ⟨g, 3, none⟩ a3).setCell ⟨g, 4, none⟩ a4).setCell ⟨g, 5, none⟩ a5) v L :=
  ((((((h.set_low (p := ⟨g, 0, none⟩) hg a0).set_low (p := ⟨g, 1, none⟩) hg a1).set_low (p := ⟨g, 2, none⟩) hg a2).set_low (p := ⟨g, 3, none⟩) hg a3).set_low (p := ⟨g, 4, none⟩) hg a4).set_low (p := ⟨g, 5, none⟩) hg a5)
theorem OwnRows.low6 {lb : Nat} {er ei : TypeId} {w : World} {v : Value} {L : List (List Int)} {g : Nat} {a0 a1 a2 a3 a4 a5 : Value} (h : OwnRows lb er ei w v L) (hg : g < lb) : OwnRows lb er ei ((((((w.setCell ⟨g, 0, none⟩ a0).setCell ⟨g, 1, none⟩ a1).setCell ⟨g, 2, none⟩ a2).setCell ⟨g, 3, none⟩ a3).setCell ⟨g, 4, none⟩ a4).setCell ⟨g, 5, none⟩ a5) v L :=
  ((((((h.set_low (p := ⟨g, 0, none⟩) hg a0).set_low (p := ⟨g, 1, none⟩) hg a1).set_low (p := ⟨g, 2, none⟩) hg a2).set_low (p := ⟨g, 3, none⟩) hg a3).set_low (p := ⟨g, 4, none⟩) hg a4).set_low (p := ⟨g, 5, none⟩) hg a5)
theorem SliceFrom.mono {lb lb' : Nat} {v : Value} (h : SliceFrom lb v) (hl : lb' ≤ lb) : SliceFrom lb' v := fun a n c hv hn => Nat.le_trans hl (h a n c hv hn)
theorem RCustsF.mono {lb lb' : Nat} {w : World} {v : Value} {L : List Cust} (h : RCustsF lb w v L) (hl : lb' ≤ lb) : RCustsF lb' w v L := by
  obtain ⟨A, c, hv, h1, h2, h3⟩ := h
  refine ⟨A, c, hv, h1, h2, fun hn => ?_⟩
  obtain ⟨b, o, hA, hb0, hb, hc⟩ := h3 hn
  refine ⟨b, o, hA, by omega, hb, fun i x hx => ?_⟩
  obtain ⟨pv, hp, hf, hr⟩ := hc i x hx
  exact ⟨pv, hp, hf.mono hl, hr⟩
theorem RRowsF.mono {lb lb' : Nat} {w : World} {v : Value} {L : List (List Int)} (h : RRowsF lb w v L) (hl : lb' ≤ lb) : RRowsF lb' w v L := by
  obtain ⟨A, c, hv, h1, h2, h3⟩ := h
  refine ⟨A, c, hv, h1, h2, fun hn => ?_⟩
  obtain ⟨b, o, hA, hb0, hb, hc⟩ := h3 hn
  refine ⟨b, o, hA, by omega, hb, fun i x hx => ?_⟩
  obtain ⟨rv, hp, hf, hr⟩ := hc i x hx
  exact ⟨rv, hp, hf.mono hl, hr⟩
theorem Blk.own {w : World} {g lb : Nat} {e : TypeId} {cs : List Value} {n : Nat} (h : Blk w g e cs) (hb : lb ≤ g) (hn : cs.length = n) (hm : n ≤ maxLen) : w.ownsRow lb e 1 (.slice (some ⟨g, 0, none⟩) n n) n cs :=
  ⟨by omega, .inr ⟨g, n, cs.toArray, rfl, hb, h, Nat.le_refl _, hm, by simp [hn], by simp [← hn]⟩⟩
end Go.Proofs.YtokdneolgolkbaaDoor
