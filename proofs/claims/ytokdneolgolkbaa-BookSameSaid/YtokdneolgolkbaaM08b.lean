/- Plans of the call's own that may be written over: numbers stay numbers, lists lists. No condition. -/
import Derived.Test.YtokdneolgolkbaaM08
namespace Go.Proofs.Ytokdneolgolkbaa
open Go.RowKit P08

theorem cell_int8 {w : World} {p q : Addr} {z z0 : Int} (hp : w.cell? p = some (.int .i64 z0)) (h : ∃ y, w.cell? q = some (.int .i64 y)) : ∃ y, (w.setCell p (.int .i64 z)).cell? q = some (.int .i64 y) := by
  obtain ⟨y, hy⟩ := h
  by_cases e : p = q
  · subst e; exact ⟨z, by rw [cell_same hp, if_pos rfl]⟩
  · exact ⟨y, by rw [cell_same hy, if_neg e]⟩
/-- Of what type a block's cells are. -/
def TyAt (w : World) (b : Nat) (t : TypeId) : Prop := ∃ cs fr, w.heap[b]? = some (.cells cs t fr)
theorem TyAt.set {w : World} {b : Nat} {t : TypeId} (h : TyAt w b t) (p : Addr) (v : Value) : TyAt (w.setCell p v) b t := by
  obtain ⟨cs, fr, h⟩ := h
  by_cases e : b = p.block
  · subst e
    refine ⟨if p.spot.isSome = true then cs else cs.setIfInBounds p.off v, fr, ?_⟩
    obtain ⟨hlt, hk⟩ := Array.getElem?_eq_some_iff.1 h
    show (w.heap.modify p.block _)[p.block]? = _
    rw [Array.getElem?_eq_getElem (by rw [Array.size_modify]; exact hlt), Array.getElem_modify_self, hk]
  · exact ⟨cs, fr, (Below.heap_setCell w p v b e).trans h⟩
theorem TyAt.ne {w : World} {b c : Nat} {t u : TypeId} (h : TyAt w b t) (h' : TyAt w c u) (hne : t ≠ u) : b ≠ c := by
  obtain ⟨cs, fr, h⟩ := h
  obtain ⟨cs', fr', h'⟩ := h'
  intro e
  subst e
  rw [h] at h'
  injection h' with h'
  injection h' with _ h' _
  exact hne h'
/-- n stops whose quantities may be written, from block lb on, below block ub. -/
def WStops (lb ub : Nat) (w : World) (rv : Value) (n : Nat) : Prop :=
  ∃ A c, rv = .slice A n c ∧ n ≤ c ∧ c ≤ 9223372036854775807 ∧ (0 < n → ∃ b o, A = some ⟨b, o, none⟩ ∧ lb ≤ b ∧ b < ub ∧ ∀ j, j < n → (∃ z, w.cell? ⟨b, o + j * 2 + 1, none⟩ = some (.int .i64 z)) ∧ w.frozen? ⟨b, o + j * 2 + 1, none⟩ = false)
/-- Lists of such, which may be written over by none. -/
def WLists (lb ub : Nat) (ty : TypeId) (R : World → Value → Nat → Prop) (w : World) (dv : Value) (n : Nat) : Prop :=
  ∃ A c, dv = .slice A n c ∧ n ≤ c ∧ c ≤ 9223372036854775807 ∧ (0 < n → ∃ b o, A = some ⟨b, o, none⟩ ∧ lb ≤ b ∧ b < ub ∧ TyAt w b ty ∧ ∀ i, i < n → w.frozen? ⟨b, o + i, none⟩ = false ∧ ∃ rv m, R w rv m ∧ w.cell? ⟨b, o + i, none⟩ = some rv)
def WTours (lb ub : Nat) : World → Value → Nat → Prop := WLists lb ub 36 (WStops lb ub)
def WDays (lb ub : Nat) : World → Value → Nat → Prop := WLists lb ub 32 (WTours lb ub)
section
variable {lb ub n : Nat} {ty : TypeId} {w : World} {rv : Value} {p : Addr}
theorem WStops.slice (h : WStops lb ub w rv n) : ∃ A c, rv = .slice A n c := by
  obtain ⟨A, c, e, _⟩ := h
  exact ⟨A, c, e⟩
theorem WLists.slice {R : World → Value → Nat → Prop} (h : WLists lb ub ty R w rv n) : ∃ A c, rv = .slice A n c := by
  obtain ⟨A, c, e, _⟩ := h
  exact ⟨A, c, e⟩
theorem WStops.none_ : WStops lb ub w (.slice none 0 0) 0 := ⟨none, 0, rfl, Nat.le_refl _, by omega, fun h => absurd h (by omega)⟩
theorem WLists.none_ {R : World → Value → Nat → Prop} : WLists lb ub ty R w (.slice none 0 0) 0 := ⟨none, 0, rfl, Nat.le_refl _, by omega, fun h => absurd h (by omega)⟩
theorem WStops.set_int {z z0 : Int} (h : WStops lb ub w rv n) (hp : w.cell? p = some (.int .i64 z0)) : WStops lb ub (w.setCell p (.int .i64 z)) rv n := by
  obtain ⟨A, c, hv, h1, h2, h3⟩ := h
  refine ⟨A, c, hv, h1, h2, fun hn => ?_⟩
  obtain ⟨b, o, hA, g1, g2, g3⟩ := h3 hn
  exact ⟨b, o, hA, g1, g2, fun j hj => ⟨cell_int8 hp (g3 j hj).1, by rw [World.frozen?_setCell]; exact (g3 j hj).2⟩⟩
theorem WLists.set_int {R : World → Value → Nat → Prop} {z z0 : Int} (hR : ∀ rv m, R w rv m → R (w.setCell p (.int .i64 z)) rv m) (hS : ∀ rv m, R w rv m → ∃ A c, rv = .slice A m c) (h : WLists lb ub ty R w rv n) (hp : w.cell? p = some (.int .i64 z0)) : WLists lb ub ty R (w.setCell p (.int .i64 z)) rv n := by
  obtain ⟨A, c, hv, h1, h2, h3⟩ := h
  refine ⟨A, c, hv, h1, h2, fun hn => ?_⟩
  obtain ⟨b, o, hA, g1, g2, gt, g3⟩ := h3 hn
  refine ⟨b, o, hA, g1, g2, gt.set _ _, fun i hi => ?_⟩
  obtain ⟨kf, rv, m, hr, hc⟩ := g3 i hi
  obtain ⟨A', c', e⟩ := hS _ _ hr
  exact ⟨by rw [World.frozen?_setCell]; exact kf, rv, m, hR _ _ hr, cell_else hc hp (by rw [e]; intro e2; cases e2)⟩
theorem WTours.set_int {z z0 : Int} (h : WTours lb ub w rv n) (hp : w.cell? p = some (.int .i64 z0)) : WTours lb ub (w.setCell p (.int .i64 z)) rv n :=
  WLists.set_int (fun _ _ h => WStops.set_int h hp) (fun _ _ h => WStops.slice h) h hp
theorem WDays.set_int {z z0 : Int} (h : WDays lb ub w rv n) (hp : w.cell? p = some (.int .i64 z0)) : WDays lb ub (w.setCell p (.int .i64 z)) rv n :=
  WLists.set_int (fun _ _ h => WTours.set_int h hp) (fun _ _ h => WLists.slice h) h hp
theorem WStops.set_nil {A0 : Option Addr} {n0 c0 : Nat} (h : WStops lb ub w rv n) (hp : w.cell? p = some (.slice A0 n0 c0)) : WStops lb ub (w.setCell p (.slice none 0 0)) rv n := by
  obtain ⟨A, c, hv, h1, h2, h3⟩ := h
  refine ⟨A, c, hv, h1, h2, fun hn => ?_⟩
  obtain ⟨b, o, hA, g1, g2, g3⟩ := h3 hn
  refine ⟨b, o, hA, g1, g2, fun j hj => ⟨?_, by rw [World.frozen?_setCell]; exact (g3 j hj).2⟩⟩
  obtain ⟨y, hy⟩ := (g3 j hj).1
  exact ⟨y, cell_else hy hp (by intro e; cases e)⟩
theorem WLists.set_nil {R : World → Value → Nat → Prop} {A0 : Option Addr} {n0 c0 : Nat} (hR : ∀ rv m, R w rv m → R (w.setCell p (.slice none 0 0)) rv m) (hN : R (w.setCell p (.slice none 0 0)) (.slice none 0 0) 0) (h : WLists lb ub ty R w rv n) (_hp : w.cell? p = some (.slice A0 n0 c0)) : WLists lb ub ty R (w.setCell p (.slice none 0 0)) rv n := by
  obtain ⟨A, c, hv, h1, h2, h3⟩ := h
  refine ⟨A, c, hv, h1, h2, fun hn => ?_⟩
  obtain ⟨b, o, hA, g1, g2, gt, g3⟩ := h3 hn
  refine ⟨b, o, hA, g1, g2, gt.set _ _, fun i hi => ?_⟩
  obtain ⟨kf, rv, m, hr, hc⟩ := g3 i hi
  refine ⟨by rw [World.frozen?_setCell]; exact kf, ?_⟩
  by_cases e : p = ⟨b, o + i, none⟩
  · exact ⟨.slice none 0 0, 0, hN, by rw [cell_same hc, if_pos e]⟩
  · exact ⟨rv, m, hR _ _ hr, by rw [cell_same hc, if_neg e]⟩
theorem WTours.set_nil {A0 : Option Addr} {n0 c0 : Nat} (h : WTours lb ub w rv n) (hp : w.cell? p = some (.slice A0 n0 c0)) : WTours lb ub (w.setCell p (.slice none 0 0)) rv n :=
  WLists.set_nil (fun _ _ h => WStops.set_nil h hp) WStops.none_ h hp
theorem WDays.set_nil {A0 : Option Addr} {n0 c0 : Nat} (h : WDays lb ub w rv n) (hp : w.cell? p = some (.slice A0 n0 c0)) : WDays lb ub (w.setCell p (.slice none 0 0)) rv n :=
  WLists.set_nil (fun _ _ h => WTours.set_nil h hp) WLists.none_ h hp
theorem WStops.below {w' : World} (h : WStops lb ub w rv n) (hb : Below ub w w') : WStops lb ub w' rv n := by
  obtain ⟨A, c, hv, h1, h2, h3⟩ := h
  refine ⟨A, c, hv, h1, h2, fun hn => ?_⟩
  obtain ⟨b, o, hA, g1, g2, g3⟩ := h3 hn
  exact ⟨b, o, hA, g1, g2, fun j hj => ⟨by rw [hb.cell (p := ⟨b, o + j * 2 + 1, none⟩) g2]; exact (g3 j hj).1, by rw [hb.frozen (p := ⟨b, o + j * 2 + 1, none⟩) g2]; exact (g3 j hj).2⟩⟩
theorem WLists.below {R : World → Value → Nat → Prop} {w' : World} (hR : ∀ rv m, R w rv m → R w' rv m) (h : WLists lb ub ty R w rv n) (hb : Below ub w w') : WLists lb ub ty R w' rv n := by
  obtain ⟨A, c, hv, h1, h2, h3⟩ := h
  refine ⟨A, c, hv, h1, h2, fun hn => ?_⟩
  obtain ⟨b, o, hA, g1, g2, ⟨tc, tf, gt⟩, g3⟩ := h3 hn
  refine ⟨b, o, hA, g1, g2, ⟨tc, tf, (hb.block b g2).trans gt⟩, fun i hi => ?_⟩
  obtain ⟨kf, rv, m, hr, hc⟩ := g3 i hi
  exact ⟨by rw [hb.frozen (p := ⟨b, o + i, none⟩) g2]; exact kf, rv, m, hR _ _ hr, by rw [hb.cell (p := ⟨b, o + i, none⟩) g2]; exact hc⟩
theorem WTours.below {w' : World} (h : WTours lb ub w rv n) (hb : Below ub w w') : WTours lb ub w' rv n := WLists.below (fun _ _ h => WStops.below h hb) h hb
theorem WDays.below {w' : World} (h : WDays lb ub w rv n) (hb : Below ub w w') : WDays lb ub w' rv n := WLists.below (fun _ _ h => WTours.below h hb) h hb
end
/-- A row of the call's own, opened: where it lies, what its cells hold, that none is frozen. -/
theorem own_open8 {w : World} {lb : Nat} {e : TypeId} {size n : Nat} {v : Value} {xs : List Value} (h : w.ownsRow lb e size v n xs) (hn : 0 < n) :
    ∃ g c, v = .slice (some ⟨g, 0, none⟩) n c ∧ lb ≤ g ∧ g < w.heap.size ∧ n ≤ c ∧ c ≤ 9223372036854775807 ∧ (∀ j u, xs[j]? = some u → w.cell? ⟨g, j, none⟩ = some u) ∧ TyAt w g e ∧ ∀ j, w.frozen? ⟨g, j, none⟩ = false := by
  rcases h.2 with ⟨_, h0⟩ | ⟨g, cap, cur, rfl, hb, hg, hnc, hm, hs, ht⟩
  · omega
  · refine ⟨g, cap, rfl, hb, (Array.getElem?_eq_some_iff.1 hg).1, hnc, by simpa [maxLen] using hm, fun j u hu => ?_, ⟨cur, (0, 0), hg⟩, fun j => ?_⟩
    · rw [cell_of_row w g j cur e (0, 0) hg]
      rw [← ht, List.getElem?_take] at hu
      split at hu
      · simpa using hu
      · cases hu
    · simp [World.frozen?, hg]
theorem WStops.of_own {lb : Nat} {e : TypeId} {w : World} {v : Value} {t : Tr} (h : OL lb e 2 RStop w v t) : WStops lb w.heap.size w v t.length := by
  obtain ⟨css, h1, h2, h3, h4⟩ := h
  by_cases hn : 0 < t.length
  · obtain ⟨g, c, rfl, g1, g2, g3, g4, g5, gt, g6⟩ := own_open8 h3 hn
    refine ⟨_, c, rfl, g3, g4, fun _ => ⟨g, 0, rfl, g1, g2, fun j hj => ?_⟩⟩
    obtain ⟨s, hs⟩ := some_of_lt hj
    obtain ⟨cs, hc⟩ := some_of_lt (l := css) (i := j) (by omega)
    have hst : cs = stopC s := h4 j s cs hs hc
    rw [Nat.zero_add]
    exact ⟨⟨s.2, g5 _ _ (flatten_get 2 css j 1 cs _ h2 hc (by rw [hst]; rfl))⟩, g6 _⟩
  · obtain ⟨A, c, hv, g1, g2, _⟩ := RS.of_own h3
    exact ⟨A, c, hv, g1, by simpa [maxLen] using g2, fun h => absurd h hn⟩
theorem WLists.of_own {α : Type} {lb : Nat} {e : TypeId} {w : World} {v : Value} {O : World → List Value → α → Prop} {R : World → Value → Nat → Prop} {L : List α} (hR : ∀ cs x, O w cs x → ∃ rv m, cs = [rv] ∧ R w rv m) (h : OL lb e 1 O w v L) : WLists lb w.heap.size e R w v L.length := by
  obtain ⟨css, h1, h2, h3, h4⟩ := h
  by_cases hn : 0 < L.length
  · obtain ⟨g, c, rfl, g1, g2, g3, g4, g5, gt, g6⟩ := own_open8 h3 hn
    refine ⟨_, c, rfl, g3, g4, fun _ => ⟨g, 0, rfl, g1, g2, gt, fun j hj => ?_⟩⟩
    obtain ⟨x, hx⟩ := some_of_lt hj
    obtain ⟨cs, hc⟩ := some_of_lt (l := css) (i := j) (by omega)
    obtain ⟨rv, m, hcs, hr⟩ := hR _ _ (h4 j x cs hx hc)
    rw [Nat.zero_add]
    have := g5 _ _ (flatten_get 1 css j 0 cs rv h2 hc (by rw [hcs]; rfl))
    rw [Nat.mul_one, Nat.add_zero] at this
    exact ⟨g6 _, rv, m, hr, this⟩
  · obtain ⟨A, c, hv, g1, g2, _⟩ := RS.of_own h3
    exact ⟨A, c, hv, g1, by simpa [maxLen] using g2, fun h => absurd h hn⟩
theorem WTours.of_own {lb : Nat} {es : TypeId} {w : World} {v : Value} {d : Dy} (h : OL lb 36 1 (OTour lb es) w v d) : WTours lb w.heap.size w v d.length :=
  WLists.of_own (fun _ t ⟨rv, e, h⟩ => ⟨rv, t.length, e, WStops.of_own h⟩) h
theorem WDays.of_own {lb : Nat} {es : TypeId} {w : World} {v : Value} {p : Pl} (h : ODays lb 32 36 es w v p) : WDays lb w.heap.size w v p.length :=
  WLists.of_own (fun _ d ⟨rv, e, h⟩ => ⟨rv, d.length, e, WTours.of_own h⟩) h
end Go.Proofs.Ytokdneolgolkbaa
