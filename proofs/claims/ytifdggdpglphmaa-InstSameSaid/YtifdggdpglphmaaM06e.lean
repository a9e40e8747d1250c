/- Lists of the call's own that may be written over: numbers stay numbers. No condition. -/
import Derived.Test.YtifdggdpglphmaaMem3
import Derived.Test.YtifdggdpglphmaaW06n
namespace Go.Proofs.Ytifdggdpglphmaa
open Go.RowKit P06

/-- n numbers that may be written, from block lb on, below block ub. -/
def WInts (k : IntKind) (lb ub : Nat) (w : World) (rv : Value) (n : Nat) : Prop :=
  ∃ A c, rv = .slice A n c ∧ n ≤ c ∧ c ≤ 9223372036854775807 ∧ (0 < n → ∃ b o, A = some ⟨b, o, none⟩ ∧ lb ≤ b ∧ b < ub ∧ ∀ j, j < n → (∃ z, w.cell? ⟨b, o + j, none⟩ = some (.int k z)) ∧ w.frozen? ⟨b, o + j, none⟩ = false)
/-- Rows of such numbers. -/
def WRows (lb ub : Nat) (w : World) (dv : Value) (n : Nat) : Prop :=
  ∃ A c, dv = .slice A n c ∧ n ≤ c ∧ c ≤ 9223372036854775807 ∧ (0 < n → ∃ b o, A = some ⟨b, o, none⟩ ∧ b < ub ∧ ∀ i, i < n → ∃ rv m, WInts .i64 lb ub w rv m ∧ w.cell? ⟨b, o + i, none⟩ = some rv)
/-- Customers whose kind and sets of days may be written. -/
def WCusts (lb ub : Nat) (w : World) (cv : Value) (n : Nat) : Prop :=
  ∃ A c, cv = .slice A n c ∧ n ≤ c ∧ c ≤ 9223372036854775807 ∧ (0 < n → ∃ b o, A = some ⟨b, o, none⟩ ∧ lb ≤ b ∧ b < ub ∧ ∀ i, i < n → (∃ z, w.cell? ⟨b, o + i * 8, none⟩ = some (.int .i64 z)) ∧ w.frozen? ⟨b, o + i * 8, none⟩ = false ∧
    ∃ pv m, WInts .u64 lb ub w pv m ∧ w.cell? ⟨b, o + i * 8 + 2, none⟩ = some pv)
theorem cell_int {w : World} {p q : Addr} {k k' : IntKind} {z z0 : Int} (hp : w.cell? p = some (.int k z0)) (h : ∃ y, w.cell? q = some (.int k' y)) : ∃ y, (w.setCell p (.int k z)).cell? q = some (.int k' y) := by
  obtain ⟨y, hy⟩ := h
  by_cases e : p = q
  · subst e
    rw [hp] at hy
    injection hy with hy
    injection hy with h1 h2
    subst h1
    exact ⟨z, by rw [cell_same hp, if_pos rfl]⟩
  · exact ⟨y, by rw [cell_same hy, if_neg e]⟩
theorem WInts.set_ {k k' : IntKind} {lb ub n : Nat} {w : World} {rv : Value} {p : Addr} {z z0 : Int} (h : WInts k' lb ub w rv n) (hp : w.cell? p = some (.int k z0)) : WInts k' lb ub (w.setCell p (.int k z)) rv n := by
  obtain ⟨A, c, hv, h1, h2, h3⟩ := h
  refine ⟨A, c, hv, h1, h2, fun hn => ?_⟩
  obtain ⟨b, o, hA, g1, g2, g3⟩ := h3 hn
  exact ⟨b, o, hA, g1, g2, fun j hj => ⟨cell_int hp (g3 j hj).1, by rw [World.frozen?_setCell]; exact (g3 j hj).2⟩⟩
theorem WInts.slice_ne {k k' : IntKind} {lb ub n : Nat} {w : World} {rv : Value} {z : Int} (h : WInts k' lb ub w rv n) : Value.int k z ≠ rv := by
  obtain ⟨A, c, rfl, _⟩ := h
  intro e
  cases e
theorem WRows.set_ {k : IntKind} {lb ub n : Nat} {w : World} {rv : Value} {p : Addr} {z z0 : Int} (h : WRows lb ub w rv n) (hp : w.cell? p = some (.int k z0)) : WRows lb ub (w.setCell p (.int k z)) rv n := by
  obtain ⟨A, c, hv, h1, h2, h3⟩ := h
  refine ⟨A, c, hv, h1, h2, fun hn => ?_⟩
  obtain ⟨b, o, hA, g2, g3⟩ := h3 hn
  refine ⟨b, o, hA, g2, fun i hi => ?_⟩
  obtain ⟨rv, m, hr, hc⟩ := g3 i hi
  exact ⟨rv, m, hr.set_ hp, cell_else hc hp hr.slice_ne⟩
theorem WCusts.set_ {k : IntKind} {lb ub n : Nat} {w : World} {rv : Value} {p : Addr} {z z0 : Int} (h : WCusts lb ub w rv n) (hp : w.cell? p = some (.int k z0)) : WCusts lb ub (w.setCell p (.int k z)) rv n := by
  obtain ⟨A, c, hv, h1, h2, h3⟩ := h
  refine ⟨A, c, hv, h1, h2, fun hn => ?_⟩
  obtain ⟨b, o, hA, g1, g2, g3⟩ := h3 hn
  refine ⟨b, o, hA, g1, g2, fun i hi => ?_⟩
  obtain ⟨k0, kf, rv, m, hr, hc⟩ := g3 i hi
  exact ⟨cell_int hp k0, by rw [World.frozen?_setCell]; exact kf, rv, m, hr.set_ hp, cell_else hc hp hr.slice_ne⟩
theorem WInts.of_own {k : IntKind} {lb ub : Nat} {e : TypeId} {w : World} {rv : Value} {n : Nat} {xs : List Value} (h : w.ownsRow lb e 1 rv n xs) (hx : ∀ u ∈ xs, ∃ z, u = .int k z) (hub : ∀ g, rv.ownBlock = some g → g < ub) : WInts k lb ub w rv n := by
  by_cases hn : 0 < n
  · obtain ⟨g, c, rfl, h1, h2, h3, h4, h5, h6⟩ := own_open h hn (by omega)
    refine ⟨_, c, rfl, h3, h4, fun _ => ⟨g, 0, rfl, h1, hub g rfl, fun j hj => ⟨?_, by rw [Nat.zero_add]; exact h6 j⟩⟩⟩
    obtain ⟨u, hu⟩ := some_of_lt (l := xs) (i := j) (by have := h.1; omega)
    obtain ⟨z, rfl⟩ := hx u (List.mem_of_getElem? hu)
    exact ⟨z, by rw [Nat.zero_add]; exact h5 j _ hu⟩
  · obtain ⟨A, c, hv, h1, h2, _⟩ := RS.of_own h
    exact ⟨A, c, hv, h1, by simpa [maxLen] using h2, fun h => absurd h hn⟩
theorem WRows.of_own {lb ub : Nat} {er ei : TypeId} {w : World} {v : Value} {L : List (List Int)} (h : OwnRows lb er ei w v L) (hub : w.heap.size ≤ ub) : WRows lb ub w v L.length := by
  obtain ⟨rvs, h1, h2⟩ := h
  have hl := h1.1
  by_cases hn : 0 < L.length
  · obtain ⟨g, c, rfl, _, hg, h3, h4, h5, _⟩ := own_open h1 hn (by omega)
    refine ⟨_, c, rfl, h3, h4, fun _ => ⟨g, 0, rfl, Nat.lt_of_lt_of_le hg hub, fun i hi => ?_⟩⟩
    obtain ⟨r, hr⟩ := some_of_lt hi
    obtain ⟨rv, hrv⟩ := some_of_lt (l := rvs) (i := i) (by omega)
    have ho := h2 i r rv hr hrv
    exact ⟨rv, r.length, .of_own ho (fun u hu => by obtain ⟨z, _, rfl⟩ := List.mem_map.1 hu; exact ⟨z, rfl⟩) (fun g hg => Nat.lt_of_lt_of_le (ho.lt g hg).2 hub), by rw [Nat.zero_add]; exact h5 i rv hrv⟩
  · obtain ⟨A, c, hv, g1, g2, _⟩ := RS.of_own h1
    exact ⟨A, c, hv, g1, by simpa [maxLen] using g2, fun h => absurd h hn⟩
theorem WCusts.of_own {lb ub : Nat} {ec ep : TypeId} {w : World} {v : Value} {L : List Cust} (h : OwnCusts lb ec ep w v L) (hub : w.heap.size ≤ ub) : WCusts lb ub w v L.length := by
  obtain ⟨pvs, h0, h1, h2⟩ := h
  by_cases hn : 0 < L.length
  · obtain ⟨g, c, rfl, hb, hg, h3, h4, h5, h6⟩ := own_open h1 hn (by omega)
    refine ⟨_, c, rfl, h3, h4, fun _ => ⟨g, 0, rfl, hb, Nat.lt_of_lt_of_le hg hub, fun i hi => ?_⟩⟩
    obtain ⟨x, hx⟩ := some_of_lt hi
    obtain ⟨pv, hpv⟩ := some_of_lt (l := pvs) (i := i) (by omega)
    have ho := h2 i x pv hx hpv
    have hf := fun j hj u hu => h5 (i * 8 + j) u ((flat8_get L pvs i j x pv hx hpv hj).trans hu)
    refine ⟨⟨x.kind, by rw [Nat.zero_add]; exact hf 0 (by omega) _ rfl⟩, by rw [Nat.zero_add]; exact h6 _, pv, x.pats.length, .of_own ho (fun u hu => by obtain ⟨z, _, rfl⟩ := List.mem_map.1 hu; exact ⟨z, rfl⟩) (fun g hg => Nat.lt_of_lt_of_le (ho.lt g hg).2 hub), by rw [Nat.zero_add]; exact hf 2 (by omega) _ rfl⟩
  · obtain ⟨A, c, hv, g1, g2, _⟩ := RS.of_own h1
    exact ⟨A, c, hv, g1, by simpa [maxLen] using g2, fun h => absurd h hn⟩
theorem WInts.below {k : IntKind} {lb ub n : Nat} {w w' : World} {rv : Value} (h : WInts k lb ub w rv n) (hb : Below ub w w') : WInts k lb ub w' rv n := by
  obtain ⟨A, c, hv, h1, h2, h3⟩ := h
  refine ⟨A, c, hv, h1, h2, fun hn => ?_⟩
  obtain ⟨b, o, hA, g1, g2, g3⟩ := h3 hn
  exact ⟨b, o, hA, g1, g2, fun j hj => ⟨by rw [hb.cell (p := ⟨b, o + j, none⟩) g2]; exact (g3 j hj).1, by rw [hb.frozen (p := ⟨b, o + j, none⟩) g2]; exact (g3 j hj).2⟩⟩
theorem WRows.below {lb ub n : Nat} {w w' : World} {rv : Value} (h : WRows lb ub w rv n) (hb : Below ub w w') : WRows lb ub w' rv n := by
  obtain ⟨A, c, hv, h1, h2, h3⟩ := h
  refine ⟨A, c, hv, h1, h2, fun hn => ?_⟩
  obtain ⟨b, o, hA, g2, g3⟩ := h3 hn
  refine ⟨b, o, hA, g2, fun i hi => ?_⟩
  obtain ⟨rv, m, hr, hc⟩ := g3 i hi
  exact ⟨rv, m, hr.below hb, by rw [hb.cell (p := ⟨b, o + i, none⟩) g2]; exact hc⟩
theorem WCusts.below {lb ub n : Nat} {w w' : World} {rv : Value} (h : WCusts lb ub w rv n) (hb : Below ub w w') : WCusts lb ub w' rv n := by
  obtain ⟨A, c, hv, h1, h2, h3⟩ := h
  refine ⟨A, c, hv, h1, h2, fun hn => ?_⟩
  obtain ⟨b, o, hA, g1, g2, g3⟩ := h3 hn
  refine ⟨b, o, hA, g1, g2, fun i hi => ?_⟩
  obtain ⟨k0, kf, rv, m, hr, hc⟩ := g3 i hi
  exact ⟨by rw [hb.cell (p := ⟨b, o + i * 8, none⟩) g2]; exact k0, by rw [hb.frozen (p := ⟨b, o + i * 8, none⟩) g2]; exact kf, rv, m, hr.below hb, by rw [hb.cell (p := ⟨b, o + i * 8 + 2, none⟩) g2]; exact hc⟩
end Go.Proofs.Ytifdggdpglphmaa
