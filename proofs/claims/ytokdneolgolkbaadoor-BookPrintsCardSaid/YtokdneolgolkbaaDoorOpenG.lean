/- Arguments opened, whatever the types' numbers: lists of numbers, of such lists, of strings. -/
import Derived.Test.YtokdneolgolkbaaDoorRows
import Derived.Test.YtokdneolgolkbaaDoorM06d
import Derived.Test.YtokdneolgolkbaaDoorM05
import Derived.ProofKit
import Derived.OpenShut
import Derived.Deep.Slices
import Derived.Deep.Fields
import Derived.SliceStrings
namespace Go.Proofs.YtokdneolgolkbaaDoor
open Go.ChangeShapes Go.WideShapes Go.ChangeAt Go.RowKit Go.Deep P06

section
variable {H : Type} {enc : TypeId × Value → H} {P : Program} {w : World} {base : Nat} {spare : Nat → Bool} {held : Bool}

theorem addr_plain {a : Addr} {v : Value} (h : w.cell? a = some v) : ∃ b o, a = ⟨b, o, none⟩ ∧ b < w.heap.size := by
  obtain ⟨b, o, s⟩ := a
  have hs : s = none := by simpa using World.cell?_spot h
  subst hs
  exact ⟨b, o, rfl, World.block_lt_of_cell? w _ h⟩

theorem open_RInts {t e : TypeId} {k : IntKind} {fuel : Nat} {v : Value} {x : DataW H × List MemPlace} (ht : P.underlying t = some (.slice e)) (he : P.underlying e = some (.int k)) (hc : P.cellsOf e = 1)
    (h : DataW.trod enc P w base spare held fuel t [v] = some x) : ∃ l : List Int, RInts w k v l ∧ ∀ z ∈ l, (Lit.int k z).wf = true := by
  rcases open_ints ht he hc h with ⟨hcs, _⟩ | ⟨a, len, cap, zs, hcs, _, hl, hm, hz, _, hcell, hwz⟩
  · obtain rfl : v = .slice none 0 0 := by simpa using hcs
    exact ⟨[], RS.none_ _ _, fun z hz => by simp at hz⟩
  · obtain rfl : v = .slice (some a) len cap := by simpa using hcs
    have hlz : len ≤ zs.length := by rw [hz]; split <;> omega
    have hlen : (zs.take len).length = len := by simp; omega
    refine ⟨zs.take len, ⟨some a, cap, by rw [hlen], by omega, hm, by simp, fun hn => ?_⟩, fun z hz => hwz z (List.mem_of_mem_take hz)⟩
    obtain ⟨b, o, rfl, hb⟩ := addr_plain (by simpa [Addr.add] using hcell 0 (by omega))
    refine ⟨b, o, rfl, hb, fun j u hu => ?_⟩
    rw [List.getElem?_map] at hu
    cases hj : (zs.take len)[j]? with
    | none => simp [hj] at hu
    | some y =>
      simp only [hj, Option.map_some, Option.some.injEq] at hu
      subst hu
      rw [List.getElem?_take] at hj
      split at hj
      · have := hcell j (by omega)
        rw [Go.WideShapes.add_plain] at this
        rw [this, List.getD_eq_getElem?_getD, hj]
        rfl
      · cases hj
theorem open_RRows {t e q : TypeId} {fuel : Nat} {v : Value} {x : DataW H × List MemPlace} (ht : P.underlying t = some (.slice e)) (he : P.underlying e = some (.slice q)) (hq : P.underlying q = some (.int .i64)) (hc : P.cellsOf e = 1) (hcq : P.cellsOf q = 1)
    (h : DataW.trod enc P w base spare held fuel t [v] = some x) : ∃ L : List (List Int), RRows w v L ∧ ∀ r ∈ L, ∀ z ∈ r, (Lit.int .i64 z).wf = true := by
  rcases open_slice1 ht hc h with ⟨hcs, _⟩ | ⟨a, len, cap, m, n, V, D, Pl, hcs, _, hl, hm, hmm, _, hcell⟩
  · obtain rfl : v = .slice none 0 0 := by simpa using hcs
    exact ⟨[], ⟨none, 0, rfl, Nat.le_refl _, by simp [maxLen], fun h => absurd h (by simp)⟩, fun r hr => by simp at hr⟩
  · obtain rfl : v = .slice (some a) len cap := by simpa using hcs
    have hlm : len ≤ m := by rw [hmm]; split <;> omega
    obtain ⟨L, hL1, hL2⟩ := list_choice (List.range len) (P := fun i (r : List Int) => RInts w .i64 (V i) r ∧ ∀ z ∈ r, (Lit.int .i64 z).wf = true) (fun i y hy => by
      have := lt_of_some hy
      rw [List.length_range] at this
      exact open_RInts he hq hcq (hcell i (by omega)).2)
    rw [List.length_range] at hL1
    refine ⟨L, ⟨some a, cap, by rw [hL1], by omega, hm, fun hn => ?_⟩, fun r hr => ?_⟩
    · obtain ⟨b, o, rfl, hb⟩ := addr_plain (by simpa [Addr.add] using (hcell 0 (by omega)).1)
      refine ⟨b, o, rfl, hb, fun i r hr => ⟨V i, (hL2 i r hr).1, ?_⟩⟩
      have := (hcell i (by have := lt_of_some hr; omega)).1
      rwa [Go.WideShapes.add_plain] at this
    · obtain ⟨i, hi⟩ := List.mem_iff_getElem?.1 hr
      exact (hL2 i r hi).2
theorem wf_W64 {z : Int} (h : (Lit.int .i64 z).wf = true) : W64 z := by
  have : -9223372036854775808 ≤ z ∧ z ≤ 9223372036854775807 := by simpa [Lit.wf, IntKind.min, IntKind.max, IntKind.signed, IntKind.bits] using h
  exact this
theorem wf_u64 {z : Int} (h : (Lit.int .u64 z).wf = true) : 0 ≤ z ∧ z < 18446744073709551616 := by
  have : 0 ≤ z ∧ z ≤ 18446744073709551615 := by simpa [Lit.wf, IntKind.min, IntKind.max, IntKind.signed, IntKind.bits] using h
  omega
theorem open_RPats {t e : TypeId} {fuel : Nat} {v : Value} {x : DataW H × List MemPlace} (ht : P.underlying t = some (.slice e)) (he : P.underlying e = some (.int .u64)) (hc : P.cellsOf e = 1)
    (h : DataW.trod enc P w base spare held fuel t [v] = some x) : ∃ l : List Nat, RPats w v l ∧ ∀ s ∈ l, s < 18446744073709551616 := by
  obtain ⟨l, h1, h2⟩ := open_RInts ht he hc h
  refine ⟨l.map Int.toNat, ?_, fun s hs => ?_⟩
  · unfold RPats
    have e : (l.map Int.toNat).map Int.ofNat = l := by
      rw [List.map_map]
      conv => rhs; rw [← List.map_id l]
      refine List.map_congr_left fun z hz => ?_
      have := wf_u64 (h2 z hz)
      exact Int.toNat_of_nonneg this.1
    rw [e]
    exact h1
  · obtain ⟨z, hz, rfl⟩ := List.mem_map.1 hs
    have := wf_u64 (h2 z hz)
    omega
theorem open_RStrs {t e : TypeId} {fuel : Nat} {v : Value} {x : DataW H × List MemPlace} (ht : P.underlying t = some (.slice e)) (he : P.underlying e = some .string) (hc : P.cellsOf e = 1)
    (h : DataW.trod enc P w base spare held fuel t [v] = some x) : ∃ l : List (List UInt8), RStrs w v l ∧ ∀ s ∈ l, s.length ≤ 9223372036854775807 := by
  rcases open_strings ht he hc h with ⟨hcs, _⟩ | ⟨a, len, cap, ss, hcs, _, hl, hm, hz, _, hcell, hsz⟩
  · obtain rfl : v = .slice none 0 0 := by simpa using hcs
    exact ⟨[], RS.none_ _ _, fun z hz => by simp at hz⟩
  · obtain rfl : v = .slice (some a) len cap := by simpa using hcs
    have hlz : len ≤ ss.length := by rw [hz]; split <;> omega
    have hlen : ((ss.take len).map fun s => s.data.toList).length = len := by simp; omega
    refine ⟨(ss.take len).map fun s => s.data.toList, ⟨some a, cap, by rw [hlen], by omega, hm, by simp, fun hn => ?_⟩, fun s hs => ?_⟩
    · rw [hlen] at hn
      have h0 : a.add 0 = a := by unfold Addr.add; split <;> simp_all
      have hc0 := hcell 0 (by omega)
      rw [h0] at hc0
      obtain ⟨b, o, rfl, hb⟩ := addr_plain hc0
      refine ⟨b, o, rfl, hb, fun j u hu => ?_⟩
      rw [List.getElem?_map, List.getElem?_map] at hu
      cases hj : (ss.take len)[j]? with
      | none => simp [hj] at hu
      | some y =>
        simp only [hj, Option.map_some, Option.some.injEq] at hu
        subst hu
        rw [List.getElem?_take] at hj
        split at hj
        · have := hcell j (by omega)
          rw [Go.WideShapes.add_plain] at this
          rw [this, List.getD_eq_getElem?_getD, hj]
          show some (Value.string y) = some (bstr y.data.toList)
          unfold bstr
          cases y
          simp
        · cases hj
    · obtain ⟨y, hy, rfl⟩ := List.mem_map.1 hs
      have h1 := hsz y (List.mem_of_mem_take hy)
      have h2 : y.data.toList.length = y.size := Array.length_toList
      simp only [maxLen] at h1
      omega
theorem open_RLines {t e q : TypeId} {fuel : Nat} {v : Value} {x : DataW H × List MemPlace} (ht : P.underlying t = some (.slice e)) (he : P.underlying e = some (.slice q)) (hq : P.underlying q = some .string) (hc : P.cellsOf e = 1) (hcq : P.cellsOf q = 1)
    (h : DataW.trod enc P w base spare held fuel t [v] = some x) : ∃ L : List (List (List UInt8)), RLines w v L ∧ ∀ r ∈ L, ∀ s ∈ r, s.length ≤ 9223372036854775807 := by
  rcases open_slice1 ht hc h with ⟨hcs, _⟩ | ⟨a, len, cap, m, n, V, D, Pl, hcs, _, hl, hm, hmm, _, hcell⟩
  · obtain rfl : v = .slice none 0 0 := by simpa using hcs
    exact ⟨[], RL.nil_ _ _ _, fun r hr => by simp at hr⟩
  · obtain rfl : v = .slice (some a) len cap := by simpa using hcs
    have hlm : len ≤ m := by rw [hmm]; split <;> omega
    obtain ⟨L, hL1, hL2⟩ := list_choice (List.range len) (P := fun i (r : List (List UInt8)) => RStrs w (V i) r ∧ ∀ s ∈ r, s.length ≤ 9223372036854775807) (fun i y hy => by
      have := lt_of_some hy
      rw [List.length_range] at this
      exact open_RStrs he hq hcq (hcell i (by omega)).2)
    rw [List.length_range] at hL1
    refine ⟨L, ⟨some a, cap, by rw [hL1], by omega, hm, fun hn => ?_⟩, fun r hr => ?_⟩
    · obtain ⟨b, o, rfl, hb⟩ := addr_plain (by simpa [Addr.add] using (hcell 0 (by omega)).1)
      refine ⟨b, o, rfl, hb, fun i r hr => ⟨[V i], rfl, ⟨V i, rfl, (hL2 i r hr).1⟩, fun j u hu => ?_⟩⟩
      have := (hcell i (by have := lt_of_some hr; omega)).1
      rw [Go.WideShapes.add_plain] at this
      match j, hu with
      | 0, hu =>
        obtain rfl : V i = u := by simpa using hu
        rw [Nat.mul_one]
        exact this
    · obtain ⟨i, hi⟩ := List.mem_iff_getElem?.1 hr
      exact (hL2 i r hi).2
end
end Go.Proofs.YtokdneolgolkbaaDoor
