/-
  Arguments opened, whatever the types' numbers: lists of numbers, of such lists, of strings.
  Arguments opened: what comes in reads as numbers, lists and instances.
-/
import Derived.Test.YtigljnnjamdcnaaDoorRows
import Derived.Test.YtigljnnjamdcnaaDoorQD
import Derived.ProofKit
import Derived.OpenShut
import Derived.Deep.Slices
import Derived.Deep.Fields
import Derived.SliceStrings
namespace Go.Proofs.YtigljnnjamdcnaaDoor
open Go.ChangeShapes Go.WideShapes Go.ChangeAt Go.RowKit Go.Deep P06

section
variable {H : Type} {enc : TypeId × Value → H} {P : Program} {w : World} {base : Nat} {spare : Nat → Bool} {held : Bool}

theorem addr_plain {a : Addr} {v : Value} (h : w.cell? a = some v) : ∃ b o, a = ⟨b, o, none⟩ ∧ b < w.heap.size := by
  obtain ⟨b, o, s⟩ := a
  have hs : s = none := by simpa using World.cell?_spot h
  subst hs
  exact ⟨b, o, rfl, World.block_lt_of_cell? w _ h⟩

theorem open_RInts {t e : TypeId} {k : IntKind} {fuel : Nat} {v : Value} {x : DataW H × List MemPlace} (ht : P.underlying t = some (.slice e)) (he : P.underlying e = some (.int k)) (hc : P.cellsOf e = 1)
    (h : DataW.trod enc P w base spare held fuel t [v] = some x) : ∃ l : List Int, RInts w k v l ∧ ∀ z ∈ l, (Lit.int k z).wf = true := by
  rcases open_ints ht he hc h with ⟨hcs, _⟩ | ⟨a, len, cap, zs, hcs, _, hl, hm, hz, _, hcell, hwz⟩
  · obtain rfl : v = .slice none 0 0 := by simpa using hcs
    exact ⟨[], RS.none_ _ _, fun z hz => by simp at hz⟩
  · obtain rfl : v = .slice (some a) len cap := by simpa using hcs
    have hlz : len ≤ zs.length := by rw [hz]; split <;> omega
    have hlen : (zs.take len).length = len := by simp; omega
    refine ⟨zs.take len, ⟨some a, cap, by rw [hlen], by omega, hm, by simp, fun hn => ?_⟩, fun z hz => hwz z (List.mem_of_mem_take hz)⟩
    obtain ⟨b, o, rfl, hb⟩ := addr_plain (by simpa [Addr.add] using hcell 0 (by omega))
    refine ⟨b, o, rfl, hb, fun j u hu => ?_⟩
    rw [List.getElem?_map] at hu
    cases hj : (zs.take len)[j]? with
    | none => simp [hj] at hu
    | some y =>
      simp only [hj, Option.map_some, Option.some.injEq] at hu
      subst hu
      rw [List.getElem?_take] at hj
      split at hj
      · have := hcell j (by omega)
        rw [Go.WideShapes.add_plain] at this
        rw [this, List.getD_eq_getElem?_getD, hj]
        rfl
      · cases hj
theorem open_RRows {t e q : TypeId} {fuel : Nat} {v : Value} {x : DataW H × List MemPlace} (ht : P.underlying t = some (.slice e)) (he : P.underlying e = some (.slice q)) (hq : P.underlying q = some (.int .i64)) (hc : P.cellsOf e = 1) (hcq : P.cellsOf q = 1)
    (h : DataW.trod enc P w base spare held fuel t [v] = some x) : ∃ L : List (List Int), RRows w v L ∧ ∀ r ∈ L, ∀ z ∈ r, (Lit.int .i64 z).wf = true := by
  rcases open_slice1 ht hc h with ⟨hcs, _⟩ | ⟨a, len, cap, m, n, V, D, Pl, hcs, _, hl, hm, hmm, _, hcell⟩
  · obtain rfl : v = .slice none 0 0 := by simpa using hcs
    exact ⟨[], ⟨none, 0, rfl, Nat.le_refl _, by simp [maxLen], fun h => absurd h (by simp)⟩, fun r hr => by simp at hr⟩
  · obtain rfl : v = .slice (some a) len cap := by simpa using hcs
    have hlm : len ≤ m := by rw [hmm]; split <;> omega
    obtain ⟨L, hL1, hL2⟩ := list_choice (List.range len) (P := fun i (r : List Int) => RInts w .i64 (V i) r ∧ ∀ z ∈ r, (Lit.int .i64 z).wf = true) (fun i y hy => by
      have := lt_of_some hy
      rw [List.length_range] at this
      exact open_RInts he hq hcq (hcell i (by omega)).2)
    rw [List.length_range] at hL1
    refine ⟨L, ⟨some a, cap, by rw [hL1], by omega, hm, fun hn => ?_⟩, fun r hr => ?_⟩
    · obtain ⟨b, o, rfl, hb⟩ := addr_plain (by simpa [Addr.add] using (hcell 0 (by omega)).1)
      refine ⟨b, o, rfl, hb, fun i r hr => ⟨V i, (hL2 i r hr).1, ?_⟩⟩
      have := (hcell i (by have := lt_of_some hr; omega)).1
      rwa [Go.WideShapes.add_plain] at this
    · obtain ⟨i, hi⟩ := List.mem_iff_getElem?.1 hr
      exact (hL2 i r hi).2
theorem wf_W64 {z : Int} (h : (Lit.int .i64 z).wf = true) : W64 z := by
  have : -9223372036854775808 ≤ z ∧ z ≤ 9223372036854775807 := by simpa [Lit.wf, IntKind.min, IntKind.max, IntKind.signed, IntKind.bits] using h
  exact this
theorem wf_u64 {z : Int} (h : (Lit.int .u64 z).wf = true) : 0 ≤ z ∧ z < 18446744073709551616 := by
  have : 0 ≤ z ∧ z ≤ 18446744073709551615 := by simpa [Lit.wf, IntKind.min, IntKind.max, IntKind.signed, IntKind.bits] using h
  omega
theorem open_RPats {t e : TypeId} {fuel : Nat} {v : Value} {x : DataW H × List MemPlace} (ht : P.underlying t = some (.slice e)) (he : P.underlying e = some (.int .u64)) (hc : P.cellsOf e = 1)
    (h : DataW.trod enc P w base spare held fuel t [v] = some x) : ∃ l : List Nat, RPats w v l ∧ ∀ s ∈ l, s < 18446744073709551616 := by
  obtain ⟨l, h1, h2⟩ := open_RInts ht he hc h
  refine ⟨l.map Int.toNat, ?_, fun s hs => ?_⟩
  · unfold RPats
    have e : (l.map Int.toNat).map Int.ofNat = l := by
      rw [List.map_map]
      conv => rhs; rw [← List.map_id l]
      refine List.map_congr_left fun z hz => ?_
      have := wf_u64 (h2 z hz)
      exact Int.toNat_of_nonneg this.1
    rw [e]
    exact h1
  · obtain ⟨z, hz, rfl⟩ := List.mem_map.1 hs
    have := wf_u64 (h2 z hz)
    omega
theorem open_RStrs {t e : TypeId} {fuel : Nat} {v : Value} {x : DataW H × List MemPlace} (ht : P.underlying t = some (.slice e)) (he : P.underlying e = some .string) (hc : P.cellsOf e = 1)
    (h : DataW.trod enc P w base spare held fuel t [v] = some x) : ∃ l : List (List UInt8), RStrs w v l ∧ ∀ s ∈ l, s.length ≤ 9223372036854775807 := by
  rcases open_strings ht he hc h with ⟨hcs, _⟩ | ⟨a, len, cap, ss, hcs, _, hl, hm, hz, _, hcell, hsz⟩
  · obtain rfl : v = .slice none 0 0 := by simpa using hcs
    exact ⟨[], RS.none_ _ _, fun z hz => by simp at hz⟩
  · obtain rfl : v = .slice (some a) len cap := by simpa using hcs
    have hlz : len ≤ ss.length := by rw [hz]; split <;> omega
    have hlen : ((ss.take len).map fun s => s.data.toList).length = len := by simp; omega
    refine ⟨(ss.take len).map fun s => s.data.toList, ⟨some a, cap, by rw [hlen], by omega, hm, by simp, fun hn => ?_⟩, fun s hs => ?_⟩
    · rw [hlen] at hn
      have h0 : a.add 0 = a := by unfold Addr.add; split <;> simp_all
      have hc0 := hcell 0 (by omega)
      rw [h0] at hc0
      obtain ⟨b, o, rfl, hb⟩ := addr_plain hc0
      refine ⟨b, o, rfl, hb, fun j u hu => ?_⟩
      rw [List.getElem?_map, List.getElem?_map] at hu
      cases hj : (ss.take len)[j]? with
      | none => simp [hj] at hu
      | some y =>
        simp only [hj, Option.map_some, Option.some.injEq] at hu
        subst hu
        rw [List.getElem?_take] at hj
        split at hj
        · have := hcell j (by omega)
          rw [Go.WideShapes.add_plain] at this
          rw [this, List.getD_eq_getElem?_getD, hj]
          show some (Value.string y) = some (bstr y.data.toList)
          unfold bstr
          cases y
          simp
        · cases hj
    · obtain ⟨y, hy, rfl⟩ := List.mem_map.1 hs
      have h1 := hsz y (List.mem_of_mem_take hy)
      have h2 : y.data.toList.length = y.size := Array.length_toList
      simp only [maxLen] at h1
      omega
theorem open_RLines {t e q : TypeId} {fuel : Nat} {v : Value} {x : DataW H × List MemPlace} (ht : P.underlying t = some (.slice e)) (he : P.underlying e = some (.slice q)) (hq : P.underlying q = some .string) (hc : P.cellsOf e = 1) (hcq : P.cellsOf q = 1)
    (h : DataW.trod enc P w base spare held fuel t [v] = some x) : ∃ L : List (List (List UInt8)), RLines w v L ∧ ∀ r ∈ L, ∀ s ∈ r, s.length ≤ 9223372036854775807 := by
  rcases open_slice1 ht hc h with ⟨hcs, _⟩ | ⟨a, len, cap, m, n, V, D, Pl, hcs, _, hl, hm, hmm, _, hcell⟩
  · obtain rfl : v = .slice none 0 0 := by simpa using hcs
    exact ⟨[], RL.nil_ _ _ _, fun r hr => by simp at hr⟩
  · obtain rfl : v = .slice (some a) len cap := by simpa using hcs
    have hlm : len ≤ m := by rw [hmm]; split <;> omega
    obtain ⟨L, hL1, hL2⟩ := list_choice (List.range len) (P := fun i (r : List (List UInt8)) => RStrs w (V i) r ∧ ∀ s ∈ r, s.length ≤ 9223372036854775807) (fun i y hy => by
      have := lt_of_some hy
      rw [List.length_range] at this
      exact open_RStrs he hq hcq (hcell i (by omega)).2)
    rw [List.length_range] at hL1
    refine ⟨L, ⟨some a, cap, by rw [hL1], by omega, hm, fun hn => ?_⟩, fun r hr => ?_⟩
    · obtain ⟨b, o, rfl, hb⟩ := addr_plain (by simpa [Addr.add] using (hcell 0 (by omega)).1)
      refine ⟨b, o, rfl, hb, fun i r hr => ⟨[V i], rfl, ⟨V i, rfl, (hL2 i r hr).1⟩, fun j u hu => ?_⟩⟩
      have := (hcell i (by have := lt_of_some hr; omega)).1
      rw [Go.WideShapes.add_plain] at this
      match j, hu with
      | 0, hu =>
        obtain rfl : V i = u := by simpa using hu
        rw [Nat.mul_one]
        exact this
    · obtain ⟨i, hi⟩ := List.mem_iff_getElem?.1 hr
      exact (hL2 i r hi).2
end
end Go.Proofs.YtigljnnjamdcnaaDoor

namespace Go.Proofs.YtigljnnjamdcnaaDoor
open Go.ChangeShapes Go.WideShapes Go.ChangeAt Go.RowKit Go.Deep P06

section
variable {H : Type} {enc : TypeId × Value → H} {w : World} {base : Nat} {spare : Nat → Bool} {held : Bool}
theorem ccells : Tryd.prog.cellsOf 41 = 8 := by kernel_rfl
theorem icells : Tryd.prog.cellsOf 25 = 6 := by kernel_rfl
theorem scells : Tryd.prog.cellsOf 43 = 1 := by kernel_rfl
theorem ncells : Tryd.prog.cellsOf 3 = 1 := by kernel_rfl
theorem ucells : Tryd.prog.cellsOf 68 = 1 := by kernel_rfl
theorem pcells : Tryd.prog.cellsOf 39 = 1 := by kernel_rfl
theorem lcells : Tryd.prog.cellsOf 22 = 1 := by kernel_rfl
theorem dcells : Tryd.prog.cellsOf 23 = 1 := by kernel_rfl

set_option maxRecDepth 100000 in
theorem open_cust {fuel : Nat} {cs : List Value} {x : DataW H × List MemPlace} (h : DataW.trod enc Tryd.prog w base spare held fuel 41 cs = some x) :
    ∃ (y : Cust) (pv : Value), cs = [.int .i64 y.kind, .int .i64 y.demand, pv, .int .i64 y.rate, .int .i64 y.size, .int .i64 y.start, .int .i64 y.rule, .int .i64 y.hold] ∧ RPats w pv y.pats ∧ y.wf := by
  obtain ⟨xs, n, _, _, hl, hxl, hg⟩ := DataW.trod_struct Tryd.underlying41 h
  rw [ccells] at hl
  match cs, hl, xs, hxl with
  | [c0, c1, c2, c3, c4, c5, c6, c7], _, [x0, x1, x2, x3, x4, x5, x6, x7], _ =>
    have g0 : DataW.trod enc Tryd.prog w base spare held n 3 [c0] = some x0 := by simpa [ncells] using hg 0 _ rfl
    have g1 : DataW.trod enc Tryd.prog w base spare held n 3 [c1] = some x1 := by simpa [ncells] using hg 1 _ rfl
    have g2 : DataW.trod enc Tryd.prog w base spare held n 39 [c2] = some x2 := by simpa [pcells] using hg 2 _ rfl
    have g3 : DataW.trod enc Tryd.prog w base spare held n 3 [c3] = some x3 := by simpa [ncells] using hg 3 _ rfl
    have g4 : DataW.trod enc Tryd.prog w base spare held n 3 [c4] = some x4 := by simpa [ncells] using hg 4 _ rfl
    have g5 : DataW.trod enc Tryd.prog w base spare held n 3 [c5] = some x5 := by simpa [ncells] using hg 5 _ rfl
    have g6 : DataW.trod enc Tryd.prog w base spare held n 3 [c6] = some x6 := by simpa [ncells] using hg 6 _ rfl
    have g7 : DataW.trod enc Tryd.prog w base spare held n 3 [c7] = some x7 := by simpa [ncells] using hg 7 _ rfl
    obtain ⟨z0, e0, -, w0⟩ := DataW.trod_int Tryd.underlying3 g0
    obtain ⟨z1, e1, -, w1⟩ := DataW.trod_int Tryd.underlying3 g1
    obtain ⟨z3, e3, -, w3⟩ := DataW.trod_int Tryd.underlying3 g3
    obtain ⟨z4, e4, -, w4⟩ := DataW.trod_int Tryd.underlying3 g4
    obtain ⟨z5, e5, -, w5⟩ := DataW.trod_int Tryd.underlying3 g5
    obtain ⟨z6, e6, -, w6⟩ := DataW.trod_int Tryd.underlying3 g6
    obtain ⟨z7, e7, -, w7⟩ := DataW.trod_int Tryd.underlying3 g7
    obtain ⟨l, hp, hw⟩ := open_RPats Tryd.underlying39 Tryd.underlying68 ucells g2
    obtain rfl : c0 = _ := by simpa using e0
    obtain rfl : c1 = _ := by simpa using e1
    obtain rfl : c3 = _ := by simpa using e3
    obtain rfl : c4 = _ := by simpa using e4
    obtain rfl : c5 = _ := by simpa using e5
    obtain rfl : c6 = _ := by simpa using e6
    obtain rfl : c7 = _ := by simpa using e7
    exact ⟨⟨z0, z1, l, z3, z4, z5, z6, z7⟩, c2, rfl, hp, wf_W64 w0, wf_W64 w1, hw, wf_W64 w3, wf_W64 w4, wf_W64 w5, wf_W64 w6, wf_W64 w7⟩

set_option maxRecDepth 100000 in
theorem open_RCusts {fuel : Nat} {v : Value} {x : DataW H × List MemPlace} (h : DataW.trod enc Tryd.prog w base spare held fuel 22 [v] = some x) : ∃ L : List Cust, RCusts w v L ∧ ∀ c ∈ L, c.wf := by
  rcases open_slice Tryd.underlying22 h with ⟨hcs, _⟩ | ⟨a, len, cap, m, n, D, Pl, hcs, _, hl, hm, hmm, _, hcell⟩
  · obtain rfl : v = .slice none 0 0 := by simpa using hcs
    exact ⟨[], ⟨none, 0, rfl, Nat.le_refl _, by simp [maxLen], fun h => absurd h (by simp)⟩, fun r hr => by simp at hr⟩
  · obtain rfl : v = .slice (some a) len cap := by simpa using hcs
    have hlm : len ≤ m := by rw [hmm]; split <;> omega
    rw [ccells] at hcell
    obtain ⟨L, hL1, hL2⟩ := list_choice (List.range len) (P := fun i (y : Cust) => (∃ pv : Value, RPats w pv y.pats ∧
        ∀ j u, (custCells y pv)[j]? = some u → w.cell? ((a.add (i * 8)).add j) = some u) ∧ y.wf) (fun i y hy => by
      have hlt := lt_of_some hy
      rw [List.length_range] at hlt
      obtain ⟨cs', h1, h2⟩ := hcell i (by omega)
      obtain ⟨y, pv, rfl, hp, hw⟩ := open_cust h2
      obtain ⟨_, _, h3⟩ := World.cells?_some h1
      exact ⟨y, ⟨pv, hp, fun j u hu => (h3 j (by have := lt_of_some hu; simpa [custCells] using this)).trans hu⟩, hw⟩)
    rw [List.length_range] at hL1
    refine ⟨L, ⟨some a, cap, by rw [hL1], by omega, hm, fun hn => ?_⟩, fun r hr => ?_⟩
    · obtain ⟨y0, hy0⟩ := some_of_lt hn
      obtain ⟨⟨pv0, _, hc0⟩, _⟩ := hL2 0 y0 hy0
      obtain ⟨b, o, rfl, hb⟩ := addr_plain (by simpa [Addr.add] using hc0 0 _ rfl)
      refine ⟨b, o, rfl, hb, fun i y hy => ?_⟩
      obtain ⟨⟨pv, hp, hc⟩, _⟩ := hL2 i y hy
      have hk : ∀ j u, (custCells y pv)[j]? = some u → w.cell? ⟨b, o + i * 8 + j, none⟩ = some u := fun j u hu => by
        have := hc j u hu
        rwa [Go.WideShapes.add_plain, Go.WideShapes.add_plain] at this
      exact ⟨pv, hp, hk 0 _ rfl, hk 1 _ rfl, hk 2 _ rfl, hk 3 _ rfl, hk 4 _ rfl, hk 5 _ rfl, hk 6 _ rfl, hk 7 _ rfl⟩
    · obtain ⟨i, hi⟩ := List.mem_iff_getElem?.1 hr
      exact (hL2 i r hi).2

set_option maxRecDepth 100000 in
theorem open_ints_arg {r : Reach} {b0 : Nat} {v : Value} {d : DataW H} {p : List MemPlace} (hv : Value.okWide Tryd.prog w r b0 43 v) (h : DataW.Trod enc Tryd.prog w base spare held 43 v d p) :
    ∃ l : List Int, RInts w .i64 v l ∧ ∀ z ∈ l, W64 z := by
  obtain ⟨a0, len, cap, rfl⟩ := okWide_slice Tryd.underlying43 hv
  obtain ⟨fuel, hf⟩ := h
  obtain ⟨l, h1, h2⟩ := open_RInts (v := .slice a0 len cap) Tryd.underlying43 Tryd.underlying3 ncells (by simpa [Value.cells] using hf)
  exact ⟨l, h1, fun z hz => wf_W64 (h2 z hz)⟩

set_option maxRecDepth 100000 in
theorem open_inst {r : Reach} {b0 : Nat} {v : Value} {d : DataW H} {p : List MemPlace} (hv : Value.okWide Tryd.prog w r b0 25 v) (h : DataW.Trod enc Tryd.prog w base spare held 25 v d p) :
    ∃ x : Inst, RInst w v x ∧ x.wf := by
  obtain ⟨cs, rfl, hsz⟩ := okWide_struct Tryd.underlying25 hv
  obtain ⟨l⟩ := cs
  rw [icells] at hsz
  match l, hsz with
  | [c0, c1, c2, c3, c4, c5], _ =>
    obtain ⟨fuel, hf⟩ := h
    obtain ⟨xs, n, _, _, hl, hxl, hg⟩ := DataW.trod_struct Tryd.underlying25 hf
    match xs, hxl with
    | [x0, x1, x2, x3, x4, x5], _ =>
      have g0 : DataW.trod enc Tryd.prog w base spare held n 3 [c0] = some x0 := by simpa [ncells, Value.cells] using hg 0 _ rfl
      have g1 : DataW.trod enc Tryd.prog w base spare held n 3 [c1] = some x1 := by simpa [ncells, Value.cells] using hg 1 _ rfl
      have g2 : DataW.trod enc Tryd.prog w base spare held n 3 [c2] = some x2 := by simpa [ncells, Value.cells] using hg 2 _ rfl
      have g3 : DataW.trod enc Tryd.prog w base spare held n 3 [c3] = some x3 := by simpa [ncells, Value.cells] using hg 3 _ rfl
      have g4 : DataW.trod enc Tryd.prog w base spare held n 22 [c4] = some x4 := by simpa [lcells, Value.cells] using hg 4 _ rfl
      have g5 : DataW.trod enc Tryd.prog w base spare held n 23 [c5] = some x5 := by simpa [dcells, Value.cells] using hg 5 _ rfl
      obtain ⟨z0, e0, -, w0⟩ := DataW.trod_int Tryd.underlying3 g0
      obtain ⟨z1, e1, -, w1⟩ := DataW.trod_int Tryd.underlying3 g1
      obtain ⟨z2, e2, -, w2⟩ := DataW.trod_int Tryd.underlying3 g2
      obtain ⟨z3, e3, -, w3⟩ := DataW.trod_int Tryd.underlying3 g3
      obtain rfl : c0 = _ := by simpa using e0
      obtain rfl : c1 = _ := by simpa using e1
      obtain rfl : c2 = _ := by simpa using e2
      obtain rfl : c3 = _ := by simpa using e3
      obtain ⟨L, hL, hLw⟩ := open_RCusts (v := c4) g4
      obtain ⟨D, hD, hDw⟩ := open_RRows (v := c5) Tryd.underlying23 Tryd.underlying43 Tryd.underlying3 scells ncells g5
      exact ⟨⟨z0, z1, z2, z3, L, D⟩, ⟨c4, c5, rfl, hL, hD⟩, wf_W64 w0, wf_W64 w1, wf_W64 w2, wf_W64 w3, hLw, fun r hr z hz => wf_W64 (hDw r hr z hz)⟩
end
end Go.Proofs.YtigljnnjamdcnaaDoor
