/- Arguments opened: plans. -/
import Derived.Test.YtokdneolgolkbaaDoorOpenG
import Derived.Test.YtokdneolgolkbaaDoorM08
namespace Go.Proofs.YtokdneolgolkbaaDoor
set_option maxRecDepth 100000
open Go.ChangeShapes Go.WideShapes Go.ChangeAt Go.RowKit Go.Deep P08

section
variable {H : Type} {enc : TypeId × Value → H} {w : World} {base : Nat} {spare : Nat → Bool} {held : Bool}
/-- A slice, whatever its elements read as. -/
theorem open_RL {P : Program} {α : Type} {size : Nat} {R : World → List Value → α → Prop} {G : α → Prop} {t e : TypeId} {fuel : Nat} {v : Value} {x : DataW H × List MemPlace} (ht : P.underlying t = some (.slice e)) (hc : P.cellsOf e = size) (h0 : 0 < size)
    (hel : ∀ n cs y, DataW.trod enc P w base spare held n e cs = some y → ∃ z, R w cs z ∧ cs.length = size ∧ G z)
    (h : DataW.trod enc P w base spare held fuel t [v] = some x) : ∃ L : List α, RL size R w v L ∧ ∀ z ∈ L, G z := by
  rcases open_slice ht h with ⟨hcs, _⟩ | ⟨a, len, cap, m, n, D, Pl, hcs, _, hl, hm, hmm, _, hcell⟩
  · obtain rfl : v = .slice none 0 0 := by simpa using hcs
    exact ⟨[], RL.nil_ _ _ _, fun r hr => by simp at hr⟩
  · obtain rfl : v = .slice (some a) len cap := by simpa using hcs
    have hlm : len ≤ m := by rw [hmm]; split <;> omega
    rw [hc] at hcell
    obtain ⟨L, hL1, hL2⟩ := list_choice (List.range len) (P := fun i (z : α) => (∃ cs : List Value, cs.length = size ∧ R w cs z ∧ ∀ j u, cs[j]? = some u → w.cell? ((a.add (i * size)).add j) = some u) ∧ G z) (fun i y hy => by
      have hlt := lt_of_some hy
      rw [List.length_range] at hlt
      obtain ⟨cs', h1, h2⟩ := hcell i (by omega)
      obtain ⟨z, hz1, hz2, hz3⟩ := hel _ _ _ h2
      obtain ⟨_, _, h3⟩ := World.cells?_some h1
      exact ⟨z, ⟨cs', hz2, hz1, fun j u hu => (h3 j (by have := lt_of_some hu; omega)).trans hu⟩, hz3⟩)
    rw [List.length_range] at hL1
    refine ⟨L, ⟨some a, cap, by rw [hL1], by omega, hm, fun hn => ?_⟩, fun r hr => ?_⟩
    · obtain ⟨y0, hy0⟩ := some_of_lt hn
      obtain ⟨⟨cs0, hl0, _, hc0⟩, _⟩ := hL2 0 y0 hy0
      obtain ⟨u0, hu0⟩ := some_of_lt (l := cs0) (i := 0) (by omega)
      obtain ⟨b, o, rfl, hb⟩ := addr_plain (by simpa [Addr.add] using hc0 0 _ hu0)
      refine ⟨b, o, rfl, hb, fun i y hy => ?_⟩
      obtain ⟨⟨cs, hl1, hr, hc⟩, _⟩ := hL2 i y hy
      refine ⟨cs, hl1, hr, fun j u hu => ?_⟩
      have := hc j u hu
      rwa [Go.WideShapes.add_plain, Go.WideShapes.add_plain] at this
    · obtain ⟨i, hi⟩ := List.mem_iff_getElem?.1 hr
      exact (hL2 i r hi).2
theorem n8cells : Tryd.prog.cellsOf 3 = 1 := by kernel_rfl
theorem st8cells : Tryd.prog.cellsOf 43 = 2 := by kernel_rfl
theorem sl8cells : Tryd.prog.cellsOf 39 = 1 := by kernel_rfl
theorem tr8cells : Tryd.prog.cellsOf 41 = 1 := by kernel_rfl
theorem tl8cells : Tryd.prog.cellsOf 36 = 1 := by kernel_rfl
theorem dy8cells : Tryd.prog.cellsOf 38 = 1 := by kernel_rfl
theorem dl8cells : Tryd.prog.cellsOf 22 = 1 := by kernel_rfl
theorem pl8cells : Tryd.prog.cellsOf 24 = 1 := by kernel_rfl
theorem open_stop (n : Nat) (cs : List Value) (y : DataW H × List MemPlace) (h : DataW.trod enc Tryd.prog w base spare held n 43 cs = some y) : ∃ s : Stp, RStop w cs s ∧ cs.length = 2 ∧ W64s s := by
  obtain ⟨xs, n, _, _, hl, hxl, hg⟩ := DataW.trod_struct Tryd.underlying43 h
  rw [st8cells] at hl
  match cs, hl, xs, hxl with
  | [c0, c1], _, [x0, x1], _ =>
    have g0 : DataW.trod enc Tryd.prog w base spare held n 3 [c0] = some x0 := by simpa [n8cells] using hg 0 _ rfl
    have g1 : DataW.trod enc Tryd.prog w base spare held n 3 [c1] = some x1 := by simpa [n8cells] using hg 1 _ rfl
    obtain ⟨z0, e0, -, w0⟩ := DataW.trod_int Tryd.underlying3 g0
    obtain ⟨z1, e1, -, w1⟩ := DataW.trod_int Tryd.underlying3 g1
    obtain rfl : c0 = _ := by simpa using e0
    obtain rfl : c1 = _ := by simpa using e1
    exact ⟨(z0, z1), rfl, rfl, wf_W64 w0, wf_W64 w1⟩
theorem open_tour (n : Nat) (cs : List Value) (y : DataW H × List MemPlace) (h : DataW.trod enc Tryd.prog w base spare held n 41 cs = some y) : ∃ t : Tr, RTour w cs t ∧ cs.length = 1 ∧ ∀ s ∈ t, W64s s := by
  obtain ⟨xs, n, _, _, hl, hxl, hg⟩ := DataW.trod_struct Tryd.underlying41 h
  rw [tr8cells] at hl
  match cs, hl, xs, hxl with
  | [c0], _, [x0], _ =>
    have g0 : DataW.trod enc Tryd.prog w base spare held n 39 [c0] = some x0 := by simpa [sl8cells] using hg 0 _ rfl
    obtain ⟨L, h1, h2⟩ := open_RL (R := RStop) (G := W64s) Tryd.underlying39 st8cells (by decide) open_stop g0
    exact ⟨L, ⟨c0, rfl, h1⟩, rfl, h2⟩
theorem open_day (n : Nat) (cs : List Value) (y : DataW H × List MemPlace) (h : DataW.trod enc Tryd.prog w base spare held n 38 cs = some y) : ∃ d : Dy, RDay w cs d ∧ cs.length = 1 ∧ ∀ t ∈ d, ∀ s ∈ t, W64s s := by
  obtain ⟨xs, n, _, _, hl, hxl, hg⟩ := DataW.trod_struct Tryd.underlying38 h
  rw [dy8cells] at hl
  match cs, hl, xs, hxl with
  | [c0], _, [x0], _ =>
    have g0 : DataW.trod enc Tryd.prog w base spare held n 36 [c0] = some x0 := by simpa [tl8cells] using hg 0 _ rfl
    obtain ⟨L, h1, h2⟩ := open_RL (R := RTour) (G := fun t => ∀ s ∈ t, W64s s) Tryd.underlying36 tr8cells (by decide) open_tour g0
    exact ⟨L, ⟨c0, rfl, h1⟩, rfl, h2⟩
theorem open_plan_arg {r : Reach} {b0 : Nat} {v : Value} {d : DataW H} {p : List MemPlace} (hv : Value.okWide Tryd.prog w r b0 24 v) (h : DataW.Trod enc Tryd.prog w base spare held 24 v d p) :
    ∃ x : Pl, RPlan w v x ∧ Wf x := by
  obtain ⟨cs, rfl, hsz⟩ := okWide_struct Tryd.underlying24 hv
  obtain ⟨l⟩ := cs
  rw [pl8cells] at hsz
  match l, hsz with
  | [c0], _ =>
    obtain ⟨fuel, hf⟩ := h
    obtain ⟨xs, n, _, _, hl, hxl, hg⟩ := DataW.trod_struct Tryd.underlying24 hf
    match xs, hxl with
    | [x0], _ =>
      have g0 : DataW.trod enc Tryd.prog w base spare held n 22 [c0] = some x0 := by simpa [dl8cells, Value.cells] using hg 0 _ rfl
      obtain ⟨L, h1, h2⟩ := open_RL (R := RDay) (G := fun d => ∀ t ∈ d, ∀ s ∈ t, W64s s) Tryd.underlying22 dy8cells (by decide) open_day g0
      exact ⟨L, ⟨c0, rfl, h1⟩, h2⟩
end
end Go.Proofs.YtokdneolgolkbaaDoor
