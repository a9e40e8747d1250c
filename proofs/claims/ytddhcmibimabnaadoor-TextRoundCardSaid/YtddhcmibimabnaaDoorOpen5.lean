/- The arguments of the statements on texts, opened. -/
import Derived.Test.YtddhcmibimabnaaDoorOpenG
namespace Go.Proofs.YtddhcmibimabnaaDoor
open Go.ChangeShapes Go.WideShapes Go.ChangeAt Go.RowKit Go.Deep

section
variable {H : Type} {enc : TypeId × Value → H} {w : World} {base : Nat} {spare : Nat → Bool} {held : Bool}
theorem ncells : Tryd.prog.cellsOf 3 = 1 := by kernel_rfl
theorem tcells : Tryd.prog.cellsOf 9 = 1 := by kernel_rfl
theorem tscells : Tryd.prog.cellsOf 35 = 1 := by kernel_rfl
theorem open_ints_arg {r : Reach} {b0 : Nat} {v : Value} {d : DataW H} {p : List MemPlace} (hv : Value.okWide Tryd.prog w r b0 36 v) (h : DataW.Trod enc Tryd.prog w base spare held 36 v d p) :
    ∃ l : List Int, RInts w .i64 v l ∧ ∀ z ∈ l, -9223372036854775808 ≤ z ∧ z ≤ 9223372036854775807 := by
  obtain ⟨a0, len, cap, rfl⟩ := okWide_slice Tryd.underlying36 hv
  obtain ⟨fuel, hf⟩ := h
  obtain ⟨l, h1, h2⟩ := open_RInts (v := .slice a0 len cap) Tryd.underlying36 Tryd.underlying3 ncells (by simpa [Value.cells] using hf)
  exact ⟨l, h1, fun z hz => wf_W64 (h2 z hz)⟩
theorem open_strs_arg {r : Reach} {b0 : Nat} {v : Value} {d : DataW H} {p : List MemPlace} (hv : Value.okWide Tryd.prog w r b0 35 v) (h : DataW.Trod enc Tryd.prog w base spare held 35 v d p) :
    ∃ l : List (List UInt8), RStrs w v l ∧ ∀ s ∈ l, s.length ≤ 9223372036854775807 := by
  obtain ⟨a0, len, cap, rfl⟩ := okWide_slice Tryd.underlying35 hv
  obtain ⟨fuel, hf⟩ := h
  exact open_RStrs (v := .slice a0 len cap) Tryd.underlying35 Tryd.underlying9 tcells (by simpa [Value.cells] using hf)
theorem open_strss_arg {r : Reach} {b0 : Nat} {v : Value} {d : DataW H} {p : List MemPlace} (hv : Value.okWide Tryd.prog w r b0 22 v) (h : DataW.Trod enc Tryd.prog w base spare held 22 v d p) :
    ∃ L : List (List (List UInt8)), RLines w v L ∧ ∀ r ∈ L, ∀ s ∈ r, s.length ≤ 9223372036854775807 := by
  obtain ⟨a0, len, cap, rfl⟩ := okWide_slice Tryd.underlying22 hv
  obtain ⟨fuel, hf⟩ := h
  exact open_RLines (v := .slice a0 len cap) Tryd.underlying22 Tryd.underlying35 Tryd.underlying9 tscells tcells (by simpa [Value.cells] using hf)
end
end Go.Proofs.YtddhcmibimabnaaDoor
