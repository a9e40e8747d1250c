/- strings.Join of words; the program's Line. Condition: as in each theorem. -/
import Derived.Test.YtokdneolgolkbaaDoorShelf
import Derived.Test.YtokdneolgolkbaaDoorM05
import Derived.Test.YtokdneolgolkbaaDoorP05c
import Derived.Test.YtokdneolgolkbaaDoorB05
namespace Go.Proofs.YtokdneolgolkbaaDoor
open Go.RowKit P05

/-- strings.Join of words, with a blank between. -/
theorem join_any (v : Value) (l : List (List UInt8)) (b : UInt8) (w : World) (hl : RStrs w v l) (hn : l.length ≤ 1000000) (hlen : (joinB b l).length ≤ 100000000000000) :
    Calls Tryd.prog 23 #[v, .string ⟨#[b]⟩] w fun e w' => e = .returned (bstr (joinB b l)) ∧ Below w.heap.size w w' := by
  obtain ⟨A, c, rfl, h1, h2, h3, h4⟩ := hl
  by_cases h0 : 0 < l.length
  · obtain ⟨bk, o, rfl, hb, hc⟩ := h4 h0
    have hmap : (l.map fun x => (⟨x.toArray⟩ : ByteArray)).map (·.data.toList) = l := by
      rw [List.map_map]
      exact (List.map_congr_left fun x _ => by simp).trans (List.map_id l)
    have hj : Lib.join ((l.map fun x => (⟨x.toArray⟩ : ByteArray)).map (·.data.toList)) (⟨#[b]⟩ : ByteArray).data.toList = joinB b l := by
      rw [hmap]
      exact join_joinB b l
    have := Tryd.strings_Join bk o c (l.map fun x => (⟨x.toArray⟩ : ByteArray)) ⟨#[b]⟩ w (fun j x hx => by
      rw [List.getElem?_map, Option.map_eq_some_iff] at hx
      obtain ⟨y, hy, rfl⟩ := hx
      exact hc j _ (by rw [List.getElem?_map, hy]; rfl)) hb (by simp; omega) (by simpa using h1) (by rw [hj]; omega)
    rw [List.length_map, hj] at this
    exact this
  · obtain rfl : l = [] := List.eq_nil_of_length_eq_zero (by omega)
    exact (Tryd.strings_Join_none A c ⟨#[b]⟩ w).mono fun e w' ⟨he, hw⟩ => ⟨he, by rw [hw]; exact Below.refl _ _⟩
/-- The program's Line. -/
theorem line_any (l : List (List UInt8)) (v : Value) (w : World) (hr : RStrs w v l) (hl : l.length ≤ 1000) (hs : ∀ x ∈ l, x.length ≤ 1000) :
    Calls Tryd.prog 13 #[v] w fun e w' => e = .returned (bstr (lineP l)) ∧ Below w.heap.size w w' := by
  have hjl := joinB_len 32 1000 l hs
  have hj2 : l.length * (1000 + 1) ≤ 1000 * 1001 := Nat.mul_le_mul hl (Nat.le_refl _)
  have HC := Lib.hid (join_any v l 32 w hr (by omega) (by omega))
  have hsz : (joinB 32 l).length ≤ 100000000 := by omega
  have HE : Hid (lineP l = joinB 32 l ++ [10]) := rfl
  clear hr hl hs hjl hj2
  generalize joinB 32 l = J at HC hsz HE
  go_enter Tryd.func13, Tryd.ntmps13
  go_wp2_with fail
  refine HC.out.mono ?_
  rintro e w2 ⟨rfl, hb2⟩
  unfold bstr
  go_wp2
  go_ret
  rw [HE.out]
  exact ⟨congrArg Ending.returned (bstr_append J [10]), hb2⟩
end Go.Proofs.YtokdneolgolkbaaDoor
