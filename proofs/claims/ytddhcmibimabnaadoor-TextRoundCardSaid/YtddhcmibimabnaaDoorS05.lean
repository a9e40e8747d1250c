/- What the library does that the texts' layer calls. Condition: as in each theorem. -/
import Derived.Test.YtddhcmibimabnaaDoorShelf
import Derived.Test.YtddhcmibimabnaaDoorM05
import Derived.Test.YtddhcmibimabnaaDoorP05c
namespace Go.Proofs.YtddhcmibimabnaaDoor
open Go.RowKit P05

theorem mk_data (s : ByteArray) : (⟨s.data.toList.toArray⟩ : ByteArray) = s := by cases s; simp

/-- strings.Cut at a line's end. -/
theorem cut_any (s sep : ByteArray) (m : Int) (w : World) (hs : s.size < 4294967281) (hm : w.cell? ⟨0, 0, none⟩ = some (.int .i64 m)) :
    Calls Tryd.prog 22 #[.string s, .string sep] w fun e w' => e = .returned (.tuple #[.string ⟨(Lib.cut s.data.toList sep.data.toList).1.toArray⟩, .string ⟨(Lib.cut s.data.toList sep.data.toList).2.1.toArray⟩, .bool (Lib.cut s.data.toList sep.data.toList).2.2]) ∧ ∃ n, w' = w.drewN n :=
  Tryd.strings_Cut s sep m w hs hm
theorem splitB_map (c : UInt8) (s : ByteArray) : (Lib.splitB ⟨#[c]⟩ 0 (Lib.countB s ⟨#[c]⟩) s).map Value.string = (pieces c s.data.toList).map bstr := by
  rw [← splitB_pieces, List.map_map]
  refine List.map_congr_left fun x _ => ?_
  show Value.string x = bstr x.data.toList
  unfold bstr
  rw [mk_data]
theorem pieces_len (c : UInt8) (s : ByteArray) : (pieces c s.data.toList).length = Lib.countB s ⟨#[c]⟩ + 1 := by
  rw [← splitB_pieces, List.length_map, Lib.splitB_all ⟨#[c]⟩ (Nat.le_refl 1) 0 _ s rfl]
/-- strings.Split at a separator of one byte. -/
theorem split_any (s : ByteArray) (c : UInt8) (m : Int) (w : World) (hs : s.size < 4294967281) (hm : w.cell? ⟨0, 0, none⟩ = some (.int .i64 m)) :
    Calls Tryd.prog 23 #[.string s, .string ⟨#[c]⟩] w fun e w' => e = .returned (.slice (some ⟨w.heap.size, 0, none⟩) (pieces c s.data.toList).length (pieces c s.data.toList).length) ∧ w' = w.alloc (.cells ((pieces c s.data.toList).map bstr).toArray 9) := by
  refine (Tryd.strings_Split s ⟨#[c]⟩ m w hs hm (Nat.le_refl 1)).mono fun e w' ⟨he, hw⟩ => ⟨?_, ?_⟩
  · rw [he, pieces_len]
  · rw [hw, splitB_map]
/-- strings.Join of words, with a blank between. -/
theorem join_any (v : Value) (l : List (List UInt8)) (b : UInt8) (w : World) (hl : RStrs w v l) (hn : l.length ≤ 1000000) (hlen : (joinB b l).length ≤ 100000000000000) :
    Calls Tryd.prog 28 #[v, .string ⟨#[b]⟩] w fun e w' => e = .returned (bstr (joinB b l)) ∧ Below w.heap.size w w' := by
  obtain ⟨A, c, rfl, h1, h2, h3, h4⟩ := hl
  by_cases h0 : 0 < l.length
  · obtain ⟨bk, o, rfl, hb, hc⟩ := h4 h0
    have hmap : (l.map fun x => (⟨x.toArray⟩ : ByteArray)).map (·.data.toList) = l := by
      rw [List.map_map]
      exact (List.map_congr_left fun x _ => by simp).trans (List.map_id l)
    have hj : Lib.join ((l.map fun x => (⟨x.toArray⟩ : ByteArray)).map (·.data.toList)) (⟨#[b]⟩ : ByteArray).data.toList = joinB b l := by
      rw [hmap]
      exact join_joinB b l
    have := Tryd.strings_Join bk o c (l.map fun x => (⟨x.toArray⟩ : ByteArray)) ⟨#[b]⟩ w (fun j x hx => by
      rw [List.getElem?_map, Option.map_eq_some_iff] at hx
      obtain ⟨y, hy, rfl⟩ := hx
      exact hc j _ (by rw [List.getElem?_map, hy]; rfl)) hb (by simp; omega) (by simpa using h1) (by rw [hj]; omega)
    rw [List.length_map, hj] at this
    exact this
  · obtain rfl : l = [] := List.eq_nil_of_length_eq_zero (by omega)
    exact (Tryd.strings_Join_none A c ⟨#[b]⟩ w).mono fun e w' ⟨he, hw⟩ => ⟨he, by rw [hw]; exact Below.refl _ _⟩
end Go.Proofs.YtddhcmibimabnaaDoor
