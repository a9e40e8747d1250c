/- What the library does that the texts' layer calls. Condition: as in each theorem. -/
import Derived.Test.YtokdneolgolkbaaDoorShelf
import Derived.Test.YtokdneolgolkbaaDoorM05
import Derived.Test.YtokdneolgolkbaaDoorP05c
import Derived.Test.YtokdneolgolkbaaDoorB05
import Derived.Test.YtokdneolgolkbaaDoorJ05
namespace Go.Proofs.YtokdneolgolkbaaDoor
open Go.RowKit P05


/-- strings.Cut at a line's end. -/
theorem cut_any (s sep : ByteArray) (m : Int) (w : World) (hs : s.size < 4294967281) (hm : w.cell? ⟨0, 0, none⟩ = some (.int .i64 m)) :
    Calls Tryd.prog 29 #[.string s, .string sep] w fun e w' => e = .returned (.tuple #[.string ⟨(Lib.cut s.data.toList sep.data.toList).1.toArray⟩, .string ⟨(Lib.cut s.data.toList sep.data.toList).2.1.toArray⟩, .bool (Lib.cut s.data.toList sep.data.toList).2.2]) ∧ ∃ n, w' = w.drewN n :=
  Tryd.strings_Cut s sep m w hs hm
theorem splitB_map (c : UInt8) (s : ByteArray) : (Lib.splitB ⟨#[c]⟩ 0 (Lib.countB s ⟨#[c]⟩) s).map Value.string = (pieces c s.data.toList).map bstr := by
  rw [← splitB_pieces, List.map_map]
  refine List.map_congr_left fun x _ => ?_
  show Value.string x = bstr x.data.toList
  unfold bstr
  rw [mk_data]
theorem pieces_len (c : UInt8) (s : ByteArray) : (pieces c s.data.toList).length = Lib.countB s ⟨#[c]⟩ + 1 := by
  rw [← splitB_pieces, List.length_map, Lib.splitB_all ⟨#[c]⟩ (Nat.le_refl 1) 0 _ s rfl]
/-- strings.Split at a separator of one byte. -/
theorem split_any (s : ByteArray) (c : UInt8) (m : Int) (w : World) (hs : s.size < 4294967281) (hm : w.cell? ⟨0, 0, none⟩ = some (.int .i64 m)) :
    Calls Tryd.prog 30 #[.string s, .string ⟨#[c]⟩] w fun e w' => e = .returned (.slice (some ⟨w.heap.size, 0, none⟩) (pieces c s.data.toList).length (pieces c s.data.toList).length) ∧ w' = w.alloc (.cells ((pieces c s.data.toList).map bstr).toArray 9) := by
  refine (Tryd.strings_Split s ⟨#[c]⟩ m w hs hm (Nat.le_refl 1)).mono fun e w' ⟨he, hw⟩ => ⟨?_, ?_⟩
  · rw [he, pieces_len]
  · rw [hw, splitB_map]
end Go.Proofs.YtokdneolgolkbaaDoor
