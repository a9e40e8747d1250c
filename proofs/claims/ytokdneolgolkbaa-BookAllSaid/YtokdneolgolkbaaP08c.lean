/- A customer's visits. No program in sight. -/
import Derived.Test.YtokdneolgolkbaaP08b
namespace Go.Proofs.Ytokdneolgolkbaa.P08

/-- Of stops with their days, the days and quantities of a customer's. -/
def visOf (c : Int) (l : List (Nat × Stp)) : List (Nat × Int) := (l.filter fun x => x.2.1 == c).map fun x => (x.1, x.2.2)
def visP (c : Int) (p : Pl) : List (Nat × Int) := visOf c (stopsP p)
theorem visOf_yes {c : Int} {l : List (Nat × Stp)} {x : Nat × Stp} (h : x.2.1 = c) : visOf c (l ++ [x]) = visOf c l ++ [(x.1, x.2.2)] := by
  unfold visOf
  rw [List.filter_append, List.map_append]
  simp [h]
theorem visOf_no {c : Int} {l : List (Nat × Stp)} {x : Nat × Stp} (h : x.2.1 ≠ c) : visOf c (l ++ [x]) = visOf c l := by
  unfold visOf
  rw [List.filter_append, List.map_append]
  simp [h]
theorem visOf_len (c : Int) (l : List (Nat × Stp)) : (visOf c l).length ≤ l.length := by
  unfold visOf
  rw [List.length_map]
  exact List.length_filter_le _ _
end Go.Proofs.Ytokdneolgolkbaa.P08
