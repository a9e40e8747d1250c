/- A plan's text, piece by piece. No program in sight. -/
import Derived.Test.YtokdneolgolkbaaDoorP08b
namespace Go.Proofs.YtokdneolgolkbaaDoor.P08
open P05

/-- The words of a tour's line, its first so many stops told. -/
def tourPre (t : Tr) (i : Nat) : List (List UInt8) := [[116, 111, 117, 114], decI t.length] ++ (t.take i).flatMap fun s => [decI s.1, decI s.2]
theorem tourPre_all (t : Tr) : tourPre t t.length = tourWords t := by unfold tourPre tourWords; rw [List.take_length]
theorem tourPre_snoc {t : Tr} {i : Nat} {s : Stp} (h : t[i]? = some s) : tourPre t (i + 1) = tourPre t i ++ [decI s.1, decI s.2] := by
  unfold tourPre
  rw [List.take_add_one, h, Option.toList_some, List.flatMap_append, ← List.append_assoc]
  simp
theorem tourPre_len (t : Tr) (i : Nat) (hi : i ≤ t.length) : (tourPre t i).length = 2 + 2 * i := by
  have : ∀ l : Tr, (l.flatMap fun s => [decI s.1, decI s.2]).length = 2 * l.length := by
    intro l
    induction l with
    | nil => rfl
    | cons a l ih => rw [List.flatMap_cons, List.length_append, ih]; simp; omega
  unfold tourPre
  rw [List.length_append, this, List.length_take]
  simp
  omega
/-- The text so far: some days told whole, some tours of the next. -/
def headText (p : Pl) : List UInt8 := lineP [[112, 108, 97, 110], decI p.length]
def dayHead (d : Dy) : List UInt8 := lineP [[100, 97, 121], decI d.length]
def dayText (d : Dy) (j : Nat) : List UInt8 := dayHead d ++ ((d.take j).map tourWords).flatMap lineP
def textTo (p : Pl) (k : Nat) : List UInt8 := headText p ++ (p.take k).flatMap fun d => dayText d d.length
theorem textTo_zero (p : Pl) : textTo p 0 = headText p := by unfold textTo; simp
theorem textTo_succ {p : Pl} {k : Nat} {d : Dy} (h : p[k]? = some d) : textTo p (k + 1) = textTo p k ++ dayText d d.length := by
  unfold textTo
  rw [List.take_add_one, h, Option.toList_some, List.flatMap_append, ← List.append_assoc]
  simp
theorem dayText_zero (d : Dy) : dayText d 0 = dayHead d := by unfold dayText; simp
theorem dayText_succ {d : Dy} {j : Nat} {t : Tr} (h : d[j]? = some t) : dayText d (j + 1) = dayText d j ++ lineP (tourWords t) := by
  unfold dayText
  rw [List.take_add_one, h, Option.toList_some, List.map_append, List.flatMap_append, ← List.append_assoc]
  simp
theorem dayText_all (d : Dy) : dayText d d.length = (dayLines d).flatMap lineP := by
  unfold dayText dayLines dayHead
  rw [List.take_length, List.flatMap_cons]
theorem textTo_all (p : Pl) : textTo p p.length = planText p := by
  unfold textTo planText planLines headText
  rw [List.take_length, List.flatMap_cons, List.flatMap_assoc]
  congr 1
  refine congrArg (fun f => p.flatMap f) ?_
  funext d
  exact dayText_all d
theorem decI_len21 {n : Int} (h : -9223372036854775808 ≤ n ∧ n ≤ 9223372036854775807) : (decI n).length ≤ 21 := (decI_len h).2
theorem head_len {a : List UInt8} {n : Nat} (ha : a.length ≤ 21) (hn : n ≤ 1000) : ∀ x ∈ [a, decI (n : Int)], x.length ≤ 21 := by
  intro x hx
  simp only [List.mem_cons, List.not_mem_nil, or_false] at hx
  rcases hx with rfl | rfl
  · exact ha
  · exact decI_len21 ⟨by omega, by omega⟩
theorem tour_len {t : Tr} (ht : t.length ≤ 1000) (hw : ∀ s ∈ t, W64s s) (i : Nat) : ∀ x ∈ tourPre t i, x.length ≤ 21 := by
  intro x hx
  unfold tourPre at hx
  rw [List.mem_append] at hx
  rcases hx with h | h
  · exact head_len (by decide) ht x h
  · obtain ⟨s, hs, hx⟩ := List.mem_flatMap.1 h
    have := hw s (List.mem_of_mem_take hs)
    simp only [List.mem_cons, List.not_mem_nil, or_false] at hx
    rcases hx with rfl | rfl
    · exact decI_len21 this.1
    · exact decI_len21 this.2
end Go.Proofs.YtokdneolgolkbaaDoor.P08
