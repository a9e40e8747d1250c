/-
  Lists of strings, and lists of such lists, in memory. No condition.
-/
import Derived.Test.YtokdneolgolkbaaDoorGen
namespace Go.Proofs.YtokdneolgolkbaaDoor
open Go.RowKit

/-- A string's value. -/
def bstr (l : List UInt8) : Value := .string ⟨l.toArray⟩
/-- A list of strings. -/
def RStrs (w : World) (v : Value) (l : List (List UInt8)) : Prop := RS w 1 v l.length (l.map bstr)
/-- Lists of strings. -/
def RLine (w : World) (cs : List Value) (x : List (List UInt8)) : Prop := ∃ v, cs = [v] ∧ RStrs w v x
def RLines (w : World) (v : Value) (L : List (List (List UInt8))) : Prop := RL 1 RLine w v L
theorem RStrs.below {w w' : World} {v : Value} {l : List (List UInt8)} {B : Nat} (h : RStrs w v l) (hb : Below B w w') (hB : w.heap.size ≤ B) : RStrs w' v l := RS.below h hb hB
theorem RLines.below {w w' : World} {v : Value} {L : List (List (List UInt8))} {B : Nat} (h : RLines w v L) (hb : Below B w w') (hB : w.heap.size ≤ B) : RLines w' v L :=
  RL.below h hb hB fun _ _ ⟨v, e, hr⟩ => ⟨v, e, hr.below hb hB⟩
theorem RStrs.open_ {w : World} {v : Value} {l : List (List UInt8)} (h : RStrs w v l) : ∃ A c, v = .slice A l.length c ∧ l.length ≤ c ∧ c ≤ 9223372036854775807 ∧
    ∀ i s, l[i]? = some s → ∃ b o, A = some ⟨b, o, none⟩ ∧ b < w.heap.size ∧ w.cell? ⟨b, o + i, none⟩ = some (.string ⟨s.toArray⟩) := by
  obtain ⟨A, c, hv, h1, h2, _, h4⟩ := h
  refine ⟨A, c, hv, h1, by simpa [maxLen] using h2, fun i z hz => ?_⟩
  obtain ⟨b, o, hA, hb, hc⟩ := h4 (by have := lt_of_some hz; omega)
  exact ⟨b, o, hA, hb, hc i _ (by rw [List.getElem?_map, hz]; rfl)⟩
theorem RLines.open_ {w : World} {v : Value} {L : List (List (List UInt8))} (h : RLines w v L) : ∃ A c, v = .slice A L.length c ∧ L.length ≤ c ∧ c ≤ 9223372036854775807 ∧
    ∀ i x, L[i]? = some x → ∃ b o, A = some ⟨b, o, none⟩ ∧ b < w.heap.size ∧ ∃ rv, RStrs w rv x ∧ w.cell? ⟨b, o + i, none⟩ = some rv := by
  obtain ⟨A, c, hv, h1, h2, h4⟩ := RL.open_ h
  refine ⟨A, c, hv, h1, h2, fun i x hx => ?_⟩
  obtain ⟨b, o, hA, hb, cs, _, ⟨rv, e, hr⟩, hc⟩ := h4 i x hx
  have := hc 0 rv (by rw [e]; rfl)
  rw [Nat.mul_one] at this
  exact ⟨b, o, hA, hb, rv, hr, this⟩
/-- A line of the call's own. -/
def OLine (lb : Nat) (es : TypeId) (w : World) (cs : List Value) (x : List (List UInt8)) : Prop := ∃ v, cs = [v] ∧ w.ownsRow lb es 1 v x.length (x.map bstr)
/-- Lines of the call's own: er the type of a line, es the type of a string. -/
def OLines (lb : Nat) (er es : TypeId) (w : World) (v : Value) (L : List (List (List UInt8))) : Prop := OL lb er 1 (OLine lb es) w v L
theorem OLine.reads {lb : Nat} {es : TypeId} {w : World} {cs : List Value} {x : List (List UInt8)} (h : OLine lb es w cs x) : RLine w cs x := by
  obtain ⟨v, e, hr⟩ := h
  exact ⟨v, e, RS.of_own hr⟩
theorem OLines.reads {lb : Nat} {er es : TypeId} {w : World} {v : Value} {L : List (List (List UInt8))} (h : OLines lb er es w v L) : RLines w v L := OL.reads h fun _ _ => OLine.reads
theorem OLines.below {lb : Nat} {er es : TypeId} {w w' : World} {v : Value} {L : List (List (List UInt8))} {B : Nat} (h : OLines lb er es w v L) (hb : Below B w w') (hB : w.heap.size ≤ B) : OLines lb er es w' v L :=
  OL.below h hb hB fun _ _ ⟨v, e, hr⟩ => ⟨v, e, own_below hr hb hB⟩
theorem OLines.nil_ (lb : Nat) (er es : TypeId) (w : World) : OLines lb er es w (.slice none 0 0) [] := OL.nil_ _ _ _ _ _
end Go.Proofs.YtokdneolgolkbaaDoor
