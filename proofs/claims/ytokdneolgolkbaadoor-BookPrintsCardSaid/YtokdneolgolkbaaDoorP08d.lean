/- Plain words for plans that are the same. No program in sight. -/
import Derived.Test.YtokdneolgolkbaaDoorP08
namespace Go.Proofs.YtokdneolgolkbaaDoor.P08

/-- Lists alike, element by element. -/
def eqL {α : Type} (f : α → α → Bool) : List α → List α → Bool
  | [], [] => true
  | a :: l, b :: m => f a b && eqL f l m
  | [], _ :: _ => false
  | _ :: _, [] => false
theorem eqL_refl {α : Type} (f : α → α → Bool) (h : ∀ a, f a a = true) : ∀ l, eqL f l l = true
  | [] => rfl
  | a :: l => by rw [eqL, h, eqL_refl f h l]; rfl
theorem eqL_len {α : Type} (f : α → α → Bool) : ∀ l m : List α, l.length ≠ m.length → eqL f l m = false
  | [], [], h => absurd rfl h
  | a :: l, b :: m, h => by rw [eqL, eqL_len f l m (fun e => h (by simp [e])), Bool.and_false]
  | [], _ :: _, _ => rfl
  | _ :: _, [], _ => rfl
theorem eqL_step {α : Type} (f : α → α → Bool) {l m : List α} {k : Nat} {a b : α} (ha : l[k]? = some a) (hb : m[k]? = some b) : eqL f (l.drop k) (m.drop k) = (f a b && eqL f (l.drop (k + 1)) (m.drop (k + 1))) := by
  obtain ⟨hl, rfl⟩ := List.getElem?_eq_some_iff.1 ha
  obtain ⟨hm, rfl⟩ := List.getElem?_eq_some_iff.1 hb
  rw [List.drop_eq_getElem_cons hl, List.drop_eq_getElem_cons hm, eqL]
theorem eqL_end {α : Type} (f : α → α → Bool) {l m : List α} {n : Nat} (h1 : l.length ≤ n) (h2 : m.length ≤ n) : eqL f (l.drop n) (m.drop n) = true := by
  rw [List.drop_of_length_le h1, List.drop_of_length_le h2]
  rfl
def stpEq (a b : Stp) : Bool := a.1 == b.1 && a.2 == b.2
def trEq : Tr → Tr → Bool := eqL stpEq
def dyEq : Dy → Dy → Bool := eqL trEq
def plEq : Pl → Pl → Bool := eqL dyEq
theorem stpEq_refl (a : Stp) : stpEq a a = true := by simp [stpEq]
theorem trEq_refl (a : Tr) : trEq a a = true := eqL_refl _ stpEq_refl a
theorem dyEq_refl (a : Dy) : dyEq a a = true := eqL_refl _ trEq_refl a
theorem plEq_refl (a : Pl) : plEq a a = true := eqL_refl _ dyEq_refl a
end Go.Proofs.YtokdneolgolkbaaDoor.P08
