/- Plain words for a tour's way. No program in sight. -/
import Derived.Test.YtifdggdpglphmaaP06c
namespace Go.Proofs.Ytifdggdpglphmaa.P06

def wayFrom (D : List (List Int)) : Int → List Int → Int
  | a, [] => arc D a 0
  | a, c :: t => arc D a (c + 1) + wayFrom D (c + 1) t
/-- A tour's way. -/
def way (D : List (List Int)) : List Int → Int
  | [] => 0
  | c :: t => wayFrom D 0 (c :: t)
/-- The arcs between a tour's customers. -/
def mid (D : List (List Int)) : List Int → Int
  | a :: b :: t => arc D (a + 1) (b + 1) + mid D (b :: t)
  | _ => 0
theorem wayFrom_mid (D : List (List Int)) : ∀ (t : List Int) (a c : Int), wayFrom D a (c :: t) = arc D a (c + 1) + mid D (c :: t) + arc D (((c :: t).getLast?.getD 0) + 1) 0
  | [], a, c => by simp [wayFrom, mid]
  | b :: t, a, c => by
    rw [wayFrom, wayFrom_mid D t (c + 1) b, mid]
    simp [List.getLast?_cons_cons]
    omega
/-- Arcs that may be. -/
def ArcsOk (D : List (List Int)) : Prop := ∀ a b, 0 ≤ arc D a b ∧ arc D a b ≤ 2147483648
theorem way_bd (D : List (List Int)) (h : ArcsOk D) : ∀ (l : List Int) (a : Int), 0 ≤ wayFrom D a l ∧ wayFrom D a l ≤ (l.length + 1) * 2147483648
  | [], a => by have := h a 0; simp [wayFrom]; omega
  | c :: t, a => by
    have h1 := h a (c + 1)
    have h2 := way_bd D h t (c + 1)
    rw [wayFrom, List.length_cons]
    push_cast
    omega
theorem mid_bd (D : List (List Int)) (h : ArcsOk D) : ∀ (l : List Int), 0 ≤ mid D l ∧ mid D l ≤ l.length * 2147483648
  | [] => by simp [mid]
  | [c] => by simp [mid]
  | a :: b :: t => by
    have h1 := h (a + 1) (b + 1)
    have h2 := mid_bd D h (b :: t)
    rw [mid, List.length_cons]
    push_cast at *
    omega
end Go.Proofs.Ytifdggdpglphmaa.P06
