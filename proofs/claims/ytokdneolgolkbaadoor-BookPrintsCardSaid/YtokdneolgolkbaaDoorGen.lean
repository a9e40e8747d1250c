/-
  Slices whose elements are whatever R says: read ones, and ones of the call's own. No condition.
-/
import Derived.Test.YtokdneolgolkbaaDoorM06b
import Derived.Test.YtokdneolgolkbaaDoorMem2
namespace Go.Proofs.YtokdneolgolkbaaDoor
open Go.RowKit

/-- A slice whose elements, 'size' cells each, are what R says. -/
def RL {α : Type} (size : Nat) (R : World → List Value → α → Prop) (w : World) (v : Value) (L : List α) : Prop :=
  ∃ A c, v = .slice A L.length c ∧ L.length ≤ c ∧ c ≤ maxLen ∧
    (0 < L.length → ∃ b o, A = some ⟨b, o, none⟩ ∧ b < w.heap.size ∧ ∀ i x, L[i]? = some x → ∃ cs : List Value, cs.length = size ∧ R w cs x ∧ ∀ j u, cs[j]? = some u → w.cell? ⟨b, o + i * size + j, none⟩ = some u)
theorem RL.nil_ {α : Type} (size : Nat) (R : World → List Value → α → Prop) (w : World) : RL size R w (.slice none 0 0) [] := ⟨none, 0, rfl, Nat.le_refl _, by simp [maxLen], fun h => absurd h (by simp)⟩
theorem RL.below {α : Type} {size : Nat} {R : World → List Value → α → Prop} {w w' : World} {v : Value} {L : List α} {B : Nat} (h : RL size R w v L) (hb : Below B w w') (hB : w.heap.size ≤ B) (hR : ∀ cs x, R w cs x → R w' cs x) : RL size R w' v L := by
  obtain ⟨A, c, rfl, h1, h2, h3⟩ := h
  refine ⟨A, c, rfl, h1, h2, fun hn => ?_⟩
  obtain ⟨b, o, rfl, hlt, hc⟩ := h3 hn
  refine ⟨b, o, rfl, Nat.lt_of_lt_of_le hlt hb.size, fun i x hx => ?_⟩
  obtain ⟨cs, h4, h5, h6⟩ := hc i x hx
  exact ⟨cs, h4, hR _ _ h5, fun j u hu => (hb.cell (p := ⟨b, o + i * size + j, none⟩) (by show b < B; omega)).trans (h6 j u hu)⟩
theorem RL.open_ {α : Type} {size : Nat} {R : World → List Value → α → Prop} {w : World} {v : Value} {L : List α} (h : RL size R w v L) : ∃ A c, v = .slice A L.length c ∧ L.length ≤ c ∧ c ≤ 9223372036854775807 ∧
    ∀ i x, L[i]? = some x → ∃ b o, A = some ⟨b, o, none⟩ ∧ b < w.heap.size ∧ ∃ cs : List Value, cs.length = size ∧ R w cs x ∧ ∀ j u, cs[j]? = some u → w.cell? ⟨b, o + i * size + j, none⟩ = some u := by
  obtain ⟨A, c, hv, h1, h2, h4⟩ := h
  refine ⟨A, c, hv, h1, by simpa [maxLen] using h2, fun i x hx => ?_⟩
  obtain ⟨b, o, hA, hb, hc⟩ := h4 (by have := lt_of_some hx; omega)
  exact ⟨b, o, hA, hb, hc i x hx⟩
theorem RL.take {α : Type} {size : Nat} {R : World → List Value → α → Prop} {w : World} {A : Option Addr} {c n : Nat} {L : List α} (h : RL size R w (.slice A L.length c) L) (hn : n ≤ L.length) : RL size R w (.slice A n c) (L.take n) := by
  obtain ⟨A', c', hv, h1, h2, h4⟩ := h
  injection hv with e1 _ e3
  subst e1; subst e3
  have hl : (L.take n).length = n := by rw [List.length_take]; omega
  refine ⟨A, c, by rw [hl], by omega, h2, fun hp => ?_⟩
  obtain ⟨b, o, hA, hb, hc⟩ := h4 (by omega)
  refine ⟨b, o, hA, hb, fun i x hx => hc i x ?_⟩
  rw [List.getElem?_take] at hx
  split at hx
  · exact hx
  · cases hx
theorem RL.drop {α : Type} {size : Nat} {R : World → List Value → α → Prop} {w : World} {b o c n c' : Nat} {L : List α} (h : RL size R w (.slice (some ⟨b, o, none⟩) L.length c) L) (hn : n ≤ L.length) (hc1 : L.length - n ≤ c') (hc2 : c' ≤ maxLen) : RL size R w (.slice (some ⟨b, o + n * size, none⟩) (L.length - n) c') (L.drop n) := by
  obtain ⟨A', c1, hv, h1, h2, h4⟩ := h
  injection hv with e1 _ e3
  subst e1; subst e3
  refine ⟨_, _, by rw [List.length_drop], by rw [List.length_drop]; omega, hc2, fun hp => ?_⟩
  rw [List.length_drop] at hp
  obtain ⟨b', o', hA, hb, hc⟩ := h4 (by omega)
  obtain ⟨rfl, rfl⟩ : b = b' ∧ o = o' := by simpa using hA
  refine ⟨b, _, rfl, hb, fun i x hx => ?_⟩
  rw [List.getElem?_drop] at hx
  obtain ⟨cs, g1, g2, g3⟩ := hc (n + i) x hx
  refine ⟨cs, g1, g2, fun j u hu => ?_⟩
  have := g3 j u hu
  rw [Nat.add_mul, ← Nat.add_assoc o] at this
  exact this

/-- A slice of the call's own. -/
def OL {α : Type} (lb : Nat) (e : TypeId) (size : Nat) (O : World → List Value → α → Prop) (w : World) (v : Value) (L : List α) : Prop :=
  ∃ css : List (List Value), css.length = L.length ∧ (∀ cs ∈ css, cs.length = size) ∧ w.ownsRow lb e size v L.length css.flatten ∧ ∀ (i : Nat) (x : α) (cs : List Value), L[i]? = some x → css[i]? = some cs → O w cs x
theorem OL.nil_ {α : Type} (lb : Nat) (e : TypeId) (size : Nat) (O : World → List Value → α → Prop) (w : World) : OL lb e size O w (.slice none 0 0) [] := ⟨[], rfl, by simp, World.ownsRow_nil _ _ _ _, fun i x cs h => by simp at h⟩
theorem OL.below {α : Type} {lb : Nat} {e : TypeId} {size : Nat} {O : World → List Value → α → Prop} {w w' : World} {v : Value} {L : List α} {B : Nat} (h : OL lb e size O w v L) (hb : Below B w w') (hB : w.heap.size ≤ B) (hO : ∀ cs x, O w cs x → O w' cs x) : OL lb e size O w' v L := by
  obtain ⟨css, h1, h2, h3, h4⟩ := h
  exact ⟨css, h1, h2, own_below h3 hb hB, fun i x cs hx hc => hO _ _ (h4 i x cs hx hc)⟩
theorem OL.keep {α : Type} {lb base : Nat} {e e' : TypeId} {size : Nat} {O : World → List Value → α → Prop} {w w' : World} {v : Value} {L : List α} (h : OL lb e size O w v L) (hk : Keep e' base w w') (hne : e ≠ e') (hO : ∀ cs x, O w cs x → O w' cs x) : OL lb e size O w' v L := by
  obtain ⟨css, h1, h2, h3, h4⟩ := h
  exact ⟨css, h1, h2, hk.own h3 hne, fun i x cs hx hc => hO _ _ (h4 i x cs hx hc)⟩
theorem OL.mono {α : Type} {lb lb' : Nat} {e : TypeId} {size : Nat} {O : World → List Value → α → Prop} {w : World} {v : Value} {L : List α} (h : OL lb e size O w v L) (hl : lb' ≤ lb) : OL lb' e size O w v L := by
  obtain ⟨css, h1, h2, h3, h4⟩ := h
  exact ⟨css, h1, h2, own_mono h3 hl, h4⟩
theorem OL.imp {α : Type} {lb : Nat} {e : TypeId} {size : Nat} {O O' : World → List Value → α → Prop} {w : World} {v : Value} {L : List α} (h : OL lb e size O w v L) (hO : ∀ cs x, O w cs x → O' w cs x) : OL lb e size O' w v L := by
  obtain ⟨css, h1, h2, h3, h4⟩ := h
  exact ⟨css, h1, h2, h3, fun i x cs hx hc => hO _ _ (h4 i x cs hx hc)⟩
/-- One element more: the row behind the append, the elder elements kept. -/
theorem OL.push {α : Type} {lb : Nat} {e : TypeId} {size : Nat} {O : World → List Value → α → Prop} {w : World} {v : Value} {L : List α} {y : α} {css : List (List Value)} {cs : List Value} {n : Nat} (hn : L.length = n) (h1 : css.length = n) (h2 : ∀ cs ∈ css, cs.length = size) (hs : cs.length = size)
    (h3 : w.ownsRow lb e size v (n + 1) (css.flatten ++ cs)) (h4 : ∀ (i : Nat) (x : α) (cs : List Value), L[i]? = some x → css[i]? = some cs → O w cs x) (hy : O w cs y) : OL lb e size O w v (L ++ [y]) := by
  subst hn
  refine ⟨css ++ [cs], by simp [h1], fun c hc => ?_, by simpa using h3, fun i x c hx hq => ?_⟩
  · rcases List.mem_append.1 hc with h | h
    · exact h2 c h
    · obtain rfl : c = cs := by simpa using h
      exact hs
  · by_cases hi : i < L.length
    · rw [List.getElem?_append_left hi] at hx
      rw [List.getElem?_append_left (by omega)] at hq
      exact h4 i x c hx hq
    · have ei : i = L.length := by
        have := lt_of_some hx
        simp at this
        omega
      subst ei
      rw [List.getElem?_append_right (Nat.le_refl _), Nat.sub_self] at hx
      rw [List.getElem?_append_right (by omega), h1, Nat.sub_self] at hq
      simp only [List.getElem?_cons_zero, Option.some.injEq] at hx hq
      subst hx; subst hq
      exact hy
theorem flatten_get (size : Nat) : ∀ (css : List (List Value)) (i j : Nat) (cs : List Value) (u : Value), (∀ cs ∈ css, cs.length = size) → css[i]? = some cs → cs[j]? = some u → css.flatten[i * size + j]? = some u
  | [], i, j, cs, u, _, h, _ => by simp at h
  | c :: css, 0, j, cs, u, hl, h, hu => by
    simp only [List.getElem?_cons_zero, Option.some.injEq] at h
    subst h
    rw [List.flatten_cons, Nat.zero_mul, Nat.zero_add, List.getElem?_append_left (lt_of_some hu), hu]
  | c :: css, i + 1, j, cs, u, hl, h, hu => by
    simp only [List.getElem?_cons_succ] at h
    have hc := hl c (by simp)
    rw [List.flatten_cons, List.getElem?_append_right (by rw [hc, Nat.add_mul]; omega), hc]
    rw [show (i + 1) * size + j - size = i * size + j by rw [Nat.add_mul]; omega]
    exact flatten_get size css i j cs u (fun x hx => hl x (by simp [hx])) h hu
theorem OL.reads {α : Type} {lb : Nat} {e : TypeId} {size : Nat} {O R : World → List Value → α → Prop} {w : World} {v : Value} {L : List α} (h : OL lb e size O w v L) (hR : ∀ cs x, O w cs x → R w cs x) : RL size R w v L := by
  obtain ⟨css, h1, h2, h3, h4⟩ := h
  obtain ⟨A, c, hv, g1, g2, _, g4⟩ := RS.of_own h3
  refine ⟨A, c, hv, g1, g2, fun hn => ?_⟩
  obtain ⟨b, o, hA, hb, hc⟩ := g4 hn
  refine ⟨b, o, hA, hb, fun i x hx => ?_⟩
  obtain ⟨cs, hp⟩ := some_of_lt (l := css) (i := i) (by have := lt_of_some hx; omega)
  refine ⟨cs, h2 cs (List.mem_of_getElem? hp), hR _ _ (h4 i x cs hx hp), fun j u hu => ?_⟩
  rw [Nat.add_assoc]
  exact hc _ u (flatten_get size css i j cs u h2 hp hu)

/-- Elements of one cell: a value each. -/
def One {α : Type} (enc : α → Value) (_ : World) (cs : List Value) (x : α) : Prop := cs = [enc x]
theorem RL.one {α : Type} {enc : α → Value} {w : World} {v : Value} {L : List α} (h : RL 1 (One enc) w v L) : RS w 1 v L.length (L.map enc) := by
  obtain ⟨A, c, hv, h1, h2, h4⟩ := h
  refine ⟨A, c, hv, h1, h2, by simp, fun hn => ?_⟩
  obtain ⟨b, o, hA, hb, hc⟩ := h4 hn
  refine ⟨b, o, hA, hb, fun j u hu => ?_⟩
  rw [List.getElem?_map, Option.map_eq_some_iff] at hu
  obtain ⟨x, hx, rfl⟩ := hu
  obtain ⟨cs, _, h5, h6⟩ := hc j x hx
  have := h6 0 (enc x) (by rw [h5]; rfl)
  rwa [Nat.mul_one] at this
theorem RL.of_one {α : Type} {enc : α → Value} {w : World} {v : Value} {L : List α} (h : RS w 1 v L.length (L.map enc)) : RL 1 (One enc) w v L := by
  obtain ⟨A, c, hv, h1, h2, _, h4⟩ := h
  refine ⟨A, c, hv, h1, h2, fun hn => ?_⟩
  obtain ⟨b, o, hA, hb, hc⟩ := h4 hn
  refine ⟨b, o, hA, hb, fun i x hx => ⟨[enc x], rfl, rfl, fun j u hu => ?_⟩⟩
  cases j with
  | zero =>
    simp only [List.getElem?_cons_zero, Option.some.injEq] at hu
    subst hu
    rw [Nat.mul_one]
    exact hc i _ (by rw [List.getElem?_map, hx]; rfl)
  | succ j => simp at hu
theorem flatten_map_one {α : Type} (f : α → Value) : ∀ L : List α, (L.map fun x => [f x]).flatten = L.map f
  | [] => rfl
  | x :: t => by rw [List.map_cons, List.flatten_cons, flatten_map_one f t]; rfl
end Go.Proofs.YtokdneolgolkbaaDoor
