/- The least arcs that come to, and leave, a customer; ways and their parts. No program in sight. -/
import Derived.Test.YtifdggdpglphmaaP06e
namespace Go.Proofs.Ytifdggdpglphmaa.P06

/-- The least arc to customer c from the places below k; with none, that from the depot. -/
def minTo (D : List (List Int)) (c : Int) : Nat → Int
  | 0 => arc D 0 (c + 1)
  | k + 1 => if (k : Int) = c + 1 then minTo D c k else min (minTo D c k) (arc D k (c + 1))
def minFrom (D : List (List Int)) (c : Int) : Nat → Int
  | 0 => arc D (c + 1) 0
  | k + 1 => if (k : Int) = c + 1 then minFrom D c k else min (minFrom D c k) (arc D (c + 1) k)
theorem minTo_self (D : List (List Int)) (c : Int) (k : Nat) (h : (k : Int) = c + 1) : minTo D c (k + 1) = minTo D c k := by rw [minTo, if_pos h]
theorem minTo_other (D : List (List Int)) (c : Int) (k : Nat) (h : (k : Int) ≠ c + 1) : minTo D c (k + 1) = min (minTo D c k) (arc D k (c + 1)) := by rw [minTo, if_neg h]
theorem minFrom_self (D : List (List Int)) (c : Int) (k : Nat) (h : (k : Int) = c + 1) : minFrom D c (k + 1) = minFrom D c k := by rw [minFrom, if_pos h]
theorem minFrom_other (D : List (List Int)) (c : Int) (k : Nat) (h : (k : Int) ≠ c + 1) : minFrom D c (k + 1) = min (minFrom D c k) (arc D (c + 1) k) := by rw [minFrom, if_neg h]
theorem minTo_one (D : List (List Int)) (c : Int) : minTo D c 1 = arc D 0 (c + 1) := by
  rw [minTo]
  split
  · rfl
  · show min (arc D 0 (c + 1)) (arc D 0 (c + 1)) = _
    simp
theorem minFrom_one (D : List (List Int)) (c : Int) : minFrom D c 1 = arc D (c + 1) 0 := by
  rw [minFrom]
  split
  · rfl
  · show min (arc D (c + 1) 0) (arc D (c + 1) 0) = _
    simp
theorem minTo_bd (D : List (List Int)) (c : Int) (h : ArcsOk D) : ∀ k, 0 ≤ minTo D c k ∧ minTo D c k ≤ 2147483648
  | 0 => h 0 (c + 1)
  | k + 1 => by
    have h1 := minTo_bd D c h k
    have h2 := h k (c + 1)
    rw [minTo]
    split <;> omega
theorem minFrom_bd (D : List (List Int)) (c : Int) (h : ArcsOk D) : ∀ k, 0 ≤ minFrom D c k ∧ minFrom D c k ≤ 2147483648
  | 0 => h (c + 1) 0
  | k + 1 => by
    have h1 := minFrom_bd D c h k
    have h2 := h (c + 1) k
    rw [minFrom]
    split <;> omega
/-- It is not above any arc from another place. -/
theorem minTo_le (D : List (List Int)) (c : Int) : ∀ (k o : Nat), o < k → (o : Int) ≠ c + 1 → minTo D c k ≤ arc D o (c + 1)
  | k + 1, o, h, hne => by
    rw [minTo]
    by_cases e : o = k
    · subst e
      rw [if_neg hne]
      omega
    · have := minTo_le D c k o (by omega) hne
      split <;> omega
theorem minFrom_le (D : List (List Int)) (c : Int) : ∀ (k o : Nat), o < k → (o : Int) ≠ c + 1 → minFrom D c k ≤ arc D (c + 1) o
  | k + 1, o, h, hne => by
    rw [minFrom]
    by_cases e : o = k
    · subst e
      rw [if_neg hne]
      omega
    · have := minFrom_le D c k o (by omega) hne
      split <;> omega
/-- What the reference holds after k places: -1, if it has seen none that counts. -/
def refTo (D : List (List Int)) (c : Int) (k : Nat) : Int := if k = 0 then -1 else minTo D c k
def refFrom (D : List (List Int)) (c : Int) (k : Nat) : Int := if k = 0 then -1 else minFrom D c k

/-- The sum of what comes to a tour's customers. -/
def sumOf (f : Int → Int) : List Int → Int
  | [] => 0
  | c :: t => f c + sumOf f t
theorem sumOf_append (f : Int → Int) : ∀ l m : List Int, sumOf f (l ++ m) = sumOf f l + sumOf f m
  | [], m => by simp [sumOf]
  | c :: t, m => by rw [List.cons_append, sumOf, sumOf, sumOf_append f t m]; omega
/-- No customer twice, one behind the other. -/
def apartFrom : Int → List Int → Prop
  | _, [] => True
  | p, c :: t => c ≠ p ∧ apartFrom c t
theorem apartFrom_snoc : ∀ (l : List Int) (p c : Int), apartFrom p l → c ≠ (l.getLast?.getD p) → apartFrom p (l ++ [c])
  | [], p, c, _, h => ⟨by simpa using h, trivial⟩
  | a :: t, p, c, h, hc => by
    refine ⟨h.1, apartFrom_snoc t a c h.2 ?_⟩
    rw [List.getLast?_cons] at hc
    simpa using hc
theorem wayFrom_come (D : List (List Int)) (n : Nat) (hD : ArcsOk D) : ∀ (l : List Int) (p : Int), 0 ≤ p + 1 → p + 1 ≤ n → (∀ c ∈ l, 0 ≤ c ∧ c + 1 ≤ n) → apartFrom p l → sumOf (fun c => minTo D c (n + 1)) l ≤ wayFrom D (p + 1) l
  | [], p, _, _, _, _ => (hD _ _).1
  | c :: t, p, h0, h1, hc, ha => by
    obtain ⟨hc0, hc1⟩ := hc c (by simp)
    have ih := wayFrom_come D n hD t c (by omega) hc1 (fun d hd => hc d (by simp [hd])) ha.2
    have h2 := minTo_le D c (n + 1) (p + 1).toNat (by omega) (by have := ha.1; omega)
    rw [show (((p + 1).toNat : Nat) : Int) = p + 1 by omega] at h2
    rw [sumOf, wayFrom]
    omega
theorem wayFrom_leave (D : List (List Int)) (n : Nat) (hD : ArcsOk D) : ∀ (l : List Int) (p : Int), (∀ c ∈ l, 0 ≤ c ∧ c + 1 ≤ n) → 0 ≤ p → apartFrom p l → minFrom D p (n + 1) + sumOf (fun c => minFrom D c (n + 1)) l ≤ wayFrom D (p + 1) l
  | [], p, _, h0, _ => by
    have h2 := minFrom_le D p (n + 1) 0 (by omega) (by omega)
    rw [sumOf, wayFrom]
    simpa using h2
  | c :: t, p, hc, h0, ha => by
    obtain ⟨hc0, hc1⟩ := hc c (by simp)
    have ih := wayFrom_leave D n hD t c (fun d hd => hc d (by simp [hd])) hc0 ha.2
    have h2 := minFrom_le D p (n + 1) (c + 1).toNat (by omega) (by have := ha.1; omega)
    rw [show (((c + 1).toNat : Nat) : Int) = c + 1 by omega] at h2
    rw [sumOf, wayFrom]
    omega
theorem way_come (D : List (List Int)) (n : Nat) (hD : ArcsOk D) (l : List Int) (hc : ∀ c ∈ l, 0 ≤ c ∧ c + 1 ≤ n) (ha : apartFrom (-1) l) : sumOf (fun c => minTo D c (n + 1)) l ≤ way D l := by
  cases l with
  | nil => exact Int.le_refl _
  | cons c t => exact wayFrom_come D n hD (c :: t) (-1) (by omega) (by omega) hc ha
theorem way_leave (D : List (List Int)) (n : Nat) (hD : ArcsOk D) (l : List Int) (hc : ∀ c ∈ l, 0 ≤ c ∧ c + 1 ≤ n) (ha : apartFrom (-1) l) : sumOf (fun c => minFrom D c (n + 1)) l ≤ way D l := by
  cases l with
  | nil => exact Int.le_refl _
  | cons c t =>
    have h1 := wayFrom_leave D n hD t c (fun d hd => hc d (by simp [hd])) (hc c (by simp)).1 ha.2
    have h2 := (hD 0 (c + 1)).1
    rw [sumOf]
    show _ ≤ wayFrom D 0 (c :: t)
    rw [wayFrom]
    omega

/-- A way, cut behind a customer. -/
theorem wayFrom_cut (D : List (List Int)) : ∀ (p : List Int) (s a : Int) (q : List Int), wayFrom D s (p ++ a :: q) = wayFrom D s (p ++ [a]) - arc D (a + 1) 0 + wayFrom D (a + 1) q
  | [], s, a, q => by
    show arc D s (a + 1) + wayFrom D (a + 1) q = arc D s (a + 1) + wayFrom D (a + 1) [] - arc D (a + 1) 0 + wayFrom D (a + 1) q
    rw [wayFrom]
    omega
  | c :: t, s, a, q => by
    have := wayFrom_cut D t (c + 1) a q
    rw [List.cons_append, List.cons_append, wayFrom, wayFrom, this]
    omega
theorem way_parts (D : List (List Int)) (l : List Int) (i : Nat) (a b : Int) (ha : l[i]? = some a) (hb : l[i + 1]? = some b) :
    way D l = way D (l.take (i + 1)) + way D (l.drop (i + 1)) - arc D (a + 1) 0 - arc D 0 (b + 1) + arc D (a + 1) (b + 1) := by
  obtain ⟨hi, ea⟩ := List.getElem?_eq_some_iff.1 ha
  obtain ⟨hi', eb⟩ := List.getElem?_eq_some_iff.1 hb
  have e1 : l.drop (i + 1) = b :: l.drop (i + 2) := by rw [List.drop_eq_getElem_cons hi', eb]
  have e2 : l.take (i + 1) = l.take i ++ [a] := by rw [List.take_succ_eq_append_getElem hi, ea]
  have e3 : l = l.take i ++ a :: b :: l.drop (i + 2) := by
    conv => lhs; rw [← List.take_append_drop (i + 1) l, e1, e2]
    simp
  have hw : ∀ m : List Int, m ≠ [] → way D m = wayFrom D 0 m := fun m hm => by
    cases m with
    | nil => exact absurd rfl hm
    | cons c t => rfl
  rw [hw l (by intro e; simp [e] at hi), hw (l.take (i + 1)) (by rw [e2]; simp), hw (l.drop (i + 1)) (by rw [e1]; simp), e1, e2]
  have h := wayFrom_cut D (l.take i) 0 a (b :: l.drop (i + 2))
  rw [← e3] at h
  rw [h, wayFrom, wayFrom]
  omega
end Go.Proofs.Ytifdggdpglphmaa.P06
