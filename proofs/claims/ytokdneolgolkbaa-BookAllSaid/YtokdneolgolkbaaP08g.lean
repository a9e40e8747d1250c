/- The visits of all customers: how many, in what order. No program in sight. -/
import Derived.Test.YtokdneolgolkbaaP08c
namespace Go.Proofs.Ytokdneolgolkbaa.P08

def inB (x : Nat × Stp) : Bool := decide (0 ≤ x.2.1) && decide (x.2.1 < 10)
def cntI (l : List (Nat × Stp)) : Nat := (l.filter inB).length
theorem cntI_append (a b : List (Nat × Stp)) : cntI (a ++ b) = cntI a + cntI b := by unfold cntI; rw [List.filter_append, List.length_append]
theorem cntI_yes {l : List (Nat × Stp)} {x : Nat × Stp} (h : inB x = true) : cntI (l ++ [x]) = cntI l + 1 := by rw [cntI_append]; simp [cntI, h]
theorem cntI_no {l : List (Nat × Stp)} {x : Nat × Stp} (h : inB x = false) : cntI (l ++ [x]) = cntI l := by rw [cntI_append]; simp [cntI, h]
theorem cntI_le (l : List (Nat × Stp)) : cntI l ≤ l.length := List.length_filter_le _ _
/-- How many visits the customers below k have. -/
def sumV (l : List (Nat × Stp)) (k : Nat) : Nat := ((List.range k).map fun (c : Nat) => (visOf (c : Int) l).length).sum
theorem sumV_zero (l : List (Nat × Stp)) : sumV l 0 = 0 := rfl
theorem sumV_succ (l : List (Nat × Stp)) (k : Nat) : sumV l (k + 1) = sumV l k + (visOf (k : Int) l).length := by
  unfold sumV
  rw [List.range_succ, List.map_append, List.sum_append]
  simp
theorem sumV_snoc (l : List (Nat × Stp)) (x : Nat × Stp) : ∀ k : Nat, sumV (l ++ [x]) k = sumV l k + if 0 ≤ x.2.1 ∧ x.2.1 < (k : Int) then 1 else 0
  | 0 => by rw [sumV_zero, sumV_zero, if_neg (by omega)]
  | k + 1 => by
    rw [sumV_succ, sumV_succ, sumV_snoc l x k]
    by_cases h : x.2.1 = (k : Int)
    · rw [visOf_yes h, List.length_append, if_neg (by omega), if_pos (by omega)]
      simp
      omega
    · rw [visOf_no h]
      by_cases h2 : 0 ≤ x.2.1 ∧ x.2.1 < (k : Int)
      · rw [if_pos h2, if_pos (by omega)]; omega
      · rw [if_neg h2, if_neg (by omega)]; omega
theorem sumV_cnt (l : List (Nat × Stp)) : sumV l 10 = cntI l := by
  have h : ∀ (r : List (Nat × Stp)), sumV r.reverse 10 = cntI r.reverse := by
    intro r
    induction r with
    | nil => rfl
    | cons x r ih =>
      rw [List.reverse_cons, sumV_snoc, ih]
      by_cases hb : inB x = true
      · rw [cntI_yes hb, if_pos (by simpa [inB] using hb)]
      · have hb' : inB x = false := by simpa using hb
        rw [cntI_no hb', if_neg (by simpa [inB] using hb)]
        omega
  have := h l.reverse
  rwa [List.reverse_reverse] at this
def Ordd (l : List (Nat × Stp)) : Prop := List.Pairwise (fun (a b : Nat × Stp) => a.1 ≤ b.1) l
theorem stopsD_day (i : Nat) (d : Dy) : ∀ x ∈ stopsD i d, x.1 = i := by
  intro x hx
  unfold stopsD at hx
  obtain ⟨t, _, hx⟩ := List.mem_flatMap.1 hx
  unfold stopsT at hx
  obtain ⟨s, _, rfl⟩ := List.mem_map.1 hx
  rfl
theorem pairwise_same {i : Nat} : ∀ (l : List (Nat × Stp)), (∀ x ∈ l, x.1 = i) → Ordd l
  | [], _ => List.Pairwise.nil
  | a :: l, h => List.Pairwise.cons (fun b hb => by rw [h a (by simp), h b (by simp [hb])]; exact Nat.le_refl _) (pairwise_same l fun x hx => h x (by simp [hx]))
theorem stopsF_from : ∀ (p : Pl) (i : Nat), ∀ x ∈ stopsF i p, i ≤ x.1
  | [], _, x, hx => by simp [stopsF] at hx
  | d :: p, i, x, hx => by
    rw [stopsF, List.mem_append] at hx
    rcases hx with h | h
    · rw [stopsD_day i d x h]; exact Nat.le_refl _
    · have := stopsF_from p (i + 1) x h; omega
theorem stopsF_ord : ∀ (p : Pl) (i : Nat), Ordd (stopsF i p)
  | [], _ => List.Pairwise.nil
  | d :: p, i => by
    unfold Ordd
    rw [stopsF, List.pairwise_append]
    refine ⟨pairwise_same _ (stopsD_day i d), stopsF_ord p (i + 1), fun a ha b hb => ?_⟩
    rw [stopsD_day i d a ha]
    have := stopsF_from p (i + 1) b hb
    omega
theorem visP_ord (c : Int) (p : Pl) {i : Nat} {a b : Nat × Int} (ha : (visP c p)[i]? = some a) (hb : (visP c p)[i + 1]? = some b) : a.1 ≤ b.1 := by
  have h : List.Pairwise (fun (a b : Nat × Int) => a.1 ≤ b.1) (visP c p) := by
    unfold visP visOf
    rw [List.pairwise_map]
    exact (stopsF_ord p 0).sublist List.filter_sublist
  obtain ⟨h1, e1⟩ := List.getElem?_eq_some_iff.1 ha
  obtain ⟨h2, e2⟩ := List.getElem?_eq_some_iff.1 hb
  have := List.pairwise_iff_getElem.1 h i (i + 1) h1 h2 (Nat.lt_succ_self _)
  rw [e1, e2] at this
  exact this
end Go.Proofs.Ytokdneolgolkbaa.P08
