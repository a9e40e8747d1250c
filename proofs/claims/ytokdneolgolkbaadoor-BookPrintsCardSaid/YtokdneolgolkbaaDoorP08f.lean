/- How many lines a plan's text has, and how long it is. No program in sight. -/
import Derived.Test.YtokdneolgolkbaaDoorP08e
namespace Go.Proofs.YtokdneolgolkbaaDoor.P08
open P05

theorem count_lineP {ws : List (List UInt8)} (h : ∀ w ∈ ws, isWord w = true) : (lineP ws).count 10 = 1 := by
  unfold lineP
  rw [List.count_append, List.count_eq_zero_of_not_mem (joinB_no ws h)]
  rfl
theorem count_lines : ∀ (L : List (List (List UInt8))), (∀ ws ∈ L, ∀ w ∈ ws, isWord w = true) → (L.flatMap lineP).count 10 = L.length
  | [], _ => rfl
  | ws :: L, h => by
    rw [List.flatMap_cons, List.count_append, count_lineP (h ws (by simp)), count_lines L (fun x hx => h x (by simp [hx])), List.length_cons]
    omega
theorem decN_word {n : Nat} (h : n ≤ 1000) : isWord (decI (n : Int)) = true := decI_word ⟨by omega, by omega⟩
theorem tour_words {t : Tr} (ht : t.length ≤ 1000) (hw : ∀ s ∈ t, W64s s) : ∀ w ∈ tourWords t, isWord w = true := by
  intro w h
  unfold tourWords at h
  rw [List.mem_append] at h
  rcases h with h | h
  · simp only [List.mem_cons, List.not_mem_nil, or_false] at h
    rcases h with rfl | rfl
    · decide
    · exact decN_word ht
  · obtain ⟨s, hs, hx⟩ := List.mem_flatMap.1 h
    simp only [List.mem_cons, List.not_mem_nil, or_false] at hx
    rcases hx with rfl | rfl
    · exact decI_word (hw s hs).1
    · exact decI_word (hw s hs).2
theorem plan_words {p : Pl} (hs : Small p) (hw : Wf p) : ∀ ws ∈ planLines p, ∀ w ∈ ws, isWord w = true := by
  intro ws h w hx
  unfold planLines at h
  rcases List.mem_cons.1 h with rfl | h
  · simp only [List.mem_cons, List.not_mem_nil, or_false] at hx
    rcases hx with rfl | rfl
    · decide
    · exact decN_word (Nat.le_trans hs.days (by omega))
  · obtain ⟨d, hd, h⟩ := List.mem_flatMap.1 h
    unfold dayLines at h
    rcases List.mem_cons.1 h with rfl | h
    · simp only [List.mem_cons, List.not_mem_nil, or_false] at hx
      rcases hx with rfl | rfl
      · decide
      · exact decN_word (Nat.le_trans (hs.tours d hd) (by omega))
    · obtain ⟨t, ht, rfl⟩ := List.mem_map.1 h
      exact tour_words (Nat.le_trans (hs.stops d hd t ht) (by omega)) (hw d hd t ht) w hx
/-- The lines that are wanted, some days counted whole. -/
def wantTo (p : Pl) (k : Nat) : Nat := 1 + p.length + ((p.take k).map List.length).sum
theorem wantTo_zero (p : Pl) : wantTo p 0 = 1 + p.length := by simp [wantTo]
theorem wantTo_succ {p : Pl} {k : Nat} {d : Dy} (h : p[k]? = some d) : wantTo p (k + 1) = wantTo p k + d.length := by
  unfold wantTo
  rw [List.take_add_one, h, Option.toList_some, List.map_append, List.sum_append]
  simp
  omega
theorem days_len : ∀ p : Pl, (p.flatMap dayLines).length = p.length + (p.map List.length).sum
  | [] => rfl
  | d :: p => by
    rw [List.flatMap_cons, List.length_append, days_len p, List.map_cons, List.sum_cons, List.length_cons]
    have : (dayLines d).length = d.length + 1 := by simp [dayLines]
    omega
theorem plan_count {p : Pl} (hs : Small p) (hw : Wf p) : (planText p).count 10 = wantTo p p.length := by
  unfold planText
  rw [count_lines _ (plan_words hs hw)]
  unfold planLines wantTo
  rw [List.length_cons, days_len, List.take_length]
  omega
theorem lineP_len' {l : List (List UInt8)} {m : Nat} (h : ∀ x ∈ l, x.length ≤ m) : (lineP l).length ≤ l.length * (m + 1) + 1 := by
  have hj : ∀ (l : List (List UInt8)), (∀ x ∈ l, x.length ≤ m) → (joinB 32 l).length ≤ l.length * (m + 1) := by
    intro l
    induction l with
    | nil => intro _; simp [joinB]
    | cons a l ih =>
      intro h
      have h1 := h a (by simp)
      have h2 := ih fun x hx => h x (by simp [hx])
      cases l with
      | nil => simp [joinB]; omega
      | cons b l =>
        simp only [joinB, List.length_append, List.length_cons] at h2 ⊢
        rw [Nat.add_mul _ 1]
        simp
        omega
  have := hj l h
  unfold lineP
  rw [List.length_append]
  simp
  omega
theorem dayText_len {d : Dy} (hd : d.length ≤ 1000) (hs : ∀ t ∈ d, t.length ≤ 8) (hw : ∀ t ∈ d, ∀ s ∈ t, W64s s) : ∀ j, j ≤ d.length → (dayText d j).length ≤ 100 + j * 500
  | 0, _ => by
    rw [dayText_zero]
    have := lineP_len' (l := [[100, 97, 121], decI d.length]) (head_len (by decide) hd)
    exact Nat.le_trans this (by simp)
  | j + 1, h => by
    obtain ⟨t, ht⟩ : ∃ t, d[j]? = some t := ⟨d[j]'(by omega), List.getElem?_eq_getElem (by omega)⟩
    have ih := dayText_len hd hs hw j (by omega)
    have hm := List.mem_of_getElem? ht
    have h1 := lineP_len' (l := tourWords t) (m := 21) (by rw [← tourPre_all]; exact tour_len (Nat.le_trans (hs t hm) (by omega)) (hw t hm) _)
    have h2 : (tourWords t).length = 2 + 2 * t.length := by rw [← tourPre_all]; exact tourPre_len t _ (Nat.le_refl _)
    have h3 := hs t hm
    rw [dayText_succ ht, List.length_append]
    rw [h2] at h1
    omega
theorem textTo_len {p : Pl} (hs : Small p) (hw : Wf p) : ∀ k, k ≤ p.length → (textTo p k).length ≤ 100 + k * 4000
  | 0, _ => by
    rw [textTo_zero]
    have := lineP_len' (l := [[112, 108, 97, 110], decI p.length]) (head_len (by decide) (Nat.le_trans hs.days (by omega)))
    exact Nat.le_trans this (by simp)
  | k + 1, h => by
    obtain ⟨d, hd⟩ : ∃ d, p[k]? = some d := ⟨p[k]'(by omega), List.getElem?_eq_getElem (by omega)⟩
    have ih := textTo_len hs hw k (by omega)
    have hm := List.mem_of_getElem? hd
    have h1 := hs.tours d hm
    have h2 := dayText_len (Nat.le_trans h1 (by omega)) (hs.stops d hm) (hw d hm) d.length (Nat.le_refl _)
    rw [textTo_succ hd, List.length_append]
    omega
theorem planText_len {p : Pl} (hs : Small p) (hw : Wf p) : (planText p).length ≤ 100000 := by
  have := textTo_len hs hw p.length (Nat.le_refl _)
  have := hs.days
  rw [← textTo_all]
  omega
end Go.Proofs.YtokdneolgolkbaaDoor.P08
