/- The library's words for cutting and splitting, in plain words. No program in sight. -/
import Derived.Test.YtokdneolgolkbaaDoorP05b
import Derived.Lib.SplitLaws
import Derived.Lib.Join
namespace Go.Proofs.YtokdneolgolkbaaDoor.P05
open Go

theorem index_one (c : UInt8) : ∀ (p q : List UInt8), c ∉ p → Lib.index (p ++ c :: q) [c] = p.length
  | [], q, _ => by simp [Lib.index, List.isPrefixOf]
  | b :: p, q, h => by
    have hb : c ≠ b := fun e => h (by simp [e])
    have ih := index_one c p q (fun e => h (by simp [e]))
    rw [List.cons_append, Lib.index]
    have hp : ([c] : List UInt8).isPrefixOf (b :: (p ++ c :: q)) = false := by simp [List.isPrefixOf, hb]
    rw [hp, ih]
    have : ((p.length : Int) == -1) = false := by rw [beq_eq_false_iff_ne]; omega
    simp [this]
theorem index_none (c : UInt8) : ∀ (p : List UInt8), c ∉ p → Lib.index p [c] = -1
  | [], _ => by simp [Lib.index]
  | b :: p, h => by
    have hb : c ≠ b := fun e => h (by simp [e])
    have ih := index_none c p (fun e => h (by simp [e]))
    rw [Lib.index]
    have hp : ([c] : List UInt8).isPrefixOf (b :: p) = false := by simp [List.isPrefixOf, hb]
    rw [hp, ih]
    simp
theorem split_at (c : UInt8) : ∀ (s : List UInt8), c ∈ s → ∃ p q, s = p ++ c :: q ∧ c ∉ p
  | [], h => by simp at h
  | b :: t, h => by
    by_cases e : b = c
    · subst e; exact ⟨[], t, rfl, by simp⟩
    · obtain ⟨p, q, h1, h2⟩ := split_at c t (by
        rcases List.mem_cons.1 h with h | h
        · exact absurd h.symm e
        · exact h)
      exact ⟨b :: p, q, by rw [h1]; rfl, by simp [h2, Ne.symm e]⟩
theorem splitK_pieces (c : UInt8) : ∀ (k : Nat) (s : List UInt8), s.count c = k → Lib.splitK [c] 0 k s = pieces c s
  | 0, s, h => by rw [pieces_no c s (List.count_eq_zero.1 h)]; rfl
  | k + 1, s, h => by
    obtain ⟨p, q, rfl, hp⟩ := split_at c s (List.count_pos_iff.1 (by omega))
    have hc : q.count c = k := by
      rw [List.count_append, List.count_cons, List.count_eq_zero.2 hp] at h
      simp at h
      exact h
    rw [Lib.splitK, index_one c p q hp, pieces_word c p q hp]
    have : ((p.length : Int) == -1) = false := by rw [beq_eq_false_iff_ne]; omega
    rw [this]
    simp only [Int.toNat_natCast, Nat.add_zero, List.length_singleton]
    rw [if_neg (by simp), List.take_left, show p ++ c :: q = (p ++ [c]) ++ q by simp, List.drop_left' (by simp), splitK_pieces c k q hc]
/-- What strings.Split hands back at a separator of one byte. -/
theorem splitB_pieces (c : UInt8) (s : ByteArray) : (Lib.splitB ⟨#[c]⟩ 0 (Lib.countB s ⟨#[c]⟩) s).map (·.data.toList) = pieces c s.data.toList := by
  rw [Lib.splitB_data]
  refine splitK_pieces c _ _ ?_
  exact (Lib.count_one c s.data.toList).symm
theorem cut_hit (c : UInt8) (p q : List UInt8) (h : c ∉ p) : Lib.cut (p ++ c :: q) [c] = (p, q, true) := by
  unfold Lib.cut
  rw [index_one c p q h, if_pos (by omega)]
  simp
theorem cut_miss (c : UInt8) (p : List UInt8) (h : c ∉ p) : Lib.cut p [c] = (p, [], false) := by
  unfold Lib.cut
  rw [index_none c p h, if_neg (by omega)]
theorem join_joinB (b : UInt8) : ∀ ws : List (List UInt8), Lib.join ws [b] = joinB b ws
  | [] => by simp [Lib.join, joinB]
  | [w] => by simp [Lib.join, joinB]
  | w :: v :: t => by
    have := join_joinB b (v :: t)
    unfold Lib.join at this ⊢
    rw [joinB, ← this]
    simp [List.intercalate]
end Go.Proofs.YtokdneolgolkbaaDoor.P05
