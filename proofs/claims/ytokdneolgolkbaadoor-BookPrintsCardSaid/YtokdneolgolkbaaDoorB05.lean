/- Small words on strings of bytes. No condition. -/
import Derived.Test.YtokdneolgolkbaaDoorP05b
import Derived.Test.YtokdneolgolkbaaDoorMem
import Derived.Test.YtokdneolgolkbaaDoorM05
import Derived.IntWalk
import Derived.WalkSmall
namespace Go.Proofs.YtokdneolgolkbaaDoor
open Go.RowKit P05


theorem take_snoc (s : ByteArray) (k : Nat) (h : k < s.size) : s.data.toList.take (k + 1) = s.data.toList.take k ++ [s[k]] := by
  rw [List.take_succ_eq_append_getElem (by simpa using h)]; rfl
theorem data_len (s : ByteArray) : s.data.toList.length = s.size := by rw [Array.length_toList]; rfl
theorem take_all (s : ByteArray) : s.data.toList.take s.size = s.data.toList := List.take_of_length_le (by rw [data_len]; exact Nat.le_refl _)
theorem okByte_iff (c : UInt8) : okByte c = true ↔ 33 ≤ (c.toNat : Int) ∧ (c.toNat : Int) ≤ 126 := by
  unfold okByte
  rw [Bool.and_eq_true, decide_eq_true_eq, decide_eq_true_eq]
  omega
theorem str_nonempty (s : ByteArray) (h : 0 < s.size) : s.toList.isEmpty = false := by
  rw [ByteArray.toList_eq]
  cases e : s.data.toList with
  | nil => have := data_len s; rw [e] at this; simp at this; omega
  | cons a t => rfl
theorem str_empty (s : ByteArray) (h : s.size = 0) : s = ⟨#[]⟩ := by
  cases s with
  | mk d =>
    have : d = #[] := Array.eq_empty_of_size_eq_zero h
    rw [this]
theorem mem_data (s : ByteArray) (k : Nat) (h : k < s.size) : s[k] ∈ s.data.toList := List.getElem_mem (l := s.data.toList) (by rw [data_len]; exact h)
theorem ne_nil_of_size (s : ByteArray) (h : 0 < s.size) : s.data.toList ≠ [] := fun e => by have := data_len s; rw [e] at this; simp at this; omega

theorem mk_data (s : ByteArray) : (⟨s.data.toList.toArray⟩ : ByteArray) = s := by cases s; simp

theorem str_append (a b : List UInt8) : (⟨a.toArray⟩ : ByteArray) ++ (⟨b.toArray⟩ : ByteArray) = ⟨(a ++ b).toArray⟩ := by
  apply ByteArray.ext
  rw [ByteArray.data_append]
  simp
theorem bstr_append (a b : List UInt8) : Value.string ((⟨a.toArray⟩ : ByteArray) ++ (⟨b.toArray⟩ : ByteArray)) = bstr (a ++ b) := by
  rw [str_append]
  rfl
theorem joinB_snoc (b : UInt8) : ∀ (l : List (List UInt8)) (x : List UInt8), joinB b (l ++ [x]) = if l.isEmpty = true then x else joinB b l ++ [b] ++ x
  | [], x => rfl
  | [a], x => by simp [joinB]
  | a :: c :: t, x => by
    have ih := joinB_snoc b (c :: t) x
    simp only [List.isEmpty_cons, List.cons_append, joinB] at ih ⊢
    simp [ih]
theorem joinB_len (b : UInt8) (m : Nat) : ∀ (l : List (List UInt8)), (∀ x ∈ l, x.length ≤ m) → (joinB b l).length ≤ l.length * (m + 1)
  | [], _ => by simp [joinB]
  | [a], h => by
    have := h a (by simp)
    simp [joinB]
    omega
  | a :: c :: t, h => by
    have ih := joinB_len b m (c :: t) fun x hx => h x (by simp at hx ⊢; exact .inr hx)
    have := h a (by simp)
    simp only [joinB, List.length_append, List.length_cons] at ih ⊢
    rw [Nat.add_mul _ 1]
    omega
theorem ba_append (a b : ByteArray) : (a ++ b).data.toList = a.data.toList ++ b.data.toList := by
  rw [ByteArray.data_append]
  simp
theorem ba_eta (s : ByteArray) (l : List UInt8) (h : s.data.toList = l) : s = ⟨l.toArray⟩ := by
  subst h
  cases s
  simp
theorem all_take_snoc {α : Type} {f : α → Bool} {l : List α} {k : Nat} {a : α} (h : (l.take k).all f = true) (hk : l[k]? = some a) (ha : f a = true) : (l.take (k + 1)).all f = true := by
  rw [List.take_add_one, hk, List.all_append, h]
  simp [ha]
end Go.Proofs.YtokdneolgolkbaaDoor
