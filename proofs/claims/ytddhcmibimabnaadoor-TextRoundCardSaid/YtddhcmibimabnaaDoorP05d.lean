/- A text's lines, read byte by byte by places. No program in sight. -/
import Derived.Test.YtddhcmibimabnaaDoorP05c
namespace Go.Proofs.YtddhcmibimabnaaDoor.P05

/-- What stands from a place to another one. -/
def sub (l : List UInt8) (a b : Nat) : List UInt8 := (l.drop a).take (b - a)
theorem sub_self (l : List UInt8) (a : Nat) : sub l a a = [] := by simp [sub]
theorem sub_snoc {l : List UInt8} {a b : Nat} {c : UInt8} (h : a ≤ b) (hc : l[b]? = some c) : sub l a (b + 1) = sub l a b ++ [c] := by
  unfold sub
  have e : b + 1 - a = (b - a) + 1 := by omega
  rw [e, List.take_add_one, List.getElem?_drop, show a + (b - a) = b by omega, hc]
  rfl
theorem sub_len (l : List UInt8) (a b : Nat) (h : a ≤ b) (hb : b ≤ l.length) : (sub l a b).length = b - a := by simp [sub]; omega
theorem sub_ne {l : List UInt8} {a b : Nat} (h : a < b) (hb : b ≤ l.length) : sub l a b ≠ [] := fun e => by
  have := sub_len l a b (by omega) hb
  rw [e] at this
  simp at this
  omega
theorem drop_at {l : List UInt8} {b : Nat} {c : UInt8} (hc : l[b]? = some c) : l.drop b = c :: l.drop (b + 1) := by
  obtain ⟨h, rfl⟩ := List.getElem?_eq_some_iff.1 hc
  exact List.drop_eq_getElem_cons h
theorem scan_ok {out : List (List (List UInt8))} {line : List (List UInt8)} {cur t : List UInt8} {c : UInt8} (h : okByte c = true) : scan out line cur (c :: t) = scan out line (cur ++ [c]) t := by
  rw [scan, if_pos (okByte_sep h), if_pos h]
theorem scan_bad {out : List (List (List UInt8))} {line : List (List UInt8)} {cur t : List UInt8} {c : UInt8} (h : okByte c = false) (h1 : c ≠ 32) (h2 : c ≠ 10) : scan out line cur (c :: t) = none := by
  rw [scan, if_pos ⟨h1, h2⟩, h]
  rfl
theorem scan_empty {out : List (List (List UInt8))} {line : List (List UInt8)} {t : List UInt8} {c : UInt8} (h : c = 32 ∨ c = 10) : scan out line [] (c :: t) = none := by
  rw [scan, if_neg (by rcases h with h | h <;> simp [h]), if_pos rfl]
theorem scan_sp {out : List (List (List UInt8))} {line : List (List UInt8)} {cur t : List UInt8} (h : cur ≠ []) : scan out line cur (32 :: t) = scan out (line ++ [cur]) [] t := by
  rw [scan, if_neg (by simp), if_neg h, if_neg (by decide)]
theorem scan_nl {out : List (List (List UInt8))} {line : List (List UInt8)} {cur t : List UInt8} (h : cur ≠ []) : scan out line cur (10 :: t) = scan (out ++ [line ++ [cur]]) [] [] t := by
  rw [scan, if_neg (by simp), if_neg h, if_pos rfl]
theorem scan_end_no {out : List (List (List UInt8))} {line : List (List UInt8)} {cur : List UInt8} (h : cur ≠ [] ∨ line ≠ []) : scan out line cur [] = none := by
  rw [scan, if_neg]
  rintro ⟨h1, h2⟩
  rcases h with h | h
  · exact h h1
  · exact h h2
theorem scan_end {out : List (List (List UInt8))} : scan out [] [] [] = some out := rfl
end Go.Proofs.YtddhcmibimabnaaDoor.P05
