/- All stops of a plan, one by one. No program in sight. -/
import Derived.Test.YtokdneolgolkbaaDoorP08
namespace Go.Proofs.YtokdneolgolkbaaDoor.P08

theorem stopsF_append : ∀ (a b : Pl) (i : Nat), stopsF i (a ++ b) = stopsF i a ++ stopsF (i + a.length) b
  | [], b, i => by simp [stopsF]
  | d :: a, b, i => by
    rw [List.cons_append, stopsF, stopsF, stopsF_append a b (i + 1), List.append_assoc, List.length_cons]
    congr 3
    omega
theorem stopsF_one (i : Nat) (d : Dy) : stopsF i [d] = stopsD i d := by simp [stopsF]
theorem stopsF_snoc {p : Pl} {k : Nat} {d : Dy} (h : p[k]? = some d) : stopsF 0 (p.take (k + 1)) = stopsF 0 (p.take k) ++ stopsD k d := by
  have hk := (List.getElem?_eq_some_iff.1 h).1
  rw [List.take_add_one, h, Option.toList_some, stopsF_append, stopsF_one, List.length_take, Nat.min_eq_left (by omega), Nat.zero_add]
theorem stopsD_snoc {d : Dy} {j i : Nat} {t : Tr} (h : d[j]? = some t) : stopsD i (d.take (j + 1)) = stopsD i (d.take j) ++ stopsT i t := by
  unfold stopsD
  rw [List.take_add_one, h, Option.toList_some, List.flatMap_append]
  simp
theorem stopsT_snoc {t : Tr} {j i : Nat} {s : Stp} (h : t[j]? = some s) : stopsT i (t.take (j + 1)) = stopsT i (t.take j) ++ [(i, s)] := by
  unfold stopsT
  rw [List.take_add_one, h, Option.toList_some, List.map_append]
  rfl
theorem stopsT_all {t : Tr} {j i : Nat} (h : t.length ≤ j) : stopsT i (t.take j) = stopsT i t := by rw [List.take_of_length_le h]
theorem stopsD_all {t : Dy} {j i : Nat} (h : t.length ≤ j) : stopsD i (t.take j) = stopsD i t := by rw [List.take_of_length_le h]
theorem stopsF_all {t : Pl} {j i : Nat} (h : t.length ≤ j) : stopsF i (t.take j) = stopsF i t := by rw [List.take_of_length_le h]
theorem stopsF_pre {p : Pl} (k : Nat) : stopsF 0 (p.take k) <+: stopsP p := by
  have e : stopsP p = stopsF 0 (p.take k ++ p.drop k) := by rw [List.take_append_drop]; rfl
  rw [e, stopsF_append]
  exact List.prefix_append _ _
theorem stopsD_pre {d : Dy} (i j : Nat) : stopsD i (d.take j) <+: stopsD i d := by
  have e : stopsD i d = stopsD i (d.take j ++ d.drop j) := by rw [List.take_append_drop]
  rw [e]
  unfold stopsD
  rw [List.flatMap_append]
  exact List.prefix_append _ _
/-- What has come, and the next stop, begin the whole. -/
theorem stops_pre {p : Pl} {k j i : Nat} {d : Dy} {t : Tr} {s : Stp} (hd : p[k]? = some d) (ht : d[j]? = some t) (hs : t[i]? = some s) :
    stopsF 0 (p.take k) ++ stopsD k (d.take j) ++ stopsT k (t.take i) ++ [(k, s)] <+: stopsP p := by
  refine List.IsPrefix.trans ?_ (stopsF_pre (p := p) (k + 1))
  rw [stopsF_snoc hd, List.append_assoc, List.append_assoc]
  refine (List.prefix_append_right_inj _).2 ?_
  refine List.IsPrefix.trans ?_ (stopsD_pre (d := d) k (j + 1))
  rw [stopsD_snoc ht]
  refine (List.prefix_append_right_inj _).2 ?_
  rw [← stopsT_snoc hs]
  unfold stopsT
  exact List.IsPrefix.map _ (List.take_prefix _ _)
theorem stopsT_len (i : Nat) (t : Tr) : (stopsT i t).length = t.length := by simp [stopsT]
theorem stopsD_len {d : Dy} (i : Nat) (h : ∀ t ∈ d, t.length ≤ 8) : (stopsD i d).length ≤ 8 * d.length := by
  unfold stopsD
  induction d with
  | nil => simp
  | cons t d ih =>
    have h1 := h t (by simp)
    have h2 := ih fun x hx => h x (by simp [hx])
    rw [List.flatMap_cons, List.length_append, stopsT_len, List.length_cons]
    omega
theorem stopsF_len : ∀ (p : Pl) (i : Nat), (∀ d ∈ p, d.length ≤ 6) → (∀ d ∈ p, ∀ t ∈ d, t.length ≤ 8) → (stopsF i p).length ≤ 48 * p.length
  | [], i, _, _ => by simp [stopsF]
  | d :: p, i, h1, h2 => by
    have a := stopsD_len i (h2 d (by simp))
    have b := h1 d (by simp)
    have c := stopsF_len p (i + 1) (fun x hx => h1 x (by simp [hx])) (fun x hx => h2 x (by simp [hx]))
    rw [stopsF, List.length_append, List.length_cons]
    omega
theorem stopsP_len {p : Pl} (h : Small p) : (stopsP p).length ≤ 384 := by
  have := stopsF_len p 0 h.tours h.stops
  have := h.days
  unfold stopsP
  omega
end Go.Proofs.YtokdneolgolkbaaDoor.P08
