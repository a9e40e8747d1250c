/- Plain words for plans as text. No program in sight. -/
import Derived.Test.YtokdneolgolkbaaDoorP05b
namespace Go.Proofs.YtokdneolgolkbaaDoor.P08
open P05

/-- A stop: a customer and a quantity. -/
abbrev Stp := Int × Int
abbrev Tr := List Stp
abbrev Dy := List Tr
abbrev Pl := List Dy
def cutT (t : Tr) : Tr := t.take 8
def cutD (d : Dy) : Dy := (d.take 6).map cutT
def cutP (p : Pl) : Pl := (p.take 8).map cutD
def toldI (n : Int) : Bool := decide (0 ≤ n) && decide (n ≤ 1000000000000000000)
def toldS (s : Stp) : Bool := toldI s.1 && toldI s.2
/-- The stops of a day, and of all days, each with its day's number. -/
def stopsT (i : Nat) (t : Tr) : List (Nat × Stp) := t.map fun s => (i, s)
def stopsD (i : Nat) (d : Dy) : List (Nat × Stp) := d.flatMap (stopsT i)
def stopsF : Nat → Pl → List (Nat × Stp)
  | _, [] => []
  | i, d :: p => stopsD i d ++ stopsF (i + 1) p
def stopsP (p : Pl) : List (Nat × Stp) := stopsF 0 p
def toldP (p : Pl) : Bool := (stopsP p).all fun x => toldS x.2
def tourWords (t : Tr) : List (List UInt8) := [[116, 111, 117, 114], decI t.length] ++ t.flatMap fun s => [decI s.1, decI s.2]
def dayLines (d : Dy) : List (List (List UInt8)) := [[100, 97, 121], decI d.length] :: d.map tourWords
def planLines (p : Pl) : List (List (List UInt8)) := [[112, 108, 97, 110], decI p.length] :: p.flatMap dayLines
def planText (p : Pl) : List UInt8 := (planLines p).flatMap lineP

/-- Small numbers of all. -/
structure Small (p : Pl) : Prop where
  days : p.length ≤ 8
  tours : ∀ d ∈ p, d.length ≤ 6
  stops : ∀ d ∈ p, ∀ t ∈ d, t.length ≤ 8
def W64s (s : Stp) : Prop := (-9223372036854775808 ≤ s.1 ∧ s.1 ≤ 9223372036854775807) ∧ (-9223372036854775808 ≤ s.2 ∧ s.2 ≤ 9223372036854775807)
def Wf (p : Pl) : Prop := ∀ d ∈ p, ∀ t ∈ d, ∀ s ∈ t, W64s s
theorem small_cut (p : Pl) : Small (cutP p) := by
  refine ⟨by unfold cutP; simp; omega, fun d hd => ?_, fun d hd t ht => ?_⟩
  · obtain ⟨d0, _, rfl⟩ := List.mem_map.1 hd
    unfold cutD; simp; omega
  · obtain ⟨d0, _, rfl⟩ := List.mem_map.1 hd
    obtain ⟨t0, _, rfl⟩ := List.mem_map.1 ht
    unfold cutT; simp; omega
theorem wf_cut {p : Pl} (h : Wf p) : Wf (cutP p) := by
  intro d hd t ht s hs
  obtain ⟨d0, h0, rfl⟩ := List.mem_map.1 hd
  obtain ⟨t0, h1, rfl⟩ := List.mem_map.1 ht
  exact h d0 (List.mem_of_mem_take h0) t0 (List.mem_of_mem_take h1) s (List.mem_of_mem_take hs)
theorem cutT_get {t : Tr} {k : Nat} {s : Stp} (h : t[k]? = some s) (hk : k < 8) : (cutT t)[k]? = some s := by
  unfold cutT
  rw [List.getElem?_take, if_pos hk, h]
theorem cutD_get {d : Dy} {k : Nat} {t : Tr} (h : d[k]? = some t) (hk : k < 6) : (cutD d)[k]? = some (cutT t) := by
  unfold cutD
  rw [List.getElem?_map, List.getElem?_take, if_pos hk, h]
  rfl
theorem cutP_get {p : Pl} {k : Nat} {d : Dy} (h : p[k]? = some d) (hk : k < 8) : (cutP p)[k]? = some (cutD d) := by
  unfold cutP
  rw [List.getElem?_map, List.getElem?_take, if_pos hk, h]
  rfl
theorem cutT_all {t : Tr} {k : Nat} (h : t.length ≤ k ∨ 8 ≤ k) : (cutT t).take k = cutT t := List.take_of_length_le (by unfold cutT; simp; omega)
theorem cutD_all {d : Dy} {k : Nat} (h : d.length ≤ k ∨ 6 ≤ k) : (cutD d).take k = cutD d := List.take_of_length_le (by unfold cutD; simp; omega)
theorem cutP_all {p : Pl} {k : Nat} (h : p.length ≤ k ∨ 8 ≤ k) : (cutP p).take k = cutP p := List.take_of_length_le (by unfold cutP; simp; omega)
end Go.Proofs.YtokdneolgolkbaaDoor.P08
