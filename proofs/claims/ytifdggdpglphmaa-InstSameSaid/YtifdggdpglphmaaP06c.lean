/- Plain words for instances that are made of any. No program in sight. -/
import Derived.Test.YtifdggdpglphmaaP06
namespace Go.Proofs.Ytifdggdpglphmaa.P06

/-- A number counted round. -/
def rnd (n lo hi : Int) : Int := lo + (if n < 0 then -(n + 1) else n) % (hi - lo + 1)
theorem rnd_bd (n lo hi : Int) (h : lo ≤ hi) : lo ≤ rnd n lo hi ∧ rnd n lo hi ≤ hi := by
  unfold rnd
  have h1 := Int.emod_nonneg (if n < 0 then -(n + 1) else n) (show hi - lo + 1 ≠ 0 by omega)
  have h2 := Int.emod_lt_of_pos (if n < 0 then -(n + 1) else n) (show 0 < hi - lo + 1 by omega)
  omega
/-- The days below n that are in a set, as a set. -/
def goodPat (s : Nat) : Nat → Nat
  | 0 => 0
  | d + 1 => if P02.has s d then P02.put (goodPat s d) d else goodPat s d
def goodPats (l : List Nat) (days : Int) : List Nat :=
  if l.take 4 = [] then [1] else (l.take 4).map fun s => goodPat s days.toNat
def goodC (c : Cust) (days : Int) : Cust :=
  if c.kind % 2 = 0 then ⟨2, 0, [], rnd c.rate 0 9, rnd c.size 1 30, rnd c.start 0 (rnd c.size 1 30), rnd c.rule 1 2, rnd c.hold 0 4⟩
  else ⟨1, rnd c.demand 1 15, goodPats c.pats days, 0, 0, 0, 0, 0⟩
def goodRow (d : List (List Int)) (n i : Nat) : List Int := (List.range n).map fun k => if i = k then 0 else rnd (arc d i k) 0 60
def goodP (x : Inst) : Inst :=
  let days := rnd x.days 1 7
  let custs := (x.custs.take 6).map fun c => goodC c days
  ⟨days, rnd x.veh 0 5, rnd x.cap 0 40, rnd x.len 0 300, custs, (List.range (custs.length + 1)).map fun i => goodRow x.dist (custs.length + 1) i⟩
theorem goodRow_len (d : List (List Int)) (n i : Nat) : (goodRow d n i).length = n := by simp [goodRow]
theorem goodRow_get (d : List (List Int)) (n i k : Nat) (h : k < n) : (goodRow d n i)[k]? = some (if i = k then 0 else rnd (arc d i k) 0 60) := by
  simp [goodRow, h]
theorem arc_wf (d : List (List Int)) (a b : Int) (h : ∀ r ∈ d, ∀ z ∈ r, W64 z) : W64 (arc d a b) := by
  have h0 : W64 0 := ⟨by omega, by omega⟩
  unfold arc
  split
  · exact h0
  · cases hr : d[a.toNat]? with
    | none => simpa using h0
    | some r =>
      simp only [Option.getD_some]
      cases hz : r[b.toNat]? with
      | none => exact h0
      | some z => exact h r (List.mem_of_getElem? hr) z (List.mem_of_getElem? hz)
end Go.Proofs.Ytifdggdpglphmaa.P06
