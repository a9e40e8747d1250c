/- Plain words for instances: what may be planned. No program in sight. -/
import Derived.Test.YtokdneolgolkbaaDoorP02
namespace Go.Proofs.YtokdneolgolkbaaDoor.P06

structure Cust where
  kind : Int
  demand : Int
  pats : List Nat
  rate : Int
  size : Int
  start : Int
  rule : Int
  hold : Int

structure Inst where
  days : Int
  veh : Int
  cap : Int
  len : Int
  custs : List Cust
  dist : List (List Int)

def W64 (z : Int) : Prop := -9223372036854775808 ≤ z ∧ z ≤ 9223372036854775807
def Cust.wf (c : Cust) : Prop := W64 c.kind ∧ W64 c.demand ∧ (∀ s ∈ c.pats, s < 18446744073709551616) ∧ W64 c.rate ∧ W64 c.size ∧ W64 c.start ∧ W64 c.rule ∧ W64 c.hold
def Inst.wf (x : Inst) : Prop := W64 x.days ∧ W64 x.veh ∧ W64 x.cap ∧ W64 x.len ∧ (∀ c ∈ x.custs, c.wf) ∧ (∀ r ∈ x.dist, ∀ z ∈ r, W64 z)

def fromB (n lo hi : Int) : Bool := decide (lo ≤ n) && decide (n ≤ hi)
def patternedB (l : List Nat) (days : Int) : Bool := l.all (fun p => decide (P02.next p days < 0)) && fromB l.length 1 64
def tanklessB (c : Cust) : Bool := c.rate == 0 && c.size == 0 && c.start == 0 && c.rule == 0 && c.hold == 0
def ruledB (c : Cust) : Bool := c.rule == 1 || c.rule == 2
def patternlessB (c : Cust) : Bool := decide (c.pats.length = 0) && c.demand == 0
/-- What a customer of its kind must be. -/
def musts1 (c : Cust) (days : Int) : List Bool := [fromB c.demand 1 2147483648, patternedB c.pats days, tanklessB c]
def musts2 (c : Cust) : List Bool := [fromB c.rate 0 2147483648, fromB c.size 1 2147483648, fromB c.start 0 c.size, ruledB c, fromB c.hold 0 1024, patternlessB c]
def custMay (c : Cust) (days : Int) : Bool :=
  if c.kind = 1 then (musts1 c days).all id else if c.kind = 2 then (musts2 c).all id else false
/-- May the distances of so many places be? -/
def rowMay (a places : Nat) (r : List Int) : Bool := decide (r.length = places) && decide (r[a]?.getD 0 = 0) && r.all fun d => fromB d 0 2147483648
def rowsMay (places : Nat) : Nat → List (List Int) → Bool
  | _, [] => true
  | a, r :: t => rowMay a places r && rowsMay places (a + 1) t
/-- A row, cell by cell. -/
def cellsMay (a : Nat) : Nat → List Int → Bool
  | _, [] => true
  | k, z :: t => (fromB z 0 2147483648 && (decide (k ≠ a) || decide (z = 0))) && cellsMay a (k + 1) t
theorem cellsMay_eq (a : Nat) : ∀ (l : List Int) (k : Nat), cellsMay a k l = (decide (k ≤ a → l[a - k]?.getD 0 = 0) && l.all fun d => fromB d 0 2147483648)
  | [], k => by simp [cellsMay]
  | z :: t, k => by
    rw [cellsMay, cellsMay_eq a t (k + 1), List.all_cons]
    generalize fromB z 0 2147483648 = b
    generalize (t.all fun d => fromB d 0 2147483648) = c
    by_cases h1 : k = a
    · subst h1
      have e : ¬ k + 1 ≤ k := by omega
      simp [e, Bool.and_assoc, Bool.and_comm, Bool.and_left_comm]
    · by_cases h2 : k ≤ a
      · have e1 : k + 1 ≤ a := by omega
        have e2 : a - k = (a - (k + 1)) + 1 := by omega
        rw [e2, List.getElem?_cons_succ]
        simp [h1, h2, e1, Bool.and_left_comm]
      · have e1 : ¬ k + 1 ≤ a := by omega
        simp [h1, h2, e1]
theorem rowMay_cells (a places : Nat) (r : List Int) : rowMay a places r = (decide (r.length = places) && cellsMay a 0 r) := by
  rw [rowMay, cellsMay_eq, Nat.sub_zero, Bool.and_assoc]
  simp
def distMay (d : List (List Int)) (places : Nat) : Bool := decide (d.length = places) && rowsMay places 0 d
def may (x : Inst) : Bool :=
  fromB x.days 1 64 && decide (x.custs.length ≤ 2000) && fromB x.veh 0 2147483648 && fromB x.cap 0 2147483648 && fromB x.len 0 2147483648 &&
  x.custs.all (fun c => custMay c x.days) && distMay x.dist (x.custs.length + 1)

/-- The error's number. -/
def mayE (x : Inst) : Int := if may x then 0 else 3
theorem mayE_t {x : Inst} (h : may x = true) : mayE x = 0 := by rw [mayE, h]; rfl
theorem mayE_f {x : Inst} (h : may x = false) : mayE x = 3 := by rw [mayE, h]; rfl
/-- The arc from a place to another; 0, if one is not there. -/
def arc (d : List (List Int)) (a b : Int) : Int := if a < 0 ∨ b < 0 then 0 else ((d[a.toNat]?.getD [])[b.toNat]?).getD 0

end Go.Proofs.YtokdneolgolkbaaDoor.P06
