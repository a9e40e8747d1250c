/- Plain words for instances that are the same. No program in sight. -/
import Derived.Test.YtifdggdpglphmaaP06f
namespace Go.Proofs.Ytifdggdpglphmaa.P06

/-- Lists alike, element by element. -/
def eqAll {α : Type} (f : α → α → Bool) : List α → List α → Bool
  | [], [] => true
  | a :: l, b :: m => f a b && eqAll f l m
  | [], _ :: _ => false
  | _ :: _, [] => false
theorem eqAll_refl {α : Type} (f : α → α → Bool) (h : ∀ a, f a a = true) : ∀ l, eqAll f l l = true
  | [] => rfl
  | a :: l => by rw [eqAll, h, eqAll_refl f h l]; rfl
theorem eqAll_len {α : Type} (f : α → α → Bool) : ∀ l m : List α, l.length ≠ m.length → eqAll f l m = false
  | [], [], h => absurd rfl h
  | a :: l, b :: m, h => by rw [eqAll, eqAll_len f l m (fun e => h (by simp [e])), Bool.and_false]
  | [], _ :: _, _ => rfl
  | _ :: _, [], _ => rfl
theorem eqAll_step {α : Type} (f : α → α → Bool) {l m : List α} {k : Nat} {a b : α} (ha : l[k]? = some a) (hb : m[k]? = some b) : eqAll f (l.drop k) (m.drop k) = (f a b && eqAll f (l.drop (k + 1)) (m.drop (k + 1))) := by
  obtain ⟨hl, rfl⟩ := List.getElem?_eq_some_iff.1 ha
  obtain ⟨hm, rfl⟩ := List.getElem?_eq_some_iff.1 hb
  rw [List.drop_eq_getElem_cons hl, List.drop_eq_getElem_cons hm, eqAll]
theorem eqAll_end {α : Type} (f : α → α → Bool) {l m : List α} {n : Nat} (h1 : l.length ≤ n) (h2 : m.length ≤ n) : eqAll f (l.drop n) (m.drop n) = true := by
  rw [List.drop_of_length_le h1, List.drop_of_length_le h2]
  rfl
def intsEq (l m : List Int) : Bool := eqAll (fun a b => a == b) l m
def patsEq (l m : List Nat) : Bool := eqAll (fun a b => a == b) l m
/-- Are customers the same? -/
def custEq (a b : Cust) : Bool := decide (a.kind = b.kind ∧ a.demand = b.demand ∧ a.rate = b.rate ∧ a.size = b.size ∧ a.start = b.start ∧ a.rule = b.rule ∧ a.hold = b.hold) && patsEq a.pats b.pats
/-- Are instances the same? -/
def sameP (x y : Inst) : Bool := decide (x.days = y.days ∧ x.veh = y.veh ∧ x.cap = y.cap ∧ x.len = y.len) && (eqAll custEq x.custs y.custs && eqAll intsEq x.dist y.dist)
theorem custEq_f1 {a b : Cust} (h : ¬ (a.kind = b.kind ∧ a.demand = b.demand ∧ a.rate = b.rate ∧ a.size = b.size ∧ a.start = b.start ∧ a.rule = b.rule ∧ a.hold = b.hold)) : custEq a b = false := by simp only [custEq, decide_eq_false h, Bool.false_and]
theorem custEq_t {a b : Cust} (h : a.kind = b.kind ∧ a.demand = b.demand ∧ a.rate = b.rate ∧ a.size = b.size ∧ a.start = b.start ∧ a.rule = b.rule ∧ a.hold = b.hold) : custEq a b = patsEq a.pats b.pats := by simp only [custEq, decide_eq_true h, Bool.true_and]
theorem custEq_fp {a b : Cust} (h : patsEq a.pats b.pats = false) : custEq a b = false := by simp only [custEq, h, Bool.and_false]
theorem sameP_f {x y : Inst} (h : ¬ (x.days = y.days ∧ x.veh = y.veh ∧ x.cap = y.cap ∧ x.len = y.len)) : sameP x y = false := by simp only [sameP, decide_eq_false h, Bool.false_and]
theorem sameP_t {x y : Inst} (h : x.days = y.days ∧ x.veh = y.veh ∧ x.cap = y.cap ∧ x.len = y.len) : sameP x y = (eqAll custEq x.custs y.custs && eqAll intsEq x.dist y.dist) := by simp only [sameP, decide_eq_true h, Bool.true_and]
theorem intsEq_refl (l : List Int) : intsEq l l = true := eqAll_refl _ (fun a => by simp) l
theorem patsEq_refl (l : List Nat) : patsEq l l = true := eqAll_refl _ (fun a => by simp) l
theorem custEq_refl (a : Cust) : custEq a a = true := by rw [custEq_t ⟨rfl, rfl, rfl, rfl, rfl, rfl, rfl⟩, patsEq_refl]
theorem sameP_refl (x : Inst) : sameP x x = true := by rw [sameP_t ⟨rfl, rfl, rfl, rfl⟩, eqAll_refl _ custEq_refl, eqAll_refl _ intsEq_refl]; rfl
theorem eqAll_iff {α : Type} (f : α → α → Bool) (h : ∀ a b, f a b = true → a = b) : ∀ l m : List α, eqAll f l m = true → l = m
  | [], [], _ => rfl
  | a :: l, b :: m, e => by
    simp only [eqAll, Bool.and_eq_true] at e
    rw [h a b e.1, eqAll_iff f h l m e.2]
  | [], _ :: _, e => by cases e
  | _ :: _, [], e => by cases e
theorem custEq_iff (a b : Cust) (h : custEq a b = true) : a = b := by
  simp only [custEq, Bool.and_eq_true, decide_eq_true_eq] at h
  obtain ⟨⟨h1, h2, h3, h4, h5, h6, h7⟩, h8⟩ := h
  have h8 := eqAll_iff _ (fun a b e => by simpa using e) _ _ h8
  cases a; cases b
  simp only at *
  subst h1; subst h2; subst h3; subst h4; subst h5; subst h6; subst h7; subst h8
  rfl
theorem sameP_iff (x y : Inst) (h : sameP x y = true) : x = y := by
  simp only [sameP, Bool.and_eq_true, decide_eq_true_eq] at h
  obtain ⟨⟨h1, h2, h3, h4⟩, h5, h6⟩ := h
  have h5 := eqAll_iff _ custEq_iff _ _ h5
  have h6 := eqAll_iff _ (fun a b e => eqAll_iff _ (fun a b e => by simpa using e) a b e) _ _ h6
  cases x; cases y
  simp only at *
  subst h1; subst h2; subst h3; subst h4; subst h5; subst h6
  rfl
end Go.Proofs.Ytifdggdpglphmaa.P06
