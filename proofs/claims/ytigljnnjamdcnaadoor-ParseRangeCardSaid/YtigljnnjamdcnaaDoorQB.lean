/-
  Plain facts on sets of days: bits of a number. No program in sight.
  Plain words for instances: what may be planned. No program in sight.
  Plain words for instances that are made of any. No program in sight.
  Plain words for a tour's way. No program in sight.
  Instances that are made of any may be: their numbers fit. No program in sight.
  The least arcs that come to, and leave, a customer; ways and their parts. No program in sight.
  Plain words for instances that are the same. No program in sight.
-/
namespace Go.Proofs.YtigljnnjamdcnaaDoor.P02

/-- The 64 bits of a number. -/
def bits (s : Nat) : List Int := (List.range 64).map fun d => ((s / 2 ^ d % 2 : Nat) : Int)
theorem bits_len (s : Nat) : (bits s).length = 64 := by simp [bits]
theorem bits_get (s d : Nat) (h : d < 64) : (bits s)[d]? = some ((s / 2 ^ d % 2 : Nat) : Int) := by
  simp [bits, h]
/-- The number of bits. -/
def num : List Int → Nat
  | [] => 0
  | b :: r => 2 * num r + b.toNat
theorem num_lt : ∀ l : List Int, (∀ z ∈ l, 0 ≤ z ∧ z ≤ 1) → num l < 2 ^ l.length
  | [], _ => by simp [num]
  | b :: r, h => by
    have h1 := num_lt r fun z hz => h z (by simp [hz])
    have h2 := h b (by simp)
    rw [num, List.length_cons, Nat.pow_succ]
    omega
theorem num_bits_aux (s : Nat) : ∀ n k, num ((List.range' k n).map fun d => ((s / 2 ^ d % 2 : Nat) : Int)) = s / 2 ^ k % 2 ^ n
  | 0, k => by simp [num, Nat.mod_one]
  | n + 1, k => by
    rw [List.range'_succ, List.map_cons, num, num_bits_aux s n (k + 1)]
    rw [Nat.pow_succ' (n := k), Nat.mul_comm 2 (2 ^ k), ← Nat.div_div_eq_div_mul, Int.toNat_natCast, Nat.pow_succ', Nat.mod_mul]
    omega
theorem num_bits (s : Nat) (h : s < 18446744073709551616) : num (bits s) = s := by
  have := num_bits_aux s 64 0
  rw [← List.range_eq_range'] at this
  rw [bits, this]
  simp
  omega
theorem bits_01 (s : Nat) : ∀ z ∈ bits s, 0 ≤ z ∧ z ≤ 1 := by
  intro z hz
  simp only [bits, List.mem_map] at hz
  obtain ⟨d, _, rfl⟩ := hz
  omega

/-- Is a day in the set? -/
def has (s : Nat) (d : Int) : Bool := decide (0 ≤ d) && decide (d ≤ 63) && decide (s / 2 ^ d.toNat % 2 = 1)
/-- The set with a day. -/
def put (s : Nat) (d : Int) : Nat := if 0 ≤ d ∧ d ≤ 63 then num ((bits s).set d.toNat 1) else s
theorem put_lt (s : Nat) (d : Int) (h : s < 18446744073709551616) : put s d < 18446744073709551616 := by
  unfold put
  split
  · have := num_lt ((bits s).set d.toNat 1) (fun z hz => by
      rcases List.mem_or_eq_of_mem_set hz with h | h
      · exact bits_01 s z h
      · omega)
    rw [List.length_set, bits_len] at this
    simpa using this
  · exact h
/-- The days from one on that are in the set, rising. -/
def days (s : Nat) (from_ : Int) : List Int := ((List.range 64).map Int.ofNat).filter fun d => decide (from_ ≤ d) && has s d
/-- The first day from one on; -1, if there is none. -/
def next (s : Nat) (d : Int) : Int := (days s d).headD (-1)
/-- The days below k, from one on, that are in the set. -/
def upTo (s : Nat) (d : Int) (k : Nat) : List Int := ((List.range k).map Int.ofNat).filter fun x => decide (d ≤ x) && has s x
theorem days_upTo (s : Nat) (d : Int) : days s d = upTo s d 64 := rfl
theorem upTo_succ (s : Nat) (d : Int) (k : Nat) (h : d ≤ k) : upTo s d (k + 1) = upTo s d k ++ if has s k then [(k : Int)] else [] := by
  unfold upTo
  rw [List.range_succ, List.map_append, List.filter_append]
  congr 1
  simp only [List.map_cons, List.map_nil, List.filter_cons, List.filter_nil]
  rw [show Int.ofNat k = (k : Int) from rfl]
  simp [h]
theorem upTo_start (s : Nat) (d : Int) (k : Nat) (h : (k : Int) ≤ d ∨ k = 0) : upTo s d k = [] := by
  unfold upTo
  rw [List.filter_eq_nil_iff]
  intro x hx
  obtain ⟨y, hy, rfl⟩ := List.mem_map.1 hx
  have := List.mem_range.1 hy
  have e : ¬ d ≤ (y : Int) := by omega
  simp [e]
theorem upTo_len (s : Nat) (d : Int) (k : Nat) : (upTo s d k).length ≤ k := Nat.le_trans (List.length_filter_le _ _) (by simp)
/-- The first number from d on. -/
def first (d : Int) (l : List Int) : Int := (l.filter fun z => decide (d ≤ z)).headD (-1)
theorem first_cons (d z : Int) (l : List Int) : first d (z :: l) = if d ≤ z then z else first d l := by
  unfold first
  by_cases h : d ≤ z <;> simp [h]
theorem has_nonneg {s : Nat} {d : Int} (h : has s d = true) : 0 ≤ d := by
  simp only [has, Bool.and_eq_true, decide_eq_true_eq] at h; exact h.1.1
theorem first_days (s : Nat) (d : Int) : first d (days s 0) = next s d := by
  unfold first next days
  rw [List.filter_filter]
  refine congrArg (fun l => List.headD l (-1)) (List.filter_congr ?_)
  intro x _
  by_cases h : has s x = true
  · have := has_nonneg h
    simp [h, this]
  · simp [h]
theorem days_len (s : Nat) (d : Int) : (days s d).length ≤ 64 := Nat.le_trans (List.length_filter_le _ _) (by simp)
end Go.Proofs.YtigljnnjamdcnaaDoor.P02

namespace Go.Proofs.YtigljnnjamdcnaaDoor.P06

structure Cust where
  kind : Int
  demand : Int
  pats : List Nat
  rate : Int
  size : Int
  start : Int
  rule : Int
  hold : Int

structure Inst where
  days : Int
  veh : Int
  cap : Int
  len : Int
  custs : List Cust
  dist : List (List Int)

def W64 (z : Int) : Prop := -9223372036854775808 ≤ z ∧ z ≤ 9223372036854775807
def Cust.wf (c : Cust) : Prop := W64 c.kind ∧ W64 c.demand ∧ (∀ s ∈ c.pats, s < 18446744073709551616) ∧ W64 c.rate ∧ W64 c.size ∧ W64 c.start ∧ W64 c.rule ∧ W64 c.hold
def Inst.wf (x : Inst) : Prop := W64 x.days ∧ W64 x.veh ∧ W64 x.cap ∧ W64 x.len ∧ (∀ c ∈ x.custs, c.wf) ∧ (∀ r ∈ x.dist, ∀ z ∈ r, W64 z)

def fromB (n lo hi : Int) : Bool := decide (lo ≤ n) && decide (n ≤ hi)
def patternedB (l : List Nat) (days : Int) : Bool := l.all (fun p => decide (P02.next p days < 0)) && fromB l.length 1 64
def tanklessB (c : Cust) : Bool := c.rate == 0 && c.size == 0 && c.start == 0 && c.rule == 0 && c.hold == 0
def ruledB (c : Cust) : Bool := c.rule == 1 || c.rule == 2
def patternlessB (c : Cust) : Bool := decide (c.pats.length = 0) && c.demand == 0
/-- What a customer of its kind must be. -/
def musts1 (c : Cust) (days : Int) : List Bool := [fromB c.demand 1 2147483648, patternedB c.pats days, tanklessB c]
def musts2 (c : Cust) : List Bool := [fromB c.rate 0 2147483648, fromB c.size 1 2147483648, fromB c.start 0 c.size, ruledB c, fromB c.hold 0 1024, patternlessB c]
def custMay (c : Cust) (days : Int) : Bool :=
  if c.kind = 1 then (musts1 c days).all id else if c.kind = 2 then (musts2 c).all id else false
/-- May the distances of so many places be? -/
def rowMay (a places : Nat) (r : List Int) : Bool := decide (r.length = places) && decide (r[a]?.getD 0 = 0) && r.all fun d => fromB d 0 2147483648
def rowsMay (places : Nat) : Nat → List (List Int) → Bool
  | _, [] => true
  | a, r :: t => rowMay a places r && rowsMay places (a + 1) t
/-- A row, cell by cell. -/
def cellsMay (a : Nat) : Nat → List Int → Bool
  | _, [] => true
  | k, z :: t => (fromB z 0 2147483648 && (decide (k ≠ a) || decide (z = 0))) && cellsMay a (k + 1) t
theorem cellsMay_eq (a : Nat) : ∀ (l : List Int) (k : Nat), cellsMay a k l = (decide (k ≤ a → l[a - k]?.getD 0 = 0) && l.all fun d => fromB d 0 2147483648)
  | [], k => by simp [cellsMay]
  | z :: t, k => by
    rw [cellsMay, cellsMay_eq a t (k + 1), List.all_cons]
    generalize fromB z 0 2147483648 = b
    generalize (t.all fun d => fromB d 0 2147483648) = c
    by_cases h1 : k = a
    · subst h1
      have e : ¬ k + 1 ≤ k := by omega
      simp [e, Bool.and_assoc, Bool.and_comm, Bool.and_left_comm]
    · by_cases h2 : k ≤ a
      · have e1 : k + 1 ≤ a := by omega
        have e2 : a - k = (a - (k + 1)) + 1 := by omega
        rw [e2, List.getElem?_cons_succ]
        simp [h1, h2, e1, Bool.and_left_comm]
      · have e1 : ¬ k + 1 ≤ a := by omega
        simp [h1, h2, e1]
theorem rowMay_cells (a places : Nat) (r : List Int) : rowMay a places r = (decide (r.length = places) && cellsMay a 0 r) := by
  rw [rowMay, cellsMay_eq, Nat.sub_zero, Bool.and_assoc]
  simp
def distMay (d : List (List Int)) (places : Nat) : Bool := decide (d.length = places) && rowsMay places 0 d
def may (x : Inst) : Bool :=
  fromB x.days 1 64 && decide (x.custs.length ≤ 2000) && fromB x.veh 0 2147483648 && fromB x.cap 0 2147483648 && fromB x.len 0 2147483648 &&
  x.custs.all (fun c => custMay c x.days) && distMay x.dist (x.custs.length + 1)

/-- The error's number. -/
def mayE (x : Inst) : Int := if may x then 0 else 3
theorem mayE_t {x : Inst} (h : may x = true) : mayE x = 0 := by rw [mayE, h]; rfl
theorem mayE_f {x : Inst} (h : may x = false) : mayE x = 3 := by rw [mayE, h]; rfl
/-- The arc from a place to another; 0, if one is not there. -/
def arc (d : List (List Int)) (a b : Int) : Int := if a < 0 ∨ b < 0 then 0 else ((d[a.toNat]?.getD [])[b.toNat]?).getD 0

end Go.Proofs.YtigljnnjamdcnaaDoor.P06

namespace Go.Proofs.YtigljnnjamdcnaaDoor.P06

/-- A number counted round. -/
def rnd (n lo hi : Int) : Int := lo + (if n < 0 then -(n + 1) else n) % (hi - lo + 1)
theorem rnd_bd (n lo hi : Int) (h : lo ≤ hi) : lo ≤ rnd n lo hi ∧ rnd n lo hi ≤ hi := by
  unfold rnd
  have h1 := Int.emod_nonneg (if n < 0 then -(n + 1) else n) (show hi - lo + 1 ≠ 0 by omega)
  have h2 := Int.emod_lt_of_pos (if n < 0 then -(n + 1) else n) (show 0 < hi - lo + 1 by omega)
  omega
/-- The days below n that are in a set, as a set. -/
def goodPat (s : Nat) : Nat → Nat
  | 0 => 0
  | d + 1 => if P02.has s d then P02.put (goodPat s d) d else goodPat s d
def goodPats (l : List Nat) (days : Int) : List Nat :=
  if l.take 4 = [] then [1] else (l.take 4).map fun s => goodPat s days.toNat
def goodC (c : Cust) (days : Int) : Cust :=
  if c.kind % 2 = 0 then ⟨2, 0, [], rnd c.rate 0 9, rnd c.size 1 30, rnd c.start 0 (rnd c.size 1 30), rnd c.rule 1 2, rnd c.hold 0 4⟩
  else ⟨1, rnd c.demand 1 15, goodPats c.pats days, 0, 0, 0, 0, 0⟩
def goodRow (d : List (List Int)) (n i : Nat) : List Int := (List.range n).map fun k => if i = k then 0 else rnd (arc d i k) 0 60
def goodP (x : Inst) : Inst :=
  let days := rnd x.days 1 7
  let custs := (x.custs.take 6).map fun c => goodC c days
  ⟨days, rnd x.veh 0 5, rnd x.cap 0 40, rnd x.len 0 300, custs, (List.range (custs.length + 1)).map fun i => goodRow x.dist (custs.length + 1) i⟩
theorem goodRow_len (d : List (List Int)) (n i : Nat) : (goodRow d n i).length = n := by simp [goodRow]
theorem goodRow_get (d : List (List Int)) (n i k : Nat) (h : k < n) : (goodRow d n i)[k]? = some (if i = k then 0 else rnd (arc d i k) 0 60) := by
  simp [goodRow, h]
theorem arc_wf (d : List (List Int)) (a b : Int) (h : ∀ r ∈ d, ∀ z ∈ r, W64 z) : W64 (arc d a b) := by
  have h0 : W64 0 := ⟨by omega, by omega⟩
  unfold arc
  split
  · exact h0
  · cases hr : d[a.toNat]? with
    | none => simpa using h0
    | some r =>
      simp only [Option.getD_some]
      cases hz : r[b.toNat]? with
      | none => exact h0
      | some z => exact h r (List.mem_of_getElem? hr) z (List.mem_of_getElem? hz)
end Go.Proofs.YtigljnnjamdcnaaDoor.P06

namespace Go.Proofs.YtigljnnjamdcnaaDoor.P06

def wayFrom (D : List (List Int)) : Int → List Int → Int
  | a, [] => arc D a 0
  | a, c :: t => arc D a (c + 1) + wayFrom D (c + 1) t
/-- A tour's way. -/
def way (D : List (List Int)) : List Int → Int
  | [] => 0
  | c :: t => wayFrom D 0 (c :: t)
/-- The arcs between a tour's customers. -/
def mid (D : List (List Int)) : List Int → Int
  | a :: b :: t => arc D (a + 1) (b + 1) + mid D (b :: t)
  | _ => 0
theorem wayFrom_mid (D : List (List Int)) : ∀ (t : List Int) (a c : Int), wayFrom D a (c :: t) = arc D a (c + 1) + mid D (c :: t) + arc D (((c :: t).getLast?.getD 0) + 1) 0
  | [], a, c => by simp [wayFrom, mid]
  | b :: t, a, c => by
    rw [wayFrom, wayFrom_mid D t (c + 1) b, mid]
    simp [List.getLast?_cons_cons]
    omega
/-- Arcs that may be. -/
def ArcsOk (D : List (List Int)) : Prop := ∀ a b, 0 ≤ arc D a b ∧ arc D a b ≤ 2147483648
theorem way_bd (D : List (List Int)) (h : ArcsOk D) : ∀ (l : List Int) (a : Int), 0 ≤ wayFrom D a l ∧ wayFrom D a l ≤ (l.length + 1) * 2147483648
  | [], a => by have := h a 0; simp [wayFrom]; omega
  | c :: t, a => by
    have h1 := h a (c + 1)
    have h2 := way_bd D h t (c + 1)
    rw [wayFrom, List.length_cons]
    push_cast
    omega
theorem mid_bd (D : List (List Int)) (h : ArcsOk D) : ∀ (l : List Int), 0 ≤ mid D l ∧ mid D l ≤ l.length * 2147483648
  | [] => by simp [mid]
  | [c] => by simp [mid]
  | a :: b :: t => by
    have h1 := h (a + 1) (b + 1)
    have h2 := mid_bd D h (b :: t)
    rw [mid, List.length_cons]
    push_cast at *
    omega
end Go.Proofs.YtigljnnjamdcnaaDoor.P06

namespace Go.Proofs.YtigljnnjamdcnaaDoor.P06

theorem W64.of {z : Int} {a b : Int} (h : a ≤ z ∧ z ≤ b) (ha : -1000000 ≤ a) (hb : b ≤ 1000000) : W64 z := ⟨by omega, by omega⟩
theorem goodPat_lt' (s : Nat) : ∀ n, goodPat s n < 18446744073709551616
  | 0 => by simp [goodPat]
  | n + 1 => by
    rw [goodPat]
    split
    · exact P02.put_lt _ _ (goodPat_lt' s n)
    · exact goodPat_lt' s n
theorem goodC_wf (c : Cust) (days : Int) : (goodC c days).wf := by
  have h0 : W64 0 := ⟨by omega, by omega⟩
  have h1 : W64 1 := ⟨by omega, by omega⟩
  have h2 : W64 2 := ⟨by omega, by omega⟩
  unfold goodC
  split
  · refine ⟨h2, h0, by simp, .of (rnd_bd _ _ _ (by omega)) (by omega) (by omega), .of (rnd_bd _ _ _ (by omega)) (by omega) (by omega), ?_, .of (rnd_bd _ _ _ (by omega)) (by omega) (by omega), .of (rnd_bd _ _ _ (by omega)) (by omega) (by omega)⟩
    have h1 := rnd_bd c.size 1 30 (by omega)
    have h2 := rnd_bd c.start 0 (rnd c.size 1 30) (by omega)
    exact ⟨by show _ ≤ rnd c.start 0 (rnd c.size 1 30); omega, by show rnd c.start 0 (rnd c.size 1 30) ≤ _; omega⟩
  · refine ⟨h1, .of (rnd_bd _ _ _ (by omega)) (by omega) (by omega), ?_, h0, h0, h0, h0, h0⟩
    intro s hs
    simp only [goodPats] at hs
    split at hs
    · simp at hs; omega
    · obtain ⟨y, _, rfl⟩ := List.mem_map.1 hs
      exact goodPat_lt' _ _
theorem goodP_custs (x : Inst) : (goodP x).custs.length ≤ 6 := by
  show ((x.custs.take 6).map _).length ≤ 6
  simp
  omega
theorem goodP_dist (x : Inst) : (goodP x).dist.length = (goodP x).custs.length + 1 := by
  show ((List.range (((x.custs.take 6).map fun c => goodC c (rnd x.days 1 7)).length + 1)).map _).length = _
  rw [List.length_map, List.length_range]
  rfl
theorem goodP_rows (x : Inst) : ∀ r ∈ (goodP x).dist, r.length = (goodP x).custs.length + 1 := by
  intro r hr
  have hr : r ∈ (List.range ((goodP x).custs.length + 1)).map fun i => goodRow x.dist ((goodP x).custs.length + 1) i := hr
  obtain ⟨i, _, rfl⟩ := List.mem_map.1 hr
  exact goodRow_len _ _ _
theorem goodRow_cell {d : List (List Int)} {n i : Nat} {z : Int} (h : z ∈ goodRow d n i) : 0 ≤ z ∧ z ≤ 60 := by
  obtain ⟨k, _, rfl⟩ := List.mem_map.1 h
  split
  · omega
  · exact rnd_bd _ _ _ (by omega)
theorem goodP_cells (x : Inst) : ∀ r ∈ (goodP x).dist, ∀ z ∈ r, 0 ≤ z ∧ z ≤ 60 := by
  intro r hr
  have hr : r ∈ (List.range ((goodP x).custs.length + 1)).map fun i => goodRow x.dist ((goodP x).custs.length + 1) i := hr
  obtain ⟨i, _, rfl⟩ := List.mem_map.1 hr
  exact fun z hz => goodRow_cell hz
theorem goodP_wf (x : Inst) : (goodP x).wf := by
  refine ⟨.of (rnd_bd _ _ _ (by omega)) (by omega) (by omega), .of (rnd_bd _ _ _ (by omega)) (by omega) (by omega), .of (rnd_bd _ _ _ (by omega)) (by omega) (by omega), .of (rnd_bd _ _ _ (by omega)) (by omega) (by omega), ?_, fun r hr z hz => .of (goodP_cells x r hr z hz) (by omega) (by omega)⟩
  intro c hc
  obtain ⟨y, _, rfl⟩ := List.mem_map.1 hc
  exact goodC_wf _ _
theorem arc_cells {D : List (List Int)} {lo hi : Int} (h : ∀ r ∈ D, ∀ z ∈ r, lo ≤ z ∧ z ≤ hi) (hl : lo ≤ 0) (hh : 0 ≤ hi) (a b : Int) : lo ≤ arc D a b ∧ arc D a b ≤ hi := by
  unfold arc
  split
  · omega
  · cases hr : D[a.toNat]? with
    | none => simp; omega
    | some r =>
      simp only [Option.getD_some]
      cases hz : r[b.toNat]? with
      | none => simp; omega
      | some z => exact h r (List.mem_of_getElem? hr) z (List.mem_of_getElem? hz)
theorem goodP_arcs (x : Inst) : ArcsOk (goodP x).dist := fun a b => by
  have := arc_cells (goodP_cells x) (by omega) (by omega) a b
  omega
theorem goodP_arc (x : Inst) (a b : Int) : 0 ≤ arc (goodP x).dist a b ∧ arc (goodP x).dist a b ≤ 60 := arc_cells (goodP_cells x) (by omega) (by omega) a b
/-- The first twelve customers. -/
def cut12 (x : Inst) : Inst := { x with custs := x.custs.take 12 }
theorem cut12_wf {x : Inst} (h : x.wf) : (cut12 x).wf := ⟨h.1, h.2.1, h.2.2.1, h.2.2.2.1, fun c hc => h.2.2.2.2.1 c (List.mem_of_mem_take hc), h.2.2.2.2.2⟩
theorem cut12_len (x : Inst) : (cut12 x).custs.length ≤ 12 := by show (x.custs.take 12).length ≤ 12; simp; omega
theorem cut12_id {x : Inst} (h : x.custs.length ≤ 12) : cut12 x = x := by obtain ⟨a, b, c, d, l, e⟩ := x; simp only [cut12]; rw [List.take_of_length_le h]
end Go.Proofs.YtigljnnjamdcnaaDoor.P06

namespace Go.Proofs.YtigljnnjamdcnaaDoor.P06

/-- The least arc to customer c from the places below k; with none, that from the depot. -/
def minTo (D : List (List Int)) (c : Int) : Nat → Int
  | 0 => arc D 0 (c + 1)
  | k + 1 => if (k : Int) = c + 1 then minTo D c k else min (minTo D c k) (arc D k (c + 1))
def minFrom (D : List (List Int)) (c : Int) : Nat → Int
  | 0 => arc D (c + 1) 0
  | k + 1 => if (k : Int) = c + 1 then minFrom D c k else min (minFrom D c k) (arc D (c + 1) k)
theorem minTo_self (D : List (List Int)) (c : Int) (k : Nat) (h : (k : Int) = c + 1) : minTo D c (k + 1) = minTo D c k := by rw [minTo, if_pos h]
theorem minTo_other (D : List (List Int)) (c : Int) (k : Nat) (h : (k : Int) ≠ c + 1) : minTo D c (k + 1) = min (minTo D c k) (arc D k (c + 1)) := by rw [minTo, if_neg h]
theorem minFrom_self (D : List (List Int)) (c : Int) (k : Nat) (h : (k : Int) = c + 1) : minFrom D c (k + 1) = minFrom D c k := by rw [minFrom, if_pos h]
theorem minFrom_other (D : List (List Int)) (c : Int) (k : Nat) (h : (k : Int) ≠ c + 1) : minFrom D c (k + 1) = min (minFrom D c k) (arc D (c + 1) k) := by rw [minFrom, if_neg h]
theorem minTo_one (D : List (List Int)) (c : Int) : minTo D c 1 = arc D 0 (c + 1) := by
  rw [minTo]
  split
  · rfl
  · show min (arc D 0 (c + 1)) (arc D 0 (c + 1)) = _
    simp
theorem minFrom_one (D : List (List Int)) (c : Int) : minFrom D c 1 = arc D (c + 1) 0 := by
  rw [minFrom]
  split
  · rfl
  · show min (arc D (c + 1) 0) (arc D (c + 1) 0) = _
    simp
theorem minTo_bd (D : List (List Int)) (c : Int) (h : ArcsOk D) : ∀ k, 0 ≤ minTo D c k ∧ minTo D c k ≤ 2147483648
  | 0 => h 0 (c + 1)
  | k + 1 => by
    have h1 := minTo_bd D c h k
    have h2 := h k (c + 1)
    rw [minTo]
    split <;> omega
theorem minFrom_bd (D : List (List Int)) (c : Int) (h : ArcsOk D) : ∀ k, 0 ≤ minFrom D c k ∧ minFrom D c k ≤ 2147483648
  | 0 => h (c + 1) 0
  | k + 1 => by
    have h1 := minFrom_bd D c h k
    have h2 := h (c + 1) k
    rw [minFrom]
    split <;> omega
/-- It is not above any arc from another place. -/
theorem minTo_le (D : List (List Int)) (c : Int) : ∀ (k o : Nat), o < k → (o : Int) ≠ c + 1 → minTo D c k ≤ arc D o (c + 1)
  | k + 1, o, h, hne => by
    rw [minTo]
    by_cases e : o = k
    · subst e
      rw [if_neg hne]
      omega
    · have := minTo_le D c k o (by omega) hne
      split <;> omega
theorem minFrom_le (D : List (List Int)) (c : Int) : ∀ (k o : Nat), o < k → (o : Int) ≠ c + 1 → minFrom D c k ≤ arc D (c + 1) o
  | k + 1, o, h, hne => by
    rw [minFrom]
    by_cases e : o = k
    · subst e
      rw [if_neg hne]
      omega
    · have := minFrom_le D c k o (by omega) hne
      split <;> omega
/-- What the reference holds after k places: -1, if it has seen none that counts. -/
def refTo (D : List (List Int)) (c : Int) (k : Nat) : Int := if k = 0 then -1 else minTo D c k
def refFrom (D : List (List Int)) (c : Int) (k : Nat) : Int := if k = 0 then -1 else minFrom D c k

/-- The sum of what comes to a tour's customers. -/
def sumOf (f : Int → Int) : List Int → Int
  | [] => 0
  | c :: t => f c + sumOf f t
theorem sumOf_append (f : Int → Int) : ∀ l m : List Int, sumOf f (l ++ m) = sumOf f l + sumOf f m
  | [], m => by simp [sumOf]
  | c :: t, m => by rw [List.cons_append, sumOf, sumOf, sumOf_append f t m]; omega
/-- No customer twice, one behind the other. -/
def apartFrom : Int → List Int → Prop
  | _, [] => True
  | p, c :: t => c ≠ p ∧ apartFrom c t
theorem apartFrom_snoc : ∀ (l : List Int) (p c : Int), apartFrom p l → c ≠ (l.getLast?.getD p) → apartFrom p (l ++ [c])
  | [], p, c, _, h => ⟨by simpa using h, trivial⟩
  | a :: t, p, c, h, hc => by
    refine ⟨h.1, apartFrom_snoc t a c h.2 ?_⟩
    rw [List.getLast?_cons] at hc
    simpa using hc
theorem wayFrom_come (D : List (List Int)) (n : Nat) (hD : ArcsOk D) : ∀ (l : List Int) (p : Int), 0 ≤ p + 1 → p + 1 ≤ n → (∀ c ∈ l, 0 ≤ c ∧ c + 1 ≤ n) → apartFrom p l → sumOf (fun c => minTo D c (n + 1)) l ≤ wayFrom D (p + 1) l
  | [], p, _, _, _, _ => (hD _ _).1
  | c :: t, p, h0, h1, hc, ha => by
    obtain ⟨hc0, hc1⟩ := hc c (by simp)
    have ih := wayFrom_come D n hD t c (by omega) hc1 (fun d hd => hc d (by simp [hd])) ha.2
    have h2 := minTo_le D c (n + 1) (p + 1).toNat (by omega) (by have := ha.1; omega)
    rw [show (((p + 1).toNat : Nat) : Int) = p + 1 by omega] at h2
    rw [sumOf, wayFrom]
    omega
theorem wayFrom_leave (D : List (List Int)) (n : Nat) (hD : ArcsOk D) : ∀ (l : List Int) (p : Int), (∀ c ∈ l, 0 ≤ c ∧ c + 1 ≤ n) → 0 ≤ p → apartFrom p l → minFrom D p (n + 1) + sumOf (fun c => minFrom D c (n + 1)) l ≤ wayFrom D (p + 1) l
  | [], p, _, h0, _ => by
    have h2 := minFrom_le D p (n + 1) 0 (by omega) (by omega)
    rw [sumOf, wayFrom]
    simpa using h2
  | c :: t, p, hc, h0, ha => by
    obtain ⟨hc0, hc1⟩ := hc c (by simp)
    have ih := wayFrom_leave D n hD t c (fun d hd => hc d (by simp [hd])) hc0 ha.2
    have h2 := minFrom_le D p (n + 1) (c + 1).toNat (by omega) (by have := ha.1; omega)
    rw [show (((c + 1).toNat : Nat) : Int) = c + 1 by omega] at h2
    rw [sumOf, wayFrom]
    omega
theorem way_come (D : List (List Int)) (n : Nat) (hD : ArcsOk D) (l : List Int) (hc : ∀ c ∈ l, 0 ≤ c ∧ c + 1 ≤ n) (ha : apartFrom (-1) l) : sumOf (fun c => minTo D c (n + 1)) l ≤ way D l := by
  cases l with
  | nil => exact Int.le_refl _
  | cons c t => exact wayFrom_come D n hD (c :: t) (-1) (by omega) (by omega) hc ha
theorem way_leave (D : List (List Int)) (n : Nat) (hD : ArcsOk D) (l : List Int) (hc : ∀ c ∈ l, 0 ≤ c ∧ c + 1 ≤ n) (ha : apartFrom (-1) l) : sumOf (fun c => minFrom D c (n + 1)) l ≤ way D l := by
  cases l with
  | nil => exact Int.le_refl _
  | cons c t =>
    have h1 := wayFrom_leave D n hD t c (fun d hd => hc d (by simp [hd])) (hc c (by simp)).1 ha.2
    have h2 := (hD 0 (c + 1)).1
    rw [sumOf]
    show _ ≤ wayFrom D 0 (c :: t)
    rw [wayFrom]
    omega

/-- A way, cut behind a customer. -/
theorem wayFrom_cut (D : List (List Int)) : ∀ (p : List Int) (s a : Int) (q : List Int), wayFrom D s (p ++ a :: q) = wayFrom D s (p ++ [a]) - arc D (a + 1) 0 + wayFrom D (a + 1) q
  | [], s, a, q => by
    show arc D s (a + 1) + wayFrom D (a + 1) q = arc D s (a + 1) + wayFrom D (a + 1) [] - arc D (a + 1) 0 + wayFrom D (a + 1) q
    rw [wayFrom]
    omega
  | c :: t, s, a, q => by
    have := wayFrom_cut D t (c + 1) a q
    rw [List.cons_append, List.cons_append, wayFrom, wayFrom, this]
    omega
theorem way_parts (D : List (List Int)) (l : List Int) (i : Nat) (a b : Int) (ha : l[i]? = some a) (hb : l[i + 1]? = some b) :
    way D l = way D (l.take (i + 1)) + way D (l.drop (i + 1)) - arc D (a + 1) 0 - arc D 0 (b + 1) + arc D (a + 1) (b + 1) := by
  obtain ⟨hi, ea⟩ := List.getElem?_eq_some_iff.1 ha
  obtain ⟨hi', eb⟩ := List.getElem?_eq_some_iff.1 hb
  have e1 : l.drop (i + 1) = b :: l.drop (i + 2) := by rw [List.drop_eq_getElem_cons hi', eb]
  have e2 : l.take (i + 1) = l.take i ++ [a] := by rw [List.take_succ_eq_append_getElem hi, ea]
  have e3 : l = l.take i ++ a :: b :: l.drop (i + 2) := by
    conv => lhs; rw [← List.take_append_drop (i + 1) l, e1, e2]
    simp
  have hw : ∀ m : List Int, m ≠ [] → way D m = wayFrom D 0 m := fun m hm => by
    cases m with
    | nil => exact absurd rfl hm
    | cons c t => rfl
  rw [hw l (by intro e; simp [e] at hi), hw (l.take (i + 1)) (by rw [e2]; simp), hw (l.drop (i + 1)) (by rw [e1]; simp), e1, e2]
  have h := wayFrom_cut D (l.take i) 0 a (b :: l.drop (i + 2))
  rw [← e3] at h
  rw [h, wayFrom, wayFrom]
  omega
end Go.Proofs.YtigljnnjamdcnaaDoor.P06

namespace Go.Proofs.YtigljnnjamdcnaaDoor.P06

/-- Lists alike, element by element. -/
def eqAll {α : Type} (f : α → α → Bool) : List α → List α → Bool
  | [], [] => true
  | a :: l, b :: m => f a b && eqAll f l m
  | [], _ :: _ => false
  | _ :: _, [] => false
theorem eqAll_refl {α : Type} (f : α → α → Bool) (h : ∀ a, f a a = true) : ∀ l, eqAll f l l = true
  | [] => rfl
  | a :: l => by rw [eqAll, h, eqAll_refl f h l]; rfl
theorem eqAll_len {α : Type} (f : α → α → Bool) : ∀ l m : List α, l.length ≠ m.length → eqAll f l m = false
  | [], [], h => absurd rfl h
  | a :: l, b :: m, h => by rw [eqAll, eqAll_len f l m (fun e => h (by simp [e])), Bool.and_false]
  | [], _ :: _, _ => rfl
  | _ :: _, [], _ => rfl
theorem eqAll_step {α : Type} (f : α → α → Bool) {l m : List α} {k : Nat} {a b : α} (ha : l[k]? = some a) (hb : m[k]? = some b) : eqAll f (l.drop k) (m.drop k) = (f a b && eqAll f (l.drop (k + 1)) (m.drop (k + 1))) := by
  obtain ⟨hl, rfl⟩ := List.getElem?_eq_some_iff.1 ha
  obtain ⟨hm, rfl⟩ := List.getElem?_eq_some_iff.1 hb
  rw [List.drop_eq_getElem_cons hl, List.drop_eq_getElem_cons hm, eqAll]
theorem eqAll_end {α : Type} (f : α → α → Bool) {l m : List α} {n : Nat} (h1 : l.length ≤ n) (h2 : m.length ≤ n) : eqAll f (l.drop n) (m.drop n) = true := by
  rw [List.drop_of_length_le h1, List.drop_of_length_le h2]
  rfl
def intsEq (l m : List Int) : Bool := eqAll (fun a b => a == b) l m
def patsEq (l m : List Nat) : Bool := eqAll (fun a b => a == b) l m
/-- Are customers the same? -/
def custEq (a b : Cust) : Bool := decide (a.kind = b.kind ∧ a.demand = b.demand ∧ a.rate = b.rate ∧ a.size = b.size ∧ a.start = b.start ∧ a.rule = b.rule ∧ a.hold = b.hold) && patsEq a.pats b.pats
/-- Are instances the same? -/
def sameP (x y : Inst) : Bool := decide (x.days = y.days ∧ x.veh = y.veh ∧ x.cap = y.cap ∧ x.len = y.len) && (eqAll custEq x.custs y.custs && eqAll intsEq x.dist y.dist)
theorem custEq_f1 {a b : Cust} (h : ¬ (a.kind = b.kind ∧ a.demand = b.demand ∧ a.rate = b.rate ∧ a.size = b.size ∧ a.start = b.start ∧ a.rule = b.rule ∧ a.hold = b.hold)) : custEq a b = false := by simp only [custEq, decide_eq_false h, Bool.false_and]
theorem custEq_t {a b : Cust} (h : a.kind = b.kind ∧ a.demand = b.demand ∧ a.rate = b.rate ∧ a.size = b.size ∧ a.start = b.start ∧ a.rule = b.rule ∧ a.hold = b.hold) : custEq a b = patsEq a.pats b.pats := by simp only [custEq, decide_eq_true h, Bool.true_and]
theorem custEq_fp {a b : Cust} (h : patsEq a.pats b.pats = false) : custEq a b = false := by simp only [custEq, h, Bool.and_false]
theorem sameP_f {x y : Inst} (h : ¬ (x.days = y.days ∧ x.veh = y.veh ∧ x.cap = y.cap ∧ x.len = y.len)) : sameP x y = false := by simp only [sameP, decide_eq_false h, Bool.false_and]
theorem sameP_t {x y : Inst} (h : x.days = y.days ∧ x.veh = y.veh ∧ x.cap = y.cap ∧ x.len = y.len) : sameP x y = (eqAll custEq x.custs y.custs && eqAll intsEq x.dist y.dist) := by simp only [sameP, decide_eq_true h, Bool.true_and]
theorem intsEq_refl (l : List Int) : intsEq l l = true := eqAll_refl _ (fun a => by simp) l
theorem patsEq_refl (l : List Nat) : patsEq l l = true := eqAll_refl _ (fun a => by simp) l
theorem custEq_refl (a : Cust) : custEq a a = true := by rw [custEq_t ⟨rfl, rfl, rfl, rfl, rfl, rfl, rfl⟩, patsEq_refl]
theorem sameP_refl (x : Inst) : sameP x x = true := by rw [sameP_t ⟨rfl, rfl, rfl, rfl⟩, eqAll_refl _ custEq_refl, eqAll_refl _ intsEq_refl]; rfl
theorem eqAll_iff {α : Type} (f : α → α → Bool) (h : ∀ a b, f a b = true → a = b) : ∀ l m : List α, eqAll f l m = true → l = m
  | [], [], _ => rfl
  | a :: l, b :: m, e => by
    simp only [eqAll, Bool.and_eq_true] at e
    rw [h a b e.1, eqAll_iff f h l m e.2]
  | [], _ :: _, e => by cases e
  | _ :: _, [], e => by cases e
theorem custEq_iff (a b : Cust) (h : custEq a b = true) : a = b := by
  simp only [custEq, Bool.and_eq_true, decide_eq_true_eq] at h
  obtain ⟨⟨h1, h2, h3, h4, h5, h6, h7⟩, h8⟩ := h
  have h8 := eqAll_iff _ (fun a b e => by simpa using e) _ _ h8
  cases a; cases b
  simp only at *
  subst h1; subst h2; subst h3; subst h4; subst h5; subst h6; subst h7; subst h8
  rfl
theorem sameP_iff (x y : Inst) (h : sameP x y = true) : x = y := by
  simp only [sameP, Bool.and_eq_true, decide_eq_true_eq] at h
  obtain ⟨⟨h1, h2, h3, h4⟩, h5, h6⟩ := h
  have h5 := eqAll_iff _ custEq_iff _ _ h5
  have h6 := eqAll_iff _ (fun a b e => eqAll_iff _ (fun a b e => by simpa using e) a b e) _ _ h6
  cases x; cases y
  simp only at *
  subst h1; subst h2; subst h3; subst h4; subst h5; subst h6
  rfl
end Go.Proofs.YtigljnnjamdcnaaDoor.P06
