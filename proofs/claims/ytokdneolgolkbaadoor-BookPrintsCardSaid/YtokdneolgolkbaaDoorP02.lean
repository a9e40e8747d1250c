/- Plain facts on sets of days: bits of a number. No program in sight. -/
namespace Go.Proofs.YtokdneolgolkbaaDoor.P02

/-- The 64 bits of a number. -/
def bits (s : Nat) : List Int := (List.range 64).map fun d => ((s / 2 ^ d % 2 : Nat) : Int)
theorem bits_len (s : Nat) : (bits s).length = 64 := by simp [bits]
theorem bits_get (s d : Nat) (h : d < 64) : (bits s)[d]? = some ((s / 2 ^ d % 2 : Nat) : Int) := by
  simp [bits, h]
/-- The number of bits. -/
def num : List Int → Nat
  | [] => 0
  | b :: r => 2 * num r + b.toNat
theorem num_lt : ∀ l : List Int, (∀ z ∈ l, 0 ≤ z ∧ z ≤ 1) → num l < 2 ^ l.length
  | [], _ => by simp [num]
  | b :: r, h => by
    have h1 := num_lt r fun z hz => h z (by simp [hz])
    have h2 := h b (by simp)
    rw [num, List.length_cons, Nat.pow_succ]
    omega
theorem num_bits_aux (s : Nat) : ∀ n k, num ((List.range' k n).map fun d => ((s / 2 ^ d % 2 : Nat) : Int)) = s / 2 ^ k % 2 ^ n
  | 0, k => by simp [num, Nat.mod_one]
  | n + 1, k => by
    rw [List.range'_succ, List.map_cons, num, num_bits_aux s n (k + 1)]
    rw [Nat.pow_succ' (n := k), Nat.mul_comm 2 (2 ^ k), ← Nat.div_div_eq_div_mul, Int.toNat_natCast, Nat.pow_succ', Nat.mod_mul]
    omega
theorem num_bits (s : Nat) (h : s < 18446744073709551616) : num (bits s) = s := by
  have := num_bits_aux s 64 0
  rw [← List.range_eq_range'] at this
  rw [bits, this]
  simp
  omega
theorem bits_01 (s : Nat) : ∀ z ∈ bits s, 0 ≤ z ∧ z ≤ 1 := by
  intro z hz
  simp only [bits, List.mem_map] at hz
  obtain ⟨d, _, rfl⟩ := hz
  omega

/-- Is a day in the set? -/
def has (s : Nat) (d : Int) : Bool := decide (0 ≤ d) && decide (d ≤ 63) && decide (s / 2 ^ d.toNat % 2 = 1)
/-- The set with a day. -/
def put (s : Nat) (d : Int) : Nat := if 0 ≤ d ∧ d ≤ 63 then num ((bits s).set d.toNat 1) else s
theorem put_lt (s : Nat) (d : Int) (h : s < 18446744073709551616) : put s d < 18446744073709551616 := by
  unfold put
  split
  · have := num_lt ((bits s).set d.toNat 1) (fun z hz => by
      rcases List.mem_or_eq_of_mem_set hz with h | h
      · exact bits_01 s z h
      · omega)
    rw [List.length_set, bits_len] at this
    simpa using this
  · exact h
/-- The days from one on that are in the set, rising. -/
def days (s : Nat) (from_ : Int) : List Int := ((List.range 64).map Int.ofNat).filter fun d => decide (from_ ≤ d) && has s d
/-- The first day from one on; -1, if there is none. -/
def next (s : Nat) (d : Int) : Int := (days s d).headD (-1)
/-- The days below k, from one on, that are in the set. -/
def upTo (s : Nat) (d : Int) (k : Nat) : List Int := ((List.range k).map Int.ofNat).filter fun x => decide (d ≤ x) && has s x
theorem days_upTo (s : Nat) (d : Int) : days s d = upTo s d 64 := rfl
theorem upTo_succ (s : Nat) (d : Int) (k : Nat) (h : d ≤ k) : upTo s d (k + 1) = upTo s d k ++ if has s k then [(k : Int)] else [] := by
  unfold upTo
  rw [List.range_succ, List.map_append, List.filter_append]
  congr 1
  simp only [List.map_cons, List.map_nil, List.filter_cons, List.filter_nil]
  rw [show Int.ofNat k = (k : Int) from rfl]
  simp [h]
theorem upTo_start (s : Nat) (d : Int) (k : Nat) (h : (k : Int) ≤ d ∨ k = 0) : upTo s d k = [] := by
  unfold upTo
  rw [List.filter_eq_nil_iff]
  intro x hx
  obtain ⟨y, hy, rfl⟩ := List.mem_map.1 hx
  have := List.mem_range.1 hy
  have e : ¬ d ≤ (y : Int) := by omega
  simp [e]
theorem upTo_len (s : Nat) (d : Int) (k : Nat) : (upTo s d k).length ≤ k := Nat.le_trans (List.length_filter_le _ _) (by simp)
/-- The first number from d on. -/
def first (d : Int) (l : List Int) : Int := (l.filter fun z => decide (d ≤ z)).headD (-1)
theorem first_cons (d z : Int) (l : List Int) : first d (z :: l) = if d ≤ z then z else first d l := by
  unfold first
  by_cases h : d ≤ z <;> simp [h]
theorem has_nonneg {s : Nat} {d : Int} (h : has s d = true) : 0 ≤ d := by
  simp only [has, Bool.and_eq_true, decide_eq_true_eq] at h; exact h.1.1
theorem first_days (s : Nat) (d : Int) : first d (days s 0) = next s d := by
  unfold first next days
  rw [List.filter_filter]
  refine congrArg (fun l => List.headD l (-1)) (List.filter_congr ?_)
  intro x _
  by_cases h : has s x = true
  · have := has_nonneg h
    simp [h, this]
  · simp [h]
theorem days_len (s : Nat) (d : Int) : (days s d).length ≤ 64 := Nat.le_trans (List.length_filter_le _ _) (by simp)
end Go.Proofs.YtokdneolgolkbaaDoor.P02
