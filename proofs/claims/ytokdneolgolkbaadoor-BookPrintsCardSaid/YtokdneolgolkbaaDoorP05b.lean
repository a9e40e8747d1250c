/- Plain words for decimals. No program in sight. -/
import Derived.Test.YtokdneolgolkbaaDoorP05
namespace Go.Proofs.YtokdneolgolkbaaDoor.P05

def isDig (c : UInt8) : Bool := decide (48 ≤ c.toNat) && decide (c.toNat ≤ 57)
@[irreducible] def stepV (n : Nat) (c : UInt8) : Nat := 10 * n + (c.toNat - 48)
def valF (n : Nat) (l : List UInt8) : Nat := l.foldl stepV n
/-- Is it a decimal? -/
def isNum (l : List UInt8) : Bool := !l.isEmpty && l.all isDig && !(l.head? == some 48 && decide (1 < l.length))
/-- A decimal's number, at most 10^18. -/
def numP (l : List UInt8) : Option Nat := if isNum l then some (if 18 < l.length then 1000000000000000000 else valF 0 l) else none
/-- The number so far. -/
@[irreducible] def stepF (n : Nat) (c : UInt8) : Nat := if 100000000000000000 ≤ n then 1000000000000000000 else n * 10 + (c.toNat - 48)
def clampF (n : Nat) (l : List UInt8) : Nat := l.foldl stepF n
theorem clampF_nil (n : Nat) : clampF n [] = n := rfl
theorem clampF_cons (n : Nat) (c : UInt8) (t : List UInt8) : clampF n (c :: t) = clampF (stepF n c) t := by unfold clampF; exact List.foldl_cons ..
theorem stepV_eq (n : Nat) (c : UInt8) : stepV n c = 10 * n + (c.toNat - 48) := by unfold stepV; exact Eq.refl _
theorem valF_nil (n : Nat) : valF n [] = n := rfl
theorem valF_cons0 (n : Nat) (c : UInt8) (t : List UInt8) : valF n (c :: t) = valF (stepV n c) t := by unfold valF; exact List.foldl_cons ..
theorem valF_cons_of (n : Nat) (c : UInt8) (t : List UInt8) (m : Nat) (h : stepV n c = m) : valF n (c :: t) = valF m t := by subst h; exact valF_cons0 n c t
theorem valF_cons (n : Nat) (c : UInt8) (t : List UInt8) : valF n (c :: t) = valF (10 * n + (c.toNat - 48)) t := valF_cons_of n c t _ (stepV_eq n c)
theorem clampF_snoc : ∀ (l : List UInt8) (n : Nat) (c : UInt8), clampF n (l ++ [c]) = stepF (clampF n l) c
  | [], n, c => by rw [List.nil_append, clampF_cons, clampF_nil, clampF_nil]
  | d :: l, n, c => by rw [List.cons_append, clampF_cons, clampF_snoc l, clampF_cons]
theorem valF_snoc : ∀ (l : List UInt8) (n : Nat) (c : UInt8), valF n (l ++ [c]) = 10 * valF n l + (c.toNat - 48)
  | [], n, c => by rw [List.nil_append, valF_cons, valF_nil, valF_nil]
  | d :: l, n, c => by rw [List.cons_append, valF_cons, valF_snoc l, valF_cons]
theorem isDig_bd {c : UInt8} (h : isDig c = true) : 48 ≤ c.toNat ∧ c.toNat ≤ 57 := by simpa [isDig] using h
theorem clampF_le : ∀ (l : List UInt8) (n : Nat), l.all isDig = true → n ≤ 1000000000000000000 → clampF n l ≤ 1000000000000000000
  | [], n, _, h => h
  | c :: t, n, h, hn => by
    simp only [List.all_cons, Bool.and_eq_true] at h
    have hc := isDig_bd h.1
    rw [clampF_cons]
    refine clampF_le t _ h.2 ?_
    unfold stepF
    split <;> omega
theorem clampF_top : ∀ (l : List UInt8), clampF 1000000000000000000 l = 1000000000000000000
  | [] => rfl
  | c :: t => by rw [clampF_cons, stepF, if_pos (by omega), clampF_top t]
theorem pow_le_pow {a b : Nat} (h : a ≤ b) : 10 ^ a ≤ 10 ^ b := Nat.pow_le_pow_right (by omega) h
theorem clampF_val : ∀ (t : List UInt8) (n j : Nat), t.all isDig = true → 10 ^ j ≤ n → n < 10 ^ (j + 1) → j ≤ 17 → clampF n t = if 18 < j + 1 + t.length then 1000000000000000000 else valF n t
  | [], n, j, _, _, _, hj => by rw [if_neg (by simp; omega), clampF_nil, valF_nil]
  | c :: t, n, j, h, h1, h2, hj => by
    simp only [List.all_cons, Bool.and_eq_true] at h
    have hc := isDig_bd h.1
    rw [clampF_cons, valF_cons, List.length_cons, stepF]
    by_cases e : j = 17
    · subst e
      rw [if_pos (by simpa using h1), clampF_top, if_pos (by omega)]
    · have hp : 10 ^ (j + 1) ≤ 10 ^ 17 := pow_le_pow (by omega)
      have h3 : 10 ^ (j + 1) ≤ n * 10 + (c.toNat - 48) := by rw [Nat.pow_succ]; omega
      have h4 : n * 10 + (c.toNat - 48) < 10 ^ (j + 1 + 1) := by rw [Nat.pow_succ 10 (j + 1)]; omega
      rw [if_neg (by omega), clampF_val t _ (j + 1) h.2 h3 h4 (by omega), Nat.mul_comm n 10]
      rw [show j + 1 + 1 + t.length = j + 1 + (t.length + 1) by omega]
theorem clampF_num {l : List UInt8} (h : isNum l = true) : clampF 0 l = if 18 < l.length then 1000000000000000000 else valF 0 l := by
  cases l with
  | nil => simp [isNum] at h
  | cons c t =>
    simp only [isNum, List.all_cons, Bool.and_eq_true, List.isEmpty_cons, Bool.not_eq_true', List.head?_cons, List.length_cons] at h
    obtain ⟨⟨_, hc, ht⟩, hz⟩ := h
    have hc := isDig_bd hc
    rw [clampF_cons, stepF, if_neg (by omega), valF_cons, Nat.mul_zero, Nat.zero_mul, Nat.zero_add]
    by_cases e : c.toNat = 48
    · have e' : c = 48 := by
        apply UInt8.toNat_inj.1
        rw [e]; rfl
      subst e'
      have : t = [] := by
        cases t with
        | nil => rfl
        | cons a b => simp at hz
      subst this
      rfl
    · rw [clampF_val t _ 0 ht (by omega) (by omega) (by omega), List.length_cons, Nat.add_comm t.length]
theorem numP_yes {l : List UInt8} (h : isNum l = true) : numP l = some (clampF 0 l) := by rw [numP, if_pos h, clampF_num h]
theorem numP_no {l : List UInt8} (h : isNum l = false) : numP l = none := by rw [numP, h]; rfl
theorem numP_le {l : List UInt8} {n : Nat} (h : numP l = some n) : n ≤ 1000000000000000000 := by
  by_cases e : isNum l = true
  · rw [numP_yes e] at h
    injection h with h
    subst h
    refine clampF_le l 0 ?_ (by omega)
    simp only [isNum, Bool.and_eq_true] at e
    exact e.1.2
  · rw [numP_no (by simpa using e)] at h
    cases h

/-- A digit. -/
def dig (d : Nat) : UInt8 := UInt8.ofNat (48 + d)
theorem dig_nat {d : Nat} (h : d < 10) : (dig d).toNat = 48 + d := by
  unfold dig
  rw [UInt8.toNat_ofNat_of_lt']
  simp [UInt8.size]
  omega
theorem dig_is {d : Nat} (h : d < 10) : isDig (dig d) = true := by simp [isDig, dig_nat h]; omega
/-- A number's decimal, with at most so many digits. -/
def decF : Nat → Nat → List UInt8
  | 0, _ => []
  | k + 1, n => if n < 10 then [dig n] else decF k (n / 10) ++ [dig (n % 10)]
theorem decF_small (k n : Nat) (h : n < 10) : decF (k + 1) n = [dig n] := by rw [decF, if_pos h]
theorem decF_great (k n : Nat) (h : 10 ≤ n) : decF (k + 1) n = decF k (n / 10) ++ [dig (n % 10)] := by rw [decF, if_neg (by omega)]
def dec (n : Nat) : List UInt8 := decF 20 n
def decI (n : Int) : List UInt8 := if n < 0 then 45 :: dec (-n).toNat else dec n.toNat
/-- What is known of a decimal. -/
theorem decF_ok : ∀ (k n : Nat), n < 10 ^ k → 1 ≤ k → (decF k n).all isDig = true ∧ valF 0 (decF k n) = n ∧ 1 ≤ (decF k n).length ∧ (decF k n).length ≤ k ∧ n < 10 ^ (decF k n).length ∧ (1 ≤ n → 10 ^ ((decF k n).length - 1) ≤ n) ∧ ((decF k n).head? = some 48 → n = 0 ∧ (decF k n).length = 1)
  | 0, n, _, h => absurd h (by omega)
  | k + 1, n, h, _ => by
    rw [decF]
    split
    · rename_i e
      refine ⟨by simp [dig_is e], ?_, by simp, by simp, by simpa using e, fun h => by simpa using h, fun h => ⟨?_, rfl⟩⟩
      · rw [valF_cons, valF_nil, dig_nat e]; omega
      · simp only [List.head?_cons, Option.some.injEq] at h
        have := dig_nat e
        rw [h] at this
        have e48 : (48 : UInt8).toNat = 48 := rfl
        omega
    · rename_i e
      have hk : 1 ≤ k := by
        cases k with
        | zero => simp at h; omega
        | succ k => omega
      have hn : n / 10 < 10 ^ k := by rw [Nat.pow_succ] at h; omega
      obtain ⟨g1, g2, g3, g4, g5, g6, g7⟩ := decF_ok k (n / 10) hn hk
      have g6 := g6 (by omega)
      have hd : n % 10 < 10 := by omega
      have hl : (decF k (n / 10) ++ [dig (n % 10)]).length = (decF k (n / 10)).length + 1 := by simp
      rw [hl]
      refine ⟨by simp [g1, dig_is hd], by rw [valF_snoc, g2, dig_nat hd]; omega, by omega, by omega, by rw [Nat.pow_succ]; omega, fun _ => ?_, fun h => ?_⟩
      · obtain ⟨m, hm⟩ : ∃ m, (decF k (n / 10)).length = m + 1 := ⟨_, (Nat.sub_add_cancel g3).symm⟩
        rw [hm] at g6 ⊢
        simp only [Nat.add_sub_cancel] at g6 ⊢
        rw [Nat.pow_succ]
        omega
      · rw [List.head?_append] at h
        cases hh : (decF k (n / 10)).head? with
        | none =>
          rw [List.head?_eq_none_iff] at hh
          rw [hh] at g3
          simp at g3
        | some c =>
          rw [hh] at h
          have := (g7 (by rw [hh]; simpa using h)).1
          omega
theorem dec_ok (n : Nat) (h : n < 100000000000000000000) : (dec n).all isDig = true ∧ valF 0 (dec n) = n ∧ 1 ≤ (dec n).length ∧ (dec n).length ≤ 20 ∧ n < 10 ^ (dec n).length ∧ (1 ≤ n → 10 ^ ((dec n).length - 1) ≤ n) ∧ ((dec n).head? = some 48 → n = 0 ∧ (dec n).length = 1) :=
  decF_ok 20 n (by simpa using h) (by omega)
theorem dec_isNum (n : Nat) (h : n < 100000000000000000000) : isNum (dec n) = true := by
  obtain ⟨g1, g2, g3, g4, g5, g6, g7⟩ := dec_ok n h
  simp only [isNum, g1, Bool.and_true]
  have hne : (dec n).isEmpty = false := by
    cases hd : dec n with
    | nil => rw [hd] at g3; simp at g3
    | cons a t => rfl
  rw [hne]
  simp only [Bool.not_false, Bool.true_and, Bool.not_eq_true', Bool.and_eq_false_iff, beq_eq_false_iff_ne, decide_eq_false_iff_not]
  by_cases e : (dec n).head? = some 48
  · exact .inr (by have := (g7 e).2; omega)
  · exact .inl e
/-- A number's decimal is read as that number, up to 10^18. -/
theorem num_dec (n : Nat) (h : n ≤ 1000000000000000000) : numP (dec n) = some n := by
  obtain ⟨g1, g2, g3, g4, g5, g6, g7⟩ := dec_ok n (by omega)
  rw [numP, if_pos (dec_isNum n (by omega)), g2]
  split
  · rename_i e
    have h1 : 1 ≤ n := by
      by_cases e0 : n = 0
      · subst e0
        have : (dec 0).length = 1 := by decide
        omega
      · omega
    have h2 := g6 h1
    have h3 : 10 ^ 18 ≤ 10 ^ ((dec n).length - 1) := pow_le_pow (by omega)
    congr 1
    omega
  · rfl
theorem dec_inj {a b : Nat} (ha : a < 100000000000000000000) (hb : b < 100000000000000000000) (h : dec a = dec b) : a = b := by
  rw [← (dec_ok a ha).2.1, ← (dec_ok b hb).2.1, h]
theorem dec_head (n : Nat) (h : n < 100000000000000000000) : ∀ c, (dec n).head? = some c → isDig c = true := fun c hc => by
  have := (dec_ok n h).1
  rw [List.all_eq_true] at this
  exact this c (List.mem_of_mem_head? (by rw [hc]; rfl))
theorem dec_len_mono {a b : Nat} (hb : b < 100000000000000000000) (h : a ≤ b) : (dec a).length ≤ (dec b).length := by
  obtain ⟨_, _, a3, _, a5, a6, a7⟩ := dec_ok a (by omega)
  obtain ⟨_, _, b3, _, b5, b6, b7⟩ := dec_ok b hb
  by_cases e : (dec a).length ≤ (dec b).length
  · exact e
  · have h1 : 1 ≤ a := by
      by_cases e0 : a = 0
      · subst e0
        have : (dec 0).length = 1 := by decide
        omega
      · omega
    have h2 := a6 h1
    have h3 : 10 ^ (dec b).length ≤ 10 ^ ((dec a).length - 1) := pow_le_pow (by omega)
    omega
theorem isDig45 : isDig 45 = false := by decide
theorem decI_inj {a b : Int} (ha : -9223372036854775808 ≤ a ∧ a ≤ 9223372036854775807) (hb : -9223372036854775808 ≤ b ∧ b ≤ 9223372036854775807) (h : decI a = decI b) : a = b := by
  unfold decI at h
  by_cases h1 : a < 0 <;> by_cases h2 : b < 0
  · rw [if_pos h1, if_pos h2] at h
    injection h with _ h
    have := dec_inj (by omega) (by omega) h
    omega
  · rw [if_pos h1, if_neg h2] at h
    have := dec_head b.toNat (by omega) 45 (by rw [← h]; rfl)
    rw [isDig45] at this
    cases this
  · rw [if_neg h1, if_pos h2] at h
    have := dec_head a.toNat (by omega) 45 (by rw [h]; rfl)
    rw [isDig45] at this
    cases this
  · rw [if_neg h1, if_neg h2] at h
    have := dec_inj (by omega) (by omega) h
    omega
theorem num_decI_neg {n : Int} (h : n < 0) : numP (decI n) = none := by
  refine numP_no ?_
  rw [decI, if_pos h]
  simp [isNum, isDig45]
theorem num_decI {n : Int} (h : 0 ≤ n) (h1 : n ≤ 1000000000000000000) : numP (decI n) = some n.toNat := by
  rw [decI, if_neg (by omega)]
  exact num_dec _ (by omega)
theorem isNum_decI {n : Int} (h : 0 ≤ n) (h1 : n ≤ 9223372036854775807) : isNum (decI n) = true := by
  rw [decI, if_neg (by omega)]
  exact dec_isNum _ (by omega)
theorem decI_len {n : Int} (h : -9223372036854775808 ≤ n ∧ n ≤ 9223372036854775807) : 1 ≤ (decI n).length ∧ (decI n).length ≤ 21 := by
  unfold decI
  split
  · have := (dec_ok (-n).toNat (by omega)).2.2.2.1
    simp
    omega
  · have := dec_ok n.toNat (by omega)
    exact ⟨this.2.2.1, by omega⟩
theorem isDig_ok {c : UInt8} (h : isDig c = true) : okByte c = true := by
  have := isDig_bd h
  simp [okByte]
  omega
theorem decI_word {n : Int} (h : -9223372036854775808 ≤ n ∧ n ≤ 9223372036854775807) : isWord (decI n) = true := by
  have hd : ∀ m : Nat, m < 100000000000000000000 → (dec m).all okByte = true := fun m hm => by
    have := (dec_ok m hm).1
    rw [List.all_eq_true] at this ⊢
    exact fun c hc => isDig_ok (this c hc)
  have hl := (decI_len h).1
  have h1 : (decI n).all okByte = true := by
    unfold decI
    split
    · rw [List.all_cons, hd _ (by omega)]
      decide
    · exact hd _ (by omega)
  exact (isWord_cur h1).2 (fun e => by rw [e] at hl; simp at hl)
end Go.Proofs.YtokdneolgolkbaaDoor.P05
