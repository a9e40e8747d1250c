/-
  Plain words for texts: lines of words. No program in sight.
  Plain words for decimals. No program in sight.
  The library's words for cutting and splitting, in plain words. No program in sight.
  A text's lines, read byte by byte by places. No program in sight.
  How many lines a text may have. No program in sight.
-/
import Derived.Lib.SplitLaws
import Derived.Lib.Join
namespace Go.Proofs.YtigljnnjamdcnaaDoor.P05

def okByte (c : UInt8) : Bool := decide (33 ≤ c.toNat) && decide (c.toNat ≤ 126)
def isWord (w : List UInt8) : Bool := !w.isEmpty && w.all okByte
/-- A text, byte by byte: the lines so far, the words so far, the word so far. -/
def scan (out : List (List (List UInt8))) (line : List (List UInt8)) (cur : List UInt8) : List UInt8 → Option (List (List (List UInt8)))
  | [] => if cur = [] ∧ line = [] then some out else none
  | c :: t => if c ≠ 32 ∧ c ≠ 10 then (if okByte c then scan out line (cur ++ [c]) t else none)
    else if cur = [] then none else if c = 10 then scan (out ++ [line ++ [cur]]) [] [] t else scan out (line ++ [cur]) [] t
/-- A text's lines, of each its words. -/
def linesP (t : List UInt8) : Option (List (List (List UInt8))) := scan [] [] [] t
/-- The pieces between a byte. -/
def pieces (b : UInt8) : List UInt8 → List (List UInt8)
  | [] => [[]]
  | c :: t => if c = b then [] :: pieces b t else match pieces b t with
    | [] => [[c]]
    | h :: r => (c :: h) :: r
theorem pieces_ne (b : UInt8) : ∀ t, pieces b t ≠ []
  | [] => by simp [pieces]
  | c :: t => by
    rw [pieces]
    split
    · simp
    · cases h : pieces b t with
      | nil => simp
      | cons h r => simp
/-- The first piece goes on from what was there. -/
def pre (cur : List UInt8) : List (List UInt8) → List (List UInt8)
  | [] => [cur]
  | h :: r => (cur ++ h) :: r
theorem pre_pre (a b : List UInt8) (l : List (List UInt8)) : pre a (pre b l) = pre (a ++ b) l := by
  cases l <;> simp [pre]
theorem pre_nil (l : List (List UInt8)) (h : l ≠ []) : pre [] l = l := by
  cases l with
  | nil => exact absurd rfl h
  | cons a t => rfl
theorem pieces_cons_ne (b c : UInt8) (t : List UInt8) (h : c ≠ b) : pieces b (c :: t) = pre [c] (pieces b t) := by
  rw [pieces, if_neg h]
  cases pieces b t <;> rfl
theorem okByte_sep {c : UInt8} (h : okByte c = true) : c ≠ 32 ∧ c ≠ 10 := by
  constructor <;> (intro e; subst e; revert h; decide)
theorem isWord_cur {cur : List UInt8} (h : cur.all okByte = true) : isWord cur = true ↔ cur ≠ [] := by
  cases cur with
  | nil => simp [isWord]
  | cons a t => simp [isWord, h]

theorem scan_line (rest : List UInt8) : ∀ (line : List UInt8) (out : List (List (List UInt8))) (l : List (List UInt8)) (cur : List UInt8), (10 : UInt8) ∉ line → cur.all okByte = true →
    scan out l cur (line ++ 10 :: rest) = if (pre cur (pieces 32 line)).all isWord then scan (out ++ [l ++ pre cur (pieces 32 line)]) [] [] rest else none
  | [], out, l, cur, _, hc => by
    have h := isWord_cur hc
    show scan out l cur (10 :: rest) = _
    rw [scan, if_neg (by decide)]
    simp only [pieces, pre, List.append_nil, List.all_cons, List.all_nil, Bool.and_true]
    by_cases e : cur = []
    · rw [if_pos e, if_neg (fun h' => h.1 h' e)]
    · rw [if_neg e, if_pos (h.2 e)]
      simp
  | c :: t, out, l, cur, hn, hc => by
    have hn' : (10 : UInt8) ∉ t := fun h => hn (by simp [h])
    have hc10 : c ≠ 10 := fun h => hn (by simp [h])
    rw [List.cons_append, scan]
    by_cases e : c = 32
    · subst e
      rw [if_neg (by simp)]
      have hp : pieces 32 (32 :: t) = [] :: pieces 32 t := by rw [pieces, if_pos rfl]
      rw [hp]
      have h := isWord_cur hc
      have h1 : pre cur ([] :: pieces 32 t) = cur :: pieces 32 t := by simp [pre]
      rw [h1, List.all_cons]
      by_cases e : cur = []
      · rw [if_pos e, if_neg]
        intro h'
        simp only [Bool.and_eq_true] at h'
        exact h.1 h'.1 e
      · rw [if_neg e, if_neg (by decide), scan_line rest t out (l ++ [cur]) [] hn' rfl, pre_nil _ (pieces_ne _ _), h.2 e, Bool.true_and]
        simp
    · rw [if_pos ⟨e, hc10⟩, pieces_cons_ne _ _ _ e]
      by_cases ho : okByte c = true
      · rw [if_pos ho, scan_line rest t out l (cur ++ [c]) hn' (by simp [hc, ho]), pre_pre]
      · rw [if_neg ho, if_neg]
        intro h'
        have hm : pre cur (pre [c] (pieces 32 t)) = pre (cur ++ [c]) (pieces 32 t) := pre_pre _ _ _
        rw [hm] at h'
        cases hp : pieces 32 t with
        | nil => exact pieces_ne _ _ hp
        | cons a r =>
          rw [hp] at h'
          simp only [pre, List.all_cons, isWord, Bool.and_eq_true, List.all_append] at h'
          simp_all
theorem scan_open : ∀ (line : List UInt8) (out : List (List (List UInt8))) (l : List (List UInt8)) (cur : List UInt8), (10 : UInt8) ∉ line → (line ≠ [] ∨ l ≠ [] ∨ cur ≠ []) → scan out l cur line = none
  | [], out, l, cur, _, h => by
    rw [scan, if_neg]
    rintro ⟨rfl, rfl⟩
    simp at h
  | c :: t, out, l, cur, hn, _ => by
    have hn' : (10 : UInt8) ∉ t := fun h => hn (by simp [h])
    have hc10 : c ≠ 10 := fun h => hn (by simp [h])
    rw [scan]
    by_cases e : c = 32
    · subst e
      rw [if_neg (by simp)]
      by_cases e : cur = []
      · rw [if_pos e]
      · rw [if_neg e, if_neg (by decide)]
        exact scan_open t out _ _ hn' (.inr (.inl (by simp)))
    · rw [if_pos ⟨e, hc10⟩]
      split
      · exact scan_open t out _ _ hn' (.inr (.inr (by simp)))
      · rfl
theorem scan_out : ∀ (t : List UInt8) (out : List (List (List UInt8))) (l : List (List UInt8)) (cur : List UInt8), scan out l cur t = (scan [] l cur t).map (out ++ ·)
  | [], out, l, cur => by
    rw [scan, scan]
    split <;> simp
  | c :: t, out, l, cur => by
    rw [scan, scan]
    split
    · split
      · exact scan_out t out _ _
      · rfl
    · split
      · rfl
      · split
        · rw [scan_out t (out ++ [l ++ [cur]]), scan_out t ([] ++ [l ++ [cur]])]
          rw [Option.map_map]
          congr 1
          funext x
          simp
        · exact scan_out t out _ _
/-- The lines of two texts. -/
theorem scan_append : ∀ (s t : List UInt8) (out a : List (List (List UInt8))) (l : List (List UInt8)) (cur : List UInt8), scan out l cur s = some a → scan out l cur (s ++ t) = scan a [] [] t
  | [], t, out, a, l, cur, h => by
    rw [scan] at h
    split at h
    · rename_i e
      obtain ⟨rfl, rfl⟩ := e
      injection h with h
      subst h
      rfl
    · cases h
  | c :: s, t, out, a, l, cur, h => by
    rw [List.cons_append]
    rw [scan] at h ⊢
    split at h
    · rename_i e
      rw [if_pos e]
      split at h
      · rename_i e
        rw [if_pos e]
        exact scan_append s t _ _ _ _ h
      · cases h
    · rename_i e
      rw [if_neg e]
      split at h
      · cases h
      · rename_i e
        rw [if_neg e]
        split at h
        · rename_i e
          rw [if_pos e]
          exact scan_append s t _ _ _ _ h
        · rename_i e
          rw [if_neg e]
          exact scan_append s t _ _ _ _ h
theorem linesP_append {s t : List UInt8} {a b : List (List (List UInt8))} (hs : linesP s = some a) (ht : linesP t = some b) : linesP (s ++ t) = some (a ++ b) := by
  unfold linesP at *
  rw [scan_append s t _ _ _ _ hs, scan_out, ht]
  rfl
/-- Words with a byte between them. -/
def joinB (b : UInt8) : List (List UInt8) → List UInt8
  | [] => []
  | [w] => w
  | w :: v :: t => w ++ b :: joinB b (v :: t)
/-- A line of words. -/
def lineP (ws : List (List UInt8)) : List UInt8 := joinB 32 ws ++ [10]
theorem pieces_no (b : UInt8) : ∀ (w : List UInt8), b ∉ w → pieces b w = [w]
  | [], _ => rfl
  | c :: t, h => by
    rw [pieces, if_neg (fun e => h (by simp [e])), pieces_no b t (fun e => h (by simp [e]))]
theorem pieces_word (b : UInt8) : ∀ (w t : List UInt8), b ∉ w → pieces b (w ++ b :: t) = w :: pieces b t
  | [], t, _ => by
    show pieces b (b :: t) = _
    rw [pieces, if_pos rfl]
  | c :: w, t, h => by
    rw [List.cons_append, pieces, if_neg (fun e => h (by simp [e])), pieces_word b w t (fun e => h (by simp [e]))]
theorem pieces_join (b : UInt8) : ∀ (ws : List (List UInt8)), ws ≠ [] → (∀ w ∈ ws, b ∉ w) → pieces b (joinB b ws) = ws
  | [], h, _ => absurd rfl h
  | [w], _, h => by rw [joinB, pieces_no b w (h w (by simp))]
  | w :: v :: t, _, h => by rw [joinB, pieces_word b w _ (h w (by simp)), pieces_join b (v :: t) (by simp) (fun x hx => h x (by simp [hx]))]
theorem isWord_no {w : List UInt8} (h : isWord w = true) : (32 : UInt8) ∉ w ∧ (10 : UInt8) ∉ w := by
  simp only [isWord, Bool.and_eq_true, List.all_eq_true] at h
  exact ⟨fun e => (okByte_sep (h.2 _ e)).1 rfl, fun e => (okByte_sep (h.2 _ e)).2 rfl⟩
theorem joinB_no : ∀ (ws : List (List UInt8)), (∀ w ∈ ws, isWord w = true) → (10 : UInt8) ∉ joinB 32 ws
  | [], _ => by simp [joinB]
  | [w], h => by rw [joinB]; exact (isWord_no (h w (by simp))).2
  | w :: v :: t, h => by
    rw [joinB, List.mem_append, List.mem_cons]
    rintro (e | e | e)
    · exact (isWord_no (h w (by simp))).2 e
    · revert e; decide
    · exact joinB_no (v :: t) (fun x hx => h x (by simp [hx])) e
/-- A line of words, ahead of a text. -/
theorem scan_lineP (ws : List (List UInt8)) (out : List (List (List UInt8))) (rest : List UInt8) (h0 : ws ≠ []) (hw : ∀ w ∈ ws, isWord w = true) : scan out [] [] (lineP ws ++ rest) = scan (out ++ [ws]) [] [] rest := by
  have hp := pieces_join 32 ws h0 (fun w h => (isWord_no (hw w h)).1)
  rw [lineP, List.append_assoc]
  show scan out [] [] (joinB 32 ws ++ 10 :: rest) = _
  rw [scan_line rest _ out [] [] (joinB_no ws hw) rfl, hp, pre_nil _ h0, if_pos (List.all_eq_true.2 hw), List.nil_append]
theorem linesP_lineP (L : List (List (List UInt8))) (h : ∀ ws ∈ L, ws ≠ [] ∧ ∀ w ∈ ws, isWord w = true) : linesP (L.flatMap lineP) = some L := by
  have : ∀ (L out : List (List (List UInt8))), (∀ ws ∈ L, ws ≠ [] ∧ ∀ w ∈ ws, isWord w = true) → scan out [] [] (L.flatMap lineP) = some (out ++ L) := by
    intro L
    induction L with
    | nil => intro out _; simp [scan]
    | cons ws L ih =>
      intro out h
      rw [List.flatMap_cons, scan_lineP ws out _ (h ws (by simp)).1 (h ws (by simp)).2, ih _ (fun x hx => h x (by simp [hx]))]
      simp
  exact this L [] h
/-- The words of a line so far. -/
def partP (l : List (List UInt8)) (cur : List UInt8) : List UInt8 := (l.flatMap fun w => w ++ [32]) ++ cur
theorem lineP_part : ∀ (l : List (List UInt8)) (cur : List UInt8), lineP (l ++ [cur]) = partP l cur ++ [10]
  | [], cur => by simp [lineP, joinB, partP]
  | [w], cur => by simp [lineP, joinB, partP]
  | w :: v :: t, cur => by
    have := lineP_part (v :: t) cur
    simp only [lineP, partP, List.cons_append, joinB, List.flatMap_cons] at this ⊢
    simp at this ⊢
    exact this
/-- What is read is what is printed. -/
theorem scan_back : ∀ (t : List UInt8) (out a : List (List (List UInt8))) (l : List (List UInt8)) (cur : List UInt8), scan out l cur t = some a → (∀ ws ∈ out, ws ≠ [] ∧ ∀ w ∈ ws, isWord w = true) → (∀ w ∈ l, isWord w = true) → cur.all okByte = true →
    a.flatMap lineP = out.flatMap lineP ++ partP l cur ++ t ∧ ∀ ws ∈ a, ws ≠ [] ∧ ∀ w ∈ ws, isWord w = true
  | [], out, a, l, cur, h, ho, _, _ => by
    rw [scan] at h
    split at h
    · rename_i e
      obtain ⟨rfl, rfl⟩ := e
      injection h with h
      subst h
      exact ⟨by simp [partP], ho⟩
    · cases h
  | c :: t, out, a, l, cur, h, ho, hl, hc => by
    rw [scan] at h
    split at h
    · split at h
      · rename_i e
        have := scan_back t out a l (cur ++ [c]) h ho hl (by simp [hc, e])
        refine ⟨?_, this.2⟩
        rw [this.1]
        simp [partP]
      · cases h
    · rename_i e
      split at h
      · cases h
      · rename_i hne
        have hw : isWord cur = true := (isWord_cur hc).2 hne
        split at h
        · rename_i e
          subst e
          have := scan_back t (out ++ [l ++ [cur]]) a [] [] h (fun ws hws => by
            rcases List.mem_append.1 hws with h | h
            · exact ho ws h
            · obtain rfl : ws = l ++ [cur] := by simpa using h
              refine ⟨by simp, fun w hw' => ?_⟩
              rcases List.mem_append.1 hw' with h | h
              · exact hl w h
              · obtain rfl : w = cur := by simpa using h
                exact hw) (by simp) rfl
          refine ⟨?_, this.2⟩
          rw [this.1, List.flatMap_append, List.flatMap_cons, List.flatMap_nil, List.append_nil, lineP_part]
          simp [partP]
        · have e32 : c = 32 := by
            by_cases h : c = 32
            · exact h
            · exact absurd ⟨h, by assumption⟩ e
          subst e32
          have := scan_back t out a (l ++ [cur]) [] h ho (fun w hw' => by
            rcases List.mem_append.1 hw' with h | h
            · exact hl w h
            · obtain rfl : w = cur := by simpa using h
              exact hw) rfl
          refine ⟨?_, this.2⟩
          rw [this.1]
          simp [partP]
theorem linesP_back {t : List UInt8} {a : List (List (List UInt8))} (h : linesP t = some a) : a.flatMap lineP = t ∧ ∀ ws ∈ a, ws ≠ [] ∧ ∀ w ∈ ws, isWord w = true := by
  have := scan_back t [] a [] [] h (by simp) (by simp) rfl
  simpa [partP] using this
end Go.Proofs.YtigljnnjamdcnaaDoor.P05

namespace Go.Proofs.YtigljnnjamdcnaaDoor.P05

def isDig (c : UInt8) : Bool := decide (48 ≤ c.toNat) && decide (c.toNat ≤ 57)
@[irreducible] def stepV (n : Nat) (c : UInt8) : Nat := 10 * n + (c.toNat - 48)
def valF (n : Nat) (l : List UInt8) : Nat := l.foldl stepV n
/-- Is it a decimal? -/
def isNum (l : List UInt8) : Bool := !l.isEmpty && l.all isDig && !(l.head? == some 48 && decide (1 < l.length))
/-- A decimal's number, at most 10^18. -/
def numP (l : List UInt8) : Option Nat := if isNum l then some (if 18 < l.length then 1000000000000000000 else valF 0 l) else none
/-- The number so far. -/
@[irreducible] def stepF (n : Nat) (c : UInt8) : Nat := if 100000000000000000 ≤ n then 1000000000000000000 else n * 10 + (c.toNat - 48)
def clampF (n : Nat) (l : List UInt8) : Nat := l.foldl stepF n
theorem clampF_nil (n : Nat) : clampF n [] = n := rfl
theorem clampF_cons (n : Nat) (c : UInt8) (t : List UInt8) : clampF n (c :: t) = clampF (stepF n c) t := by unfold clampF; exact List.foldl_cons ..
theorem stepV_eq (n : Nat) (c : UInt8) : stepV n c = 10 * n + (c.toNat - 48) := by unfold stepV; exact Eq.refl _
theorem valF_nil (n : Nat) : valF n [] = n := rfl
theorem valF_cons0 (n : Nat) (c : UInt8) (t : List UInt8) : valF n (c :: t) = valF (stepV n c) t := by unfold valF; exact List.foldl_cons ..
theorem valF_cons_of (n : Nat) (c : UInt8) (t : List UInt8) (m : Nat) (h : stepV n c = m) : valF n (c :: t) = valF m t := by subst h; exact valF_cons0 n c t
theorem valF_cons (n : Nat) (c : UInt8) (t : List UInt8) : valF n (c :: t) = valF (10 * n + (c.toNat - 48)) t := valF_cons_of n c t _ (stepV_eq n c)
theorem clampF_snoc : ∀ (l : List UInt8) (n : Nat) (c : UInt8), clampF n (l ++ [c]) = stepF (clampF n l) c
  | [], n, c => by rw [List.nil_append, clampF_cons, clampF_nil, clampF_nil]
  | d :: l, n, c => by rw [List.cons_append, clampF_cons, clampF_snoc l, clampF_cons]
theorem valF_snoc : ∀ (l : List UInt8) (n : Nat) (c : UInt8), valF n (l ++ [c]) = 10 * valF n l + (c.toNat - 48)
  | [], n, c => by rw [List.nil_append, valF_cons, valF_nil, valF_nil]
  | d :: l, n, c => by rw [List.cons_append, valF_cons, valF_snoc l, valF_cons]
theorem isDig_bd {c : UInt8} (h : isDig c = true) : 48 ≤ c.toNat ∧ c.toNat ≤ 57 := by simpa [isDig] using h
theorem clampF_le : ∀ (l : List UInt8) (n : Nat), l.all isDig = true → n ≤ 1000000000000000000 → clampF n l ≤ 1000000000000000000
  | [], n, _, h => h
  | c :: t, n, h, hn => by
    simp only [List.all_cons, Bool.and_eq_true] at h
    have hc := isDig_bd h.1
    rw [clampF_cons]
    refine clampF_le t _ h.2 ?_
    unfold stepF
    split <;> omega
theorem clampF_top : ∀ (l : List UInt8), clampF 1000000000000000000 l = 1000000000000000000
  | [] => rfl
  | c :: t => by rw [clampF_cons, stepF, if_pos (by omega), clampF_top t]
theorem pow_le_pow {a b : Nat} (h : a ≤ b) : 10 ^ a ≤ 10 ^ b := Nat.pow_le_pow_right (by omega) h
theorem clampF_val : ∀ (t : List UInt8) (n j : Nat), t.all isDig = true → 10 ^ j ≤ n → n < 10 ^ (j + 1) → j ≤ 17 → clampF n t = if 18 < j + 1 + t.length then 1000000000000000000 else valF n t
  | [], n, j, _, _, _, hj => by rw [if_neg (by simp; omega), clampF_nil, valF_nil]
  | c :: t, n, j, h, h1, h2, hj => by
    simp only [List.all_cons, Bool.and_eq_true] at h
    have hc := isDig_bd h.1
    rw [clampF_cons, valF_cons, List.length_cons, stepF]
    by_cases e : j = 17
    · subst e
      rw [if_pos (by simpa using h1), clampF_top, if_pos (by omega)]
    · have hp : 10 ^ (j + 1) ≤ 10 ^ 17 := pow_le_pow (by omega)
      have h3 : 10 ^ (j + 1) ≤ n * 10 + (c.toNat - 48) := by rw [Nat.pow_succ]; omega
      have h4 : n * 10 + (c.toNat - 48) < 10 ^ (j + 1 + 1) := by rw [Nat.pow_succ 10 (j + 1)]; omega
      rw [if_neg (by omega), clampF_val t _ (j + 1) h.2 h3 h4 (by omega), Nat.mul_comm n 10]
      rw [show j + 1 + 1 + t.length = j + 1 + (t.length + 1) by omega]
theorem clampF_num {l : List UInt8} (h : isNum l = true) : clampF 0 l = if 18 < l.length then 1000000000000000000 else valF 0 l := by
  cases l with
  | nil => simp [isNum] at h
  | cons c t =>
    simp only [isNum, List.all_cons, Bool.and_eq_true, List.isEmpty_cons, Bool.not_eq_true', List.head?_cons, List.length_cons] at h
    obtain ⟨⟨_, hc, ht⟩, hz⟩ := h
    have hc := isDig_bd hc
    rw [clampF_cons, stepF, if_neg (by omega), valF_cons, Nat.mul_zero, Nat.zero_mul, Nat.zero_add]
    by_cases e : c.toNat = 48
    · have e' : c = 48 := by
        apply UInt8.toNat_inj.1
        rw [e]; rfl
      subst e'
      have : t = [] := by
        cases t with
        | nil => rfl
        | cons a b => simp at hz
      subst this
      rfl
    · rw [clampF_val t _ 0 ht (by omega) (by omega) (by omega), List.length_cons, Nat.add_comm t.length]
theorem numP_yes {l : List UInt8} (h : isNum l = true) : numP l = some (clampF 0 l) := by rw [numP, if_pos h, clampF_num h]
theorem numP_no {l : List UInt8} (h : isNum l = false) : numP l = none := by rw [numP, h]; rfl
theorem numP_le {l : List UInt8} {n : Nat} (h : numP l = some n) : n ≤ 1000000000000000000 := by
  by_cases e : isNum l = true
  · rw [numP_yes e] at h
    injection h with h
    subst h
    refine clampF_le l 0 ?_ (by omega)
    simp only [isNum, Bool.and_eq_true] at e
    exact e.1.2
  · rw [numP_no (by simpa using e)] at h
    cases h

/-- A digit. -/
def dig (d : Nat) : UInt8 := UInt8.ofNat (48 + d)
theorem dig_nat {d : Nat} (h : d < 10) : (dig d).toNat = 48 + d := by
  unfold dig
  rw [UInt8.toNat_ofNat_of_lt']
  simp [UInt8.size]
  omega
theorem dig_is {d : Nat} (h : d < 10) : isDig (dig d) = true := by simp [isDig, dig_nat h]; omega
/-- A number's decimal, with at most so many digits. -/
def decF : Nat → Nat → List UInt8
  | 0, _ => []
  | k + 1, n => if n < 10 then [dig n] else decF k (n / 10) ++ [dig (n % 10)]
theorem decF_small (k n : Nat) (h : n < 10) : decF (k + 1) n = [dig n] := by rw [decF, if_pos h]
theorem decF_great (k n : Nat) (h : 10 ≤ n) : decF (k + 1) n = decF k (n / 10) ++ [dig (n % 10)] := by rw [decF, if_neg (by omega)]
def dec (n : Nat) : List UInt8 := decF 20 n
def decI (n : Int) : List UInt8 := if n < 0 then 45 :: dec (-n).toNat else dec n.toNat
/-- What is known of a decimal. -/
theorem decF_ok : ∀ (k n : Nat), n < 10 ^ k → 1 ≤ k → (decF k n).all isDig = true ∧ valF 0 (decF k n) = n ∧ 1 ≤ (decF k n).length ∧ (decF k n).length ≤ k ∧ n < 10 ^ (decF k n).length ∧ (1 ≤ n → 10 ^ ((decF k n).length - 1) ≤ n) ∧ ((decF k n).head? = some 48 → n = 0 ∧ (decF k n).length = 1)
  | 0, n, _, h => absurd h (by omega)
  | k + 1, n, h, _ => by
    rw [decF]
    split
    · rename_i e
      refine ⟨by simp [dig_is e], ?_, by simp, by simp, by simpa using e, fun h => by simpa using h, fun h => ⟨?_, rfl⟩⟩
      · rw [valF_cons, valF_nil, dig_nat e]; omega
      · simp only [List.head?_cons, Option.some.injEq] at h
        have := dig_nat e
        rw [h] at this
        have e48 : (48 : UInt8).toNat = 48 := rfl
        omega
    · rename_i e
      have hk : 1 ≤ k := by
        cases k with
        | zero => simp at h; omega
        | succ k => omega
      have hn : n / 10 < 10 ^ k := by rw [Nat.pow_succ] at h; omega
      obtain ⟨g1, g2, g3, g4, g5, g6, g7⟩ := decF_ok k (n / 10) hn hk
      have g6 := g6 (by omega)
      have hd : n % 10 < 10 := by omega
      have hl : (decF k (n / 10) ++ [dig (n % 10)]).length = (decF k (n / 10)).length + 1 := by simp
      rw [hl]
      refine ⟨by simp [g1, dig_is hd], by rw [valF_snoc, g2, dig_nat hd]; omega, by omega, by omega, by rw [Nat.pow_succ]; omega, fun _ => ?_, fun h => ?_⟩
      · obtain ⟨m, hm⟩ : ∃ m, (decF k (n / 10)).length = m + 1 := ⟨_, (Nat.sub_add_cancel g3).symm⟩
        rw [hm] at g6 ⊢
        simp only [Nat.add_sub_cancel] at g6 ⊢
        rw [Nat.pow_succ]
        omega
      · rw [List.head?_append] at h
        cases hh : (decF k (n / 10)).head? with
        | none =>
          rw [List.head?_eq_none_iff] at hh
          rw [hh] at g3
          simp at g3
        | some c =>
          rw [hh] at h
          have := (g7 (by rw [hh]; simpa using h)).1
          omega
theorem dec_ok (n : Nat) (h : n < 100000000000000000000) : (dec n).all isDig = true ∧ valF 0 (dec n) = n ∧ 1 ≤ (dec n).length ∧ (dec n).length ≤ 20 ∧ n < 10 ^ (dec n).length ∧ (1 ≤ n → 10 ^ ((dec n).length - 1) ≤ n) ∧ ((dec n).head? = some 48 → n = 0 ∧ (dec n).length = 1) :=
  decF_ok 20 n (by simpa using h) (by omega)
theorem dec_isNum (n : Nat) (h : n < 100000000000000000000) : isNum (dec n) = true := by
  obtain ⟨g1, g2, g3, g4, g5, g6, g7⟩ := dec_ok n h
  simp only [isNum, g1, Bool.and_true]
  have hne : (dec n).isEmpty = false := by
    cases hd : dec n with
    | nil => rw [hd] at g3; simp at g3
    | cons a t => rfl
  rw [hne]
  simp only [Bool.not_false, Bool.true_and, Bool.not_eq_true', Bool.and_eq_false_iff, beq_eq_false_iff_ne, decide_eq_false_iff_not]
  by_cases e : (dec n).head? = some 48
  · exact .inr (by have := (g7 e).2; omega)
  · exact .inl e
/-- A number's decimal is read as that number, up to 10^18. -/
theorem num_dec (n : Nat) (h : n ≤ 1000000000000000000) : numP (dec n) = some n := by
  obtain ⟨g1, g2, g3, g4, g5, g6, g7⟩ := dec_ok n (by omega)
  rw [numP, if_pos (dec_isNum n (by omega)), g2]
  split
  · rename_i e
    have h1 : 1 ≤ n := by
      by_cases e0 : n = 0
      · subst e0
        have : (dec 0).length = 1 := by decide
        omega
      · omega
    have h2 := g6 h1
    have h3 : 10 ^ 18 ≤ 10 ^ ((dec n).length - 1) := pow_le_pow (by omega)
    congr 1
    omega
  · rfl
theorem dec_inj {a b : Nat} (ha : a < 100000000000000000000) (hb : b < 100000000000000000000) (h : dec a = dec b) : a = b := by
  rw [← (dec_ok a ha).2.1, ← (dec_ok b hb).2.1, h]
theorem dec_head (n : Nat) (h : n < 100000000000000000000) : ∀ c, (dec n).head? = some c → isDig c = true := fun c hc => by
  have := (dec_ok n h).1
  rw [List.all_eq_true] at this
  exact this c (List.mem_of_mem_head? (by rw [hc]; rfl))
theorem dec_len_mono {a b : Nat} (hb : b < 100000000000000000000) (h : a ≤ b) : (dec a).length ≤ (dec b).length := by
  obtain ⟨_, _, a3, _, a5, a6, a7⟩ := dec_ok a (by omega)
  obtain ⟨_, _, b3, _, b5, b6, b7⟩ := dec_ok b hb
  by_cases e : (dec a).length ≤ (dec b).length
  · exact e
  · have h1 : 1 ≤ a := by
      by_cases e0 : a = 0
      · subst e0
        have : (dec 0).length = 1 := by decide
        omega
      · omega
    have h2 := a6 h1
    have h3 : 10 ^ (dec b).length ≤ 10 ^ ((dec a).length - 1) := pow_le_pow (by omega)
    omega
theorem isDig45 : isDig 45 = false := by decide
theorem decI_inj {a b : Int} (ha : -9223372036854775808 ≤ a ∧ a ≤ 9223372036854775807) (hb : -9223372036854775808 ≤ b ∧ b ≤ 9223372036854775807) (h : decI a = decI b) : a = b := by
  unfold decI at h
  by_cases h1 : a < 0 <;> by_cases h2 : b < 0
  · rw [if_pos h1, if_pos h2] at h
    injection h with _ h
    have := dec_inj (by omega) (by omega) h
    omega
  · rw [if_pos h1, if_neg h2] at h
    have := dec_head b.toNat (by omega) 45 (by rw [← h]; rfl)
    rw [isDig45] at this
    cases this
  · rw [if_neg h1, if_pos h2] at h
    have := dec_head a.toNat (by omega) 45 (by rw [h]; rfl)
    rw [isDig45] at this
    cases this
  · rw [if_neg h1, if_neg h2] at h
    have := dec_inj (by omega) (by omega) h
    omega
theorem num_decI_neg {n : Int} (h : n < 0) : numP (decI n) = none := by
  refine numP_no ?_
  rw [decI, if_pos h]
  simp [isNum, isDig45]
theorem num_decI {n : Int} (h : 0 ≤ n) (h1 : n ≤ 1000000000000000000) : numP (decI n) = some n.toNat := by
  rw [decI, if_neg (by omega)]
  exact num_dec _ (by omega)
theorem isNum_decI {n : Int} (h : 0 ≤ n) (h1 : n ≤ 9223372036854775807) : isNum (decI n) = true := by
  rw [decI, if_neg (by omega)]
  exact dec_isNum _ (by omega)
theorem decI_len {n : Int} (h : -9223372036854775808 ≤ n ∧ n ≤ 9223372036854775807) : 1 ≤ (decI n).length ∧ (decI n).length ≤ 21 := by
  unfold decI
  split
  · have := (dec_ok (-n).toNat (by omega)).2.2.2.1
    simp
    omega
  · have := dec_ok n.toNat (by omega)
    exact ⟨this.2.2.1, by omega⟩
theorem isDig_ok {c : UInt8} (h : isDig c = true) : okByte c = true := by
  have := isDig_bd h
  simp [okByte]
  omega
theorem decI_word {n : Int} (h : -9223372036854775808 ≤ n ∧ n ≤ 9223372036854775807) : isWord (decI n) = true := by
  have hd : ∀ m : Nat, m < 100000000000000000000 → (dec m).all okByte = true := fun m hm => by
    have := (dec_ok m hm).1
    rw [List.all_eq_true] at this ⊢
    exact fun c hc => isDig_ok (this c hc)
  have hl := (decI_len h).1
  have h1 : (decI n).all okByte = true := by
    unfold decI
    split
    · rw [List.all_cons, hd _ (by omega)]
      decide
    · exact hd _ (by omega)
  exact (isWord_cur h1).2 (fun e => by rw [e] at hl; simp at hl)
end Go.Proofs.YtigljnnjamdcnaaDoor.P05

namespace Go.Proofs.YtigljnnjamdcnaaDoor.P05
open Go

theorem index_one (c : UInt8) : ∀ (p q : List UInt8), c ∉ p → Lib.index (p ++ c :: q) [c] = p.length
  | [], q, _ => by simp [Lib.index, List.isPrefixOf]
  | b :: p, q, h => by
    have hb : c ≠ b := fun e => h (by simp [e])
    have ih := index_one c p q (fun e => h (by simp [e]))
    rw [List.cons_append, Lib.index]
    have hp : ([c] : List UInt8).isPrefixOf (b :: (p ++ c :: q)) = false := by simp [List.isPrefixOf, hb]
    rw [hp, ih]
    have : ((p.length : Int) == -1) = false := by rw [beq_eq_false_iff_ne]; omega
    simp [this]
theorem index_none (c : UInt8) : ∀ (p : List UInt8), c ∉ p → Lib.index p [c] = -1
  | [], _ => by simp [Lib.index]
  | b :: p, h => by
    have hb : c ≠ b := fun e => h (by simp [e])
    have ih := index_none c p (fun e => h (by simp [e]))
    rw [Lib.index]
    have hp : ([c] : List UInt8).isPrefixOf (b :: p) = false := by simp [List.isPrefixOf, hb]
    rw [hp, ih]
    simp
theorem split_at (c : UInt8) : ∀ (s : List UInt8), c ∈ s → ∃ p q, s = p ++ c :: q ∧ c ∉ p
  | [], h => by simp at h
  | b :: t, h => by
    by_cases e : b = c
    · subst e; exact ⟨[], t, rfl, by simp⟩
    · obtain ⟨p, q, h1, h2⟩ := split_at c t (by
        rcases List.mem_cons.1 h with h | h
        · exact absurd h.symm e
        · exact h)
      exact ⟨b :: p, q, by rw [h1]; rfl, by simp [h2, Ne.symm e]⟩
theorem splitK_pieces (c : UInt8) : ∀ (k : Nat) (s : List UInt8), s.count c = k → Lib.splitK [c] 0 k s = pieces c s
  | 0, s, h => by rw [pieces_no c s (List.count_eq_zero.1 h)]; rfl
  | k + 1, s, h => by
    obtain ⟨p, q, rfl, hp⟩ := split_at c s (List.count_pos_iff.1 (by omega))
    have hc : q.count c = k := by
      rw [List.count_append, List.count_cons, List.count_eq_zero.2 hp] at h
      simp at h
      exact h
    rw [Lib.splitK, index_one c p q hp, pieces_word c p q hp]
    have : ((p.length : Int) == -1) = false := by rw [beq_eq_false_iff_ne]; omega
    rw [this]
    simp only [Int.toNat_natCast, Nat.add_zero, List.length_singleton]
    rw [if_neg (by simp), List.take_left, show p ++ c :: q = (p ++ [c]) ++ q by simp, List.drop_left' (by simp), splitK_pieces c k q hc]
/-- What strings.Split hands back at a separator of one byte. -/
theorem splitB_pieces (c : UInt8) (s : ByteArray) : (Lib.splitB ⟨#[c]⟩ 0 (Lib.countB s ⟨#[c]⟩) s).map (·.data.toList) = pieces c s.data.toList := by
  rw [Lib.splitB_data]
  refine splitK_pieces c _ _ ?_
  exact (Lib.count_one c s.data.toList).symm
theorem cut_hit (c : UInt8) (p q : List UInt8) (h : c ∉ p) : Lib.cut (p ++ c :: q) [c] = (p, q, true) := by
  unfold Lib.cut
  rw [index_one c p q h, if_pos (by omega)]
  simp
theorem cut_miss (c : UInt8) (p : List UInt8) (h : c ∉ p) : Lib.cut p [c] = (p, [], false) := by
  unfold Lib.cut
  rw [index_none c p h, if_neg (by omega)]
theorem join_joinB (b : UInt8) : ∀ ws : List (List UInt8), Lib.join ws [b] = joinB b ws
  | [] => by simp [Lib.join, joinB]
  | [w] => by simp [Lib.join, joinB]
  | w :: v :: t => by
    have := join_joinB b (v :: t)
    unfold Lib.join at this ⊢
    rw [joinB, ← this]
    simp [List.intercalate]
end Go.Proofs.YtigljnnjamdcnaaDoor.P05

namespace Go.Proofs.YtigljnnjamdcnaaDoor.P05

/-- What stands from a place to another one. -/
def sub (l : List UInt8) (a b : Nat) : List UInt8 := (l.drop a).take (b - a)
theorem sub_self (l : List UInt8) (a : Nat) : sub l a a = [] := by simp [sub]
theorem sub_snoc {l : List UInt8} {a b : Nat} {c : UInt8} (h : a ≤ b) (hc : l[b]? = some c) : sub l a (b + 1) = sub l a b ++ [c] := by
  unfold sub
  have e : b + 1 - a = (b - a) + 1 := by omega
  rw [e, List.take_add_one, List.getElem?_drop, show a + (b - a) = b by omega, hc]
  rfl
theorem sub_len (l : List UInt8) (a b : Nat) (h : a ≤ b) (hb : b ≤ l.length) : (sub l a b).length = b - a := by simp [sub]; omega
theorem sub_ne {l : List UInt8} {a b : Nat} (h : a < b) (hb : b ≤ l.length) : sub l a b ≠ [] := fun e => by
  have := sub_len l a b (by omega) hb
  rw [e] at this
  simp at this
  omega
theorem drop_at {l : List UInt8} {b : Nat} {c : UInt8} (hc : l[b]? = some c) : l.drop b = c :: l.drop (b + 1) := by
  obtain ⟨h, rfl⟩ := List.getElem?_eq_some_iff.1 hc
  exact List.drop_eq_getElem_cons h
theorem scan_ok {out : List (List (List UInt8))} {line : List (List UInt8)} {cur t : List UInt8} {c : UInt8} (h : okByte c = true) : scan out line cur (c :: t) = scan out line (cur ++ [c]) t := by
  rw [scan, if_pos (okByte_sep h), if_pos h]
theorem scan_bad {out : List (List (List UInt8))} {line : List (List UInt8)} {cur t : List UInt8} {c : UInt8} (h : okByte c = false) (h1 : c ≠ 32) (h2 : c ≠ 10) : scan out line cur (c :: t) = none := by
  rw [scan, if_pos ⟨h1, h2⟩, h]
  rfl
theorem scan_empty {out : List (List (List UInt8))} {line : List (List UInt8)} {t : List UInt8} {c : UInt8} (h : c = 32 ∨ c = 10) : scan out line [] (c :: t) = none := by
  rw [scan, if_neg (by rcases h with h | h <;> simp [h]), if_pos rfl]
theorem scan_sp {out : List (List (List UInt8))} {line : List (List UInt8)} {cur t : List UInt8} (h : cur ≠ []) : scan out line cur (32 :: t) = scan out (line ++ [cur]) [] t := by
  rw [scan, if_neg (by simp), if_neg h, if_neg (by decide)]
theorem scan_nl {out : List (List (List UInt8))} {line : List (List UInt8)} {cur t : List UInt8} (h : cur ≠ []) : scan out line cur (10 :: t) = scan (out ++ [line ++ [cur]]) [] [] t := by
  rw [scan, if_neg (by simp), if_neg h, if_pos rfl]
theorem scan_end_no {out : List (List (List UInt8))} {line : List (List UInt8)} {cur : List UInt8} (h : cur ≠ [] ∨ line ≠ []) : scan out line cur [] = none := by
  rw [scan, if_neg]
  rintro ⟨h1, h2⟩
  rcases h with h | h
  · exact h h1
  · exact h h2
theorem scan_end {out : List (List (List UInt8))} : scan out [] [] [] = some out := rfl
end Go.Proofs.YtigljnnjamdcnaaDoor.P05

namespace Go.Proofs.YtigljnnjamdcnaaDoor.P05
theorem scan_len : ∀ (t : List UInt8) (out a : List (List (List UInt8))) (l : List (List UInt8)) (cur : List UInt8), scan out l cur t = some a → a.length ≤ out.length + t.length
  | [], out, a, l, cur, h => by
    rw [scan] at h
    split at h
    · injection h with h
      subst h
      simp
    · cases h
  | c :: t, out, a, l, cur, h => by
    rw [List.length_cons]
    rw [scan] at h
    split at h
    · split at h
      · have := scan_len t _ _ _ _ h
        omega
      · cases h
    · split at h
      · cases h
      · split at h
        · have := scan_len t _ _ _ _ h
          simp at this
          omega
        · have := scan_len t _ _ _ _ h
          omega
theorem linesP_len {t : List UInt8} {a : List (List (List UInt8))} (h : linesP t = some a) : a.length ≤ t.length := by
  have := scan_len t [] a [] [] h
  simpa using this
end Go.Proofs.YtigljnnjamdcnaaDoor.P05
