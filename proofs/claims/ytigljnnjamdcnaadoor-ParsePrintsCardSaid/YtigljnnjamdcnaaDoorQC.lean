/-
  Instances as text: the plain model. No program in sight.
  Instances as text: sets of days, and what is printed is read. No program in sight.
  Instances as text: what is read is printed as it was. No program in sight.
  Instances as text: the reader's whole way back; what stands behind a text. No program in sight.
  Instances as text: the laws of parsing and printing. No program in sight.
  What is read: its bounds, part by part. No program in sight.
  An instance's text, line by line. No program in sight.
  What is parsed: its bounds. No program in sight.
  A made instance may be. No program in sight.
-/
import Derived.Test.YtigljnnjamdcnaaDoorQA
import Derived.Test.YtigljnnjamdcnaaDoorQB
namespace Go.Proofs.YtigljnnjamdcnaaDoor.P07
open P05 P06

abbrev Word := List UInt8
abbrev Line := List Word
/-- A word's number. -/
def nI (x : Word) : Int := ((if isNum x then clampF 0 x else 0 : Nat) : Int)
def wTranter : Word := [116, 114, 97, 110, 116, 101, 114]
def wOne : Word := [49]
def wDays : Word := [100, 97, 121, 115]
def wVeh : Word := [118, 101, 104, 105, 99, 108, 101, 115]
def wCap : Word := [99, 97, 112, 97, 99, 105, 116, 121]
def wLen : Word := [108, 101, 110, 103, 116, 104]
def wCust : Word := [99, 117, 115, 116, 111, 109, 101, 114, 115]
def wVisit : Word := [118, 105, 115, 105, 116]
def wTank : Word := [116, 97, 110, 107]
def wFill : Word := [102, 105, 108, 108]
def wAny : Word := [97, 110, 121]
def wDist : Word := [100, 105, 115, 116, 97, 110, 99, 101, 115]
/-- A set's text for n days, and the set of a text. -/
def setText (s n : Nat) : Word := (List.range n).map fun d => if s / 2 ^ d % 2 = 1 then 49 else 48
def setV : Word → Nat
  | [] => 0
  | c :: l => (if c = 49 then 1 else 0) + 2 * setV l
def setOk (w : Word) : Bool := !w.isEmpty && w.all fun c => c == 48 || c == 49
/-- What days.Parse makes of it. -/
def setP (w : Word) : Nat := if 64 < w.length then 0 else setV w

def custLine (days : Int) (c : Cust) : Line :=
  if c.kind = 1 then wVisit :: decI c.demand :: c.pats.map fun s => setText s days.toNat
  else [wTank, decI c.rate, decI c.size, decI c.start, if c.rule = 1 then wFill else wAny, decI c.hold]
def headLines (x : Inst) : List Line := [[wTranter, wOne], [wDays, decI x.days, wVeh, decI x.veh, wCap, decI x.cap, wLen, decI x.len], [wCust, decI x.custs.length]]
def instLines (x : Inst) : List Line := headLines x ++ (x.custs.map (custLine x.days) ++ ([wDist] :: x.dist.map fun r => r.map decI))
def instText (x : Inst) : List UInt8 := (instLines x).flatMap lineP

/-- The reader: what is left to read, what was read. -/
structure Rd where
  rest : List Line
  x : Inst
  count : Int
  odd : Bool
def zeroI : Inst := ⟨0, 0, 0, 0, [], []⟩
/-- What stands behind each name. -/
def namedL : List Word → Line → Option (List Word)
  | [], [] => some []
  | n :: ns, a :: b :: l => if a = n then (namedL ns l).map fun t => b :: t else none
  | _, _ => none
def namedN (names : List Word) (line : Line) : Option (List Int) := (namedL names line).bind fun ds => if ds.all isNum then some (ds.map nI) else none
def nextR (st : Rd) : Line × Rd := match st.rest with
  | [] => ([], st)
  | l :: r => (l, { st with rest := r })
def titleR (st : Rd) : Option Rd := if (nextR st).1 = [wTranter, wOne] then some (nextR st).2 else none
def limitsR (st : Rd) : Option Rd := match namedN [wDays, wVeh, wCap, wLen] (nextR st).1 with
  | some [a, b, c, d] => some { (nextR st).2 with x := ⟨a, b, c, d, st.x.custs, st.x.dist⟩ }
  | _ => none
def howR (st : Rd) : Option Rd := match namedN [wCust] (nextR st).1 with
  | some [n] => some { (nextR st).2 with count := n }
  | _ => none
def visitC (days : Int) : List Word → Option (Cust × Bool)
  | [] => none
  | d :: ps => if isNum d && ps.all setOk then some (⟨1, nI d, ps.map setP, 0, 0, 0, 0, 0⟩, ps.any fun p => decide ((p.length : Int) ≠ days)) else none
def ruleOf (r : Word) : Option Int := if r = wFill then some 1 else if r = wAny then some 2 else none
def tankC : List Word → Option (Cust × Bool)
  | [a, b, c, r, h] => if isNum a && isNum b && isNum c && isNum h then (ruleOf r).map fun u => (⟨2, 0, [], nI a, nI b, nI c, u, nI h⟩, false) else none
  | _ => none
def custC (days : Int) : Line → Option (Cust × Bool)
  | [] => none
  | w :: l => if w = wVisit then visitC days l else if w = wTank then tankC l else none
def custR (st : Rd) : Option Rd := (custC st.x.days (nextR st).1).map fun c =>
  { (nextR st).2 with x := ⟨st.x.days, st.x.veh, st.x.cap, st.x.len, st.x.custs ++ [c.1], st.x.dist⟩, odd := st.odd || c.2 }
def custsR : Nat → Rd → Option Rd
  | 0, st => some st
  | n + 1, st => (custR st).bind (custsR n)
def rowR (st : Rd) : Option Rd := if (nextR st).1.all isNum && decide (((nextR st).1.length : Int) = st.count + 1) then
  some { (nextR st).2 with x := ⟨st.x.days, st.x.veh, st.x.cap, st.x.len, st.x.custs, st.x.dist ++ [(nextR st).1.map nI]⟩ } else none
def rowsR : Nat → Rd → Option Rd
  | 0, st => some st
  | n + 1, st => (rowR st).bind (rowsR n)
def distR (st : Rd) : Option Rd := if (nextR st).1 = [wDist] then rowsR (st.count + 1).toNat (nextR st).2 else none
def endR (st : Rd) : Option Rd := if st.rest = [] then some st else none
def readR (L : List Line) : Option Rd := (titleR ⟨L, zeroI, 0, false⟩).bind fun st => (limitsR st).bind fun st => (howR st).bind fun st => (custsR st.count.toNat st).bind fun st => (distR st).bind endR
/-- What Parse answers. -/
def parseX (t : List UInt8) : Inst × Int := match (linesP t).bind readR with
  | none => (zeroI, 2)
  | some st => if st.odd || !may st.x then (zeroI, 3) else (st.x, 0)
end Go.Proofs.YtigljnnjamdcnaaDoor.P07

namespace Go.Proofs.YtigljnnjamdcnaaDoor.P07
open P05 P06

theorem setText_succ (s n : Nat) : setText s (n + 1) = (if s % 2 = 1 then 49 else 48) :: setText (s / 2) n := by
  unfold setText
  rw [List.range_succ_eq_map, List.map_cons, List.map_map]
  simp only [Nat.pow_zero, Nat.div_one]
  congr 1
  refine List.map_congr_left fun d _ => ?_
  simp only [Function.comp]
  rw [Nat.pow_succ', Nat.div_div_eq_div_mul]
theorem setText_len (s n : Nat) : (setText s n).length = n := by simp [setText]
theorem setV_text : ∀ n s : Nat, setV (setText s n) = s % 2 ^ n
  | 0, s => by simp [setText, setV, Nat.mod_one]
  | n + 1, s => by
    rw [setText_succ, setV, setV_text n, Nat.pow_succ', Nat.mod_mul]
    by_cases h : s % 2 = 1
    · simp [h]
    · simp [h]; omega
theorem setV_all : ∀ w : Word, (w.all fun c => c == 48 || c == 49) = true → setText (setV w) w.length = w
  | [], _ => rfl
  | c :: l, h => by
    rw [List.all_cons, Bool.and_eq_true] at h
    rw [List.length_cons, setText_succ, setV]
    have ih := setV_all l h.2
    by_cases hc : c = 49
    · subst hc
      simp only [if_true]
      rw [show (1 + 2 * setV l) / 2 = setV l by omega, ih, if_pos (by omega)]
    · have hc8 : c = 48 := by have := h.1; simp only [Bool.or_eq_true, beq_iff_eq] at this; rcases this with h | h; exact h; exact absurd h hc
      subst hc8
      rw [if_neg hc, show (0 + 2 * setV l) / 2 = setV l by omega, ih, if_neg (by omega)]
theorem setText_ok {s n : Nat} (h : 0 < n) : setOk (setText s n) = true := by
  unfold setOk
  have h1 : (setText s n).isEmpty = false := by
    have := setText_len s n
    cases hs : setText s n with
    | nil => rw [hs] at this; simp at this; omega
    | cons a l => rfl
  rw [h1]
  simp only [Bool.not_false, Bool.true_and]
  rw [List.all_eq_true]
  intro c hc
  unfold setText at hc
  obtain ⟨d, _, rfl⟩ := List.mem_map.1 hc
  split <;> rfl
theorem setP_text {s n : Nat} (hn : n ≤ 64) (hs : s < 2 ^ n) : setP (setText s n) = s := by
  unfold setP
  rw [setText_len, if_neg (by omega), setV_text, Nat.mod_eq_of_lt hs]
theorem next_lt {s : Nat} {n : Nat} (hn : n ≤ 64) (hs : s < 18446744073709551616) (h : P02.next s n < 0) : s < 2 ^ n := by
  refine Nat.lt_pow_two_of_testBit s fun i hi => ?_
  rw [Nat.testBit_eq_decide_div_mod_eq, decide_eq_false_iff_not]
  intro h1
  by_cases h64 : i < 64
  · have hm : (i : Int) ∈ P02.days s n := by
      unfold P02.days
      rw [List.mem_filter]
      refine ⟨List.mem_map.2 ⟨i, List.mem_range.2 h64, rfl⟩, ?_⟩
      simp only [P02.has, Bool.and_eq_true, decide_eq_true_eq, Int.toNat_natCast]
      omega
    have hall : ∀ z ∈ P02.days s n, 0 ≤ z := fun z hz => by
      unfold P02.days at hz
      rw [List.mem_filter, Bool.and_eq_true, decide_eq_true_eq] at hz
      omega
    unfold P02.next at h
    cases hd : P02.days s n with
    | nil => rw [hd] at hm; simp at hm
    | cons a l =>
      rw [hd] at h hall
      have := hall a (by simp)
      simp at h
      omega
  · have : s < 2 ^ i := Nat.lt_of_lt_of_le hs (Nat.pow_le_pow_right (n := 2) (by decide) (show 64 ≤ i by omega) : 2 ^ 64 ≤ 2 ^ i)
    rw [Nat.div_eq_of_lt this] at h1
    simp at h1
theorem nI_dec {n : Int} (h : 0 ≤ n) (h1 : n ≤ 1000000000000000000) : nI (decI n) = n := by
  have h2 := num_decI h h1
  have h3 := isNum_decI h (by omega)
  rw [numP_yes h3] at h2
  injection h2 with h2
  unfold nI
  rw [if_pos h3, h2]
  omega
theorem isN_dec {n : Int} (h : 0 ≤ n) (h1 : n ≤ 1000000000000000000) : isNum (decI n) = true := isNum_decI h (by omega)
theorem fromB_iff {n lo hi : Int} : fromB n lo hi = true ↔ lo ≤ n ∧ n ≤ hi := by simp [fromB]
/-- A customer that may be is read as it was printed. -/
theorem custC_line {c : Cust} {days : Int} (hd0 : 1 ≤ days) (hd1 : days ≤ 64) (hw : c.wf) (hm : custMay c days = true) : custC days (custLine days c) = some (c, false) := by
  obtain ⟨kind, demand, pats, rate, size, start, rule, hold⟩ := c
  unfold custMay at hm
  simp only at hm
  by_cases h1 : kind = 1
  · subst h1
    simp only [if_true, musts1, List.all_cons, List.all_nil, id, Bool.and_true, Bool.and_eq_true, patternedB, tanklessB, fromB_iff, beq_iff_eq] at hm
    obtain ⟨hdm, ⟨hp, -⟩, ⟨⟨⟨rfl, rfl⟩, rfl⟩, rfl⟩, rfl⟩ := hm
    rw [List.all_eq_true] at hp
    unfold custLine
    simp only [if_true]
    unfold custC
    simp only [if_true]
    simp only [visitC]
    have e0 : ((days.toNat : Nat) : Int) = days := by omega
    have hl : ∀ s ∈ pats, setP (setText s days.toNat) = s := fun s hs => setP_text (by omega) (next_lt (by omega) (hw.2.2.1 s hs) (by have := hp s hs; rw [decide_eq_true_eq] at this; rw [e0]; exact this))
    rw [isN_dec (by omega) (by omega), nI_dec (by omega) (by omega), List.map_map]
    have e1 : (pats.map fun s => setText s days.toNat).all setOk = true := by
      rw [List.all_map, List.all_eq_true]
      exact fun s _ => setText_ok (by omega)
    have e2 : pats.map (setP ∘ fun s => setText s days.toNat) = pats := by
      conv => rhs; rw [← List.map_id pats]
      exact List.map_congr_left fun s hs => hl s hs
    have e3 : ((pats.map fun s => setText s days.toNat).any fun p => decide ((p.length : Int) ≠ days)) = false := by
      rw [List.any_map, List.any_eq_false]
      intro s _
      simp only [Function.comp, setText_len, decide_eq_true_eq]
      omega
    rw [e1, e2, e3]
    rfl
  · rw [if_neg h1] at hm
    by_cases h2 : kind = 2
    · subst h2
      simp only [if_true, musts2, List.all_cons, List.all_nil, id, Bool.and_true, Bool.and_eq_true, patternlessB, ruledB, fromB_iff, beq_iff_eq, Bool.or_eq_true, decide_eq_true_eq] at hm
      obtain ⟨hr, hs, ht, hu, hh, hp, rfl⟩ := hm
      obtain rfl : pats = [] := List.eq_nil_of_length_eq_zero hp
      unfold custLine
      simp only [show ¬ (2 : Int) = 1 by omega, if_false]
      unfold custC
      simp only [show ¬ wTank = wVisit by decide, if_false, if_true]
      simp only [tankC]
      rw [isN_dec (by omega) (by omega), isN_dec (by omega) (by omega), isN_dec (by omega) (by omega), isN_dec (by omega) (by omega), nI_dec (by omega) (by omega), nI_dec (by omega) (by omega), nI_dec (by omega) (by omega), nI_dec (by omega) (by omega)]
      simp only [Bool.and_self, if_true]
      rcases hu with rfl | rfl
      · rfl
      · simp only [show ¬ (2 : Int) = 1 by omega, if_false]
        rfl
    · rw [if_neg h2] at hm
      cases hm
theorem nextR_cons (l : Line) (r : List Line) (x : Inst) (n : Int) (o : Bool) : nextR ⟨l :: r, x, n, o⟩ = (l, ⟨r, x, n, o⟩) := rfl
theorem custsR_lines {x : Inst} (hd0 : 1 ≤ x.days) (hd1 : x.days ≤ 64) (n : Int) (rest : List Line) : ∀ (cs : List Cust) (acc : List Cust), (∀ c ∈ cs, c.wf ∧ custMay c x.days = true) →
    custsR cs.length ⟨cs.map (custLine x.days) ++ rest, ⟨x.days, x.veh, x.cap, x.len, acc, []⟩, n, false⟩ = some ⟨rest, ⟨x.days, x.veh, x.cap, x.len, acc ++ cs, []⟩, n, false⟩
  | [], acc, _ => by simp [custsR]
  | c :: cs, acc, h => by
    rw [List.length_cons, custsR, List.map_cons, List.cons_append, custR, nextR_cons]
    simp only
    rw [custC_line hd0 hd1 (h c (by simp)).1 (h c (by simp)).2]
    simp only [Option.map_some, Option.bind_some, Bool.or_self]
    rw [custsR_lines hd0 hd1 n rest cs (acc ++ [c]) fun c' hc => h c' (by simp [hc]), List.append_assoc]
    rfl
theorem rowsR_lines {x : Inst} (n : Nat) (rest : List Line) : ∀ (rs : List (List Int)) (acc : List (List Int)), (∀ r ∈ rs, r.length = n + 1 ∧ ∀ z ∈ r, 0 ≤ z ∧ z ≤ 2147483648) →
    rowsR rs.length ⟨(rs.map fun r => r.map decI) ++ rest, ⟨x.days, x.veh, x.cap, x.len, x.custs, acc⟩, n, false⟩ = some ⟨rest, ⟨x.days, x.veh, x.cap, x.len, x.custs, acc ++ rs⟩, n, false⟩
  | [], acc, _ => by simp [rowsR]
  | r :: rs, acc, h => by
    obtain ⟨h1, h2⟩ := h r (by simp)
    have e1 : (r.map decI).all isNum = true := by
      rw [List.all_map, List.all_eq_true]
      exact fun z hz => isN_dec (h2 z hz).1 (by have := (h2 z hz).2; omega)
    have e2 : (r.map decI).map nI = r := by
      rw [List.map_map]
      conv => rhs; rw [← List.map_id r]
      exact List.map_congr_left fun z hz => nI_dec (h2 z hz).1 (by have := (h2 z hz).2; omega)
    rw [List.length_cons, rowsR, List.map_cons, List.cons_append, rowR, nextR_cons]
    simp only
    rw [e1, e2, List.length_map, h1]
    simp only [Bool.true_and, Int.natCast_add, Int.cast_ofNat_Int, decide_true, if_true, Option.bind_some]
    rw [rowsR_lines n rest rs (acc ++ [r]) fun r' hr => h r' (by simp [hr]), List.append_assoc]
    rfl
theorem may_parts {x : Inst} (h : may x = true) : (1 ≤ x.days ∧ x.days ≤ 64) ∧ x.custs.length ≤ 2000 ∧ (0 ≤ x.veh ∧ x.veh ≤ 2147483648) ∧ (0 ≤ x.cap ∧ x.cap ≤ 2147483648) ∧ (0 ≤ x.len ∧ x.len ≤ 2147483648) ∧
    (∀ c ∈ x.custs, custMay c x.days = true) ∧ x.dist.length = x.custs.length + 1 ∧ ∀ r ∈ x.dist, r.length = x.custs.length + 1 ∧ ∀ z ∈ r, 0 ≤ z ∧ z ≤ 2147483648 := by
  simp only [may, Bool.and_eq_true, fromB_iff, decide_eq_true_eq, distMay, List.all_eq_true] at h
  obtain ⟨⟨⟨⟨⟨⟨h1, h2⟩, h3⟩, h4⟩, h5⟩, h6⟩, h7, h8⟩ := h
  refine ⟨h1, h2, h3, h4, h5, h6, h7, ?_⟩
  have : ∀ (d : List (List Int)) (a p : Nat), rowsMay p a d = true → ∀ r ∈ d, r.length = p ∧ ∀ z ∈ r, 0 ≤ z ∧ z ≤ 2147483648 := by
    intro d
    induction d with
    | nil => intro a p _ r hr; cases hr
    | cons r0 d ih =>
      intro a p hm r hr
      rw [rowsMay, Bool.and_eq_true] at hm
      rcases List.mem_cons.1 hr with rfl | hr
      · have := hm.1
        simp only [rowMay, Bool.and_eq_true, decide_eq_true_eq, List.all_eq_true, fromB_iff] at this
        exact ⟨this.1.1, this.2⟩
      · exact ih _ _ hm.2 r hr
  exact this _ _ _ h8
/-- What is printed is read, and what stands behind it is left. -/
theorem read_lines {x : Inst} (hw : x.wf) (hm : may x = true) (more : List Line) : readR (instLines x ++ more) = if more = [] then some ⟨[], x, x.custs.length, false⟩ else none := by
  obtain ⟨⟨a0, a1⟩, h2, ⟨b0, b1⟩, ⟨c0, c1⟩, ⟨d0, d1⟩, h6, h7, h8⟩ := may_parts hm
  have hn : (((x.custs.length : Nat) : Int)) ≤ 2000 := by omega
  have e1 : titleR ⟨instLines x ++ more, zeroI, 0, false⟩ = some ⟨[wDays, decI x.days, wVeh, decI x.veh, wCap, decI x.cap, wLen, decI x.len] :: [wCust, decI x.custs.length] :: (x.custs.map (custLine x.days) ++ ([wDist] :: ((x.dist.map fun r => r.map decI) ++ more))), zeroI, 0, false⟩ := by
    simp [titleR, instLines, headLines, nextR]
  have e2 : ∀ r, limitsR ⟨[wDays, decI x.days, wVeh, decI x.veh, wCap, decI x.cap, wLen, decI x.len] :: r, zeroI, 0, false⟩ = some ⟨r, ⟨x.days, x.veh, x.cap, x.len, [], []⟩, 0, false⟩ := by
    intro r
    simp [limitsR, nextR, namedN, namedL, isN_dec (show (0 : Int) ≤ x.days by omega) (by omega), isN_dec b0 (by omega), isN_dec c0 (by omega), isN_dec d0 (by omega), nI_dec (show (0 : Int) ≤ x.days by omega) (by omega), nI_dec b0 (by omega), nI_dec c0 (by omega), nI_dec d0 (by omega), zeroI]
  have e3 : ∀ r y, howR ⟨[wCust, decI x.custs.length] :: r, y, 0, false⟩ = some ⟨r, y, x.custs.length, false⟩ := by
    intro r y
    simp [howR, nextR, namedN, namedL, isN_dec (show (0 : Int) ≤ (x.custs.length : Int) by omega) (by omega), nI_dec (show (0 : Int) ≤ (x.custs.length : Int) by omega) (by omega)]
  unfold readR
  rw [e1]
  simp only [Option.bind_some]
  rw [e2]
  simp only [Option.bind_some]
  rw [e3]
  simp only [Option.bind_some, Int.toNat_natCast]
  rw [custsR_lines a0 a1 _ _ _ _ fun c hc => ⟨hw.2.2.2.2.1 c hc, h6 c hc⟩]
  simp only [Option.bind_some, List.nil_append]
  unfold distR
  rw [nextR_cons]
  simp only [if_true]
  rw [show ((x.custs.length : Int) + 1).toNat = x.dist.length by rw [h7]; omega]
  rw [rowsR_lines x.custs.length more x.dist [] h8]
  simp only [Option.bind_some, List.nil_append, endR]
  by_cases h : more = []
  · rw [if_pos h, if_pos h, h]
  · rw [if_neg h, if_neg h]
end Go.Proofs.YtigljnnjamdcnaaDoor.P07

namespace Go.Proofs.YtigljnnjamdcnaaDoor.P07
open P05 P06

theorem valF_ge : ∀ (t : List UInt8) (n : Nat), n ≤ valF n t
  | [], n => by rw [valF_nil]; exact Nat.le_refl _
  | c :: t, n => by
    rw [valF_cons]
    have := valF_ge t (10 * n + (c.toNat - 48))
    omega
theorem dig_back {c : UInt8} (h : isDig c = true) : dig (c.toNat - 48) = c := by
  have h1 := isDig_bd h
  have := dig_nat (d := c.toNat - 48) (by omega)
  exact UInt8.toNat_inj.1 (by omega)
theorem dec_back : ∀ (k : Nat) (l : List UInt8), isNum l = true → l.length ≤ k → decF k (valF 0 l) = l := by
  intro k
  induction k with
  | zero => intro l h h1; obtain rfl : l = [] := List.eq_nil_of_length_eq_zero (by omega); simp [isNum] at h
  | succ k ih =>
    intro l h h1
    rcases List.eq_nil_or_concat l with rfl | ⟨l', c, hlc⟩
    · simp [isNum] at h
    · rw [List.concat_eq_append] at hlc
      subst hlc
      simp only [isNum, Bool.and_eq_true, List.all_append, List.all_cons, List.all_nil, Bool.and_true] at h
      obtain ⟨⟨-, hd, hc⟩, hz⟩ := h
      have hcd := isDig_bd hc
      rw [valF_snoc]
      cases l' with
      | nil => rw [valF_nil, Nat.mul_zero, Nat.zero_add, decF_small _ _ (by omega), dig_back hc]; rfl
      | cons a t =>
        have hz' : ¬ a = 48 := by simpa using hz
        have ha : isDig a = true := (by simpa using hd : isDig a = true ∧ _).1
        have had := isDig_bd ha
        have han : a.toNat ≠ 48 := fun e => hz' (UInt8.toNat_inj.1 e)
        have hv : 1 ≤ valF 0 (a :: t) := by
          rw [valF_cons]
          have := valF_ge t (10 * 0 + (a.toNat - 48))
          omega
        have hn : isNum (a :: t) = true := by
          simp only [isNum, hd, List.isEmpty_cons, Bool.not_false, Bool.true_and, List.head?_cons]
          simp [hz']
        rw [decF_great _ _ (by omega), show (10 * valF 0 (a :: t) + (c.toNat - 48)) / 10 = valF 0 (a :: t) by omega, show (10 * valF 0 (a :: t) + (c.toNat - 48)) % 10 = c.toNat - 48 by omega, dig_back hc, ih _ hn (by simp at h1 ⊢; omega)]
theorem nI_nonneg (w : Word) : 0 ≤ nI w := by unfold nI; omega
theorem nI_back {w : Word} (h : isNum w = true) (h1 : nI w < 1000000000000000000) : decI (nI w) = w := by
  unfold nI at h1 ⊢
  rw [if_pos h, clampF_num h] at h1 ⊢
  by_cases hl : 18 < w.length
  · rw [if_pos hl] at h1; omega
  · rw [if_neg hl] at h1 ⊢
    unfold decI
    rw [if_neg (by omega), Int.toNat_natCast]
    exact dec_back 20 w h (by omega)
theorem namedL_inv : ∀ (ns : List Word) (line : Line) (ds : List Word), namedL ns line = some ds → ds.length = ns.length ∧ line = (ns.zip ds).flatMap fun p => [p.1, p.2]
  | [], [], ds, h => by
    obtain rfl : [] = ds := by simpa [namedL] using h
    exact ⟨rfl, rfl⟩
  | [], _ :: _, ds, h => by simp [namedL] at h
  | n :: ns, [], ds, h => by simp [namedL] at h
  | n :: ns, [_], ds, h => by simp [namedL] at h
  | n :: ns, a :: b :: l, ds, h => by
    rw [namedL] at h
    by_cases e : a = n
    · rw [if_pos e] at h
      cases ht : namedL ns l with
      | none => rw [ht] at h; simp at h
      | some t =>
        rw [ht] at h
        obtain rfl : b :: t = ds := by simpa using h
        obtain ⟨h1, h2⟩ := namedL_inv ns l t ht
        subst e
        exact ⟨by simp [h1], by rw [h2]; rfl⟩
    · rw [if_neg e] at h; simp at h
theorem namedN_inv {ns : List Word} {line : Line} {m : List Int} (h : namedN ns line = some m) : ∃ ds : List Word, ds.length = ns.length ∧ line = ((ns.zip ds).flatMap fun p => [p.1, p.2]) ∧ ds.all isNum = true ∧ m = ds.map nI := by
  unfold namedN at h
  cases ht : namedL ns line with
  | none => rw [ht] at h; simp at h
  | some ds =>
    rw [ht] at h
    simp only [Option.bind_some] at h
    by_cases e : ds.all isNum = true
    · rw [if_pos e] at h
      obtain ⟨h1, h2⟩ := namedL_inv ns line ds ht
      exact ⟨ds, h1, h2, e, by simpa using h.symm⟩
    · rw [if_neg e] at h; cases h
theorem nextR_of {st : Rd} {l : Line} (h : (nextR st).1 = l) (hl : l ≠ []) : st.rest = l :: (nextR st).2.rest ∧ (nextR st).2 = { st with rest := (nextR st).2.rest } := by
  obtain ⟨rest, x, n, o⟩ := st
  cases rest with
  | nil => exact absurd h.symm hl
  | cons a r => exact ⟨by rw [← h]; rfl, rfl⟩
theorem custC_inv {days : Int} {line : Line} {c : Cust} (hd1 : days ≤ 64) (h : custC days line = some (c, false)) (hm : custMay c days = true) : line = custLine days c ∧ line ≠ [] := by
  unfold custC at h
  split at h
  · cases h
  · rename_i w l
    refine ⟨?_, by simp⟩
    by_cases e : w = wVisit
    · rw [if_pos e] at h
      subst e
      unfold visitC at h
      split at h
      · cases h
      · rename_i d ps
        by_cases e1 : (isNum d && ps.all setOk) = true
        · rw [if_pos e1] at h
          obtain ⟨rfl, h2⟩ : (⟨1, nI d, ps.map setP, 0, 0, 0, 0, 0⟩ : Cust) = c ∧ (ps.any fun p => decide ((p.length : Int) ≠ days)) = false := by simpa only [Option.some.injEq, Prod.mk.injEq] using h
          rw [Bool.and_eq_true, List.all_eq_true] at e1
          rw [List.any_eq_false] at h2
          simp only [custMay, if_true, musts1, List.all_cons, Bool.and_eq_true, fromB_iff, id] at hm
          simp only [custLine, if_true]
          rw [nI_back e1.1 (by have := hm.1.2; omega), List.map_map]
          refine congrArg (fun t => wVisit :: d :: t) ?_
          conv => lhs; rw [← List.map_id ps]
          refine List.map_congr_left fun p hp => ?_
          have hlen : (p.length : Int) = days := by have := h2 p hp; simpa using this
          have hok := e1.2 p hp
          unfold setOk at hok
          rw [Bool.and_eq_true] at hok
          simp only [id, Function.comp, setP]
          rw [if_neg (by omega), show days.toNat = p.length by omega, setV_all p hok.2]
        · rw [if_neg e1] at h; cases h
    · rw [if_neg e] at h
      by_cases e2 : w = wTank
      · rw [if_pos e2] at h
        subst e2
        unfold tankC at h
        split at h
        · rename_i a b c' r hh
          by_cases e1 : (isNum a && isNum b && isNum c' && isNum hh) = true
          · rw [if_pos e1] at h
            simp only [Bool.and_eq_true] at e1
            obtain ⟨⟨⟨i1, i2⟩, i3⟩, i4⟩ := e1
            unfold ruleOf at h
            by_cases er : r = wFill
            · rw [if_pos er] at h
              obtain rfl : (⟨2, 0, [], nI a, nI b, nI c', 1, nI hh⟩ : Cust) = c := by simpa using h
              simp only [custMay, show ¬ (2 : Int) = 1 by omega, if_false, if_true, musts2, List.all_cons, Bool.and_eq_true, fromB_iff, id] at hm
              simp only [custLine, show ¬ (2 : Int) = 1 by omega, if_false, if_true]
              rw [nI_back i1 (by omega), nI_back i2 (by omega), nI_back i3 (by omega), nI_back i4 (by omega), er]
            · rw [if_neg er] at h
              by_cases er2 : r = wAny
              · rw [if_pos er2] at h
                obtain rfl : (⟨2, 0, [], nI a, nI b, nI c', 2, nI hh⟩ : Cust) = c := by simpa using h
                simp only [custMay, show ¬ (2 : Int) = 1 by omega, if_false, if_true, musts2, List.all_cons, Bool.and_eq_true, fromB_iff, id] at hm
                simp only [custLine, show ¬ (2 : Int) = 1 by omega, if_false]
                rw [nI_back i1 (by omega), nI_back i2 (by omega), nI_back i3 (by omega), nI_back i4 (by omega), er2]
              · rw [if_neg er2] at h; cases h
          · rw [if_neg e1] at h; cases h
        · cases h
      · rw [if_neg e2] at h; cases h
end Go.Proofs.YtigljnnjamdcnaaDoor.P07

namespace Go.Proofs.YtigljnnjamdcnaaDoor.P07
open P05 P06

theorem custR_inv {st st' : Rd} (hd1 : st.x.days ≤ 64) (h : custR st = some st') (ho : st'.odd = false) (hm : ∀ c ∈ st'.x.custs, custMay c st.x.days = true) :
    ∃ c, st'.x = ⟨st.x.days, st.x.veh, st.x.cap, st.x.len, st.x.custs ++ [c], st.x.dist⟩ ∧ st.rest = custLine st.x.days c :: st'.rest ∧ st'.count = st.count ∧ st.odd = false := by
  unfold custR at h
  cases hc : custC st.x.days (nextR st).1 with
  | none => rw [hc] at h; cases h
  | some p =>
    obtain ⟨c, o⟩ := p
    rw [hc] at h
    obtain rfl : _ = st' := by simpa only [Option.map_some, Option.some.injEq] using h
    simp only [Bool.or_eq_false_iff] at ho
    obtain ⟨ho1, rfl⟩ := ho
    obtain ⟨e1, e2⟩ := custC_inv hd1 hc (hm c (by simp))
    obtain ⟨g1, g2⟩ := nextR_of rfl e2
    refine ⟨c, rfl, by rw [← e1]; exact g1, ?_, ho1⟩
    rw [g2]
theorem custsR_inv : ∀ (n : Nat) {st st' : Rd}, st.x.days ≤ 64 → custsR n st = some st' → st'.odd = false → (∀ c ∈ st'.x.custs, custMay c st.x.days = true) →
    ∃ cs : List Cust, cs.length = n ∧ st'.x = ⟨st.x.days, st.x.veh, st.x.cap, st.x.len, st.x.custs ++ cs, st.x.dist⟩ ∧ st.rest = cs.map (custLine st.x.days) ++ st'.rest ∧ st'.count = st.count ∧ st.odd = false
  | 0, st, st', _, h, ho, _ => by
    obtain rfl : st = st' := by simpa [custsR] using h
    exact ⟨[], rfl, by simp, by simp, rfl, ho⟩
  | n + 1, st, st', hd1, h, ho, hm => by
    rw [custsR] at h
    cases hc : custR st with
    | none => rw [hc] at h; cases h
    | some s1 =>
      rw [hc] at h
      simp only [Option.bind_some] at h
      have hx1 : s1.x.days = st.x.days := by
        unfold custR at hc
        cases hcc : custC st.x.days (nextR st).1 with
        | none => rw [hcc] at hc; cases hc
        | some p =>
          rw [hcc] at hc
          obtain rfl : _ = s1 := by simpa only [Option.map_some, Option.some.injEq] using hc
          rfl
      obtain ⟨cs, i1, i2, i3, i4, i5⟩ := custsR_inv n (by rw [hx1]; exact hd1) h ho (by rw [hx1]; exact hm)
      obtain ⟨c, j1, j2, j3, j4⟩ := custR_inv hd1 hc i5 (fun c hcm => hm c (by rw [i2]; simp [hcm]))
      refine ⟨c :: cs, by simp [i1], ?_, ?_, by rw [i4, j3], j4⟩
      · rw [i2, j1]; simp
      · rw [j2, i3, hx1]; rfl
theorem custR_fields {st st' : Rd} (h : custR st = some st') : st'.count = st.count ∧ st'.x.days = st.x.days := by
  unfold custR at h
  cases hcc : custC st.x.days (nextR st).1 with
  | none => rw [hcc] at h; cases h
  | some p =>
    rw [hcc] at h
    obtain rfl : _ = st' := by simpa only [Option.map_some, Option.some.injEq] using h
    refine ⟨?_, rfl⟩
    unfold nextR
    split <;> rfl
theorem custsR_count : ∀ (n : Nat) {st st' : Rd}, custsR n st = some st' → st'.count = st.count
  | 0, st, st', h => by
    obtain rfl : st = st' := by simpa [custsR] using h
    rfl
  | n + 1, st, st', h => by
    rw [custsR] at h
    cases hc : custR st with
    | none => rw [hc] at h; cases h
    | some s1 =>
      rw [hc] at h
      exact (custsR_count n h).trans (custR_fields hc).1
theorem custsR_days : ∀ (n : Nat) {st st' : Rd}, custsR n st = some st' → st'.x.days = st.x.days
  | 0, st, st', h => by
    obtain rfl : st = st' := by simpa [custsR] using h
    rfl
  | n + 1, st, st', h => by
    rw [custsR] at h
    cases hc : custR st with
    | none => rw [hc] at h; cases h
    | some s1 =>
      rw [hc] at h
      exact (custsR_days n h).trans (custR_fields hc).2
theorem rowR_inv {st st' : Rd} (hc : 0 ≤ st.count) (h : rowR st = some st') (hm : ∀ r ∈ st'.x.dist, ∀ z ∈ r, 0 ≤ z ∧ z ≤ 2147483648) :
    ∃ r : List Int, st'.x = ⟨st.x.days, st.x.veh, st.x.cap, st.x.len, st.x.custs, st.x.dist ++ [r]⟩ ∧ st.rest = r.map decI :: st'.rest ∧ st'.count = st.count ∧ st'.odd = st.odd := by
  unfold rowR at h
  by_cases e : ((nextR st).1.all isNum && decide (((nextR st).1.length : Int) = st.count + 1)) = true
  · rw [if_pos e] at h
    rw [Bool.and_eq_true, decide_eq_true_eq] at e
    obtain rfl : _ = st' := by simpa only [Option.some.injEq] using h
    obtain ⟨g1, g2⟩ := nextR_of (st := st) rfl (fun h0 => by rw [h0] at e; simp at e; omega)
    refine ⟨(nextR st).1.map nI, rfl, ?_, by rw [g2], by rw [g2]⟩
    simp only
    have hb : ((nextR st).1.map nI).map decI = (nextR st).1 := by
      rw [List.map_map]
      conv => rhs; rw [← List.map_id (nextR st).1]
      refine List.map_congr_left fun w hw => ?_
      simp only [Function.comp, id]
      refine nI_back (List.all_eq_true.1 e.1 w hw) ?_
      have := hm ((nextR st).1.map nI) (by simp) (nI w) (List.mem_map.2 ⟨w, hw, rfl⟩)
      omega
    rw [hb]
    exact g1
  · rw [if_neg e] at h; cases h
theorem rowsR_inv : ∀ (n : Nat) {st st' : Rd}, 0 ≤ st.count → rowsR n st = some st' → (∀ r ∈ st'.x.dist, ∀ z ∈ r, 0 ≤ z ∧ z ≤ 2147483648) →
    ∃ rs : List (List Int), rs.length = n ∧ st'.x = ⟨st.x.days, st.x.veh, st.x.cap, st.x.len, st.x.custs, st.x.dist ++ rs⟩ ∧ st.rest = (rs.map fun r => r.map decI) ++ st'.rest ∧ st'.count = st.count ∧ st'.odd = st.odd
  | 0, st, st', _, h, _ => by
    obtain rfl : st = st' := by simpa [rowsR] using h
    exact ⟨[], rfl, by simp, by simp, rfl, rfl⟩
  | n + 1, st, st', hc, h, hm => by
    rw [rowsR] at h
    cases hr : rowR st with
    | none => rw [hr] at h; cases h
    | some s1 =>
      rw [hr] at h
      simp only [Option.bind_some] at h
      have hc1 : s1.count = st.count := by
        unfold rowR at hr
        split at hr
        · obtain rfl : _ = s1 := by simpa only [Option.some.injEq] using hr
          unfold nextR
          split <;> rfl
        · cases hr
      obtain ⟨rs, i1, i2, i3, i4, i5⟩ := rowsR_inv n (by rw [hc1]; exact hc) h hm
      obtain ⟨r, j1, j2, j3, j4⟩ := rowR_inv hc hr (fun r hr => hm r (by rw [i2]; simp [hr]))
      refine ⟨r :: rs, by simp [i1], ?_, ?_, by rw [i4, j3], by rw [i5, j4]⟩
      · rw [i2, j1]; simp
      · rw [j2, i3]; rfl
theorem titleR_inv {st st' : Rd} (h : titleR st = some st') : st.rest = [wTranter, wOne] :: st'.rest ∧ st' = ⟨st'.rest, st.x, st.count, st.odd⟩ := by
  unfold titleR at h
  split at h
  · rename_i e
    obtain rfl : _ = st' := by simpa only [Option.some.injEq] using h
    exact nextR_of e (by simp)
  · cases h
theorem limitsR_inv {st st' : Rd} (h : limitsR st = some st') : ∃ a b c d : Word, (isNum a = true ∧ isNum b = true ∧ isNum c = true ∧ isNum d = true) ∧ st.rest = [wDays, a, wVeh, b, wCap, c, wLen, d] :: st'.rest ∧ st' = ⟨st'.rest, ⟨nI a, nI b, nI c, nI d, st.x.custs, st.x.dist⟩, st.count, st.odd⟩ := by
  unfold limitsR at h
  split at h
  · rename_i a b c d e2
    obtain ⟨ds, l1, l2, l3, l4⟩ := namedN_inv e2
    obtain rfl : _ = st' := by simpa only [Option.some.injEq] using h
    obtain ⟨ka, kb, kc, kd, rfl⟩ : ∃ ka kb kc kd, ds = [ka, kb, kc, kd] := by
      match ds, l1 with
      | [ka, kb, kc, kd], _ => exact ⟨_, _, _, _, rfl⟩
    obtain ⟨rfl, rfl, rfl, rfl⟩ : a = nI ka ∧ b = nI kb ∧ c = nI kc ∧ d = nI kd := by simpa using l4
    obtain ⟨n1, n2⟩ := nextR_of l2 (by simp)
    simp only [List.all_cons, List.all_nil, Bool.and_true, Bool.and_eq_true] at l3
    refine ⟨ka, kb, kc, kd, l3, n1, ?_⟩
    rw [n2]
  · cases h
theorem howR_inv {st st' : Rd} (h : howR st = some st') : ∃ n : Word, isNum n = true ∧ st.rest = [wCust, n] :: st'.rest ∧ st' = ⟨st'.rest, st.x, nI n, st.odd⟩ := by
  unfold howR at h
  split at h
  · rename_i a e2
    obtain ⟨ds, l1, l2, l3, l4⟩ := namedN_inv e2
    obtain rfl : _ = st' := by simpa only [Option.some.injEq] using h
    obtain ⟨ka, rfl⟩ : ∃ ka, ds = [ka] := by
      match ds, l1 with
      | [ka], _ => exact ⟨_, rfl⟩
    obtain rfl : a = nI ka := by simpa using l4
    obtain ⟨n1, n2⟩ := nextR_of l2 (by simp)
    simp only [List.all_cons, List.all_nil, Bool.and_true] at l3
    refine ⟨ka, l3, n1, ?_⟩
    rw [n2]
  · cases h
theorem distR_inv {st st' : Rd} (hc : 0 ≤ st.count) (h : distR st = some st') (hm : ∀ r ∈ st'.x.dist, ∀ z ∈ r, 0 ≤ z ∧ z ≤ 2147483648) :
    ∃ rs : List (List Int), rs.length = (st.count + 1).toNat ∧ st'.x = ⟨st.x.days, st.x.veh, st.x.cap, st.x.len, st.x.custs, st.x.dist ++ rs⟩ ∧ st.rest = [wDist] :: ((rs.map fun r => r.map decI) ++ st'.rest) ∧ st'.odd = st.odd := by
  unfold distR at h
  split at h
  · rename_i e
    obtain ⟨n1, n2⟩ := nextR_of e (by simp)
    rw [n2] at h
    obtain ⟨rs, i1, i2, i3, i4, i5⟩ := rowsR_inv _ (st := { st with rest := (nextR st).2.rest }) hc h hm
    exact ⟨rs, i1, i2, by rw [n1, show (nextR st).2.rest = _ from i3], i5⟩
  · cases h
/-- What is read is what would be printed. -/
theorem read_back {L : List Line} {st : Rd} (h : readR L = some st) (ho : st.odd = false) (hm : may st.x = true) : instLines st.x = L := by
  obtain ⟨⟨a0, a1⟩, h2, ⟨b0, b1⟩, ⟨c0, c1⟩, ⟨d0, d1⟩, h6, h7, h8⟩ := may_parts hm
  unfold readR at h
  cases q1 : titleR ⟨L, zeroI, 0, false⟩ with
  | none => rw [q1] at h; cases h
  | some s1 =>
  rw [q1] at h; simp only [Option.bind_some] at h
  cases q2 : limitsR s1 with
  | none => rw [q2] at h; cases h
  | some s2 =>
  rw [q2] at h; simp only [Option.bind_some] at h
  cases q3 : howR s2 with
  | none => rw [q3] at h; cases h
  | some s3 =>
  rw [q3] at h; simp only [Option.bind_some] at h
  cases q4 : custsR s3.count.toNat s3 with
  | none => rw [q4] at h; cases h
  | some s4 =>
  rw [q4] at h; simp only [Option.bind_some] at h
  cases q5 : distR s4 with
  | none => rw [q5] at h; cases h
  | some s5 =>
  rw [q5] at h; simp only [Option.bind_some] at h
  unfold endR at h
  split at h
  rotate_left
  · cases h
  rename_i hend
  obtain rfl : s5 = st := by simpa using h
  clear h
  obtain ⟨g1, g2⟩ := titleR_inv q1
  obtain ⟨ka, kb, kc, kd, ⟨m1, m2, m3, m4⟩, g3, g4⟩ := limitsR_inv q2
  obtain ⟨kn, m5, g5, g6⟩ := howR_inv q3
  have hk := nI_nonneg kn
  have x3 : s3.x = ⟨nI ka, nI kb, nI kc, nI kd, [], []⟩ := by rw [g6, g4, g2]; rfl
  have n3 : s3.count = nI kn := by rw [g6]
  have n4 : s4.count = nI kn := by rw [custsR_count _ q4, n3]
  obtain ⟨rs, i1, i2, i3, i4⟩ := distR_inv (by rw [n4]; exact hk) q5 (fun r hr => (h8 r hr).2)
  have d3 : s3.x.days = s4.x.days := by rw [(custsR_days _ q4)]
  have d5 : s5.x.days = s4.x.days := by rw [i2]
  have c5 : s5.x.custs = s4.x.custs := by rw [i2]
  obtain ⟨cs, j1, j2, j3, j4, j5⟩ := custsR_inv _ (st := s3) (st' := s4) (by rw [d3, ← d5]; exact a1) q4 (by rw [← i4]; exact ho) (fun c hc => by rw [d3, ← d5]; exact h6 c (by rw [c5]; exact hc))
  have x5 : s5.x = ⟨nI ka, nI kb, nI kc, nI kd, cs, rs⟩ := by rw [i2, j2, x3]; rfl
  rw [n3] at j1
  have hcs : ((cs.length : Nat) : Int) = nI kn := by omega
  rw [x5] at a0 a1 b0 b1 c0 c1 d0 d1 h2 ⊢
  simp only at a0 a1 b0 b1 c0 c1 d0 d1 h2
  rw [hend, List.append_nil] at i3
  rw [i3, x3] at j3
  simp only [instLines, headLines]
  rw [hcs, nI_back m1 (by omega), nI_back m2 (by omega), nI_back m3 (by omega), nI_back m4 (by omega), nI_back m5 (by omega)]
  have g1' : L = [wTranter, wOne] :: s1.rest := g1
  rw [g1', g3, g5, j3]
  rfl
end Go.Proofs.YtigljnnjamdcnaaDoor.P07

namespace Go.Proofs.YtigljnnjamdcnaaDoor.P07
open P05 P06

theorem setText_word {s n : Nat} (h : 0 < n) : isWord (setText s n) = true := by
  have := setText_ok (s := s) h
  unfold setOk at this
  rw [Bool.and_eq_true, List.all_eq_true] at this
  unfold isWord
  rw [Bool.and_eq_true, List.all_eq_true]
  refine ⟨this.1, fun c hc => ?_⟩
  have := this.2 c hc
  simp only [Bool.or_eq_true, beq_iff_eq] at this
  rcases this with rfl | rfl <;> decide
theorem custLine_ok {c : Cust} {days : Int} (hd0 : 1 ≤ days) (hw : c.wf) : custLine days c ≠ [] ∧ ∀ w ∈ custLine days c, isWord w = true := by
  unfold custLine
  split
  · refine ⟨by simp, fun w h => ?_⟩
    rcases List.mem_cons.1 h with rfl | h
    · decide
    rcases List.mem_cons.1 h with rfl | h
    · exact decI_word hw.2.1
    · obtain ⟨s, _, rfl⟩ := List.mem_map.1 h
      exact setText_word (by omega)
  · refine ⟨by simp, fun w h => ?_⟩
    obtain ⟨-, -, -, h4, h5, h6, -, h8⟩ := hw
    simp only [List.mem_cons, List.not_mem_nil, or_false] at h
    rcases h with rfl | rfl | rfl | rfl | rfl | rfl
    · decide
    · exact decI_word h4
    · exact decI_word h5
    · exact decI_word h6
    · split <;> decide
    · exact decI_word h8
theorem instLines_ok {x : Inst} (hw : x.wf) (hm : may x = true) : ∀ ws ∈ instLines x, ws ≠ [] ∧ ∀ w ∈ ws, isWord w = true := by
  obtain ⟨⟨a0, a1⟩, h2, ⟨b0, b1⟩, ⟨c0, c1⟩, ⟨d0, d1⟩, h6, h7, h8⟩ := may_parts hm
  intro ws h
  unfold instLines headLines at h
  rcases List.mem_append.1 h with h | h
  · simp only [List.mem_cons, List.not_mem_nil, or_false] at h
    rcases h with rfl | rfl | rfl
    · decide
    · refine ⟨by simp, fun w h => ?_⟩
      simp only [List.mem_cons, List.not_mem_nil, or_false] at h
      rcases h with rfl | rfl | rfl | rfl | rfl | rfl | rfl | rfl
      · decide
      · exact decI_word (by omega)
      · decide
      · exact decI_word (by omega)
      · decide
      · exact decI_word (by omega)
      · decide
      · exact decI_word (by omega)
    · refine ⟨by simp, fun w h => ?_⟩
      simp only [List.mem_cons, List.not_mem_nil, or_false] at h
      rcases h with rfl | rfl
      · decide
      · exact decI_word (by omega)
  · rcases List.mem_append.1 h with h | h
    · obtain ⟨c, hc, rfl⟩ := List.mem_map.1 h
      exact custLine_ok a0 (hw.2.2.2.2.1 c hc)
    · rcases List.mem_cons.1 h with rfl | h
      · decide
      · obtain ⟨r, hr, rfl⟩ := List.mem_map.1 h
        obtain ⟨g1, g2⟩ := h8 r hr
        refine ⟨fun e => ?_, fun w hw => ?_⟩
        · have := congrArg List.length e
          rw [List.length_map, g1] at this
          simp at this
        · obtain ⟨z, hz, rfl⟩ := List.mem_map.1 hw
          exact decI_word (by have := g2 z hz; omega)
theorem lines_inst {x : Inst} (hw : x.wf) (hm : may x = true) : linesP (instText x) = some (instLines x) := linesP_lineP _ (instLines_ok hw hm)
/-- What is printed is parsed. -/
theorem parse_print {x : Inst} (hw : x.wf) (hm : may x = true) : parseX (instText x) = (x, 0) := by
  have h := read_lines hw hm []
  rw [List.append_nil, if_pos rfl] at h
  unfold parseX
  rw [lines_inst hw hm]
  simp only [Option.bind_some, h, hm]
  rfl
/-- What is parsed is printed as it was. -/
theorem parse_again {t : List UInt8} {x : Inst} (h : parseX t = (x, 0)) : may x = true ∧ instText x = t := by
  unfold parseX at h
  cases hl : linesP t with
  | none => rw [hl] at h; simp at h
  | some L =>
    rw [hl] at h
    simp only [Option.bind_some] at h
    cases hr : readR L with
    | none => rw [hr] at h; simp at h
    | some st =>
      rw [hr] at h
      simp only at h
      by_cases e : (st.odd || !may st.x) = true
      · rw [if_pos e] at h; simp at h
      · rw [if_neg e] at h
        obtain rfl : st.x = x := by simpa using h
        obtain ⟨e1, e2⟩ : st.odd = false ∧ may st.x = true := by simpa using e
        refine ⟨e2, ?_⟩
        unfold instText
        rw [read_back hr e1 e2]
        exact (linesP_back hl).1
theorem parse_err (t : List UInt8) : ((parseX t).2 = 0 ∨ (parseX t).2 = 2 ∨ (parseX t).2 = 3) ∧ ((parseX t).2 ≠ 0 → (parseX t).1 = zeroI) := by
  unfold parseX
  split
  · simp
  · split <;> simp
theorem flatMap_last (L : List Line) : L.flatMap lineP = [] ∨ ∃ u, L.flatMap lineP = u ++ [10] := by
  rcases List.eq_nil_or_concat L with rfl | ⟨l, a, h⟩
  · exact .inl rfl
  · rw [List.concat_eq_append] at h
    subst h
    refine .inr ⟨l.flatMap lineP ++ joinB 32 a, ?_⟩
    rw [List.flatMap_append, List.flatMap_cons, List.flatMap_nil, List.append_nil, lineP, List.append_assoc]
theorem lines_none {u : List UInt8} {c : UInt8} (hc : c ≠ 10) : linesP (u ++ [c]) = none := by
  cases h : linesP (u ++ [c]) with
  | none => rfl
  | some L =>
    exfalso
    have e := (linesP_back h).1
    rcases flatMap_last L with h0 | ⟨v, h0⟩
    · rw [h0] at e
      simp at e
    · rw [h0] at e
      have := (List.append_inj_right' e rfl)
      simp at this
      exact hc this.symm
theorem parse_none {t : List UInt8} (h : linesP t = none) : parseX t = (zeroI, 2) := by
  unfold parseX
  rw [h]
  rfl
theorem joinB_last : ∀ (ws : Line), ws ≠ [] → (∀ w ∈ ws, isWord w = true) → ∃ u c, joinB 32 ws = u ++ [c] ∧ c ≠ 10
  | [], h, _ => absurd rfl h
  | [w], _, hw => by
    have h := hw w (by simp)
    unfold isWord at h
    rw [Bool.and_eq_true, List.all_eq_true] at h
    rcases List.eq_nil_or_concat w with rfl | ⟨u, c, e⟩
    · simp at h
    · rw [List.concat_eq_append] at e
      subst e
      refine ⟨u, c, rfl, fun e => ?_⟩
      have := h.2 c (by simp)
      subst e
      exact absurd this (by decide)
  | w :: v :: t, _, hw => by
    obtain ⟨u, c, h1, h2⟩ := joinB_last (v :: t) (by simp) (fun w h => hw w (by simp [h]))
    exact ⟨w ++ 32 :: u, c, by rw [joinB, h1]; simp, h2⟩
/-- A text without its last byte. -/
theorem text_cut {x : Inst} (hw : x.wf) (hm : may x = true) : instText x ≠ [] ∧ linesP (instText x).dropLast = none := by
  have hok := instLines_ok hw hm
  have hne : instLines x ≠ [] := by simp [instLines, headLines]
  rcases List.eq_nil_or_concat (instLines x) with h | ⟨l, a, h⟩
  · exact absurd h hne
  · rw [List.concat_eq_append] at h
    obtain ⟨u, c, h1, h2⟩ := joinB_last a (hok a (by rw [h]; simp)).1 (hok a (by rw [h]; simp)).2
    have e : instText x = (l.flatMap lineP ++ u ++ [c]) ++ [10] := by
      unfold instText
      rw [h, List.flatMap_append, List.flatMap_cons, List.flatMap_nil, List.append_nil, lineP, h1]
      simp
    refine ⟨by rw [e]; simp, ?_⟩
    rw [e, List.dropLast_concat]
    exact lines_none h2
/-- A text with a line more. -/
theorem text_more {x : Inst} (hw : x.wf) (hm : may x = true) : parseX (instText x ++ [48, 10]) = (zeroI, 2) := by
  have h0 : linesP [48, 10] = some [[[48]]] := by decide
  have h := linesP_append (lines_inst hw hm) h0
  have hr := read_lines hw hm [[[48]]]
  rw [if_neg (by simp)] at hr
  unfold parseX
  rw [h]
  simp only [Option.bind_some, hr]
/-- Two that may be have the same text just if they are the same. -/
theorem text_inj {x y : Inst} (hx : x.wf) (hmx : may x = true) (hy : y.wf) (hmy : may y = true) (h : instText x = instText y) : x = y := by
  have h1 := parse_print hx hmx
  rw [h, parse_print hy hmy] at h1
  exact (Prod.mk.inj h1).1.symm
end Go.Proofs.YtigljnnjamdcnaaDoor.P07

namespace Go.Proofs.YtigljnnjamdcnaaDoor.P07
open P05 P06

theorem nI_le (w : Word) : nI w ≤ 1000000000000000000 := by
  unfold nI
  split
  · rename_i h
    have := clampF_le w 0 (by unfold isNum at h; simp only [Bool.and_eq_true] at h; first | exact h.1.2 | exact h.2 | exact h.1 | exact h.1.1.2) (by omega)
    omega
  · omega
theorem W64_nI (w : Word) : W64 (nI w) := by
  have := nI_le w
  have := nI_nonneg w
  unfold W64
  omega
theorem W64_0 : W64 0 := by unfold W64; omega
theorem W64_1 : W64 1 := by unfold W64; omega
theorem W64_2 : W64 2 := by unfold W64; omega
theorem setV_lt : ∀ w : Word, setV w < 2 ^ w.length
  | [] => by simp [setV]
  | c :: l => by
    have := setV_lt l
    unfold setV
    rw [List.length_cons, Nat.pow_succ]
    split <;> omega
theorem setP_lt (w : Word) : setP w < 18446744073709551616 := by
  unfold setP
  split
  · omega
  · exact Nat.lt_of_lt_of_le (setV_lt w) (Nat.pow_le_pow_right (by omega) (show w.length ≤ 64 by omega))
theorem visitC_wf {days : Int} {l : List Word} {c : Cust} {o : Bool} (h : visitC days l = some (c, o)) : c.wf := by
  cases l with
  | nil => cases h
  | cons d ps =>
    simp only [visitC] at h
    split at h
    · obtain ⟨rfl, -⟩ := Prod.mk.inj (Option.some.inj h)
      refine ⟨W64_1, W64_nI _, fun s hs => ?_, W64_0, W64_0, W64_0, W64_0, W64_0⟩
      obtain ⟨p, -, rfl⟩ := List.mem_map.1 hs
      exact setP_lt p
    · cases h
theorem tankC_wf {l : List Word} {c : Cust} {o : Bool} (h : tankC l = some (c, o)) : c.wf := by
  unfold tankC at h
  split at h
  · split at h
    · obtain ⟨u, hu, he⟩ := Option.map_eq_some_iff.1 h
      obtain ⟨rfl, -⟩ := Prod.mk.inj he
      refine ⟨W64_2, W64_0, fun s hs => by simp at hs, W64_nI _, W64_nI _, W64_nI _, ?_, W64_nI _⟩
      unfold ruleOf at hu
      split at hu
      · obtain rfl := Option.some.inj hu; exact W64_1
      · split at hu
        · obtain rfl := Option.some.inj hu; exact W64_2
        · cases hu
    · cases h
  · cases h
theorem custC_wf {days : Int} {l : Line} {c : Cust} {o : Bool} (h : custC days l = some (c, o)) : c.wf := by
  cases l with
  | nil => cases h
  | cons w l =>
    simp only [custC] at h
    split at h
    · exact visitC_wf h
    · split at h
      · exact tankC_wf h
      · cases h
theorem nextR_same (st : Rd) : (nextR st).2.x = st.x ∧ (nextR st).2.count = st.count ∧ (nextR st).2.rest.length ≤ st.rest.length := by
  unfold nextR; split
  · exact ⟨rfl, rfl, Nat.le_refl _⟩
  · rename_i e; exact ⟨rfl, rfl, by rw [e]; simp⟩
theorem nextR_less {st : Rd} (h : (nextR st).1 ≠ []) : (nextR st).2.rest.length + 1 = st.rest.length := by
  unfold nextR at h ⊢
  split
  · rename_i e; rw [e] at h; exact absurd rfl h
  · rename_i e; rw [e]; rfl
/-- What a reader's state keeps to. -/
structure RdOk (n : Nat) (st : Rd) : Prop where
  wf : st.x.wf
  lo : 0 ≤ st.count
  hi : st.count ≤ 1000000000000000000
  len : st.x.custs.length + st.rest.length ≤ n
theorem zero_wf : zeroI.wf := ⟨W64_0, W64_0, W64_0, W64_0, fun c hc => by simp [zeroI] at hc, fun c hc => by simp [zeroI] at hc⟩
theorem RdOk.start (L : List Line) : RdOk L.length ⟨L, zeroI, 0, false⟩ := ⟨zero_wf, by simp, by simp, by simp [zeroI]⟩
theorem RdOk.title {n : Nat} {st st' : Rd} (h : RdOk n st) (hs : titleR st = some st') : RdOk n st' ∧ st'.x.custs = st.x.custs ∧ st'.x.dist = st.x.dist := by
  unfold titleR at hs
  split at hs
  · obtain rfl := Option.some.inj hs
    obtain ⟨h1, h2, h3⟩ := nextR_same st
    exact ⟨⟨by rw [h1]; exact h.wf, by rw [h2]; exact h.lo, by rw [h2]; exact h.hi, by rw [h1]; have := h.len; omega⟩, by rw [h1], by rw [h1]⟩
  · cases hs
theorem RdOk.limits {n : Nat} {st st' : Rd} (h : RdOk n st) (hs : limitsR st = some st') : RdOk n st' ∧ st'.x.custs = st.x.custs ∧ st'.x.dist = st.x.dist := by
  unfold limitsR at hs
  split at hs
  · rename_i a b c d hn
    obtain ⟨ds, -, -, -, hm⟩ := namedN_inv hn
    have hall : ∀ z ∈ [a, b, c, d], W64 z := fun z hz => by
      rw [hm] at hz
      obtain ⟨w, -, rfl⟩ := List.mem_map.1 hz
      exact W64_nI w
    obtain rfl := Option.some.inj hs
    obtain ⟨h1, h2, h3⟩ := nextR_same st
    obtain ⟨-, -, -, -, w5, w6⟩ := h.wf
    exact ⟨⟨⟨hall a (by simp), hall b (by simp), hall c (by simp), hall d (by simp), w5, w6⟩, by show 0 ≤ (nextR st).2.count; rw [h2]; exact h.lo, by show (nextR st).2.count ≤ _; rw [h2]; exact h.hi, by have := h.len; show st.x.custs.length + (nextR st).2.rest.length ≤ n; omega⟩, rfl, rfl⟩
  · cases hs
theorem RdOk.how {n : Nat} {st st' : Rd} (h : RdOk n st) (hs : howR st = some st') : RdOk n st' ∧ st'.x.custs = st.x.custs ∧ st'.x.dist = st.x.dist := by
  unfold howR at hs
  split at hs
  · rename_i k hn
    obtain ⟨ds, -, -, -, hm⟩ := namedN_inv hn
    have hk : 0 ≤ k ∧ k ≤ 1000000000000000000 := by
      have : k ∈ ds.map nI := by rw [← hm]; simp
      obtain ⟨w, -, rfl⟩ := List.mem_map.1 this
      exact ⟨nI_nonneg w, nI_le w⟩
    obtain rfl := Option.some.inj hs
    obtain ⟨h1, h2, h3⟩ := nextR_same st
    exact ⟨⟨by show (nextR st).2.x.wf; rw [h1]; exact h.wf, hk.1, hk.2, by show (nextR st).2.x.custs.length + (nextR st).2.rest.length ≤ n; rw [h1]; have := h.len; omega⟩, by show (nextR st).2.x.custs = _; rw [h1], by show (nextR st).2.x.dist = _; rw [h1]⟩
  · cases hs
theorem RdOk.cust {n : Nat} {st st' : Rd} (h : RdOk n st) (hs : custR st = some st') : RdOk n st' ∧ st'.x.dist = st.x.dist := by
  unfold custR at hs
  obtain ⟨⟨c, o⟩, hc, rfl⟩ := Option.map_eq_some_iff.1 hs
  have hne : (nextR st).1 ≠ [] := fun e => by rw [e] at hc; cases hc
  have hl := nextR_less hne
  obtain ⟨h1, h2, h3⟩ := nextR_same st
  obtain ⟨w1, w2, w3, w4, w5, w6⟩ := h.wf
  refine ⟨⟨⟨w1, w2, w3, w4, fun d hd => ?_, w6⟩, by show 0 ≤ (nextR st).2.count; rw [h2]; exact h.lo, by show (nextR st).2.count ≤ _; rw [h2]; exact h.hi, ?_⟩, rfl⟩
  · rcases List.mem_append.1 hd with hd | hd
    · exact w5 d hd
    · obtain rfl : d = c := by simpa using hd
      exact custC_wf hc
  · show (st.x.custs ++ [c]).length + (nextR st).2.rest.length ≤ n
    have := h.len
    simp
    omega
theorem RdOk.custs {n : Nat} : ∀ (k : Nat) {st st' : Rd}, RdOk n st → custsR k st = some st' → RdOk n st' ∧ st'.x.dist = st.x.dist
  | 0, st, st', h, hs => by obtain rfl := Option.some.inj hs; exact ⟨h, rfl⟩
  | k + 1, st, st', h, hs => by
    obtain ⟨s1, h1, h2⟩ := Option.bind_eq_some_iff.1 hs
    obtain ⟨g1, g2⟩ := h.cust h1
    obtain ⟨g3, g4⟩ := RdOk.custs k g1 h2
    exact ⟨g3, g4.trans g2⟩
theorem RdOk.row {n : Nat} {st st' : Rd} (h : RdOk n st) (hs : rowR st = some st') : RdOk n st' := by
  unfold rowR at hs
  split at hs
  · obtain rfl := Option.some.inj hs
    obtain ⟨h1, h2, h3⟩ := nextR_same st
    obtain ⟨w1, w2, w3, w4, w5, w6⟩ := h.wf
    refine ⟨⟨w1, w2, w3, w4, w5, fun r hr z hz => ?_⟩, by show 0 ≤ (nextR st).2.count; rw [h2]; exact h.lo, by show (nextR st).2.count ≤ _; rw [h2]; exact h.hi, by have := h.len; show st.x.custs.length + (nextR st).2.rest.length ≤ n; omega⟩
    rcases List.mem_append.1 hr with hr | hr
    · exact w6 r hr z hz
    · obtain rfl : r = (nextR st).1.map nI := by simpa using hr
      obtain ⟨w, -, rfl⟩ := List.mem_map.1 hz
      exact W64_nI w
  · cases hs
theorem RdOk.rows {n : Nat} : ∀ (k : Nat) {st st' : Rd}, RdOk n st → rowsR k st = some st' → RdOk n st'
  | 0, st, st', h, hs => by obtain rfl := Option.some.inj hs; exact h
  | k + 1, st, st', h, hs => by
    obtain ⟨s1, h1, h2⟩ := Option.bind_eq_some_iff.1 hs
    exact RdOk.rows k (h.row h1) h2
theorem RdOk.dist {n : Nat} {st st' : Rd} (h : RdOk n st) (hs : distR st = some st') : RdOk n st' := by
  unfold distR at hs
  split at hs
  · obtain ⟨h1, h2, h3⟩ := nextR_same st
    exact RdOk.rows _ ⟨by rw [h1]; exact h.wf, by rw [h2]; exact h.lo, by rw [h2]; exact h.hi, by rw [h1]; have := h.len; omega⟩ hs
  · cases hs
/-- The parts, by number, and how far they come. -/
def part : Nat → Rd → Option Rd
  | 0 => titleR
  | 1 => limitsR
  | 2 => howR
  | 3 => fun st => custsR st.count.toNat st
  | 4 => distR
  | 5 => endR
  | _ => fun _ => none
def stage (L : List Line) : Nat → Option Rd
  | 0 => some ⟨L, zeroI, 0, false⟩
  | i + 1 => (stage L i).bind (part i)
theorem stage_read (L : List Line) : stage L 6 = readR L := by
  unfold readR
  simp only [stage, part, Option.bind_assoc, Option.bind_some]
theorem stage_none (L : List Line) {i : Nat} (h : stage L i = none) : ∀ d, stage L (i + d) = none
  | 0 => h
  | d + 1 => by
    show (stage L (i + d)).bind (part (i + d)) = none
    rw [stage_none L h d]; rfl
theorem stage_fall (L : List Line) {i : Nat} {s : Rd} (h : stage L i = some s) (hp : part i s = none) (hi : i < 6) : readR L = none := by
  have h1 : stage L (i + 1) = none := by
    show (stage L i).bind (part i) = none
    rw [h]; exact hp
  have := stage_none L h1 (5 - i)
  rw [show i + 1 + (5 - i) = 6 by omega, stage_read] at this
  exact this
theorem stage_ok (L : List Line) : ∀ (i : Nat) {s : Rd}, i ≤ 6 → stage L i = some s → RdOk L.length s ∧ (i ≤ 3 → s.x.custs = []) ∧ (i ≤ 4 → s.x.dist = [])
  | 0, s, _, h => by
    obtain rfl := Option.some.inj h
    exact ⟨RdOk.start L, fun _ => rfl, fun _ => rfl⟩
  | i + 1, s, hi, h => by
    obtain ⟨s1, h1, h2⟩ := Option.bind_eq_some_iff.1 (show (stage L i).bind (part i) = some s from h)
    obtain ⟨g1, g2, g3⟩ := stage_ok L i (by omega) h1
    match i, hi, g2, g3, h2 with
    | 0, _, g2, g3, h2 => obtain ⟨a, b, c⟩ := g1.title h2; exact ⟨a, fun _ => b.trans (g2 (by omega)), fun _ => c.trans (g3 (by omega))⟩
    | 1, _, g2, g3, h2 => obtain ⟨a, b, c⟩ := g1.limits h2; exact ⟨a, fun _ => b.trans (g2 (by omega)), fun _ => c.trans (g3 (by omega))⟩
    | 2, _, g2, g3, h2 => obtain ⟨a, b, c⟩ := g1.how h2; exact ⟨a, fun _ => b.trans (g2 (by omega)), fun _ => c.trans (g3 (by omega))⟩
    | 3, _, g2, g3, h2 => obtain ⟨a, c⟩ := RdOk.custs _ g1 h2; exact ⟨a, fun h => by omega, fun _ => c.trans (g3 (by omega))⟩
    | 4, _, g2, g3, h2 => exact ⟨g1.dist h2, fun h => by omega, fun h => by omega⟩
    | 5, _, g2, g3, h2 =>
      simp only [part, endR] at h2
      split at h2
      · obtain rfl := Option.some.inj h2; exact ⟨g1, fun h => by omega, fun h => by omega⟩
      · cases h2
    | n + 6, hi, _, _, _ => omega
end Go.Proofs.YtigljnnjamdcnaaDoor.P07

namespace Go.Proofs.YtigljnnjamdcnaaDoor.P07
open P05 P06

/-- The text of the first k lines. -/
def txt (x : Inst) (k : Nat) : List UInt8 := ((instLines x).take k).flatMap lineP
theorem txt_zero (x : Inst) : txt x 0 = [] := rfl
theorem txt_succ {x : Inst} {k : Nat} {l : Line} (h : (instLines x)[k]? = some l) : txt x (k + 1) = txt x k ++ lineP l := by
  unfold txt
  rw [List.take_add_one, h, Option.toList_some, List.flatMap_append]
  simp
theorem flatMap_take_le (L : List Line) (k : Nat) : ((L.take k).flatMap lineP).length ≤ (L.flatMap lineP).length := by
  conv => rhs; rw [← List.take_append_drop k L, List.flatMap_append, List.length_append]
  omega
theorem txt_le (x : Inst) (k : Nat) : (txt x k).length ≤ (instText x).length := flatMap_take_le _ k
theorem il_0 (x : Inst) : (instLines x)[0]? = some [wTranter, wOne] := rfl
theorem il_1 (x : Inst) : (instLines x)[1]? = some [wDays, decI x.days, wVeh, decI x.veh, wCap, decI x.cap, wLen, decI x.len] := rfl
theorem il_2 (x : Inst) : (instLines x)[2]? = some [wCust, decI x.custs.length] := rfl
theorem il_cust {x : Inst} {i : Nat} {c : Cust} (h : x.custs[i]? = some c) : (instLines x)[3 + i]? = some (custLine x.days c) := by
  have hi : i < x.custs.length := (List.getElem?_eq_some_iff.1 h).1
  unfold instLines
  rw [List.getElem?_append_right (by simp [headLines]), show 3 + i - (headLines x).length = i by simp [headLines], List.getElem?_append_left (by simpa using hi), List.getElem?_map, h]
  rfl
theorem il_dist (x : Inst) : (instLines x)[3 + x.custs.length]? = some [wDist] := by
  unfold instLines
  rw [List.getElem?_append_right (by simp [headLines]), show 3 + x.custs.length - (headLines x).length = x.custs.length by simp [headLines], List.getElem?_append_right (by simp)]
  simp
theorem il_row {x : Inst} {j : Nat} {r : List Int} (h : x.dist[j]? = some r) : (instLines x)[3 + x.custs.length + 1 + j]? = some (r.map decI) := by
  unfold instLines
  rw [List.getElem?_append_right (by simp [headLines]; omega), show 3 + x.custs.length + 1 + j - (headLines x).length = x.custs.length + (1 + j) by simp [headLines]; omega, List.getElem?_append_right (by simp)]
  simp only [List.length_map, Nat.add_sub_cancel_left]
  rw [Nat.add_comm 1 j, List.getElem?_cons_succ, List.getElem?_map, h]
  rfl
theorem txt_all (x : Inst) : txt x (3 + x.custs.length + 1 + x.dist.length) = instText x := by
  unfold txt instText
  rw [List.take_of_length_le]
  simp [instLines, headLines]
  omega
theorem lineP_le {x : Inst} {k : Nat} {l : Line} (h : (instLines x)[k]? = some l) : (txt x k).length + (lineP l).length ≤ (instText x).length := by
  have := txt_le x (k + 1)
  rw [txt_succ h, List.length_append] at this
  exact this
theorem cust_pats {c : Cust} {days : Int} (hm : custMay c days = true) : c.pats.length ≤ 64 := by
  unfold custMay at hm
  split at hm
  · simp only [musts1, List.all_cons, List.all_nil, id, Bool.and_true, Bool.and_eq_true, patternedB, fromB_iff] at hm
    omega
  · split at hm
    · simp only [musts2, List.all_cons, List.all_nil, id, Bool.and_true, Bool.and_eq_true, patternlessB, decide_eq_true_eq] at hm
      omega
    · cases hm
theorem dec21 {n : Int} (h : W64 n) : (decI n).length ≤ 21 := (decI_len h).2
theorem custLine_len {c : Cust} {days : Int} (hd1 : days ≤ 64) (hw : c.wf) (hm : custMay c days = true) : (custLine days c).length ≤ 1000 ∧ ∀ w ∈ custLine days c, w.length ≤ 1000 := by
  have hp := cust_pats hm
  obtain ⟨w1, w2, w3, w4, w5, w6, w7, w8⟩ := hw
  unfold custLine
  split
  · refine ⟨by simp; omega, fun w hw => ?_⟩
    simp only [List.mem_cons, List.mem_map] at hw
    rcases hw with rfl | rfl | ⟨s, -, rfl⟩
    · decide
    · have := dec21 w2; omega
    · rw [setText_len]; omega
  · refine ⟨by simp, fun w hw => ?_⟩
    simp only [List.mem_cons, List.not_mem_nil, or_false] at hw
    rcases hw with rfl | rfl | rfl | rfl | rfl | rfl
    · decide
    · have := dec21 w4; omega
    · have := dec21 w5; omega
    · have := dec21 w6; omega
    · split <;> decide
    · have := dec21 w8; omega
end Go.Proofs.YtigljnnjamdcnaaDoor.P07

namespace Go.Proofs.YtigljnnjamdcnaaDoor.P07
open P05 P06

theorem joinB_many (b : UInt8) : ∀ ws : Line, ws.length ≤ (joinB b ws).length + 1
  | [] => by simp
  | [w] => by simp [joinB]
  | w :: v :: t => by
    have := joinB_many b (v :: t)
    rw [joinB, List.length_append, List.length_cons]
    simp at this ⊢
    omega
theorem lineP_many (ws : Line) : ws.length ≤ (lineP ws).length := by
  have := joinB_many 32 ws
  unfold lineP
  simp
  omega
theorem mem_len {L : List Line} {l : Line} (h : l ∈ L) : (lineP l).length ≤ (L.flatMap lineP).length := by
  induction L with
  | nil => cases h
  | cons a L ih =>
    rw [List.flatMap_cons, List.length_append]
    rcases List.mem_cons.1 h with h | h
    · subst h; omega
    · have := ih h; omega
theorem lines_many {t : List UInt8} {L : List Line} (h : linesP t = some L) {l : Line} (hl : l ∈ L) : l.length ≤ t.length := by
  have h1 := mem_len hl
  rw [(linesP_back h).1] at h1
  exact Nat.le_trans (lineP_many l) h1
theorem parse_ok {t : List UInt8} {x : Inst} (h : parseX t = (x, 0)) : x.wf ∧ x.custs.length ≤ t.length := by
  unfold parseX at h
  cases hb : (linesP t).bind readR with
  | none => rw [hb] at h; simp at h
  | some st =>
    rw [hb] at h
    obtain ⟨L, h1, h2⟩ := Option.bind_eq_some_iff.1 hb
    simp only at h
    split at h
    · simp at h
    · obtain ⟨rfl, -⟩ := Prod.mk.inj h
      rw [← stage_read] at h2
      have ok := (stage_ok L 6 (Nat.le_refl _) h2).1
      have := linesP_len h1
      exact ⟨ok.wf, by have := ok.len; omega⟩
end Go.Proofs.YtigljnnjamdcnaaDoor.P07

namespace Go.Proofs.YtigljnnjamdcnaaDoor.P07
open P05 P06

theorem num_lt_of : ∀ (l : List Int) (k : Nat), (∀ z ∈ l, 0 ≤ z ∧ z ≤ 1) → (∀ j z, k ≤ j → l[j]? = some z → z = 0) → P02.num l < 2 ^ k
  | [], k, _, _ => by
    show 0 < 2 ^ k
    exact Nat.two_pow_pos k
  | a :: l, 0, h, hz => by
    have h0 := hz 0 a (Nat.le_refl _) rfl
    have h1 := num_lt_of l 0 (fun z hm => h z (List.mem_cons_of_mem _ hm)) (fun j z _ hj => hz (j + 1) z (by omega) (by rw [List.getElem?_cons_succ]; exact hj))
    subst h0
    simp only [P02.num]
    simp at h1 ⊢
    omega
  | a :: l, k + 1, h, hz => by
    have h0 := h a (by simp)
    have h1 := num_lt_of l k (fun z hm => h z (List.mem_cons_of_mem _ hm)) (fun j z hj hg => hz (j + 1) z (by omega) (by rw [List.getElem?_cons_succ]; exact hg))
    simp only [P02.num]
    rw [Nat.pow_succ]
    omega
theorem div_zero {s d j : Nat} (h : s < 2 ^ d) (hj : d ≤ j) : s / 2 ^ j = 0 := Nat.div_eq_of_lt (Nat.lt_of_lt_of_le h (Nat.pow_le_pow_right (by decide) hj))
theorem put_pow {s d : Nat} (hd : d < 64) (h : s < 2 ^ d) : P02.put s (d : Int) < 2 ^ (d + 1) := by
  unfold P02.put
  rw [if_pos ⟨by omega, by omega⟩, Int.toNat_natCast]
  refine num_lt_of _ _ (fun z hz => ?_) (fun j z hj hg => ?_)
  · rcases List.mem_or_eq_of_mem_set hz with h | h
    · exact P02.bits_01 s z h
    · omega
  · rw [List.getElem?_set_ne (by omega)] at hg
    have hj64 : j < 64 := by have := (List.getElem?_eq_some_iff.1 hg).1; rw [P02.bits_len] at this; exact this
    rw [P02.bits_get s j hj64] at hg
    rw [div_zero h (by omega)] at hg
    have := Option.some.inj hg
    simp at this
    omega
theorem goodPat_pow (s : Nat) : ∀ n, n ≤ 64 → goodPat s n < 2 ^ n
  | 0, _ => by simp [goodPat]
  | n + 1, h => by
    have ih := goodPat_pow s n (by omega)
    rw [goodPat]
    split
    · exact put_pow (by omega) ih
    · rw [Nat.pow_succ]; omega
theorem next_neg {s n : Nat} (h : s < 2 ^ n) : P02.next s (n : Int) < 0 := by
  have : P02.days s n = [] := by
    unfold P02.days
    rw [List.filter_eq_nil_iff]
    intro d hd
    obtain ⟨k, hk, rfl⟩ := List.mem_map.1 hd
    simp only [P02.has, Bool.and_eq_true, decide_eq_true_eq]
    rintro ⟨h1, -, h3⟩
    have h4 : (Int.ofNat k).toNat = k := rfl
    have h5 : n ≤ k := by have : (n : Int) ≤ (k : Int) := h1; omega
    rw [h4, div_zero h h5] at h3
    simp at h3
  unfold P02.next
  rw [this]
  decide
theorem goodPats_may (l : List Nat) {days : Int} (h0 : 1 ≤ days) (h1 : days ≤ 7) : patternedB (goodPats l days) days = true := by
  obtain ⟨n, rfl⟩ : ∃ n : Nat, days = n := ⟨days.toNat, by omega⟩
  unfold patternedB goodPats
  rw [Bool.and_eq_true, fromB_iff, List.all_eq_true]
  split
  · refine ⟨fun p hp => ?_, by simp⟩
    obtain rfl : p = 1 := by simpa using hp
    rw [decide_eq_true_eq]
    exact next_neg (Nat.lt_of_lt_of_le (show 1 < 2 ^ 1 by decide) (Nat.pow_le_pow_right (by decide) (by omega)))
  · rename_i hne
    refine ⟨fun p hp => ?_, ?_⟩
    · obtain ⟨s, -, rfl⟩ := List.mem_map.1 hp
      rw [decide_eq_true_eq, Int.toNat_natCast]
      exact next_neg (goodPat_pow s n (by omega))
    · have : 0 < (l.take 4).length := List.length_pos_iff.2 hne
      have h2 : (l.take 4).length ≤ 4 := List.length_take_le _ _
      rw [List.length_map]
      omega
theorem goodC_may (c : Cust) {days : Int} (h0 : 1 ≤ days) (h1 : days ≤ 7) : custMay (goodC c days) days = true := by
  have r1 := rnd_bd c.rate 0 9 (by omega)
  have r2 := rnd_bd c.size 1 30 (by omega)
  have r3 := rnd_bd c.start 0 (rnd c.size 1 30) (by omega)
  have r4 := rnd_bd c.rule 1 2 (by omega)
  have r5 := rnd_bd c.hold 0 4 (by omega)
  have r6 := rnd_bd c.demand 1 15 (by omega)
  unfold goodC
  split
  · unfold custMay
    rw [if_neg (by simp), if_pos rfl]
    simp only [musts2, ruledB, patternlessB, List.all_cons, List.all_nil, id, Bool.and_true, Bool.and_eq_true, Bool.or_eq_true, fromB_iff, beq_iff_eq, decide_eq_true_eq, List.length_nil, and_self, and_true]
    omega
  · unfold custMay
    rw [if_pos rfl]
    simp only [musts1, tanklessB, List.all_cons, List.all_nil, id, Bool.and_true, Bool.and_eq_true, fromB_iff, goodPats_may _ h0 h1, beq_iff_eq, and_true]
    refine ⟨by omega, by omega⟩
theorem rowsMay_of (n : Nat) : ∀ (D : List (List Int)) (k : Nat), (∀ i r, D[i]? = some r → rowMay (k + i) n r = true) → rowsMay n k D = true
  | [], _, _ => rfl
  | r :: D, k, h => by
    rw [rowsMay, Bool.and_eq_true]
    exact ⟨h 0 r rfl, rowsMay_of n D (k + 1) fun i r' hr => by rw [show k + 1 + i = k + (i + 1) by omega]; exact h (i + 1) r' (by rw [List.getElem?_cons_succ]; exact hr)⟩
theorem goodP_may (x : Inst) : may (goodP x) = true := by
  have r1 := rnd_bd x.days 1 7 (by omega)
  have r2 := rnd_bd x.veh 0 5 (by omega)
  have r3 := rnd_bd x.cap 0 40 (by omega)
  have r4 := rnd_bd x.len 0 300 (by omega)
  have hc := goodP_custs x
  unfold may
  simp only [Bool.and_eq_true, fromB_iff, decide_eq_true_eq]
  refine ⟨⟨⟨⟨⟨⟨?_, by omega⟩, ?_⟩, ?_⟩, ?_⟩, ?_⟩, ?_⟩
  · show 1 ≤ rnd x.days 1 7 ∧ rnd x.days 1 7 ≤ 64; omega
  · show 0 ≤ rnd x.veh 0 5 ∧ rnd x.veh 0 5 ≤ _; omega
  · show 0 ≤ rnd x.cap 0 40 ∧ rnd x.cap 0 40 ≤ _; omega
  · show 0 ≤ rnd x.len 0 300 ∧ rnd x.len 0 300 ≤ _; omega
  · rw [List.all_eq_true]
    intro c hcm
    obtain ⟨y, -, rfl⟩ := List.mem_map.1 hcm
    exact goodC_may y r1.1 r1.2
  · unfold distMay
    rw [Bool.and_eq_true, decide_eq_true_eq]
    refine ⟨goodP_dist x, rowsMay_of _ _ 0 fun i r hr => ?_⟩
    have hmem := List.mem_of_getElem? hr
    rw [rowMay, Bool.and_eq_true, Bool.and_eq_true, decide_eq_true_eq, decide_eq_true_eq, List.all_eq_true]
    refine ⟨⟨goodP_rows x r hmem, ?_⟩, fun z hz => ?_⟩
    · rw [Nat.zero_add]
      have hi : i < (goodP x).custs.length + 1 := by have := (List.getElem?_eq_some_iff.1 hr).1; rw [goodP_dist] at this; exact this
      have he : (goodP x).dist = (List.range ((goodP x).custs.length + 1)).map fun i => goodRow x.dist ((goodP x).custs.length + 1) i := rfl
      rw [he, List.getElem?_map, List.getElem?_range hi] at hr
      obtain rfl := Option.some.inj hr
      rw [goodRow_get _ _ _ _ hi, if_pos rfl]
      rfl
    · have := goodP_cells x r hmem z hz
      rw [fromB_iff]
      omega
/-- How long a made instance's text is. -/
theorem flatMap_bd {α β : Type} (f : α → List β) (m : Nat) : ∀ l : List α, (∀ a ∈ l, (f a).length ≤ m) → (l.flatMap f).length ≤ l.length * m
  | [], _ => by simp
  | a :: l, h => by
    rw [List.flatMap_cons, List.length_append, List.length_cons, Nat.succ_mul]
    have h1 := h a (by simp)
    have h2 := flatMap_bd f m l fun b hb => h b (List.mem_cons_of_mem _ hb)
    omega
end Go.Proofs.YtigljnnjamdcnaaDoor.P07
