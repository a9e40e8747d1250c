/- Plain words for texts: lines of words. No program in sight. -/
namespace Go.Proofs.YtokdneolgolkbaaDoor.P05

def okByte (c : UInt8) : Bool := decide (33 ≤ c.toNat) && decide (c.toNat ≤ 126)
def isWord (w : List UInt8) : Bool := !w.isEmpty && w.all okByte
/-- A text, byte by byte: the lines so far, the words so far, the word so far. -/
def scan (out : List (List (List UInt8))) (line : List (List UInt8)) (cur : List UInt8) : List UInt8 → Option (List (List (List UInt8)))
  | [] => if cur = [] ∧ line = [] then some out else none
  | c :: t => if c ≠ 32 ∧ c ≠ 10 then (if okByte c then scan out line (cur ++ [c]) t else none)
    else if cur = [] then none else if c = 10 then scan (out ++ [line ++ [cur]]) [] [] t else scan out (line ++ [cur]) [] t
/-- A text's lines, of each its words. -/
def linesP (t : List UInt8) : Option (List (List (List UInt8))) := scan [] [] [] t
/-- The pieces between a byte. -/
def pieces (b : UInt8) : List UInt8 → List (List UInt8)
  | [] => [[]]
  | c :: t => if c = b then [] :: pieces b t else match pieces b t with
    | [] => [[c]]
    | h :: r => (c :: h) :: r
theorem pieces_ne (b : UInt8) : ∀ t, pieces b t ≠ []
  | [] => by simp [pieces]
  | c :: t => by
    rw [pieces]
    split
    · simp
    · cases h : pieces b t with
      | nil => simp
      | cons h r => simp
/-- The first piece goes on from what was there. -/
def pre (cur : List UInt8) : List (List UInt8) → List (List UInt8)
  | [] => [cur]
  | h :: r => (cur ++ h) :: r
theorem pre_pre (a b : List UInt8) (l : List (List UInt8)) : pre a (pre b l) = pre (a ++ b) l := by
  cases l <;> simp [pre]
theorem pre_nil (l : List (List UInt8)) (h : l ≠ []) : pre [] l = l := by
  cases l with
  | nil => exact absurd rfl h
  | cons a t => rfl
theorem pieces_cons_ne (b c : UInt8) (t : List UInt8) (h : c ≠ b) : pieces b (c :: t) = pre [c] (pieces b t) := by
  rw [pieces, if_neg h]
  cases pieces b t <;> rfl
theorem okByte_sep {c : UInt8} (h : okByte c = true) : c ≠ 32 ∧ c ≠ 10 := by
  constructor <;> (intro e; subst e; revert h; decide)
theorem isWord_cur {cur : List UInt8} (h : cur.all okByte = true) : isWord cur = true ↔ cur ≠ [] := by
  cases cur with
  | nil => simp [isWord]
  | cons a t => simp [isWord, h]

theorem scan_line (rest : List UInt8) : ∀ (line : List UInt8) (out : List (List (List UInt8))) (l : List (List UInt8)) (cur : List UInt8), (10 : UInt8) ∉ line → cur.all okByte = true →
    scan out l cur (line ++ 10 :: rest) = if (pre cur (pieces 32 line)).all isWord then scan (out ++ [l ++ pre cur (pieces 32 line)]) [] [] rest else none
  | [], out, l, cur, _, hc => by
    have h := isWord_cur hc
    show scan out l cur (10 :: rest) = _
    rw [scan, if_neg (by decide)]
    simp only [pieces, pre, List.append_nil, List.all_cons, List.all_nil, Bool.and_true]
    by_cases e : cur = []
    · rw [if_pos e, if_neg (fun h' => h.1 h' e)]
    · rw [if_neg e, if_pos (h.2 e)]
      simp
  | c :: t, out, l, cur, hn, hc => by
    have hn' : (10 : UInt8) ∉ t := fun h => hn (by simp [h])
    have hc10 : c ≠ 10 := fun h => hn (by simp [h])
    rw [List.cons_append, scan]
    by_cases e : c = 32
    · subst e
      rw [if_neg (by simp)]
      have hp : pieces 32 (32 :: t) = [] :: pieces 32 t := by rw [pieces, if_pos rfl]
      rw [hp]
      have h := isWord_cur hc
      have h1 : pre cur ([] :: pieces 32 t) = cur :: pieces 32 t := by simp [pre]
      rw [h1, List.all_cons]
      by_cases e : cur = []
      · rw [if_pos e, if_neg]
        intro h'
        simp only [Bool.and_eq_true] at h'
        exact h.1 h'.1 e
      · rw [if_neg e, if_neg (by decide), scan_line rest t out (l ++ [cur]) [] hn' rfl, pre_nil _ (pieces_ne _ _), h.2 e, Bool.true_and]
        simp
    · rw [if_pos ⟨e, hc10⟩, pieces_cons_ne _ _ _ e]
      by_cases ho : okByte c = true
      · rw [if_pos ho, scan_line rest t out l (cur ++ [c]) hn' (by simp [hc, ho]), pre_pre]
      · rw [if_neg ho, if_neg]
        intro h'
        have hm : pre cur (pre [c] (pieces 32 t)) = pre (cur ++ [c]) (pieces 32 t) := pre_pre _ _ _
        rw [hm] at h'
        cases hp : pieces 32 t with
        | nil => exact pieces_ne _ _ hp
        | cons a r =>
          rw [hp] at h'
          simp only [pre, List.all_cons, isWord, Bool.and_eq_true, List.all_append] at h'
          simp_all
theorem scan_open : ∀ (line : List UInt8) (out : List (List (List UInt8))) (l : List (List UInt8)) (cur : List UInt8), (10 : UInt8) ∉ line → (line ≠ [] ∨ l ≠ [] ∨ cur ≠ []) → scan out l cur line = none
  | [], out, l, cur, _, h => by
    rw [scan, if_neg]
    rintro ⟨rfl, rfl⟩
    simp at h
  | c :: t, out, l, cur, hn, _ => by
    have hn' : (10 : UInt8) ∉ t := fun h => hn (by simp [h])
    have hc10 : c ≠ 10 := fun h => hn (by simp [h])
    rw [scan]
    by_cases e : c = 32
    · subst e
      rw [if_neg (by simp)]
      by_cases e : cur = []
      · rw [if_pos e]
      · rw [if_neg e, if_neg (by decide)]
        exact scan_open t out _ _ hn' (.inr (.inl (by simp)))
    · rw [if_pos ⟨e, hc10⟩]
      split
      · exact scan_open t out _ _ hn' (.inr (.inr (by simp)))
      · rfl
theorem scan_out : ∀ (t : List UInt8) (out : List (List (List UInt8))) (l : List (List UInt8)) (cur : List UInt8), scan out l cur t = (scan [] l cur t).map (out ++ ·)
  | [], out, l, cur => by
    rw [scan, scan]
    split <;> simp
  | c :: t, out, l, cur => by
    rw [scan, scan]
    split
    · split
      · exact scan_out t out _ _
      · rfl
    · split
      · rfl
      · split
        · rw [scan_out t (out ++ [l ++ [cur]]), scan_out t ([] ++ [l ++ [cur]])]
          rw [Option.map_map]
          congr 1
          funext x
          simp
        · exact scan_out t out _ _
/-- The lines of two texts. -/
theorem scan_append : ∀ (s t : List UInt8) (out a : List (List (List UInt8))) (l : List (List UInt8)) (cur : List UInt8), scan out l cur s = some a → scan out l cur (s ++ t) = scan a [] [] t
  | [], t, out, a, l, cur, h => by
    rw [scan] at h
    split at h
    · rename_i e
      obtain ⟨rfl, rfl⟩ := e
      injection h with h
      subst h
      rfl
    · cases h
  | c :: s, t, out, a, l, cur, h => by
    rw [List.cons_append]
    rw [scan] at h ⊢
    split at h
    · rename_i e
      rw [if_pos e]
      split at h
      · rename_i e
        rw [if_pos e]
        exact scan_append s t _ _ _ _ h
      · cases h
    · rename_i e
      rw [if_neg e]
      split at h
      · cases h
      · rename_i e
        rw [if_neg e]
        split at h
        · rename_i e
          rw [if_pos e]
          exact scan_append s t _ _ _ _ h
        · rename_i e
          rw [if_neg e]
          exact scan_append s t _ _ _ _ h
theorem linesP_append {s t : List UInt8} {a b : List (List (List UInt8))} (hs : linesP s = some a) (ht : linesP t = some b) : linesP (s ++ t) = some (a ++ b) := by
  unfold linesP at *
  rw [scan_append s t _ _ _ _ hs, scan_out, ht]
  rfl
/-- Words with a byte between them. -/
def joinB (b : UInt8) : List (List UInt8) → List UInt8
  | [] => []
  | [w] => w
  | w :: v :: t => w ++ b :: joinB b (v :: t)
/-- A line of words. -/
def lineP (ws : List (List UInt8)) : List UInt8 := joinB 32 ws ++ [10]
theorem pieces_no (b : UInt8) : ∀ (w : List UInt8), b ∉ w → pieces b w = [w]
  | [], _ => rfl
  | c :: t, h => by
    rw [pieces, if_neg (fun e => h (by simp [e])), pieces_no b t (fun e => h (by simp [e]))]
theorem pieces_word (b : UInt8) : ∀ (w t : List UInt8), b ∉ w → pieces b (w ++ b :: t) = w :: pieces b t
  | [], t, _ => by
    show pieces b (b :: t) = _
    rw [pieces, if_pos rfl]
  | c :: w, t, h => by
    rw [List.cons_append, pieces, if_neg (fun e => h (by simp [e])), pieces_word b w t (fun e => h (by simp [e]))]
theorem pieces_join (b : UInt8) : ∀ (ws : List (List UInt8)), ws ≠ [] → (∀ w ∈ ws, b ∉ w) → pieces b (joinB b ws) = ws
  | [], h, _ => absurd rfl h
  | [w], _, h => by rw [joinB, pieces_no b w (h w (by simp))]
  | w :: v :: t, _, h => by rw [joinB, pieces_word b w _ (h w (by simp)), pieces_join b (v :: t) (by simp) (fun x hx => h x (by simp [hx]))]
theorem isWord_no {w : List UInt8} (h : isWord w = true) : (32 : UInt8) ∉ w ∧ (10 : UInt8) ∉ w := by
  simp only [isWord, Bool.and_eq_true, List.all_eq_true] at h
  exact ⟨fun e => (okByte_sep (h.2 _ e)).1 rfl, fun e => (okByte_sep (h.2 _ e)).2 rfl⟩
theorem joinB_no : ∀ (ws : List (List UInt8)), (∀ w ∈ ws, isWord w = true) → (10 : UInt8) ∉ joinB 32 ws
  | [], _ => by simp [joinB]
  | [w], h => by rw [joinB]; exact (isWord_no (h w (by simp))).2
  | w :: v :: t, h => by
    rw [joinB, List.mem_append, List.mem_cons]
    rintro (e | e | e)
    · exact (isWord_no (h w (by simp))).2 e
    · revert e; decide
    · exact joinB_no (v :: t) (fun x hx => h x (by simp [hx])) e
/-- A line of words, ahead of a text. -/
theorem scan_lineP (ws : List (List UInt8)) (out : List (List (List UInt8))) (rest : List UInt8) (h0 : ws ≠ []) (hw : ∀ w ∈ ws, isWord w = true) : scan out [] [] (lineP ws ++ rest) = scan (out ++ [ws]) [] [] rest := by
  have hp := pieces_join 32 ws h0 (fun w h => (isWord_no (hw w h)).1)
  rw [lineP, List.append_assoc]
  show scan out [] [] (joinB 32 ws ++ 10 :: rest) = _
  rw [scan_line rest _ out [] [] (joinB_no ws hw) rfl, hp, pre_nil _ h0, if_pos (List.all_eq_true.2 hw), List.nil_append]
theorem linesP_lineP (L : List (List (List UInt8))) (h : ∀ ws ∈ L, ws ≠ [] ∧ ∀ w ∈ ws, isWord w = true) : linesP (L.flatMap lineP) = some L := by
  have : ∀ (L out : List (List (List UInt8))), (∀ ws ∈ L, ws ≠ [] ∧ ∀ w ∈ ws, isWord w = true) → scan out [] [] (L.flatMap lineP) = some (out ++ L) := by
    intro L
    induction L with
    | nil => intro out _; simp [scan]
    | cons ws L ih =>
      intro out h
      rw [List.flatMap_cons, scan_lineP ws out _ (h ws (by simp)).1 (h ws (by simp)).2, ih _ (fun x hx => h x (by simp [hx]))]
      simp
  exact this L [] h
/-- The words of a line so far. -/
def partP (l : List (List UInt8)) (cur : List UInt8) : List UInt8 := (l.flatMap fun w => w ++ [32]) ++ cur
theorem lineP_part : ∀ (l : List (List UInt8)) (cur : List UInt8), lineP (l ++ [cur]) = partP l cur ++ [10]
  | [], cur => by simp [lineP, joinB, partP]
  | [w], cur => by simp [lineP, joinB, partP]
  | w :: v :: t, cur => by
    have := lineP_part (v :: t) cur
    simp only [lineP, partP, List.cons_append, joinB, List.flatMap_cons] at this ⊢
    simp at this ⊢
    exact this
/-- What is read is what is printed. -/
theorem scan_back : ∀ (t : List UInt8) (out a : List (List (List UInt8))) (l : List (List UInt8)) (cur : List UInt8), scan out l cur t = some a → (∀ ws ∈ out, ws ≠ [] ∧ ∀ w ∈ ws, isWord w = true) → (∀ w ∈ l, isWord w = true) → cur.all okByte = true →
    a.flatMap lineP = out.flatMap lineP ++ partP l cur ++ t ∧ ∀ ws ∈ a, ws ≠ [] ∧ ∀ w ∈ ws, isWord w = true
  | [], out, a, l, cur, h, ho, _, _ => by
    rw [scan] at h
    split at h
    · rename_i e
      obtain ⟨rfl, rfl⟩ := e
      injection h with h
      subst h
      exact ⟨by simp [partP], ho⟩
    · cases h
  | c :: t, out, a, l, cur, h, ho, hl, hc => by
    rw [scan] at h
    split at h
    · split at h
      · rename_i e
        have := scan_back t out a l (cur ++ [c]) h ho hl (by simp [hc, e])
        refine ⟨?_, this.2⟩
        rw [this.1]
        simp [partP]
      · cases h
    · rename_i e
      split at h
      · cases h
      · rename_i hne
        have hw : isWord cur = true := (isWord_cur hc).2 hne
        split at h
        · rename_i e
          subst e
          have := scan_back t (out ++ [l ++ [cur]]) a [] [] h (fun ws hws => by
            rcases List.mem_append.1 hws with h | h
            · exact ho ws h
            · obtain rfl : ws = l ++ [cur] := by simpa using h
              refine ⟨by simp, fun w hw' => ?_⟩
              rcases List.mem_append.1 hw' with h | h
              · exact hl w h
              · obtain rfl : w = cur := by simpa using h
                exact hw) (by simp) rfl
          refine ⟨?_, this.2⟩
          rw [this.1, List.flatMap_append, List.flatMap_cons, List.flatMap_nil, List.append_nil, lineP_part]
          simp [partP]
        · have e32 : c = 32 := by
            by_cases h : c = 32
            · exact h
            · exact absurd ⟨h, by assumption⟩ e
          subst e32
          have := scan_back t out a (l ++ [cur]) [] h ho (fun w hw' => by
            rcases List.mem_append.1 hw' with h | h
            · exact hl w h
            · obtain rfl : w = cur := by simpa using h
              exact hw) rfl
          refine ⟨?_, this.2⟩
          rw [this.1]
          simp [partP]
theorem linesP_back {t : List UInt8} {a : List (List (List UInt8))} (h : linesP t = some a) : a.flatMap lineP = t ∧ ∀ ws ∈ a, ws ≠ [] ∧ ∀ w ∈ ws, isWord w = true := by
  have := scan_back t [] a [] [] h (by simp) (by simp) rfl
  simpa [partP] using this
end Go.Proofs.YtokdneolgolkbaaDoor.P05
