/-
  A region that draws its order, walked in the text's order: what only reads, and calls that leave the world as it is, are taken first as long as a condition S holds of the world; S is asked anew behind an operation only while something is still to come. No condition.
  A region that draws its order, all of whose operations yield one value in every world that meets S and keep S (loads, sums, calls that make memory of their own): walked in the text's order, the world behind it any that meets S. No condition.
  The steps of XOrdF once more, for wide regions: the slot that is written, and what has been taken, are handed in as numerals, so that the slots stay written out.
  A region that draws its order, walked in the text's order: first what only reads (a condition S holds of the world while it is to come); then some calls that may come in whatever order, each of which yields one value in every world that meets S and keeps S; then the rest, one by one. S is asked no more behind the operations that are named late. No condition.
-/
import Derived.OrdersHeld
import Derived.WalkKit
namespace Go.Proofs.YtigljnnjamdcnaaDoor
section
variable {P : Program} {ops : Array Oper} {Q : Exit → Act → World → Prop} {S : World → Prop}

/-- In every world that meets S the operation yields v, by itself or by a call that leaves the world alone. -/
def YieldsG (P : Program) (ops : Array Oper) (S : World → Prop) (o : Oper) (v : Value) (a : Act) : Prop :=
  (Region.wanted o (yielded ops a.tmps) = true ∧ ∀ w, S w → (execOp a.eval o).run P w = .ok (.value v) w ∨
    ∃ f args, (execOp a.eval o).run P w = .ok (.enter f args) w ∧ Calls P f args w fun e w' => e = .returned v ∧ w = w') ∨
  (Region.wanted o (yielded ops a.tmps) = false ∧ v = undef)

theorem YieldsG.of_same {o : Oper} {v : Value} {a a' : Act} (hy : YieldsG P ops S o v a) (he : execOp a'.eval o = execOp a.eval o)
    (hw : Region.wanted o (yielded ops a'.tmps) = Region.wanted o (yielded ops a.tmps)) : YieldsG P ops S o v a' := by
  unfold YieldsG at *; rw [he, hw]; exact hy

theorem YieldsG.op {i : Nat} {o : Oper} {v : Value} {a : Act} (hi : ops[i]? = some o) (hy : YieldsG P ops S o v a)
    {K : Act → World → Prop} {w : World} (hS : S w) (h : K (a.put o.dst v) w) : wpOp P ops Q i K a w := by
  unfold wpOp
  rcases hy with ⟨hw, hy⟩ | ⟨hw, rfl⟩
  rotate_left
  · simp only [hi, hw, Bool.false_eq_true, if_false]; exact h
  simp only [hi, hw, if_true]
  refine .inl ?_
  unfold Oper.wp
  rcases hy w hS with hv | ⟨f, args, hv, hc⟩
  · rw [hv]; exact h
  · rw [hv]
    refine Calls.mono hc ?_
    rintro e w' ⟨rfl, rfl⟩
    exact h

theorem wpOp_putG {j : Nat} {oi oj : Oper} {v : Value} (hj : ops[j]? = some oj) (hap : oi.apart ops oj = true)
    (hsi : ∀ cs b, oi.op ≠ .select cs b) (hsj : ∀ cs b, oj.op ≠ .select cs b)
    (hQ : ∀ c a w, Q (.panic c) (a.put oi.dst v) w → Q (.panic c) a w) {K : Act → World → Prop} {a : Act} {w : World}
    (hy : YieldsG P ops S oi v a) (h : wpOp P ops Q j K (a.put oi.dst v) w) :
    wpOp P ops Q j (fun a' w' => YieldsG P ops S oi v a' ∧ K (a'.put oi.dst v) w') a w := by
  obtain ⟨h1, h2, h3⟩ := Oper.apart_spec hap
  have keep : ∀ (b : Act), YieldsG P ops S oi v b → ∀ u, YieldsG P ops S oi v (b.put oj.dst u) := fun b hb u =>
    hb.of_same (execOp_put oi hsi b oj.dst u h3) (wanted_put oi b oj.dst u h3)
  unfold wpOp at *
  simp only [hj] at *
  rw [wanted_put oj a oi.dst v h1] at h
  by_cases hw : Region.wanted oj (yielded ops a.tmps) = true
  · rw [if_pos hw] at h ⊢
    rcases h with h | ⟨hasks, hl⟩
    · refine .inl ?_
      unfold Oper.wp at *
      rw [execOp_put oj hsj a oi.dst v h1] at h
      cases hr : (execOp a.eval oj).run P w with
      | ok n w' =>
        rw [hr] at h
        cases n with
        | value u => exact ⟨keep a hy u, by rw [← Act.put_comm a v u h2]; exact h⟩
        | skip => exact ⟨keep a hy _, by rw [← Act.put_comm a v undef h2]; exact h⟩
        | defer d =>
          refine ⟨keep { a with defers := d :: a.defers } (hy.of_same rfl rfl) _, ?_⟩
          rw [← Act.put_comm _ v undef h2, ← Act.put_defers]; exact h
        | enter f args =>
          refine Calls.mono h fun e w'' he => ?_
          cases e with
          | returned u => exact ⟨keep a hy u, by rw [← Act.put_comm a v u h2]; exact he⟩
          | panicked c => exact hQ _ _ _ he
          | outgrown => exact he
        | row r args => exact Rows.mono h fun u w'' he => ⟨keep a hy u, by rw [← Act.put_comm a v u h2]; exact he⟩
        | _ => exact h
      | halt x w' =>
        rw [hr] at h
        cases x with
        | panic u => exact hQ _ _ _ h
        | _ => exact h
    · exact .inr ⟨by unfold Oper.asks at *; rw [execOp_put oj hsj a oi.dst v h1] at hasks; exact hasks, hl⟩
  · rw [if_neg hw] at h ⊢
    exact ⟨keep a hy _, by rw [← Act.put_comm a v undef h2]; exact h⟩

/-- Does the operation wait for all others? -/
def lastB (ops : Array Oper) (j : Nat) : Bool :=
  match ops[j]? with
  | some o => (List.range ops.size).all fun k => k == j || o.after.toList.any fun e => Region.binds .any e && e.on == k
  | none => false
theorem lastB_spec {j i : Nat} {oj oi : Oper} (h : lastB ops j = true) (hj : ops[j]? = some oj) (hi : ops[i]? = some oi) (hne : i ≠ j) : ∃ e ∈ oj.after, Region.binds .any e = true ∧ e.on = i := by
  unfold lastB at h
  rw [hj] at h
  have hlt : i < ops.size := (Array.getElem?_eq_some_iff.1 hi).1
  have h1 := List.all_eq_true.1 h i (List.mem_range.2 hlt)
  simp only [Bool.or_eq_true, beq_iff_eq, hne, false_or, List.any_eq_true, Bool.and_eq_true] at h1
  obtain ⟨e, he, hb, ho⟩ := h1
  exact ⟨e, Array.mem_toList_iff.1 he, hb, ho⟩

/-- Whatever order is picked from here on; S holds behind every operation but one that waits for all others. -/
def wpAnyL (P : Program) (ops : Array Oper) (Q : Exit → Act → World → Prop) (S : World → Prop) : Nat → Array Bool → Act → World → Prop
  | 0, listed, a, w => Region.ready .any ops listed = [] ∧ Q .normal a w
  | n + 1, listed, a, w => (Region.ready .any ops listed = [] → Q .normal a w) ∧
    ∀ i ∈ Region.ready .any ops listed, wpOp P ops Q i (fun a' w' => (lastB ops i = false → S w') ∧ wpAnyL P ops Q S n (listed.setIfInBounds i true) a' w') a w

theorem wpAny_of_L : ∀ (n : Nat) (listed : Array Bool) (a : Act) (w : World), wpAnyL P ops Q S n listed a w → wpAny P .any ops Q n listed a w
  | 0, _, _, _, h => h
  | n + 1, _, _, _, h => ⟨h.1, fun i hi => wpOp_mono (fun a' w' h' => wpAny_of_L n _ a' w' h'.2) (h.2 i hi)⟩

theorem wpAnyL_first {i : Nat} {oi : Oper} {v : Value} (hi : ops[i]? = some oi) (hsel : ∀ (j : Nat) (o : Oper) cs b, ops[j]? = some o → o.op ≠ .select cs b)
    (hQ : ∀ c a w, Q (.panic c) (a.put oi.dst v) w → Q (.panic c) a w) :
    ∀ (n : Nat) (listed : Array Bool) (a : Act) (w : World),
      (∀ j oj, ops[j]? = some oj → j ≠ i → listed.getD j true = false → (∀ e ∈ oj.after, Region.binds .any e = true → e.on ≠ i) → oi.apart ops oj = true) →
      i ∈ Region.ready .any ops listed → YieldsG P ops S oi v a → S w →
      wpAnyL P ops Q S n (listed.setIfInBounds i true) (a.put oi.dst v) w → wpAnyL P ops Q S (n + 1) listed a w := by
  intro n
  induction n with
  | zero =>
    intro listed a w _ hr hy hS H
    refine ⟨fun h => absurd hr (by rw [h]; simp), fun j hj => ?_⟩
    by_cases hji : j = i
    · subst hji; exact hy.op hi hS ⟨fun _ => hS, H⟩
    · have h1 := ready_mono hj hji
      rw [H.1] at h1
      cases h1
  | succ n ih =>
    intro listed a w hfree hr hy hS H
    refine ⟨fun h => absurd hr (by rw [h]; simp), fun j hj => ?_⟩
    by_cases hji : j = i
    · subst hji; exact hy.op hi hS ⟨fun _ => hS, H⟩
    · have h1 := H.2 j (ready_mono hj hji)
      obtain ⟨hjun, oj, hoj, hall⟩ := mem_ready.1 hj
      have h0 := (mem_ready.1 hr).1
      have hnot : ∀ e ∈ oj.after, Region.binds .any e = true → e.on ≠ i := fun e he hb heq => by
        have h2 := hall e he hb
        rw [heq] at h2
        rcases Nat.lt_or_ge i listed.size with h' | h'
        · simp [h'] at h0 h2; rw [h0] at h2; cases h2
        · simp [Array.getElem?_eq_none h'] at h2
      have h2 := wpOp_putG hoj (hfree j oj hoj hji hjun hnot) (fun cs b => hsel i oi cs b hi) (fun cs b => hsel j oj cs b hoj) hQ hy h1
      refine wpOp_mono (fun a' w' h3 => ?_) h2
      have hr' := ready_mono hr (Ne.symm hji)
      have hl : lastB ops j = false := by
        rw [Bool.eq_false_iff]
        intro h
        obtain ⟨e, he, hb, ho⟩ := lastB_spec h hoj hi (Ne.symm hji)
        exact hnot e he hb ho
      have hS' : S w' := h3.2.1 hl
      refine ⟨fun _ => hS', ih (listed.setIfInBounds j true) a' w' (fun k ok hk hki hun hno => ?_) hr' h3.1 hS' ?_⟩
      · refine hfree k ok hk hki ?_ hno
        by_cases hjk : j = k
        · subst hjk; exact hjun
        · rw [getD_set_ne true hjk] at hun; exact hun
      · rw [Array.setIfInBounds_comm _ _ hji]
        exact h3.2.2

/-- Take number i first. -/
theorem wpAnyL_take {n : Nat} {listed : Array Bool} {a : Act} {w : World} (i : Nat) {oi : Oper} {v : Value} (hi : ops[i]? = some oi)
    (hs : Region.noSelect ops = true) (hf : Region.free .any ops listed i = true) (hr : (Region.ready .any ops listed).contains i = true)
    (hQ : ∀ c a w, Q (.panic c) (a.put oi.dst v) w → Q (.panic c) a w) (hw : Region.wanted oi (yielded ops a.tmps) = true)
    (hy : ∀ w, S w → (execOp a.eval oi).run P w = .ok (.value v) w) (hS : S w)
    (h : wpAnyL P ops Q S n (listed.setIfInBounds i true) (a.put oi.dst v) w) : wpAnyL P ops Q S (n + 1) listed a w :=
  wpAnyL_first hi (Region.noSelect_spec hs) hQ n listed a w (Region.free_spec hi hf) (by simpa using hr) (.inl ⟨hw, fun w hw => .inl (hy w hw)⟩) hS h
/-- Take number i first: a call that leaves the world as it is. -/
theorem wpAnyL_call {n : Nat} {listed : Array Bool} {a : Act} {w : World} (i : Nat) {oi : Oper} {v : Value} {f : FuncId} {args : Array Value} (hi : ops[i]? = some oi)
    (hs : Region.noSelect ops = true) (hf : Region.free .any ops listed i = true) (hr : (Region.ready .any ops listed).contains i = true)
    (hQ : ∀ c a w, Q (.panic c) (a.put oi.dst v) w → Q (.panic c) a w) (hw : Region.wanted oi (yielded ops a.tmps) = true)
    (hy : ∀ w, (execOp a.eval oi).run P w = .ok (.enter f args) w) (hc : ∀ w, S w → Calls P f args w fun e w' => e = .returned v ∧ w = w') (hS : S w)
    (h : wpAnyL P ops Q S n (listed.setIfInBounds i true) (a.put oi.dst v) w) : wpAnyL P ops Q S (n + 1) listed a w :=
  wpAnyL_first hi (Region.noSelect_spec hs) hQ n listed a w (Region.free_spec hi hf) (by simpa using hr) (.inl ⟨hw, fun w hw => .inr ⟨f, args, hy w, hc w hw⟩⟩) hS h
/-- Number i, whose guard does not want it. -/
theorem wpAnyL_skip {n : Nat} {listed : Array Bool} {a : Act} {w : World} (i : Nat) {oi : Oper} (hi : ops[i]? = some oi)
    (hs : Region.noSelect ops = true) (hf : Region.free .any ops listed i = true) (hr : (Region.ready .any ops listed).contains i = true)
    (hQ : ∀ c a w, Q (.panic c) (a.put oi.dst undef) w → Q (.panic c) a w) (hw : Region.wanted oi (yielded ops a.tmps) = false) (hS : S w)
    (h : wpAnyL P ops Q S n (listed.setIfInBounds i true) (a.put oi.dst undef) w) : wpAnyL P ops Q S (n + 1) listed a w :=
  wpAnyL_first hi (Region.noSelect_spec hs) hQ n listed a w (Region.free_spec hi hf) (by simpa using hr) (.inr ⟨hw, rfl⟩) hS h
/-- One alone may come up now. -/
theorem wpAnyL_one {n : Nat} {listed : Array Bool} {a : Act} {w : World} (i : Nat) {oi : Oper} (hi : ops[i]? = some oi) (hr : Region.ready .any ops listed = [i])
    (hw : Region.wanted oi (yielded ops a.tmps) = true)
    (h : ∀ K : Act → World → Prop, RowKit.Hid (∀ a' w', S w' → (S w' → wpAnyL P ops Q S n (listed.setIfInBounds i true) a' w') → K a' w') → oi.wp P a w K Q) : wpAnyL P ops Q S (n + 1) listed a w := by
  refine ⟨(fun h0 => by rw [h0] at hr; cases hr), fun j hj => ?_⟩
  rw [hr] at hj
  obtain rfl : j = i := by simpa using hj
  unfold wpOp
  simp only [hi, hw, if_true]
  exact .inl (h _ fun _ _ h1 h2 => ⟨fun _ => h1, h2 h1⟩)
/-- The last one, which waits for all others. -/
theorem wpAnyL_last {n : Nat} {listed : Array Bool} {a : Act} {w : World} (i : Nat) {oi : Oper} (hi : ops[i]? = some oi) (hr : Region.ready .any ops listed = [i])
    (hl : lastB ops i = true) (hd : Region.ready .any ops (listed.setIfInBounds i true) = [])
    (hw : Region.wanted oi (yielded ops a.tmps) = true)
    (h : ∀ K : Act → World → Prop, RowKit.Hid (∀ a' w', Q .normal a' w' → K a' w') → oi.wp P a w K Q) : wpAnyL P ops Q S (n + 1) listed a w := by
  refine ⟨(fun h0 => by rw [h0] at hr; cases hr), fun j hj => ?_⟩
  rw [hr] at hj
  obtain rfl : j = i := by simpa using hj
  unfold wpOp
  simp only [hi, hw, if_true]
  refine .inl (h _ fun a' w' h1 => ⟨(fun h => by rw [hl] at h; cases h), ?_⟩)
  cases n with
  | zero => exact ⟨hd, h1⟩
  | succ n => exact ⟨fun _ => h1, (fun i hi => by rw [hd] at hi; cases hi)⟩
theorem wpAnyL_done {n : Nat} {listed : Array Bool} {a : Act} {w : World} (hr : Region.ready .any ops listed = []) (h : Q .normal a w) : wpAnyL P ops Q S n listed a w := by
  cases n with
  | zero => exact ⟨hr, h⟩
  | succ n => exact ⟨fun _ => h, (fun i hi => by rw [hr] at hi; cases hi)⟩
/-- The beginning. -/
theorem wp_region_L (S : World → Prop) {id : Nat} {a : Act} {w : World} (hm : P.follows .mixedOrders = true)
    (h : wpAnyL P ops Q S ops.size (Array.replicate ops.size false) a w.drew) : (Code.region id ops true).wp P Q a w :=
  wp_region_any hm (wpAny_of_L _ _ _ _ h)
theorem wp_region_L_S (S : World → Prop) {id : Nat} {a : Act} {w : World} (hm : P.follows .mixedOrders = true) (hS : S w.drew)
    (h : S w.drew → wpAnyL P ops Q S ops.size (Array.replicate ops.size false) a w.drew) : (Code.region id ops true).wp P Q a w :=
  wp_region_L S hm (h hS)
end
end Go.Proofs.YtigljnnjamdcnaaDoor

namespace Go.Proofs.YtigljnnjamdcnaaDoor
section
variable {P : Program} {ops : Array Oper} {Q : Exit → Act → World → Prop} {S : World → Prop}

def YieldsF (P : Program) (ops : Array Oper) (S : World → Prop) (o : Oper) (v : Value) (a : Act) : Prop :=
  (Region.wanted o (yielded ops a.tmps) = true ∧ ∀ w, S w → (execOp a.eval o).run P w = .ok (.value v) w ∨
    ∃ f args, (execOp a.eval o).run P w = .ok (.enter f args) w ∧ Calls P f args w fun e w' => e = .returned v ∧ S w') ∨
  (Region.wanted o (yielded ops a.tmps) = false ∧ v = undef)

theorem YieldsF.of_same {o : Oper} {v : Value} {a a' : Act} (hy : YieldsF P ops S o v a) (he : execOp a'.eval o = execOp a.eval o)
    (hw : Region.wanted o (yielded ops a'.tmps) = Region.wanted o (yielded ops a.tmps)) : YieldsF P ops S o v a' := by
  unfold YieldsF at *; rw [he, hw]; exact hy

theorem YieldsF.op {i : Nat} {o : Oper} {v : Value} {a : Act} (hi : ops[i]? = some o) (hy : YieldsF P ops S o v a)
    {K : Act → World → Prop} {w : World} (hS : S w) (h : ∀ w', S w' → K (a.put o.dst v) w') : wpOp P ops Q i K a w := by
  unfold wpOp
  rcases hy with ⟨hw, hy⟩ | ⟨hw, rfl⟩
  rotate_left
  · simp only [hi, hw, Bool.false_eq_true, if_false]; exact h w hS
  simp only [hi, hw, if_true]
  refine .inl ?_
  unfold Oper.wp
  rcases hy w hS with hv | ⟨f, args, hv, hc⟩
  · rw [hv]; exact h w hS
  · rw [hv]
    refine Calls.mono hc ?_
    rintro e w' ⟨rfl, hS'⟩
    exact h w' hS'

theorem wpOp_putF {j : Nat} {oi oj : Oper} {v : Value} (hj : ops[j]? = some oj) (hap : oi.apart ops oj = true)
    (hsi : ∀ cs b, oi.op ≠ .select cs b) (hsj : ∀ cs b, oj.op ≠ .select cs b)
    (hQ : ∀ c a w, Q (.panic c) (a.put oi.dst v) w → Q (.panic c) a w) {K : Act → World → Prop} {a : Act} {w : World}
    (hy : YieldsF P ops S oi v a) (h : wpOp P ops Q j K (a.put oi.dst v) w) :
    wpOp P ops Q j (fun a' w' => YieldsF P ops S oi v a' ∧ K (a'.put oi.dst v) w') a w := by
  obtain ⟨h1, h2, h3⟩ := Oper.apart_spec hap
  have keep : ∀ (b : Act), YieldsF P ops S oi v b → ∀ u, YieldsF P ops S oi v (b.put oj.dst u) := fun b hb u =>
    hb.of_same (execOp_put oi hsi b oj.dst u h3) (wanted_put oi b oj.dst u h3)
  unfold wpOp at *
  simp only [hj] at *
  rw [wanted_put oj a oi.dst v h1] at h
  by_cases hw : Region.wanted oj (yielded ops a.tmps) = true
  · rw [if_pos hw] at h ⊢
    rcases h with h | ⟨hasks, hl⟩
    · refine .inl ?_
      unfold Oper.wp at *
      rw [execOp_put oj hsj a oi.dst v h1] at h
      cases hr : (execOp a.eval oj).run P w with
      | ok n w' =>
        rw [hr] at h
        cases n with
        | value u => exact ⟨keep a hy u, by rw [← Act.put_comm a v u h2]; exact h⟩
        | skip => exact ⟨keep a hy _, by rw [← Act.put_comm a v undef h2]; exact h⟩
        | defer d =>
          refine ⟨keep { a with defers := d :: a.defers } (hy.of_same rfl rfl) _, ?_⟩
          rw [← Act.put_comm _ v undef h2, ← Act.put_defers]; exact h
        | enter f args =>
          refine Calls.mono h fun e w'' he => ?_
          cases e with
          | returned u => exact ⟨keep a hy u, by rw [← Act.put_comm a v u h2]; exact he⟩
          | panicked c => exact hQ _ _ _ he
          | outgrown => exact he
        | row r args => exact Rows.mono h fun u w'' he => ⟨keep a hy u, by rw [← Act.put_comm a v u h2]; exact he⟩
        | _ => exact h
      | halt x w' =>
        rw [hr] at h
        cases x with
        | panic u => exact hQ _ _ _ h
        | _ => exact h
    · exact .inr ⟨by unfold Oper.asks at *; rw [execOp_put oj hsj a oi.dst v h1] at hasks; exact hasks, hl⟩
  · rw [if_neg hw] at h ⊢
    exact ⟨keep a hy _, by rw [← Act.put_comm a v undef h2]; exact h⟩

/-- Whatever order is picked from here on, from every world that meets S. -/
def wpAnyF (P : Program) (ops : Array Oper) (Q : Exit → Act → World → Prop) (S : World → Prop) : Nat → Array Bool → Act → Prop
  | 0, listed, a => Region.ready .any ops listed = [] ∧ ∀ w, S w → Q .normal a w
  | n + 1, listed, a => (Region.ready .any ops listed = [] → ∀ w, S w → Q .normal a w) ∧
    ∀ i ∈ Region.ready .any ops listed, ∀ w, S w → wpOp P ops Q i (fun a' w' => S w' ∧ wpAnyF P ops Q S n (listed.setIfInBounds i true) a') a w

theorem wpAny_of_F : ∀ (n : Nat) (listed : Array Bool) (a : Act), wpAnyF P ops Q S n listed a → ∀ w, S w → wpAny P .any ops Q n listed a w
  | 0, _, _, h, w, hS => ⟨h.1, h.2 w hS⟩
  | n + 1, _, _, h, w, hS => ⟨fun hr => h.1 hr w hS, fun i hi => wpOp_mono (fun a' w' h' => wpAny_of_F n _ a' h'.2 w' h'.1) (h.2 i hi w hS)⟩

theorem wpAnyF_first {i : Nat} {oi : Oper} {v : Value} (hi : ops[i]? = some oi) (hsel : ∀ (j : Nat) (o : Oper) cs b, ops[j]? = some o → o.op ≠ .select cs b)
    (hQ : ∀ c a w, Q (.panic c) (a.put oi.dst v) w → Q (.panic c) a w) :
    ∀ (n : Nat) (listed : Array Bool) (a : Act),
      (∀ j oj, ops[j]? = some oj → j ≠ i → listed.getD j true = false → (∀ e ∈ oj.after, Region.binds .any e = true → e.on ≠ i) → oi.apart ops oj = true) →
      i ∈ Region.ready .any ops listed → YieldsF P ops S oi v a →
      wpAnyF P ops Q S n (listed.setIfInBounds i true) (a.put oi.dst v) → wpAnyF P ops Q S (n + 1) listed a := by
  intro n
  induction n with
  | zero =>
    intro listed a _ hr hy H
    refine ⟨fun h => absurd hr (by rw [h]; simp), fun j hj w hS => ?_⟩
    by_cases hji : j = i
    · subst hji; exact hy.op hi hS fun w' hS' => ⟨hS', H⟩
    · have h1 := ready_mono hj hji
      rw [H.1] at h1
      cases h1
  | succ n ih =>
    intro listed a hfree hr hy H
    refine ⟨fun h => absurd hr (by rw [h]; simp), fun j hj w hS => ?_⟩
    by_cases hji : j = i
    · subst hji; exact hy.op hi hS fun w' hS' => ⟨hS', H⟩
    · have h1 := H.2 j (ready_mono hj hji) w hS
      obtain ⟨hjun, oj, hoj, hall⟩ := mem_ready.1 hj
      have h0 := (mem_ready.1 hr).1
      have hnot : ∀ e ∈ oj.after, Region.binds .any e = true → e.on ≠ i := fun e he hb heq => by
        have h2 := hall e he hb
        rw [heq] at h2
        rcases Nat.lt_or_ge i listed.size with h' | h'
        · simp [h'] at h0 h2; rw [h0] at h2; cases h2
        · simp [Array.getElem?_eq_none h'] at h2
      have h2 := wpOp_putF hoj (hfree j oj hoj hji hjun hnot) (fun cs b => hsel i oi cs b hi) (fun cs b => hsel j oj cs b hoj) hQ hy h1
      refine wpOp_mono (fun a' w' h3 => ?_) h2
      have hr' := ready_mono hr (Ne.symm hji)
      refine ⟨h3.2.1, ih (listed.setIfInBounds j true) a' (fun k ok hk hki hun hno => ?_) hr' h3.1 ?_⟩
      · refine hfree k ok hk hki ?_ hno
        by_cases hjk : j = k
        · subst hjk; exact hjun
        · rw [getD_set_ne true hjk] at hun; exact hun
      · rw [Array.setIfInBounds_comm _ _ hji]
        exact h3.2.2

theorem wpAnyF_take {n : Nat} {listed : Array Bool} {a : Act} (i : Nat) {oi : Oper} {v : Value} (hi : ops[i]? = some oi)
    (hs : Region.noSelect ops = true) (hf : Region.free .any ops listed i = true) (hr : (Region.ready .any ops listed).contains i = true)
    (hQ : ∀ c a w, Q (.panic c) (a.put oi.dst v) w → Q (.panic c) a w) (hw : Region.wanted oi (yielded ops a.tmps) = true)
    (hy : ∀ w, S w → (execOp a.eval oi).run P w = .ok (.value v) w)
    (h : wpAnyF P ops Q S n (listed.setIfInBounds i true) (a.put oi.dst v)) : wpAnyF P ops Q S (n + 1) listed a :=
  wpAnyF_first hi (Region.noSelect_spec hs) hQ n listed a (Region.free_spec hi hf) (by simpa using hr) (.inl ⟨hw, fun w hw => .inl (hy w hw)⟩) h
theorem wpAnyF_call {n : Nat} {listed : Array Bool} {a : Act} (i : Nat) {oi : Oper} {v : Value} {f : FuncId} {args : Array Value} (hi : ops[i]? = some oi)
    (hs : Region.noSelect ops = true) (hf : Region.free .any ops listed i = true) (hr : (Region.ready .any ops listed).contains i = true)
    (hQ : ∀ c a w, Q (.panic c) (a.put oi.dst v) w → Q (.panic c) a w) (hw : Region.wanted oi (yielded ops a.tmps) = true)
    (hy : ∀ w, (execOp a.eval oi).run P w = .ok (.enter f args) w) (hc : ∀ w, S w → Calls P f args w fun e w' => e = .returned v ∧ S w')
    (h : wpAnyF P ops Q S n (listed.setIfInBounds i true) (a.put oi.dst v)) : wpAnyF P ops Q S (n + 1) listed a :=
  wpAnyF_first hi (Region.noSelect_spec hs) hQ n listed a (Region.free_spec hi hf) (by simpa using hr) (.inl ⟨hw, fun w hw => .inr ⟨f, args, hy w, hc w hw⟩⟩) h
theorem wpAnyF_skip {n : Nat} {listed : Array Bool} {a : Act} (i : Nat) {oi : Oper} (hi : ops[i]? = some oi)
    (hs : Region.noSelect ops = true) (hf : Region.free .any ops listed i = true) (hr : (Region.ready .any ops listed).contains i = true)
    (hQ : ∀ c a w, Q (.panic c) (a.put oi.dst undef) w → Q (.panic c) a w) (hw : Region.wanted oi (yielded ops a.tmps) = false)
    (h : wpAnyF P ops Q S n (listed.setIfInBounds i true) (a.put oi.dst undef)) : wpAnyF P ops Q S (n + 1) listed a :=
  wpAnyF_first hi (Region.noSelect_spec hs) hQ n listed a (Region.free_spec hi hf) (by simpa using hr) (.inr ⟨hw, rfl⟩) h
theorem wpAnyF_done {n : Nat} {listed : Array Bool} {a : Act} (hr : Region.ready .any ops listed = []) (h : ∀ w, S w → Q .normal a w) : wpAnyF P ops Q S n listed a := by
  cases n with
  | zero => exact ⟨hr, h⟩
  | succ n => exact ⟨fun _ => h, (fun i hi => by rw [hr] at hi; cases hi)⟩
/-- The beginning. -/
theorem wp_region_F (S : World → Prop) {id : Nat} {a : Act} {w : World} (hm : P.follows .mixedOrders = true) (hS : S w.drew)
    (h : wpAnyF P ops Q S ops.size (Array.replicate ops.size false) a) : (Code.region id ops true).wp P Q a w :=
  wp_region_any hm (wpAny_of_F _ _ _ h w.drew hS)
end
end Go.Proofs.YtigljnnjamdcnaaDoor

namespace Go.Proofs.YtigljnnjamdcnaaDoor
section
variable {P : Program} {ops : Array Oper} {Q : Exit → Act → World → Prop} {S : World → Prop}

theorem wanted_none {o : Oper} {y : Nat → Option Bool} (hg : o.guard = none) : Region.wanted o y = true := by simp [Region.wanted, hg]
theorem wanted_yes {o : Oper} {tm : Array Value} (j d : Nat) (b : Bool) (hg : o.guard = some (j, b)) (hd : ((ops[j]?).bind (·.dst)) = some d) (ht : tm[d]? = some (.bool b)) : Region.wanted o (yielded ops tm) = true := by
  simp [Region.wanted, hg, yielded, hd, ht]
theorem wanted_no {o : Oper} {tm : Array Value} (j d : Nat) (b : Bool) (hg : o.guard = some (j, !b)) (hd : ((ops[j]?).bind (·.dst)) = some d) (ht : tm[d]? = some (.bool b)) : Region.wanted o (yielded ops tm) = false := by
  simp [Region.wanted, hg, yielded, hd, ht]
theorem wanted_not {o : Oper} {tm : Array Value} (j d : Nat) (b : Bool) (hg : o.guard = some (j, b)) (hd : ((ops[j]?).bind (·.dst)) = some d) (ht : tm[d]? = some undef) : Region.wanted o (yielded ops tm) = false := by
  simp [Region.wanted, hg, yielded, hd, ht, undef]

theorem wpAnyG_take {n : Nat} {listed listed' : Array Bool} {tm tm' : Array Value} {df : List Deferred} (i d : Nat) {oi : Oper} {v : Value} (hi : ops[i]? = some oi) (hd : oi.dst = some d)
    (hs : Region.noSelect ops = true) (hf : Region.free .any ops listed i = true) (hr : (Region.ready .any ops listed).contains i = true) (hl : listed.setIfInBounds i true = listed')
    (hQ : ∀ c a w, Q (.panic c) (a.put oi.dst v) w → Q (.panic c) a w) (hw : Region.wanted oi (yielded ops tm) = true)
    (hy : ∀ w, S w → (execOp (Act.eval ⟨tm, df⟩) oi).run P w = .ok (.value v) w) (ht : tm.setIfInBounds d v = tm')
    (h : wpAnyF P ops Q S n listed' ⟨tm', df⟩) : wpAnyF P ops Q S (n + 1) listed ⟨tm, df⟩ := by
  subst hl; subst ht
  exact wpAnyF_take i hi hs hf hr (fun c a w => hQ c a w) hw hy (by rw [hd]; exact h)
theorem wpAnyG_call {n : Nat} {listed listed' : Array Bool} {tm tm' : Array Value} {df : List Deferred} (i d : Nat) {oi : Oper} {v : Value} {f : FuncId} {args : Array Value} (hi : ops[i]? = some oi) (hd : oi.dst = some d)
    (hs : Region.noSelect ops = true) (hf : Region.free .any ops listed i = true) (hr : (Region.ready .any ops listed).contains i = true) (hl : listed.setIfInBounds i true = listed')
    (hQ : ∀ c a w, Q (.panic c) (a.put oi.dst v) w → Q (.panic c) a w) (hw : Region.wanted oi (yielded ops tm) = true)
    (hy : ∀ w, (execOp (Act.eval ⟨tm, df⟩) oi).run P w = .ok (.enter f args) w) (hc : ∀ w, S w → Calls P f args w fun e w' => e = .returned v ∧ S w') (ht : tm.setIfInBounds d v = tm')
    (h : wpAnyF P ops Q S n listed' ⟨tm', df⟩) : wpAnyF P ops Q S (n + 1) listed ⟨tm, df⟩ := by
  subst hl; subst ht
  exact wpAnyF_call i hi hs hf hr (fun c a w => hQ c a w) hw hy hc (by rw [hd]; exact h)
theorem wpAnyG_skip {n : Nat} {listed listed' : Array Bool} {tm tm' : Array Value} {df : List Deferred} (i d : Nat) {oi : Oper} (hi : ops[i]? = some oi) (hd : oi.dst = some d)
    (hs : Region.noSelect ops = true) (hf : Region.free .any ops listed i = true) (hr : (Region.ready .any ops listed).contains i = true) (hl : listed.setIfInBounds i true = listed')
    (hQ : ∀ c a w, Q (.panic c) (a.put oi.dst undef) w → Q (.panic c) a w) (hw : Region.wanted oi (yielded ops tm) = false) (ht : tm.setIfInBounds d undef = tm')
    (h : wpAnyF P ops Q S n listed' ⟨tm', df⟩) : wpAnyF P ops Q S (n + 1) listed ⟨tm, df⟩ := by
  subst hl; subst ht
  exact wpAnyF_skip i hi hs hf hr (fun c a w => hQ c a w) hw (by rw [hd]; exact h)
/-- The beginning. -/
theorem wp_region_G (S : World → Prop) (n : Nat) {listed : Array Bool} {id : Nat} {a : Act} {w : World} (hm : P.follows .mixedOrders = true) (hS : S w.drew) (hn : ops.size = n) (hl : Array.replicate n false = listed)
    (h : wpAnyF P ops Q S n listed ⟨a.tmps, a.defers⟩) : (Code.region id ops true).wp P Q a w := by
  subst hn; subst hl
  exact wp_region_F S hm hS h
end
end Go.Proofs.YtigljnnjamdcnaaDoor

namespace Go.Proofs.YtigljnnjamdcnaaDoor
section
variable {P : Program} {ops : Array Oper} {Q : Exit → Act → World → Prop} {S : World → Prop} {late : List Nat}

def wpAnyM (P : Program) (ops : Array Oper) (Q : Exit → Act → World → Prop) (S : World → Prop) (late : List Nat) : Nat → Array Bool → Act → World → Prop
  | 0, listed, a, w => Region.ready .any ops listed = [] ∧ Q .normal a w
  | n + 1, listed, a, w => (Region.ready .any ops listed = [] → Q .normal a w) ∧
    ∀ i ∈ Region.ready .any ops listed, wpOp P ops Q i (fun a' w' => (late.contains i = false → S w') ∧ wpAnyM P ops Q S late n (listed.setIfInBounds i true) a' w') a w
theorem wpAny_of_M : ∀ (n : Nat) (listed : Array Bool) (a : Act) (w : World), wpAnyM P ops Q S late n listed a w → wpAny P .any ops Q n listed a w
  | 0, _, _, _, h => h
  | n + 1, _, _, _, h => ⟨h.1, fun i hi => wpOp_mono (fun a' w' h' => wpAny_of_M n _ a' w' h'.2) (h.2 i hi)⟩
/-- Those that wait for number i: each waits for i itself, or for one that waits. -/
def waitB (ops : Array Oper) (i : Nat) (W : List Nat) : Bool :=
  W.all fun k => match ops[k]? with
    | some o => o.after.toList.any fun e => Region.binds .any e && (e.on == i || W.contains e.on)
    | none => true
def restR (ops : Array Oper) (R : List Nat) (listed : Array Bool) : List Nat := (List.range ops.size).filter fun k => !R.contains k && !listed.getD k true
theorem wait_spec {i : Nat} {W : List Nat} {listed : Array Bool} (h : waitB ops i W = true) (hi : listed.getD i true = false) (hW : ∀ k ∈ W, listed.getD k true = false) {k : Nat} (hk : k ∈ W) : k ∉ Region.ready .any ops listed := by
  intro hr
  obtain ⟨hun, o, ho, hall⟩ := mem_ready.1 hr
  have h1 := List.all_eq_true.1 h k hk
  simp only [ho, List.any_eq_true, Bool.and_eq_true, Bool.or_eq_true, beq_iff_eq] at h1
  obtain ⟨e, he, hb, hor⟩ := h1
  have h2 := hall e (Array.mem_toList_iff.1 he) hb
  have h3 : listed.getD e.on true = false := by
    rcases hor with h4 | h4
    · rw [h4]; exact hi
    · exact hW _ (by simpa using h4)
  rcases Nat.lt_or_ge e.on listed.size with h' | h'
  · simp [h'] at h2 h3; rw [h2] at h3; cases h3
  · simp [Array.getElem?_eq_none h'] at h3
/-- Those that wait for number i, themselves or through others. -/
def descB (ops : Array Oper) (i : Nat) : List Nat :=
  (List.range ops.size).foldl (fun W k => match ops[k]? with
    | some o => if o.after.toList.any fun e => Region.binds .any e && (e.on == i || W.contains e.on) then W ++ [k] else W
    | none => W) []
theorem wpAnyM_first {W : List Nat} {i : Nat} {oi : Oper} {v : Value} (hi : ops[i]? = some oi) (hsel : ∀ (j : Nat) (o : Oper) cs b, ops[j]? = some o → o.op ≠ .select cs b)
    (hQ : ∀ c a w, Q (.panic c) (a.put oi.dst v) w → Q (.panic c) a w) (hwait : waitB ops i W = true) (hlate : ∀ j, late.contains j = true → j ∈ W) :
    ∀ (n : Nat) (listed : Array Bool) (a : Act) (w : World),
      (∀ k ∈ W, listed.getD k true = false) →
      (∀ j oj, ops[j]? = some oj → j ≠ i → listed.getD j true = false → (∀ e ∈ oj.after, Region.binds .any e = true → e.on ≠ i) → oi.apart ops oj = true) →
      i ∈ Region.ready .any ops listed → YieldsG P ops S oi v a → S w →
      wpAnyM P ops Q S late n (listed.setIfInBounds i true) (a.put oi.dst v) w → wpAnyM P ops Q S late (n + 1) listed a w := by
  intro n
  induction n with
  | zero =>
    intro listed a w _ _ hr hy hS H
    refine ⟨fun h => absurd hr (by rw [h]; simp), fun j hj => ?_⟩
    by_cases hji : j = i
    · subst hji; exact hy.op hi hS ⟨fun _ => hS, H⟩
    · have h1 := ready_mono hj hji
      rw [H.1] at h1
      cases h1
  | succ n ih =>
    intro listed a w hW hfree hr hy hS H
    have h0 := (mem_ready.1 hr).1
    refine ⟨fun h => absurd hr (by rw [h]; simp), fun j hj => ?_⟩
    by_cases hji : j = i
    · subst hji; exact hy.op hi hS ⟨fun _ => hS, H⟩
    · have h1 := H.2 j (ready_mono hj hji)
      obtain ⟨hjun, oj, hoj, hall⟩ := mem_ready.1 hj
      have hnot : ∀ e ∈ oj.after, Region.binds .any e = true → e.on ≠ i := fun e he hb heq => by
        have h2 := hall e he hb
        rw [heq] at h2
        rcases Nat.lt_or_ge i listed.size with h' | h'
        · simp [h'] at h0 h2; rw [h0] at h2; cases h2
        · simp [Array.getElem?_eq_none h'] at h2
      have h2 := wpOp_putG hoj (hfree j oj hoj hji hjun hnot) (fun cs b => hsel i oi cs b hi) (fun cs b => hsel j oj cs b hoj) hQ hy h1
      refine wpOp_mono (fun a' w' h3 => ?_) h2
      have hr' := ready_mono hr (Ne.symm hji)
      have hjW : j ∉ W := fun h => absurd hj (wait_spec hwait h0 hW h)
      have hl : late.contains j = false := by
        rw [Bool.eq_false_iff]
        intro h
        exact hjW (hlate j h)
      have hS' : S w' := h3.2.1 hl
      refine ⟨fun _ => hS', ih (listed.setIfInBounds j true) a' w' (fun k hk => ?_) (fun k ok hk hki hun hno => ?_) hr' h3.1 hS' ?_⟩
      · rw [getD_set_ne true (show j ≠ k from fun e => hjW (by rw [e]; exact hk))]; exact hW k hk
      · refine hfree k ok hk hki ?_ hno
        by_cases hjk : j = k
        · subst hjk; exact hjun
        · rw [getD_set_ne true hjk] at hun; exact hun
      · rw [Array.setIfInBounds_comm _ _ hji]
        exact h3.2.2
/-- What must hold of number i for it to be taken first. -/
def takeB (ops : Array Oper) (late : List Nat) (listed : Array Bool) (i : Nat) : Bool :=
  Region.noSelect ops && Region.free .any ops listed i && (Region.ready .any ops listed).contains i && waitB ops i (descB ops i) && late.all (fun j => (descB ops i).contains j) && (descB ops i).all (fun k => !listed.getD k true)
theorem takeB_spec {listed : Array Bool} {i : Nat} (h : takeB ops late listed i = true) : Region.noSelect ops = true ∧ Region.free .any ops listed i = true ∧ (Region.ready .any ops listed).contains i = true ∧ waitB ops i (descB ops i) = true ∧ (∀ j, late.contains j = true → j ∈ descB ops i) ∧ ∀ k ∈ descB ops i, listed.getD k true = false := by
  unfold takeB at h
  simp only [Bool.and_eq_true] at h
  obtain ⟨⟨⟨⟨⟨h1, h2⟩, h3⟩, h4⟩, h5⟩, h6⟩ := h
  refine ⟨h1, h2, h3, h4, fun j hj => ?_, fun k hk => ?_⟩
  · have := List.all_eq_true.1 h5 j (by simpa using hj)
    simpa using this
  · have := List.all_eq_true.1 h6 k hk
    simpa using this
/-- Take number i first. -/
theorem wpAnyM_take {n : Nat} {listed : Array Bool} {a : Act} {w : World} (i : Nat) {oi : Oper} {v : Value} (hi : ops[i]? = some oi) (ht : takeB ops late listed i = true)
    (hQ : ∀ c a w, Q (.panic c) (a.put oi.dst v) w → Q (.panic c) a w) (hw : Region.wanted oi (yielded ops a.tmps) = true)
    (hy : ∀ w, S w → (execOp a.eval oi).run P w = .ok (.value v) w) (hS : S w)
    (h : wpAnyM P ops Q S late n (listed.setIfInBounds i true) (a.put oi.dst v) w) : wpAnyM P ops Q S late (n + 1) listed a w :=
  have ⟨h1, h2, h3, h4, h5, h6⟩ := takeB_spec ht
  wpAnyM_first hi (Region.noSelect_spec h1) hQ h4 h5 n listed a w h6 (Region.free_spec hi h2) (by simpa using h3) (.inl ⟨hw, fun w hw => .inl (hy w hw)⟩) hS h
/-- One alone may come up now. -/
theorem wpAnyM_one {n : Nat} {listed : Array Bool} {a : Act} {w : World} (i : Nat) {oi : Oper} (hi : ops[i]? = some oi) (hr : Region.ready .any ops listed = [i])
    (hw : Region.wanted oi (yielded ops a.tmps) = true)
    (h : ∀ K : Act → World → Prop, RowKit.Hid (∀ a' w', S w' → wpAnyM P ops Q S late n (listed.setIfInBounds i true) a' w' → K a' w') → oi.wp P a w K Q) : wpAnyM P ops Q S late (n + 1) listed a w := by
  refine ⟨(fun h0 => by rw [h0] at hr; cases hr), fun j hj => ?_⟩
  rw [hr] at hj
  obtain rfl : j = i := by simpa using hj
  unfold wpOp
  simp only [hi, hw, if_true]
  exact .inl (h _ fun _ _ h1 h2 => ⟨fun _ => h1, h2⟩)
/-- One alone, a late one. -/
theorem wpAnyM_late {n : Nat} {listed : Array Bool} {a : Act} {w : World} (i : Nat) {oi : Oper} (hi : ops[i]? = some oi) (hr : Region.ready .any ops listed = [i]) (hl : late.contains i = true)
    (hw : Region.wanted oi (yielded ops a.tmps) = true)
    (h : ∀ K : Act → World → Prop, RowKit.Hid (∀ a' w', wpAnyM P ops Q S late n (listed.setIfInBounds i true) a' w' → K a' w') → oi.wp P a w K Q) : wpAnyM P ops Q S late (n + 1) listed a w := by
  refine ⟨(fun h0 => by rw [h0] at hr; cases hr), fun j hj => ?_⟩
  rw [hr] at hj
  obtain rfl : j = i := by simpa using hj
  unfold wpOp
  simp only [hi, hw, if_true]
  exact .inl (h _ fun _ _ h2 => ⟨(fun h => by rw [hl] at h; cases h), h2⟩)
theorem wpAnyM_done {n : Nat} {listed : Array Bool} {a : Act} {w : World} (hr : Region.ready .any ops listed = []) (h : Q .normal a w) : wpAnyM P ops Q S late n listed a w := by
  cases n with
  | zero => exact ⟨hr, h⟩
  | succ n => exact ⟨fun _ => h, (fun i hi => by rw [hr] at hi; cases hi)⟩
/-- The beginning. -/
theorem wp_region_M (S : World → Prop) (late : List Nat) {id : Nat} {a : Act} {w : World} (hm : P.follows .mixedOrders = true) (hS : S w.drew)
    (h : S w.drew → wpAnyM P ops Q S late ops.size (Array.replicate ops.size false) a w.drew) : (Code.region id ops true).wp P Q a w :=
  wp_region_any hm (wpAny_of_M _ _ _ _ (h hS))
/-- Are all of R listed? -/
def allR (R : List Nat) (listed : Array Bool) : Bool := R.all fun i => listed.getD i false
theorem allR_set {R : List Nat} {listed : Array Bool} {i : Nat} (hi : i ∈ R) (h : listed.getD i true = false) : allR R listed = false := by
  unfold allR
  rw [List.all_eq_false]
  refine ⟨i, hi, ?_⟩
  rcases Nat.lt_or_ge i listed.size with h' | h'
  · simp [h'] at h ⊢; exact h
  · simp [Array.getElem?_eq_none h'] at h
def wpAnyR (P : Program) (ops : Array Oper) (Q : Exit → Act → World → Prop) (S : World → Prop) (late R : List Nat) : Nat → Array Bool → Act → Prop
  | 0, listed, a => allR R listed = true ∧ ∀ w, S w → wpAnyM P ops Q S late 0 listed a w
  | n + 1, listed, a => (allR R listed = true → ∀ w, S w → wpAnyM P ops Q S late (n + 1) listed a w) ∧
    (allR R listed = false → Region.ready .any ops listed ≠ [] ∧ ∀ i ∈ Region.ready .any ops listed, ∀ w, S w → wpOp P ops Q i (fun a' w' => S w' ∧ wpAnyR P ops Q S late R n (listed.setIfInBounds i true) a') a w)
theorem wpAnyM_of_R {R : List Nat} : ∀ (n : Nat) (listed : Array Bool) (a : Act), wpAnyR P ops Q S late R n listed a → ∀ w, S w → wpAnyM P ops Q S late n listed a w
  | 0, _, _, h, w, hS => h.2 w hS
  | n + 1, listed, _, h, w, hS => by
    cases hR : allR R listed with
    | true => exact h.1 hR w hS
    | false =>
      obtain ⟨h1, h2⟩ := h.2 hR
      exact ⟨fun h0 => absurd h0 h1, fun i hi => wpOp_mono (fun a' w' h' => ⟨fun _ => h'.1, wpAnyM_of_R n _ _ h'.2 w' h'.1⟩) (h2 i hi w hS)⟩
theorem wpAnyR_done {R : List Nat} {n : Nat} {listed : Array Bool} {a : Act} (hR : allR R listed = true) (h : ∀ w, S w → wpAnyM P ops Q S late n listed a w) : wpAnyR P ops Q S late R n listed a := by
  cases n with
  | zero => exact ⟨hR, h⟩
  | succ n => exact ⟨fun _ => h, fun h0 => by rw [hR] at h0; cases h0⟩
theorem wpAnyR_first {R W : List Nat} {i : Nat} {oi : Oper} {v : Value} (hi : ops[i]? = some oi) (hsel : ∀ (j : Nat) (o : Oper) cs b, ops[j]? = some o → o.op ≠ .select cs b)
    (hQ : ∀ c a w, Q (.panic c) (a.put oi.dst v) w → Q (.panic c) a w) (hiR : i ∈ R) (hwait : waitB ops i W = true) :
    ∀ (n : Nat) (listed : Array Bool) (a : Act),
      (∀ k ∈ W, listed.getD k true = false) → (∀ k, k < ops.size → listed.getD k true = false → k ∈ R ∨ k ∈ W) →
      (∀ j oj, ops[j]? = some oj → j ≠ i → listed.getD j true = false → (∀ e ∈ oj.after, Region.binds .any e = true → e.on ≠ i) → oi.apart ops oj = true) →
      i ∈ Region.ready .any ops listed → YieldsF P ops S oi v a →
      wpAnyR P ops Q S late R n (listed.setIfInBounds i true) (a.put oi.dst v) → wpAnyR P ops Q S late R (n + 1) listed a := by
  intro n
  induction n with
  | zero =>
    intro listed a hW hRW _ hr hy H
    have h0 := (mem_ready.1 hr).1
    refine ⟨(fun hall => by rw [allR_set hiR h0] at hall; cases hall), fun _ => ⟨(fun h => by rw [h] at hr; cases hr), fun j hj w hS => ?_⟩⟩
    by_cases hji : j = i
    · subst hji; exact hy.op hi hS fun w' hS' => ⟨hS', H⟩
    · obtain ⟨hjun, oj, hoj, _⟩ := mem_ready.1 hj
      rcases hRW j (Array.getElem?_eq_some_iff.1 hoj).1 hjun with hjR | hjW
      · have h1 : (listed.setIfInBounds i true).getD j true = false := by rw [getD_set_ne true (Ne.symm hji)]; exact hjun
        have h2 := allR_set hjR h1
        rw [H.1] at h2
        cases h2
      · exact absurd hj (wait_spec hwait h0 hW hjW)
  | succ n ih =>
    intro listed a hW hRW hfree hr hy H
    have h0 := (mem_ready.1 hr).1
    refine ⟨(fun hall => by rw [allR_set hiR h0] at hall; cases hall), fun _ => ⟨(fun h => by rw [h] at hr; cases hr), fun j hj w hS => ?_⟩⟩
    by_cases hji : j = i
    · subst hji; exact hy.op hi hS fun w' hS' => ⟨hS', H⟩
    · obtain ⟨hjun, oj, hoj, hall⟩ := mem_ready.1 hj
      have hjR : j ∈ R := by
        rcases hRW j (Array.getElem?_eq_some_iff.1 hoj).1 hjun with h | h
        · exact h
        · exact absurd hj (wait_spec hwait h0 hW h)
      have h1 : (listed.setIfInBounds i true).getD j true = false := by rw [getD_set_ne true (Ne.symm hji)]; exact hjun
      have h2 := (H.2 (allR_set hjR h1)).2 j (ready_mono hj hji) w hS
      have hnot : ∀ e ∈ oj.after, Region.binds .any e = true → e.on ≠ i := fun e he hb heq => by
        have h2 := hall e he hb
        rw [heq] at h2
        rcases Nat.lt_or_ge i listed.size with h' | h'
        · simp [h'] at h0 h2; rw [h0] at h2; cases h2
        · simp [Array.getElem?_eq_none h'] at h2
      have h3 := wpOp_putF hoj (hfree j oj hoj hji hjun hnot) (fun cs b => hsel i oi cs b hi) (fun cs b => hsel j oj cs b hoj) hQ hy h2
      refine wpOp_mono (fun a' w' h4 => ?_) h3
      have hr' := ready_mono hr (Ne.symm hji)
      have hjW : j ∉ W := fun h => absurd hj (wait_spec hwait h0 hW h)
      refine ⟨h4.2.1, ih (listed.setIfInBounds j true) a' (fun k hk => ?_) (fun k hk hun => ?_) (fun k ok hk hki hun hno => ?_) hr' h4.1 ?_⟩
      · rw [getD_set_ne true (show j ≠ k from fun e => hjW (by rw [e]; exact hk))]; exact hW k hk
      · by_cases hjk : j = k
        · subst hjk; exact .inl hjR
        · rw [getD_set_ne true hjk] at hun; exact hRW k hk hun
      · refine hfree k ok hk hki ?_ hno
        by_cases hjk : j = k
        · subst hjk; exact hjun
        · rw [getD_set_ne true hjk] at hun; exact hun
      · rw [Array.setIfInBounds_comm _ _ hji]
        exact h4.2.2
theorem restR_W {R : List Nat} {listed : Array Bool} : ∀ k ∈ restR ops R listed, listed.getD k true = false := by
  intro k hk
  unfold restR at hk
  rw [List.mem_filter] at hk
  simpa using (by simpa using hk.2 : _ ∧ _).2
theorem restR_all {R : List Nat} {listed : Array Bool} : ∀ k, k < ops.size → listed.getD k true = false → k ∈ R ∨ k ∈ restR ops R listed := by
  intro k hk hun
  by_cases h : k ∈ R
  · exact .inl h
  · refine .inr ?_
    unfold restR
    rw [List.mem_filter]
    exact ⟨List.mem_range.2 hk, by rw [hun]; simpa using h⟩
/-- One of the calls that may come in whatever order. -/
theorem wpAnyR_call {R : List Nat} {n : Nat} {listed : Array Bool} {a : Act} (i : Nat) {oi : Oper} {v : Value} {f : FuncId} {args : Array Value} (hi : ops[i]? = some oi)
    (hs : Region.noSelect ops = true) (hf : Region.free .any ops listed i = true) (hr : (Region.ready .any ops listed).contains i = true) (hiR : R.contains i = true) (hwait : waitB ops i (restR ops R listed) = true)
    (hQ : ∀ c a w, Q (.panic c) (a.put oi.dst v) w → Q (.panic c) a w) (hw : Region.wanted oi (yielded ops a.tmps) = true)
    (hy : ∀ w, (execOp a.eval oi).run P w = .ok (.enter f args) w) (hc : ∀ w, S w → Calls P f args w fun e w' => e = .returned v ∧ S w')
    (h : wpAnyR P ops Q S late R n (listed.setIfInBounds i true) (a.put oi.dst v)) : wpAnyR P ops Q S late R (n + 1) listed a :=
  wpAnyR_first hi (Region.noSelect_spec hs) hQ (by simpa using hiR) hwait n listed a restR_W restR_all (Region.free_spec hi hf) (by simpa using hr) (.inl ⟨hw, fun w hw => .inr ⟨f, args, hy w, hc w hw⟩⟩) h
/-- Whatever else than a normal end is shut out. -/
def onlyN (Q : Exit → Act → World → Prop) : Exit → Act → World → Prop
  | .normal, a, w => Q .normal a w
  | _, _, _ => False
theorem onlyN_mono (e : Exit) (a : Act) (w : World) (h : onlyN Q e a w) : Q e a w := by
  cases e with
  | normal => exact h
  | _ => exact h.elim
/-- The beginning, where the region never panics. -/
theorem wp_region_N (S : World → Prop) (late : List Nat) {id : Nat} {a : Act} {w : World} (hm : P.follows .mixedOrders = true) (hS : S w.drew)
    (h : S w.drew → wpAnyM P ops (onlyN Q) S late ops.size (Array.replicate ops.size false) a w.drew) : (Code.region id ops true).wp P Q a w :=
  wp_mono (wp_region_M (Q := onlyN Q) S late hm hS h) onlyN_mono
end
end Go.Proofs.YtigljnnjamdcnaaDoor
