/-
  A region that draws its order, all of whose operations yield one value in every world that meets S and keep S (loads, sums, calls that make memory of their own): walked in the text's order, the world behind it any that meets S. No condition.
-/
import Derived.Test.YtokdneolgolkbaaDoorOrd
namespace Go.Proofs.YtokdneolgolkbaaDoor
section
variable {P : Program} {ops : Array Oper} {Q : Exit → Act → World → Prop} {S : World → Prop}

def YieldsF (P : Program) (ops : Array Oper) (S : World → Prop) (o : Oper) (v : Value) (a : Act) : Prop :=
  (Region.wanted o (yielded ops a.tmps) = true ∧ ∀ w, S w → (execOp a.eval o).run P w = .ok (.value v) w ∨
    ∃ f args, (execOp a.eval o).run P w = .ok (.enter f args) w ∧ Calls P f args w fun e w' => e = .returned v ∧ S w') ∨
  (Region.wanted o (yielded ops a.tmps) = false ∧ v = undef)

theorem YieldsF.of_same {o : Oper} {v : Value} {a a' : Act} (hy : YieldsF P ops S o v a) (he : execOp a'.eval o = execOp a.eval o)
    (hw : Region.wanted o (yielded ops a'.tmps) = Region.wanted o (yielded ops a.tmps)) : YieldsF P ops S o v a' := by
  unfold YieldsF at *; rw [he, hw]; exact hy

theorem YieldsF.op {i : Nat} {o : Oper} {v : Value} {a : Act} (hi : ops[i]? = some o) (hy : YieldsF P ops S o v a)
    {K : Act → World → Prop} {w : World} (hS : S w) (h : ∀ w', S w' → K (a.put o.dst v) w') : wpOp P ops Q i K a w := by
  unfold wpOp
  rcases hy with ⟨hw, hy⟩ | ⟨hw, rfl⟩
  rotate_left
  · simp only [hi, hw, Bool.false_eq_true, if_false]; exact h w hS
  simp only [hi, hw, if_true]
  refine .inl ?_
  unfold Oper.wp
  rcases hy w hS with hv | ⟨f, args, hv, hc⟩
  · rw [hv]; exact h w hS
  · rw [hv]
    refine Calls.mono hc ?_
    rintro e w' ⟨rfl, hS'⟩
    exact h w' hS'

theorem wpOp_putF {j : Nat} {oi oj : Oper} {v : Value} (hj : ops[j]? = some oj) (hap : oi.apart ops oj = true)
    (hsi : ∀ cs b, oi.op ≠ .select cs b) (hsj : ∀ cs b, oj.op ≠ .select cs b)
    (hQ : ∀ c a w, Q (.panic c) (a.put oi.dst v) w → Q (.panic c) a w) {K : Act → World → Prop} {a : Act} {w : World}
    (hy : YieldsF P ops S oi v a) (h : wpOp P ops Q j K (a.put oi.dst v) w) :
    wpOp P ops Q j (fun a' w' => YieldsF P ops S oi v a' ∧ K (a'.put oi.dst v) w') a w := by
  obtain ⟨h1, h2, h3⟩ := Oper.apart_spec hap
  have keep : ∀ (b : Act), YieldsF P ops S oi v b → ∀ u, YieldsF P ops S oi v (b.put oj.dst u) := fun b hb u =>
    hb.of_same (execOp_put oi hsi b oj.dst u h3) (wanted_put oi b oj.dst u h3)
  unfold wpOp at *
  simp only [hj] at *
  rw [wanted_put oj a oi.dst v h1] at h
  by_cases hw : Region.wanted oj (yielded ops a.tmps) = true
  · rw [if_pos hw] at h ⊢
    rcases h with h | ⟨hasks, hl⟩
    · refine .inl ?_
      unfold Oper.wp at *
      rw [execOp_put oj hsj a oi.dst v h1] at h
      cases hr : (execOp a.eval oj).run P w with
      | ok n w' =>
        rw [hr] at h
        cases n with
        | value u => exact ⟨keep a hy u, by rw [← Act.put_comm a v u h2]; exact h⟩
        | skip => exact ⟨keep a hy _, by rw [← Act.put_comm a v undef h2]; exact h⟩
        | defer d =>
          refine ⟨keep { a with defers := d :: a.defers } (hy.of_same rfl rfl) _, ?_⟩
          rw [← Act.put_comm _ v undef h2, ← Act.put_defers]; exact h
        | enter f args =>
          refine Calls.mono h fun e w'' he => ?_
          cases e with
          | returned u => exact ⟨keep a hy u, by rw [← Act.put_comm a v u h2]; exact he⟩
          | panicked c => exact hQ _ _ _ he
          | outgrown => exact he
        | row r args => exact Rows.mono h fun u w'' he => ⟨keep a hy u, by rw [← Act.put_comm a v u h2]; exact he⟩
        | _ => exact h
      | halt x w' =>
        rw [hr] at h
        cases x with
        | panic u => exact hQ _ _ _ h
        | _ => exact h
    · exact .inr ⟨by unfold Oper.asks at *; rw [execOp_put oj hsj a oi.dst v h1] at hasks; exact hasks, hl⟩
  · rw [if_neg hw] at h ⊢
    exact ⟨keep a hy _, by rw [← Act.put_comm a v undef h2]; exact h⟩

/-- Whatever order is picked from here on, from every world that meets S. -/
def wpAnyF (P : Program) (ops : Array Oper) (Q : Exit → Act → World → Prop) (S : World → Prop) : Nat → Array Bool → Act → Prop
  | 0, listed, a => Region.ready .any ops listed = [] ∧ ∀ w, S w → Q .normal a w
  | n + 1, listed, a => (Region.ready .any ops listed = [] → ∀ w, S w → Q .normal a w) ∧
    ∀ i ∈ Region.ready .any ops listed, ∀ w, S w → wpOp P ops Q i (fun a' w' => S w' ∧ wpAnyF P ops Q S n (listed.setIfInBounds i true) a') a w

theorem wpAny_of_F : ∀ (n : Nat) (listed : Array Bool) (a : Act), wpAnyF P ops Q S n listed a → ∀ w, S w → wpAny P .any ops Q n listed a w
  | 0, _, _, h, w, hS => ⟨h.1, h.2 w hS⟩
  | n + 1, _, _, h, w, hS => ⟨fun hr => h.1 hr w hS, fun i hi => wpOp_mono (fun a' w' h' => wpAny_of_F n _ a' h'.2 w' h'.1) (h.2 i hi w hS)⟩

theorem wpAnyF_first {i : Nat} {oi : Oper} {v : Value} (hi : ops[i]? = some oi) (hsel : ∀ (j : Nat) (o : Oper) cs b, ops[j]? = some o → o.op ≠ .select cs b)
    (hQ : ∀ c a w, Q (.panic c) (a.put oi.dst v) w → Q (.panic c) a w) :
    ∀ (n : Nat) (listed : Array Bool) (a : Act),
      (∀ j oj, ops[j]? = some oj → j ≠ i → listed.getD j true = false → (∀ e ∈ oj.after, Region.binds .any e = true → e.on ≠ i) → oi.apart ops oj = true) →
      i ∈ Region.ready .any ops listed → YieldsF P ops S oi v a →
      wpAnyF P ops Q S n (listed.setIfInBounds i true) (a.put oi.dst v) → wpAnyF P ops Q S (n + 1) listed a := by
  intro n
  induction n with
  | zero =>
    intro listed a _ hr hy H
    refine ⟨fun h => absurd hr (by rw [h]; simp), fun j hj w hS => ?_⟩
    by_cases hji : j = i
    · subst hji; exact hy.op hi hS fun w' hS' => ⟨hS', H⟩
    · have h1 := ready_mono hj hji
      rw [H.1] at h1
      cases h1
  | succ n ih =>
    intro listed a hfree hr hy H
    refine ⟨fun h => absurd hr (by rw [h]; simp), fun j hj w hS => ?_⟩
    by_cases hji : j = i
    · subst hji; exact hy.op hi hS fun w' hS' => ⟨hS', H⟩
    · have h1 := H.2 j (ready_mono hj hji) w hS
      obtain ⟨hjun, oj, hoj, hall⟩ := mem_ready.1 hj
      have h0 := (mem_ready.1 hr).1
      have hnot : ∀ e ∈ oj.after, Region.binds .any e = true → e.on ≠ i := fun e he hb heq => by
        have h2 := hall e he hb
        rw [heq] at h2
        rcases Nat.lt_or_ge i listed.size with h' | h'
        · simp [h'] at h0 h2; rw [h0] at h2; cases h2
        · simp [Array.getElem?_eq_none h'] at h2
      have h2 := wpOp_putF hoj (hfree j oj hoj hji hjun hnot) (fun cs b => hsel i oi cs b hi) (fun cs b => hsel j oj cs b hoj) hQ hy h1
      refine wpOp_mono (fun a' w' h3 => ?_) h2
      have hr' := ready_mono hr (Ne.symm hji)
      refine ⟨h3.2.1, ih (listed.setIfInBounds j true) a' (fun k ok hk hki hun hno => ?_) hr' h3.1 ?_⟩
      · refine hfree k ok hk hki ?_ hno
        by_cases hjk : j = k
        · subst hjk; exact hjun
        · rw [getD_set_ne true hjk] at hun; exact hun
      · rw [Array.setIfInBounds_comm _ _ hji]
        exact h3.2.2

theorem wpAnyF_take {n : Nat} {listed : Array Bool} {a : Act} (i : Nat) {oi : Oper} {v : Value} (hi : ops[i]? = some oi)
    (hs : Region.noSelect ops = true) (hf : Region.free .any ops listed i = true) (hr : (Region.ready .any ops listed).contains i = true)
    (hQ : ∀ c a w, Q (.panic c) (a.put oi.dst v) w → Q (.panic c) a w) (hw : Region.wanted oi (yielded ops a.tmps) = true)
    (hy : ∀ w, S w → (execOp a.eval oi).run P w = .ok (.value v) w)
    (h : wpAnyF P ops Q S n (listed.setIfInBounds i true) (a.put oi.dst v)) : wpAnyF P ops Q S (n + 1) listed a :=
  wpAnyF_first hi (Region.noSelect_spec hs) hQ n listed a (Region.free_spec hi hf) (by simpa using hr) (.inl ⟨hw, fun w hw => .inl (hy w hw)⟩) h
theorem wpAnyF_call {n : Nat} {listed : Array Bool} {a : Act} (i : Nat) {oi : Oper} {v : Value} {f : FuncId} {args : Array Value} (hi : ops[i]? = some oi)
    (hs : Region.noSelect ops = true) (hf : Region.free .any ops listed i = true) (hr : (Region.ready .any ops listed).contains i = true)
    (hQ : ∀ c a w, Q (.panic c) (a.put oi.dst v) w → Q (.panic c) a w) (hw : Region.wanted oi (yielded ops a.tmps) = true)
    (hy : ∀ w, (execOp a.eval oi).run P w = .ok (.enter f args) w) (hc : ∀ w, S w → Calls P f args w fun e w' => e = .returned v ∧ S w')
    (h : wpAnyF P ops Q S n (listed.setIfInBounds i true) (a.put oi.dst v)) : wpAnyF P ops Q S (n + 1) listed a :=
  wpAnyF_first hi (Region.noSelect_spec hs) hQ n listed a (Region.free_spec hi hf) (by simpa using hr) (.inl ⟨hw, fun w hw => .inr ⟨f, args, hy w, hc w hw⟩⟩) h
theorem wpAnyF_skip {n : Nat} {listed : Array Bool} {a : Act} (i : Nat) {oi : Oper} (hi : ops[i]? = some oi)
    (hs : Region.noSelect ops = true) (hf : Region.free .any ops listed i = true) (hr : (Region.ready .any ops listed).contains i = true)
    (hQ : ∀ c a w, Q (.panic c) (a.put oi.dst undef) w → Q (.panic c) a w) (hw : Region.wanted oi (yielded ops a.tmps) = false)
    (h : wpAnyF P ops Q S n (listed.setIfInBounds i true) (a.put oi.dst undef)) : wpAnyF P ops Q S (n + 1) listed a :=
  wpAnyF_first hi (Region.noSelect_spec hs) hQ n listed a (Region.free_spec hi hf) (by simpa using hr) (.inr ⟨hw, rfl⟩) h
theorem wpAnyF_done {n : Nat} {listed : Array Bool} {a : Act} (hr : Region.ready .any ops listed = []) (h : ∀ w, S w → Q .normal a w) : wpAnyF P ops Q S n listed a := by
  cases n with
  | zero => exact ⟨hr, h⟩
  | succ n => exact ⟨fun _ => h, (fun i hi => by rw [hr] at hi; cases hi)⟩
/-- The beginning. -/
theorem wp_region_F (S : World → Prop) {id : Nat} {a : Act} {w : World} (hm : P.follows .mixedOrders = true) (hS : S w.drew)
    (h : wpAnyF P ops Q S ops.size (Array.replicate ops.size false) a) : (Code.region id ops true).wp P Q a w :=
  wp_region_any hm (wpAny_of_F _ _ _ h w.drew hS)
end
end Go.Proofs.YtokdneolgolkbaaDoor
