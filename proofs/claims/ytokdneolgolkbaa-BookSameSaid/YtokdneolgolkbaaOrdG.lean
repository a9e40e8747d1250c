/-
  The steps of XOrdF once more, for wide regions: the slot that is written, and what has been taken, are handed in as numerals, so that the slots stay written out.
-/
import Derived.Test.YtokdneolgolkbaaOrdF
namespace Go.Proofs.Ytokdneolgolkbaa
section
variable {P : Program} {ops : Array Oper} {Q : Exit → Act → World → Prop} {S : World → Prop}

theorem wanted_none {o : Oper} {y : Nat → Option Bool} (hg : o.guard = none) : Region.wanted o y = true := by simp [Region.wanted, hg]
theorem wanted_yes {o : Oper} {tm : Array Value} (j d : Nat) (b : Bool) (hg : o.guard = some (j, b)) (hd : ((ops[j]?).bind (·.dst)) = some d) (ht : tm[d]? = some (.bool b)) : Region.wanted o (yielded ops tm) = true := by
  simp [Region.wanted, hg, yielded, hd, ht]
theorem wanted_no {o : Oper} {tm : Array Value} (j d : Nat) (b : Bool) (hg : o.guard = some (j, !b)) (hd : ((ops[j]?).bind (·.dst)) = some d) (ht : tm[d]? = some (.bool b)) : Region.wanted o (yielded ops tm) = false := by
  simp [Region.wanted, hg, yielded, hd, ht]
theorem wanted_not {o : Oper} {tm : Array Value} (j d : Nat) (b : Bool) (hg : o.guard = some (j, b)) (hd : ((ops[j]?).bind (·.dst)) = some d) (ht : tm[d]? = some undef) : Region.wanted o (yielded ops tm) = false := by
  simp [Region.wanted, hg, yielded, hd, ht, undef]

theorem wpAnyG_take {n : Nat} {listed listed' : Array Bool} {tm tm' : Array Value} {df : List Deferred} (i d : Nat) {oi : Oper} {v : Value} (hi : ops[i]? = some oi) (hd : oi.dst = some d)
    (hs : Region.noSelect ops = true) (hf : Region.free .any ops listed i = true) (hr : (Region.ready .any ops listed).contains i = true) (hl : listed.setIfInBounds i true = listed')
    (hQ : ∀ c a w, Q (.panic c) (a.put oi.dst v) w → Q (.panic c) a w) (hw : Region.wanted oi (yielded ops tm) = true)
    (hy : ∀ w, S w → (execOp (Act.eval ⟨tm, df⟩) oi).run P w = .ok (.value v) w) (ht : tm.setIfInBounds d v = tm')
    (h : wpAnyF P ops Q S n listed' ⟨tm', df⟩) : wpAnyF P ops Q S (n + 1) listed ⟨tm, df⟩ := by
  subst hl; subst ht
  exact wpAnyF_take i hi hs hf hr (fun c a w => hQ c a w) hw hy (by rw [hd]; exact h)
theorem wpAnyG_call {n : Nat} {listed listed' : Array Bool} {tm tm' : Array Value} {df : List Deferred} (i d : Nat) {oi : Oper} {v : Value} {f : FuncId} {args : Array Value} (hi : ops[i]? = some oi) (hd : oi.dst = some d)
    (hs : Region.noSelect ops = true) (hf : Region.free .any ops listed i = true) (hr : (Region.ready .any ops listed).contains i = true) (hl : listed.setIfInBounds i true = listed')
    (hQ : ∀ c a w, Q (.panic c) (a.put oi.dst v) w → Q (.panic c) a w) (hw : Region.wanted oi (yielded ops tm) = true)
    (hy : ∀ w, (execOp (Act.eval ⟨tm, df⟩) oi).run P w = .ok (.enter f args) w) (hc : ∀ w, S w → Calls P f args w fun e w' => e = .returned v ∧ S w') (ht : tm.setIfInBounds d v = tm')
    (h : wpAnyF P ops Q S n listed' ⟨tm', df⟩) : wpAnyF P ops Q S (n + 1) listed ⟨tm, df⟩ := by
  subst hl; subst ht
  exact wpAnyF_call i hi hs hf hr (fun c a w => hQ c a w) hw hy hc (by rw [hd]; exact h)
theorem wpAnyG_skip {n : Nat} {listed listed' : Array Bool} {tm tm' : Array Value} {df : List Deferred} (i d : Nat) {oi : Oper} (hi : ops[i]? = some oi) (hd : oi.dst = some d)
    (hs : Region.noSelect ops = true) (hf : Region.free .any ops listed i = true) (hr : (Region.ready .any ops listed).contains i = true) (hl : listed.setIfInBounds i true = listed')
    (hQ : ∀ c a w, Q (.panic c) (a.put oi.dst undef) w → Q (.panic c) a w) (hw : Region.wanted oi (yielded ops tm) = false) (ht : tm.setIfInBounds d undef = tm')
    (h : wpAnyF P ops Q S n listed' ⟨tm', df⟩) : wpAnyF P ops Q S (n + 1) listed ⟨tm, df⟩ := by
  subst hl; subst ht
  exact wpAnyF_skip i hi hs hf hr (fun c a w => hQ c a w) hw (by rw [hd]; exact h)
/-- The beginning. -/
theorem wp_region_G (S : World → Prop) (n : Nat) {listed : Array Bool} {id : Nat} {a : Act} {w : World} (hm : P.follows .mixedOrders = true) (hS : S w.drew) (hn : ops.size = n) (hl : Array.replicate n false = listed)
    (h : wpAnyF P ops Q S n listed ⟨a.tmps, a.defers⟩) : (Code.region id ops true).wp P Q a w := by
  subst hn; subst hl
  exact wp_region_F S hm hS h
end
end Go.Proofs.Ytokdneolgolkbaa
