/- Words for loops over an iterator: an append of one element in a round; a block known whole, behind the law's own steps. No condition. -/
import Derived.RangeFuncNested
import Derived.RangeFuncBound
import Derived.RangeFuncCalls
import Derived.RangeFuncLeaves
import Derived.OwnWalkIn
import Derived.Test.YtokdneolgolkbaaDoorMem3
namespace Go.Proofs.YtokdneolgolkbaaDoor
open Go.RowKit

theorem wpListIn_append_one {F : Fence} {n : Nat} {P : Program} {ops : Array Oper} {rest : List Oper} {o : Oper} {a : Act} {Q : Exit → Act → World → Prop} (w : World) (hgd : o.guard = none) (s x : Operand) (t : TypeId)
    (ho : o.op = .call { callee := .builtin .append, args := #[s, x], argTypes := #[t, t] })
    (base : Nat) (e : TypeId) (z : Value) (size bytes : Nat) (ht : P.underlying t = some (.slice e)) (hi : (P.info? e).map (fun i => (i.zero, i.size, i.bytes)) = some (some z, size, bytes))
    (hzs : z.cells.size = size) (hsz : 0 < size) (hby : bytes ≤ 100)
    (v : Value) (k : Nat) (xs : List Value) (hown : w.ownsRow base e size v k xs) (hs : a.eval s = v)
    (news : List Value) (c : Nat) (hx : a.eval x = .slice (some ⟨w.heap.size, 0, none⟩) 1 c) (hl : news.length = size) (h1 : news.all (fun u => u.oneCell') = true)
    (hn : k ≤ 1000000000) (hbase : base ≤ w.heap.size)
    (h : ∀ g cap w', w'.ownsRow base e size (.slice (some ⟨g, 0, none⟩) (k + 1) cap) (k + 1) (xs ++ news) → (w.alloc (.cells news.toArray e)).grownBy w' v.ownBlock →
      wpListIn F n P ops Q rest (a.put o.dst (.slice (some ⟨g, 0, none⟩) (k + 1) cap)) w') : wpListIn F n P ops Q (o :: rest) a (w.alloc (.cells news.toArray e)) := by
  obtain ⟨i, hi, hz, hs1, hb1⟩ := info_parts hi
  refine wpListIn_append_own (P := P) (w.alloc (.cells news.toArray e)) hgd s x t ho base e i z size bytes ht hi hz hs1 hb1 hzs hsz v k xs hs (hown.alloc _) ⟨w.heap.size, 0, none⟩ 1 c news hx (by omega)
    (fun j u hu => ?_) (fun u hu => List.all_eq_true.1 h1 u hu) (by simp only [maxLen]; omega) ?_ (by simp; omega) (fun v' w' h1 hg _ => ?_)
  · have hadd : (⟨w.heap.size, 0, none⟩ : Addr).add j = ⟨w.heap.size, j, none⟩ := by unfold Addr.add; split <;> simp_all
    rw [hadd, (Blk.new w e news).cell]; exact hu
  · have := Nat.mul_le_mul (show k + 1 ≤ 1000000001 by omega) hby; omega
  · obtain ⟨g, cap, rfl⟩ := ownsRow_succ h1
    exact h g cap w' h1 hg
theorem Blk.ofGrown {X Y : World} {g : Nat} {t : TypeId} {cs : List Value} {row : Option Nat} (h : Blk X g t cs) (hg : X.grownBy Y row) (hr : ∀ r, row = some r → ∃ o : Obj, X.heap[r]? = some o ∧ o.isCells = false) : Blk Y g t cs :=
  (hg.block g h.lt (fun e => by obtain ⟨o, ho, hc⟩ := hr g e.symm; unfold Blk at h; rw [h] at ho; cases ho; cases hc)).trans h
theorem Blk.ofKept {X Y : World} {g : Nat} {t : TypeId} {cs : List Value} {row : Option Nat} (h : Blk X g t cs) (hg : X.grownBy Y row) (hr : some g ≠ row) : Blk Y g t cs := (hg.block g h.lt hr).trans h
/-- A slice's own row is not a block of another type. -/
theorem Blk.not_row {W : World} {B : Nat} {t e : TypeId} {cs : List Value} (h : Blk W B t cs) (hte : t ≠ e) {base size k : Nat} {v : Value} {xs : List Value} (hr : W.ownsRow base e size v k xs) : some B ≠ v.ownBlock := by
  rcases hr.2 with ⟨rfl, _⟩ | ⟨g, cap, cur, rfl, _, hgb, _⟩
  · simp [Value.ownBlock]
  · intro e'
    obtain rfl : B = g := by simpa [Value.ownBlock] using e'
    have := (show W.heap[B]? = _ from h).symm.trans hgb
    simp at this
    exact hte this.2
theorem blk_ownF {β : Type} (B g : Nat) (t : TypeId) (cs : List Value) : OwnFrom B (fun (_ : β) W => Blk W g t cs) := fun _ _ _ _ hb hg hr => hb.ofGrown hg fun r e => (hr r e).2
/-- 'v = append(v, x, y ..)', at an operation: elements of one cell. -/
theorem wp_append_els {P : Program} {o : Oper} {a : Act} {K : Act → World → Prop} {Q : Exit → Act → World → Prop} (w : World) (s x : Operand) (t : TypeId)
    (ho : o.op = .call { callee := .builtin .append, args := #[s, x], argTypes := #[t, t] })
    (base : Nat) (e : TypeId) (z : Value) (bytes : Nat) (ht : P.underlying t = some (.slice e)) (hi : (P.info? e).map (fun i => (i.zero, i.size, i.bytes)) = some (some z, 1, bytes))
    (hzs : z.cells.size = 1) (hby : bytes ≤ 100)
    (v : Value) (n : Nat) (xs : List Value) (hown : w.ownsRow base e 1 v n xs) (hs : a.eval s = v)
    (news : List Value) (m c : Nat) (hx : a.eval x = .slice (some ⟨w.heap.size, 0, none⟩) m c) (hl : news.length = m) (hm : 0 < m) (h1 : news.all (fun u => u.oneCell') = true)
    (hn : n + m ≤ 1000000000) (hbase : base ≤ w.heap.size)
    (h : ∀ g cap w', w'.ownsRow base e 1 (.slice (some ⟨g, 0, none⟩) (n + m) cap) (n + m) (xs ++ news) → base ≤ g → g < w'.heap.size → Keep e base w w' → w.heap.size < w'.heap.size →
      K (a.put o.dst (.slice (some ⟨g, 0, none⟩) (n + m) cap)) w') :
    Oper.wp P o a (w.alloc (.cells news.toArray e)) K Q := by
  obtain ⟨i, hi, hz, hs1, hb1⟩ := info_parts hi
  refine wp_append_own (P := P) (w.alloc (.cells news.toArray e)) s x t ho base e i z 1 bytes ht hi hz hs1 hb1 hzs Nat.one_pos v n xs hs (hown.alloc _) ⟨w.heap.size, 0, none⟩ m c news hx (by omega)
    (fun j u hu => ?_) (fun u hu => List.all_eq_true.1 h1 u hu) (by simp only [maxLen]; omega) ?_ (by simp; omega) (fun v' w' ho' hg _ => ?_)
  · have hadd : (⟨w.heap.size, 0, none⟩ : Addr).add j = ⟨w.heap.size, j, none⟩ := by unfold Addr.add; split <;> simp_all
    rw [hadd, (Blk.new w e news).cell]; exact hu
  · have := Nat.mul_le_mul hn hby; omega
  · rcases ho'.2 with ⟨_, h0⟩ | ⟨g, cap, cur, rfl, hbg, hgg, r⟩
    · omega
    · exact h g cap w' ho' hbg (Array.getElem?_eq_some_iff.1 hgg).1 (Keep.of_grown hown hg) (by have := hg.size; simp at this; omega)
/-- What a loop over an iterator may have laid behind the call's end. -/
theorem below_put {n₀ : Nat} {w W : World} {D : Nat} {o o' : Obj} (h : Below n₀ w W) (hn : n₀ ≤ w.heap.size) (hD : n₀ ≤ D) (hk : W.heap[D]? = some o) : Below n₀ w (W.putObj D o') :=
  h.grown (grownBy_putObj' W D o') (by have := h.size; omega) (fun k e => by cases e; exact hD)
end Go.Proofs.YtokdneolgolkbaaDoor
