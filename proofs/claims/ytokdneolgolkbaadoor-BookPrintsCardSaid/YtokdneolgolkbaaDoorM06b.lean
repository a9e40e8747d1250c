/- Instances in memory of the call's own: where they lie; a number that is written over a number. -/
import Derived.Test.YtokdneolgolkbaaDoorM06
namespace Go.Proofs.YtokdneolgolkbaaDoor
open Go.RowKit P06

theorem below_drewN {B : Nat} {a w : World} (h : Below B a w) (n : Nat) : Below B a (w.drewN n) := ⟨h.os, h.tape, h.output, h.size, h.block⟩
/-- An owned row, kept by whatever leaves the blocks that were there alone. -/
theorem own_below {w w' : World} {base : Nat} {e : TypeId} {size n : Nat} {v : Value} {xs : List Value} {B : Nat} (h : w.ownsRow base e size v n xs) (hb : Below B w w') (hB : w.heap.size ≤ B) : w'.ownsRow base e size v n xs := by
  refine ⟨h.1, ?_⟩
  rcases h.2 with h0 | ⟨g, cap, cur, rfl, hbg, hg, r⟩
  · exact .inl h0
  · refine .inr ⟨g, cap, cur, rfl, hbg, ?_, r⟩
    rw [hb.block g (Nat.lt_of_lt_of_le (Array.getElem?_eq_some_iff.1 hg).1 hB)]
    exact hg
theorem own_mono {w : World} {base base' : Nat} {e : TypeId} {size n : Nat} {v : Value} {xs : List Value} (h : w.ownsRow base e size v n xs) (hb : base' ≤ base) : w.ownsRow base' e size v n xs := by
  refine ⟨h.1, ?_⟩
  rcases h.2 with h0 | ⟨g, cap, cur, rfl, hbg, r⟩
  · exact .inl h0
  · exact .inr ⟨g, cap, cur, rfl, by omega, r⟩
/-- What an append onto a row of type e may turn: rows of that type from base on, no other block that was there. -/
structure Keep (e : TypeId) (base : Nat) (w w' : World) : Prop where
  os : w'.os = w.os
  tape : w'.tape = w.tape
  output : w'.output = w.output
  size : w.heap.size ≤ w'.heap.size
  block : ∀ k, k < w.heap.size → (k < base ∨ ∀ cs fr, w.heap[k]? ≠ some (.cells cs e fr)) → w'.heap[k]? = w.heap[k]?
theorem Keep.below {e : TypeId} {base : Nat} {w w' : World} (h : Keep e base w w') (hb : base ≤ w.heap.size) : Below base w w' :=
  ⟨h.os, h.tape, h.output, h.size, fun k hk => h.block k (by omega) (.inl hk)⟩
theorem Keep.blk {e t : TypeId} {base g : Nat} {w w' : World} {cs : List Value} (h : Keep e base w w') (hb : Blk w g t cs) (hne : t ≠ e) : Blk w' g t cs := by
  refine (h.block g hb.lt (.inr fun cs' fr he => ?_)).trans hb
  unfold Blk at hb
  rw [hb] at he
  injection he with he
  injection he with _ he _
  exact hne he
theorem Keep.own {e t : TypeId} {base lb size n : Nat} {w w' : World} {v : Value} {xs : List Value} (h : Keep e base w w') (ho : w.ownsRow lb t size v n xs) (hne : t ≠ e) : w'.ownsRow lb t size v n xs := by
  refine ⟨ho.1, ?_⟩
  rcases ho.2 with h0 | ⟨g, cap, cur, rfl, hbg, hg, r⟩
  · exact .inl h0
  · refine .inr ⟨g, cap, cur, rfl, hbg, ?_, r⟩
    rw [h.block g (Array.getElem?_eq_some_iff.1 hg).1 (.inr fun cs' fr he => ?_)]
    · exact hg
    · rw [hg] at he
      injection he with he
      injection he with _ he _
      exact hne he
theorem Keep.of_grown {e : TypeId} {base size n : Nat} {w w' : World} {v : Value} {xs : List Value} {o : Obj} (ho : w.ownsRow base e size v n xs) (hg : (w.alloc o).grownBy w' v.ownBlock) : Keep e base w w' := by
  refine ⟨hg.os, hg.tape, hg.output, by have := hg.size; simp at this; omega, fun k hk hor => ?_⟩
  rw [hg.block k (by simp; omega) (fun he => ?_), Below.heap_alloc w o k hk]
  rcases ho.2 with ⟨rfl, _⟩ | ⟨g, cap, cur, rfl, hbg, hgg, _⟩
  · simp [Value.ownBlock] at he
  · simp [Value.ownBlock] at he
    subst he
    rcases hor with h | h
    · omega
    · exact h _ _ hgg
/-- An owned row, kept by a store into another block. -/
theorem own_set {w : World} {base : Nat} {e : TypeId} {size n : Nat} {v : Value} {xs : List Value} (h : w.ownsRow base e size v n xs) {p : Addr} (hp : ∀ g, v.ownBlock = some g → g ≠ p.block) (u : Value) : (w.setCell p u).ownsRow base e size v n xs := by
  refine ⟨h.1, ?_⟩
  rcases h.2 with h0 | ⟨g, cap, cur, rfl, hbg, hg, r⟩
  · exact .inl h0
  · refine .inr ⟨g, cap, cur, rfl, hbg, ?_, r⟩
    rw [Below.heap_setCell _ _ _ _ (hp g rfl)]
    exact hg
theorem own_set' {w : World} {base : Nat} {e : TypeId} {size n k cap g : Nat} {xs : List Value} {p : Addr} {u : Value} (hp : g ≠ p.block) (h : w.ownsRow base e size (.slice (some ⟨g, 0, none⟩) k cap) n xs) : (w.setCell p u).ownsRow base e size (.slice (some ⟨g, 0, none⟩) k cap) n xs :=
  own_set h (fun g' hg' => by simp [Value.ownBlock] at hg'; subst hg'; exact hp) u
/-- What a function hands back that lies in a variable of its own: the block known whole. -/
theorem results_blk {P : Program} {fn : Func} {p : Tmp} {ty : TypeId} (h : fn.results = #[.cell p ty]) (tmps : Array Value) (w : World) (g : Nat) (t : TypeId) (cs : List Value) (d : TypeDesc)
    (hp : tmps.getD p undef = .pointer (some ⟨g, 0, none⟩)) (hg : Blk w g t cs)
    (hu : P.underlying ty = some d) (hd : (match d with | .struct _ | .array _ _ => true | _ => false) = true) (hi : (P.info? ty).map (·.size) = some cs.length) :
    (results fn tmps).run P w = .ok (.agg cs.toArray) w :=
  results_cell_row h tmps w g t cs.toArray (0, 0) d hp hg hu hd (by simpa using hi)
theorem Blk.set6 {w : World} {g : Nat} {t : TypeId} {z0 z1 z2 z3 z4 z5 a0 a1 a2 a3 a4 a5 : Value} (h : Blk w g t [z0, z1, z2, z3, z4, z5]) : Blk ((((((w.setCell ⟨g, 0, none⟩ a0).setCell ⟨g, 1, none⟩ a1).setCell ⟨g, 2, none⟩ a2).setCell ⟨g, 3, none⟩ a3).setCell ⟨g, 4, none⟩ a4).setCell ⟨g, 5, none⟩ a5) g t [a0, a1, a2, a3, a4, a5] :=
  ((((((h.set_ 0 a0).set_ 1 a1).set_ 2 a2).set_ 3 a3).set_ 4 a4).set_ 5 a5)
theorem Blk.far6 {w : World} {g g' : Nat} {t : TypeId} {cs : List Value} {a0 a1 a2 a3 a4 a5 : Value} (h : Blk w g' t cs) (hg : g' ≠ g) : Blk ((((((w.setCell ⟨g, 0, none⟩ a0).setCell ⟨g, 1, none⟩ a1).setCell ⟨g, 2, none⟩ a2).setCell ⟨g, 3, none⟩ a3).setCell ⟨g, 4, none⟩ a4).setCell ⟨g, 5, none⟩ a5) g' t cs :=
  ((((((h.far (p := ⟨g, 0, none⟩) hg a0).far (p := ⟨g, 1, none⟩) hg a1).far (p := ⟨g, 2, none⟩) hg a2).far (p := ⟨g, 3, none⟩) hg a3).far (p := ⟨g, 4, none⟩) hg a4).far (p := ⟨g, 5, none⟩) hg a5)
theorem below_set6 {B : Nat} {w0 w : World} {g : Nat} {a0 a1 a2 a3 a4 a5 : Value} (h : Below B w0 w) (hg : B ≤ g) : Below B w0 ((((((w.setCell ⟨g, 0, none⟩ a0).setCell ⟨g, 1, none⟩ a1).setCell ⟨g, 2, none⟩ a2).setCell ⟨g, 3, none⟩ a3).setCell ⟨g, 4, none⟩ a4).setCell ⟨g, 5, none⟩ a5) :=
  ((((((h.setCell (p := ⟨g, 0, none⟩) hg a0).setCell (p := ⟨g, 1, none⟩) hg a1).setCell (p := ⟨g, 2, none⟩) hg a2).setCell (p := ⟨g, 3, none⟩) hg a3).setCell (p := ⟨g, 4, none⟩) hg a4).setCell (p := ⟨g, 5, none⟩) hg a5)
theorem own_set6 {w : World} {g base : Nat} {e : TypeId} {size k : Nat} {v : Value} {xs : List Value} {a0 a1 a2 a3 a4 a5 : Value} (h : w.ownsRow base e size v k xs) (hg : ∀ g', v.ownBlock = some g' → g' ≠ g) : ((((((w.setCell ⟨g, 0, none⟩ a0).setCell ⟨g, 1, none⟩ a1).setCell ⟨g, 2, none⟩ a2).setCell ⟨g, 3, none⟩ a3).setCell ⟨g, 4, none⟩ a4).setCell ⟨g, 5, none⟩ a5).ownsRow base e size v k xs :=
  (own_set (own_set (own_set (own_set (own_set (own_set h (p := ⟨g, 0, none⟩) hg a0) (p := ⟨g, 1, none⟩) hg a1) (p := ⟨g, 2, none⟩) hg a2) (p := ⟨g, 3, none⟩) hg a3) (p := ⟨g, 4, none⟩) hg a4) (p := ⟨g, 5, none⟩) hg a5)
theorem Blk.set8 {w : World} {g : Nat} {t : TypeId} {z0 z1 z2 z3 z4 z5 z6 z7 a0 a1 a2 a3 a4 a5 a6 a7 : Value} (h : Blk w g t [z0, z1, z2, z3, z4, z5, z6, z7]) : Blk ((((((((w.setCell ⟨g, 0, none⟩ a0).setCell ⟨g, 1, none⟩ a1).setCell ⟨g, 2, none⟩ a2).setCell ⟨g, 3, none⟩ a3).setCell ⟨g, 4, none⟩ a4).setCell ⟨g, 5, none⟩ a5).setCell ⟨g, 6, none⟩ a6).setCell ⟨g, 7, none⟩ a7) g t [a0, a1, a2, a3, a4, a5, a6, a7] :=
  ((((((((h.set_ 0 a0).set_ 1 a1).set_ 2 a2).set_ 3 a3).set_ 4 a4).set_ 5 a5).set_ 6 a6).set_ 7 a7)
theorem Blk.far8 {w : World} {g g' : Nat} {t : TypeId} {cs : List Value} {a0 a1 a2 a3 a4 a5 a6 a7 : Value} (h : Blk w g' t cs) (hg : g' ≠ g) : Blk ((((((((w.setCell ⟨g, 0, none⟩ a0).setCell ⟨g, 1, none⟩ a1).setCell ⟨g, 2, none⟩ a2).setCell ⟨g, 3, none⟩ a3).setCell ⟨g, 4, none⟩ a4).setCell ⟨g, 5, none⟩ a5).setCell ⟨g, 6, none⟩ a6).setCell ⟨g, 7, none⟩ a7) g' t cs :=
  ((((((((h.far (p := ⟨g, 0, none⟩) hg a0).far (p := ⟨g, 1, none⟩) hg a1).far (p := ⟨g, 2, none⟩) hg a2).far (p := ⟨g, 3, none⟩) hg a3).far (p := ⟨g, 4, none⟩) hg a4).far (p := ⟨g, 5, none⟩) hg a5).far (p := ⟨g, 6, none⟩) hg a6).far (p := ⟨g, 7, none⟩) hg a7)
theorem below_set8 {B : Nat} {w0 w : World} {g : Nat} {a0 a1 a2 a3 a4 a5 a6 a7 : Value} (h : Below B w0 w) (hg : B ≤ g) : Below B w0 ((((((((w.setCell ⟨g, 0, none⟩ a0).setCell ⟨g, 1, none⟩ a1).setCell ⟨g, 2, none⟩ a2).setCell ⟨g, 3, none⟩ a3).setCell ⟨g, 4, none⟩ a4).setCell ⟨g, 5, none⟩ a5).setCell ⟨g, 6, none⟩ a6).setCell ⟨g, 7, none⟩ a7) :=
  ((((((((h.setCell (p := ⟨g, 0, none⟩) hg a0).setCell (p := ⟨g, 1, none⟩) hg a1).setCell (p := ⟨g, 2, none⟩) hg a2).setCell (p := ⟨g, 3, none⟩) hg a3).setCell (p := ⟨g, 4, none⟩) hg a4).setCell (p := ⟨g, 5, none⟩) hg a5).setCell (p := ⟨g, 6, none⟩) hg a6).setCell (p := ⟨g, 7, none⟩) hg a7)
theorem own_set8 {w : World} {g base : Nat} {e : TypeId} {size k : Nat} {v : Value} {xs : List Value} {a0 a1 a2 a3 a4 a5 a6 a7 : Value} (h : w.ownsRow base e size v k xs) (hg : ∀ g', v.ownBlock = some g' → g' ≠ g) : ((((((((w.setCell ⟨g, 0, none⟩ a0).setCell ⟨g, 1, none⟩ a1).setCell ⟨g, 2, none⟩ a2).setCell ⟨g, 3, none⟩ a3).setCell ⟨g, 4, none⟩ a4).setCell ⟨g, 5, none⟩ a5).setCell ⟨g, 6, none⟩ a6).setCell ⟨g, 7, none⟩ a7).ownsRow base e size v k xs :=
  (own_set (own_set (own_set (own_set (own_set (own_set (own_set (own_set h (p := ⟨g, 0, none⟩) hg a0) (p := ⟨g, 1, none⟩) hg a1) (p := ⟨g, 2, none⟩) hg a2) (p := ⟨g, 3, none⟩) hg a3) (p := ⟨g, 4, none⟩) hg a4) (p := ⟨g, 5, none⟩) hg a5) (p := ⟨g, 6, none⟩) hg a6) (p := ⟨g, 7, none⟩) hg a7)
/-- 'v = append(v, x)', one element, at an operation. -/
theorem wp_append_one {P : Program} {o : Oper} {a : Act} {K : Act → World → Prop} {Q : Exit → Act → World → Prop} (w : World) (s x : Operand) (t : TypeId)
    (ho : o.op = .call { callee := .builtin .append, args := #[s, x], argTypes := #[t, t] })
    (base : Nat) (e : TypeId) (z : Value) (size bytes : Nat) (ht : P.underlying t = some (.slice e)) (hi : (P.info? e).map (fun i => (i.zero, i.size, i.bytes)) = some (some z, size, bytes))
    (hzs : z.cells.size = size) (hsz : 0 < size) (hby : bytes ≤ 100)
    (v : Value) (n : Nat) (xs : List Value) (hown : w.ownsRow base e size v n xs) (hs : a.eval s = v)
    (news : List Value) (c : Nat) (hx : a.eval x = .slice (some ⟨w.heap.size, 0, none⟩) 1 c) (hl : news.length = size) (h1 : news.all (fun u => u.oneCell') = true)
    (hn : n ≤ 1000000000) (hbase : base ≤ w.heap.size)
    (h : ∀ g cap w', w'.ownsRow base e size (.slice (some ⟨g, 0, none⟩) (n + 1) cap) (n + 1) (xs ++ news) → base ≤ g → g < w'.heap.size → Keep e base w w' → w.heap.size < w'.heap.size →
      K (a.put o.dst (.slice (some ⟨g, 0, none⟩) (n + 1) cap)) w') :
    Oper.wp P o a (w.alloc (.cells news.toArray e)) K Q := by
  obtain ⟨i, hi, hz, hs1, hb1⟩ := info_parts hi
  refine wp_append_own (P := P) (w.alloc (.cells news.toArray e)) s x t ho base e i z size bytes ht hi hz hs1 hb1 hzs hsz v n xs hs (hown.alloc _) ⟨w.heap.size, 0, none⟩ 1 c news hx (by omega)
    (fun j u hu => ?_) (fun u hu => List.all_eq_true.1 h1 u hu) (by simp only [maxLen]; omega) ?_ (by simp; omega) (fun v' w' ho' hg _ => ?_)
  · have hadd : (⟨w.heap.size, 0, none⟩ : Addr).add j = ⟨w.heap.size, j, none⟩ := by unfold Addr.add; split <;> simp_all
    rw [hadd, (Blk.new w e news).cell]; exact hu
  · have := Nat.mul_le_mul (show n + 1 ≤ 1000000001 by omega) hby; omega
  · rcases ho'.2 with ⟨_, h0⟩ | ⟨g, cap, cur, rfl, hbg, hgg, r⟩
    · omega
    · exact h g cap w' ho' hbg (Array.getElem?_eq_some_iff.1 hgg).1 (Keep.of_grown hown hg) (by have := hg.size; simp at this; omega)
/-- 'v = append(v, x)': one element, which the walk has laid in a block of its own; the new slice written out. -/
theorem wpList_append_one' {P : Program} {ops : Array Oper} {rest : List Oper} {o : Oper} {a : Act} {Q : Exit → Act → World → Prop} (w : World) (hgd : o.guard = none) (s x : Operand) (t : TypeId)
    (ho : o.op = .call { callee := .builtin .append, args := #[s, x], argTypes := #[t, t] })
    (base : Nat) (e : TypeId) (z : Value) (size bytes : Nat) (ht : P.underlying t = some (.slice e)) (hi : (P.info? e).map (fun i => (i.zero, i.size, i.bytes)) = some (some z, size, bytes))
    (hzs : z.cells.size = size) (hsz : 0 < size) (hby : bytes ≤ 100)
    (v : Value) (n : Nat) (xs : List Value) (hown : w.ownsRow base e size v n xs) (hs : a.eval s = v)
    (news : List Value) (c : Nat) (hx : a.eval x = .slice (some ⟨w.heap.size, 0, none⟩) 1 c) (hl : news.length = size) (h1 : news.all (fun u => u.oneCell') = true)
    (hn : n ≤ 1000000000) (hbase : base ≤ w.heap.size)
    (h : ∀ g cap w', w'.ownsRow base e size (.slice (some ⟨g, 0, none⟩) (n + 1) cap) (n + 1) (xs ++ news) → base ≤ g → g < w'.heap.size → Keep e base w w' → w.heap.size < w'.heap.size →
      wpList P ops Q rest (a.put o.dst (.slice (some ⟨g, 0, none⟩) (n + 1) cap)) w') : wpList P ops Q (o :: rest) a (w.alloc (.cells news.toArray e)) := by
  exact wpList_plain hgd fun _ hK => wp_append_one w s x t ho base e z size bytes ht hi hzs hsz hby v n xs hown hs news c hx hl h1 hn hbase fun g cap w' h2 h3 h4 h5 h6 => hK _ _ (h g cap w' h2 h3 h4 h5 h6)
theorem Blk.cells8 {w : World} {g : Nat} {t : TypeId} {a0 a1 a2 a3 a4 a5 a6 a7 : Value} (h : Blk w g t [a0, a1, a2, a3, a4, a5, a6, a7]) :
    w.cell? ⟨g, 0, none⟩ = some a0 ∧ w.cell? ⟨g, 1, none⟩ = some a1 ∧ w.cell? ⟨g, 2, none⟩ = some a2 ∧ w.cell? ⟨g, 3, none⟩ = some a3 ∧ w.cell? ⟨g, 4, none⟩ = some a4 ∧ w.cell? ⟨g, 5, none⟩ = some a5 ∧ w.cell? ⟨g, 6, none⟩ = some a6 ∧ w.cell? ⟨g, 7, none⟩ = some a7 :=
  ⟨h.cell 0, h.cell 1, h.cell 2, h.cell 3, h.cell 4, h.cell 5, h.cell 6, h.cell 7⟩
theorem Blk.free8 {w : World} {g : Nat} {t : TypeId} {cs : List Value} (h : Blk w g t cs) :
    w.frozen? ⟨g, 0, none⟩ = false ∧ w.frozen? ⟨g, 1, none⟩ = false ∧ w.frozen? ⟨g, 2, none⟩ = false ∧ w.frozen? ⟨g, 3, none⟩ = false ∧ w.frozen? ⟨g, 4, none⟩ = false ∧ w.frozen? ⟨g, 5, none⟩ = false ∧ w.frozen? ⟨g, 6, none⟩ = false ∧ w.frozen? ⟨g, 7, none⟩ = false :=
  ⟨h.frozen 0, h.frozen 1, h.frozen 2, h.frozen 3, h.frozen 4, h.frozen 5, h.frozen 6, h.frozen 7⟩
theorem Blk.cells6 {w : World} {g : Nat} {t : TypeId} {a0 a1 a2 a3 a4 a5 : Value} (h : Blk w g t [a0, a1, a2, a3, a4, a5]) :
    w.cell? ⟨g, 0, none⟩ = some a0 ∧ w.cell? ⟨g, 1, none⟩ = some a1 ∧ w.cell? ⟨g, 2, none⟩ = some a2 ∧ w.cell? ⟨g, 3, none⟩ = some a3 ∧ w.cell? ⟨g, 4, none⟩ = some a4 ∧ w.cell? ⟨g, 5, none⟩ = some a5 :=
  ⟨h.cell 0, h.cell 1, h.cell 2, h.cell 3, h.cell 4, h.cell 5⟩
theorem Blk.free6 {w : World} {g : Nat} {t : TypeId} {cs : List Value} (h : Blk w g t cs) :
    w.frozen? ⟨g, 0, none⟩ = false ∧ w.frozen? ⟨g, 1, none⟩ = false ∧ w.frozen? ⟨g, 2, none⟩ = false ∧ w.frozen? ⟨g, 3, none⟩ = false ∧ w.frozen? ⟨g, 4, none⟩ = false ∧ w.frozen? ⟨g, 5, none⟩ = false :=
  ⟨h.frozen 0, h.frozen 1, h.frozen 2, h.frozen 3, h.frozen 4, h.frozen 5⟩
/-- A slice that holds something lies from block lb on. -/
def SliceFrom (lb : Nat) (v : Value) : Prop := ∀ a n c, v = .slice (some a) n c → 0 < n → lb ≤ a.block
def RCustsF (lb : Nat) (w : World) (v : Value) (L : List Cust) : Prop :=
  ∃ A c, v = .slice A L.length c ∧ L.length ≤ c ∧ c ≤ maxLen ∧
    (0 < L.length → ∃ b o, A = some ⟨b, o, none⟩ ∧ lb ≤ b ∧ b < w.heap.size ∧ ∀ i x, L[i]? = some x → ∃ pv, RPats w pv x.pats ∧ SliceFrom lb pv ∧
      w.cell? ⟨b, o + i * 8, none⟩ = some (.int .i64 x.kind) ∧ w.cell? ⟨b, o + i * 8 + 1, none⟩ = some (.int .i64 x.demand) ∧ w.cell? ⟨b, o + i * 8 + 2, none⟩ = some pv ∧
      w.cell? ⟨b, o + i * 8 + 3, none⟩ = some (.int .i64 x.rate) ∧ w.cell? ⟨b, o + i * 8 + 4, none⟩ = some (.int .i64 x.size) ∧ w.cell? ⟨b, o + i * 8 + 5, none⟩ = some (.int .i64 x.start) ∧
      w.cell? ⟨b, o + i * 8 + 6, none⟩ = some (.int .i64 x.rule) ∧ w.cell? ⟨b, o + i * 8 + 7, none⟩ = some (.int .i64 x.hold))
def RRowsF (lb : Nat) (w : World) (v : Value) (L : List (List Int)) : Prop :=
  ∃ A c, v = .slice A L.length c ∧ L.length ≤ c ∧ c ≤ maxLen ∧
    (0 < L.length → ∃ b o, A = some ⟨b, o, none⟩ ∧ lb ≤ b ∧ b < w.heap.size ∧ ∀ i r, L[i]? = some r → ∃ rv, RInts w .i64 rv r ∧ SliceFrom lb rv ∧ w.cell? ⟨b, o + i, none⟩ = some rv)
def RInstF (lb : Nat) (w : World) (v : Value) (x : Inst) : Prop :=
  ∃ cv dv, v = .agg #[.int .i64 x.days, .int .i64 x.veh, .int .i64 x.cap, .int .i64 x.len, cv, dv] ∧ RCustsF lb w cv x.custs ∧ RRowsF lb w dv x.dist

theorem RCustsF.plain {lb : Nat} {w : World} {v : Value} {L : List Cust} (h : RCustsF lb w v L) : RCusts w v L := by
  obtain ⟨A, c, hv, h1, h2, h3⟩ := h
  refine ⟨A, c, hv, h1, h2, fun hn => ?_⟩
  obtain ⟨b, o, hA, _, hb, hc⟩ := h3 hn
  refine ⟨b, o, hA, hb, fun i x hx => ?_⟩
  obtain ⟨pv, hp, _, hr⟩ := hc i x hx
  exact ⟨pv, hp, hr⟩
theorem RRowsF.plain {lb : Nat} {w : World} {v : Value} {L : List (List Int)} (h : RRowsF lb w v L) : RRows w v L := by
  obtain ⟨A, c, hv, h1, h2, h3⟩ := h
  refine ⟨A, c, hv, h1, h2, fun hn => ?_⟩
  obtain ⟨b, o, hA, _, hb, hc⟩ := h3 hn
  refine ⟨b, o, hA, hb, fun i x hx => ?_⟩
  obtain ⟨rv, hp, _, hr⟩ := hc i x hx
  exact ⟨rv, hp, hr⟩
theorem RInstF.plain {lb : Nat} {w : World} {v : Value} {x : Inst} (h : RInstF lb w v x) : RInst w v x := by
  obtain ⟨cv, dv, hv, h1, h2⟩ := h
  exact ⟨cv, dv, hv, h1.plain, h2.plain⟩
theorem RCustsF.below {lb : Nat} {w w' : World} {v : Value} {L : List Cust} {B : Nat} (h : RCustsF lb w v L) (hb : Below B w w') (hB : w.heap.size ≤ B) : RCustsF lb w' v L := by
  obtain ⟨A, c, rfl, h1, h2, h3⟩ := h
  refine ⟨A, c, rfl, h1, h2, fun hn => ?_⟩
  obtain ⟨b, o, rfl, hl, hlt, hc⟩ := h3 hn
  refine ⟨b, o, rfl, hl, Nat.lt_of_lt_of_le hlt hb.size, fun i x hx => ?_⟩
  obtain ⟨pv, hp, hf, c0, c1, c2, c3, c4, c5, c6, c7⟩ := hc i x hx
  exact ⟨pv, hp.below hb hB, hf, cell_below hb hB c0, cell_below hb hB c1, cell_below hb hB c2, cell_below hb hB c3, cell_below hb hB c4, cell_below hb hB c5, cell_below hb hB c6, cell_below hb hB c7⟩
theorem RRowsF.below {lb : Nat} {w w' : World} {v : Value} {L : List (List Int)} {B : Nat} (h : RRowsF lb w v L) (hb : Below B w w') (hB : w.heap.size ≤ B) : RRowsF lb w' v L := by
  obtain ⟨A, c, rfl, h1, h2, h3⟩ := h
  refine ⟨A, c, rfl, h1, h2, fun hn => ?_⟩
  obtain ⟨b, o, rfl, hl, hlt, hc⟩ := h3 hn
  refine ⟨b, o, rfl, hl, Nat.lt_of_lt_of_le hlt hb.size, fun i r hr => ?_⟩
  obtain ⟨rv, hrv, hf, hcell⟩ := hc i r hr
  exact ⟨rv, hrv.below hb hB, hf, cell_below hb hB hcell⟩
theorem RInstF.below {lb : Nat} {w w' : World} {v : Value} {x : Inst} {B : Nat} (h : RInstF lb w v x) (hb : Below B w w') (hB : w.heap.size ≤ B) : RInstF lb w' v x := by
  obtain ⟨cv, dv, hv, h1, h2⟩ := h
  exact ⟨cv, dv, hv, h1.below hb hB, h2.below hb hB⟩
end Go.Proofs.YtokdneolgolkbaaDoor
