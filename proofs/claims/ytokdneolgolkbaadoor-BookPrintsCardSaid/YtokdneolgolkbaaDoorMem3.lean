/- An append onto nil: a row of the call's own, the source whatever it is. No condition. -/
import Derived.Test.YtokdneolgolkbaaDoorM06d
import Derived.Maps.AppendAt
namespace Go.Proofs.YtokdneolgolkbaaDoor
open Go.RowKit

theorem run_append_fresh {P : Program} (w : World) (t ty e : TypeId) (i : TypeInfo) (z : Value) (ht : P.underlying t = some (.slice e)) (hi : P.info? e = some i) (hz : i.zero = some z)
    (hzs : z.cells.size = i.size) (hsz : 0 < i.size) (A : Option Addr) (m c : Nat) (news : List Value) (hr : RS w i.size (.slice A m c) m news) (h1 : ∀ u ∈ news, u.oneCell' = true)
    (hm : m ≤ 1000000000) (hby : i.bytes ≤ 100) :
    ∃ v' w', (Builtin.append_ #[t, t] ty #[.slice none 0 0, .slice A m c]).run P w = .ok v' w' ∧ w'.ownsRow w.heap.size e i.size v' m news ∧ Below w.heap.size w w' := by
  obtain ⟨A', c', hv, g1, g2, g3, g4⟩ := hr
  injection hv with e1 _ e3
  subst e1; subst e3
  have hnil := World.ownsRow_nil w w.heap.size e i.size
  rcases A with _ | ad
  · have hm0 : m = 0 := by
      rcases Nat.eq_zero_or_pos m with h0 | h0
      · exact h0
      · obtain ⟨b, o, h, _⟩ := g4 h0
        cases h
    subst hm0
    obtain rfl : news = [] := List.eq_nil_of_length_eq_zero (by simpa using g3)
    refine ⟨.slice none 0 0, w, ?_, hnil, Below.refl _ _⟩
    simp [Builtin.append_, run_underlying ht, sizeOf, typeInfo, hi, Builtin.lenOf, Builtin.firstCells]
  · have hcells : ∀ j u, news[j]? = some u → w.cell? (ad.add j) = some u := by
      intro j u hu
      rcases Nat.eq_zero_or_pos m with h0 | h0
      · subst h0
        obtain rfl : news = [] := List.eq_nil_of_length_eq_zero (by simpa using g3)
        simp at hu
      · obtain ⟨b, o, h, _, hc⟩ := g4 h0
        injection h with h
        subst h
        have hadd : (⟨b, o, none⟩ : Addr).add j = ⟨b, o + j, none⟩ := by unfold Addr.add; split <;> simp_all
        rw [hadd]
        exact hc j u hu
    have hbb : (0 + m) * i.bytes ≤ 140737488355328 := by
      have := Nat.mul_le_mul (show 0 + m ≤ 1000000000 by omega) hby
      omega
    obtain ⟨v', w', hrun, h2, h3, _, h5⟩ := run_append_own_at (P := P) w w.heap.size t ty e i z i.size i.bytes ht hi hz rfl rfl hzs hsz (.slice none 0 0) 0 [] hnil ad m c news g3 hcells h1 (by simp only [maxLen]; omega) hbb (Nat.le_refl _)
    refine ⟨v', w', hrun, by simpa using h2, (Below.refl _ _).grown h3 (Nat.le_refl _) (fun k hk => by simp [Value.ownBlock] at hk)⟩
theorem wp_append_fresh {P : Program} {o : Oper} {a : Act} {K : Act → World → Prop} {Q : Exit → Act → World → Prop} (w : World) (s x : Operand) (t : TypeId)
    (ho : o.op = .call { callee := .builtin .append, args := #[s, x], argTypes := #[t, t] })
    (e : TypeId) (z : Value) (size bytes : Nat) (ht : P.underlying t = some (.slice e)) (hi : (P.info? e).map (fun i => (i.zero, i.size, i.bytes)) = some (some z, size, bytes))
    (hzs : z.cells.size = size) (hsz : 0 < size) (hby : bytes ≤ 100)
    (A : Option Addr) (m c : Nat) (news : List Value) (hs : a.eval s = .slice none 0 0) (hx : a.eval x = .slice A m c) (hr : RS w size (.slice A m c) m news) (h1 : news.all (fun u => u.oneCell') = true)
    (hm : m ≤ 1000000000)
    (h : ∀ v' w', w'.ownsRow w.heap.size e size v' m news → Below w.heap.size w w' → K (a.put o.dst v') w') : o.wp P a w K Q := by
  obtain ⟨i, hii, hz, hs1, hb1⟩ := info_parts hi
  subst hs1; subst hb1
  obtain ⟨v', w', hrun, h2, h3⟩ := run_append_fresh (P := P) w t o.type e i z ht hii hz hzs hsz A m c news hr (fun u hu => List.all_eq_true.1 h1 u hu) hm hby
  unfold Oper.wp execOp
  simp only [ho, resolve, invoke, builtin, Sem.run_bind, Sem.run_pure, Result.andThen_ok, List.map_toArray, List.map_cons, List.map_nil, hs, hx, hrun]
  exact h v' w' h2 h3
theorem wpList_append_fresh {P : Program} {ops : Array Oper} {rest : List Oper} {o : Oper} {a : Act} {Q : Exit → Act → World → Prop} (w : World) (hgd : o.guard = none) (s x : Operand) (t : TypeId)
    (ho : o.op = .call { callee := .builtin .append, args := #[s, x], argTypes := #[t, t] })
    (e : TypeId) (z : Value) (size bytes : Nat) (ht : P.underlying t = some (.slice e)) (hi : (P.info? e).map (fun i => (i.zero, i.size, i.bytes)) = some (some z, size, bytes))
    (hzs : z.cells.size = size) (hsz : 0 < size) (hby : bytes ≤ 100)
    (A : Option Addr) (m c : Nat) (news : List Value) (hs : a.eval s = .slice none 0 0) (hx : a.eval x = .slice A m c) (hr : RS w size (.slice A m c) m news) (h1 : news.all (fun u => u.oneCell') = true)
    (hm : m ≤ 1000000000)
    (h : ∀ v' w', w'.ownsRow w.heap.size e size v' m news → Below w.heap.size w w' → wpList P ops Q rest (a.put o.dst v') w') : wpList P ops Q (o :: rest) a w :=
  wpList_plain hgd fun _ hK => wp_append_fresh w s x t ho e z size bytes ht hi hzs hsz hby A m c news hs hx hr h1 hm fun v' w' h2 h3 => hK _ _ (h v' w' h2 h3)
theorem RPats.rs {w : World} {v : Value} {l : List Nat} (h : RPats w v l) : RS w 1 v l.length (l.map fun (s : Nat) => Value.int .u64 (s : Int)) := by
  unfold RPats RInts at h
  rw [List.length_map, List.map_map] at h
  exact h
theorem Blk.newAt' (w : World) (t : TypeId) (cs : List Value) {g : Nat} (hg : g = w.heap.size) : Blk (w.alloc (.cells cs.toArray t)) g t cs := by subst hg; exact Blk.new w t cs
end Go.Proofs.YtokdneolgolkbaaDoor
