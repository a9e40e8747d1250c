/-
  Memory words that all proofs of this family share: a slice that reads as a list of cells, kept over whatever leaves old blocks alone. No condition.
  Instances in memory: what a value of type api.Instance reads as.
  Instances in memory of the call's own: where they lie; a number that is written over a number.
  An append onto one of two rows of one type: where the new slice lies. No condition.
  Slices whose elements are whatever R says: read ones, and ones of the call's own. No condition.
  Lists of strings, and lists of such lists, in memory. No condition.
  Customers in a row of the call's own.
  Instances of the call's own; a number that is written over a number, wherever it lies.
  Words on worlds that grow.
  An append onto nil: a row of the call's own, the source whatever it is. No condition.
  An append of many elements onto a row of the call's own. No condition.
  Words for loops over an iterator: an append of one element in a round; a block known whole, behind the law's own steps. No condition.
-/
import Derived.WalkKit
import Derived.WalkSpells
import Derived.Deep.AppendLies
import Derived.Deep.Draws
import Derived.Lib.Hide
import Derived.Test.YtigljnnjamdcnaaDoorQB
import Derived.Maps.AppendAt
import Derived.RangeFuncNested
import Derived.RangeFuncBound
import Derived.RangeFuncCalls
import Derived.RangeFuncLeaves
import Derived.OwnWalkIn
namespace Go.Proofs.YtigljnnjamdcnaaDoor
open Go.RowKit

/-- What 'Below' gives the walk: old cells and old marks read as before. -/
theorem bcell {B : Nat} {W w1 : World} (hb : Below B W w1) : (∀ b o, b < B → w1.cell? ⟨b, o, none⟩ = W.cell? ⟨b, o, none⟩) ∧ (∀ b o, b < B → w1.frozen? ⟨b, o, none⟩ = W.frozen? ⟨b, o, none⟩) :=
  ⟨fun b o h => hb.cell (p := ⟨b, o, none⟩) h, fun b o h => hb.frozen (p := ⟨b, o, none⟩) h⟩

theorem ret_int {k : IntKind} {a b : Int} (h : a = b) : Ending.returned (.int k a) = .returned (.int k b) := by rw [h]
theorem ret_bool {a b : Bool} (h : a = b) : Ending.returned (.bool a) = .returned (.bool b) := by rw [h]

/-- A slice value that reads as the cells xs, 'size' cells an element. -/
def RS (w : World) (size : Nat) (v : Value) (n : Nat) (xs : List Value) : Prop :=
  ∃ A c, v = .slice A n c ∧ n ≤ c ∧ c ≤ maxLen ∧ xs.length = n * size ∧
    (0 < n → ∃ b o, A = some ⟨b, o, none⟩ ∧ b < w.heap.size ∧ ∀ j u, xs[j]? = some u → w.cell? ⟨b, o + j, none⟩ = some u)

theorem RS.below {w w' : World} {size n : Nat} {v : Value} {xs : List Value} {B : Nat} (h : RS w size v n xs) (hb : Below B w w') (hB : w.heap.size ≤ B) : RS w' size v n xs := by
  obtain ⟨A, c, rfl, h1, h2, h3, h4⟩ := h
  refine ⟨A, c, rfl, h1, h2, h3, fun hn => ?_⟩
  obtain ⟨b, o, rfl, hlt, hc⟩ := h4 hn
  exact ⟨b, o, rfl, Nat.lt_of_lt_of_le hlt hb.size, fun j u hu => (hb.cell (p := ⟨b, o + j, none⟩) (by show b < B; omega)).trans (hc j u hu)⟩

theorem RS.of_own {w : World} {base : Nat} {e : TypeId} {size n : Nat} {v : Value} {xs : List Value} (h : w.ownsRow base e size v n xs) : RS w size v n xs := by
  have hl := h.1
  rcases h.2 with ⟨rfl, rfl⟩ | ⟨g, cap, cur, rfl, hb, hg, hn, hm, hs, ht⟩
  · exact ⟨none, 0, rfl, Nat.le_refl _, by simp [maxLen], hl, fun h => absurd h (by omega)⟩
  · refine ⟨_, cap, rfl, hn, hm, hl, fun _ => ⟨g, 0, rfl, (Array.getElem?_eq_some_iff.1 hg).1, fun j u hu => ?_⟩⟩
    rw [Nat.zero_add, cell_of_row w g j cur e (0, 0) hg]
    rw [← ht, List.getElem?_take] at hu
    split at hu
    · simpa using hu
    · cases hu

theorem RS.none_ (w : World) (size : Nat) : RS w size (.slice none 0 0) 0 [] := ⟨none, 0, rfl, Nat.le_refl _, by simp [maxLen], by simp, fun h => absurd h (by omega)⟩

/-- A slice of integers that reads as l. -/
def RInts (w : World) (k : IntKind) (v : Value) (l : List Int) : Prop := RS w 1 v l.length (l.map (.int k))

theorem RInts.below {w w' : World} {k : IntKind} {v : Value} {l : List Int} {B : Nat} (h : RInts w k v l) (hb : Below B w w') (hB : w.heap.size ≤ B) : RInts w' k v l := RS.below h hb hB

/-- The slice's form and, under its condition, each cell. -/
theorem RInts.open_ {w : World} {k : IntKind} {v : Value} {l : List Int} (h : RInts w k v l) : ∃ A c, v = .slice A l.length c ∧ l.length ≤ c ∧ c ≤ 9223372036854775807 ∧
    ∀ i z, l[i]? = some z → ∃ b o, A = some ⟨b, o, none⟩ ∧ b < w.heap.size ∧ w.cell? ⟨b, o + i, none⟩ = some (.int k z) := by
  obtain ⟨A, c, hv, h1, h2, _, h4⟩ := h
  refine ⟨A, c, hv, h1, by simpa [maxLen] using h2, fun i z hz => ?_⟩
  obtain ⟨b, o, hA, hb, hc⟩ := h4 (by have := (List.getElem?_eq_some_iff.1 hz).1; omega)
  exact ⟨b, o, hA, hb, hc i _ (by simp [hz])⟩

theorem int_info_ {P : Program} {e : TypeId} (h : (P.info? e).map (fun i => (i.zero, i.size, i.bytes)) = some (some (.int .i64 0), 1, 8)) : ∃ i, P.info? e = some i ∧ i.zero = some (.int .i64 0) ∧ i.size = 1 ∧ i.bytes = 8 := by
  obtain ⟨i0, hi, hz0, hz1, hz2⟩ := info_parts h
  exact ⟨i0, hi, hz0, hz1, hz2⟩

theorem lt_of_some {α : Type} {l : List α} {i : Nat} {z : α} (h : l[i]? = some z) : i < l.length := (List.getElem?_eq_some_iff.1 h).1
theorem drop_some {α : Type} {l : List α} {i : Nat} {z : α} (h : l[i]? = some z) : l.drop i = z :: l.drop (i + 1) := by
  obtain ⟨hi, rfl⟩ := List.getElem?_eq_some_iff.1 h
  exact List.drop_eq_getElem_cons hi
theorem some_of_lt {α : Type} {l : List α} {i : Nat} (h : i < l.length) : ∃ z, l[i]? = some z := ⟨l[i], List.getElem?_eq_getElem h⟩

/-- A block that is known whole, as a list of cells, none frozen. -/
def Blk (w : World) (g : Nat) (t : TypeId) (cs : List Value) : Prop := w.heap[g]? = some (.cells cs.toArray t (0, 0))
theorem Blk.lt {w : World} {g : Nat} {t : TypeId} {cs : List Value} (h : Blk w g t cs) : g < w.heap.size := (Array.getElem?_eq_some_iff.1 h).1
theorem Blk.cell {w : World} {g : Nat} {t : TypeId} {cs : List Value} (h : Blk w g t cs) (i : Nat) : w.cell? ⟨g, i, none⟩ = cs[i]? := by rw [cell_of_row w g i cs.toArray t (0, 0) h]; simp
theorem Blk.frozen {w : World} {g : Nat} {t : TypeId} {cs : List Value} (h : Blk w g t cs) (i : Nat) : w.frozen? ⟨g, i, none⟩ = false := by
  unfold Blk at h; simp [World.frozen?, h]
theorem Blk.new (w : World) (t : TypeId) (cs : List Value) : Blk (w.alloc (.cells cs.toArray t)) w.heap.size t cs := heap_alloc_new w _
theorem Blk.drew {w : World} {g : Nat} {t : TypeId} {cs : List Value} (h : Blk w g t cs) : Blk w.drew g t cs := h
theorem Blk.drewN {w : World} {g : Nat} {t : TypeId} {cs : List Value} (h : Blk w g t cs) (n : Nat) : Blk (w.drewN n) g t cs := h
theorem Blk.set_ {w : World} {g : Nat} {t : TypeId} {cs : List Value} (h : Blk w g t cs) (i : Nat) (u : Value) : Blk (w.setCell ⟨g, i, none⟩ u) g t (cs.set i u) := by
  unfold Blk at h ⊢
  simp [World.setCell, Array.getElem?_modify, h]
theorem Blk.far {w : World} {g : Nat} {t : TypeId} {cs : List Value} (h : Blk w g t cs) {p : Addr} (hp : g ≠ p.block) (u : Value) : Blk (w.setCell p u) g t cs := (Below.heap_setCell w p u g hp).trans h
theorem Blk.below {w w' : World} {g : Nat} {t : TypeId} {cs : List Value} {B : Nat} (h : Blk w g t cs) (hb : Below B w w') (hg : g < B) : Blk w' g t cs := (hb.block g hg).trans h
theorem Blk.alloc {w : World} {g : Nat} {t : TypeId} {cs : List Value} (h : Blk w g t cs) (o : Obj) : Blk (w.alloc o) g t cs := (Below.heap_alloc w o g h.lt).trans h
theorem Blk.RS {w : World} {g : Nat} {t : TypeId} {cs : List Value} (h : Blk w g t cs) {size n cap : Nat} (hn : n ≤ cap) (hc : cap ≤ maxLen) (hs : n * size ≤ cs.length) : RS w size (.slice (some ⟨g, 0, none⟩) n cap) n (cs.take (n * size)) := by
  refine ⟨_, cap, rfl, hn, hc, by simp; omega, fun _ => ⟨g, 0, rfl, h.lt, fun j u hu => ?_⟩⟩
  rw [Nat.zero_add, h.cell]
  rw [List.getElem?_take] at hu
  split at hu
  · exact hu
  · cases hu

theorem Blk.RInts {w : World} {g : Nat} {t : TypeId} {k : IntKind} {l : List Int} {n cap : Nat} (h : Blk w g t (l.map (.int k))) (hl : l.length = n) (hn : n ≤ cap) (hc : cap ≤ maxLen) : RInts w k (.slice (some ⟨g, 0, none⟩) n cap) l := by
  subst hl
  have := h.RS (size := 1) hn hc (by simp)
  rwa [Nat.mul_one, List.take_of_length_le (by simp)] at this
theorem Blk.grown {w w' : World} {g : Nat} {t : TypeId} {cs : List Value} {row : Option Nat} (h : Blk w g t cs) (hb : w.grownBy w' row) (hg : some g ≠ row) : Blk w' g t cs := (hb.block g h.lt hg).trans h
/-- 'v = append(v, x)': one element, which the walk has laid in a block of its own. -/
theorem wpList_append_one {P : Program} {ops : Array Oper} {rest : List Oper} {o : Oper} {a : Act} {Q : Exit → Act → World → Prop} (w : World) (hgd : o.guard = none) (s x : Operand) (t : TypeId)
    (ho : o.op = .call { callee := .builtin .append, args := #[s, x], argTypes := #[t, t] })
    (base : Nat) (e : TypeId) (z : Value) (size bytes : Nat) (ht : P.underlying t = some (.slice e)) (hi : (P.info? e).map (fun i => (i.zero, i.size, i.bytes)) = some (some z, size, bytes))
    (hzs : z.cells.size = size) (hsz : 0 < size) (hby : bytes ≤ 100)
    (v : Value) (n : Nat) (xs : List Value) (hown : w.ownsRow base e size v n xs) (hs : a.eval s = v)
    (news : List Value) (c : Nat) (hx : a.eval x = .slice (some ⟨w.heap.size, 0, none⟩) 1 c) (hl : news.length = size) (h1 : news.all (fun u => u.oneCell') = true)
    (hn : n ≤ 1000000000) (hbase : base ≤ w.heap.size)
    (h : ∀ v' w', w'.ownsRow base e size v' (n + 1) (xs ++ news) → Below base w w' → w.heap.size < w'.heap.size → wpList P ops Q rest (a.put o.dst v') w') : wpList P ops Q (o :: rest) a (w.alloc (.cells news.toArray e)) := by
  obtain ⟨i, hi, hz, hs1, hb1⟩ := info_parts hi
  refine wpList_append_own (P := P) (w.alloc (.cells news.toArray e)) hgd s x t ho base e i z size bytes ht hi hz hs1 hb1 hzs hsz v n xs hs (hown.alloc _) ⟨w.heap.size, 0, none⟩ 1 c news hx (by omega)
    (fun j u hu => ?_) (fun u hu => List.all_eq_true.1 h1 u hu) (by simp only [maxLen]; omega) ?_ (by simp; omega) (fun v' w' h1 hg _ => h v' w' h1 ?_ ?_)
  · have hadd : (⟨w.heap.size, 0, none⟩ : Addr).add j = ⟨w.heap.size, j, none⟩ := by unfold Addr.add; split <;> simp_all
    rw [hadd, (Blk.new w e news).cell]; exact hu
  · have := Nat.mul_le_mul (show n + 1 ≤ 1000000001 by omega) hby; omega
  · exact ((Below.refl _ _).alloc hbase _).grown hg (by simp; omega) (fun k hk => (hown.lt k hk).1)
  · have := hg.size; simp at this; omega

/-- n noughts. -/
def zeros (n : Nat) : List Value := List.replicate n (.int .i64 0)
theorem zeros_len (n : Nat) : (zeros n).length = n := by simp [zeros]
theorem made_zeros (n : Nat) : madeCells (Value.int .i64 0).cells n = (zeros n).toArray := by
  apply Array.ext'
  simp [madeCells, zeros, Value.cells, Array.toList_range]
  apply List.ext_getElem
  · simp
  · intro i _ _
    simp [Nat.mod_one]
theorem fill_get {l : List Int} {n k : Nat} (hl : l.length = n) (hk : k < n) : ((l.take k).map (Value.int .i64) ++ zeros (n - k))[k]? = some (.int .i64 0) := by
  rw [List.getElem?_append_right (by simp; omega), List.length_map, List.length_take, hl, Nat.min_eq_left (by omega), Nat.sub_self, zeros, List.getElem?_replicate, if_pos (by omega)]
theorem fill_set {l : List Int} {n k : Nat} {z : Int} (hl : l.length = n) (hz : l[k]? = some z) :
    ((l.take k).map (Value.int .i64) ++ zeros (n - k)).set k (.int .i64 z) = (l.take (k + 1)).map (Value.int .i64) ++ zeros (n - (k + 1)) := by
  have hk := lt_of_some hz
  have e : n - k = (n - (k + 1)) + 1 := by omega
  rw [List.set_append_right _ _ (by simp; omega), List.length_map, List.length_take, hl, Nat.min_eq_left (by omega), Nat.sub_self, e]
  rw [List.take_add_one, hz]
  simp [zeros, List.replicate_succ]
theorem run_make_ints {P : Program} {t e : TypeId} (ht : P.underlying t = some (.slice e)) (hi : (P.info? e).map (fun i => (i.zero, i.size, i.bytes)) = some (some (.int .i64 0), 1, 8))
    (n : Nat) (z : Int) (hz : z = n) (hn : n ≤ 1000000) (w : World) :
    (Instr.makeSlice t (.int .i64 z) (.int .i64 z)).run P w = .ok (.slice (some ⟨w.heap.size, 0, none⟩) n n) (w.alloc (.cells (zeros n).toArray e)) := by
  obtain ⟨i, hi, h0, h1, h8⟩ := int_info_ hi
  subst hz
  have h := run_make (P := P) w t e i _ ht hi h0 .i64 .i64 (n : Int) (n : Int) (by omega) (by omega) (by rw [h8]; omega) (by omega)
  rw [h, Int.toNat_natCast, h1, Nat.mul_one, made_zeros]

end Go.Proofs.YtigljnnjamdcnaaDoor

namespace Go.Proofs.YtigljnnjamdcnaaDoor
open Go.RowKit P06

/-- A list of sets of days. -/
def RPats (w : World) (v : Value) (l : List Nat) : Prop := RInts w .u64 v (l.map Int.ofNat)
/-- A list of customers. -/
def RCusts (w : World) (v : Value) (L : List Cust) : Prop :=
  ∃ A c, v = .slice A L.length c ∧ L.length ≤ c ∧ c ≤ maxLen ∧
    (0 < L.length → ∃ b o, A = some ⟨b, o, none⟩ ∧ b < w.heap.size ∧ ∀ i x, L[i]? = some x → ∃ pv, RPats w pv x.pats ∧
      w.cell? ⟨b, o + i * 8, none⟩ = some (.int .i64 x.kind) ∧ w.cell? ⟨b, o + i * 8 + 1, none⟩ = some (.int .i64 x.demand) ∧ w.cell? ⟨b, o + i * 8 + 2, none⟩ = some pv ∧
      w.cell? ⟨b, o + i * 8 + 3, none⟩ = some (.int .i64 x.rate) ∧ w.cell? ⟨b, o + i * 8 + 4, none⟩ = some (.int .i64 x.size) ∧ w.cell? ⟨b, o + i * 8 + 5, none⟩ = some (.int .i64 x.start) ∧
      w.cell? ⟨b, o + i * 8 + 6, none⟩ = some (.int .i64 x.rule) ∧ w.cell? ⟨b, o + i * 8 + 7, none⟩ = some (.int .i64 x.hold))
/-- Rows of numbers. -/
def RRows (w : World) (v : Value) (L : List (List Int)) : Prop :=
  ∃ A c, v = .slice A L.length c ∧ L.length ≤ c ∧ c ≤ maxLen ∧
    (0 < L.length → ∃ b o, A = some ⟨b, o, none⟩ ∧ b < w.heap.size ∧ ∀ i r, L[i]? = some r → ∃ rv, RInts w .i64 rv r ∧ w.cell? ⟨b, o + i, none⟩ = some rv)
/-- An instance. -/
def RInst (w : World) (v : Value) (x : Inst) : Prop :=
  ∃ cv dv, v = .agg #[.int .i64 x.days, .int .i64 x.veh, .int .i64 x.cap, .int .i64 x.len, cv, dv] ∧ RCusts w cv x.custs ∧ RRows w dv x.dist

theorem RPats.open_ {w : World} {v : Value} {l : List Nat} (h : RPats w v l) : ∃ A c, v = .slice A l.length c ∧ l.length ≤ c ∧ c ≤ 9223372036854775807 ∧
    ∀ (i s : Nat), l[i]? = some s → ∃ b o, A = some ⟨b, o, none⟩ ∧ b < w.heap.size ∧ w.cell? ⟨b, o + i, none⟩ = some (.int .u64 (s : Int)) := by
  obtain ⟨A, c, hv, h1, h2, h3⟩ := RInts.open_ h
  rw [List.length_map] at hv h1
  exact ⟨A, c, hv, h1, h2, fun i s hs => h3 i _ (by rw [List.getElem?_map, hs]; rfl)⟩
theorem cell_below {w w' : World} {B b o : Nat} {v : Value} (hb : Below B w w') (hB : w.heap.size ≤ B) (h : w.cell? ⟨b, o, none⟩ = some v) : w'.cell? ⟨b, o, none⟩ = some v :=
  (hb.cell (p := ⟨b, o, none⟩) (Nat.lt_of_lt_of_le (World.block_lt_of_cell? w _ h) hB)).trans h

theorem RPats.below {w w' : World} {v : Value} {l : List Nat} {B : Nat} (h : RPats w v l) (hb : Below B w w') (hB : w.heap.size ≤ B) : RPats w' v l := RInts.below h hb hB
theorem RCusts.below {w w' : World} {v : Value} {L : List Cust} {B : Nat} (h : RCusts w v L) (hb : Below B w w') (hB : w.heap.size ≤ B) : RCusts w' v L := by
  obtain ⟨A, c, rfl, h1, h2, h3⟩ := h
  refine ⟨A, c, rfl, h1, h2, fun hn => ?_⟩
  obtain ⟨b, o, rfl, hlt, hc⟩ := h3 hn
  refine ⟨b, o, rfl, Nat.lt_of_lt_of_le hlt hb.size, fun i x hx => ?_⟩
  obtain ⟨pv, hp, c0, c1, c2, c3, c4, c5, c6, c7⟩ := hc i x hx
  exact ⟨pv, hp.below hb hB, cell_below hb hB c0, cell_below hb hB c1, cell_below hb hB c2, cell_below hb hB c3, cell_below hb hB c4, cell_below hb hB c5, cell_below hb hB c6, cell_below hb hB c7⟩
theorem RRows.below {w w' : World} {v : Value} {L : List (List Int)} {B : Nat} (h : RRows w v L) (hb : Below B w w') (hB : w.heap.size ≤ B) : RRows w' v L := by
  obtain ⟨A, c, rfl, h1, h2, h3⟩ := h
  refine ⟨A, c, rfl, h1, h2, fun hn => ?_⟩
  obtain ⟨b, o, rfl, hlt, hc⟩ := h3 hn
  refine ⟨b, o, rfl, Nat.lt_of_lt_of_le hlt hb.size, fun i r hr => ?_⟩
  obtain ⟨rv, hrv, hcell⟩ := hc i r hr
  exact ⟨rv, hrv.below hb hB, cell_below hb hB hcell⟩
theorem RInst.below {w w' : World} {v : Value} {x : Inst} {B : Nat} (h : RInst w v x) (hb : Below B w w') (hB : w.heap.size ≤ B) : RInst w' v x := by
  obtain ⟨cv, dv, hv, h1, h2⟩ := h
  exact ⟨cv, dv, hv, h1.below hb hB, h2.below hb hB⟩

end Go.Proofs.YtigljnnjamdcnaaDoor

namespace Go.Proofs.YtigljnnjamdcnaaDoor
open Go.RowKit P06

theorem below_drewN {B : Nat} {a w : World} (h : Below B a w) (n : Nat) : Below B a (w.drewN n) := ⟨h.os, h.tape, h.output, h.size, h.block⟩
/-- An owned row, kept by whatever leaves the blocks that were there alone. -/
theorem own_below {w w' : World} {base : Nat} {e : TypeId} {size n : Nat} {v : Value} {xs : List Value} {B : Nat} (h : w.ownsRow base e size v n xs) (hb : Below B w w') (hB : w.heap.size ≤ B) : w'.ownsRow base e size v n xs := by
  refine ⟨h.1, ?_⟩
  rcases h.2 with h0 | ⟨g, cap, cur, rfl, hbg, hg, r⟩
  · exact .inl h0
  · refine .inr ⟨g, cap, cur, rfl, hbg, ?_, r⟩
    rw [hb.block g (Nat.lt_of_lt_of_le (Array.getElem?_eq_some_iff.1 hg).1 hB)]
    exact hg
theorem own_mono {w : World} {base base' : Nat} {e : TypeId} {size n : Nat} {v : Value} {xs : List Value} (h : w.ownsRow base e size v n xs) (hb : base' ≤ base) : w.ownsRow base' e size v n xs := by
  refine ⟨h.1, ?_⟩
  rcases h.2 with h0 | ⟨g, cap, cur, rfl, hbg, r⟩
  · exact .inl h0
  · exact .inr ⟨g, cap, cur, rfl, by omega, r⟩
/-- What an append onto a row of type e may turn: rows of that type from base on, no other block that was there. -/
structure Keep (e : TypeId) (base : Nat) (w w' : World) : Prop where
  os : w'.os = w.os
  tape : w'.tape = w.tape
  output : w'.output = w.output
  size : w.heap.size ≤ w'.heap.size
  block : ∀ k, k < w.heap.size → (k < base ∨ ∀ cs fr, w.heap[k]? ≠ some (.cells cs e fr)) → w'.heap[k]? = w.heap[k]?
theorem Keep.below {e : TypeId} {base : Nat} {w w' : World} (h : Keep e base w w') (hb : base ≤ w.heap.size) : Below base w w' :=
  ⟨h.os, h.tape, h.output, h.size, fun k hk => h.block k (by omega) (.inl hk)⟩
theorem Keep.blk {e t : TypeId} {base g : Nat} {w w' : World} {cs : List Value} (h : Keep e base w w') (hb : Blk w g t cs) (hne : t ≠ e) : Blk w' g t cs := by
  refine (h.block g hb.lt (.inr fun cs' fr he => ?_)).trans hb
  unfold Blk at hb
  rw [hb] at he
  injection he with he
  injection he with _ he _
  exact hne he
theorem Keep.own {e t : TypeId} {base lb size n : Nat} {w w' : World} {v : Value} {xs : List Value} (h : Keep e base w w') (ho : w.ownsRow lb t size v n xs) (hne : t ≠ e) : w'.ownsRow lb t size v n xs := by
  refine ⟨ho.1, ?_⟩
  rcases ho.2 with h0 | ⟨g, cap, cur, rfl, hbg, hg, r⟩
  · exact .inl h0
  · refine .inr ⟨g, cap, cur, rfl, hbg, ?_, r⟩
    rw [h.block g (Array.getElem?_eq_some_iff.1 hg).1 (.inr fun cs' fr he => ?_)]
    · exact hg
    · rw [hg] at he
      injection he with he
      injection he with _ he _
      exact hne he
theorem Keep.of_grown {e : TypeId} {base size n : Nat} {w w' : World} {v : Value} {xs : List Value} {o : Obj} (ho : w.ownsRow base e size v n xs) (hg : (w.alloc o).grownBy w' v.ownBlock) : Keep e base w w' := by
  refine ⟨hg.os, hg.tape, hg.output, by have := hg.size; simp at this; omega, fun k hk hor => ?_⟩
  rw [hg.block k (by simp; omega) (fun he => ?_), Below.heap_alloc w o k hk]
  rcases ho.2 with ⟨rfl, _⟩ | ⟨g, cap, cur, rfl, hbg, hgg, _⟩
  · simp [Value.ownBlock] at he
  · simp [Value.ownBlock] at he
    subst he
    rcases hor with h | h
    · omega
    · exact h _ _ hgg
/-- An owned row, kept by a store into another block. -/
theorem own_set {w : World} {base : Nat} {e : TypeId} {size n : Nat} {v : Value} {xs : List Value} (h : w.ownsRow base e size v n xs) {p : Addr} (hp : ∀ g, v.ownBlock = some g → g ≠ p.block) (u : Value) : (w.setCell p u).ownsRow base e size v n xs := by
  refine ⟨h.1, ?_⟩
  rcases h.2 with h0 | ⟨g, cap, cur, rfl, hbg, hg, r⟩
  · exact .inl h0
  · refine .inr ⟨g, cap, cur, rfl, hbg, ?_, r⟩
    rw [Below.heap_setCell _ _ _ _ (hp g rfl)]
    exact hg
theorem own_set' {w : World} {base : Nat} {e : TypeId} {size n k cap g : Nat} {xs : List Value} {p : Addr} {u : Value} (hp : g ≠ p.block) (h : w.ownsRow base e size (.slice (some ⟨g, 0, none⟩) k cap) n xs) : (w.setCell p u).ownsRow base e size (.slice (some ⟨g, 0, none⟩) k cap) n xs :=
  own_set h (fun g' hg' => by simp [Value.ownBlock] at hg'; subst hg'; exact hp) u
/-- What a function hands back that lies in a variable of its own: the block known whole. -/
theorem results_blk {P : Program} {fn : Func} {p : Tmp} {ty : TypeId} (h : fn.results = #[.cell p ty]) (tmps : Array Value) (w : World) (g : Nat) (t : TypeId) (cs : List Value) (d : TypeDesc)
    (hp : tmps.getD p undef = .pointer (some ⟨g, 0, none⟩)) (hg : Blk w g t cs)
    (hu : P.underlying ty = some d) (hd : (match d with | .struct _ | .array _ _ => true | _ => false) = true) (hi : (P.info? ty).map (·.size) = some cs.length) :
    (results fn tmps).run P w = .ok (.agg cs.toArray) w :=
  results_cell_row h tmps w g t cs.toArray (0, 0) d hp hg hu hd (by simpa using hi)
theorem Blk.set6 {w : World} {g : Nat} {t : TypeId} {z0 z1 z2 z3 z4 z5 a0 a1 a2 a3 a4 a5 : Value} (h : Blk w g t [z0, z1, z2, z3, z4, z5]) : Blk ((((((w.setCell ⟨g, 0, none⟩ a0).setCell ⟨g, 1, none⟩ a1).setCell ⟨g, 2, none⟩ a2).setCell ⟨g, 3, none⟩ a3).setCell ⟨g, 4, none⟩ a4).setCell ⟨g, 5, none⟩ a5) g t [a0, a1, a2, a3, a4, a5] :=
  ((((((h.set_ 0 a0).set_ 1 a1).set_ 2 a2).set_ 3 a3).set_ 4 a4).set_ 5 a5)
theorem Blk.far6 {w : World} {g g' : Nat} {t : TypeId} {cs : List Value} {a0 a1 a2 a3 a4 a5 : Value} (h : Blk w g' t cs) (hg : g' ≠ g) : Blk ((((((w.setCell ⟨g, 0, none⟩ a0).setCell ⟨g, 1, none⟩ a1).setCell ⟨g, 2, none⟩ a2).setCell ⟨g, 3, none⟩ a3).setCell ⟨g, 4, none⟩ a4).setCell ⟨g, 5, none⟩ a5) g' t cs :=
  ((((((h.far (p := ⟨g, 0, none⟩) hg a0).far (p := ⟨g, 1, none⟩) hg a1).far (p := ⟨g, 2, none⟩) hg a2).far (p := ⟨g, 3, none⟩) hg a3).far (p := ⟨g, 4, none⟩) hg a4).far (p := ⟨g, 5, none⟩) hg a5)
theorem below_set6 {B : Nat} {w0 w : World} {g : Nat} {a0 a1 a2 a3 a4 a5 : Value} (h : Below B w0 w) (hg : B ≤ g) : Below B w0 ((((((w.setCell ⟨g, 0, none⟩ a0).setCell ⟨g, 1, none⟩ a1).setCell ⟨g, 2, none⟩ a2).setCell ⟨g, 3, none⟩ a3).setCell ⟨g, 4, none⟩ a4).setCell ⟨g, 5, none⟩ a5) :=
  ((((((h.setCell (p := ⟨g, 0, none⟩) hg a0).setCell (p := ⟨g, 1, none⟩) hg a1).setCell (p := ⟨g, 2, none⟩) hg a2).setCell (p := ⟨g, 3, none⟩) hg a3).setCell (p := ⟨g, 4, none⟩) hg a4).setCell (p := ⟨g, 5, none⟩) hg a5)
theorem own_set6 {w : World} {g base : Nat} {e : TypeId} {size k : Nat} {v : Value} {xs : List Value} {a0 a1 a2 a3 a4 a5 : Value} (h : w.ownsRow base e size v k xs) (hg : ∀ g', v.ownBlock = some g' → g' ≠ g) : ((((((w.setCell ⟨g, 0, none⟩ a0).setCell ⟨g, 1, none⟩ a1).setCell ⟨g, 2, none⟩ a2).setCell ⟨g, 3, none⟩ a3).setCell ⟨g, 4, none⟩ a4).setCell ⟨g, 5, none⟩ a5).ownsRow base e size v k xs :=
  (own_set (own_set (own_set (own_set (own_set (own_set h (p := ⟨g, 0, none⟩) hg a0) (p := ⟨g, 1, none⟩) hg a1) (p := ⟨g, 2, none⟩) hg a2) (p := ⟨g, 3, none⟩) hg a3) (p := ⟨g, 4, none⟩) hg a4) (p := ⟨g, 5, none⟩) hg a5)
theorem Blk.set8 {w : World} {g : Nat} {t : TypeId} {z0 z1 z2 z3 z4 z5 z6 z7 a0 a1 a2 a3 a4 a5 a6 a7 : Value} (h : Blk w g t [z0, z1, z2, z3, z4, z5, z6, z7]) : Blk ((((((((w.setCell ⟨g, 0, none⟩ a0).setCell ⟨g, 1, none⟩ a1).setCell ⟨g, 2, none⟩ a2).setCell ⟨g, 3, none⟩ a3).setCell ⟨g, 4, none⟩ a4).setCell ⟨g, 5, none⟩ a5).setCell ⟨g, 6, none⟩ a6).setCell ⟨g, 7, none⟩ a7) g t [a0, a1, a2, a3, a4, a5, a6, a7] :=
  ((((((((h.set_ 0 a0).set_ 1 a1).set_ 2 a2).set_ 3 a3).set_ 4 a4).set_ 5 a5).set_ 6 a6).set_ 7 a7)
theorem Blk.far8 {w : World} {g g' : Nat} {t : TypeId} {cs : List Value} {a0 a1 a2 a3 a4 a5 a6 a7 : Value} (h : Blk w g' t cs) (hg : g' ≠ g) : Blk ((((((((w.setCell ⟨g, 0, none⟩ a0).setCell ⟨g, 1, none⟩ a1).setCell ⟨g, 2, none⟩ a2).setCell ⟨g, 3, none⟩ a3).setCell ⟨g, 4, none⟩ a4).setCell ⟨g, 5, none⟩ a5).setCell ⟨g, 6, none⟩ a6).setCell ⟨g, 7, none⟩ a7) g' t cs :=
  ((((((((h.far (p := ⟨g, 0, none⟩) hg a0).far (p := ⟨g, 1, none⟩) hg a1).far (p := ⟨g, 2, none⟩) hg a2).far (p := ⟨g, 3, none⟩) hg a3).far (p := ⟨g, 4, none⟩) hg a4).far (p := ⟨g, 5, none⟩) hg a5).far (p := ⟨g, 6, none⟩) hg a6).far (p := ⟨g, 7, none⟩) hg a7)
theorem below_set8 {B : Nat} {w0 w : World} {g : Nat} {a0 a1 a2 a3 a4 a5 a6 a7 : Value} (h : Below B w0 w) (hg : B ≤ g) : Below B w0 ((((((((w.setCell ⟨g, 0, none⟩ a0).setCell ⟨g, 1, none⟩ a1).setCell ⟨g, 2, none⟩ a2).setCell ⟨g, 3, none⟩ a3).setCell ⟨g, 4, none⟩ a4).setCell ⟨g, 5, none⟩ a5).setCell ⟨g, 6, none⟩ a6).setCell ⟨g, 7, none⟩ a7) :=
  ((((((((h.setCell (p := ⟨g, 0, none⟩) hg a0).setCell (p := ⟨g, 1, none⟩) hg a1).setCell (p := ⟨g, 2, none⟩) hg a2).setCell (p := ⟨g, 3, none⟩) hg a3).setCell (p := ⟨g, 4, none⟩) hg a4).setCell (p := ⟨g, 5, none⟩) hg a5).setCell (p := ⟨g, 6, none⟩) hg a6).setCell (p := ⟨g, 7, none⟩) hg a7)
theorem own_set8 {w : World} {g base : Nat} {e : TypeId} {size k : Nat} {v : Value} {xs : List Value} {a0 a1 a2 a3 a4 a5 a6 a7 : Value} (h : w.ownsRow base e size v k xs) (hg : ∀ g', v.ownBlock = some g' → g' ≠ g) : ((((((((w.setCell ⟨g, 0, none⟩ a0).setCell ⟨g, 1, none⟩ a1).setCell ⟨g, 2, none⟩ a2).setCell ⟨g, 3, none⟩ a3).setCell ⟨g, 4, none⟩ a4).setCell ⟨g, 5, none⟩ a5).setCell ⟨g, 6, none⟩ a6).setCell ⟨g, 7, none⟩ a7).ownsRow base e size v k xs :=
  (own_set (own_set (own_set (own_set (own_set (own_set (own_set (own_set h (p := ⟨g, 0, none⟩) hg a0) (p := ⟨g, 1, none⟩) hg a1) (p := ⟨g, 2, none⟩) hg a2) (p := ⟨g, 3, none⟩) hg a3) (p := ⟨g, 4, none⟩) hg a4) (p := ⟨g, 5, none⟩) hg a5) (p := ⟨g, 6, none⟩) hg a6) (p := ⟨g, 7, none⟩) hg a7)
/-- 'v = append(v, x)', one element, at an operation. -/
theorem wp_append_one {P : Program} {o : Oper} {a : Act} {K : Act → World → Prop} {Q : Exit → Act → World → Prop} (w : World) (s x : Operand) (t : TypeId)
    (ho : o.op = .call { callee := .builtin .append, args := #[s, x], argTypes := #[t, t] })
    (base : Nat) (e : TypeId) (z : Value) (size bytes : Nat) (ht : P.underlying t = some (.slice e)) (hi : (P.info? e).map (fun i => (i.zero, i.size, i.bytes)) = some (some z, size, bytes))
    (hzs : z.cells.size = size) (hsz : 0 < size) (hby : bytes ≤ 100)
    (v : Value) (n : Nat) (xs : List Value) (hown : w.ownsRow base e size v n xs) (hs : a.eval s = v)
    (news : List Value) (c : Nat) (hx : a.eval x = .slice (some ⟨w.heap.size, 0, none⟩) 1 c) (hl : news.length = size) (h1 : news.all (fun u => u.oneCell') = true)
    (hn : n ≤ 1000000000) (hbase : base ≤ w.heap.size)
    (h : ∀ g cap w', w'.ownsRow base e size (.slice (some ⟨g, 0, none⟩) (n + 1) cap) (n + 1) (xs ++ news) → base ≤ g → g < w'.heap.size → Keep e base w w' → w.heap.size < w'.heap.size →
      K (a.put o.dst (.slice (some ⟨g, 0, none⟩) (n + 1) cap)) w') :
    Oper.wp P o a (w.alloc (.cells news.toArray e)) K Q := by
  obtain ⟨i, hi, hz, hs1, hb1⟩ := info_parts hi
  refine wp_append_own (P := P) (w.alloc (.cells news.toArray e)) s x t ho base e i z size bytes ht hi hz hs1 hb1 hzs hsz v n xs hs (hown.alloc _) ⟨w.heap.size, 0, none⟩ 1 c news hx (by omega)
    (fun j u hu => ?_) (fun u hu => List.all_eq_true.1 h1 u hu) (by simp only [maxLen]; omega) ?_ (by simp; omega) (fun v' w' ho' hg _ => ?_)
  · have hadd : (⟨w.heap.size, 0, none⟩ : Addr).add j = ⟨w.heap.size, j, none⟩ := by unfold Addr.add; split <;> simp_all
    rw [hadd, (Blk.new w e news).cell]; exact hu
  · have := Nat.mul_le_mul (show n + 1 ≤ 1000000001 by omega) hby; omega
  · rcases ho'.2 with ⟨_, h0⟩ | ⟨g, cap, cur, rfl, hbg, hgg, r⟩
    · omega
    · exact h g cap w' ho' hbg (Array.getElem?_eq_some_iff.1 hgg).1 (Keep.of_grown hown hg) (by have := hg.size; simp at this; omega)
/-- 'v = append(v, x)': one element, which the walk has laid in a block of its own; the new slice written out. -/
theorem wpList_append_one' {P : Program} {ops : Array Oper} {rest : List Oper} {o : Oper} {a : Act} {Q : Exit → Act → World → Prop} (w : World) (hgd : o.guard = none) (s x : Operand) (t : TypeId)
    (ho : o.op = .call { callee := .builtin .append, args := #[s, x], argTypes := #[t, t] })
    (base : Nat) (e : TypeId) (z : Value) (size bytes : Nat) (ht : P.underlying t = some (.slice e)) (hi : (P.info? e).map (fun i => (i.zero, i.size, i.bytes)) = some (some z, size, bytes))
    (hzs : z.cells.size = size) (hsz : 0 < size) (hby : bytes ≤ 100)
    (v : Value) (n : Nat) (xs : List Value) (hown : w.ownsRow base e size v n xs) (hs : a.eval s = v)
    (news : List Value) (c : Nat) (hx : a.eval x = .slice (some ⟨w.heap.size, 0, none⟩) 1 c) (hl : news.length = size) (h1 : news.all (fun u => u.oneCell') = true)
    (hn : n ≤ 1000000000) (hbase : base ≤ w.heap.size)
    (h : ∀ g cap w', w'.ownsRow base e size (.slice (some ⟨g, 0, none⟩) (n + 1) cap) (n + 1) (xs ++ news) → base ≤ g → g < w'.heap.size → Keep e base w w' → w.heap.size < w'.heap.size →
      wpList P ops Q rest (a.put o.dst (.slice (some ⟨g, 0, none⟩) (n + 1) cap)) w') : wpList P ops Q (o :: rest) a (w.alloc (.cells news.toArray e)) := by
  exact wpList_plain hgd fun _ hK => wp_append_one w s x t ho base e z size bytes ht hi hzs hsz hby v n xs hown hs news c hx hl h1 hn hbase fun g cap w' h2 h3 h4 h5 h6 => hK _ _ (h g cap w' h2 h3 h4 h5 h6)
theorem Blk.cells8 {w : World} {g : Nat} {t : TypeId} {a0 a1 a2 a3 a4 a5 a6 a7 : Value} (h : Blk w g t [a0, a1, a2, a3, a4, a5, a6, a7]) :
    w.cell? ⟨g, 0, none⟩ = some a0 ∧ w.cell? ⟨g, 1, none⟩ = some a1 ∧ w.cell? ⟨g, 2, none⟩ = some a2 ∧ w.cell? ⟨g, 3, none⟩ = some a3 ∧ w.cell? ⟨g, 4, none⟩ = some a4 ∧ w.cell? ⟨g, 5, none⟩ = some a5 ∧ w.cell? ⟨g, 6, none⟩ = some a6 ∧ w.cell? ⟨g, 7, none⟩ = some a7 :=
  ⟨h.cell 0, h.cell 1, h.cell 2, h.cell 3, h.cell 4, h.cell 5, h.cell 6, h.cell 7⟩
theorem Blk.free8 {w : World} {g : Nat} {t : TypeId} {cs : List Value} (h : Blk w g t cs) :
    w.frozen? ⟨g, 0, none⟩ = false ∧ w.frozen? ⟨g, 1, none⟩ = false ∧ w.frozen? ⟨g, 2, none⟩ = false ∧ w.frozen? ⟨g, 3, none⟩ = false ∧ w.frozen? ⟨g, 4, none⟩ = false ∧ w.frozen? ⟨g, 5, none⟩ = false ∧ w.frozen? ⟨g, 6, none⟩ = false ∧ w.frozen? ⟨g, 7, none⟩ = false :=
  ⟨h.frozen 0, h.frozen 1, h.frozen 2, h.frozen 3, h.frozen 4, h.frozen 5, h.frozen 6, h.frozen 7⟩
theorem Blk.cells6 {w : World} {g : Nat} {t : TypeId} {a0 a1 a2 a3 a4 a5 : Value} (h : Blk w g t [a0, a1, a2, a3, a4, a5]) :
    w.cell? ⟨g, 0, none⟩ = some a0 ∧ w.cell? ⟨g, 1, none⟩ = some a1 ∧ w.cell? ⟨g, 2, none⟩ = some a2 ∧ w.cell? ⟨g, 3, none⟩ = some a3 ∧ w.cell? ⟨g, 4, none⟩ = some a4 ∧ w.cell? ⟨g, 5, none⟩ = some a5 :=
  ⟨h.cell 0, h.cell 1, h.cell 2, h.cell 3, h.cell 4, h.cell 5⟩
theorem Blk.free6 {w : World} {g : Nat} {t : TypeId} {cs : List Value} (h : Blk w g t cs) :
    w.frozen? ⟨g, 0, none⟩ = false ∧ w.frozen? ⟨g, 1, none⟩ = false ∧ w.frozen? ⟨g, 2, none⟩ = false ∧ w.frozen? ⟨g, 3, none⟩ = false ∧ w.frozen? ⟨g, 4, none⟩ = false ∧ w.frozen? ⟨g, 5, none⟩ = false :=
  ⟨h.frozen 0, h.frozen 1, h.frozen 2, h.frozen 3, h.frozen 4, h.frozen 5⟩
/-- A slice that holds something lies from block lb on. -/
def SliceFrom (lb : Nat) (v : Value) : Prop := ∀ a n c, v = .slice (some a) n c → 0 < n → lb ≤ a.block
def RCustsF (lb : Nat) (w : World) (v : Value) (L : List Cust) : Prop :=
  ∃ A c, v = .slice A L.length c ∧ L.length ≤ c ∧ c ≤ maxLen ∧
    (0 < L.length → ∃ b o, A = some ⟨b, o, none⟩ ∧ lb ≤ b ∧ b < w.heap.size ∧ ∀ i x, L[i]? = some x → ∃ pv, RPats w pv x.pats ∧ SliceFrom lb pv ∧
      w.cell? ⟨b, o + i * 8, none⟩ = some (.int .i64 x.kind) ∧ w.cell? ⟨b, o + i * 8 + 1, none⟩ = some (.int .i64 x.demand) ∧ w.cell? ⟨b, o + i * 8 + 2, none⟩ = some pv ∧
      w.cell? ⟨b, o + i * 8 + 3, none⟩ = some (.int .i64 x.rate) ∧ w.cell? ⟨b, o + i * 8 + 4, none⟩ = some (.int .i64 x.size) ∧ w.cell? ⟨b, o + i * 8 + 5, none⟩ = some (.int .i64 x.start) ∧
      w.cell? ⟨b, o + i * 8 + 6, none⟩ = some (.int .i64 x.rule) ∧ w.cell? ⟨b, o + i * 8 + 7, none⟩ = some (.int .i64 x.hold))
def RRowsF (lb : Nat) (w : World) (v : Value) (L : List (List Int)) : Prop :=
  ∃ A c, v = .slice A L.length c ∧ L.length ≤ c ∧ c ≤ maxLen ∧
    (0 < L.length → ∃ b o, A = some ⟨b, o, none⟩ ∧ lb ≤ b ∧ b < w.heap.size ∧ ∀ i r, L[i]? = some r → ∃ rv, RInts w .i64 rv r ∧ SliceFrom lb rv ∧ w.cell? ⟨b, o + i, none⟩ = some rv)
def RInstF (lb : Nat) (w : World) (v : Value) (x : Inst) : Prop :=
  ∃ cv dv, v = .agg #[.int .i64 x.days, .int .i64 x.veh, .int .i64 x.cap, .int .i64 x.len, cv, dv] ∧ RCustsF lb w cv x.custs ∧ RRowsF lb w dv x.dist

theorem RCustsF.plain {lb : Nat} {w : World} {v : Value} {L : List Cust} (h : RCustsF lb w v L) : RCusts w v L := by
  obtain ⟨A, c, hv, h1, h2, h3⟩ := h
  refine ⟨A, c, hv, h1, h2, fun hn => ?_⟩
  obtain ⟨b, o, hA, _, hb, hc⟩ := h3 hn
  refine ⟨b, o, hA, hb, fun i x hx => ?_⟩
  obtain ⟨pv, hp, _, hr⟩ := hc i x hx
  exact ⟨pv, hp, hr⟩
theorem RRowsF.plain {lb : Nat} {w : World} {v : Value} {L : List (List Int)} (h : RRowsF lb w v L) : RRows w v L := by
  obtain ⟨A, c, hv, h1, h2, h3⟩ := h
  refine ⟨A, c, hv, h1, h2, fun hn => ?_⟩
  obtain ⟨b, o, hA, _, hb, hc⟩ := h3 hn
  refine ⟨b, o, hA, hb, fun i x hx => ?_⟩
  obtain ⟨rv, hp, _, hr⟩ := hc i x hx
  exact ⟨rv, hp, hr⟩
theorem RInstF.plain {lb : Nat} {w : World} {v : Value} {x : Inst} (h : RInstF lb w v x) : RInst w v x := by
  obtain ⟨cv, dv, hv, h1, h2⟩ := h
  exact ⟨cv, dv, hv, h1.plain, h2.plain⟩
theorem RCustsF.below {lb : Nat} {w w' : World} {v : Value} {L : List Cust} {B : Nat} (h : RCustsF lb w v L) (hb : Below B w w') (hB : w.heap.size ≤ B) : RCustsF lb w' v L := by
  obtain ⟨A, c, rfl, h1, h2, h3⟩ := h
  refine ⟨A, c, rfl, h1, h2, fun hn => ?_⟩
  obtain ⟨b, o, rfl, hl, hlt, hc⟩ := h3 hn
  refine ⟨b, o, rfl, hl, Nat.lt_of_lt_of_le hlt hb.size, fun i x hx => ?_⟩
  obtain ⟨pv, hp, hf, c0, c1, c2, c3, c4, c5, c6, c7⟩ := hc i x hx
  exact ⟨pv, hp.below hb hB, hf, cell_below hb hB c0, cell_below hb hB c1, cell_below hb hB c2, cell_below hb hB c3, cell_below hb hB c4, cell_below hb hB c5, cell_below hb hB c6, cell_below hb hB c7⟩
theorem RRowsF.below {lb : Nat} {w w' : World} {v : Value} {L : List (List Int)} {B : Nat} (h : RRowsF lb w v L) (hb : Below B w w') (hB : w.heap.size ≤ B) : RRowsF lb w' v L := by
  obtain ⟨A, c, rfl, h1, h2, h3⟩ := h
  refine ⟨A, c, rfl, h1, h2, fun hn => ?_⟩
  obtain ⟨b, o, rfl, hl, hlt, hc⟩ := h3 hn
  refine ⟨b, o, rfl, hl, Nat.lt_of_lt_of_le hlt hb.size, fun i r hr => ?_⟩
  obtain ⟨rv, hrv, hf, hcell⟩ := hc i r hr
  exact ⟨rv, hrv.below hb hB, hf, cell_below hb hB hcell⟩
theorem RInstF.below {lb : Nat} {w w' : World} {v : Value} {x : Inst} {B : Nat} (h : RInstF lb w v x) (hb : Below B w w') (hB : w.heap.size ≤ B) : RInstF lb w' v x := by
  obtain ⟨cv, dv, hv, h1, h2⟩ := h
  exact ⟨cv, dv, hv, h1.below hb hB, h2.below hb hB⟩
end Go.Proofs.YtigljnnjamdcnaaDoor

namespace Go.Proofs.YtigljnnjamdcnaaDoor
open Go.RowKit

/-- Behind an append the slice lies where it lay, or in a new block. -/
theorem append_where {P : Program} (w : World) (base : Nat) (t ty e : TypeId) (i : TypeInfo) (z : Value) (ht : P.underlying t = some (.slice e)) (hi : P.info? e = some i) (hz : i.zero = some z)
    (v : Value) (n : Nat) (xs : List Value) (hown : w.ownsRow base e i.size v n xs)
    (a : Addr) (m c : Nat) (news : List Value) (hl : news.length = m * i.size) (hnews : ∀ j u, news[j]? = some u → w.cell? (a.add j) = some u) (h1 : ∀ u ∈ news, u.oneCell' = true) (hm0 : 0 < m)
    (h63 : n + m ≤ maxLen) (hbytes : (n + m) * i.bytes ≤ 140737488355328) {v' : Value} {w' : World} (hr : (Builtin.append_ #[t, t] ty #[v, .slice (some a) m c]).run P w = .ok v' w') :
    ∃ g cap, v' = .slice (some ⟨g, 0, none⟩) (n + m) cap ∧ (v.ownBlock = some g ∨ w.heap.size ≤ g) := by
  have hsmall : n + m ≤ 9223372036854775807 := by simp only [maxLen] at h63; omega
  rcases hown.2 with ⟨rfl, rfl⟩ | ⟨g, cap, cur, rfl, hbg, hg, hnc, hcm, hcs, htake⟩
  · have hq := run_append_nil (P := P) w t ty e i z ht hi hz a m c news hl hnews hm0 (by omega) (by have hb := hbytes; simp only [Nat.zero_add] at hb; omega)
    rw [hq] at hr
    injection hr with e1 _
    exact ⟨w.heap.size, _, by rw [← e1, Nat.zero_add], .inr (Nat.le_refl _)⟩
  · by_cases hroom : n + m ≤ cap
    · have hfit : n * i.size + news.length ≤ cur.size := by rw [hl, hcs, ← Nat.add_mul]; exact Nat.mul_le_mul_right _ hroom
      have hq := run_append_room (P := P) w t ty e i ht hi g n cap cur hg a m c news hl hnews h1 hroom hfit
      rw [hq] at hr
      injection hr with e1 _
      exact ⟨g, cap, e1.symm, .inl rfl⟩
    · have holds : ∀ j u, xs[j]? = some u → w.cell? ((⟨g, 0, none⟩ : Addr).add j) = some u := hown.cells (g := g) rfl
      have hq := run_append_grow (P := P) w t ty e i z ht hi hz ⟨g, 0, none⟩ n cap xs hown.1 holds a m c news hl hnews (by omega) (by omega) (growslice_fits (by omega) hbytes)
      rw [hq] at hr
      injection hr with e1 _
      exact ⟨w.heap.size, _, e1.symm, .inr (Nat.le_refl _)⟩

/-- 'v = append(v, x)': one element, which the walk has laid in a block of its own; where the new slice lies, and that no other block has turned. -/
theorem wpList_append_two {P : Program} {ops : Array Oper} {rest : List Oper} {o : Oper} {a : Act} {Q : Exit → Act → World → Prop} (w : World) (hgd : o.guard = none) (s x : Operand) (t : TypeId)
    (ho : o.op = .call { callee := .builtin .append, args := #[s, x], argTypes := #[t, t] })
    (base : Nat) (e : TypeId) (z : Value) (size bytes : Nat) (ht : P.underlying t = some (.slice e)) (hi : (P.info? e).map (fun i => (i.zero, i.size, i.bytes)) = some (some z, size, bytes))
    (hzs : z.cells.size = size) (hsz : 0 < size) (hby : bytes ≤ 100)
    (v : Value) (n : Nat) (xs : List Value) (hown : w.ownsRow base e size v n xs) (hs : a.eval s = v)
    (news : List Value) (c : Nat) (hx : a.eval x = .slice (some ⟨w.heap.size, 0, none⟩) 1 c) (hl : news.length = size) (h1 : news.all (fun u => u.oneCell') = true)
    (hn : n ≤ 1000000000) (hbase : base ≤ w.heap.size)
    (h : ∀ g cap w', w'.ownsRow base e size (.slice (some ⟨g, 0, none⟩) (n + 1) cap) (n + 1) (xs ++ news) → (v.ownBlock = some g ∨ w.heap.size < g) → base ≤ g → g < w'.heap.size → (w.alloc (.cells news.toArray e)).grownBy w' v.ownBlock → Below base w w' → w.heap.size < w'.heap.size →
      wpList P ops Q rest (a.put o.dst (.slice (some ⟨g, 0, none⟩) (n + 1) cap)) w') : wpList P ops Q (o :: rest) a (w.alloc (.cells news.toArray e)) := by
  refine wpList_plain hgd fun K hK => ?_
  obtain ⟨i, hii, hz, hs1, hb1⟩ := info_parts hi
  clear hi
  subst hs1
  have hcell : ∀ j u, news[j]? = some u → (w.alloc (.cells news.toArray e)).cell? ((⟨w.heap.size, 0, none⟩ : Addr).add j) = some u := fun j u hu => by
    have hadd : (⟨w.heap.size, 0, none⟩ : Addr).add j = ⟨w.heap.size, j, none⟩ := by unfold Addr.add; split <;> simp_all
    rw [hadd, (Blk.new w e news).cell]; exact hu
  have h1' : ∀ u ∈ news, u.oneCell' = true := fun u hu => List.all_eq_true.1 h1 u hu
  have hbb : (n + 1) * i.bytes ≤ 140737488355328 := by
    have := Nat.mul_le_mul (show n + 1 ≤ 1000000001 by omega) (hb1 ▸ hby)
    omega
  have hll : news.length = 1 * i.size := by omega
  obtain ⟨v', w', hr, h2, h3, h4⟩ := run_append_own (P := P) (w.alloc (.cells news.toArray e)) base t o.type e i z i.size i.bytes ht hii hz rfl rfl hzs hsz v n xs (hown.alloc _) ⟨w.heap.size, 0, none⟩ 1 c news hll hcell h1' (by simp only [maxLen]; omega) hbb (by simp; omega)
  obtain ⟨g, cap, rfl, hwhere⟩ := append_where (P := P) (w.alloc (.cells news.toArray e)) base t o.type e i z ht hii hz v n xs (hown.alloc _) ⟨w.heap.size, 0, none⟩ 1 c news hll hcell h1' (by omega) (by simp only [maxLen]; omega) hbb hr
  have hsz2 : w.heap.size < w'.heap.size := by have := h3.size; simp at this; omega
  have hlt := h2.lt g rfl
  unfold Oper.wp execOp
  simp only [ho, resolve, invoke, builtin, Sem.run_bind, Sem.run_pure, Result.andThen_ok, List.map_toArray, List.map_cons, List.map_nil, hs, hx, hr]
  refine hK _ _ (h g cap w' h2 ?_ hlt.1 hlt.2 h3 (((Below.refl _ _).alloc hbase _).grown h3 (by simp; omega) (fun k hk => (hown.lt k hk).1)) hsz2)
  rcases hwhere with h | h
  · exact .inl h
  · simp at h
    exact .inr (by omega)
/-- The other row. -/
theorem own_other {w w' : World} {lb : Nat} {e' : TypeId} {size' n' : Nat} {v u : Value} {ys : List Value} {o : Obj} (hu : w.ownsRow lb e' size' u n' ys) (hg : (w.alloc o).grownBy w' v.ownBlock) (hne : ∀ k, u.ownBlock = some k → v.ownBlock ≠ some k) : w'.ownsRow lb e' size' u n' ys := by
  refine (hu.alloc o).kept hg ?_
  cases h : u.ownBlock with
  | none => exact .inl rfl
  | some k => exact .inr fun e => hne k h e.symm
end Go.Proofs.YtigljnnjamdcnaaDoor

namespace Go.Proofs.YtigljnnjamdcnaaDoor
open Go.RowKit

/-- A slice whose elements, 'size' cells each, are what R says. -/
def RL {α : Type} (size : Nat) (R : World → List Value → α → Prop) (w : World) (v : Value) (L : List α) : Prop :=
  ∃ A c, v = .slice A L.length c ∧ L.length ≤ c ∧ c ≤ maxLen ∧
    (0 < L.length → ∃ b o, A = some ⟨b, o, none⟩ ∧ b < w.heap.size ∧ ∀ i x, L[i]? = some x → ∃ cs : List Value, cs.length = size ∧ R w cs x ∧ ∀ j u, cs[j]? = some u → w.cell? ⟨b, o + i * size + j, none⟩ = some u)
theorem RL.nil_ {α : Type} (size : Nat) (R : World → List Value → α → Prop) (w : World) : RL size R w (.slice none 0 0) [] := ⟨none, 0, rfl, Nat.le_refl _, by simp [maxLen], fun h => absurd h (by simp)⟩
theorem RL.below {α : Type} {size : Nat} {R : World → List Value → α → Prop} {w w' : World} {v : Value} {L : List α} {B : Nat} (h : RL size R w v L) (hb : Below B w w') (hB : w.heap.size ≤ B) (hR : ∀ cs x, R w cs x → R w' cs x) : RL size R w' v L := by
  obtain ⟨A, c, rfl, h1, h2, h3⟩ := h
  refine ⟨A, c, rfl, h1, h2, fun hn => ?_⟩
  obtain ⟨b, o, rfl, hlt, hc⟩ := h3 hn
  refine ⟨b, o, rfl, Nat.lt_of_lt_of_le hlt hb.size, fun i x hx => ?_⟩
  obtain ⟨cs, h4, h5, h6⟩ := hc i x hx
  exact ⟨cs, h4, hR _ _ h5, fun j u hu => (hb.cell (p := ⟨b, o + i * size + j, none⟩) (by show b < B; omega)).trans (h6 j u hu)⟩
theorem RL.open_ {α : Type} {size : Nat} {R : World → List Value → α → Prop} {w : World} {v : Value} {L : List α} (h : RL size R w v L) : ∃ A c, v = .slice A L.length c ∧ L.length ≤ c ∧ c ≤ 9223372036854775807 ∧
    ∀ i x, L[i]? = some x → ∃ b o, A = some ⟨b, o, none⟩ ∧ b < w.heap.size ∧ ∃ cs : List Value, cs.length = size ∧ R w cs x ∧ ∀ j u, cs[j]? = some u → w.cell? ⟨b, o + i * size + j, none⟩ = some u := by
  obtain ⟨A, c, hv, h1, h2, h4⟩ := h
  refine ⟨A, c, hv, h1, by simpa [maxLen] using h2, fun i x hx => ?_⟩
  obtain ⟨b, o, hA, hb, hc⟩ := h4 (by have := lt_of_some hx; omega)
  exact ⟨b, o, hA, hb, hc i x hx⟩
theorem RL.take {α : Type} {size : Nat} {R : World → List Value → α → Prop} {w : World} {A : Option Addr} {c n : Nat} {L : List α} (h : RL size R w (.slice A L.length c) L) (hn : n ≤ L.length) : RL size R w (.slice A n c) (L.take n) := by
  obtain ⟨A', c', hv, h1, h2, h4⟩ := h
  injection hv with e1 _ e3
  subst e1; subst e3
  have hl : (L.take n).length = n := by rw [List.length_take]; omega
  refine ⟨A, c, by rw [hl], by omega, h2, fun hp => ?_⟩
  obtain ⟨b, o, hA, hb, hc⟩ := h4 (by omega)
  refine ⟨b, o, hA, hb, fun i x hx => hc i x ?_⟩
  rw [List.getElem?_take] at hx
  split at hx
  · exact hx
  · cases hx
theorem RL.drop {α : Type} {size : Nat} {R : World → List Value → α → Prop} {w : World} {b o c n c' : Nat} {L : List α} (h : RL size R w (.slice (some ⟨b, o, none⟩) L.length c) L) (hn : n ≤ L.length) (hc1 : L.length - n ≤ c') (hc2 : c' ≤ maxLen) : RL size R w (.slice (some ⟨b, o + n * size, none⟩) (L.length - n) c') (L.drop n) := by
  obtain ⟨A', c1, hv, h1, h2, h4⟩ := h
  injection hv with e1 _ e3
  subst e1; subst e3
  refine ⟨_, _, by rw [List.length_drop], by rw [List.length_drop]; omega, hc2, fun hp => ?_⟩
  rw [List.length_drop] at hp
  obtain ⟨b', o', hA, hb, hc⟩ := h4 (by omega)
  obtain ⟨rfl, rfl⟩ : b = b' ∧ o = o' := by simpa using hA
  refine ⟨b, _, rfl, hb, fun i x hx => ?_⟩
  rw [List.getElem?_drop] at hx
  obtain ⟨cs, g1, g2, g3⟩ := hc (n + i) x hx
  refine ⟨cs, g1, g2, fun j u hu => ?_⟩
  have := g3 j u hu
  rw [Nat.add_mul, ← Nat.add_assoc o] at this
  exact this

/-- A slice of the call's own. -/
def OL {α : Type} (lb : Nat) (e : TypeId) (size : Nat) (O : World → List Value → α → Prop) (w : World) (v : Value) (L : List α) : Prop :=
  ∃ css : List (List Value), css.length = L.length ∧ (∀ cs ∈ css, cs.length = size) ∧ w.ownsRow lb e size v L.length css.flatten ∧ ∀ (i : Nat) (x : α) (cs : List Value), L[i]? = some x → css[i]? = some cs → O w cs x
theorem OL.nil_ {α : Type} (lb : Nat) (e : TypeId) (size : Nat) (O : World → List Value → α → Prop) (w : World) : OL lb e size O w (.slice none 0 0) [] := ⟨[], rfl, by simp, World.ownsRow_nil _ _ _ _, fun i x cs h => by simp at h⟩
theorem OL.below {α : Type} {lb : Nat} {e : TypeId} {size : Nat} {O : World → List Value → α → Prop} {w w' : World} {v : Value} {L : List α} {B : Nat} (h : OL lb e size O w v L) (hb : Below B w w') (hB : w.heap.size ≤ B) (hO : ∀ cs x, O w cs x → O w' cs x) : OL lb e size O w' v L := by
  obtain ⟨css, h1, h2, h3, h4⟩ := h
  exact ⟨css, h1, h2, own_below h3 hb hB, fun i x cs hx hc => hO _ _ (h4 i x cs hx hc)⟩
theorem OL.keep {α : Type} {lb base : Nat} {e e' : TypeId} {size : Nat} {O : World → List Value → α → Prop} {w w' : World} {v : Value} {L : List α} (h : OL lb e size O w v L) (hk : Keep e' base w w') (hne : e ≠ e') (hO : ∀ cs x, O w cs x → O w' cs x) : OL lb e size O w' v L := by
  obtain ⟨css, h1, h2, h3, h4⟩ := h
  exact ⟨css, h1, h2, hk.own h3 hne, fun i x cs hx hc => hO _ _ (h4 i x cs hx hc)⟩
theorem OL.mono {α : Type} {lb lb' : Nat} {e : TypeId} {size : Nat} {O : World → List Value → α → Prop} {w : World} {v : Value} {L : List α} (h : OL lb e size O w v L) (hl : lb' ≤ lb) : OL lb' e size O w v L := by
  obtain ⟨css, h1, h2, h3, h4⟩ := h
  exact ⟨css, h1, h2, own_mono h3 hl, h4⟩
theorem OL.imp {α : Type} {lb : Nat} {e : TypeId} {size : Nat} {O O' : World → List Value → α → Prop} {w : World} {v : Value} {L : List α} (h : OL lb e size O w v L) (hO : ∀ cs x, O w cs x → O' w cs x) : OL lb e size O' w v L := by
  obtain ⟨css, h1, h2, h3, h4⟩ := h
  exact ⟨css, h1, h2, h3, fun i x cs hx hc => hO _ _ (h4 i x cs hx hc)⟩
/-- One element more: the row behind the append, the elder elements kept. -/
theorem OL.push {α : Type} {lb : Nat} {e : TypeId} {size : Nat} {O : World → List Value → α → Prop} {w : World} {v : Value} {L : List α} {y : α} {css : List (List Value)} {cs : List Value} {n : Nat} (hn : L.length = n) (h1 : css.length = n) (h2 : ∀ cs ∈ css, cs.length = size) (hs : cs.length = size)
    (h3 : w.ownsRow lb e size v (n + 1) (css.flatten ++ cs)) (h4 : ∀ (i : Nat) (x : α) (cs : List Value), L[i]? = some x → css[i]? = some cs → O w cs x) (hy : O w cs y) : OL lb e size O w v (L ++ [y]) := by
  subst hn
  refine ⟨css ++ [cs], by simp [h1], fun c hc => ?_, by simpa using h3, fun i x c hx hq => ?_⟩
  · rcases List.mem_append.1 hc with h | h
    · exact h2 c h
    · obtain rfl : c = cs := by simpa using h
      exact hs
  · by_cases hi : i < L.length
    · rw [List.getElem?_append_left hi] at hx
      rw [List.getElem?_append_left (by omega)] at hq
      exact h4 i x c hx hq
    · have ei : i = L.length := by
        have := lt_of_some hx
        simp at this
        omega
      subst ei
      rw [List.getElem?_append_right (Nat.le_refl _), Nat.sub_self] at hx
      rw [List.getElem?_append_right (by omega), h1, Nat.sub_self] at hq
      simp only [List.getElem?_cons_zero, Option.some.injEq] at hx hq
      subst hx; subst hq
      exact hy
theorem flatten_get (size : Nat) : ∀ (css : List (List Value)) (i j : Nat) (cs : List Value) (u : Value), (∀ cs ∈ css, cs.length = size) → css[i]? = some cs → cs[j]? = some u → css.flatten[i * size + j]? = some u
  | [], i, j, cs, u, _, h, _ => by simp at h
  | c :: css, 0, j, cs, u, hl, h, hu => by
    simp only [List.getElem?_cons_zero, Option.some.injEq] at h
    subst h
    rw [List.flatten_cons, Nat.zero_mul, Nat.zero_add, List.getElem?_append_left (lt_of_some hu), hu]
  | c :: css, i + 1, j, cs, u, hl, h, hu => by
    simp only [List.getElem?_cons_succ] at h
    have hc := hl c (by simp)
    rw [List.flatten_cons, List.getElem?_append_right (by rw [hc, Nat.add_mul]; omega), hc]
    rw [show (i + 1) * size + j - size = i * size + j by rw [Nat.add_mul]; omega]
    exact flatten_get size css i j cs u (fun x hx => hl x (by simp [hx])) h hu
theorem OL.reads {α : Type} {lb : Nat} {e : TypeId} {size : Nat} {O R : World → List Value → α → Prop} {w : World} {v : Value} {L : List α} (h : OL lb e size O w v L) (hR : ∀ cs x, O w cs x → R w cs x) : RL size R w v L := by
  obtain ⟨css, h1, h2, h3, h4⟩ := h
  obtain ⟨A, c, hv, g1, g2, _, g4⟩ := RS.of_own h3
  refine ⟨A, c, hv, g1, g2, fun hn => ?_⟩
  obtain ⟨b, o, hA, hb, hc⟩ := g4 hn
  refine ⟨b, o, hA, hb, fun i x hx => ?_⟩
  obtain ⟨cs, hp⟩ := some_of_lt (l := css) (i := i) (by have := lt_of_some hx; omega)
  refine ⟨cs, h2 cs (List.mem_of_getElem? hp), hR _ _ (h4 i x cs hx hp), fun j u hu => ?_⟩
  rw [Nat.add_assoc]
  exact hc _ u (flatten_get size css i j cs u h2 hp hu)

/-- Elements of one cell: a value each. -/
def One {α : Type} (enc : α → Value) (_ : World) (cs : List Value) (x : α) : Prop := cs = [enc x]
theorem RL.one {α : Type} {enc : α → Value} {w : World} {v : Value} {L : List α} (h : RL 1 (One enc) w v L) : RS w 1 v L.length (L.map enc) := by
  obtain ⟨A, c, hv, h1, h2, h4⟩ := h
  refine ⟨A, c, hv, h1, h2, by simp, fun hn => ?_⟩
  obtain ⟨b, o, hA, hb, hc⟩ := h4 hn
  refine ⟨b, o, hA, hb, fun j u hu => ?_⟩
  rw [List.getElem?_map, Option.map_eq_some_iff] at hu
  obtain ⟨x, hx, rfl⟩ := hu
  obtain ⟨cs, _, h5, h6⟩ := hc j x hx
  have := h6 0 (enc x) (by rw [h5]; rfl)
  rwa [Nat.mul_one] at this
theorem RL.of_one {α : Type} {enc : α → Value} {w : World} {v : Value} {L : List α} (h : RS w 1 v L.length (L.map enc)) : RL 1 (One enc) w v L := by
  obtain ⟨A, c, hv, h1, h2, _, h4⟩ := h
  refine ⟨A, c, hv, h1, h2, fun hn => ?_⟩
  obtain ⟨b, o, hA, hb, hc⟩ := h4 hn
  refine ⟨b, o, hA, hb, fun i x hx => ⟨[enc x], rfl, rfl, fun j u hu => ?_⟩⟩
  cases j with
  | zero =>
    simp only [List.getElem?_cons_zero, Option.some.injEq] at hu
    subst hu
    rw [Nat.mul_one]
    exact hc i _ (by rw [List.getElem?_map, hx]; rfl)
  | succ j => simp at hu
theorem flatten_map_one {α : Type} (f : α → Value) : ∀ L : List α, (L.map fun x => [f x]).flatten = L.map f
  | [] => rfl
  | x :: t => by rw [List.map_cons, List.flatten_cons, flatten_map_one f t]; rfl
end Go.Proofs.YtigljnnjamdcnaaDoor

namespace Go.Proofs.YtigljnnjamdcnaaDoor
open Go.RowKit

/-- A string's value. -/
def bstr (l : List UInt8) : Value := .string ⟨l.toArray⟩
/-- A list of strings. -/
def RStrs (w : World) (v : Value) (l : List (List UInt8)) : Prop := RS w 1 v l.length (l.map bstr)
/-- Lists of strings. -/
def RLine (w : World) (cs : List Value) (x : List (List UInt8)) : Prop := ∃ v, cs = [v] ∧ RStrs w v x
def RLines (w : World) (v : Value) (L : List (List (List UInt8))) : Prop := RL 1 RLine w v L
theorem RStrs.below {w w' : World} {v : Value} {l : List (List UInt8)} {B : Nat} (h : RStrs w v l) (hb : Below B w w') (hB : w.heap.size ≤ B) : RStrs w' v l := RS.below h hb hB
theorem RLines.below {w w' : World} {v : Value} {L : List (List (List UInt8))} {B : Nat} (h : RLines w v L) (hb : Below B w w') (hB : w.heap.size ≤ B) : RLines w' v L :=
  RL.below h hb hB fun _ _ ⟨v, e, hr⟩ => ⟨v, e, hr.below hb hB⟩
theorem RStrs.open_ {w : World} {v : Value} {l : List (List UInt8)} (h : RStrs w v l) : ∃ A c, v = .slice A l.length c ∧ l.length ≤ c ∧ c ≤ 9223372036854775807 ∧
    ∀ i s, l[i]? = some s → ∃ b o, A = some ⟨b, o, none⟩ ∧ b < w.heap.size ∧ w.cell? ⟨b, o + i, none⟩ = some (.string ⟨s.toArray⟩) := by
  obtain ⟨A, c, hv, h1, h2, _, h4⟩ := h
  refine ⟨A, c, hv, h1, by simpa [maxLen] using h2, fun i z hz => ?_⟩
  obtain ⟨b, o, hA, hb, hc⟩ := h4 (by have := lt_of_some hz; omega)
  exact ⟨b, o, hA, hb, hc i _ (by rw [List.getElem?_map, hz]; rfl)⟩
theorem RLines.open_ {w : World} {v : Value} {L : List (List (List UInt8))} (h : RLines w v L) : ∃ A c, v = .slice A L.length c ∧ L.length ≤ c ∧ c ≤ 9223372036854775807 ∧
    ∀ i x, L[i]? = some x → ∃ b o, A = some ⟨b, o, none⟩ ∧ b < w.heap.size ∧ ∃ rv, RStrs w rv x ∧ w.cell? ⟨b, o + i, none⟩ = some rv := by
  obtain ⟨A, c, hv, h1, h2, h4⟩ := RL.open_ h
  refine ⟨A, c, hv, h1, h2, fun i x hx => ?_⟩
  obtain ⟨b, o, hA, hb, cs, _, ⟨rv, e, hr⟩, hc⟩ := h4 i x hx
  have := hc 0 rv (by rw [e]; rfl)
  rw [Nat.mul_one] at this
  exact ⟨b, o, hA, hb, rv, hr, this⟩
/-- A line of the call's own. -/
def OLine (lb : Nat) (es : TypeId) (w : World) (cs : List Value) (x : List (List UInt8)) : Prop := ∃ v, cs = [v] ∧ w.ownsRow lb es 1 v x.length (x.map bstr)
/-- Lines of the call's own: er the type of a line, es the type of a string. -/
def OLines (lb : Nat) (er es : TypeId) (w : World) (v : Value) (L : List (List (List UInt8))) : Prop := OL lb er 1 (OLine lb es) w v L
theorem OLine.reads {lb : Nat} {es : TypeId} {w : World} {cs : List Value} {x : List (List UInt8)} (h : OLine lb es w cs x) : RLine w cs x := by
  obtain ⟨v, e, hr⟩ := h
  exact ⟨v, e, RS.of_own hr⟩
theorem OLines.reads {lb : Nat} {er es : TypeId} {w : World} {v : Value} {L : List (List (List UInt8))} (h : OLines lb er es w v L) : RLines w v L := OL.reads h fun _ _ => OLine.reads
theorem OLines.below {lb : Nat} {er es : TypeId} {w w' : World} {v : Value} {L : List (List (List UInt8))} {B : Nat} (h : OLines lb er es w v L) (hb : Below B w w') (hB : w.heap.size ≤ B) : OLines lb er es w' v L :=
  OL.below h hb hB fun _ _ ⟨v, e, hr⟩ => ⟨v, e, own_below hr hb hB⟩
theorem OLines.nil_ (lb : Nat) (er es : TypeId) (w : World) : OLines lb er es w (.slice none 0 0) [] := OL.nil_ _ _ _ _ _
end Go.Proofs.YtigljnnjamdcnaaDoor

namespace Go.Proofs.YtigljnnjamdcnaaDoor
open Go.RowKit P06

/-- A customer's eight cells, its patterns where pv says. -/
def custCells (x : Cust) (pv : Value) : List Value := [.int .i64 x.kind, .int .i64 x.demand, pv, .int .i64 x.rate, .int .i64 x.size, .int .i64 x.start, .int .i64 x.rule, .int .i64 x.hold]
/-- Customers in a row of the call's own, their patterns in rows of the call's own. -/
def OwnCusts (lb : Nat) (ec ep : TypeId) (w : World) (v : Value) (L : List Cust) : Prop :=
  ∃ pvs : List Value, pvs.length = L.length ∧ w.ownsRow lb ec 8 v L.length ((L.zip pvs).flatMap fun p => custCells p.1 p.2) ∧
    ∀ (i : Nat) (x : Cust) (pv : Value), L[i]? = some x → pvs[i]? = some pv → w.ownsRow lb ep 1 pv x.pats.length (x.pats.map fun (s : Nat) => Value.int .u64 (s : Int))
theorem OwnCusts.none_ (lb : Nat) (ec ep : TypeId) (w : World) : OwnCusts lb ec ep w (.slice none 0 0) [] := ⟨[], rfl, World.ownsRow_nil _ _ _ _, fun i x pv h => by simp at h⟩
theorem OwnCusts.below {lb : Nat} {ec ep : TypeId} {w w' : World} {v : Value} {L : List Cust} {B : Nat} (h : OwnCusts lb ec ep w v L) (hb : Below B w w') (hB : w.heap.size ≤ B) : OwnCusts lb ec ep w' v L := by
  obtain ⟨pvs, h1, h2, h3⟩ := h
  exact ⟨pvs, h1, own_below h2 hb hB, fun i x pv hx hp => own_below (h3 i x pv hx hp) hb hB⟩
theorem OwnCusts.keep {lb base : Nat} {e ec ep : TypeId} {w w' : World} {v : Value} {L : List Cust} (h : OwnCusts lb ec ep w v L) (hk : Keep e base w w') (h1 : ec ≠ e) (h2 : ep ≠ e) : OwnCusts lb ec ep w' v L := by
  obtain ⟨pvs, g1, g2, g3⟩ := h
  exact ⟨pvs, g1, hk.own g2 h1, fun i x pv hx hp => hk.own (g3 i x pv hx hp) h2⟩
theorem own_set_low {w : World} {base : Nat} {e : TypeId} {size n : Nat} {v : Value} {xs : List Value} (h : w.ownsRow base e size v n xs) {p : Addr} (hp : p.block < base) (u : Value) : (w.setCell p u).ownsRow base e size v n xs :=
  own_set h (fun g hg => by have := (h.lt g hg).1; omega) u
theorem OwnCusts.set_low {lb : Nat} {ec ep : TypeId} {w : World} {v : Value} {L : List Cust} {p : Addr} (h : OwnCusts lb ec ep w v L) (hp : p.block < lb) (u : Value) : OwnCusts lb ec ep (w.setCell p u) v L := by
  obtain ⟨pvs, g1, g2, g3⟩ := h
  exact ⟨pvs, g1, own_set_low g2 hp u, fun i x pv hx hq => own_set_low (g3 i x pv hx hq) hp u⟩
theorem OwnCusts.push {lb : Nat} {ec ep : TypeId} {w : World} {v pv : Value} {L : List Cust} {y : Cust} {pvs : List Value} {n : Nat} (hn : L.length = n) (h1 : pvs.length = n) (h2 : w.ownsRow lb ec 8 v (n + 1) (((L.zip pvs).flatMap fun p => custCells p.1 p.2) ++ custCells y pv))
    (h3 : ∀ (i : Nat) (x : Cust) (qv : Value), L[i]? = some x → pvs[i]? = some qv → w.ownsRow lb ep 1 qv x.pats.length (x.pats.map fun (s : Nat) => Value.int .u64 (s : Int)))
    (hy : w.ownsRow lb ep 1 pv y.pats.length (y.pats.map fun (s : Nat) => Value.int .u64 (s : Int))) : OwnCusts lb ec ep w v (L ++ [y]) := by
  subst hn
  refine ⟨pvs ++ [pv], by simp [h1], ?_, fun i x qv hx hq => ?_⟩
  · rw [List.zip_append h1.symm, List.flatMap_append, List.length_append]
    simpa using h2
  · by_cases hi : i < L.length
    · rw [List.getElem?_append_left hi] at hx
      rw [List.getElem?_append_left (by omega)] at hq
      exact h3 i x qv hx hq
    · have e : i = L.length := by
        have := lt_of_some hx
        simp at this
        omega
      subst e
      rw [List.getElem?_append_right (Nat.le_refl _), Nat.sub_self] at hx
      rw [List.getElem?_append_right (by omega), h1, Nat.sub_self] at hq
      simp only [List.getElem?_cons_zero, Option.some.injEq] at hx hq
      subst hx; subst hq
      exact hy
theorem own_from {w : World} {lb : Nat} {e : TypeId} {size n : Nat} {v : Value} {xs : List Value} (h : w.ownsRow lb e size v n xs) : SliceFrom lb v := by
  intro a k c hv _
  subst hv
  rcases h.2 with ⟨h0, _⟩ | ⟨g, cap, cur, hv, hbg, _⟩
  · cases h0
  · injection hv with e1 _ _
    injection e1 with e1
    subst e1
    exact hbg
theorem own_pats {w : World} {lb : Nat} {e : TypeId} {v : Value} {l : List Nat} (h : w.ownsRow lb e 1 v l.length (l.map fun (s : Nat) => Value.int .u64 (s : Int))) : RPats w v l := by
  unfold RPats RInts
  rw [List.length_map, List.map_map]
  exact RS.of_own h
theorem flat8_get (L : List Cust) : ∀ (pvs : List Value) (i j : Nat) (x : Cust) (pv : Value), L[i]? = some x → pvs[i]? = some pv → j < 8 →
    ((L.zip pvs).flatMap fun p => custCells p.1 p.2)[i * 8 + j]? = (custCells x pv)[j]? := by
  induction L with
  | nil => intro pvs i j x pv h; simp at h
  | cons y L ih =>
    intro pvs i j x pv hx hp hj
    cases pvs with
    | nil => simp at hp
    | cons q pvs =>
      rw [List.zip_cons_cons, List.flatMap_cons]
      cases i with
      | zero =>
        simp only [List.getElem?_cons_zero, Option.some.injEq] at hx hp
        subst hx; subst hp
        rw [List.getElem?_append_left (by simp [custCells]; omega), Nat.zero_mul, Nat.zero_add]
      | succ i =>
        simp only [List.getElem?_cons_succ] at hx hp
        rw [List.getElem?_append_right (by simp [custCells]; omega)]
        rw [show (i + 1) * 8 + j - (custCells y q).length = i * 8 + j by simp [custCells]; omega]
        exact ih pvs i j x pv hx hp hj
theorem OwnCusts.reads {lb : Nat} {ec ep : TypeId} {w : World} {v : Value} {L : List Cust} (h : OwnCusts lb ec ep w v L) : RCustsF lb w v L := by
  obtain ⟨pvs, h1, h2, h3⟩ := h
  obtain ⟨A, c, hv, g1, g2, _, g4⟩ := RS.of_own h2
  refine ⟨A, c, hv, g1, g2, fun hn => ?_⟩
  obtain ⟨b, o, hA, hb, hc⟩ := g4 hn
  have hlb : lb ≤ b := own_from h2 ⟨b, o, none⟩ L.length c (by rw [hv, hA]) hn
  refine ⟨b, o, hA, hlb, hb, fun i x hx => ?_⟩
  obtain ⟨pv, hp⟩ := some_of_lt (l := pvs) (i := i) (by have := lt_of_some hx; omega)
  have hf := fun j hj u hu => hc (i * 8 + j) u ((flat8_get L pvs i j x pv hx hp hj).trans hu)
  exact ⟨pv, own_pats (h3 i x pv hx hp), own_from (h3 i x pv hx hp), hf 0 (by omega) _ rfl, hf 1 (by omega) _ rfl, hf 2 (by omega) _ rfl, hf 3 (by omega) _ rfl, hf 4 (by omega) _ rfl, hf 5 (by omega) _ rfl, hf 6 (by omega) _ rfl, hf 7 (by omega) _ rfl⟩

/-- Rows of numbers in a row of the call's own, each in a row of the call's own. -/
def OwnRows (lb : Nat) (er ei : TypeId) (w : World) (v : Value) (L : List (List Int)) : Prop :=
  ∃ rvs : List Value, w.ownsRow lb er 1 v L.length rvs ∧ ∀ (i : Nat) (r : List Int) (rv : Value), L[i]? = some r → rvs[i]? = some rv → w.ownsRow lb ei 1 rv r.length (r.map (Value.int .i64))
theorem OwnRows.none_ (lb : Nat) (er ei : TypeId) (w : World) : OwnRows lb er ei w (.slice none 0 0) [] := ⟨[], World.ownsRow_nil _ _ _ _, fun i x pv h => by simp at h⟩
theorem OwnRows.below {lb : Nat} {er ei : TypeId} {w w' : World} {v : Value} {L : List (List Int)} {B : Nat} (h : OwnRows lb er ei w v L) (hb : Below B w w') (hB : w.heap.size ≤ B) : OwnRows lb er ei w' v L := by
  obtain ⟨rvs, h2, h3⟩ := h
  exact ⟨rvs, own_below h2 hb hB, fun i x pv hx hp => own_below (h3 i x pv hx hp) hb hB⟩
theorem OwnRows.set_low {lb : Nat} {er ei : TypeId} {w : World} {v : Value} {L : List (List Int)} {p : Addr} (h : OwnRows lb er ei w v L) (hp : p.block < lb) (u : Value) : OwnRows lb er ei (w.setCell p u) v L := by
  obtain ⟨rvs, g2, g3⟩ := h
  exact ⟨rvs, own_set_low g2 hp u, fun i x qv hx hq => own_set_low (g3 i x qv hx hq) hp u⟩
theorem OwnRows.push {lb : Nat} {er ei : TypeId} {w : World} {v rv : Value} {L : List (List Int)} {y : List Int} {rvs : List Value} {n : Nat} (hn : L.length = n) (h1 : rvs.length = n) (h2 : w.ownsRow lb er 1 v (n + 1) (rvs ++ [rv]))
    (h3 : ∀ (i : Nat) (r : List Int) (qv : Value), L[i]? = some r → rvs[i]? = some qv → w.ownsRow lb ei 1 qv r.length (r.map (Value.int .i64)))
    (hy : w.ownsRow lb ei 1 rv y.length (y.map (Value.int .i64))) : OwnRows lb er ei w v (L ++ [y]) := by
  subst hn
  refine ⟨rvs ++ [rv], by simpa using h2, fun i x qv hx hq => ?_⟩
  by_cases hi : i < L.length
  · rw [List.getElem?_append_left hi] at hx
    rw [List.getElem?_append_left (by omega)] at hq
    exact h3 i x qv hx hq
  · have e : i = L.length := by
      have := lt_of_some hx
      simp at this
      omega
    subst e
    rw [List.getElem?_append_right (Nat.le_refl _), Nat.sub_self] at hx
    rw [List.getElem?_append_right (by omega), h1, Nat.sub_self] at hq
    simp only [List.getElem?_cons_zero, Option.some.injEq] at hx hq
    subst hx; subst hq
    exact hy
theorem OwnRows.reads {lb : Nat} {er ei : TypeId} {w : World} {v : Value} {L : List (List Int)} (h : OwnRows lb er ei w v L) : RRowsF lb w v L := by
  obtain ⟨rvs, h2, h3⟩ := h
  obtain ⟨A, c, hv, g1, g2, _, g4⟩ := RS.of_own h2
  refine ⟨A, c, hv, g1, g2, fun hn => ?_⟩
  obtain ⟨b, o, hA, hb, hc⟩ := g4 hn
  have hlb : lb ≤ b := own_from h2 ⟨b, o, none⟩ L.length c (by rw [hv, hA]) hn
  refine ⟨b, o, hA, hlb, hb, fun i r hr => ?_⟩
  have hl := h2.1
  obtain ⟨rv, hp⟩ := some_of_lt (l := rvs) (i := i) (by have := lt_of_some hr; omega)
  exact ⟨rv, RS.of_own (h3 i r rv hr hp), own_from (h3 i r rv hr hp), hc i rv hp⟩
theorem OwnCusts.low6 {lb : Nat} {ec ep : TypeId} {w : World} {v : Value} {L : List Cust} {g : Nat} {a0 a1 a2 a3 a4 a5 : Value} (h : OwnCusts lb ec ep w v L) (hg : g < lb) : OwnCusts lb ec ep ((((((w.setCell ⟨g, 0, none⟩ a0).setCell ⟨g, 1, none⟩ a1).setCell ⟨g, 2, none⟩ a2).setCell ⟨g, 3, none⟩ a3).setCell ⟨g, 4, none⟩ a4).setCell ⟨g, 5, none⟩ a5) v L :=
  ((((((h.set_low (p := ⟨g, 0, none⟩) hg a0).set_low (p := ⟨g, 1, none⟩) hg a1).set_low (p := ⟨g, 2, none⟩) hg a2).set_low (p := ⟨g, 3, none⟩) hg a3).set_low (p := ⟨g, 4, none⟩) hg a4).set_low (p := ⟨g, 5, none⟩) hg a5)
theorem OwnRows.low6 {lb : Nat} {er ei : TypeId} {w : World} {v : Value} {L : List (List Int)} {g : Nat} {a0 a1 a2 a3 a4 a5 : Value} (h : OwnRows lb er ei w v L) (hg : g < lb) : OwnRows lb er ei ((((((w.setCell ⟨g, 0, none⟩ a0).setCell ⟨g, 1, none⟩ a1).setCell ⟨g, 2, none⟩ a2).setCell ⟨g, 3, none⟩ a3).setCell ⟨g, 4, none⟩ a4).setCell ⟨g, 5, none⟩ a5) v L :=
  ((((((h.set_low (p := ⟨g, 0, none⟩) hg a0).set_low (p := ⟨g, 1, none⟩) hg a1).set_low (p := ⟨g, 2, none⟩) hg a2).set_low (p := ⟨g, 3, none⟩) hg a3).set_low (p := ⟨g, 4, none⟩) hg a4).set_low (p := ⟨g, 5, none⟩) hg a5)
theorem SliceFrom.mono {lb lb' : Nat} {v : Value} (h : SliceFrom lb v) (hl : lb' ≤ lb) : SliceFrom lb' v := fun a n c hv hn => Nat.le_trans hl (h a n c hv hn)
theorem RCustsF.mono {lb lb' : Nat} {w : World} {v : Value} {L : List Cust} (h : RCustsF lb w v L) (hl : lb' ≤ lb) : RCustsF lb' w v L := by
  obtain ⟨A, c, hv, h1, h2, h3⟩ := h
  refine ⟨A, c, hv, h1, h2, fun hn => ?_⟩
  obtain ⟨b, o, hA, hb0, hb, hc⟩ := h3 hn
  refine ⟨b, o, hA, by omega, hb, fun i x hx => ?_⟩
  obtain ⟨pv, hp, hf, hr⟩ := hc i x hx
  exact ⟨pv, hp, hf.mono hl, hr⟩
theorem RRowsF.mono {lb lb' : Nat} {w : World} {v : Value} {L : List (List Int)} (h : RRowsF lb w v L) (hl : lb' ≤ lb) : RRowsF lb' w v L := by
  obtain ⟨A, c, hv, h1, h2, h3⟩ := h
  refine ⟨A, c, hv, h1, h2, fun hn => ?_⟩
  obtain ⟨b, o, hA, hb0, hb, hc⟩ := h3 hn
  refine ⟨b, o, hA, by omega, hb, fun i x hx => ?_⟩
  obtain ⟨rv, hp, hf, hr⟩ := hc i x hx
  exact ⟨rv, hp, hf.mono hl, hr⟩
theorem Blk.own {w : World} {g lb : Nat} {e : TypeId} {cs : List Value} {n : Nat} (h : Blk w g e cs) (hb : lb ≤ g) (hn : cs.length = n) (hm : n ≤ maxLen) : w.ownsRow lb e 1 (.slice (some ⟨g, 0, none⟩) n n) n cs :=
  ⟨by omega, .inr ⟨g, n, cs.toArray, rfl, hb, h, Nat.le_refl _, hm, by simp [hn], by simp [← hn]⟩⟩
end Go.Proofs.YtigljnnjamdcnaaDoor

namespace Go.Proofs.YtigljnnjamdcnaaDoor
open Go.RowKit P06

theorem OwnCusts.mono {lb lb' : Nat} {ec ep : TypeId} {w : World} {v : Value} {L : List Cust} (h : OwnCusts lb ec ep w v L) (hl : lb' ≤ lb) : OwnCusts lb' ec ep w v L := by
  obtain ⟨pvs, g1, g2, g3⟩ := h
  exact ⟨pvs, g1, own_mono g2 hl, fun i x pv hx hq => own_mono (g3 i x pv hx hq) hl⟩
theorem OwnRows.mono {lb lb' : Nat} {er ei : TypeId} {w : World} {v : Value} {L : List (List Int)} (h : OwnRows lb er ei w v L) (hl : lb' ≤ lb) : OwnRows lb' er ei w v L := by
  obtain ⟨rvs, g2, g3⟩ := h
  exact ⟨rvs, own_mono g2 hl, fun i x pv hx hq => own_mono (g3 i x pv hx hq) hl⟩
/-- An instance, its lists of the call's own. -/
def OwnInst (lb : Nat) (ec ep er ei : TypeId) (w : World) (v : Value) (x : Inst) : Prop :=
  ∃ cv dv, v = .agg #[.int .i64 x.days, .int .i64 x.veh, .int .i64 x.cap, .int .i64 x.len, cv, dv] ∧ OwnCusts lb ec ep w cv x.custs ∧ OwnRows lb er ei w dv x.dist
theorem OwnInst.readsF {lb : Nat} {ec ep er ei : TypeId} {w : World} {v : Value} {x : Inst} (h : OwnInst lb ec ep er ei w v x) : RInstF lb w v x := by
  obtain ⟨cv, dv, hv, h1, h2⟩ := h
  exact ⟨cv, dv, hv, h1.reads, h2.reads⟩
theorem OwnInst.reads {lb : Nat} {ec ep er ei : TypeId} {w : World} {v : Value} {x : Inst} (h : OwnInst lb ec ep er ei w v x) : RInst w v x := by
  obtain ⟨cv, dv, hv, h1, h2⟩ := h
  exact ⟨cv, dv, hv, h1.reads.plain, h2.reads.plain⟩
theorem OwnInst.below {lb : Nat} {ec ep er ei : TypeId} {w w' : World} {v : Value} {x : Inst} {B : Nat} (h : OwnInst lb ec ep er ei w v x) (hb : Below B w w') (hB : w.heap.size ≤ B) : OwnInst lb ec ep er ei w' v x := by
  obtain ⟨cv, dv, hv, h1, h2⟩ := h
  exact ⟨cv, dv, hv, h1.below hb hB, h2.below hb hB⟩

/-- A cell that held something else stays as it is. -/
theorem cell_else {w : World} {p q : Addr} {u u0 v : Value} (h : w.cell? q = some v) (hp : w.cell? p = some u0) (hne : u0 ≠ v) : (w.setCell p u).cell? q = some v := by
  by_cases e : p = q
  · subst e; rw [hp] at h; injection h with h; exact absurd h hne
  · exact (World.cell?_setCell_other w p q u e).trans h
theorem cell_same {w : World} {p q : Addr} {u v : Value} (h : w.cell? q = some v) : (w.setCell p u).cell? q = some (if p = q then u else v) := by
  by_cases e : p = q
  · subst e; rw [if_pos rfl]; exact World.cell?_setCell_same w p u h
  · rw [if_neg e]; exact (World.cell?_setCell_other w p q u e).trans h
theorem list_choice {α β : Type} {P : Nat → β → Prop} (L : List α) (h : ∀ (i : Nat) (x : α), L[i]? = some x → ∃ y, P i y) : ∃ L' : List β, L'.length = L.length ∧ ∀ (i : Nat) (y : β), L'[i]? = some y → P i y := by
  have h' : ∀ i : Fin L.length, ∃ y, P i y := fun i => h i L[i] (List.getElem?_eq_getElem i.2)
  refine ⟨List.ofFn fun i => (h' i).choose, by simp, fun i y hy => ?_⟩
  obtain ⟨hi, rfl⟩ := List.getElem?_eq_some_iff.1 hy
  have hi' : i < L.length := by simpa using hi
  simpa using (h' ⟨i, hi'⟩).choose_spec

theorem RInts.set_ {w : World} {v : Value} {l : List Int} {p : Addr} {z : Int} (h : RInts w .i64 v l) (hz : W64 z) (hl : ∀ y ∈ l, W64 y) :
    ∃ l' : List Int, l'.length = l.length ∧ RInts (w.setCell p (.int .i64 z)) .i64 v l' ∧ ∀ y ∈ l', W64 y := by
  obtain ⟨A, c, rfl, h1, h2, h3, h4⟩ := h
  by_cases hn : 0 < l.length
  · obtain ⟨b, o, rfl, hb, hc⟩ := h4 hn
    refine ⟨l.mapIdx fun j y => if p = ⟨b, o + j, none⟩ then z else y, by simp, ?_, fun y hy => ?_⟩
    · refine ⟨_, c, by simp, by simpa using h1, h2, by simp, fun _ => ⟨b, o, rfl, by simpa using hb, fun j u hu => ?_⟩⟩
      rw [List.getElem?_map, List.getElem?_mapIdx] at hu
      cases hlj : l[j]? with
      | none => simp [hlj] at hu
      | some y =>
        simp only [hlj, Option.map_some, Option.some.injEq] at hu
        subst hu
        rw [cell_same (hc j (.int .i64 y) (by simp [hlj]))]
        split <;> rfl
    · rw [List.mem_mapIdx] at hy
      obtain ⟨i, hi, rfl⟩ := hy
      split
      · exact hz
      · exact hl _ (List.getElem_mem hi)
  · obtain rfl : l = [] := List.eq_nil_of_length_eq_zero (by omega)
    exact ⟨[], rfl, ⟨A, c, rfl, h1, h2, by simp, fun h => absurd h (by simp)⟩, fun y hy => by simp at hy⟩
theorem RPats.set_ {w : World} {v : Value} {l : List Nat} {p : Addr} {z z0 : Int} (h : RPats w v l) (hp : w.cell? p = some (.int .i64 z0)) : RPats (w.setCell p (.int .i64 z)) v l := by
  obtain ⟨A, c, hv, h1, h2, h3, h4⟩ := h
  refine ⟨A, c, hv, h1, h2, h3, fun hn => ?_⟩
  obtain ⟨b, o, hA, hb, hc⟩ := h4 hn
  refine ⟨b, o, hA, by simpa using hb, fun j u hu => ?_⟩
  refine cell_else (hc j u hu) hp (fun he => ?_)
  rw [List.getElem?_map] at hu
  cases hlj : (l.map Int.ofNat)[j]? with
  | none => simp [hlj] at hu
  | some y =>
    simp only [hlj, Option.map_some, Option.some.injEq] at hu
    subst hu
    cases he
theorem RCusts.set_ {w : World} {v : Value} {L : List Cust} {p : Addr} {z z0 : Int} (h : RCusts w v L) (hp : w.cell? p = some (.int .i64 z0)) (hz : W64 z) (hw : ∀ c ∈ L, c.wf) :
    ∃ L' : List Cust, L'.length = L.length ∧ RCusts (w.setCell p (.int .i64 z)) v L' ∧ ∀ c ∈ L', c.wf := by
  obtain ⟨A, c, rfl, h1, h2, h4⟩ := h
  by_cases hn : 0 < L.length
  · obtain ⟨b, o, rfl, hb, hc⟩ := h4 hn
    have hq : ∀ (i : Nat) (x : Cust), L[i]? = some x → ∃ y : Cust, (∃ pv, RPats (w.setCell p (.int .i64 z)) pv y.pats ∧
        (w.setCell p (.int .i64 z)).cell? ⟨b, o + i * 8, none⟩ = some (.int .i64 y.kind) ∧ (w.setCell p (.int .i64 z)).cell? ⟨b, o + i * 8 + 1, none⟩ = some (.int .i64 y.demand) ∧ (w.setCell p (.int .i64 z)).cell? ⟨b, o + i * 8 + 2, none⟩ = some pv ∧
        (w.setCell p (.int .i64 z)).cell? ⟨b, o + i * 8 + 3, none⟩ = some (.int .i64 y.rate) ∧ (w.setCell p (.int .i64 z)).cell? ⟨b, o + i * 8 + 4, none⟩ = some (.int .i64 y.size) ∧ (w.setCell p (.int .i64 z)).cell? ⟨b, o + i * 8 + 5, none⟩ = some (.int .i64 y.start) ∧
        (w.setCell p (.int .i64 z)).cell? ⟨b, o + i * 8 + 6, none⟩ = some (.int .i64 y.rule) ∧ (w.setCell p (.int .i64 z)).cell? ⟨b, o + i * 8 + 7, none⟩ = some (.int .i64 y.hold)) ∧ y.wf := by
      intro i x hx
      obtain ⟨pv, hpv, k0, k1, k2, k3, k4, k5, k6, k7⟩ := hc i x hx
      have hs : ∀ (k : Nat) (y : Int), w.cell? ⟨b, k, none⟩ = some (.int .i64 y) → W64 y → ∃ y', (w.setCell p (.int .i64 z)).cell? ⟨b, k, none⟩ = some (.int .i64 y') ∧ W64 y' := by
        intro k y hk hy
        by_cases e : p = ⟨b, k, none⟩
        · exact ⟨z, by rw [cell_same hk, if_pos e], hz⟩
        · exact ⟨y, by rw [cell_same hk, if_neg e], hy⟩
      obtain ⟨w0, w1, w2, w3, w4, w5, w6, w7⟩ := hw x (List.mem_of_getElem? hx)
      obtain ⟨y0, a0, b0⟩ := hs _ _ k0 w0
      obtain ⟨y1, a1, b1⟩ := hs _ _ k1 w1
      obtain ⟨y3, a3, b3⟩ := hs _ _ k3 w3
      obtain ⟨y4, a4, b4⟩ := hs _ _ k4 w4
      obtain ⟨y5, a5, b5⟩ := hs _ _ k5 w5
      obtain ⟨y6, a6, b6⟩ := hs _ _ k6 w6
      obtain ⟨y7, a7, b7⟩ := hs _ _ k7 w7
      have hpr := hpv.set_ (z := z) hp
      obtain ⟨Ap, cp, rfl, _⟩ := hpv
      exact ⟨⟨y0, y1, x.pats, y3, y4, y5, y6, y7⟩, ⟨_, hpr, a0, a1, cell_else k2 hp (fun he => by cases he), a3, a4, a5, a6, a7⟩, b0, b1, w2, b3, b4, b5, b6, b7⟩
    obtain ⟨L', hl, hL⟩ := list_choice L hq
    refine ⟨L', hl, ⟨_, c, by rw [hl], by omega, h2, fun _ => ⟨b, o, rfl, by simpa using hb, fun i y hy => (hL i y hy).1⟩⟩, fun y hy => ?_⟩
    obtain ⟨i, hi⟩ := List.mem_iff_getElem?.1 hy
    exact (hL i y hi).2
  · obtain rfl : L = [] := List.eq_nil_of_length_eq_zero (by omega)
    exact ⟨[], rfl, ⟨A, c, rfl, h1, h2, fun h => absurd h (by simp)⟩, fun y hy => by simp at hy⟩
theorem RRows.set_ {w : World} {v : Value} {L : List (List Int)} {p : Addr} {z z0 : Int} (h : RRows w v L) (hp : w.cell? p = some (.int .i64 z0)) (hz : W64 z) (hw : ∀ r ∈ L, ∀ y ∈ r, W64 y) :
    ∃ L' : List (List Int), L'.length = L.length ∧ RRows (w.setCell p (.int .i64 z)) v L' ∧ ∀ r ∈ L', ∀ y ∈ r, W64 y := by
  obtain ⟨A, c, rfl, h1, h2, h4⟩ := h
  by_cases hn : 0 < L.length
  · obtain ⟨b, o, rfl, hb, hc⟩ := h4 hn
    have hq : ∀ (i : Nat) (x : List Int), L[i]? = some x → ∃ y : List Int, (∃ rv, RInts (w.setCell p (.int .i64 z)) .i64 rv y ∧ (w.setCell p (.int .i64 z)).cell? ⟨b, o + i, none⟩ = some rv) ∧ ∀ u ∈ y, W64 u := by
      intro i x hx
      obtain ⟨rv, hrv, hcell⟩ := hc i x hx
      obtain ⟨l', _, hl', hw'⟩ := hrv.set_ (p := p) hz (hw x (List.mem_of_getElem? hx))
      obtain ⟨Ap, cp, rfl, _⟩ := hrv
      exact ⟨l', ⟨_, hl', cell_else hcell hp (fun he => by cases he)⟩, hw'⟩
    obtain ⟨L', hl, hL⟩ := list_choice L hq
    refine ⟨L', hl, ⟨_, c, by rw [hl], by omega, h2, fun _ => ⟨b, o, rfl, by simpa using hb, fun i y hy => (hL i y hy).1⟩⟩, fun y hy => ?_⟩
    obtain ⟨i, hi⟩ := List.mem_iff_getElem?.1 hy
    exact (hL i y hi).2
  · obtain rfl : L = [] := List.eq_nil_of_length_eq_zero (by omega)
    exact ⟨[], rfl, ⟨A, c, rfl, h1, h2, fun h => absurd h (by simp)⟩, fun y hy => by simp at hy⟩
/-- An instance over which a number is written somewhere over a number is an instance still. -/
theorem RInst.set_ {w : World} {v : Value} {x : Inst} {p : Addr} {z z0 : Int} (h : RInst w v x) (hp : w.cell? p = some (.int .i64 z0)) (hz : W64 z) (hw : x.wf) :
    ∃ x' : Inst, RInst (w.setCell p (.int .i64 z)) v x' ∧ x'.wf ∧ x'.custs.length = x.custs.length := by
  obtain ⟨cv, dv, rfl, h1, h2⟩ := h
  obtain ⟨w0, w1, w2, w3, w4, w5⟩ := hw
  obtain ⟨L, l1, l2, l3⟩ := h1.set_ hp hz w4
  obtain ⟨D, d1, d2, d3⟩ := h2.set_ hp hz w5
  exact ⟨⟨x.days, x.veh, x.cap, x.len, L, D⟩, ⟨cv, dv, rfl, l2, d2⟩, ⟨w0, w1, w2, w3, l3, d3⟩, l1⟩
theorem RRows.take {w : World} {A : Option Addr} {c k : Nat} {L : List (List Int)} (h : RRows w (.slice A L.length c) L) (hk : k ≤ L.length) : RRows w (.slice A k c) (L.take k) := by
  obtain ⟨A, c, hv, h1, h2, h4⟩ := h
  injection hv with e1 e2 e3
  subst e1; subst e3
  refine ⟨_, _, by rw [List.length_take, Nat.min_eq_left hk], by rw [List.length_take]; omega, h2, fun hn => ?_⟩
  rw [List.length_take] at hn
  obtain ⟨b, o, hA, hb, hc⟩ := h4 (by omega)
  refine ⟨b, o, hA, hb, fun i r hr => ?_⟩
  rw [List.getElem?_take] at hr
  split at hr
  · exact hc i r hr
  · cases hr
theorem RCusts.take {w : World} {A : Option Addr} {c k : Nat} {L : List Cust} (h : RCusts w (.slice A L.length c) L) (hk : k ≤ L.length) : RCusts w (.slice A k c) (L.take k) := by
  obtain ⟨A, c, hv, h1, h2, h4⟩ := h
  injection hv with e1 e2 e3
  subst e1; subst e3
  refine ⟨_, _, by rw [List.length_take, Nat.min_eq_left hk], by rw [List.length_take]; omega, h2, fun hn => ?_⟩
  rw [List.length_take] at hn
  obtain ⟨b, o, hA, hb, hc⟩ := h4 (by omega)
  refine ⟨b, o, hA, hb, fun i r hr => ?_⟩
  rw [List.getElem?_take] at hr
  split at hr
  · exact hc i r hr
  · cases hr
end Go.Proofs.YtigljnnjamdcnaaDoor

namespace Go.Proofs.YtigljnnjamdcnaaDoor
open Go.RowKit P06

theorem Blk.newAt (w : World) (t : TypeId) (cs : List Value) {g : Nat} (hg : g = w.heap.size) : Blk (w.alloc (.cells cs.toArray t)) g t cs := by subst hg; exact Blk.new w t cs

theorem below_al {w0 w : World} (h : Below w0.heap.size w0 w) (o : Obj) : Below w0.heap.size w0 (w.alloc o) := h.alloc h.size o
theorem calls_at {P : Program} {f : FuncId} {args : Array Value} {w : World} {Q : Ending → World → Prop} (S : World → Prop) (hS : S w) (h : ∀ W, S W → Calls P f args W Q) : Calls P f args w Q := h w hS

theorem below_nx {w0 w w' : World} (h : Below w0.heap.size w0 w) (h2 : Below w.heap.size w w') : Below w0.heap.size w0 w' := h.trans (h2.mono h.size)

end Go.Proofs.YtigljnnjamdcnaaDoor

namespace Go.Proofs.YtigljnnjamdcnaaDoor
open Go.RowKit

theorem run_append_fresh {P : Program} (w : World) (t ty e : TypeId) (i : TypeInfo) (z : Value) (ht : P.underlying t = some (.slice e)) (hi : P.info? e = some i) (hz : i.zero = some z)
    (hzs : z.cells.size = i.size) (hsz : 0 < i.size) (A : Option Addr) (m c : Nat) (news : List Value) (hr : RS w i.size (.slice A m c) m news) (h1 : ∀ u ∈ news, u.oneCell' = true)
    (hm : m ≤ 1000000000) (hby : i.bytes ≤ 100) :
    ∃ v' w', (Builtin.append_ #[t, t] ty #[.slice none 0 0, .slice A m c]).run P w = .ok v' w' ∧ w'.ownsRow w.heap.size e i.size v' m news ∧ Below w.heap.size w w' := by
  obtain ⟨A', c', hv, g1, g2, g3, g4⟩ := hr
  injection hv with e1 _ e3
  subst e1; subst e3
  have hnil := World.ownsRow_nil w w.heap.size e i.size
  rcases A with _ | ad
  · have hm0 : m = 0 := by
      rcases Nat.eq_zero_or_pos m with h0 | h0
      · exact h0
      · obtain ⟨b, o, h, _⟩ := g4 h0
        cases h
    subst hm0
    obtain rfl : news = [] := List.eq_nil_of_length_eq_zero (by simpa using g3)
    refine ⟨.slice none 0 0, w, ?_, hnil, Below.refl _ _⟩
    simp [Builtin.append_, run_underlying ht, sizeOf, typeInfo, hi, Builtin.lenOf, Builtin.firstCells]
  · have hcells : ∀ j u, news[j]? = some u → w.cell? (ad.add j) = some u := by
      intro j u hu
      rcases Nat.eq_zero_or_pos m with h0 | h0
      · subst h0
        obtain rfl : news = [] := List.eq_nil_of_length_eq_zero (by simpa using g3)
        simp at hu
      · obtain ⟨b, o, h, _, hc⟩ := g4 h0
        injection h with h
        subst h
        have hadd : (⟨b, o, none⟩ : Addr).add j = ⟨b, o + j, none⟩ := by unfold Addr.add; split <;> simp_all
        rw [hadd]
        exact hc j u hu
    have hbb : (0 + m) * i.bytes ≤ 140737488355328 := by
      have := Nat.mul_le_mul (show 0 + m ≤ 1000000000 by omega) hby
      omega
    obtain ⟨v', w', hrun, h2, h3, _, h5⟩ := run_append_own_at (P := P) w w.heap.size t ty e i z i.size i.bytes ht hi hz rfl rfl hzs hsz (.slice none 0 0) 0 [] hnil ad m c news g3 hcells h1 (by simp only [maxLen]; omega) hbb (Nat.le_refl _)
    refine ⟨v', w', hrun, by simpa using h2, (Below.refl _ _).grown h3 (Nat.le_refl _) (fun k hk => by simp [Value.ownBlock] at hk)⟩
theorem wp_append_fresh {P : Program} {o : Oper} {a : Act} {K : Act → World → Prop} {Q : Exit → Act → World → Prop} (w : World) (s x : Operand) (t : TypeId)
    (ho : o.op = .call { callee := .builtin .append, args := #[s, x], argTypes := #[t, t] })
    (e : TypeId) (z : Value) (size bytes : Nat) (ht : P.underlying t = some (.slice e)) (hi : (P.info? e).map (fun i => (i.zero, i.size, i.bytes)) = some (some z, size, bytes))
    (hzs : z.cells.size = size) (hsz : 0 < size) (hby : bytes ≤ 100)
    (A : Option Addr) (m c : Nat) (news : List Value) (hs : a.eval s = .slice none 0 0) (hx : a.eval x = .slice A m c) (hr : RS w size (.slice A m c) m news) (h1 : news.all (fun u => u.oneCell') = true)
    (hm : m ≤ 1000000000)
    (h : ∀ v' w', w'.ownsRow w.heap.size e size v' m news → Below w.heap.size w w' → K (a.put o.dst v') w') : o.wp P a w K Q := by
  obtain ⟨i, hii, hz, hs1, hb1⟩ := info_parts hi
  subst hs1; subst hb1
  obtain ⟨v', w', hrun, h2, h3⟩ := run_append_fresh (P := P) w t o.type e i z ht hii hz hzs hsz A m c news hr (fun u hu => List.all_eq_true.1 h1 u hu) hm hby
  unfold Oper.wp execOp
  simp only [ho, resolve, invoke, builtin, Sem.run_bind, Sem.run_pure, Result.andThen_ok, List.map_toArray, List.map_cons, List.map_nil, hs, hx, hrun]
  exact h v' w' h2 h3
theorem wpList_append_fresh {P : Program} {ops : Array Oper} {rest : List Oper} {o : Oper} {a : Act} {Q : Exit → Act → World → Prop} (w : World) (hgd : o.guard = none) (s x : Operand) (t : TypeId)
    (ho : o.op = .call { callee := .builtin .append, args := #[s, x], argTypes := #[t, t] })
    (e : TypeId) (z : Value) (size bytes : Nat) (ht : P.underlying t = some (.slice e)) (hi : (P.info? e).map (fun i => (i.zero, i.size, i.bytes)) = some (some z, size, bytes))
    (hzs : z.cells.size = size) (hsz : 0 < size) (hby : bytes ≤ 100)
    (A : Option Addr) (m c : Nat) (news : List Value) (hs : a.eval s = .slice none 0 0) (hx : a.eval x = .slice A m c) (hr : RS w size (.slice A m c) m news) (h1 : news.all (fun u => u.oneCell') = true)
    (hm : m ≤ 1000000000)
    (h : ∀ v' w', w'.ownsRow w.heap.size e size v' m news → Below w.heap.size w w' → wpList P ops Q rest (a.put o.dst v') w') : wpList P ops Q (o :: rest) a w :=
  wpList_plain hgd fun _ hK => wp_append_fresh w s x t ho e z size bytes ht hi hzs hsz hby A m c news hs hx hr h1 hm fun v' w' h2 h3 => hK _ _ (h v' w' h2 h3)
theorem RPats.rs {w : World} {v : Value} {l : List Nat} (h : RPats w v l) : RS w 1 v l.length (l.map fun (s : Nat) => Value.int .u64 (s : Int)) := by
  unfold RPats RInts at h
  rw [List.length_map, List.map_map] at h
  exact h
theorem Blk.newAt' (w : World) (t : TypeId) (cs : List Value) {g : Nat} (hg : g = w.heap.size) : Blk (w.alloc (.cells cs.toArray t)) g t cs := by subst hg; exact Blk.new w t cs
end Go.Proofs.YtigljnnjamdcnaaDoor

namespace Go.Proofs.YtigljnnjamdcnaaDoor
open Go.RowKit

theorem run_append_none {P : Program} (w : World) (base : Nat) (t ty e : TypeId) (i : TypeInfo) (ht : P.underlying t = some (.slice e)) (hi : P.info? e = some i)
    (v : Value) (n : Nat) (xs : List Value) (hown : w.ownsRow base e i.size v n xs) (c : Nat) : (Builtin.append_ #[t, t] ty #[v, .slice none 0 c]).run P w = .ok v w := by
  rcases hown.2 with ⟨rfl, rfl⟩ | ⟨g, cap, cur, rfl, _, _, hnc, _⟩
  · simp [Builtin.append_, run_underlying ht, sizeOf, typeInfo, hi, Builtin.lenOf, Builtin.firstCells]
  · simp [Builtin.append_, run_underlying ht, sizeOf, typeInfo, hi, Builtin.lenOf, Builtin.firstCells, hnc, storeCells]
theorem run_append_many {P : Program} (w : World) (base : Nat) (t ty e : TypeId) (i : TypeInfo) (z : Value) (ht : P.underlying t = some (.slice e)) (hi : P.info? e = some i) (hz : i.zero = some z)
    (hzs : z.cells.size = i.size) (hsz : 0 < i.size) (v : Value) (n : Nat) (xs : List Value) (hown : w.ownsRow base e i.size v n xs)
    (A : Option Addr) (m c : Nat) (news : List Value) (hr : RS w i.size (.slice A m c) m news) (h1 : ∀ u ∈ news, u.oneCell' = true)
    (hm : n + m ≤ 1000000000) (hby : i.bytes ≤ 100) (hbase : base ≤ w.heap.size) :
    ∃ v' w', (Builtin.append_ #[t, t] ty #[v, .slice A m c]).run P w = .ok v' w' ∧ w'.ownsRow base e i.size v' (n + m) (xs ++ news) ∧ w.grownBy w' v.ownBlock := by
  obtain ⟨A', c', hv, g1, g2, g3, g4⟩ := hr
  injection hv with e1 _ e3
  subst e1; subst e3
  rcases A with _ | ad
  · have hm0 : m = 0 := by
      rcases Nat.eq_zero_or_pos m with h0 | h0
      · exact h0
      · obtain ⟨b, o, h, _⟩ := g4 h0
        cases h
    subst hm0
    obtain rfl : news = [] := List.eq_nil_of_length_eq_zero (by simpa using g3)
    exact ⟨v, w, run_append_none w base t ty e i ht hi v n xs hown c, by simpa using hown, World.grownBy.refl w _⟩
  · have hcells : ∀ j u, news[j]? = some u → w.cell? (ad.add j) = some u := by
      intro j u hu
      rcases Nat.eq_zero_or_pos m with h0 | h0
      · subst h0
        obtain rfl : news = [] := List.eq_nil_of_length_eq_zero (by simpa using g3)
        simp at hu
      · obtain ⟨b, o, h, _, hc⟩ := g4 h0
        injection h with h
        subst h
        have hadd : (⟨b, o, none⟩ : Addr).add j = ⟨b, o + j, none⟩ := by unfold Addr.add; split <;> simp_all
        rw [hadd]
        exact hc j u hu
    have hbb : (n + m) * i.bytes ≤ 140737488355328 := by
      have := Nat.mul_le_mul hm hby
      omega
    obtain ⟨v', w', hrun, h2, h3, _, _⟩ := run_append_own_at (P := P) w base t ty e i z i.size i.bytes ht hi hz rfl rfl hzs hsz v n xs hown ad m c news g3 hcells h1 (by simp only [maxLen]; omega) hbb hbase
    exact ⟨v', w', hrun, h2, h3⟩
/-- What an append may turn, the source not laid anew. -/
theorem Keep.of_grown' {e : TypeId} {base size n : Nat} {w w' : World} {v : Value} {xs : List Value} (ho : w.ownsRow base e size v n xs) (hg : w.grownBy w' v.ownBlock) : Keep e base w w' := by
  refine ⟨hg.os, hg.tape, hg.output, hg.size, fun k hk hor => ?_⟩
  rw [hg.block k hk (fun he => ?_)]
  rcases ho.2 with ⟨rfl, _⟩ | ⟨g, cap, cur, rfl, hbg, hgg, _⟩
  · simp [Value.ownBlock] at he
  · simp [Value.ownBlock] at he
    subst he
    rcases hor with h | h
    · omega
    · exact h _ _ hgg
theorem wpList_append_many {P : Program} {ops : Array Oper} {rest : List Oper} {o : Oper} {a : Act} {Q : Exit → Act → World → Prop} (w : World) (hgd : o.guard = none) (s x : Operand) (t : TypeId)
    (ho : o.op = .call { callee := .builtin .append, args := #[s, x], argTypes := #[t, t] })
    (base : Nat) (e : TypeId) (z : Value) (size bytes : Nat) (ht : P.underlying t = some (.slice e)) (hi : (P.info? e).map (fun i => (i.zero, i.size, i.bytes)) = some (some z, size, bytes))
    (hzs : z.cells.size = size) (hsz : 0 < size) (hby : bytes ≤ 100)
    (v : Value) (n : Nat) (xs : List Value) (hown : w.ownsRow base e size v n xs) (hs : a.eval s = v)
    (A : Option Addr) (m c : Nat) (news : List Value) (hx : a.eval x = .slice A m c) (hr : RS w size (.slice A m c) m news) (h1 : news.all (fun u => u.oneCell') = true)
    (hm : n + m ≤ 1000000000) (hbase : base ≤ w.heap.size)
    (h : ∀ v' w', w'.ownsRow base e size v' (n + m) (xs ++ news) → Keep e base w w' → wpList P ops Q rest (a.put o.dst v') w') : wpList P ops Q (o :: rest) a w := by
  refine wpList_plain hgd fun K hK => ?_
  obtain ⟨i, hii, hz, hs1, hb1⟩ := info_parts hi
  subst hs1; subst hb1
  obtain ⟨v', w', hrun, h2, h3⟩ := run_append_many (P := P) w base t o.type e i z ht hii hz hzs hsz v n xs hown A m c news hr (fun u hu => List.all_eq_true.1 h1 u hu) hm hby hbase
  unfold Oper.wp execOp
  simp only [ho, resolve, invoke, builtin, Sem.run_bind, Sem.run_pure, Result.andThen_ok, List.map_toArray, List.map_cons, List.map_nil, hs, hx, hrun]
  exact hK _ _ (h v' w' h2 (Keep.of_grown' hown h3))
end Go.Proofs.YtigljnnjamdcnaaDoor

namespace Go.Proofs.YtigljnnjamdcnaaDoor
open Go.RowKit

theorem wpListIn_append_one {F : Fence} {n : Nat} {P : Program} {ops : Array Oper} {rest : List Oper} {o : Oper} {a : Act} {Q : Exit → Act → World → Prop} (w : World) (hgd : o.guard = none) (s x : Operand) (t : TypeId)
    (ho : o.op = .call { callee := .builtin .append, args := #[s, x], argTypes := #[t, t] })
    (base : Nat) (e : TypeId) (z : Value) (size bytes : Nat) (ht : P.underlying t = some (.slice e)) (hi : (P.info? e).map (fun i => (i.zero, i.size, i.bytes)) = some (some z, size, bytes))
    (hzs : z.cells.size = size) (hsz : 0 < size) (hby : bytes ≤ 100)
    (v : Value) (k : Nat) (xs : List Value) (hown : w.ownsRow base e size v k xs) (hs : a.eval s = v)
    (news : List Value) (c : Nat) (hx : a.eval x = .slice (some ⟨w.heap.size, 0, none⟩) 1 c) (hl : news.length = size) (h1 : news.all (fun u => u.oneCell') = true)
    (hn : k ≤ 1000000000) (hbase : base ≤ w.heap.size)
    (h : ∀ g cap w', w'.ownsRow base e size (.slice (some ⟨g, 0, none⟩) (k + 1) cap) (k + 1) (xs ++ news) → (w.alloc (.cells news.toArray e)).grownBy w' v.ownBlock →
      wpListIn F n P ops Q rest (a.put o.dst (.slice (some ⟨g, 0, none⟩) (k + 1) cap)) w') : wpListIn F n P ops Q (o :: rest) a (w.alloc (.cells news.toArray e)) := by
  obtain ⟨i, hi, hz, hs1, hb1⟩ := info_parts hi
  refine wpListIn_append_own (P := P) (w.alloc (.cells news.toArray e)) hgd s x t ho base e i z size bytes ht hi hz hs1 hb1 hzs hsz v k xs hs (hown.alloc _) ⟨w.heap.size, 0, none⟩ 1 c news hx (by omega)
    (fun j u hu => ?_) (fun u hu => List.all_eq_true.1 h1 u hu) (by simp only [maxLen]; omega) ?_ (by simp; omega) (fun v' w' h1 hg _ => ?_)
  · have hadd : (⟨w.heap.size, 0, none⟩ : Addr).add j = ⟨w.heap.size, j, none⟩ := by unfold Addr.add; split <;> simp_all
    rw [hadd, (Blk.new w e news).cell]; exact hu
  · have := Nat.mul_le_mul (show k + 1 ≤ 1000000001 by omega) hby; omega
  · obtain ⟨g, cap, rfl⟩ := ownsRow_succ h1
    exact h g cap w' h1 hg
theorem Blk.ofGrown {X Y : World} {g : Nat} {t : TypeId} {cs : List Value} {row : Option Nat} (h : Blk X g t cs) (hg : X.grownBy Y row) (hr : ∀ r, row = some r → ∃ o : Obj, X.heap[r]? = some o ∧ o.isCells = false) : Blk Y g t cs :=
  (hg.block g h.lt (fun e => by obtain ⟨o, ho, hc⟩ := hr g e.symm; unfold Blk at h; rw [h] at ho; cases ho; cases hc)).trans h
theorem Blk.ofKept {X Y : World} {g : Nat} {t : TypeId} {cs : List Value} {row : Option Nat} (h : Blk X g t cs) (hg : X.grownBy Y row) (hr : some g ≠ row) : Blk Y g t cs := (hg.block g h.lt hr).trans h
/-- A slice's own row is not a block of another type. -/
theorem Blk.not_row {W : World} {B : Nat} {t e : TypeId} {cs : List Value} (h : Blk W B t cs) (hte : t ≠ e) {base size k : Nat} {v : Value} {xs : List Value} (hr : W.ownsRow base e size v k xs) : some B ≠ v.ownBlock := by
  rcases hr.2 with ⟨rfl, _⟩ | ⟨g, cap, cur, rfl, _, hgb, _⟩
  · simp [Value.ownBlock]
  · intro e'
    obtain rfl : B = g := by simpa [Value.ownBlock] using e'
    have := (show W.heap[B]? = _ from h).symm.trans hgb
    simp at this
    exact hte this.2
theorem blk_ownF {β : Type} (B g : Nat) (t : TypeId) (cs : List Value) : OwnFrom B (fun (_ : β) W => Blk W g t cs) := fun _ _ _ _ hb hg hr => hb.ofGrown hg fun r e => (hr r e).2
/-- 'v = append(v, x, y ..)', at an operation: elements of one cell. -/
theorem wp_append_els {P : Program} {o : Oper} {a : Act} {K : Act → World → Prop} {Q : Exit → Act → World → Prop} (w : World) (s x : Operand) (t : TypeId)
    (ho : o.op = .call { callee := .builtin .append, args := #[s, x], argTypes := #[t, t] })
    (base : Nat) (e : TypeId) (z : Value) (bytes : Nat) (ht : P.underlying t = some (.slice e)) (hi : (P.info? e).map (fun i => (i.zero, i.size, i.bytes)) = some (some z, 1, bytes))
    (hzs : z.cells.size = 1) (hby : bytes ≤ 100)
    (v : Value) (n : Nat) (xs : List Value) (hown : w.ownsRow base e 1 v n xs) (hs : a.eval s = v)
    (news : List Value) (m c : Nat) (hx : a.eval x = .slice (some ⟨w.heap.size, 0, none⟩) m c) (hl : news.length = m) (hm : 0 < m) (h1 : news.all (fun u => u.oneCell') = true)
    (hn : n + m ≤ 1000000000) (hbase : base ≤ w.heap.size)
    (h : ∀ g cap w', w'.ownsRow base e 1 (.slice (some ⟨g, 0, none⟩) (n + m) cap) (n + m) (xs ++ news) → base ≤ g → g < w'.heap.size → Keep e base w w' → w.heap.size < w'.heap.size →
      K (a.put o.dst (.slice (some ⟨g, 0, none⟩) (n + m) cap)) w') :
    Oper.wp P o a (w.alloc (.cells news.toArray e)) K Q := by
  obtain ⟨i, hi, hz, hs1, hb1⟩ := info_parts hi
  refine wp_append_own (P := P) (w.alloc (.cells news.toArray e)) s x t ho base e i z 1 bytes ht hi hz hs1 hb1 hzs Nat.one_pos v n xs hs (hown.alloc _) ⟨w.heap.size, 0, none⟩ m c news hx (by omega)
    (fun j u hu => ?_) (fun u hu => List.all_eq_true.1 h1 u hu) (by simp only [maxLen]; omega) ?_ (by simp; omega) (fun v' w' ho' hg _ => ?_)
  · have hadd : (⟨w.heap.size, 0, none⟩ : Addr).add j = ⟨w.heap.size, j, none⟩ := by unfold Addr.add; split <;> simp_all
    rw [hadd, (Blk.new w e news).cell]; exact hu
  · have := Nat.mul_le_mul hn hby; omega
  · rcases ho'.2 with ⟨_, h0⟩ | ⟨g, cap, cur, rfl, hbg, hgg, r⟩
    · omega
    · exact h g cap w' ho' hbg (Array.getElem?_eq_some_iff.1 hgg).1 (Keep.of_grown hown hg) (by have := hg.size; simp at this; omega)
/-- What a loop over an iterator may have laid behind the call's end. -/
theorem below_put {n₀ : Nat} {w W : World} {D : Nat} {o o' : Obj} (h : Below n₀ w W) (hn : n₀ ≤ w.heap.size) (hD : n₀ ≤ D) (_hk : W.heap[D]? = some o) : Below n₀ w (W.putObj D o') :=
  h.grown (grownBy_putObj' W D o') (by have := h.size; omega) (fun k e => by cases e; exact hD)
end Go.Proofs.YtigljnnjamdcnaaDoor
