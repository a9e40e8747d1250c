/-
  Memory words that all proofs of this family share: a slice that reads as a list of cells, kept over whatever leaves old blocks alone. No condition.
-/
import Derived.WalkKit
import Derived.WalkSpells
import Derived.Deep.AppendLies
import Derived.Deep.Draws
import Derived.Lib.Hide
namespace Go.Proofs.YtokdneolgolkbaaDoor
open Go.RowKit

/-- What 'Below' gives the walk: old cells and old marks read as before. -/
theorem bcell {B : Nat} {W w1 : World} (hb : Below B W w1) : (∀ b o, b < B → w1.cell? ⟨b, o, none⟩ = W.cell? ⟨b, o, none⟩) ∧ (∀ b o, b < B → w1.frozen? ⟨b, o, none⟩ = W.frozen? ⟨b, o, none⟩) :=
  ⟨fun b o h => hb.cell (p := ⟨b, o, none⟩) h, fun b o h => hb.frozen (p := ⟨b, o, none⟩) h⟩

theorem ret_int {k : IntKind} {a b : Int} (h : a = b) : Ending.returned (.int k a) = .returned (.int k b) := by rw [h]
theorem ret_bool {a b : Bool} (h : a = b) : Ending.returned (.bool a) = .returned (.bool b) := by rw [h]

/-- A slice value that reads as the cells xs, 'size' cells an element. -/
def RS (w : World) (size : Nat) (v : Value) (n : Nat) (xs : List Value) : Prop :=
  ∃ A c, v = .slice A n c ∧ n ≤ c ∧ c ≤ maxLen ∧ xs.length = n * size ∧
    (0 < n → ∃ b o, A = some ⟨b, o, none⟩ ∧ b < w.heap.size ∧ ∀ j u, xs[j]? = some u → w.cell? ⟨b, o + j, none⟩ = some u)

theorem RS.below {w w' : World} {size n : Nat} {v : Value} {xs : List Value} {B : Nat} (h : RS w size v n xs) (hb : Below B w w') (hB : w.heap.size ≤ B) : RS w' size v n xs := by
  obtain ⟨A, c, rfl, h1, h2, h3, h4⟩ := h
  refine ⟨A, c, rfl, h1, h2, h3, fun hn => ?_⟩
  obtain ⟨b, o, rfl, hlt, hc⟩ := h4 hn
  exact ⟨b, o, rfl, Nat.lt_of_lt_of_le hlt hb.size, fun j u hu => (hb.cell (p := ⟨b, o + j, none⟩) (by show b < B; omega)).trans (hc j u hu)⟩

theorem RS.of_own {w : World} {base : Nat} {e : TypeId} {size n : Nat} {v : Value} {xs : List Value} (h : w.ownsRow base e size v n xs) : RS w size v n xs := by
  have hl := h.1
  rcases h.2 with ⟨rfl, rfl⟩ | ⟨g, cap, cur, rfl, hb, hg, hn, hm, hs, ht⟩
  · exact ⟨none, 0, rfl, Nat.le_refl _, by simp [maxLen], hl, fun h => absurd h (by omega)⟩
  · refine ⟨_, cap, rfl, hn, hm, hl, fun _ => ⟨g, 0, rfl, (Array.getElem?_eq_some_iff.1 hg).1, fun j u hu => ?_⟩⟩
    rw [Nat.zero_add, cell_of_row w g j cur e (0, 0) hg]
    rw [← ht, List.getElem?_take] at hu
    split at hu
    · simpa using hu
    · cases hu

theorem RS.none_ (w : World) (size : Nat) : RS w size (.slice none 0 0) 0 [] := ⟨none, 0, rfl, Nat.le_refl _, by simp [maxLen], by simp, fun h => absurd h (by omega)⟩

/-- A slice of integers that reads as l. -/
def RInts (w : World) (k : IntKind) (v : Value) (l : List Int) : Prop := RS w 1 v l.length (l.map (.int k))

theorem RInts.below {w w' : World} {k : IntKind} {v : Value} {l : List Int} {B : Nat} (h : RInts w k v l) (hb : Below B w w') (hB : w.heap.size ≤ B) : RInts w' k v l := RS.below h hb hB

/-- The slice's form and, under its condition, each cell. -/
theorem RInts.open_ {w : World} {k : IntKind} {v : Value} {l : List Int} (h : RInts w k v l) : ∃ A c, v = .slice A l.length c ∧ l.length ≤ c ∧ c ≤ 9223372036854775807 ∧
    ∀ i z, l[i]? = some z → ∃ b o, A = some ⟨b, o, none⟩ ∧ b < w.heap.size ∧ w.cell? ⟨b, o + i, none⟩ = some (.int k z) := by
  obtain ⟨A, c, hv, h1, h2, _, h4⟩ := h
  refine ⟨A, c, hv, h1, by simpa [maxLen] using h2, fun i z hz => ?_⟩
  obtain ⟨b, o, hA, hb, hc⟩ := h4 (by have := (List.getElem?_eq_some_iff.1 hz).1; omega)
  exact ⟨b, o, hA, hb, hc i _ (by simp [hz])⟩

theorem int_info_ {P : Program} {e : TypeId} (h : (P.info? e).map (fun i => (i.zero, i.size, i.bytes)) = some (some (.int .i64 0), 1, 8)) : ∃ i, P.info? e = some i ∧ i.zero = some (.int .i64 0) ∧ i.size = 1 ∧ i.bytes = 8 := by
  obtain ⟨i0, hi, hz0, hz1, hz2⟩ := info_parts h
  exact ⟨i0, hi, hz0, hz1, hz2⟩

theorem lt_of_some {α : Type} {l : List α} {i : Nat} {z : α} (h : l[i]? = some z) : i < l.length := (List.getElem?_eq_some_iff.1 h).1
theorem drop_some {α : Type} {l : List α} {i : Nat} {z : α} (h : l[i]? = some z) : l.drop i = z :: l.drop (i + 1) := by
  obtain ⟨hi, rfl⟩ := List.getElem?_eq_some_iff.1 h
  exact List.drop_eq_getElem_cons hi
theorem some_of_lt {α : Type} {l : List α} {i : Nat} (h : i < l.length) : ∃ z, l[i]? = some z := ⟨l[i], List.getElem?_eq_getElem h⟩

/-- A block that is known whole, as a list of cells, none frozen. -/
def Blk (w : World) (g : Nat) (t : TypeId) (cs : List Value) : Prop := w.heap[g]? = some (.cells cs.toArray t (0, 0))
theorem Blk.lt {w : World} {g : Nat} {t : TypeId} {cs : List Value} (h : Blk w g t cs) : g < w.heap.size := (Array.getElem?_eq_some_iff.1 h).1
theorem Blk.cell {w : World} {g : Nat} {t : TypeId} {cs : List Value} (h : Blk w g t cs) (i : Nat) : w.cell? ⟨g, i, none⟩ = cs[i]? := by rw [cell_of_row w g i cs.toArray t (0, 0) h]; simp
theorem Blk.frozen {w : World} {g : Nat} {t : TypeId} {cs : List Value} (h : Blk w g t cs) (i : Nat) : w.frozen? ⟨g, i, none⟩ = false := by
  unfold Blk at h; simp [World.frozen?, h]
theorem Blk.new (w : World) (t : TypeId) (cs : List Value) : Blk (w.alloc (.cells cs.toArray t)) w.heap.size t cs := heap_alloc_new w _
theorem Blk.drew {w : World} {g : Nat} {t : TypeId} {cs : List Value} (h : Blk w g t cs) : Blk w.drew g t cs := h
theorem Blk.drewN {w : World} {g : Nat} {t : TypeId} {cs : List Value} (h : Blk w g t cs) (n : Nat) : Blk (w.drewN n) g t cs := h
theorem Blk.set_ {w : World} {g : Nat} {t : TypeId} {cs : List Value} (h : Blk w g t cs) (i : Nat) (u : Value) : Blk (w.setCell ⟨g, i, none⟩ u) g t (cs.set i u) := by
  unfold Blk at h ⊢
  simp [World.setCell, Array.getElem?_modify, h]
theorem Blk.far {w : World} {g : Nat} {t : TypeId} {cs : List Value} (h : Blk w g t cs) {p : Addr} (hp : g ≠ p.block) (u : Value) : Blk (w.setCell p u) g t cs := (Below.heap_setCell w p u g hp).trans h
theorem Blk.below {w w' : World} {g : Nat} {t : TypeId} {cs : List Value} {B : Nat} (h : Blk w g t cs) (hb : Below B w w') (hg : g < B) : Blk w' g t cs := (hb.block g hg).trans h
theorem Blk.alloc {w : World} {g : Nat} {t : TypeId} {cs : List Value} (h : Blk w g t cs) (o : Obj) : Blk (w.alloc o) g t cs := (Below.heap_alloc w o g h.lt).trans h
theorem Blk.RS {w : World} {g : Nat} {t : TypeId} {cs : List Value} (h : Blk w g t cs) {size n cap : Nat} (hn : n ≤ cap) (hc : cap ≤ maxLen) (hs : n * size ≤ cs.length) : RS w size (.slice (some ⟨g, 0, none⟩) n cap) n (cs.take (n * size)) := by
  refine ⟨_, cap, rfl, hn, hc, by simp; omega, fun _ => ⟨g, 0, rfl, h.lt, fun j u hu => ?_⟩⟩
  rw [Nat.zero_add, h.cell]
  rw [List.getElem?_take] at hu
  split at hu
  · exact hu
  · cases hu

theorem Blk.RInts {w : World} {g : Nat} {t : TypeId} {k : IntKind} {l : List Int} {n cap : Nat} (h : Blk w g t (l.map (.int k))) (hl : l.length = n) (hn : n ≤ cap) (hc : cap ≤ maxLen) : RInts w k (.slice (some ⟨g, 0, none⟩) n cap) l := by
  subst hl
  have := h.RS (size := 1) hn hc (by simp)
  rwa [Nat.mul_one, List.take_of_length_le (by simp)] at this
theorem Blk.grown {w w' : World} {g : Nat} {t : TypeId} {cs : List Value} {row : Option Nat} (h : Blk w g t cs) (hb : w.grownBy w' row) (hg : some g ≠ row) : Blk w' g t cs := (hb.block g h.lt hg).trans h
/-- 'v = append(v, x)': one element, which the walk has laid in a block of its own. -/
theorem wpList_append_one {P : Program} {ops : Array Oper} {rest : List Oper} {o : Oper} {a : Act} {Q : Exit → Act → World → Prop} (w : World) (hgd : o.guard = none) (s x : Operand) (t : TypeId)
    (ho : o.op = .call { callee := .builtin .append, args := #[s, x], argTypes := #[t, t] })
    (base : Nat) (e : TypeId) (z : Value) (size bytes : Nat) (ht : P.underlying t = some (.slice e)) (hi : (P.info? e).map (fun i => (i.zero, i.size, i.bytes)) = some (some z, size, bytes))
    (hzs : z.cells.size = size) (hsz : 0 < size) (hby : bytes ≤ 100)
    (v : Value) (n : Nat) (xs : List Value) (hown : w.ownsRow base e size v n xs) (hs : a.eval s = v)
    (news : List Value) (c : Nat) (hx : a.eval x = .slice (some ⟨w.heap.size, 0, none⟩) 1 c) (hl : news.length = size) (h1 : news.all (fun u => u.oneCell') = true)
    (hn : n ≤ 1000000000) (hbase : base ≤ w.heap.size)
    (h : ∀ v' w', w'.ownsRow base e size v' (n + 1) (xs ++ news) → Below base w w' → w.heap.size < w'.heap.size → wpList P ops Q rest (a.put o.dst v') w') : wpList P ops Q (o :: rest) a (w.alloc (.cells news.toArray e)) := by
  obtain ⟨i, hi, hz, hs1, hb1⟩ := info_parts hi
  refine wpList_append_own (P := P) (w.alloc (.cells news.toArray e)) hgd s x t ho base e i z size bytes ht hi hz hs1 hb1 hzs hsz v n xs hs (hown.alloc _) ⟨w.heap.size, 0, none⟩ 1 c news hx (by omega)
    (fun j u hu => ?_) (fun u hu => List.all_eq_true.1 h1 u hu) (by simp only [maxLen]; omega) ?_ (by simp; omega) (fun v' w' h1 hg _ => h v' w' h1 ?_ ?_)
  · have hadd : (⟨w.heap.size, 0, none⟩ : Addr).add j = ⟨w.heap.size, j, none⟩ := by unfold Addr.add; split <;> simp_all
    rw [hadd, (Blk.new w e news).cell]; exact hu
  · have := Nat.mul_le_mul (show n + 1 ≤ 1000000001 by omega) hby; omega
  · exact ((Below.refl _ _).alloc hbase _).grown hg (by simp; omega) (fun k hk => (hown.lt k hk).1)
  · have := hg.size; simp at this; omega

/-- n noughts. -/
def zeros (n : Nat) : List Value := List.replicate n (.int .i64 0)
theorem zeros_len (n : Nat) : (zeros n).length = n := by simp [zeros]
theorem made_zeros (n : Nat) : madeCells (Value.int .i64 0).cells n = (zeros n).toArray := by
  apply Array.ext'
  simp [madeCells, zeros, Value.cells, Array.toList_range]
  apply List.ext_getElem
  · simp
  · intro i _ _
    simp [Nat.mod_one]
theorem fill_get {l : List Int} {n k : Nat} (hl : l.length = n) (hk : k < n) : ((l.take k).map (Value.int .i64) ++ zeros (n - k))[k]? = some (.int .i64 0) := by
  rw [List.getElem?_append_right (by simp; omega), List.length_map, List.length_take, hl, Nat.min_eq_left (by omega), Nat.sub_self, zeros, List.getElem?_replicate, if_pos (by omega)]
theorem fill_set {l : List Int} {n k : Nat} {z : Int} (hl : l.length = n) (hz : l[k]? = some z) :
    ((l.take k).map (Value.int .i64) ++ zeros (n - k)).set k (.int .i64 z) = (l.take (k + 1)).map (Value.int .i64) ++ zeros (n - (k + 1)) := by
  have hk := lt_of_some hz
  have e : n - k = (n - (k + 1)) + 1 := by omega
  rw [List.set_append_right _ _ (by simp; omega), List.length_map, List.length_take, hl, Nat.min_eq_left (by omega), Nat.sub_self, e]
  rw [List.take_add_one, hz]
  simp [zeros, List.replicate_succ]
theorem run_make_ints {P : Program} {t e : TypeId} (ht : P.underlying t = some (.slice e)) (hi : (P.info? e).map (fun i => (i.zero, i.size, i.bytes)) = some (some (.int .i64 0), 1, 8))
    (n : Nat) (z : Int) (hz : z = n) (hn : n ≤ 1000000) (w : World) :
    (Instr.makeSlice t (.int .i64 z) (.int .i64 z)).run P w = .ok (.slice (some ⟨w.heap.size, 0, none⟩) n n) (w.alloc (.cells (zeros n).toArray e)) := by
  obtain ⟨i, hi, h0, h1, h8⟩ := int_info_ hi
  subst hz
  have h := run_make (P := P) w t e i _ ht hi h0 .i64 .i64 (n : Int) (n : Int) (by omega) (by omega) (by rw [h8]; omega) (by omega)
  rw [h, Int.toNat_natCast, h1, Nat.mul_one, made_zeros]

end Go.Proofs.YtokdneolgolkbaaDoor
