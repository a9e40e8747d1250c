/-
  The walks of strings.Builder's copyCheck and WriteString over this program (the shelf's own layings fall here: its cut names a number less).
  Words on the builder: what it holds, kept over what leaves it alone; a write of a text. Condition: as in each theorem.
-/
import Derived.Shelf.Strings.Builder1
import Derived.Shelf.Strings.BuilderX
import Derived.Test.YtigljnnjamdcnaaDoorRows
import Derived.Test.YtigljnnjamdcnaaDoorQE
import Derived.Test.YtigljnnjamdcnaaDoorQD
namespace Go.Proofs.YtigljnnjamdcnaaDoor
open Go.RowKit

theorem bsize : (Tryd.prog.info? 49).map (·.size) = some 2 := by kernel_rfl
theorem blies : liesAt Tryd.prog Tryd.prog.depth 49 (2 / Tryd.prog.cellsOf 49) 0 49 1 = true := by kernel_rfl
theorem byteinfo : (Tryd.prog.info? 5).map (fun i => (i.zero, i.size, i.bytes)) = some (some (.int .u8 0), 1, 1) := by kernel_rfl
set_option maxHeartbeats 1000000 in
set_option maxRecDepth 100000 in
theorem copyCheck_used (b : Nat) (w : World) (h0 : w.cell? ⟨b, 0, none⟩ = some (.pointer (some ⟨b, 0, none⟩))) :
    Calls Tryd.prog 44 #[.pointer (some ⟨b, 0, none⟩)] w fun e w' => e = .returned (.tuple #[]) ∧ w' = w := by
  obtain ⟨j, hj, _⟩ := Option.map_eq_some_iff.1 bsize
  go_enter Tryd.func44, Tryd.ntmps44
  go_wp2
  rw [Lib.run_neq_ptr_same w _ Tryd.underlying46 hj]
  go_wp2
  go_end0
  exact ⟨rfl, rfl⟩
set_option maxHeartbeats 1000000 in
set_option maxRecDepth 100000 in
theorem copyCheck_fresh (b : Nat) (w : World) (h0 : w.cell? ⟨b, 0, none⟩ = some (.pointer none)) (hsh : w.shape? b = some (49, 2)) (hfz : w.frozen? ⟨b, 0, none⟩ = false) :
    Calls Tryd.prog 44 #[.pointer (some ⟨b, 0, none⟩)] w fun e w' => e = .returned (.tuple #[]) ∧ w' = w.setCell ⟨b, 0, none⟩ (.pointer (some ⟨b, 0, none⟩)) := by
  obtain ⟨j, hj, hjs⟩ := Option.map_eq_some_iff.1 bsize
  go_enter Tryd.func44, Tryd.ntmps44
  go_wp2
  rw [Lib.run_to_unsafe w ⟨b, 0, none⟩ Tryd.underlying46 Tryd.underlying103 hj (by rw [hjs]; decide) hsh (Nat.zero_lt_succ 1)]
  simp only [Result.andThen]
  rw [Oper.upon_value]
  go_wp2
  rw [run_callFunc_extern Tryd.func62 (by kernel_rfl) (by kernel_rfl) (by kernel_rfl) (e := Extern.AbiNoEscape.same) (by kernel_rfl)]
  rw [Lib.run_noEscape]
  simp only [Result.andThen]
  rw [Oper.upon_value]
  go_wp2
  rw [Lib.run_from_unsafe w ⟨b, 0, none⟩ Tryd.underlying103 Tryd.underlying46 hj hsh blies]
  simp only [Result.andThen]
  rw [Oper.upon_value]
  go_wp2
  go_end0
  exact ⟨rfl, rfl⟩
/-- What a write into the builder at block b may turn: that block, rows of bytes, no other block that was there. -/
structure WKeep (b : Nat) (w w' : World) : Prop where
  size : w.heap.size ≤ w'.heap.size
  block : ∀ k, k < w.heap.size → k ≠ b → (∀ cs fr, w.heap[k]? ≠ some (.cells cs 5 fr)) → w'.heap[k]? = w.heap[k]?
theorem WKeep.refl (b : Nat) (w : World) : WKeep b w w := ⟨Nat.le_refl _, fun _ _ _ _ => rfl⟩
theorem WKeep.trans {b : Nat} {A B C : World} (h : WKeep b A B) (k : WKeep b B C) : WKeep b A C :=
  ⟨Nat.le_trans h.size k.size, fun i hi hb ht => (k.block i (Nat.lt_of_lt_of_le hi h.size) hb (fun cs fr => by rw [h.block i hi hb ht]; exact ht cs fr)).trans (h.block i hi hb ht)⟩
theorem WKeep.set (b i : Nat) (w : World) (v : Value) : WKeep b w (w.setCell ⟨b, i, none⟩ v) := ⟨by simp, fun k _ hk _ => Below.heap_setCell _ _ _ _ hk⟩
theorem copyCheck_any (B b : Nat) (bs : List Value) (w : World) (h : Lib.IsBuilder 49 5 B b bs w) :
    Calls Tryd.prog 44 #[.pointer (some ⟨b, 0, none⟩)] w fun e w' => e = .returned (.tuple #[]) ∧ (Lib.BuilderAt 49 5 B b (.pointer (some ⟨b, 0, none⟩)) bs w' ∧ Below B w w' ∧ WKeep b w w') := by
  rcases h with h | h
  · refine (copyCheck_fresh b w h.cell0 h.shape h.frozen0).mono ?_
    rintro e w' ⟨rfl, rfl⟩
    exact ⟨rfl, h.used _, (Below.refl B w).setCell (p := ⟨b, 0, none⟩) h.1 _, WKeep.set b 0 w _⟩
  · refine (copyCheck_used b w h.cell0).mono ?_
    rintro e w' ⟨rfl, rfl⟩
    exact ⟨rfl, h, Below.refl B _, WKeep.refl _ _⟩
set_option maxHeartbeats 1000000 in
set_option maxRecDepth 100000 in
theorem writeString_any (B b : Nat) (bs : List Value) (s : ByteArray) (w : World) (h : Lib.IsBuilder 49 5 B b bs w) (hlen : bs.length + s.size ≤ 140737488355328) (hBw : B ≤ w.heap.size) :
    Calls Tryd.prog 19 #[.pointer (some ⟨b, 0, none⟩), .string s] w fun e w' => e = .returned (.tuple #[.int .i64 s.size, .nilIface]) ∧ (Lib.BuilderAt 49 5 B b (.pointer (some ⟨b, 0, none⟩)) (bs ++ Lib.strCells s) w' ∧ Below B w w' ∧ WKeep b w w') := by
  obtain ⟨i0, hi, hz0, hz1, hz2⟩ := info_parts byteinfo
  go_enter Tryd.func19, Tryd.ntmps19
  go_wp2_with fail
  refine (copyCheck_any B b bs _ h).mono ?_
  rintro e w1 ⟨rfl, h1, hb1, hw1⟩
  obtain ⟨hB, v, hbk, hown, hne⟩ := h1
  have c0 : w1.cell? ⟨b, 0, none⟩ = some (.pointer (some ⟨b, 0, none⟩)) := by rw [Lib.cell_of_heap hbk]; rfl
  have c1 : w1.cell? ⟨b, 1, none⟩ = some v := by rw [Lib.cell_of_heap hbk]; rfl
  go_wp2_with (at_builtin; refine Lib.wpList_append_own_string _ rfl _ _ 47 9 rfl B 5 i0 Tryd.underlying47 Tryd.underlying9 hi hz0 hz1 hz2 _ _ _ rfl hown s rfl ?c3 ?c4 ?c5 ?_)
  case c3 => unfold maxLen; omega
  case c4 => omega
  case c5 => have := hb1.size; omega
  intro v' w2 hown' hgrow _
  have hlt : b < w1.heap.size := by
    rcases Nat.lt_or_ge b w1.heap.size with h' | h'
    · exact h'
    · simp [Array.getElem?_eq_none h'] at hbk
  have hb2 : w2.heap[b]? = some (.cells #[.pointer (some ⟨b, 0, none⟩), v] 49 (0, 0)) := by
    rw [hgrow.block b hlt (fun e => hne e.symm)]
    exact hbk
  have d0 : w2.cell? ⟨b, 0, none⟩ = some (.pointer (some ⟨b, 0, none⟩)) := by rw [Lib.cell_of_heap hb2]; rfl
  have d1 : w2.cell? ⟨b, 1, none⟩ = some v := by rw [Lib.cell_of_heap hb2]; rfl
  have f1 : w2.frozen? ⟨b, 1, none⟩ = false := Lib.frozen_of_heap hb2 1
  obtain ⟨ao, n', cap, rfl⟩ : ∃ ao n' cap, v' = .slice ao n' cap := by
    rcases hown'.2 with ⟨hv, _⟩ | ⟨g, cap, cur, hv, _⟩
    · exact ⟨_, _, _, hv⟩
    · exact ⟨_, _, _, hv⟩
  go_wp2
  go_ret2
  refine ⟨rfl, ?_, ?_, ?_⟩
  · exact Lib.BuilderAt.put (T := 49) (e := 5) hB hb2 (bs' := bs ++ Lib.strCells s) (by simpa [Lib.strCells_length] using hown') (by decide)
  · exact (hb1.grown hgrow (by have := hb1.size; omega) (fun k hk => (hown.lt k hk).1)).setCell (p := ⟨b, 1, none⟩) hB _
  · refine hw1.trans (WKeep.trans ⟨hgrow.size, fun k hk _ ht => hgrow.block k hk (fun e => ?_)⟩ (WKeep.set b 1 w2 _))
    rcases hown.2 with ⟨rfl, _⟩ | ⟨g, cap, cur, rfl, _, hg, _⟩
    · simp [Value.ownBlock] at e
    · obtain rfl : k = g := by simpa [Value.ownBlock] using e
      exact ht _ _ hg
end Go.Proofs.YtigljnnjamdcnaaDoor

namespace Go.Proofs.YtigljnnjamdcnaaDoor
open Go.RowKit P05

/-- The builder at block b, all of whose own lies from b on, holds the text l. -/
def BldAt (b : Nat) (l : List UInt8) (w : World) : Prop := Lib.IsBuilder 49 5 b b (Lib.byteCells l) w
theorem BldAt.lt {b : Nat} {l : List UInt8} {w : World} (h : BldAt b l w) : b < w.heap.size := by
  rcases h with h | h
  · exact h.lt
  · exact h.lt
theorem BldAt.new (w : World) : BldAt w.heap.size [] (w.alloc (.cells #[.pointer none, .slice none 0 0] 49)) :=
  .inl ⟨Nat.le_refl _, .slice none 0 0, heap_alloc_new w _, World.ownsRow_nil _ _ _ _, by simp [Value.ownBlock]⟩
theorem BldAt.below {b n : Nat} {l : List UInt8} {w w' : World} (h : BldAt b l w) (hb : Below n w w') (hn : w.heap.size ≤ n) : BldAt b l w' := by
  have hlt := h.lt
  rcases h with ⟨h1, v, h2, h3, h4⟩ | ⟨h1, v, h2, h3, h4⟩
  · exact .inl ⟨h1, v, (hb.block b (by omega)).trans h2, own_below h3 hb hn, h4⟩
  · exact .inr ⟨h1, v, (hb.block b (by omega)).trans h2, own_below h3 hb hn, h4⟩
theorem byteCells_append (a b : List UInt8) : Lib.byteCells (a ++ b) = Lib.byteCells a ++ Lib.byteCells b := by simp [Lib.byteCells]
theorem byteCells_len (a : List UInt8) : (Lib.byteCells a).length = a.length := by simp [Lib.byteCells]
theorem Blk.wkeep {b g : Nat} {t : TypeId} {cs : List Value} {w w' : World} (h : Blk w g t cs) (hk : WKeep b w w') (hg : g ≠ b) (ht : t ≠ 5) : Blk w' g t cs :=
  (hk.block g h.lt hg (fun cs' fr e => by unfold Blk at h; rw [h] at e; injection e with e; injection e with _ e _; exact ht e)).trans h
theorem write_any (b : Nat) (T x : List UInt8) (s : ByteArray) (w : World) (h : BldAt b T w) (hs : s = ⟨x.toArray⟩) (hlen : T.length + x.length ≤ 100000000) :
    Calls Tryd.prog 19 #[.pointer (some ⟨b, 0, none⟩), .string s] w fun e w' => e = .returned (.tuple #[.int .i64 s.size, .nilIface]) ∧ BldAt b (T ++ x) w' ∧ Below b w w' ∧ WKeep b w w' := by
  have hsz : s.size = x.length := by rw [hs]; show x.toArray.size = _; simp
  refine (writeString_any b b (Lib.byteCells T) s w h (by rw [byteCells_len]; omega) (Nat.le_of_lt h.lt)).mono ?_
  rintro e w' ⟨he, h1, h2, h3⟩
  refine ⟨he, .inr ?_, h2, h3⟩
  rw [byteCells_append]
  have e1 : Lib.strCells s = Lib.byteCells x := by rw [hs]; rfl
  rw [← e1]
  exact h1
theorem string_any (b : Nat) (T : List UInt8) (w : World) (h : BldAt b T w) :
    Calls Tryd.prog 24 #[.pointer (some ⟨b, 0, none⟩)] w fun e w' => e = .returned (bstr T) ∧ Below b w w' :=
  Tryd.Builder_String_any b b T w h (Nat.le_of_lt h.lt)
/-- A block of two strings. -/
theorem two_words {w : World} {g : Nat} {t : TypeId} {s0 s1 : ByteArray} {a b : List UInt8} (h : Blk w g t [.string s0, .string s1]) (h0 : s0 = ⟨a.toArray⟩) (h1 : s1 = ⟨b.toArray⟩) : RStrs w (.slice (some ⟨g, 0, none⟩) 2 2) [a, b] := by
  subst h0; subst h1
  have := h.RS (size := 1) (n := 2) (cap := 2) (Nat.le_refl _) (by simp [maxLen]) (by simp)
  exact this
theorem lineP_len {l : List (List UInt8)} {m : Nat} (h : ∀ x ∈ l, x.length ≤ m) : (lineP l).length ≤ l.length * (m + 1) + 1 := by
  have := joinB_len 32 m l h
  unfold lineP
  rw [List.length_append]
  simp
  omega
/-- The decimal, as a string that is named. -/
theorem dec_any (n : Int) (w : World) (h0 : -9223372036854775808 ≤ n) (h1 : n ≤ 9223372036854775807) :
    Calls Tryd.prog 21 #[.int .i64 n] w fun e w' => ∃ s : ByteArray, e = .returned (.string s) ∧ Hid (s = ⟨(decI n).toArray⟩) ∧ Below w.heap.size w w' :=
  (decimal_any n w h0 h1).mono fun _ _ ⟨he, hb⟩ => ⟨_, he, rfl, hb⟩
theorem ln_any (l : List (List UInt8)) (v : Value) (w : World) (hr : RStrs w v l) (hl : l.length ≤ 1000) (hs : ∀ x ∈ l, x.length ≤ 1000) :
    Calls Tryd.prog 20 #[v] w fun e w' => ∃ s : ByteArray, e = .returned (.string s) ∧ Hid (s = ⟨(lineP l).toArray⟩) ∧ Below w.heap.size w w' :=
  (line_any l v w hr hl hs).mono fun _ _ ⟨he, hb⟩ => ⟨_, he, rfl, hb⟩
end Go.Proofs.YtigljnnjamdcnaaDoor
