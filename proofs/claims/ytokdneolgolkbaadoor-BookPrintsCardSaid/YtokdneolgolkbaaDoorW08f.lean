/- Words on the builder: what it holds, kept over what leaves it alone; a write of a text. Condition: as in each theorem. -/
import Derived.Test.YtokdneolgolkbaaDoorW08a
import Derived.Test.YtokdneolgolkbaaDoorJ05
import Derived.Test.YtokdneolgolkbaaDoorD05
import Derived.Test.YtokdneolgolkbaaDoorMem3
namespace Go.Proofs.YtokdneolgolkbaaDoor
open Go.RowKit P05

/-- The builder at block b, all of whose own lies from b on, holds the text l. -/
def BldAt (b : Nat) (l : List UInt8) (w : World) : Prop := Lib.IsBuilder 53 5 b b (Lib.byteCells l) w
theorem BldAt.lt {b : Nat} {l : List UInt8} {w : World} (h : BldAt b l w) : b < w.heap.size := by
  rcases h with h | h
  · exact h.lt
  · exact h.lt
theorem BldAt.new (w : World) : BldAt w.heap.size [] (w.alloc (.cells #[.pointer none, .slice none 0 0] 53)) :=
  .inl ⟨Nat.le_refl _, .slice none 0 0, heap_alloc_new w _, World.ownsRow_nil _ _ _ _, by simp [Value.ownBlock]⟩
theorem BldAt.below {b n : Nat} {l : List UInt8} {w w' : World} (h : BldAt b l w) (hb : Below n w w') (hn : w.heap.size ≤ n) : BldAt b l w' := by
  have hlt := h.lt
  rcases h with ⟨h1, v, h2, h3, h4⟩ | ⟨h1, v, h2, h3, h4⟩
  · exact .inl ⟨h1, v, (hb.block b (by omega)).trans h2, own_below h3 hb hn, h4⟩
  · exact .inr ⟨h1, v, (hb.block b (by omega)).trans h2, own_below h3 hb hn, h4⟩
theorem byteCells_append (a b : List UInt8) : Lib.byteCells (a ++ b) = Lib.byteCells a ++ Lib.byteCells b := by simp [Lib.byteCells]
theorem byteCells_len (a : List UInt8) : (Lib.byteCells a).length = a.length := by simp [Lib.byteCells]
theorem Blk.wkeep {b g : Nat} {t : TypeId} {cs : List Value} {w w' : World} (h : Blk w g t cs) (hk : WKeep b w w') (hg : g ≠ b) (ht : t ≠ 5) : Blk w' g t cs :=
  (hk.block g h.lt hg (fun cs' fr e => by unfold Blk at h; rw [h] at e; injection e with e; injection e with _ e _; exact ht e)).trans h
theorem write_any (b : Nat) (T x : List UInt8) (s : ByteArray) (w : World) (h : BldAt b T w) (hs : s = ⟨x.toArray⟩) (hlen : T.length + x.length ≤ 100000000) :
    Calls Tryd.prog 12 #[.pointer (some ⟨b, 0, none⟩), .string s] w fun e w' => e = .returned (.tuple #[.int .i64 s.size, .nilIface]) ∧ BldAt b (T ++ x) w' ∧ Below b w w' ∧ WKeep b w w' := by
  have hsz : s.size = x.length := by rw [hs]; show x.toArray.size = _; simp
  refine (writeString_any b b (Lib.byteCells T) s w h (by rw [byteCells_len]; omega) (Nat.le_of_lt h.lt)).mono ?_
  rintro e w' ⟨he, h1, h2, h3⟩
  refine ⟨he, .inr ?_, h2, h3⟩
  rw [byteCells_append]
  have e1 : Lib.strCells s = Lib.byteCells x := by rw [hs]; rfl
  rw [← e1]
  exact h1
theorem string_any (b : Nat) (T : List UInt8) (w : World) (h : BldAt b T w) :
    Calls Tryd.prog 15 #[.pointer (some ⟨b, 0, none⟩)] w fun e w' => e = .returned (bstr T) ∧ Below b w w' :=
  Tryd.Builder_String_any b b T w h (Nat.le_of_lt h.lt)
/-- A block of two strings. -/
theorem two_words {w : World} {g : Nat} {t : TypeId} {s0 s1 : ByteArray} {a b : List UInt8} (h : Blk w g t [.string s0, .string s1]) (h0 : s0 = ⟨a.toArray⟩) (h1 : s1 = ⟨b.toArray⟩) : RStrs w (.slice (some ⟨g, 0, none⟩) 2 2) [a, b] := by
  subst h0; subst h1
  have := h.RS (size := 1) (n := 2) (cap := 2) (Nat.le_refl _) (by simp [maxLen]) (by simp)
  exact this
theorem lineP_len {l : List (List UInt8)} {m : Nat} (h : ∀ x ∈ l, x.length ≤ m) : (lineP l).length ≤ l.length * (m + 1) + 1 := by
  have := joinB_len 32 m l h
  unfold lineP
  rw [List.length_append]
  simp
  omega
/-- The decimal, as a string that is named. -/
theorem dec_any (n : Int) (w : World) (h0 : -9223372036854775808 ≤ n) (h1 : n ≤ 9223372036854775807) :
    Calls Tryd.prog 14 #[.int .i64 n] w fun e w' => ∃ s : ByteArray, e = .returned (.string s) ∧ Hid (s = ⟨(decI n).toArray⟩) ∧ Below w.heap.size w w' :=
  (decimal_any n w h0 h1).mono fun e w' ⟨he, hb⟩ => ⟨_, he, rfl, hb⟩
theorem ln_any (l : List (List UInt8)) (v : Value) (w : World) (hr : RStrs w v l) (hl : l.length ≤ 1000) (hs : ∀ x ∈ l, x.length ≤ 1000) :
    Calls Tryd.prog 13 #[v] w fun e w' => ∃ s : ByteArray, e = .returned (.string s) ∧ Hid (s = ⟨(lineP l).toArray⟩) ∧ Below w.heap.size w w' :=
  (line_any l v w hr hl hs).mono fun e w' ⟨he, hb⟩ => ⟨_, he, rfl, hb⟩
end Go.Proofs.YtokdneolgolkbaaDoor
