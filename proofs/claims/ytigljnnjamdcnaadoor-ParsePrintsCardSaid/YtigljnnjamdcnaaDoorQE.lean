/-
  The type string's row of the table; a word on worlds.
  Small words on strings of bytes. No condition.
  The walk of Decimal.
  strings.Join of words; the program's Line. Condition: as in each theorem.
  What the library does that the texts' layer calls. Condition: as in each theorem.
-/
import Derived.Test.YtigljnnjamdcnaaDoorRows
import Derived.RowKit
import Derived.Test.YtigljnnjamdcnaaDoorQD
import Derived.Test.YtigljnnjamdcnaaDoorQA
import Derived.IntWalk
import Derived.WalkSmall
import Derived.Laws.IdiomStrings
import Derived.Test.YtigljnnjamdcnaaDoorShelf
namespace Go.Proofs.YtigljnnjamdcnaaDoor
open Go.RowKit

theorem strinfo : (Tryd.prog.info? 9).map (fun i => (i.zero, i.size, i.bytes)) = some (some (.string ByteArray.empty), 1, 16) := by kernel_rfl
theorem below_nx5 {w0 w w' : World} (h : Below w0.heap.size w0 w) (h2 : Below w.heap.size w w') : Below w0.heap.size w0 w' := h.trans (h2.mono h.size)
end Go.Proofs.YtigljnnjamdcnaaDoor

namespace Go.Proofs.YtigljnnjamdcnaaDoor
open Go.RowKit P05


theorem take_snoc (s : ByteArray) (k : Nat) (h : k < s.size) : s.data.toList.take (k + 1) = s.data.toList.take k ++ [s[k]] := by
  rw [List.take_succ_eq_append_getElem (by simpa using h)]; rfl
theorem data_len (s : ByteArray) : s.data.toList.length = s.size := by rw [Array.length_toList]; rfl
theorem take_all (s : ByteArray) : s.data.toList.take s.size = s.data.toList := List.take_of_length_le (by rw [data_len]; exact Nat.le_refl _)
theorem okByte_iff (c : UInt8) : okByte c = true ↔ 33 ≤ (c.toNat : Int) ∧ (c.toNat : Int) ≤ 126 := by
  unfold okByte
  rw [Bool.and_eq_true, decide_eq_true_eq, decide_eq_true_eq]
  omega
theorem str_nonempty (s : ByteArray) (h : 0 < s.size) : s.toList.isEmpty = false := by
  rw [ByteArray.toList_eq]
  cases e : s.data.toList with
  | nil => have := data_len s; rw [e] at this; simp at this; omega
  | cons a t => rfl
theorem str_empty (s : ByteArray) (h : s.size = 0) : s = ⟨#[]⟩ := by
  cases s with
  | mk d =>
    have : d = #[] := Array.eq_empty_of_size_eq_zero h
    rw [this]
theorem mem_data (s : ByteArray) (k : Nat) (h : k < s.size) : s[k] ∈ s.data.toList := List.getElem_mem (l := s.data.toList) (by rw [data_len]; exact h)
theorem ne_nil_of_size (s : ByteArray) (h : 0 < s.size) : s.data.toList ≠ [] := fun e => by have := data_len s; rw [e] at this; simp at this; omega

theorem mk_data (s : ByteArray) : (⟨s.data.toList.toArray⟩ : ByteArray) = s := by cases s; simp

theorem str_append (a b : List UInt8) : (⟨a.toArray⟩ : ByteArray) ++ (⟨b.toArray⟩ : ByteArray) = ⟨(a ++ b).toArray⟩ := by
  apply ByteArray.ext
  rw [ByteArray.data_append]
  simp
theorem bstr_append (a b : List UInt8) : Value.string ((⟨a.toArray⟩ : ByteArray) ++ (⟨b.toArray⟩ : ByteArray)) = bstr (a ++ b) := by
  rw [str_append]
  rfl
theorem joinB_snoc (b : UInt8) : ∀ (l : List (List UInt8)) (x : List UInt8), joinB b (l ++ [x]) = if l.isEmpty = true then x else joinB b l ++ [b] ++ x
  | [], x => rfl
  | [a], x => by simp [joinB]
  | a :: c :: t, x => by
    have ih := joinB_snoc b (c :: t) x
    simp only [List.isEmpty_cons, List.cons_append, joinB] at ih ⊢
    simp [ih]
theorem joinB_len (b : UInt8) (m : Nat) : ∀ (l : List (List UInt8)), (∀ x ∈ l, x.length ≤ m) → (joinB b l).length ≤ l.length * (m + 1)
  | [], _ => by simp [joinB]
  | [a], h => by
    have := h a (by simp)
    simp [joinB]
    omega
  | a :: c :: t, h => by
    have ih := joinB_len b m (c :: t) fun x hx => h x (by simp at hx ⊢; exact .inr hx)
    have := h a (by simp)
    simp only [joinB, List.length_append, List.length_cons] at ih ⊢
    rw [Nat.add_mul _ 1]
    omega
theorem ba_append (a b : ByteArray) : (a ++ b).data.toList = a.data.toList ++ b.data.toList := by
  rw [ByteArray.data_append]
  simp
theorem ba_eta (s : ByteArray) (l : List UInt8) (h : s.data.toList = l) : s = ⟨l.toArray⟩ := by
  subst h
  cases s
  simp
theorem all_take_snoc {α : Type} {f : α → Bool} {l : List α} {k : Nat} {a : α} (h : (l.take k).all f = true) (hk : l[k]? = some a) (ha : f a = true) : (l.take (k + 1)).all f = true := by
  rw [List.take_add_one, hk, List.all_append, h]
  simp [ha]
end Go.Proofs.YtigljnnjamdcnaaDoor

namespace Go.Proofs.YtigljnnjamdcnaaDoor
open Go.RowKit P05


/-- n empty bytes, then those of a text. -/
def bytesRow20 (n : Nat) (l : List UInt8) : List Value := List.replicate n (.int .u8 0) ++ l.map fun c => Value.int .u8 (c.toNat : Int)
theorem bytesRow20_get {n : Nat} {l : List UInt8} {k : Nat} (h : k < n) : (bytesRow20 n l)[k]? = some (.int .u8 0) := by
  unfold bytesRow20
  rw [List.getElem?_append_left (by simpa using h), List.getElem?_replicate, if_pos h]
theorem bytesRow20_set {n : Nat} {l : List UInt8} (c : UInt8) : (bytesRow20 (n + 1) l).set n (.int .u8 (c.toNat : Int)) = bytesRow20 n (c :: l) := by
  unfold bytesRow20
  rw [List.replicate_succ', List.append_assoc, List.set_append_right _ _ (by simp), List.length_replicate, Nat.sub_self]
  rfl
theorem bytesRow20_tail {n : Nat} {l : List UInt8} (i : Nat) : (bytesRow20 n l)[n + i]? = (l.map fun c => Value.int .u8 (c.toNat : Int))[i]? := by
  unfold bytesRow20
  rw [List.getElem?_append_right (by simp), List.length_replicate, Nat.add_sub_cancel_left]
theorem neg_wrap {n : Int} (h0 : -9223372036854775808 ≤ n) (hn : n < 0) : IntKind.u64.wrap (-IntKind.u64.wrap n) = -n := by
  have e : ∀ x : Int, IntKind.u64.wrap x = x % 18446744073709551616 := fun x => rfl
  rw [e, e]
  omega
theorem dig_int (z : Int) : (((dig (z % 10).toNat).toNat : Nat) : Int) = 48 + z % 10 := by
  rw [dig_nat (by omega)]
  omega
theorem run_str {w : World} {g a n cap : Nat} {t : TypeId} {L : List UInt8} (hb : Blk w g t (bytesRow20 a L)) (hL : L.length = n) :
    (convert 47 9 (.slice (some ⟨g, a, none⟩) n cap)).run Tryd.prog w = .ok (.string ⟨L.toArray⟩) w := by
  subst hL
  refine run_convert_bytes_back w 47 9 5 ⟨g, a, none⟩ cap L Tryd.underlying47 Tryd.underlying5 Tryd.underlying9 (fun j hj => ?_)
  have hadd : (⟨g, a, none⟩ : Addr).add j = ⟨g, a + j, none⟩ := by unfold Addr.add; split <;> simp_all
  rw [hadd, hb.cell, bytesRow20_tail, List.getElem?_map, List.getElem?_eq_getElem hj]
  rfl
theorem run_tail (g b : Nat) (hb : b < 20) (W : World) :
    (Instr.sliceAt 81 (.pointer (some ⟨g, 0, none⟩)) (some (.int .i64 (b : Int))) none none).run Tryd.prog W = .ok (.slice (some ⟨g, b, none⟩) (20 - b) (20 - b)) W := by
  have hl : Tryd.prog.arrayLen 81 = 20 := by kernel_rfl
  have he : (Tryd.prog.info? (Tryd.prog.elem 81)).map (fun i => (i.zero, i.size, i.bytes)) = some (some (.int .u8 0), 1, 1) := by kernel_rfl
  obtain ⟨i, hi, hz, hs, hby⟩ := info_parts he
  rw [run_sliceAt_array_l (P := Tryd.prog) W 81 ⟨g, 0, none⟩ (by kernel_rfl) .i64 b (by omega) (by rw [hl]; omega), hl]
  have hsz : (sizeOf (Tryd.prog.elem 81)).run Tryd.prog W = .ok 1 W := by simp [sizeOf, typeInfo, hi, hs]
  rw [hsz]
  simp only [Result.andThen_ok, slicedAt, Int.toNat_natCast, Nat.mul_one]
  rw [if_neg (by omega)]
  have hadd : (⟨g, 0, none⟩ : Addr).add b = ⟨g, b, none⟩ := by unfold Addr.add; split <;> simp_all
  rw [hadd]
/-- What is known of the digits so far. -/
def DecSo (m a : Nat) (z : Int) (l : List UInt8) : Prop := l.length + a = 20 ∧ z.toNat < 10 ^ (a - 1) ∧ decF 20 m = decF a z.toNat ++ l
theorem DecSo.step {m a : Nat} {z : Int} {l : List UInt8} (h : DecSo m (a + 1) z l) (hz : 10 ≤ z) : DecSo m a (z / 10) (dig (z % 10).toNat :: l) ∧ 2 ≤ a := by
  obtain ⟨h1, h2, h3⟩ := h
  rw [Nat.add_sub_cancel] at h2
  have ha : 2 ≤ a := by
    rcases a with _ | _ | a
    · simp at h2; omega
    · simp at h2; omega
    · omega
  obtain ⟨b, rfl⟩ : ∃ b, a = b + 1 := ⟨a - 1, by omega⟩
  refine ⟨⟨by simp; omega, ?_, ?_⟩, ha⟩
  · rw [Nat.add_sub_cancel]
    rw [Nat.pow_succ] at h2
    omega
  · rw [h3, decF_great _ _ (by omega), List.append_assoc]
    have e1 : (z / 10).toNat = z.toNat / 10 := by omega
    have e2 : (z % 10).toNat = z.toNat % 10 := by omega
    rw [e1, e2]
    rfl
theorem DecSo.last {m a : Nat} {z : Int} {l : List UInt8} (h : DecSo m (a + 1) z l) (h0 : 0 ≤ z) (hz : z < 10) : dec m = dig (z % 10).toNat :: l ∧ l.length + 1 + a = 20 := by
  obtain ⟨h1, h2, h3⟩ := h
  refine ⟨?_, by omega⟩
  have e2 : (z % 10).toNat = z.toNat := by omega
  unfold dec
  rw [h3, decF_small _ _ (by omega), e2]
  rfl
set_option maxHeartbeats 1000000 in
set_option maxRecDepth 100000 in
theorem decimal_any (n : Int) (w : World) (h0 : -9223372036854775808 ≤ n) (h1 : n ≤ 9223372036854775807) :
    Calls Tryd.prog 21 #[.int .i64 n] w fun e w' => e = .returned (bstr (decI n)) ∧ Below w.heap.size w w' := by
  by_cases hn : n < 0
  · have HW := Lib.hid (neg_wrap h0 hn)
    have HD : Hid (decI n = 45 :: dec (-n).toNat) := by show decI n = _; unfold decI; rw [if_pos hn]
    go_enter Tryd.func21, Tryd.ntmps21
    go_wp2_with fail
    rw [HW.out]
    go_loopw [4, 5] (fun rv av wr => ∃ (a : Nat) (z : Int) (l : List UInt8), av = .int .i64 a ∧ rv = .int .u64 z ∧ 2 ≤ a ∧ a ≤ 20 ∧ 0 ≤ z ∧ z ≤ 10000000000000000000 ∧ Blk wr w.heap.size 81 (bytesRow20 a l) ∧ Hid (DecSo (-n).toNat a z l) ∧ Below w.heap.size w wr) (fun rv _ _ => (intOf rv).toNat)
    case atStart => exact ⟨20, -n, [], rfl, rfl, by omega, by omega, by omega, by omega, Blk.new w _ (List.replicate 20 (.int .u8 0)), ⟨rfl, by have h3 : (10 : Nat) ^ (20 - 1) = 10000000000000000000 := (by decide +kernel); rw [h3]; omega, (List.append_nil _).symm⟩, (Below.refl _ _).alloc (Nat.le_refl _) _⟩
    case round =>
      obtain ⟨a, z, l, rfl, rfl, ha2, ha20, hz0, hz1, hb, HS, hbel⟩ := hrel
      obtain ⟨a, rfl⟩ : ∃ b, a = b + 1 := ⟨a - 1, by omega⟩
      have c0 : wr.cell? ⟨w.heap.size, a, none⟩ = some (.int .u8 0) := (hb.cell a).trans (bytesRow20_get (Nat.lt_succ_self _))
      have f0 := hb.frozen a
      have HB := Lib.hid hb
      have HDI := Lib.hid (dig_int z)
      have hzm := Int.emod_nonneg z (show (10 : Int) ≠ 0 by omega)
      have hzm2 := Int.emod_lt_of_pos z (show (0 : Int) < 10 by omega)
      clear hb
      by_cases hz : z < 10
      · have hq : (z / 10 == 0) = true := by rw [beq_iff_eq]; omega
        have HL := Lib.hid (HS.out.last hz0 hz)
        obtain ⟨b, rfl⟩ : ∃ b, a = b + 1 := ⟨a - 1, by omega⟩
        have c1 : wr.cell? ⟨w.heap.size, b, none⟩ = some (.int .u8 0) := (HB.out.cell b).trans (bytesRow20_get (by omega))
        have f1 := HB.out.frozen b
        have ks := run_tail w.heap.size b (by omega)
        have hb2 := (HB.out.set_ (b + 1) (.int .u8 (((dig (z % 10).toNat).toNat : Nat) : Int)))
        rw [bytesRow20_set, HDI.out] at hb2
        have hb3 := hb2.set_ b (.int .u8 (((45 : UInt8).toNat : Nat) : Int))
        have HF : Hid (45 :: dig (z % 10).toNat :: l = decI n) := by
          show _ = decI n
          rw [HD.out, HL.out.1]
        have e45 : (((45 : UInt8).toNat : Nat) : Int) = 45 := rfl
        rw [bytesRow20_set, HF.out, e45] at hb3
        have kc := run_str hb3 (n := 20 - b) (cap := 20 - b) (by rw [← HF.out]; have := HL.out.2; simp; omega)
        clear hb2 hb3 e45
        go_wp2
        go_ret
        exact ⟨rfl, (hbel.setCell (p := ⟨w.heap.size, b + 1, none⟩) (Nat.le_refl _) _).setCell (p := ⟨w.heap.size, b, none⟩) (Nat.le_refl _) _⟩
      · have hz : 10 ≤ z := by omega
        have hq : (z / 10 == 0) = false := by rw [beq_eq_false_iff_ne]; omega
        have HN := Lib.hid (HS.out.step hz)
        go_wp2
        go_roundw
        case rel => exact ⟨a, z / 10, _, by go_num, rfl, HN.out.2, by omega, by omega, by omega, by have := HB.out.set_ a (.int .u8 (((dig (z % 10).toNat).toNat : Nat) : Int)); rw [bytesRow20_set, HDI.out] at this; exact this, HN.out.1, hbel.setCell (p := ⟨w.heap.size, a, none⟩) (Nat.le_refl _) _⟩
        case measure => simp [intOf]; omega
  · have HD : Hid (decI n = dec n.toNat) := by show decI n = _; unfold decI; rw [if_neg hn]
    have hn : 0 ≤ n := by omega
    go_enter Tryd.func21, Tryd.ntmps21
    go_wp2_with fail
    go_loopw [4, 5] (fun rv av wr => ∃ (a : Nat) (z : Int) (l : List UInt8), av = .int .i64 a ∧ rv = .int .u64 z ∧ 2 ≤ a ∧ a ≤ 20 ∧ 0 ≤ z ∧ z ≤ 10000000000000000000 ∧ Blk wr w.heap.size 81 (bytesRow20 a l) ∧ Hid (DecSo n.toNat a z l) ∧ Below w.heap.size w wr) (fun rv _ _ => (intOf rv).toNat)
    case atStart => exact ⟨20, n, [], rfl, rfl, by omega, by omega, by omega, by omega, Blk.new w _ (List.replicate 20 (.int .u8 0)), ⟨rfl, by have h3 : (10 : Nat) ^ (20 - 1) = 10000000000000000000 := (by decide +kernel); rw [h3]; omega, (List.append_nil _).symm⟩, (Below.refl _ _).alloc (Nat.le_refl _) _⟩
    case round =>
      obtain ⟨a, z, l, rfl, rfl, ha2, ha20, hz0, hz1, hb, HS, hbel⟩ := hrel
      obtain ⟨a, rfl⟩ : ∃ b, a = b + 1 := ⟨a - 1, by omega⟩
      have c0 : wr.cell? ⟨w.heap.size, a, none⟩ = some (.int .u8 0) := (hb.cell a).trans (bytesRow20_get (Nat.lt_succ_self _))
      have f0 := hb.frozen a
      have HB := Lib.hid hb
      have HDI := Lib.hid (dig_int z)
      have hzm := Int.emod_nonneg z (show (10 : Int) ≠ 0 by omega)
      have hzm2 := Int.emod_lt_of_pos z (show (0 : Int) < 10 by omega)
      clear hb
      by_cases hz : z < 10
      · have hq : (z / 10 == 0) = true := by rw [beq_iff_eq]; omega
        have HL := Lib.hid (HS.out.last hz0 hz)
        have ks := run_tail w.heap.size a (by omega)
        have hb2 := (HB.out.set_ a (.int .u8 (((dig (z % 10).toNat).toNat : Nat) : Int)))
        have HF : Hid (dig (z % 10).toNat :: l = decI n) := by
          show _ = decI n
          rw [HD.out, HL.out.1]
        rw [bytesRow20_set, HF.out, HDI.out] at hb2
        have kc := run_str hb2 (n := 20 - a) (cap := 20 - a) (by rw [← HF.out]; have := HL.out.2; simp; omega)
        clear hb2
        go_wp2
        go_ret
        exact ⟨rfl, hbel.setCell (p := ⟨w.heap.size, a, none⟩) (Nat.le_refl _) _⟩
      · have hz : 10 ≤ z := by omega
        have hq : (z / 10 == 0) = false := by rw [beq_eq_false_iff_ne]; omega
        have HN := Lib.hid (HS.out.step hz)
        go_wp2
        go_roundw
        case rel => exact ⟨a, z / 10, _, by go_num, rfl, HN.out.2, by omega, by omega, by omega, by have := HB.out.set_ a (.int .u8 (((dig (z % 10).toNat).toNat : Nat) : Int)); rw [bytesRow20_set, HDI.out] at this; exact this, HN.out.1, hbel.setCell (p := ⟨w.heap.size, a, none⟩) (Nat.le_refl _) _⟩
        case measure => simp [intOf]; omega
end Go.Proofs.YtigljnnjamdcnaaDoor

namespace Go.Proofs.YtigljnnjamdcnaaDoor
open Go.RowKit P05

/-- strings.Join of words, with a blank between. -/
theorem join_any (v : Value) (l : List (List UInt8)) (b : UInt8) (w : World) (hl : RStrs w v l) (hn : l.length ≤ 1000000) (hlen : (joinB b l).length ≤ 100000000000000) :
    Calls Tryd.prog 45 #[v, .string ⟨#[b]⟩] w fun e w' => e = .returned (bstr (joinB b l)) ∧ Below w.heap.size w w' := by
  obtain ⟨A, c, rfl, h1, h2, h3, h4⟩ := hl
  by_cases h0 : 0 < l.length
  · obtain ⟨bk, o, rfl, hb, hc⟩ := h4 h0
    have hmap : (l.map fun x => (⟨x.toArray⟩ : ByteArray)).map (·.data.toList) = l := by
      rw [List.map_map]
      exact (List.map_congr_left fun x _ => by simp).trans (List.map_id l)
    have hj : Lib.join ((l.map fun x => (⟨x.toArray⟩ : ByteArray)).map (·.data.toList)) (⟨#[b]⟩ : ByteArray).data.toList = joinB b l := by
      rw [hmap]
      exact join_joinB b l
    have := Tryd.strings_Join bk o c (l.map fun x => (⟨x.toArray⟩ : ByteArray)) ⟨#[b]⟩ w (fun j x hx => by
      rw [List.getElem?_map, Option.map_eq_some_iff] at hx
      obtain ⟨y, hy, rfl⟩ := hx
      exact hc j _ (by rw [List.getElem?_map, hy]; rfl)) hb (by simp; omega) (by simpa using h1) (by rw [hj]; omega)
    rw [List.length_map, hj] at this
    exact this
  · obtain rfl : l = [] := List.eq_nil_of_length_eq_zero (by omega)
    exact (Tryd.strings_Join_none A c ⟨#[b]⟩ w).mono fun e w' ⟨he, hw⟩ => ⟨he, by rw [hw]; exact Below.refl _ _⟩
/-- The program's Line. -/
theorem line_any (l : List (List UInt8)) (v : Value) (w : World) (hr : RStrs w v l) (hl : l.length ≤ 1000) (hs : ∀ x ∈ l, x.length ≤ 1000) :
    Calls Tryd.prog 20 #[v] w fun e w' => e = .returned (bstr (lineP l)) ∧ Below w.heap.size w w' := by
  have hjl := joinB_len 32 1000 l hs
  have hj2 : l.length * (1000 + 1) ≤ 1000 * 1001 := Nat.mul_le_mul hl (Nat.le_refl _)
  have HC := Lib.hid (join_any v l 32 w hr (by omega) (by omega))
  have hsz : (joinB 32 l).length ≤ 100000000 := by omega
  have HE : Hid (lineP l = joinB 32 l ++ [10]) := rfl
  clear hr hl hs hjl hj2
  generalize joinB 32 l = J at HC hsz HE
  go_enter Tryd.func20, Tryd.ntmps20
  go_wp2_with fail
  refine HC.out.mono ?_
  rintro e w2 ⟨rfl, hb2⟩
  unfold bstr
  go_wp2
  go_ret
  rw [HE.out]
  exact ⟨congrArg Ending.returned (bstr_append J [10]), hb2⟩
end Go.Proofs.YtigljnnjamdcnaaDoor

namespace Go.Proofs.YtigljnnjamdcnaaDoor
open Go.RowKit P05


/-- strings.Cut at a line's end. -/
theorem cut_any (s sep : ByteArray) (m : Int) (w : World) (hs : s.size < 4294967281) (hm : w.cell? ⟨0, 0, none⟩ = some (.int .i64 m)) :
    Calls Tryd.prog 49 #[.string s, .string sep] w fun e w' => e = .returned (.tuple #[.string ⟨(Lib.cut s.data.toList sep.data.toList).1.toArray⟩, .string ⟨(Lib.cut s.data.toList sep.data.toList).2.1.toArray⟩, .bool (Lib.cut s.data.toList sep.data.toList).2.2]) ∧ ∃ n, w' = w.drewN n :=
  Tryd.strings_Cut s sep m w hs hm
theorem splitB_map (c : UInt8) (s : ByteArray) : (Lib.splitB ⟨#[c]⟩ 0 (Lib.countB s ⟨#[c]⟩) s).map Value.string = (pieces c s.data.toList).map bstr := by
  rw [← splitB_pieces, List.map_map]
  refine List.map_congr_left fun x _ => ?_
  show Value.string x = bstr x.data.toList
  unfold bstr
  rw [mk_data]
theorem pieces_len (c : UInt8) (s : ByteArray) : (pieces c s.data.toList).length = Lib.countB s ⟨#[c]⟩ + 1 := by
  rw [← splitB_pieces, List.length_map, Lib.splitB_all ⟨#[c]⟩ (Nat.le_refl 1) 0 _ s rfl]
/-- strings.Split at a separator of one byte. -/
theorem split_any (s : ByteArray) (c : UInt8) (m : Int) (w : World) (hs : s.size < 4294967281) (hm : w.cell? ⟨0, 0, none⟩ = some (.int .i64 m)) :
    Calls Tryd.prog 50 #[.string s, .string ⟨#[c]⟩] w fun e w' => e = .returned (.slice (some ⟨w.heap.size, 0, none⟩) (pieces c s.data.toList).length (pieces c s.data.toList).length) ∧ w' = w.alloc (.cells ((pieces c s.data.toList).map bstr).toArray 9) := by
  refine (Tryd.strings_Split s ⟨#[c]⟩ m w hs hm (Nat.le_refl 1)).mono fun e w' ⟨he, hw⟩ => ⟨?_, ?_⟩
  · rw [he, pieces_len]
  · rw [hw, splitB_map]
end Go.Proofs.YtigljnnjamdcnaaDoor
