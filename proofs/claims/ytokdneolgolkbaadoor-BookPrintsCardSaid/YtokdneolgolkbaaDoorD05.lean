/- The walk of Decimal. -/
import Derived.Test.YtokdneolgolkbaaDoorB05
import Derived.Test.YtokdneolgolkbaaDoorRows
import Derived.Laws.IdiomStrings
namespace Go.Proofs.YtokdneolgolkbaaDoor
open Go.RowKit P05


/-- n empty bytes, then those of a text. -/
def bytesRow20 (n : Nat) (l : List UInt8) : List Value := List.replicate n (.int .u8 0) ++ l.map fun c => Value.int .u8 (c.toNat : Int)
theorem bytesRow20_get {n : Nat} {l : List UInt8} {k : Nat} (h : k < n) : (bytesRow20 n l)[k]? = some (.int .u8 0) := by
  unfold bytesRow20
  rw [List.getElem?_append_left (by simpa using h), List.getElem?_replicate, if_pos h]
theorem bytesRow20_set {n : Nat} {l : List UInt8} (c : UInt8) : (bytesRow20 (n + 1) l).set n (.int .u8 (c.toNat : Int)) = bytesRow20 n (c :: l) := by
  unfold bytesRow20
  rw [List.replicate_succ', List.append_assoc, List.set_append_right _ _ (by simp), List.length_replicate, Nat.sub_self]
  rfl
theorem bytesRow20_tail {n : Nat} {l : List UInt8} (i : Nat) : (bytesRow20 n l)[n + i]? = (l.map fun c => Value.int .u8 (c.toNat : Int))[i]? := by
  unfold bytesRow20
  rw [List.getElem?_append_right (by simp), List.length_replicate, Nat.add_sub_cancel_left]
theorem neg_wrap {n : Int} (h0 : -9223372036854775808 ≤ n) (hn : n < 0) : IntKind.u64.wrap (-IntKind.u64.wrap n) = -n := by
  have e : ∀ x : Int, IntKind.u64.wrap x = x % 18446744073709551616 := fun x => rfl
  rw [e, e]
  omega
theorem dig_int (z : Int) : (((dig (z % 10).toNat).toNat : Nat) : Int) = 48 + z % 10 := by
  rw [dig_nat (by omega)]
  omega
theorem run_str {w : World} {g a n cap : Nat} {t : TypeId} {L : List UInt8} (hb : Blk w g t (bytesRow20 a L)) (hL : L.length = n) :
    (convert 51 9 (.slice (some ⟨g, a, none⟩) n cap)).run Tryd.prog w = .ok (.string ⟨L.toArray⟩) w := by
  subst hL
  refine run_convert_bytes_back w 51 9 5 ⟨g, a, none⟩ cap L Tryd.underlying51 Tryd.underlying5 Tryd.underlying9 (fun j hj => ?_)
  have hadd : (⟨g, a, none⟩ : Addr).add j = ⟨g, a + j, none⟩ := by unfold Addr.add; split <;> simp_all
  rw [hadd, hb.cell, bytesRow20_tail, List.getElem?_map, List.getElem?_eq_getElem hj]
  rfl
theorem run_tail (g b : Nat) (hb : b < 20) (W : World) :
    (Instr.sliceAt 71 (.pointer (some ⟨g, 0, none⟩)) (some (.int .i64 (b : Int))) none none).run Tryd.prog W = .ok (.slice (some ⟨g, b, none⟩) (20 - b) (20 - b)) W := by
  have hl : Tryd.prog.arrayLen 71 = 20 := by kernel_rfl
  have he : (Tryd.prog.info? (Tryd.prog.elem 71)).map (fun i => (i.zero, i.size, i.bytes)) = some (some (.int .u8 0), 1, 1) := by kernel_rfl
  obtain ⟨i, hi, hz, hs, hby⟩ := info_parts he
  rw [run_sliceAt_array_l (P := Tryd.prog) W 71 ⟨g, 0, none⟩ (by kernel_rfl) .i64 b (by omega) (by rw [hl]; omega), hl]
  have hsz : (sizeOf (Tryd.prog.elem 71)).run Tryd.prog W = .ok 1 W := by simp [sizeOf, typeInfo, hi, hs]
  rw [hsz]
  simp only [Result.andThen_ok, slicedAt, Int.toNat_natCast, Nat.mul_one]
  rw [if_neg (by omega)]
  have hadd : (⟨g, 0, none⟩ : Addr).add b = ⟨g, b, none⟩ := by unfold Addr.add; split <;> simp_all
  rw [hadd]
/-- What is known of the digits so far. -/
def DecSo (m a : Nat) (z : Int) (l : List UInt8) : Prop := l.length + a = 20 ∧ z.toNat < 10 ^ (a - 1) ∧ decF 20 m = decF a z.toNat ++ l
theorem DecSo.step {m a : Nat} {z : Int} {l : List UInt8} (h : DecSo m (a + 1) z l) (hz : 10 ≤ z) : DecSo m a (z / 10) (dig (z % 10).toNat :: l) ∧ 2 ≤ a := by
  obtain ⟨h1, h2, h3⟩ := h
  rw [Nat.add_sub_cancel] at h2
  have ha : 2 ≤ a := by
    rcases a with _ | _ | a
    · simp at h2; omega
    · simp at h2; omega
    · omega
  obtain ⟨b, rfl⟩ : ∃ b, a = b + 1 := ⟨a - 1, by omega⟩
  refine ⟨⟨by simp; omega, ?_, ?_⟩, ha⟩
  · rw [Nat.add_sub_cancel]
    rw [Nat.pow_succ] at h2
    omega
  · rw [h3, decF_great _ _ (by omega), List.append_assoc]
    have e1 : (z / 10).toNat = z.toNat / 10 := by omega
    have e2 : (z % 10).toNat = z.toNat % 10 := by omega
    rw [e1, e2]
    rfl
theorem DecSo.last {m a : Nat} {z : Int} {l : List UInt8} (h : DecSo m (a + 1) z l) (h0 : 0 ≤ z) (hz : z < 10) : dec m = dig (z % 10).toNat :: l ∧ l.length + 1 + a = 20 := by
  obtain ⟨h1, h2, h3⟩ := h
  refine ⟨?_, by omega⟩
  have e2 : (z % 10).toNat = z.toNat := by omega
  unfold dec
  rw [h3, decF_small _ _ (by omega), e2]
  rfl
set_option maxHeartbeats 1000000 in
set_option maxRecDepth 100000 in
theorem decimal_any (n : Int) (w : World) (h0 : -9223372036854775808 ≤ n) (h1 : n ≤ 9223372036854775807) :
    Calls Tryd.prog 14 #[.int .i64 n] w fun e w' => e = .returned (bstr (decI n)) ∧ Below w.heap.size w w' := by
  by_cases hn : n < 0
  · have HW := Lib.hid (neg_wrap h0 hn)
    have HD : Hid (decI n = 45 :: dec (-n).toNat) := by show decI n = _; unfold decI; rw [if_pos hn]
    go_enter Tryd.func14, Tryd.ntmps14
    go_wp2_with fail
    rw [HW.out]
    go_loopw [4, 5] (fun rv av wr => ∃ (a : Nat) (z : Int) (l : List UInt8), av = .int .i64 a ∧ rv = .int .u64 z ∧ 2 ≤ a ∧ a ≤ 20 ∧ 0 ≤ z ∧ z ≤ 10000000000000000000 ∧ Blk wr w.heap.size 71 (bytesRow20 a l) ∧ Hid (DecSo (-n).toNat a z l) ∧ Below w.heap.size w wr) (fun rv _ _ => (intOf rv).toNat)
    case atStart => exact ⟨20, -n, [], rfl, rfl, by omega, by omega, by omega, by omega, Blk.new w _ (List.replicate 20 (.int .u8 0)), ⟨rfl, by have h3 : (10 : Nat) ^ (20 - 1) = 10000000000000000000 := (by decide +kernel); rw [h3]; omega, (List.append_nil _).symm⟩, (Below.refl _ _).alloc (Nat.le_refl _) _⟩
    case round =>
      obtain ⟨a, z, l, rfl, rfl, ha2, ha20, hz0, hz1, hb, HS, hbel⟩ := hrel
      obtain ⟨a, rfl⟩ : ∃ b, a = b + 1 := ⟨a - 1, by omega⟩
      have c0 : wr.cell? ⟨w.heap.size, a, none⟩ = some (.int .u8 0) := (hb.cell a).trans (bytesRow20_get (Nat.lt_succ_self _))
      have f0 := hb.frozen a
      have HB := Lib.hid hb
      have HDI := Lib.hid (dig_int z)
      have hzm := Int.emod_nonneg z (show (10 : Int) ≠ 0 by omega)
      have hzm2 := Int.emod_lt_of_pos z (show (0 : Int) < 10 by omega)
      clear hb
      by_cases hz : z < 10
      · have hq : (z / 10 == 0) = true := by rw [beq_iff_eq]; omega
        have HL := Lib.hid (HS.out.last hz0 hz)
        obtain ⟨b, rfl⟩ : ∃ b, a = b + 1 := ⟨a - 1, by omega⟩
        have c1 : wr.cell? ⟨w.heap.size, b, none⟩ = some (.int .u8 0) := (HB.out.cell b).trans (bytesRow20_get (by omega))
        have f1 := HB.out.frozen b
        have ks := run_tail w.heap.size b (by omega)
        have hb2 := (HB.out.set_ (b + 1) (.int .u8 (((dig (z % 10).toNat).toNat : Nat) : Int)))
        rw [bytesRow20_set, HDI.out] at hb2
        have hb3 := hb2.set_ b (.int .u8 (((45 : UInt8).toNat : Nat) : Int))
        have HF : Hid (45 :: dig (z % 10).toNat :: l = decI n) := by
          show _ = decI n
          rw [HD.out, HL.out.1]
        have e45 : (((45 : UInt8).toNat : Nat) : Int) = 45 := rfl
        rw [bytesRow20_set, HF.out, e45] at hb3
        have kc := run_str hb3 (n := 20 - b) (cap := 20 - b) (by rw [← HF.out]; have := HL.out.2; simp; omega)
        clear hb2 hb3 e45
        go_wp2
        go_ret
        exact ⟨rfl, (hbel.setCell (p := ⟨w.heap.size, b + 1, none⟩) (Nat.le_refl _) _).setCell (p := ⟨w.heap.size, b, none⟩) (Nat.le_refl _) _⟩
      · have hz : 10 ≤ z := by omega
        have hq : (z / 10 == 0) = false := by rw [beq_eq_false_iff_ne]; omega
        have HN := Lib.hid (HS.out.step hz)
        go_wp2
        go_roundw
        case rel => exact ⟨a, z / 10, _, by go_num, rfl, HN.out.2, by omega, by omega, by omega, by have := HB.out.set_ a (.int .u8 (((dig (z % 10).toNat).toNat : Nat) : Int)); rw [bytesRow20_set, HDI.out] at this; exact this, HN.out.1, hbel.setCell (p := ⟨w.heap.size, a, none⟩) (Nat.le_refl _) _⟩
        case measure => simp [intOf]; omega
  · have HD : Hid (decI n = dec n.toNat) := by show decI n = _; unfold decI; rw [if_neg hn]
    have hn : 0 ≤ n := by omega
    go_enter Tryd.func14, Tryd.ntmps14
    go_wp2_with fail
    go_loopw [4, 5] (fun rv av wr => ∃ (a : Nat) (z : Int) (l : List UInt8), av = .int .i64 a ∧ rv = .int .u64 z ∧ 2 ≤ a ∧ a ≤ 20 ∧ 0 ≤ z ∧ z ≤ 10000000000000000000 ∧ Blk wr w.heap.size 71 (bytesRow20 a l) ∧ Hid (DecSo n.toNat a z l) ∧ Below w.heap.size w wr) (fun rv _ _ => (intOf rv).toNat)
    case atStart => exact ⟨20, n, [], rfl, rfl, by omega, by omega, by omega, by omega, Blk.new w _ (List.replicate 20 (.int .u8 0)), ⟨rfl, by have h3 : (10 : Nat) ^ (20 - 1) = 10000000000000000000 := (by decide +kernel); rw [h3]; omega, (List.append_nil _).symm⟩, (Below.refl _ _).alloc (Nat.le_refl _) _⟩
    case round =>
      obtain ⟨a, z, l, rfl, rfl, ha2, ha20, hz0, hz1, hb, HS, hbel⟩ := hrel
      obtain ⟨a, rfl⟩ : ∃ b, a = b + 1 := ⟨a - 1, by omega⟩
      have c0 : wr.cell? ⟨w.heap.size, a, none⟩ = some (.int .u8 0) := (hb.cell a).trans (bytesRow20_get (Nat.lt_succ_self _))
      have f0 := hb.frozen a
      have HB := Lib.hid hb
      have HDI := Lib.hid (dig_int z)
      have hzm := Int.emod_nonneg z (show (10 : Int) ≠ 0 by omega)
      have hzm2 := Int.emod_lt_of_pos z (show (0 : Int) < 10 by omega)
      clear hb
      by_cases hz : z < 10
      · have hq : (z / 10 == 0) = true := by rw [beq_iff_eq]; omega
        have HL := Lib.hid (HS.out.last hz0 hz)
        have ks := run_tail w.heap.size a (by omega)
        have hb2 := (HB.out.set_ a (.int .u8 (((dig (z % 10).toNat).toNat : Nat) : Int)))
        have HF : Hid (dig (z % 10).toNat :: l = decI n) := by
          show _ = decI n
          rw [HD.out, HL.out.1]
        rw [bytesRow20_set, HF.out, HDI.out] at hb2
        have kc := run_str hb2 (n := 20 - a) (cap := 20 - a) (by rw [← HF.out]; have := HL.out.2; simp; omega)
        clear hb2
        go_wp2
        go_ret
        exact ⟨rfl, hbel.setCell (p := ⟨w.heap.size, a, none⟩) (Nat.le_refl _) _⟩
      · have hz : 10 ≤ z := by omega
        have hq : (z / 10 == 0) = false := by rw [beq_eq_false_iff_ne]; omega
        have HN := Lib.hid (HS.out.step hz)
        go_wp2
        go_roundw
        case rel => exact ⟨a, z / 10, _, by go_num, rfl, HN.out.2, by omega, by omega, by omega, by have := HB.out.set_ a (.int .u8 (((dig (z % 10).toNat).toNat : Nat) : Int)); rw [bytesRow20_set, HDI.out] at this; exact this, HN.out.1, hbel.setCell (p := ⟨w.heap.size, a, none⟩) (Nat.le_refl _) _⟩
        case measure => simp [intOf]; omega
end Go.Proofs.YtokdneolgolkbaaDoor
