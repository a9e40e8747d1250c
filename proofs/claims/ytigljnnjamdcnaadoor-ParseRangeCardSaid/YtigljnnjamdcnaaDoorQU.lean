/-
  The walk of the reference's Decimal.
  The walk of the reference's Line.
-/
import Derived.Test.YtigljnnjamdcnaaDoorQE
namespace Go.Proofs.YtigljnnjamdcnaaDoor
open Go.RowKit P05


set_option maxHeartbeats 1000000 in
set_option maxRecDepth 100000 in
theorem rdec_nn : ∀ (k : Nat) (n : Int) (w : World), 1 ≤ k → k ≤ 20 → 0 ≤ n → n ≤ 9223372036854775807 → n.toNat < 10 ^ k →
    Calls Tryd.prog 33 #[.int .i64 n] w fun e w' => e = .returned (bstr (decF k n.toNat)) ∧ Below w.heap.size w w' := by
  intro k
  induction k with
  | zero => intro n w h; omega
  | succ k ih =>
    intro n w _ hk20 h0 h1 hlt
    have HK : Hid (k ≤ 20) := by show k ≤ 20; omega
    clear hk20
    have HI := Lib.hid ih
    have HLT := Lib.hid hlt
    clear ih hlt
    have HDI := Lib.hid (dig_int n)
    have hzm := Int.emod_nonneg n (show (10 : Int) ≠ 0 by omega)
    have hzm2 := Int.emod_lt_of_pos n (show (0 : Int) < 10 by omega)
    have hb := Blk.new w 5 [.int .u8 (((dig (n % 10).toNat).toNat : Nat) : Int)]
    have kc := run_str (L := [dig (n % 10).toNat]) (a := 0) (n := 1) (cap := 1) hb rfl
    rw [HDI.out] at kc
    clear hb
    by_cases hn : n ≤ 9
    · have HF : Hid (decF (k + 1) n.toNat = [dig (n % 10).toNat]) := by
        show _ = _
        rw [decF_small _ _ (by omega), show (n % 10).toNat = n.toNat by omega]
      obtain ⟨c, hc⟩ : ∃ c, c = dig (n % 10).toNat := ⟨_, rfl⟩
      rw [← hc] at kc HF
      clear hc
      go_enter Tryd.func33, Tryd.ntmps33
      go_wp2
      go_ret
      rw [HF.out]
      exact ⟨rfl, (Below.refl _ _).alloc (Nat.le_refl _) _⟩
    · have hn : 9 < n := by omega
      have hk : 1 ≤ k := by
        have := HLT.out
        cases k with
        | zero => simp at this; omega
        | succ k => omega
      have HF : Hid (decF (k + 1) n.toNat = decF k (n / 10).toNat ++ [dig (n % 10).toNat]) := by
        show _ = _
        rw [decF_great _ _ (by omega), show (n % 10).toNat = n.toNat % 10 by omega, show (n / 10).toNat = n.toNat / 10 by omega]
      have hq : (n / 10).toNat < 10 ^ k := by
        have := HLT.out
        rw [Nat.pow_succ] at this
        omega
      have HC := fun W => Lib.hid (HI.out (n / 10) W hk (by have := HK.out; omega) (by omega) (by omega) hq)
      have HQ := Lib.hid hq
      clear hq
      obtain ⟨c, hc⟩ : ∃ c, c = dig (n % 10).toNat := ⟨_, rfl⟩
      rw [← hc] at kc HF
      clear hc
      go_enter Tryd.func33, Tryd.ntmps33
      go_wp2_with fail
      refine (HC _).out.mono ?_
      rintro e w2 ⟨rfl, hb2⟩
      have hL := (decF_ok k (n / 10).toNat HQ.out hk).2.2.2.1
      have hL2 : (decF k (n / 10).toNat).length ≤ 1000 := by have := HK.out; omega
      clear hL
      generalize decF k (n / 10).toNat = L at HF hL2 ⊢
      unfold bstr
      go_wp2
      go_ret
      rw [HF.out]
      exact ⟨congrArg Ending.returned (bstr_append L [c]), ((Below.refl _ _).alloc (Nat.le_refl _) _).trans (hb2.mono (by simp))⟩
theorem dec_min : decI (-9223372036854775808) = [45, 57, 50, 50, 51, 51, 55, 50, 48, 51, 54, 56, 53, 52, 55, 55, 53, 56, 48, 56] := by decide +kernel
set_option maxHeartbeats 1000000 in
set_option maxRecDepth 100000 in
/-- The reference's Decimal. -/
theorem rdecimal_any (n : Int) (w : World) (h0 : -9223372036854775808 ≤ n) (h1 : n ≤ 9223372036854775807) :
    Calls Tryd.prog 33 #[.int .i64 n] w fun e w' => e = .returned (bstr (decI n)) ∧ Below w.heap.size w w' := by
  have h20 : (10 : Nat) ^ 20 = 100000000000000000000 := by decide +kernel
  by_cases hn : n < 0
  · by_cases hm : n = -9223372036854775808
    · subst hm
      go_enter Tryd.func33, Tryd.ntmps33
      go_wp2
      go_ret
      rw [dec_min]
      exact ⟨rfl, Below.refl _ _⟩
    · obtain ⟨L, hL⟩ : ∃ L, L = dec (-n).toNat := ⟨_, rfl⟩
      have HD : Hid (decI n = [45] ++ L) := by show decI n = _; unfold decI; rw [if_pos hn, hL]; rfl
      have hne : (n == -9223372036854775808) = false := by rw [beq_eq_false_iff_ne]; exact hm
      have hm2 : -9223372036854775807 ≤ n := by omega
      have HC : ∀ W : World, Hid (Calls Tryd.prog 33 #[.int .i64 (-n)] W fun e w' => e = .returned (bstr L) ∧ Below W.heap.size W w') := fun W => by
        rw [hL]
        exact rdec_nn 20 (-n) W (by omega) (Nat.le_refl _) (by omega) (by omega) (by rw [h20]; omega)
      have hl : L.length ≤ 20 := by rw [hL]; exact (dec_ok (-n).toNat (by omega)).2.2.2.1
      clear hm h20 hL
      go_enter Tryd.func33, Tryd.ntmps33
      go_wp2_with fail
      refine (HC _).out.mono ?_
      rintro e w2 ⟨rfl, hb2⟩
      unfold bstr
      go_wp2
      go_ret
      rw [HD.out]
      exact ⟨congrArg Ending.returned (bstr_append [45] L), hb2⟩
  · have := rdec_nn 20 n w (by omega) (Nat.le_refl _) (by omega) h1 (by rw [h20]; omega)
    unfold decI
    rw [if_neg hn]
    exact this
end Go.Proofs.YtigljnnjamdcnaaDoor

namespace Go.Proofs.YtigljnnjamdcnaaDoor
open Go.RowKit P05

set_option maxHeartbeats 1000000 in
set_option maxRecDepth 100000 in
/-- The reference's Line. -/
theorem rline_any (l : List (List UInt8)) (v : Value) (w : World) (hr : RStrs w v l) (hl : l.length ≤ 1000) (hs : ∀ x ∈ l, x.length ≤ 1000) :
    Calls Tryd.prog 35 #[v] w fun e w' => e = .returned (bstr (lineP l)) ∧ w' = w := by
  obtain ⟨A, c, rfl, h1, h2, hlc⟩ := hr.open_
  have HL := Lib.hid hlc
  have HS := Lib.hid hs
  clear hlc hr hs
  go_enter Tryd.func35, Tryd.ntmps35
  go_wp2_with fail
  go_loop [3, 4] (fun sv iv => ∃ (k : Nat) (s : ByteArray), k ≤ l.length ∧ iv = .int .i64 k ∧ sv = .string s ∧ s.size ≤ k * 1001 ∧ Hid (s.data.toList = joinB 32 (l.take k))) (fun _ iv => l.length - (intOf iv).toNat)
  case atStart => exact ⟨0, _, Nat.zero_le _, rfl, rfl, Nat.zero_le _, rfl⟩
  case round =>
    obtain ⟨k, s, hk, rfl, rfl, hsz, HI⟩ := hrel
    by_cases hlt : k < l.length
    · obtain ⟨x, hx⟩ := some_of_lt hlt
      obtain ⟨b, o, rfl, hb, hc0⟩ := HL.out k x hx
      have hxl := HS.out x (List.mem_of_getElem? hx)
      obtain ⟨t, ht⟩ : ∃ t : ByteArray, (⟨x.toArray⟩ : ByteArray) = t := ⟨_, rfl⟩
      rw [ht] at hc0
      have htd : t.data.toList = x := by rw [← ht]
      have hts : t.size ≤ 1000 := by rw [← data_len, htd]; exact hxl
      have hst : l.take (k + 1) = l.take k ++ [x] := by rw [List.take_add_one, hx]; rfl
      have hjn := joinB_snoc 32 (l.take k) x
      rw [← hst] at hjn
      have hlk : (l.take k).length = k := by rw [List.length_take]; omega
      by_cases h0 : k = 0
      · subst h0
        have HN : Hid ((s ++ t).data.toList = joinB 32 (l.take (0 + 1))) := by
          show _ = _
          rw [ba_append, HI.out, hjn, htd]
          rfl
        rw [Nat.add_zero] at hc0
        have hss : (s ++ t).size ≤ (0 + 1) * 1001 := by rw [ByteArray.size_append]; omega
        clear hst hjn hlk hx ht htd
        go_wp2
        go_round
        case rel => exact ⟨0 + 1, _, by omega, by go_num, rfl, hss, HN⟩
        case measure => simp [intOf]; omega
      · have HN : Hid (((s ++ ⟨#[32]⟩) ++ t).data.toList = joinB 32 (l.take (k + 1))) := by
          show _ = _
          have he : (l.take k).isEmpty = false := by
            cases e : l.take k with
            | nil => rw [e] at hlk; simp at hlk; omega
            | cons a t => rfl
          rw [ba_append, ba_append, HI.out, hjn, htd, he]
          rfl
        have hss : ((s ++ ⟨#[32]⟩) ++ t).size ≤ (k + 1) * 1001 := by
          rw [ByteArray.size_append, ByteArray.size_append]
          have : (⟨#[32]⟩ : ByteArray).size = 1 := rfl
          omega
        have hk0 : (0 : Int) < (k : Int) := by omega
        have hsb : s.size ≤ 10000000 := by omega
        clear hst hjn hlk hx ht htd h0
        go_wp2
        go_round
        case rel => exact ⟨k + 1, _, by omega, by go_num, rfl, hss, HN⟩
        case measure => simp [intOf]; omega
    · obtain rfl : k = l.length := by omega
      have HF : Hid (bstr (lineP l) = .string (s ++ ⟨#[10]⟩)) := by
        have := HI.out
        rw [List.take_length] at this
        show bstr (joinB 32 l ++ [10]) = _
        rw [← this, ba_eta (s ++ ⟨#[10]⟩) _ (ba_append _ _)]
        rfl
      have hsb : s.size ≤ 10000000 := by omega
      go_wp2
      go_ret
      exact ⟨congrArg Ending.returned HF.out.symm, rfl⟩
end Go.Proofs.YtigljnnjamdcnaaDoor
