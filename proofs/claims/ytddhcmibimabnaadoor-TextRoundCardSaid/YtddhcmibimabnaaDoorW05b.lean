/- The walk of the reference's Number. -/
import Derived.Test.YtddhcmibimabnaaDoorW05a
namespace Go.Proofs.YtddhcmibimabnaaDoor
open Go.RowKit P05

theorem valF_lt : ∀ (l : List UInt8) (n : Nat), l.all isDig = true → valF n l < (n + 1) * 10 ^ l.length
  | [], n, _ => by rw [valF_nil]; simp
  | c :: t, n, h => by
    simp only [List.all_cons, Bool.and_eq_true] at h
    have hc := isDig_bd h.1
    have ih := valF_lt t (10 * n + (c.toNat - 48)) h.2
    rw [valF_cons, List.length_cons, Nat.pow_succ]
    refine Nat.lt_of_lt_of_le ih ?_
    rw [Nat.mul_comm (10 ^ t.length) 10, ← Nat.mul_assoc]
    exact Nat.mul_le_mul_right _ (by omega)
theorem valF_small (l : List UInt8) (h : l.all isDig = true) (hl : l.length ≤ 17) : ((valF 0 l : Nat) : Int) < 100000000000000000 := by
  have h1 := valF_lt l 0 h
  rw [Nat.zero_add, Nat.one_mul] at h1
  have h2 : 10 ^ l.length ≤ 10 ^ 17 := pow_le_pow hl
  have h3 : (10 : Nat) ^ 17 = 100000000000000000 := by decide +kernel
  omega
theorem valF_step {l : List UInt8} {c : UInt8} {z : Int} (h : ((valF 0 l : Nat) : Int) = z) (hc : 48 ≤ (c.toNat : Int)) : ((valF 0 (l ++ [c]) : Nat) : Int) = 10 * z + ((c.toNat : Int) - 48) := by
  rw [valF_snoc]
  push_cast
  omega

set_option maxHeartbeats 1000000 in
set_option maxRecDepth 100000 in
theorem rnumber_any (s : ByteArray) (w : World) (hs : s.size ≤ 4294967281) :
    Calls Tryd.prog 14 #[.string s] w fun e w' => e = .returned (.tuple #[.int .i64 (numV s.data.toList : Nat), .bool (isNum s.data.toList)]) ∧ w' = w := by
  by_cases h0 : s.size = 0
  · obtain rfl := str_empty s h0
    clear h0 hs
    go_enter Tryd.func14, Tryd.ntmps14
    go_wp2
    go_ret2
    exact ⟨rfl, rfl⟩
  · have hs0 : 0 < s.size := by omega
    have hs1 : ((s.size : Int) == 0) = false := by rw [beq_eq_false_iff_ne]; omega
    have hhd := Lib.hid (head_data s hs0)
    have HN := Lib.hid (ne_nil_of_size s hs0)
    have HLN := Lib.hid (data_len s)
    clear h0
    by_cases hz : s[0] = 48 ∧ 1 < s.size
    · obtain ⟨hz, h1⟩ := hz
      have HF := Lib.hid (isNum_zero (hhd.out.trans (by rw [hz])) (by rw [HLN.out]; exact h1))
      have hz2 : ((s[0].toNat : Int) == 48) = true := by rw [hz]; rfl
      have h1' : (1 : Int) < (s.size : Int) := by omega
      clear hz
      go_enter Tryd.func14, Tryd.ntmps14
      go_wp2
      go_ret2
      exact ⟨ret_two (by rw [numV_no HF.out]; rfl) HF.out.symm, rfl⟩
    · have HZ : Hid (s.data.toList.head? ≠ some 48 ∨ s.data.toList.length = 1) := by
        by_cases e : s[0] = 48
        · exact .inr (by rw [HLN.out]; have : ¬ 1 < s.size := fun h => hz ⟨e, h⟩; omega)
        · exact .inl (by rw [hhd.out]; intro h; injection h with h; exact e h)
      have hcase : ((s[0].toNat : Int) == 48) = false ∨ (((s[0].toNat : Int) == 48) = true ∧ (s.size : Int) ≤ 1) := by
        by_cases e : s[0] = 48
        · exact .inr ⟨by rw [e]; rfl, by have : ¬ 1 < s.size := fun h => hz ⟨e, h⟩; omega⟩
        · refine .inl ?_
          rw [beq_eq_false_iff_ne]
          intro h
          exact e (UInt8.toNat_inj.1 (by have e48 : (48 : UInt8).toNat = 48 := rfl; omega))
      clear hz
      rcases hcase with hz | ⟨hz, hz1⟩
      all_goals
        go_enter Tryd.func14, Tryd.ntmps14
        go_wp2_with fail
        clear hz hs1
        go_loop [4] (fun i => ∃ k : Nat, k ≤ s.size ∧ i = .int .i64 k ∧ Hid ((s.data.toList.take k).all isDig = true)) (fun i => s.size - (intOf i).toNat)
        case atStart => exact ⟨0, Nat.zero_le _, rfl, rfl⟩
        case round =>
          obtain ⟨k, hk, rfl, HA⟩ := hrel
          by_cases hlt : k < s.size
          · have hts := Lib.hid (take_snoc s k hlt)
            have HM := Lib.hid (mem_data s k hlt)
            by_cases ho : isDig s[k] = true
            · obtain ⟨h1, h2⟩ := (isDig_iff _).1 ho
              have HO := Lib.hid ho
              clear ho
              go_wp2
              go_round
              case rel => exact ⟨k + 1, by omega, by go_num, by show (_ : List UInt8).all isDig = true; rw [hts.out, List.all_append, HA.out]; simp [HO.out]⟩
              case measure => simp [intOf]; omega
            · have HF := Lib.hid (isNum_bad HM.out ho)
              have hc : (s[k].toNat : Int) < 48 ∨ (48 ≤ (s[k].toNat : Int) ∧ 57 < (s[k].toNat : Int)) := by
                by_cases a : 48 ≤ (s[k].toNat : Int)
                · by_cases b : (s[k].toNat : Int) ≤ 57
                  · exact absurd ((isDig_iff s[k]).2 ⟨a, b⟩) ho
                  · exact .inr ⟨a, by omega⟩
                · exact .inl (by omega)
              clear ho
              rcases hc with h1 | ⟨h1, h2⟩
              all_goals
                go_wp2
                go_ret2
                exact ⟨ret_two (by rw [numV_no HF.out]; rfl) HF.out.symm, rfl⟩
          · obtain rfl : k = s.size := by omega
            have HD : Hid (s.data.toList.all isDig = true) := by
              have := HA.out
              rw [take_all] at this
              exact this
            have HT : Hid (isNum s.data.toList = true) := isNum_good HD.out HN.out HZ.out
            have HC := Lib.hid (clampF_num HT.out)
            clear HA
            by_cases hb : 18 < s.size
            · have HV : Hid (((numV s.data.toList : Nat) : Int) = 1000000000000000000) := by
                show ((numV s.data.toList : Nat) : Int) = _
                rw [numV_yes HT.out, HC.out, HLN.out, if_pos hb]
                rfl
              have hb' : (18 : Int) < (s.size : Int) := by omega
              go_wp2
              go_ret2
              exact ⟨ret_two HV.out.symm HT.out.symm, rfl⟩
            · have hb' : (s.size : Int) ≤ 18 := by omega
              have HV : Hid (numV s.data.toList = valF 0 s.data.toList) := by
                show numV s.data.toList = _
                rw [numV_yes HT.out, HC.out, HLN.out, if_neg hb]
              clear hb
              go_wp2_with fail
              go_loop [5, 6] (fun nv i => ∃ (k : Nat) (z : Int), k ≤ s.size ∧ i = .int .i64 k ∧ nv = .int .i64 z ∧ 0 ≤ z ∧ Hid (((valF 0 (s.data.toList.take k) : Nat) : Int) = z)) (fun _ i => s.size - (intOf i).toNat)
              case atStart => exact ⟨0, 0, Nat.zero_le _, rfl, rfl, by omega, rfl⟩
              case round =>
                obtain ⟨k, z, hk, rfl, rfl, hz0, HA⟩ := hrel
                by_cases hlt : k < s.size
                · have hts := Lib.hid (take_snoc s k hlt)
                  obtain ⟨h1, h2⟩ := (isDig_iff _).1 (List.all_eq_true.1 HD.out _ (mem_data s k hlt))
                  have hzb : z < 100000000000000000 := by
                    have := valF_small (s.data.toList.take k) (List.all_eq_true.2 fun c hc => List.all_eq_true.1 HD.out c (List.mem_of_mem_take hc)) (by rw [List.length_take]; omega)
                    rw [HA.out] at this
                    exact this
                  have HS := Lib.hid (valF_step HA.out h1)
                  go_wp2
                  go_round
                  case rel => exact ⟨k + 1, _, by omega, by go_num, rfl, by omega, by rw [hts.out]; exact HS.out⟩
                  case measure => simp [intOf]; omega
                · obtain rfl : k = s.size := by omega
                  have HE : Hid (((numV s.data.toList : Nat) : Int) = z) := by
                    have := HA.out
                    rw [take_all] at this
                    rw [← HV.out] at this
                    exact this
                  go_wp2
                  go_ret2
                  exact ⟨ret_two HE.out.symm HT.out.symm, rfl⟩
end Go.Proofs.YtddhcmibimabnaaDoor
