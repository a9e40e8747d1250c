/- The walks of isWord and of Number, the program's and the reference's. -/
import Derived.Test.YtokdneolgolkbaaDoorP05b
import Derived.Test.YtokdneolgolkbaaDoorMem
import Derived.Test.YtokdneolgolkbaaDoorShelf
import Derived.IntWalk
import Derived.WalkSmall
import Derived.Test.YtokdneolgolkbaaDoorB05
namespace Go.Proofs.YtokdneolgolkbaaDoor
open Go.RowKit P05

set_option maxHeartbeats 1000000 in
theorem isWord_any (s : ByteArray) (w : World) (hs : s.size ≤ 4294967281) :
    Calls Tryd.prog 31 #[.string s] w fun e w' => e = .returned (.bool (isWord s.data.toList)) ∧ w' = w := by
  by_cases h0 : s.size = 0
  · obtain rfl := str_empty s h0
    clear h0 hs
    go_enter Tryd.func31, Tryd.ntmps31
    go_wp2_with fail
    go_loop [6] (fun i => i = .int .i64 0) (fun _ => 0)
    case atStart => exact rfl
    case round =>
      subst hrel
      go_wp2
      go_ret
      exact ⟨rfl, rfl⟩
  · go_enter Tryd.func31, Tryd.ntmps31
    have hne := ne_nil_of_size s (by omega)
    have HN := Lib.hid hne
    have hs0 : 0 < s.size := by omega
    clear hne h0
    go_wp2_with fail
    go_loop [6] (fun i => ∃ k : Nat, k ≤ s.size ∧ i = .int .i64 k ∧ Hid ((s.data.toList.take k).all okByte = true)) (fun i => s.size - (intOf i).toNat)
    case atStart => exact ⟨0, Nat.zero_le _, rfl, rfl⟩
    case round =>
      obtain ⟨k, hk, rfl, HA⟩ := hrel
      by_cases hlt : k < s.size
      · have hts := Lib.hid (take_snoc s k hlt)
        have HM := Lib.hid (mem_data s k hlt)
        by_cases ho : okByte s[k] = true
        · obtain ⟨h1, h2⟩ := (okByte_iff _).1 ho
          have HO := Lib.hid ho
          clear ho
          go_wp2
          go_round
          case rel => exact ⟨k + 1, by omega, by go_num, by show (_ : List UInt8).all okByte = true; rw [hts.out, List.all_append, HA.out]; simp [HO.out]⟩
          case measure => simp [intOf]; omega
        · have HF : Hid (isWord s.data.toList = false) := by
            show isWord s.data.toList = false
            have : s.data.toList.all okByte = false := by
              rw [List.all_eq_false]
              exact ⟨_, HM.out, by simpa using ho⟩
            simp [isWord, this]
          have hc : (s[k].toNat : Int) < 33 ∨ (33 ≤ (s[k].toNat : Int) ∧ 126 < (s[k].toNat : Int)) := by
            by_cases a : 33 ≤ (s[k].toNat : Int)
            · by_cases b : (s[k].toNat : Int) ≤ 126
              · exact absurd ((okByte_iff s[k]).2 ⟨a, b⟩) ho
              · exact .inr ⟨a, by omega⟩
            · exact .inl (by omega)
          clear ho
          rcases hc with h1 | ⟨h1, h2⟩
          all_goals
            go_wp2
            go_ret
            exact ⟨ret_bool HF.out.symm, rfl⟩
      · obtain rfl : k = s.size := by omega
        have HT : Hid (isWord s.data.toList = true) := by
          have := HA.out
          rw [take_all] at this
          exact (isWord_cur this).2 HN.out
        have hse := str_nonempty s hs0
        go_wp2
        go_ret
        exact ⟨ret_bool HT.out.symm, rfl⟩
/-- The number that is told; 0, if it is no decimal. -/
def numV (l : List UInt8) : Nat := if isNum l then clampF 0 l else 0
theorem numV_no {l : List UInt8} (h : isNum l = false) : numV l = 0 := by unfold numV; rw [h]; rfl
theorem numV_yes {l : List UInt8} (h : isNum l = true) : numV l = clampF 0 l := by unfold numV; rw [if_pos h]
theorem isDig_iff (c : UInt8) : isDig c = true ↔ 48 ≤ (c.toNat : Int) ∧ (c.toNat : Int) ≤ 57 := by
  unfold isDig
  rw [Bool.and_eq_true, decide_eq_true_eq, decide_eq_true_eq]
  omega
theorem isNum_bad {l : List UInt8} {c : UInt8} (hm : c ∈ l) (h : ¬ isDig c = true) : isNum l = false := by
  have : l.all isDig = false := by
    rw [List.all_eq_false]
    exact ⟨c, hm, h⟩
  simp [isNum, this]
theorem isNum_zero {l : List UInt8} (h : l.head? = some 48) (h1 : 1 < l.length) : isNum l = false := by
  simp [isNum, h, h1]
theorem isNum_good {l : List UInt8} (h : l.all isDig = true) (h0 : l ≠ []) (hz : l.head? ≠ some 48 ∨ l.length = 1) : isNum l = true := by
  unfold isNum
  rw [h]
  have : l.isEmpty = false := by cases l with | nil => exact absurd rfl h0 | cons a t => rfl
  rw [this]
  rcases hz with h | h
  · have : (l.head? == some 48) = false := by rw [beq_eq_false_iff_ne]; exact h
    rw [this]; rfl
  · have : decide (1 < l.length) = false := by rw [h]; rfl
    rw [this]; simp
theorem head_data (s : ByteArray) (h : 0 < s.size) : s.data.toList.head? = some s[0] := by
  have : s.data.toList[0]? = some s[0] := by
    rw [List.getElem?_eq_getElem (by rw [data_len]; exact h)]
    rfl
  rw [List.head?_eq_getElem?, this]
theorem ret_two {a b : Int} {p q : Bool} (h : a = b) (h' : p = q) : Ending.returned (.tuple #[.int .i64 a, .bool p]) = .returned (.tuple #[.int .i64 b, .bool q]) := by rw [h, h']
/-- The number behind one digit more. -/
def StepN (n : Nat) (c : UInt8) (m : Int) : Prop := m = (stepF n c : Nat)
theorem step_hi {n : Nat} {c : UInt8} (h : (100000000000000000 : Int) ≤ (n : Int)) : ((stepF n c : Nat) : Int) = 1000000000000000000 := by
  unfold stepF
  rw [if_pos (by omega)]
  rfl
theorem step_lo {n : Nat} {c : UInt8} (h : (n : Int) < 100000000000000000) (hc : 48 ≤ (c.toNat : Int)) : ((stepF n c : Nat) : Int) = (n : Int) * 10 + ((c.toNat : Int) - 48) := by
  unfold stepF
  rw [if_neg (by omega)]
  push_cast
  omega
set_option maxHeartbeats 1000000 in
set_option maxRecDepth 100000 in
theorem number_any (s : ByteArray) (w : World) (hs : s.size ≤ 4294967281) :
    Calls Tryd.prog 32 #[.string s] w fun e w' => e = .returned (.tuple #[.int .i64 (numV s.data.toList : Nat), .bool (isNum s.data.toList)]) ∧ w' = w := by
  by_cases h0 : s.size = 0
  · obtain rfl := str_empty s h0
    clear h0 hs
    go_enter Tryd.func32, Tryd.ntmps32
    go_wp2
    go_ret2
    exact ⟨rfl, rfl⟩
  · have hs0 : 0 < s.size := by omega
    have hse := str_nonempty s hs0
    have hhd := Lib.hid (head_data s hs0)
    have HN := Lib.hid (ne_nil_of_size s hs0)
    have HLN := Lib.hid (data_len s)
    clear h0
    by_cases hz : s[0] = 48 ∧ 1 < s.size
    · obtain ⟨hz, h1⟩ := hz
      have HF := Lib.hid (isNum_zero (hhd.out.trans (by rw [hz])) (by rw [HLN.out]; exact h1))
      have hz2 : ((s[0].toNat : Int) == 48) = true := by rw [hz]; rfl
      have h1' : (1 : Int) < (s.size : Int) := by omega
      clear hz
      go_enter Tryd.func32, Tryd.ntmps32
      go_wp2
      go_ret2
      exact ⟨ret_two (by rw [numV_no HF.out]; rfl) HF.out.symm, rfl⟩
    · have HZ : Hid (s.data.toList.head? ≠ some 48 ∨ s.data.toList.length = 1) := by
        by_cases e : s[0] = 48
        · exact .inr (by rw [HLN.out]; have : ¬ 1 < s.size := fun h => hz ⟨e, h⟩; omega)
        · exact .inl (by rw [hhd.out]; intro h; injection h with h; exact e h)
      have hcase : ((s[0].toNat : Int) == 48) = false ∨ (((s[0].toNat : Int) == 48) = true ∧ (s.size : Int) ≤ 1) := by
        by_cases e : s[0] = 48
        · exact .inr ⟨by rw [e]; rfl, by have : ¬ 1 < s.size := fun h => hz ⟨e, h⟩; omega⟩
        · refine .inl ?_
          rw [beq_eq_false_iff_ne]
          intro h
          exact e (UInt8.toNat_inj.1 (by have e48 : (48 : UInt8).toNat = 48 := rfl; omega))
      clear hz
      rcases hcase with hz | ⟨hz, hz1⟩
      all_goals
        go_enter Tryd.func32, Tryd.ntmps32
        go_wp2_with fail
        clear hz
        go_loop [4, 20] (fun nv i => ∃ (k : Nat) (z : Int), k ≤ s.size ∧ i = .int .i64 k ∧ nv = .int .i64 z ∧ 0 ≤ z ∧ z ≤ 1000000000000000000 ∧ Hid ((s.data.toList.take k).all isDig = true ∧ ((clampF 0 (s.data.toList.take k) : Nat) : Int) = z)) (fun _ i => s.size - (intOf i).toNat)
        case atStart => exact ⟨0, 0, Nat.zero_le _, rfl, rfl, by omega, by omega, rfl, rfl⟩
        case round =>
          obtain ⟨k, z, hk, rfl, rfl, hn0, hn, HA⟩ := hrel
          by_cases hlt : k < s.size
          · have hts := Lib.hid (take_snoc s k hlt)
            have HM := Lib.hid (mem_data s k hlt)
            by_cases ho : isDig s[k] = true
            · obtain ⟨h1, h2⟩ := (isDig_iff _).1 ho
              have HO := Lib.hid ho
              have HS : Hid ((s.data.toList.take (k + 1)).all isDig = true ∧ clampF 0 (s.data.toList.take (k + 1)) = stepF (clampF 0 (s.data.toList.take k)) s[k]) := by
                show _ ∧ _
                rw [hts.out, List.all_append, HA.out.1, clampF_snoc]
                exact ⟨by simp [HO.out], rfl⟩
              clear ho hse
              by_cases hb : 100000000000000000 ≤ z
              · have HV : Hid ((stepF (clampF 0 (s.data.toList.take k)) s[k] : Nat) = (1000000000000000000 : Int)) := step_hi (by rw [HA.out.2]; exact hb)
                go_wp2
                go_round
                case rel => exact ⟨k + 1, _, by omega, by go_num, rfl, by omega, by omega, HS.out.1, by rw [HS.out.2, HV.out]⟩
                case measure => simp [intOf]; omega
              · have hb : z < 100000000000000000 := by omega
                have HV : Hid (((stepF (clampF 0 (s.data.toList.take k)) s[k] : Nat) : Int) = z * 10 + ((s[k].toNat : Int) - 48)) := by
                  have := step_lo (n := clampF 0 (s.data.toList.take k)) (c := s[k]) (by rw [HA.out.2]; exact hb) h1
                  rw [HA.out.2] at this
                  exact this
                go_wp2
                go_round
                case rel => exact ⟨k + 1, _, by omega, by go_num, rfl, by omega, by omega, HS.out.1, by rw [HS.out.2, HV.out]⟩
                case measure => simp [intOf]; omega
            · have HF := Lib.hid (isNum_bad HM.out ho)
              have hc : (s[k].toNat : Int) < 48 ∨ (48 ≤ (s[k].toNat : Int) ∧ 57 < (s[k].toNat : Int)) := by
                by_cases a : 48 ≤ (s[k].toNat : Int)
                · by_cases b : (s[k].toNat : Int) ≤ 57
                  · exact absurd ((isDig_iff s[k]).2 ⟨a, b⟩) ho
                  · exact .inr ⟨a, by omega⟩
                · exact .inl (by omega)
              clear ho hse
              rcases hc with h1 | ⟨h1, h2⟩
              all_goals
                go_wp2
                go_ret2
                exact ⟨ret_two (by rw [numV_no HF.out]; rfl) HF.out.symm, rfl⟩
          · obtain rfl : k = s.size := by omega
            have HT : Hid (isNum s.data.toList = true ∧ ((clampF 0 s.data.toList : Nat) : Int) = z) := by
              have := HA.out
              rw [take_all] at this
              exact ⟨isNum_good this.1 HN.out HZ.out, this.2⟩
            clear hse
            go_wp2
            go_ret2
            exact ⟨ret_two (by rw [numV_yes HT.out.1, HT.out.2]) HT.out.1.symm, rfl⟩
end Go.Proofs.YtokdneolgolkbaaDoor
