/- The walk of the statement TextApart. -/
import Derived.Test.YtddhcmibimabnaaDoorW05f
import Derived.Test.YtddhcmibimabnaaDoorW05c
namespace Go.Proofs.YtddhcmibimabnaaDoor
open Go.RowKit P05

set_option maxHeartbeats 1000000 in
set_option maxRecDepth 100000 in
theorem textApart_any (a b : Int) (m : Int) (w : World) (ha : -9223372036854775808 ≤ a ∧ a ≤ 9223372036854775807) (hb : -9223372036854775808 ≤ b ∧ b ≤ 9223372036854775807)
    (hm : w.cell? ⟨0, 0, none⟩ = some (.int .i64 m)) :
    Calls Tryd.prog 6 #[.int .i64 a, .int .i64 b] w fun e w' => e = .returned (.bool true) ∧ Below w.heap.size w w' := by
  obtain ⟨la, hla⟩ : ∃ l, decI a = l := ⟨_, rfl⟩
  obtain ⟨lb, hlb⟩ : ∃ l, decI b = l := ⟨_, rfl⟩
  have HM := Lib.hid hm
  have HA : ∀ W : World, Hid (Calls Tryd.prog 15 #[.int .i64 a] W fun e w' => e = .returned (bstr la) ∧ Below W.heap.size W w') := fun W => by rw [← hla]; exact decimal_any a W ha.1 ha.2
  have HB : ∀ W : World, Hid (Calls Tryd.prog 15 #[.int .i64 b] W fun e w' => e = .returned (bstr lb) ∧ Below W.heap.size W w') := fun W => by rw [← hlb]; exact decimal_any b W hb.1 hb.2
  have hlen1 : la.length ≤ 21 := by rw [← hla]; exact (decI_len ha).2
  have hlen2 : lb.length ≤ 21 := by rw [← hlb]; exact (decI_len hb).2
  clear hm
  by_cases hab : a = b
  · subst hab
    obtain rfl : la = lb := hla.symm.trans hlb
    clear hla hlb ha hb
    have hc : a < 0 ∨ 0 ≤ a := by omega
    rcases hc with hc | hc
    all_goals
      go_enter Tryd.func6, Tryd.ntmps6
      go_wp2_with fail
      refine (HA _).out.mono ?_
      rintro e w2 ⟨rfl, hb2⟩
      go_wp2_with fail
      refine (HB _).out.mono ?_
      rintro e w3 ⟨rfl, hb3⟩
      unfold bstr
      have k3 := below_nx5 hb2 hb3
      go_wp2_with fail
      refine (lives_any m _ (cell_below k3 (Nat.le_refl _) HM.out)).mono ?_
      rintro e w4 ⟨rfl, hb4⟩
      go_wp2
      go_ret
      exact ⟨rfl, below_nx5 k3 hb4⟩
  · have hne : la ≠ lb := fun e => hab (decI_inj ha hb (by rw [hla, hlb, e]))
    have h1 : (la == lb) = false := beq_eq_false_iff_ne.2 hne
    have h2 : (a == b) = false := beq_eq_false_iff_ne.2 hab
    have hmono : 0 ≤ a → a ≤ b → la.length ≤ lb.length := fun h0 hle => by
      rw [← hla, ← hlb]
      unfold decI
      rw [if_neg (by omega), if_neg (by omega)]
      exact dec_len_mono (by omega) (by omega)
    have hc : a < 0 ∨ (0 ≤ a ∧ b < a) ∨ (0 ≤ a ∧ a ≤ b ∧ la.length ≤ lb.length) := by
      by_cases c1 : a < 0
      · exact .inl c1
      · by_cases c2 : b < a
        · exact .inr (.inl ⟨by omega, c2⟩)
        · exact .inr (.inr ⟨by omega, by omega, hmono (by omega) (by omega)⟩)
    clear hne hab hla hlb ha hb hmono
    rcases hc with hc | ⟨hc, hc2⟩ | ⟨hc, hc2, hc3⟩
    all_goals
      go_enter Tryd.func6, Tryd.ntmps6
      go_wp2_with fail
      refine (HA _).out.mono ?_
      rintro e w2 ⟨rfl, hb2⟩
      go_wp2_with fail
      refine (HB _).out.mono ?_
      rintro e w3 ⟨rfl, hb3⟩
      unfold bstr
      have k3 := below_nx5 hb2 hb3
      go_wp2_with fail
      refine (lives_any m _ (cell_below k3 (Nat.le_refl _) HM.out)).mono ?_
      rintro e w4 ⟨rfl, hb4⟩
      go_wp2
      go_ret
      exact ⟨rfl, below_nx5 k3 hb4⟩
end Go.Proofs.YtddhcmibimabnaaDoor
