/- The walk of the statement TextNumbers. -/
import Derived.Test.YtddhcmibimabnaaDoorW05f
import Derived.Test.YtddhcmibimabnaaDoorW05d
namespace Go.Proofs.YtddhcmibimabnaaDoor
open Go.RowKit P05

theorem number_l (l : List UInt8) (w : World) (hs : l.length ≤ 1000000) :
    Calls Tryd.prog 13 #[.string ⟨l.toArray⟩] w fun e w' => e = .returned (.tuple #[.int .i64 (numV l : Nat), .bool (isNum l)]) ∧ w' = w :=
  number_any ⟨l.toArray⟩ w (by rw [← data_len]; show l.length ≤ _; omega)
theorem numV_dec {n : Int} (h : 0 ≤ n) (h1 : n ≤ 1000000000000000000) : ((numV (decI n) : Nat) : Int) = n := by
  have h2 := num_decI h h1
  have h3 := isNum_decI h (by omega)
  rw [numP_yes h3] at h2
  injection h2 with h2
  rw [numV_yes h3, h2]
  omega
theorem isNum_neg {n : Int} (h : n < 0) : isNum (decI n) = false := by
  rw [decI, if_pos h]
  simp [isNum, isDig45]
theorem extract_size (s : ByteArray) (k : Nat) (h : k ≤ s.size) : (s.extract 0 k).size = k := by rw [ByteArray.size_extract]; omega

set_option maxHeartbeats 2000000 in
set_option maxRecDepth 100000 in
theorem textNumbers_any (s : ByteArray) (n : Int) (m : Int) (w : World) (hs : s.size ≤ 9223372036854775807) (hn : -9223372036854775808 ≤ n ∧ n ≤ 9223372036854775807)
    (hm : w.cell? ⟨0, 0, none⟩ = some (.int .i64 m)) :
    Calls Tryd.prog 5 #[.string s, .int .i64 n] w fun e w' => e = .returned (.bool true) ∧ Below w.heap.size w w' := by
  obtain ⟨la, hla⟩ : ∃ l, decI n = l := ⟨_, rfl⟩
  have HM := Lib.hid hm
  have HA : ∀ W : World, Hid (Calls Tryd.prog 15 #[.int .i64 n] W fun e w' => e = .returned (bstr la) ∧ Below W.heap.size W w') := fun W => by rw [← hla]; exact decimal_any n W hn.1 hn.2
  have HB : ∀ W : World, Hid (Calls Tryd.prog 16 #[.int .i64 n] W fun e w' => e = .returned (bstr la) ∧ Below W.heap.size W w') := fun W => by rw [← hla]; exact rdecimal_any n W hn.1 hn.2
  have hlen1 : la.length ≤ 21 := by rw [← hla]; exact (decI_len hn).2
  have HC := fun W => Lib.hid (number_l la W (by omega))
  obtain ⟨c, hc⟩ : ∃ c : Int, ((numV la : Nat) : Int) = c := ⟨_, rfl⟩
  obtain ⟨is_, his⟩ : ∃ b : Bool, isNum la = b := ⟨_, rfl⟩
  have hcase : (n < 0 ∧ is_ = false) ∨ (0 ≤ n ∧ n ≤ 1000000000000000000 ∧ is_ = true ∧ c = n) ∨ (1000000000000000000 < n ∧ is_ = true) := by
    by_cases h1 : n < 0
    · exact .inl ⟨h1, by rw [← his, ← hla]; exact isNum_neg h1⟩
    · have h2 : is_ = true := by rw [← his, ← hla]; exact isNum_decI (by omega) hn.2
      by_cases h3 : n ≤ 1000000000000000000
      · exact .inr (.inl ⟨by omega, h3, h2, by rw [← hc, ← hla]; exact numV_dec (by omega) h3⟩)
      · exact .inr (.inr ⟨by omega, h2⟩)
  rw [hc, his] at HC
  clear hm hla hc his hn
  have HT : ∀ t : ByteArray, t.size ≤ 40 → ∃ (a : Int) (o : Bool), ∀ W : World, Hid (Calls Tryd.prog 13 #[.string t] W fun e w' => e = .returned (.tuple #[.int .i64 a, .bool o]) ∧ w' = W) ∧ Hid (Calls Tryd.prog 14 #[.string t] W fun e w' => e = .returned (.tuple #[.int .i64 a, .bool o]) ∧ w' = W) := fun t ht =>
    ⟨_, _, fun W => ⟨number_any t W (by omega), rnumber_any t W (by omega)⟩⟩
  by_cases h40 : 40 < s.size
  · obtain ⟨a, o, HT1⟩ := HT (s.extract 0 40) (by rw [extract_size s 40 (by omega)]; omega)
    have HT := Lib.hid HT1
    have h40' : (40 : Int) < (s.size : Int) := by omega
    clear HT1
    rcases hcase with ⟨hn, rfl⟩ | ⟨hn, hn2, rfl, rfl⟩ | ⟨hn, rfl⟩
    all_goals
      go_enter Tryd.func5, Tryd.ntmps5
      go_wp2_with fail
      refine (HT.out _).1.out.mono ?_
      rintro e w2 ⟨rfl, rfl⟩
      go_wp2_with fail
      refine (HT.out _).2.out.mono ?_
      rintro e w3 ⟨rfl, rfl⟩
      go_wp2_with fail
      refine (HA _).out.mono ?_
      rintro e w4 ⟨rfl, hb4⟩
      unfold bstr
      go_wp2_with fail
      refine (HC _).out.mono ?_
      rintro e w5 ⟨rfl, rfl⟩
      go_wp2_with fail
      refine (HB _).out.mono ?_
      rintro e w6 ⟨rfl, hb6⟩
      unfold bstr
      have k6 := below_nx5 hb4 hb6
      go_wp2_with fail
      refine (lives_any m _ (cell_below k6 (Nat.le_refl _) HM.out)).mono ?_
      rintro e w7 ⟨rfl, hb7⟩
      go_wp2
      go_ret
      exact ⟨rfl, below_nx5 k6 hb7⟩
  · obtain ⟨a, o, HT1⟩ := HT s (by omega)
    have HT := Lib.hid HT1
    have h40' : (s.size : Int) ≤ (40 : Int) := by omega
    clear HT1 h40
    rcases hcase with ⟨hn, rfl⟩ | ⟨hn, hn2, rfl, rfl⟩ | ⟨hn, rfl⟩
    all_goals
      go_enter Tryd.func5, Tryd.ntmps5
      go_wp2_with fail
      refine (HT.out _).1.out.mono ?_
      rintro e w2 ⟨rfl, rfl⟩
      go_wp2_with fail
      refine (HT.out _).2.out.mono ?_
      rintro e w3 ⟨rfl, rfl⟩
      go_wp2_with fail
      refine (HA _).out.mono ?_
      rintro e w4 ⟨rfl, hb4⟩
      unfold bstr
      go_wp2_with fail
      refine (HC _).out.mono ?_
      rintro e w5 ⟨rfl, rfl⟩
      go_wp2_with fail
      refine (HB _).out.mono ?_
      rintro e w6 ⟨rfl, hb6⟩
      unfold bstr
      have k6 := below_nx5 hb4 hb6
      go_wp2_with fail
      refine (lives_any m _ (cell_below k6 (Nat.le_refl _) HM.out)).mono ?_
      rintro e w7 ⟨rfl, hb7⟩
      go_wp2
      go_ret
      exact ⟨rfl, below_nx5 k6 hb7⟩
end Go.Proofs.YtddhcmibimabnaaDoor
