/- The walk of the reference's comparison of lines, at lines that are the same; the statement TextLines. -/
import Derived.Test.YtddhcmibimabnaaDoorW05i
import Derived.Test.YtddhcmibimabnaaDoorW05f
import Derived.Deep.QuietTactic
import Derived.BigQuiet
namespace Go.Proofs.YtddhcmibimabnaaDoor
open Go.RowKit P05

set_option maxHeartbeats 2000000 in
theorem rsame_yes (v v' : Value) (L : List (List (List UInt8))) (w : World) (h : RLines w v L) (h' : RLines w v' L) :
    Calls Tryd.prog 11 #[v, v'] w fun e w' => e = .returned (.bool true) ∧ ∃ n, w' = w.drewN n := by
  obtain ⟨A, c, rfl, h1, h2, hlc⟩ := h.open_
  obtain ⟨A', c', rfl, h1', h2', hmc⟩ := h'.open_
  have HL := Lib.hid hlc
  have HM := Lib.hid hmc
  clear hlc hmc h h'
  go_enter Tryd.func11, Tryd.ntmps11
  go_wp2_with fail
  go_loopw [5] (fun iv wr => ∃ (i nd : Nat), i ≤ L.length ∧ iv = .int .i64 i ∧ wr = w.drewN nd) (fun iv _ => L.length - (intOf iv).toNat)
  case atStart => exact ⟨0, 0, Nat.zero_le _, rfl, rfl⟩
  case round =>
    obtain ⟨i, nd, hi, rfl, rfl⟩ := hrel
    by_cases hlt : i < L.length
    · obtain ⟨x, hx⟩ := some_of_lt hlt
      obtain ⟨b, o, rfl, hb, rv, hrv, k0⟩ := HL.out i x hx
      obtain ⟨b', o', rfl, hb', rv', hrv', k0'⟩ := HM.out i x hx
      obtain ⟨B, d, rfl, g1, g2, hc⟩ := hrv.open_
      obtain ⟨B', d', rfl, g1', g2', hc'⟩ := hrv'.open_
      have HC := Lib.hid hc
      have HC' := Lib.hid hc'
      have hil : (i : Int) < (L.length : Int) := by omega
      clear hc hc' hrv hrv' hx
      go_wp2_with fail
      go_quiet (fail)
      go_wp2_with fail
      go_loopw [6] (fun kv wi => ∃ (k ne : Nat), k ≤ x.length ∧ kv = .int .i64 k ∧ wi = w.drewN ne) (fun kv _ => x.length - (intOf kv).toNat)
      case atStart => exact ⟨0, _, Nat.zero_le _, rfl, World.drewN_drewN _ _ _⟩
      case round =>
        obtain ⟨k, ne, hk, rfl, rfl⟩ := hrel
        by_cases hkl : k < x.length
        · obtain ⟨y, hy⟩ := some_of_lt hkl
          obtain ⟨b2, o2, rfl, hb2, j0⟩ := HC.out k y hy
          obtain ⟨b2', o2', rfl, hb2', j0'⟩ := HC'.out k y hy
          have hkk : (k : Int) < (x.length : Int) := by omega
          clear hy
          go_wp2_with fail
          go_quiet (fail)
          go_wp2
          go_roundw
          case rel => exact ⟨k + 1, _, by omega, by go_num, rfl⟩
          case measure => simp [intOf]; omega
        · have hkk : (x.length : Int) ≤ (k : Int) := by omega
          go_wp2
          go_roundw
          case rel => exact ⟨i + 1, _, by omega, by go_num, rfl⟩
          case measure => simp [intOf]; omega
    · have hil : (L.length : Int) ≤ (i : Int) := by omega
      go_wp2
      go_ret
      exact ⟨rfl, _, rfl⟩

set_option maxHeartbeats 2000000 in
theorem textLines_any (s : ByteArray) (m : Int) (w : World) (hs : s.size ≤ 9223372036854775807) (hm : w.cell? ⟨0, 0, none⟩ = some (.int .i64 m)) :
    Calls Tryd.prog 3 #[.string s] w fun e w' => e = .returned (.bool true) ∧ Below w.heap.size w w' := by
  have HM := Lib.hid hm
  clear hm
  obtain ⟨t, hts, hcase⟩ : ∃ t : ByteArray, t.size ≤ 200 ∧ ((200 < s.size ∧ t = s.extract 0 200) ∨ (s.size ≤ 200 ∧ t = s)) := by
    by_cases h : 200 < s.size
    · exact ⟨s.extract 0 200, by rw [ByteArray.size_extract]; omega, .inl ⟨h, rfl⟩⟩
    · exact ⟨s, by omega, .inr ⟨by omega, rfl⟩⟩
  obtain ⟨V, E, HL, HR⟩ : ∃ V E, (∀ W : World, W.cell? ⟨0, 0, none⟩ = some (.int .i64 m) → Hid (Calls Tryd.prog 9 #[.string t] W fun e w' => ∃ v, e = .returned (.tuple #[v, .int .i64 E]) ∧ OLines W.heap.size 35 9 w' v V ∧ Below W.heap.size W w')) ∧
      ∀ W : World, Hid (Calls Tryd.prog 10 #[.string t] W fun e w' => ∃ v, e = .returned (.tuple #[v, .int .i64 E]) ∧ OLines W.heap.size 35 9 w' v V ∧ Below W.heap.size W w') :=
    ⟨_, _, fun W h => lines_any t m W (by omega) h, fun W => rlines_any t W (by omega)⟩
  have HL := Lib.hid HL
  have HR := Lib.hid HR
  clear hts
  rcases hcase with ⟨h2, rfl⟩ | ⟨h2, rfl⟩
  · have h2' : (200 : Int) < (s.size : Int) := by omega
    clear h2
    go_enter Tryd.func3, Tryd.ntmps3
    go_wp2_with fail
    refine (HL.out _ HM.out).out.mono ?_
    rintro e w2 ⟨v2, rfl, ho2, hb2⟩
    have HO2 := Lib.hid ho2.reads
    clear ho2
    go_wp2_with fail
    refine (HR.out _).out.mono ?_
    rintro e w3 ⟨v3, rfl, ho3, hb3⟩
    have HO3 := Lib.hid ho3.reads
    have k3 := below_nx5 hb2 hb3
    clear ho3
    go_wp2_with fail
    refine (rsame_yes _ _ V _ (RLines.below HO2.out hb3 (Nat.le_refl _)) HO3.out).mono ?_
    rintro e w4 ⟨rfl, n4, rfl⟩
    have k4 := below_drewN k3 n4
    go_wp2_with fail
    refine (lives_any m _ (cell_below k4 (Nat.le_refl _) HM.out)).mono ?_
    rintro e w5 ⟨rfl, hb5⟩
    go_wp2
    go_ret
    exact ⟨rfl, below_nx5 k4 hb5⟩
  · have h2' : (t.size : Int) ≤ (200 : Int) := by omega
    clear h2
    go_enter Tryd.func3, Tryd.ntmps3
    go_wp2_with fail
    refine (HL.out _ HM.out).out.mono ?_
    rintro e w2 ⟨v2, rfl, ho2, hb2⟩
    have HO2 := Lib.hid ho2.reads
    clear ho2
    go_wp2_with fail
    refine (HR.out _).out.mono ?_
    rintro e w3 ⟨v3, rfl, ho3, hb3⟩
    have HO3 := Lib.hid ho3.reads
    have k3 := below_nx5 hb2 hb3
    clear ho3
    go_wp2_with fail
    refine (rsame_yes _ _ V _ (RLines.below HO2.out hb3 (Nat.le_refl _)) HO3.out).mono ?_
    rintro e w4 ⟨rfl, n4, rfl⟩
    have k4 := below_drewN k3 n4
    go_wp2_with fail
    refine (lives_any m _ (cell_below k4 (Nat.le_refl _) HM.out)).mono ?_
    rintro e w5 ⟨rfl, hb5⟩
    go_wp2
    go_ret
    exact ⟨rfl, below_nx5 k4 hb5⟩
end Go.Proofs.YtddhcmibimabnaaDoor
