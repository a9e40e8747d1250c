/- The walk of ParseAgain. -/
import Derived.Test.YtigljnnjamdcnaaDoorW07o
import Derived.Test.YtigljnnjamdcnaaDoorQC
namespace Go.Proofs.YtigljnnjamdcnaaDoor
open Go.RowKit P05 P06 P07

theorem bstr_data (s : ByteArray) : bstr s.data.toList = .string s := by unfold bstr; simp
theorem linesV_many {t : List UInt8} {n : Nat} (h : t.length ≤ n) : ∀ l ∈ linesV t, l.length ≤ n := fun l hl => by
  cases hp : linesP t with
  | none => rw [(linesV_none hp).1] at hl; cases hl
  | some L => rw [(linesV_some hp).1] at hl; exact Nat.le_trans (lines_many hp hl) h
/-- What of the text is looked at. -/
theorem cut_text (s : ByteArray) (n : Nat) : ∃ t : ByteArray, t.size ≤ n ∧ ((n < s.size ∧ t = s.extract 0 n) ∨ (s.size ≤ n ∧ t = s)) := by
  by_cases h : n < s.size
  · exact ⟨s.extract 0 n, by rw [ByteArray.size_extract]; omega, .inl ⟨h, rfl⟩⟩
  · exact ⟨s, by omega, .inr ⟨by omega, rfl⟩⟩
set_option maxHeartbeats 4000000 in
set_option maxRecDepth 100000 in
theorem parseAgain_any (s : ByteArray) (m : Int) (w : World) (hs : s.size ≤ 9223372036854775807) (hm : w.cell? ⟨0, 0, none⟩ = some (.int .i64 m)) :
    Calls Tryd.prog 4 #[.string s] w fun e w' => e = .returned (.bool true) ∧ Below w.heap.size w w' := by
  have HM := Lib.hid hm
  clear hm
  obtain ⟨t, hts, hcase⟩ := cut_text s 600
  have htl : t.data.toList.length = t.size := data_len t
  have HTL := Lib.hid htl
  clear htl
  have hq : (t.toList == t.toList) = true := beq_self_eq_true _
  have HPE := Lib.hid (parse_err t.data.toList)
  rcases hcase with ⟨h2, ht⟩ | ⟨h2, ht⟩
  have h2' : (600 : Int) < (s.size : Int) := by omega
  rotate_left
  have h2' : ¬ (600 : Int) < (s.size : Int) := by omega
  all_goals
    clear h2
    go_enter Tryd.func4, Tryd.ntmps4
    go_wp2_with fail
    rw [← ht]
    clear ht h2'
    refine (parse7_any t m _ (by omega) (linesV_many (by rw [HTL.out]; omega)) HM.out).mono ?_
    rintro e w2 ⟨v, rfl, hv, hb2⟩
    obtain ⟨px, hpx⟩ : ∃ p, parseX t.data.toList = p := ⟨_, rfl⟩
    rw [hpx] at hv HPE ⊢
    have HPX := Lib.hid hpx
    clear hpx
    obtain ⟨x, pe⟩ := px
    obtain ⟨cv, dv, rfl, h1, h2⟩ := hv
    have HOI : Hid (OwnInst w.heap.size 41 68 43 3 w2 (.agg #[.int .i64 x.days, .int .i64 x.veh, .int .i64 x.cap, .int .i64 x.len, cv, dv]) x) := Lib.hid ⟨cv, dv, rfl, h1, h2⟩
    obtain ⟨pvs, -, oc, -⟩ := h1
    obtain ⟨rvs, od, -⟩ := h2
    obtain ⟨Ac, cc, rfl, -⟩ := RS.of_own oc
    obtain ⟨Ad, cd, rfl, -⟩ := RS.of_own od
    simp only at oc od HPE ⊢
    have hal := below_al (Below.refl w2.heap.size w2) (.cells #[.int .i64 x.days, .int .i64 x.veh, .int .i64 x.cap, .int .i64 x.len, .slice Ac x.custs.length cc, .slice Ad x.dist.length cd] 25)
    have bx := Blk.new w2 25 [.int .i64 x.days, .int .i64 x.veh, .int .i64 x.cap, .int .i64 x.len, .slice Ac x.custs.length cc, .slice Ad x.dist.length cd]
    obtain ⟨k0, k1, k2, k3, k4, k5⟩ := bx.cells6
    have hbel := below_nx hb2 hal
    have HMM := Lib.hid (cell_below hbel (Nat.le_refl _) HM.out)
    clear oc od bx hb2
    by_cases hpe : pe = 0
    · subst hpe
      have HOK := Lib.hid (parse_ok HPX.out)
      have HAG := Lib.hid (parse_again HPX.out)
      have HOI2 := Lib.hid (HOI.out.reads.below hal (Nat.le_refl _))
      clear HPE hal
      go_wp2_with fail
      refine (print7_any _ x _ HOI2.out HOK.out.1 (by have := HOK.out.2; rw [HTL.out] at this; omega) (by rw [HAG.out.2, HTL.out]; omega)).mono ?_
      rintro e w3 ⟨rfl, hb3⟩
      rw [printT_t HAG.out.1, HAG.out.2, bstr_data, mayE_t HAG.out.1]
      have hbel3 := below_nx hbel hb3
      have HMM3 := Lib.hid (cell_below hbel3 (Nat.le_refl _) HM.out)
      clear hb3
      go_wp2_with fail
      refine (lives7_any m _ HMM3.out).mono ?_
      rintro e w4 ⟨rfl, hb4⟩
      go_wp2
      go_ret
      exact ⟨rfl, below_nx hbel3 hb4⟩
    · have hx0 : x = zeroI := HPE.out.2 hpe
      have h23 : pe = 2 ∨ pe = 3 := by rcases HPE.out.1 with h | h | h <;> omega
      have hdl : x.dist.length = 0 := by rw [hx0]; rfl
      clear HPE hx0 hpe HOI
      rcases h23 with rfl | rfl
      all_goals
        rw [hdl] at k5 hbel HMM
        go_wp2_with fail
        refine (lives7_any m _ HMM.out).mono ?_
        rintro e w4 ⟨rfl, hb4⟩
        go_wp2
        go_ret
        exact ⟨rfl, below_nx hbel hb4⟩
end Go.Proofs.YtigljnnjamdcnaaDoor
