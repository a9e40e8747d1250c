/- The walk of the statement BookLines. -/
import Derived.Test.YtokdneolgolkbaaW08b
import Derived.Test.YtokdneolgolkbaaW08h
import Derived.Test.YtokdneolgolkbaaP08f
namespace Go.Proofs.Ytokdneolgolkbaa
open Go.RowKit P08 P05

set_option maxHeartbeats 2000000 in
set_option maxRecDepth 100000 in
theorem bookLines_any (v : Value) (p : Pl) (w : World) (hp : RPlan w v p) (hwf : Wf p) :
    Calls Try.prog 3 #[v] w fun e w' => e = .returned (.bool true) ∧ Below w.heap.size w w' := by
  have HP := Lib.hid hp
  have HSM := Lib.hid (small_cut p)
  have HWF := Lib.hid (wf_cut hwf)
  obtain ⟨dv, rfl, hd⟩ := hp
  obtain ⟨A, c, rfl, h1, h2, -⟩ := RDays.open_ hd
  clear hd hwf
  obtain ⟨q, hq⟩ : ∃ q, cutP p = q := ⟨_, rfl⟩
  rw [hq] at HSM HWF
  have HQ := Lib.hid hq
  clear hq
  go_enter Try.func3, Try.ntmps3
  go_wp2_with fail
  have k1 := (Below.refl w.heap.size w).alloc (Nat.le_refl _) (.cells #[.slice A p.length c] 24)
  have hx0 := Blk.new w 24 [.slice A p.length c]
  refine (rcut_any _ p _ (HP.out.below k1 (Nat.le_refl _))).mono ?_
  rintro e w2 ⟨v2, rfl, hown, hb2⟩
  rw [HQ.out] at hown
  obtain ⟨dv2, rfl, hod⟩ := hown
  simp only [World.size_alloc] at hod hb2
  have k2 : Below w.heap.size w w2 := k1.trans (hb2.mono (Nat.le_succ _))
  have hx2 : Blk w2 w.heap.size 24 [.slice A p.length c] := hx0.below hb2 (Nat.lt_succ_self _)
  have c2 : w2.cell? ⟨w.heap.size, 0, none⟩ = some (.slice A p.length c) := hx2.cell 0
  have f2 := hx2.frozen 0
  obtain ⟨A2, cc, rfl, g1, g2, -⟩ := RDays.open_ (ODays.reads hod)
  have hod3 := ODays.reads (ODays.set_low hod (q := ⟨w.heap.size, 0, none⟩) (Nat.lt_succ_self _) (.slice A2 q.length cc))
  have hx3 := hx2.set_ 0 (.slice A2 q.length cc)
  have k3 := k2.setCell (p := ⟨w.heap.size, 0, none⟩) (Nat.le_refl _) (.slice A2 q.length cc)
  have HOD := Lib.hid hod3
  have HX3 := Lib.hid hx3
  have HK3 := Lib.hid k3
  clear hod hod3 hx3 k3 hx0 k1
  go_wp2_with fail
  refine (print8_any _ q _ ⟨_, rfl, HOD.out⟩ HSM.out HWF.out).mono ?_
  rintro e w3 ⟨rfl, hb3⟩
  have k4 := HK3.out.trans (hb3.mono (by simp; exact k2.size))
  by_cases ht : toldP q = true
  rotate_left
  · have e1 : bstr (printS q) = .string ⟨#[]⟩ ∧ printE q = 1 := by
      unfold printS printE
      rw [if_neg ht, if_neg ht]
      exact ⟨rfl, rfl⟩
    rw [e1.1, e1.2]
    clear e1 ht
    go_wp2_with fail
    refine (lives8_any _).mono ?_
    rintro e w4 ⟨rfl, hb4⟩
    go_wp2
    go_ret
    exact ⟨rfl, below_nx8 k4 hb4⟩
  · obtain ⟨s, hs, hsl⟩ : ∃ s : ByteArray, bstr (printS q) = .string s ∧ s.data.toList = planText q := ⟨_, rfl, by unfold printS; rw [if_pos ht]⟩
    have e2 : printE q = 0 := by unfold printE; rw [if_pos ht]
    rw [hs, e2]
    have hsz : s.size ≤ 100000 := by rw [← data_len, hsl]; exact planText_len HSM.out HWF.out
    have HCN : Hid (s.data.toList.count 10 = wantTo q q.length) := by show _ = _; rw [hsl]; exact plan_count HSM.out HWF.out
    have hx4 := HX3.out.below hb3 HX3.out.lt
    have c4 : w3.cell? ⟨w.heap.size, 0, none⟩ = some (.slice A2 q.length cc) := hx4.cell 0
    have z4 := hx4.lt
    obtain ⟨A2', cc', hv, -, -, hcs⟩ := RDays.open_ (RDays.below HOD.out hb3 (Nat.le_refl _))
    injection hv with hv1 _ _
    subst hv1
    have HCS := Lib.hid hcs
    have hql := HSM.out.days
    clear hs e2 hsl ht hcs hx4 hx2
    go_wp2_with fail
    go_loop [5, 6] (fun nv iv => ∃ (k m : Nat), k ≤ q.length ∧ iv = .int .i64 k ∧ nv = .int .i64 m ∧ m ≤ 10 + k * 6 ∧ Hid (wantTo q k = m)) (fun _ iv => q.length - (intOf iv).toNat)
    case atStart => exact ⟨0, 1 + q.length, Nat.zero_le _, rfl, by go_num, by omega, wantTo_zero q⟩
    case round =>
      obtain ⟨k, m, hk, rfl, rfl, hm, HM⟩ := hrel
      by_cases hlt : k < q.length
      · obtain ⟨d, hd⟩ := some_of_lt hlt
        obtain ⟨b, o, rfl, hb, tv, htv, hcell⟩ := HCS.out k d hd
        obtain ⟨A3, c3, rfl, g3, g4, -⟩ := RTours.open_ htv
        have hdl := HSM.out.tours d (List.mem_of_getElem? hd)
        have HN := Lib.hid (wantTo_succ hd)
        clear hd htv
        go_wp2
        go_round
        case rel => exact ⟨k + 1, m + d.length, by omega, by go_num, by go_num, by omega, by show _ = _; rw [HN.out, HM.out]⟩
        case measure => simp [intOf]; omega
      · obtain rfl : k = q.length := by omega
        have HCM : Hid (s.data.toList.count 10 = m) := HCN.out.trans HM.out
        go_wp2_with fail
        go_loop [7, 8] (fun nv iv => ∃ (i n : Nat), i ≤ s.size ∧ iv = .int .i64 i ∧ nv = .int .i64 n ∧ n ≤ i ∧ Hid ((s.data.toList.take i).count 10 = n)) (fun _ iv => s.size - (intOf iv).toNat)
        case atStart => exact ⟨0, 0, Nat.zero_le _, rfl, rfl, Nat.zero_le _, rfl⟩
        case round =>
          obtain ⟨i, n, hi, rfl, rfl, hn, HI⟩ := hrel
          by_cases hli : i < s.size
          · have hts := take_snoc s i hli
            by_cases h10 : s[i] = 10
            · have hb10 : ((s[i].toNat : Int) == 10) = true := by rw [h10]; rfl
              have HT : Hid ((s.data.toList.take (i + 1)).count 10 = n + 1) := by show _ = _; rw [hts, List.count_append, HI.out, h10]; rfl
              clear hts h10
              go_wp2
              go_round
              case rel => exact ⟨i + 1, n + 1, by omega, by go_num, by go_num, by omega, HT⟩
              case measure => simp [intOf]; omega
            · have hb10 : ((s[i].toNat : Int) == 10) = false := by
                rw [beq_eq_false_iff_ne]
                intro e
                apply h10
                have : s[i].toNat = 10 := by omega
                exact UInt8.toNat_inj.1 this
              have HT : Hid ((s.data.toList.take (i + 1)).count 10 = n) := by show _ = _; rw [hts, List.count_append, HI.out, List.count_singleton]; simp [h10]
              clear hts h10
              go_wp2
              go_round
              case rel => exact ⟨i + 1, n, by omega, by go_num, rfl, by omega, HT⟩
              case measure => simp [intOf]; omega
          · obtain rfl : i = s.size := by omega
            have hnm : n = m := by
              have := HI.out
              rw [take_all, HCM.out] at this
              exact this.symm
            subst hnm
            go_wp2_with fail
            refine (lives8_any _).mono ?_
            rintro e w4 ⟨rfl, hb4⟩
            go_wp2
            go_ret
            exact ⟨rfl, below_nx8 k4 hb4⟩
end Go.Proofs.Ytokdneolgolkbaa
