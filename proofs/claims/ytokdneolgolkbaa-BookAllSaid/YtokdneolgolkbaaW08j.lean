/- The walk of the statement BookAll. -/
import Derived.Test.YtokdneolgolkbaaW08b
import Derived.Test.YtokdneolgolkbaaW08d
import Derived.Test.YtokdneolgolkbaaW08h
import Derived.Test.YtokdneolgolkbaaP08g
import Derived.Outline
namespace Go.Proofs.Ytokdneolgolkbaa
open Go.RowKit P08 P05

theorem RVis.open_ {w : World} {lb : Nat} {e : TypeId} {v : Value} {L : List (Nat × Int)} (h : w.ownsRow lb e 2 v L.length (L.flatMap visC)) : ∃ A c, v = .slice A L.length c ∧ L.length ≤ c ∧ c ≤ 9223372036854775807 ∧
    ∀ i x, L[i]? = some x → ∃ b o, A = some ⟨b, o, none⟩ ∧ b < w.heap.size ∧ w.cell? ⟨b, o + i * 2, none⟩ = some (.int .i64 (x.1 : Int)) := by
  have ho : OL lb e 2 RVis w v L := ⟨L.map visC, by simp, fun cs hcs => by obtain ⟨x, _, rfl⟩ := List.mem_map.1 hcs; rfl, by rw [← List.flatMap_def]; exact h, fun i x cs hx hc => by
    rw [List.getElem?_map, hx] at hc
    exact (by simpa using hc : visC x = cs).symm⟩
  obtain ⟨A, c, hv, h1, h2, h3⟩ := RL.open_ (OL.reads ho fun _ _ h => h)
  refine ⟨A, c, hv, h1, h2, fun i x hx => ?_⟩
  obtain ⟨b, o, hA, hb, cs, _, rfl, hc⟩ := h3 i x hx
  exact ⟨b, o, hA, hb, hc 0 _ rfl⟩
set_option maxHeartbeats 4000000 in
set_option maxRecDepth 100000 in
theorem bookAll_any (v : Value) (p : Pl) (w : World) (hp : RPlan w v p) :
    Calls Try.prog 4 #[v] w fun e w' => e = .returned (.bool true) ∧ Below w.heap.size w w' := by
  have HP := Lib.hid hp
  have HSM := Lib.hid (small_cut p)
  obtain ⟨dv, rfl, hd⟩ := hp
  obtain ⟨A, c, rfl, h1, h2, -⟩ := RDays.open_ hd
  clear hd
  obtain ⟨q, hq⟩ : ∃ q, cutP p = q := ⟨_, rfl⟩
  rw [hq] at HSM
  have HQ := Lib.hid hq
  have HL384 := Lib.hid (stopsP_len HSM.out)
  clear hq
  go_enter Try.func4, Try.ntmps4
  go_wp2_with fail
  have k1 := (Below.refl w.heap.size w).alloc (Nat.le_refl _) (.cells #[.slice A p.length c] 24)
  have hx0 := Blk.new w 24 [.slice A p.length c]
  refine (rcut_any _ p _ (HP.out.below k1 (Nat.le_refl _))).mono ?_
  rintro e w2 ⟨v2, rfl, hown, hb2⟩
  rw [HQ.out] at hown
  obtain ⟨dv2, rfl, hod⟩ := hown
  simp only [World.size_alloc] at hod hb2
  have k2 : Below w.heap.size w w2 := k1.trans (hb2.mono (Nat.le_succ _))
  have hx2 : Blk w2 w.heap.size 24 [.slice A p.length c] := hx0.below hb2 (Nat.lt_succ_self _)
  have c2 : w2.cell? ⟨w.heap.size, 0, none⟩ = some (.slice A p.length c) := hx2.cell 0
  have f2 := hx2.frozen 0
  obtain ⟨A2, cc, rfl, g1, g2, -⟩ := RDays.open_ (ODays.reads hod)
  have hod3 := ODays.reads (ODays.set_low hod (q := ⟨w.heap.size, 0, none⟩) (Nat.lt_succ_self _) (.slice A2 q.length cc))
  have hx3 := hx2.set_ 0 (.slice A2 q.length cc)
  have k3 := k2.setCell (p := ⟨w.heap.size, 0, none⟩) (Nat.le_refl _) (.slice A2 q.length cc)
  have HOD := Lib.hid hod3
  have HX3 := Lib.hid hx3
  have HK3 := Lib.hid k3
  clear hod hod3 hx3 k3 hx0 k1
  go_wp2_with fail
  have HX3' : Hid (Blk (w2.setCell ⟨w.heap.size, 0, none⟩ (.slice A2 q.length cc)) w.heap.size 24 [.slice A2 q.length cc]) := HX3.out
  clear HX3 hx2 c2 f2 hb2 k2
  generalize w2.setCell ⟨w.heap.size, 0, none⟩ (.slice A2 q.length cc) = w3 at HOD HK3 HX3' ⊢
  have c4 : w3.cell? ⟨w.heap.size, 0, none⟩ = some (.slice A2 q.length cc) := HX3'.out.cell 0
  have z4 := HX3'.out.lt
  obtain ⟨A2', cc', hv, -, -, hcs⟩ := RDays.open_ HOD.out
  injection hv with hv1 _ hv3
  subst hv1; subst hv3
  have HCS := Lib.hid hcs
  have hql := HSM.out.days
  clear hcs
  go_loop [3, 4] (fun nv iv => ∃ (k m : Nat), k ≤ q.length ∧ iv = .int .i64 k ∧ nv = .int .i64 m ∧ m ≤ k * 48 ∧ Hid (cntI (stopsF 0 (q.take k)) = m)) (fun _ iv => q.length - (intOf iv).toNat)
  case atStart => exact ⟨0, 0, Nat.zero_le _, rfl, rfl, Nat.zero_le _, rfl⟩
  case round =>
    obtain ⟨k, m, hk, rfl, rfl, hm, HM⟩ := hrel
    by_cases hlt : k < q.length
    · obtain ⟨d, hd⟩ := some_of_lt hlt
      obtain ⟨b, o, rfl, hb, tv, htv, x1⟩ := HCS.out k d hd
      obtain ⟨A3, c3, rfl, g3, g4, hct⟩ := RTours.open_ htv
      have HT := Lib.hid hct
      have HX := Lib.hid hd
      have hdl := HSM.out.tours d (List.mem_of_getElem? hd)
      have HM0 : Hid (cntI (stopsF 0 (q.take k) ++ stopsD k (d.take 0)) = m) := by show _ = _; rw [← HM.out]; simp [stopsD]
      clear hd htv hct
      go_wp2_with fail
      go_loop [3, 5] (fun nv iv => ∃ (j m : Nat), j ≤ d.length ∧ iv = .int .i64 j ∧ nv = .int .i64 m ∧ m ≤ k * 48 + j * 8 ∧ Hid (cntI (stopsF 0 (q.take k) ++ stopsD k (d.take j)) = m)) (fun _ iv => d.length - (intOf iv).toNat)
      case atStart => exact ⟨0, m, Nat.zero_le _, rfl, rfl, by omega, HM0⟩
      case round =>
        obtain ⟨j, m2, hj, rfl, rfl, hm2, HM2⟩ := hrel
        by_cases hlt2 : j < d.length
        · obtain ⟨t, ht⟩ := some_of_lt hlt2
          obtain ⟨b2, o2, rfl, hb2, sv, hsv, x2⟩ := HT.out j t ht
          obtain ⟨A4, c4', rfl, g5, g6, hcs⟩ := RStops.open_ hsv
          have HS := Lib.hid hcs
          have HX2 := Lib.hid ht
          have htl := HSM.out.stops d (List.mem_of_getElem? HX.out) t (List.mem_of_getElem? ht)
          have HM3 : Hid (cntI (stopsF 0 (q.take k) ++ stopsD k (d.take j) ++ stopsT k (t.take 0)) = m2) := by show _ = _; rw [← HM2.out]; simp [stopsT]
          clear ht hsv hcs
          go_wp2_with fail
          go_loop [3, 7] (fun nv iv => ∃ (i m : Nat), i ≤ t.length ∧ iv = .int .i64 i ∧ nv = .int .i64 m ∧ m ≤ k * 48 + j * 8 + i ∧ Hid (cntI (stopsF 0 (q.take k) ++ stopsD k (d.take j) ++ stopsT k (t.take i)) = m)) (fun _ iv => t.length - (intOf iv).toNat)
          case atStart => exact ⟨0, m2, Nat.zero_le _, rfl, rfl, by omega, HM3⟩
          case round =>
            obtain ⟨i, m3, hi, rfl, rfl, hm3, HM4⟩ := hrel
            by_cases hlt3 : i < t.length
            · obtain ⟨⟨cu, qu⟩, hs⟩ := some_of_lt hlt3
              obtain ⟨b3, o3, rfl, hb3, x3, -⟩ := HS.out i _ hs
              have HSN := Lib.hid (stopsT_snoc (i := k) hs)
              clear hs
              by_cases hin : 0 ≤ cu ∧ cu < 10
              · have HN : Hid (cntI (stopsF 0 (q.take k) ++ stopsD k (d.take j) ++ stopsT k (t.take (i + 1))) = m3 + 1) := by
                  show _ = _
                  rw [HSN.out, ← List.append_assoc, cntI_yes (by simp [inB]; exact hin), HM4.out]
                obtain ⟨hin1, hin2⟩ := hin
                go_wp2
                go_round
                case rel => exact ⟨i + 1, m3 + 1, by omega, by go_num, by go_num, by omega, HN⟩
                case measure => simp [intOf]; omega
              · have HN : Hid (cntI (stopsF 0 (q.take k) ++ stopsD k (d.take j) ++ stopsT k (t.take (i + 1))) = m3) := by
                  show _ = _
                  rw [HSN.out, ← List.append_assoc, cntI_no (by simp [inB]; omega), HM4.out]
                have hor : cu < 0 ∨ (0 ≤ cu ∧ 10 ≤ cu) := by omega
                clear hin
                rcases hor with h | ⟨h, h'⟩
                all_goals
                  go_wp2
                  go_round
                  case rel => exact ⟨i + 1, m3, by omega, by go_num, rfl, by omega, HN⟩
                  case measure => simp [intOf]; omega
            · obtain rfl : i = t.length := by omega
              go_wp2
              go_round
              case rel => exact ⟨j + 1, m3, by omega, by go_num, rfl, by omega, by show _ = _; rw [stopsD_snoc HX2.out, ← List.append_assoc, ← HM4.out, List.take_length]⟩
              case measure => simp [intOf]; omega
        · obtain rfl : j = d.length := by omega
          go_wp2
          go_round
          case rel => exact ⟨k + 1, m2, by omega, by go_num, rfl, by omega, by show _ = _; rw [stopsF_snoc HX.out, ← HM2.out, List.take_length]⟩
          case measure => simp [intOf]; omega
    · obtain rfl : k = q.length := by omega
      have HCN : Hid (sumV (stopsP q) 10 = m) := by show _ = _; rw [sumV_cnt, ← HM.out, List.take_length]; rfl
      clear HCS
      go_wp2_with fail
      go_loopw [8, 9] (fun sv iv wr => ∃ (k n : Nat), k ≤ 10 ∧ iv = .int .i64 k ∧ sv = .int .i64 n ∧ n ≤ k * 384 ∧ Hid (sumV (stopsP q) k = n) ∧ Below w3.heap.size w3 wr) (fun _ iv _ => 10 - (intOf iv).toNat)
      case atStart => exact ⟨0, 0, Nat.zero_le _, rfl, rfl, Nat.zero_le _, rfl, Below.refl _ _⟩
      case round =>
        obtain ⟨k, n, hk, rfl, rfl, hn, HN, hbel⟩ := hrel
        have hc0 : wr.cell? ⟨w.heap.size, 0, none⟩ = some (.slice A2 q.length cc) := cell_below hbel (Nat.le_refl _) c4
        have hzz := hbel.size
        by_cases hlt : k < 10
        · have HSU := Lib.hid (sumV_succ (stopsP q) k)
          have hvl := visOf_len (k : Int) (stopsP q)
          have h384 := HL384.out
          obtain ⟨VL, hVL⟩ : ∃ l, visP (k : Int) q = l := ⟨_, rfl⟩
          have HVO : Hid (∀ (i : Nat) (a b : Nat × Int), (visP (k : Int) q)[i]? = some a → (visP (k : Int) q)[i + 1]? = some b → a.1 ≤ b.1) := fun i a b => visP_ord (k : Int) q
          have hvl2 : VL.length ≤ 384 := by rw [← hVL]; unfold visP; omega
          have HVL := Lib.hid hVL
          clear hVL hvl
          go_wp2_with fail
          refine (visits_any _ q (k : Int) wr ⟨_, rfl, RDays.below HOD.out hbel (Nat.le_refl _)⟩ HSM.out).mono ?_
          rintro e w5 ⟨lv, rfl, hrow, hb5⟩
          rw [HVL.out] at hrow
          obtain ⟨A5, c5, rfl, g5, g6, hvc⟩ := RVis.open_ hrow
          have HVC := Lib.hid hvc
          clear hvc hrow
          go_wp2_with fail
          have HR : Hid (sumV (stopsP q) (k + 1) = n + VL.length) := by
            show _ = _
            rw [HSU.out, HN.out, show visOf (k : Int) (stopsP q) = VL from HVL.out]
          obtain ⟨wv, hwv⟩ : ∃ wv : World, wv = wr := ⟨_, rfl⟩
          subst hwv
          go_loopw [11] (fun iv wr => ∃ (j nd : Nat), iv = .int .i64 ((j : Int) + 1) ∧ j ≤ VL.length ∧ wr = w5.drewN nd) (fun iv _ => VL.length - (intOf iv).toNat)
          case atStart => exact ⟨0, 0, rfl, Nat.zero_le _, rfl⟩
          case round =>
            obtain ⟨j, nd, rfl, hj, rfl⟩ := hrel
            by_cases hlt5 : j + 1 < VL.length
            · obtain ⟨a, ha⟩ := some_of_lt (l := VL) (i := j) (by omega)
              obtain ⟨b, hb⟩ := some_of_lt hlt5
              have hab : (a.1 : Int) ≤ (b.1 : Int) := by have := HVO.out j a b (by rw [HVL.out]; exact ha) (by rw [HVL.out]; exact hb); omega
              obtain ⟨b1, o1, rfl, hb1, y1⟩ := HVC.out j a ha
              obtain ⟨b2, o2, hA, -, y2⟩ := HVC.out (j + 1) b hb
              obtain ⟨rfl, rfl⟩ : b1 = b2 ∧ o1 = o2 := by simpa using hA
              have e1 : IntKind.i64.wrap ((j : Int) + 1 - 1) = (j : Int) := by
                rw [show (j : Int) + 1 - 1 = (j : Int) by omega]
                exact IntWalk.i64_in _ (by omega)
              have hj0 : (0 : Int) ≤ (j : Int) + 1 := by omega
              have hlt5' : (j : Int) + 1 < (VL.length : Int) := by omega
              have e2 : ((j : Int) + 1).toNat = j + 1 := by omega
              clear ha hb hA hj
              go_wp2_with fail
              go_quiet (fail)
              clear e1 e2
              go_wp2
              go_roundw
              case rel => exact ⟨j + 1, _, by go_num, by omega, rfl⟩
              case measure => simp [intOf]; omega
            · have hge : (VL.length : Int) ≤ (j : Int) + 1 := by omega
              go_wp2
              go_roundw
              case rel => exact ⟨k + 1, n + VL.length, by omega, by go_num, by go_num, by omega, HR, below_drewN (hbel.trans (hb5.mono hzz)) _⟩
              case measure => simp [intOf]; omega
        · obtain rfl : k = 10 := by omega
          have hnm : n = m := HN.out.symm.trans HCN.out
          subst hnm
          go_wp2_with fail
          refine (lives8_any _).mono ?_
          rintro e w6 ⟨rfl, hb6⟩
          go_wp2
          go_ret
          exact ⟨rfl, below_nx8 (HK3.out.trans (hbel.mono HK3.out.size)) hb6⟩
end Go.Proofs.Ytokdneolgolkbaa
