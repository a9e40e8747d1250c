/- The walks of what makes an instance that may be of any: a customer of patterns. -/
import Derived.Test.YtifdggdpglphmaaW06h
namespace Go.Proofs.Ytifdggdpglphmaa
open Go.RowKit P06

theorem goodPat_lt (s : Nat) : ∀ n, goodPat s n < 18446744073709551616
  | 0 => by simp [goodPat]
  | n + 1 => by
    rw [goodPat]
    split
    · exact P02.put_lt _ _ (goodPat_lt s n)
    · exact goodPat_lt s n

theorem csize : (Try.prog.info? 46).map (·.size) = some 8 := by kernel_rfl
theorem u64info : (Try.prog.info? 47).map (fun i => (i.zero, i.size, i.bytes)) = some (some (.int .u64 0), 1, 8) := by kernel_rfl

set_option maxHeartbeats 1000000 in
theorem good1_any (x : Cust) (days : Int) (pv : Value) (w : World) (hp : RPats w pv x.pats) (hwf : x.wf) (hk : ¬ x.kind % 2 = 0) (hd0 : 1 ≤ days) (hd1 : days ≤ 7) :
    Calls Try.prog 28 #[.agg #[.int .i64 x.kind, .int .i64 x.demand, pv, .int .i64 x.rate, .int .i64 x.size, .int .i64 x.start, .int .i64 x.rule, .int .i64 x.hold], .int .i64 days] w
      fun e w' => ∃ v, e = .returned (.agg #[.int .i64 1, .int .i64 (rnd x.demand 1 15), v, .int .i64 0, .int .i64 0, .int .i64 0, .int .i64 0, .int .i64 0]) ∧
        w'.ownsRow w.heap.size 47 1 v (goodPats x.pats days).length ((goodPats x.pats days).map fun (s : Nat) => Value.int .u64 (s : Int)) ∧ Below w.heap.size w w' := by
  obtain ⟨A, c, rfl, hc1, hc2, hcell⟩ := hp.open_
  clear hp
  obtain ⟨k, d, l, r, s, t, u, h⟩ := x
  obtain ⟨k1, hdm, hpw, -, -, -, -, -⟩ := hwf
  simp only at *
  obtain ⟨k1, k2⟩ := k1
  have hrem : (k.tmod 2 == 0) = false := by
    rw [beq_eq_false_iff_ne]
    intro he
    exact hk (Int.emod_eq_zero_of_dvd ((Int.dvd_iff_tmod_eq_zero).2 he))
  have HDM := Lib.hid hdm
  have HPW := Lib.hid hpw
  have HC := Lib.hid hcell
  obtain ⟨D, rfl⟩ := Int.eq_ofNat_of_zero_le (show 0 ≤ days by omega)
  clear hdm hpw hcell
  go_enter Try.func28, Try.ntmps28
  go_wp2_with (go_at_call 27; ((with_reducible refine (round_any d 1 15 _ HDM.out (by omega) (by omega) (by omega)).mono ?_); rintro e w' ⟨rfl, rfl⟩))
  go_loopw [7] (fun i wr => ∃ (j : Nat) (v : Value), j ≤ 4 ∧ j ≤ l.length ∧ i = .int .i64 j ∧ Blk wr w.heap.size 46 [.int .i64 k, .int .i64 d, .slice A l.length c, .int .i64 r, .int .i64 s, .int .i64 t, .int .i64 u, .int .i64 h] ∧ Blk wr (w.heap.size + 1) 46 [.int .i64 0, .int .i64 0, .slice none 0 0, .int .i64 0, .int .i64 0, .int .i64 0, .int .i64 0, .int .i64 0] ∧
      Blk wr (w.heap.size + 1 + 1) 46 [.int .i64 1, .int .i64 (rnd d 1 15), v, .int .i64 0, .int .i64 0, .int .i64 0, .int .i64 0, .int .i64 0] ∧ Hid (j = 0 → v = .slice none 0 0) ∧
      wr.ownsRow (w.heap.size + 1 + 1 + 1) 47 1 v j ((l.take j).map fun s => Value.int .u64 (goodPat s D : Nat)) ∧ Below w.heap.size w wr) (fun i _ => 4 - (intOf i).toNat)
  case atStart =>
    exact ⟨0, .slice none 0 0, by omega, by omega, rfl, ((Blk.new w 46 [.int .i64 k, .int .i64 d, .slice A l.length c, .int .i64 r, .int .i64 s, .int .i64 t, .int .i64 u, .int .i64 h]).alloc _).alloc _, by simpa using (Blk.new (w.alloc _) 46 [.int .i64 0, .int .i64 0, .slice none 0 0, .int .i64 0, .int .i64 0, .int .i64 0, .int .i64 0, .int .i64 0]).alloc _,
      by simpa using Blk.new ((w.alloc _).alloc _) 46 [.int .i64 1, .int .i64 (rnd d 1 15), .slice none 0 0, .int .i64 0, .int .i64 0, .int .i64 0, .int .i64 0, .int .i64 0], fun _ => rfl, World.ownsRow_nil _ _ _ _, (((Below.refl _ _).alloc (Nat.le_refl _) _).alloc (by simp) _).alloc (by simp; omega) _⟩
  case round =>
    obtain ⟨j, v, hj4, hj, rfl, hbx, hbz, hbo, HV, hown, hbel⟩ := hrel
    have z0 := hbx.lt
    have z1 := hbz.lt
    have z2 := hbo.lt
    have b2 : wr.cell? ⟨w.heap.size, 2, none⟩ = some (.slice A l.length c) := hbx.cell 2
    by_cases hlt : j < l.length ∧ j < 4
    · obtain ⟨hlt, hlt4⟩ := hlt
      obtain ⟨p, hp1⟩ := some_of_lt hlt
      obtain ⟨b, o, rfl, hb, hk⟩ := HC.out j p hp1
      have hpw := HPW.out p (List.mem_of_getElem? hp1)
      have HP1 := Lib.hid hp1
      have HK := Lib.hid hk
      clear hp1 hk
      have hdj : decide ((j : Int) < 4) = true := by simp; omega
      go_wp2_with fail
      clear hdj b2
      obtain ⟨wo, hwo⟩ : ∃ wo : World, wo = wr := ⟨_, rfl⟩
      subst hwo
      go_loopw [8, 9] (fun pv dv wi => ∃ m : Nat, m ≤ D ∧ pv = .int .u64 (goodPat p m : Nat) ∧ dv = .int .i64 m ∧ Below wo.heap.size wo wi) (fun _ dv _ => D - (intOf dv).toNat)
      case atStart => exact ⟨0, Nat.zero_le _, rfl, rfl, Below.refl _ _⟩
      case round =>
        obtain ⟨m, hm, rfl, rfl, hbi⟩ := hrel
        have hwi := hbi.size
        by_cases hlm : m < D
        · have b2 : wr.cell? ⟨w.heap.size, 2, none⟩ = some (.slice (some ⟨b, o, none⟩) l.length c) := (hbi.cell (p := ⟨w.heap.size, 2, none⟩) z0).trans (hbx.cell 2)
          have hk0 : wr.cell? ⟨b, o + j, none⟩ = some (.int .u64 (p : Int)) := (hbi.cell (p := ⟨b, o + j, none⟩) (Nat.lt_of_lt_of_le hb hbel.size)).trans ((hbel.cell (p := ⟨b, o + j, none⟩) hb).trans HK.out)
          have hgl := goodPat_lt p m
          rcases Bool.eq_false_or_eq_true (P02.has p m) with hh | hh
          · have hg2 : goodPat p (m + 1) = P02.put (goodPat p m) m := by rw [goodPat, if_pos hh]
            have HG := Lib.hid hg2
            have HH := Lib.hid hh
            clear hg2 hh
            generalize goodPat p m = q at *
            go_wp2_with (first
              | (go_at_call 37; refine (has_any p hpw _ _).mono ?_; rintro e w1 ⟨rfl, hb1⟩; rw [HH.out])
              | (go_at_call 38; refine (put_any q hgl _ _).mono ?_; rintro e w2 ⟨rfl, hb2⟩))
            go_roundw
            case rel => exact ⟨m + 1, by omega, by rw [HG.out], by go_num, hbi.trans ((hb1.trans (hb2.mono hb1.size)).mono hwi)⟩
            case measure => simp [intOf]; omega
          · have hg2 : goodPat p (m + 1) = goodPat p m := by rw [goodPat, hh]; rfl
            have HG := Lib.hid hg2
            have HH := Lib.hid hh
            clear hg2 hh
            generalize goodPat p m = q at *
            go_wp2_with (first
              | (go_at_call 37; refine (has_any p hpw _ _).mono ?_; rintro e w1 ⟨rfl, hb1⟩; rw [HH.out]))
            go_roundw
            case rel => exact ⟨m + 1, by omega, by rw [HG.out], by go_num, hbi.trans (hb1.mono hwi)⟩
            case measure => simp [intOf]; omega
        · obtain rfl : m = D := by omega
          have o2 : wr.cell? ⟨w.heap.size + 1 + 1, 2, none⟩ = some v := (hbi.cell (p := ⟨w.heap.size + 1 + 1, 2, none⟩) z2).trans (hbo.cell 2)
          have ho2 := own_below hown hbi (Nat.le_refl _)
          have hjn : j ≤ 1000000000 := by omega
          have hbase : w.heap.size + 1 + 1 + 1 ≤ wr.heap.size := by omega
          go_wp2_with (at_builtin; refine wpList_append_one' wr rfl _ _ 44 rfl (w.heap.size + 1 + 1 + 1) 47 _ 1 8 Try.underlying44 u64info rfl (by decide) (by decide) _ _ _ ho2 rfl [.int .u64 (goodPat p m : Nat)] _ rfl rfl rfl hjn hbase ?_; intro g cap w5 ho5 hg0 hg1 hk5 hz5; have hb5 := hk5.below hbase; have o5 := (hb5.cell (p := ⟨w.heap.size + 1 + 1, 2, none⟩) (by show w.heap.size + 1 + 1 < _; omega)).trans o2; have f5 : w5.frozen? ⟨w.heap.size + 1 + 1, 2, none⟩ = false := ((hbo.below hbi z2).below hb5 (by omega)).frozen 2)
          go_roundw
          case rel =>
            refine ⟨j + 1, .slice (some ⟨g, 0, none⟩) (j + 1) cap, by omega, by omega, by go_num, ((hbx.below hbi z0).below hb5 (by omega)).far (p := ⟨w.heap.size + 1 + 1, 2, none⟩) (by show w.heap.size ≠ w.heap.size + 1 + 1; omega) _,
              ((hbz.below hbi z1).below hb5 (by omega)).far (p := ⟨w.heap.size + 1 + 1, 2, none⟩) (by show w.heap.size + 1 ≠ w.heap.size + 1 + 1; omega) _, ((hbo.below hbi z2).below hb5 (by omega)).set_ 2 _, fun h => absurd h (by omega), ?_, ?_⟩
            · have := own_set ho5 (p := ⟨w.heap.size + 1 + 1, 2, none⟩) (fun g' hg' => by simp [Value.ownBlock] at hg'; subst hg'; show g ≠ w.heap.size + 1 + 1; omega) (.slice (some ⟨g, 0, none⟩) (j + 1) cap)
              rw [List.take_add_one, HP1.out, List.map_append]
              exact this
            · exact ((hbel.trans (hbi.mono hbel.size)).trans (hb5.mono (by omega))).setCell (p := ⟨w.heap.size + 1 + 1, 2, none⟩) (by show w.heap.size ≤ w.heap.size + 1 + 1; omega) _
          case measure => simp [intOf]; omega
    · have HPW0 := HPW
      have o2 : wr.cell? ⟨w.heap.size + 1 + 1, 2, none⟩ = some v := hbo.cell 2
      have f2 := hbo.frozen 2
      clear HC HPW
      by_cases hj0 : j = 0
      · subst hj0
        obtain rfl := HV.out rfl
        have hl0 : l.length = 0 := by omega
        have hgp : goodPats l D = [1] := by rw [goodPats, List.eq_nil_of_length_eq_zero hl0]; rfl
        have HGP := Lib.hid hgp
        have hbase : w.heap.size + 1 + 1 + 1 ≤ wr.heap.size := by omega
        have h00 : 0 ≤ 1000000000 := by omega
        rw [hl0] at b2
        clear hl0 hgp hlt
        go_wp2_with (at_builtin; refine wpList_append_one' wr rfl _ _ 44 rfl (w.heap.size + 1 + 1 + 1) 47 _ 1 8 Try.underlying44 u64info rfl (by decide) (by decide) _ _ _ hown rfl [.int .u64 1] _ rfl rfl rfl h00 hbase ?_; intro g cap w5 ho5 hg0 hg1 hk5 hz5; have hb5 := hk5.below hbase; obtain ⟨q0, q1, q2, q3, q4, q5, q6, q7⟩ := (hbo.below hb5 (by omega)).cells8; have f5 := (hbo.below hb5 (by omega)).frozen 2; obtain ⟨y0, y1, y2, y3, y4, y5, y6, y7⟩ := (hbz.below hb5 (by omega)).cells8; obtain ⟨e0, e1, e2, e3, e4, e5, e6, e7⟩ := (hbz.below hb5 (by omega)).free8)
        refine bodyPost_ret (results_blk rfl _ _ (w.heap.size + 1) 46 [.int .i64 1, .int .i64 (rnd d 1 15), .slice (some ⟨g, 0, none⟩) 1 cap, .int .i64 0, .int .i64 0, .int .i64 0, .int .i64 0, .int .i64 0] _ rfl ?hW Try.underlying46 rfl csize) rfl ⟨_, rfl, ?_, ?_⟩
        case hW => exact Blk.set8 ((hbz.below hb5 (by omega)).far (p := ⟨w.heap.size + 1 + 1, 2, none⟩) (by show w.heap.size + 1 ≠ w.heap.size + 1 + 1; omega) _)
        · rw [HGP.out]
          exact own_mono (own_set8 (own_set' (by show g ≠ w.heap.size + 1 + 1; omega) ho5) (fun g' hg' => by simp [Value.ownBlock] at hg'; omega)) (by omega)
        · exact below_set8 ((hbel.trans (hb5.mono (by omega))).setCell (p := ⟨w.heap.size + 1 + 1, 2, none⟩) (by show w.heap.size ≤ w.heap.size + 1 + 1; omega) _) (by omega)
      · have hgp : goodPats l D = (l.take j).map fun s => goodPat s D := by
          have e : l.take 4 = l.take j := by
            by_cases h4 : j < 4
            · rw [List.take_of_length_le (by omega), List.take_of_length_le (by omega)]
            · rw [show j = 4 by omega]
          have ne : l.take 4 ≠ [] := by
            rw [e]
            intro h
            have := congrArg List.length h
            rw [List.length_take, List.length_nil] at this
            omega
          rw [goodPats, if_neg ne, e, Int.toNat_natCast]
        have HGP := Lib.hid hgp
        obtain ⟨g, cap, hv, hg0, hg1⟩ : ∃ g cap, v = .slice (some ⟨g, 0, none⟩) j cap ∧ w.heap.size + 1 + 1 + 1 ≤ g ∧ g < wr.heap.size := by
          rcases hown.2 with ⟨_, h0⟩ | ⟨g, cap, cur, rfl, hbg, hg, _⟩
          · exact absurd h0 hj0
          · exact ⟨g, cap, rfl, hbg, (Array.getElem?_eq_some_iff.1 hg).1⟩
        subst hv
        obtain ⟨q0, q1, q2, q3, q4, q5, q6, q7⟩ := hbo.cells8
        obtain ⟨y0, y1, y2, y3, y4, y5, y6, y7⟩ := hbz.cells8
        obtain ⟨e0, e1, e2, e3, e4, e5, e6, e7⟩ := hbz.free8
        have hjb : (j == 0) = false := by simp [hj0]
        have hjb2 : ((j : Int) == 0) = false := by simp; omega
        clear o2 f2 hgp
        have hend : j = l.length ∨ (j = 4 ∧ 4 < l.length) := by omega
        have hend2 : (¬ j < l.length ∧ j ≤ l.length) ∨ (j < l.length ∧ ¬ j < 4) := by omega
        clear hlt hend
        rcases hend2 with ⟨hn1, hn2⟩ | ⟨hn1, hn2⟩
        all_goals
          go_wp2
          refine bodyPost_ret (results_blk rfl _ _ (w.heap.size + 1) 46 [.int .i64 1, .int .i64 (rnd d 1 15), .slice (some ⟨g, 0, none⟩) j cap, .int .i64 0, .int .i64 0, .int .i64 0, .int .i64 0, .int .i64 0] _ rfl ?hW Try.underlying46 rfl csize) rfl ⟨_, rfl, ?_, ?_⟩
          case hW => exact hbz.set8
          · rw [HGP.out]
            rw [List.length_map, List.length_take, Nat.min_eq_left hj, List.map_map]
            exact own_mono (own_set8 (g := w.heap.size + 1) hown (fun g' hg' => by simp [Value.ownBlock] at hg'; omega)) (by omega)
          · exact below_set8 hbel (by omega)

end Go.Proofs.Ytifdggdpglphmaa
