/-
  The walks of what makes an instance that may be of any: a customer.
  The walks of what makes an instance that may be of any: a customer of patterns.
  The walk of Arc, the reference's.
  The walk of what makes an instance that may be of any.
-/
import Derived.Test.YtigljnnjamdcnaaDoorQI
import Derived.Test.YtigljnnjamdcnaaDoorQD
import Derived.Test.YtigljnnjamdcnaaDoorQB
import Derived.Deep.RegionWith
import Derived.Deep.RegionHeld3
import Derived.Test.YtigljnnjamdcnaaDoorQF
import Derived.Deep.DeepCutAuto
namespace Go.Proofs.YtigljnnjamdcnaaDoor
open Go.RowKit P06

set_option maxHeartbeats 400000 in
theorem round_any (n lo hi : Int) (w : World) (hn : W64 n) (h0 : 0 ≤ lo) (h1 : lo ≤ hi) (h2 : hi ≤ 2147483648) :
    Calls Tryd.prog 15 #[.int .i64 n, .int .i64 lo, .int .i64 hi] w fun e w' => e = .returned (.int .i64 (rnd n lo hi)) ∧ w = w' := by
  obtain ⟨n1, n2⟩ := hn
  by_cases hs : n < 0
  · have H := Lib.hid (show rnd n lo hi = lo + (-(n + 1)) % (hi - lo + 1) by rw [rnd, if_pos hs])
    obtain ⟨m, hmm⟩ : ∃ m : Int, m = -(n + 1) := ⟨_, rfl⟩
    have hm := Int.emod_nonneg (-(n + 1)) (show hi - lo + 1 ≠ 0 by omega)
    have hm2 := Int.emod_lt_of_pos (-(n + 1)) (show 0 < hi - lo + 1 by omega)
    go_enter Tryd.func15, Tryd.ntmps15
    go_wp2
    go_ret
    exact ⟨ret_int (by rw [H.out, ← Int.neg_tmod, Int.tmod_eq_emod_of_nonneg (by omega), IntWalk.wrap64_in _ (by omega)]), rfl⟩
  · have H := Lib.hid (show rnd n lo hi = lo + n % (hi - lo + 1) by rw [rnd, if_neg hs])
    have hm := Int.emod_nonneg n (show hi - lo + 1 ≠ 0 by omega)
    have hm2 := Int.emod_lt_of_pos n (show 0 < hi - lo + 1 by omega)
    go_enter Tryd.func15, Tryd.ntmps15
    go_wp2
    go_ret
    exact ⟨ret_int H.out.symm, rfl⟩

set_option maxHeartbeats 1000000 in
theorem good2_any (x : Cust) (days : Int) (pv : Value) (w : World) (hp : RPats w pv x.pats) (hwf : x.wf) (hk : x.kind % 2 = 0) :
    Calls Tryd.prog 16 #[.agg #[.int .i64 x.kind, .int .i64 x.demand, pv, .int .i64 x.rate, .int .i64 x.size, .int .i64 x.start, .int .i64 x.rule, .int .i64 x.hold], .int .i64 days] w
      fun e w' => e = .returned (.agg #[.int .i64 2, .int .i64 0, .slice none 0 0, .int .i64 (rnd x.rate 0 9), .int .i64 (rnd x.size 1 30), .int .i64 (rnd x.start 0 (rnd x.size 1 30)), .int .i64 (rnd x.rule 1 2), .int .i64 (rnd x.hold 0 4)]) ∧ Below w.heap.size w w' := by
  obtain ⟨A, c, rfl, hc1, hc2, -⟩ := hp.open_
  clear hp
  obtain ⟨k, d, l, r, s, t, u, h⟩ := x
  obtain ⟨k1, -, -, hr, hs, ht, hu, hh⟩ := hwf
  simp only at *
  have hrem : (k.tmod 2 == 0) = true := by
    rw [beq_iff_eq]
    exact (Int.dvd_iff_tmod_eq_zero).1 (Int.dvd_of_emod_eq_zero hk)
  have HR := Lib.hid hr
  have HS := Lib.hid hs
  have HT := Lib.hid ht
  have HU := Lib.hid hu
  have HH := Lib.hid hh
  obtain ⟨k1, k2⟩ := k1
  clear hr hs ht hu hh
  go_enter Tryd.func16, Tryd.ntmps16
  go_wp2_with fail
  have HSZ := Lib.hid (rnd_bd s 1 30 (by omega))
  go_region_held3 (fun w' => w'.cell? ⟨w.heap.size, 3, none⟩ = some (.int .i64 r) ∧ w'.cell? ⟨w.heap.size, 4, none⟩ = some (.int .i64 s) ∧ w'.cell? ⟨w.heap.size, 6, none⟩ = some (.int .i64 u) ∧ w'.cell? ⟨w.heap.size, 7, none⟩ = some (.int .i64 h))
    (go_keep)
    (first
      | (go_at_call 15; ((with_reducible refine (round_any r 0 9 _ HR.out (by omega) (by omega) (by omega)).mono ?_); rintro e w' ⟨rfl, rfl⟩))
      | (go_at_call 15; ((with_reducible refine (round_any s 1 30 _ HS.out (by omega) (by omega) (by omega)).mono ?_); rintro e w' ⟨rfl, rfl⟩))
      | (go_at_call 15; ((with_reducible refine (round_any u 1 2 _ HU.out (by omega) (by omega) (by omega)).mono ?_); rintro e w' ⟨rfl, rfl⟩))
      | (go_at_call 15; ((with_reducible refine (round_any h 0 4 _ HH.out (by omega) (by omega) (by omega)).mono ?_); rintro e w' ⟨rfl, rfl⟩)))
  all_goals
    go_wp2_with (go_at_call 15; ((with_reducible refine (round_any t 0 (rnd s 1 30) _ HT.out (by omega) (by have := HSZ.out; omega) (by have := HSZ.out; omega)).mono ?_); rintro e w' ⟨rfl, rfl⟩))
    refine bodyPost_ret (v := .agg #[.int .i64 2, .int .i64 0, .slice none 0 0, .int .i64 (rnd r 0 9), .int .i64 (rnd s 1 30), .int .i64 (rnd t 0 (rnd s 1 30)), .int .i64 (rnd u 1 2), .int .i64 (rnd h 0 4)]) (by simp [results, Tryd.results16, go_sem]) rfl ⟨rfl, ?_⟩
    repeat' (first | exact Below.refl _ _ | refine Below.drew ?_ | refine below_drewN ?_ _ | refine Below.alloc ?_ ?_ _)
    all_goals first | (simp; done) | (simp; omega)

end Go.Proofs.YtigljnnjamdcnaaDoor

namespace Go.Proofs.YtigljnnjamdcnaaDoor
open Go.RowKit P06

theorem goodPat_lt (s : Nat) : ∀ n, goodPat s n < 18446744073709551616
  | 0 => by simp [goodPat]
  | n + 1 => by
    rw [goodPat]
    split
    · exact P02.put_lt _ _ (goodPat_lt s n)
    · exact goodPat_lt s n

theorem csize : (Tryd.prog.info? 41).map (·.size) = some 8 := by kernel_rfl
theorem u64info : (Tryd.prog.info? 68).map (fun i => (i.zero, i.size, i.bytes)) = some (some (.int .u64 0), 1, 8) := by kernel_rfl

set_option maxHeartbeats 1000000 in
theorem good1_any (x : Cust) (days : Int) (pv : Value) (w : World) (hp : RPats w pv x.pats) (hwf : x.wf) (hk : ¬ x.kind % 2 = 0) (hd0 : 1 ≤ days) (hd1 : days ≤ 7) :
    Calls Tryd.prog 16 #[.agg #[.int .i64 x.kind, .int .i64 x.demand, pv, .int .i64 x.rate, .int .i64 x.size, .int .i64 x.start, .int .i64 x.rule, .int .i64 x.hold], .int .i64 days] w
      fun e w' => ∃ v, e = .returned (.agg #[.int .i64 1, .int .i64 (rnd x.demand 1 15), v, .int .i64 0, .int .i64 0, .int .i64 0, .int .i64 0, .int .i64 0]) ∧
        w'.ownsRow w.heap.size 68 1 v (goodPats x.pats days).length ((goodPats x.pats days).map fun (s : Nat) => Value.int .u64 (s : Int)) ∧ Below w.heap.size w w' := by
  obtain ⟨A, c, rfl, hc1, hc2, hcell⟩ := hp.open_
  clear hp
  obtain ⟨k, d, l, r, s, t, u, h⟩ := x
  obtain ⟨k1, hdm, hpw, -, -, -, -, -⟩ := hwf
  simp only at *
  obtain ⟨k1, k2⟩ := k1
  have hrem : (k.tmod 2 == 0) = false := by
    rw [beq_eq_false_iff_ne]
    intro he
    exact hk (Int.emod_eq_zero_of_dvd ((Int.dvd_iff_tmod_eq_zero).2 he))
  have HDM := Lib.hid hdm
  have HPW := Lib.hid hpw
  have HC := Lib.hid hcell
  obtain ⟨D, rfl⟩ := Int.eq_ofNat_of_zero_le (show 0 ≤ days by omega)
  clear hdm hpw hcell
  go_enter Tryd.func16, Tryd.ntmps16
  go_wp2_with (go_at_call 15; ((with_reducible refine (round_any d 1 15 _ HDM.out (by omega) (by omega) (by omega)).mono ?_); rintro e w' ⟨rfl, rfl⟩))
  go_loopw [7] (fun i wr => ∃ (j : Nat) (v : Value), j ≤ 4 ∧ j ≤ l.length ∧ i = .int .i64 j ∧ Blk wr w.heap.size 41 [.int .i64 k, .int .i64 d, .slice A l.length c, .int .i64 r, .int .i64 s, .int .i64 t, .int .i64 u, .int .i64 h] ∧ Blk wr (w.heap.size + 1) 41 [.int .i64 0, .int .i64 0, .slice none 0 0, .int .i64 0, .int .i64 0, .int .i64 0, .int .i64 0, .int .i64 0] ∧
      Blk wr (w.heap.size + 1 + 1) 41 [.int .i64 1, .int .i64 (rnd d 1 15), v, .int .i64 0, .int .i64 0, .int .i64 0, .int .i64 0, .int .i64 0] ∧ Hid (j = 0 → v = .slice none 0 0) ∧
      wr.ownsRow (w.heap.size + 1 + 1 + 1) 68 1 v j ((l.take j).map fun s => Value.int .u64 (goodPat s D : Nat)) ∧ Below w.heap.size w wr) (fun i _ => 4 - (intOf i).toNat)
  case atStart =>
    exact ⟨0, .slice none 0 0, by omega, by omega, rfl, ((Blk.new w 41 [.int .i64 k, .int .i64 d, .slice A l.length c, .int .i64 r, .int .i64 s, .int .i64 t, .int .i64 u, .int .i64 h]).alloc _).alloc _, by simpa using (Blk.new (w.alloc _) 41 [.int .i64 0, .int .i64 0, .slice none 0 0, .int .i64 0, .int .i64 0, .int .i64 0, .int .i64 0, .int .i64 0]).alloc _,
      by simpa using Blk.new ((w.alloc _).alloc _) 41 [.int .i64 1, .int .i64 (rnd d 1 15), .slice none 0 0, .int .i64 0, .int .i64 0, .int .i64 0, .int .i64 0, .int .i64 0], fun _ => rfl, World.ownsRow_nil _ _ _ _, (((Below.refl _ _).alloc (Nat.le_refl _) _).alloc (by simp) _).alloc (by simp; omega) _⟩
  case round =>
    obtain ⟨j, v, hj4, hj, rfl, hbx, hbz, hbo, HV, hown, hbel⟩ := hrel
    have z0 := hbx.lt
    have z1 := hbz.lt
    have z2 := hbo.lt
    have b2 : wr.cell? ⟨w.heap.size, 2, none⟩ = some (.slice A l.length c) := hbx.cell 2
    by_cases hlt : j < l.length ∧ j < 4
    · obtain ⟨hlt, hlt4⟩ := hlt
      obtain ⟨p, hp1⟩ := some_of_lt hlt
      obtain ⟨b, o, rfl, hb, hk⟩ := HC.out j p hp1
      have hpw := HPW.out p (List.mem_of_getElem? hp1)
      have HP1 := Lib.hid hp1
      have HK := Lib.hid hk
      clear hp1 hk
      have hdj : decide ((j : Int) < 4) = true := by simp; omega
      go_wp2_with fail
      clear hdj b2
      obtain ⟨wo, hwo⟩ : ∃ wo : World, wo = wr := ⟨_, rfl⟩
      subst hwo
      go_loopw [8, 9] (fun pv dv wi => ∃ m : Nat, m ≤ D ∧ pv = .int .u64 (goodPat p m : Nat) ∧ dv = .int .i64 m ∧ Below wo.heap.size wo wi) (fun _ dv _ => D - (intOf dv).toNat)
      case atStart => exact ⟨0, Nat.zero_le _, rfl, rfl, Below.refl _ _⟩
      case round =>
        obtain ⟨m, hm, rfl, rfl, hbi⟩ := hrel
        have hwi := hbi.size
        by_cases hlm : m < D
        · have b2 : wr.cell? ⟨w.heap.size, 2, none⟩ = some (.slice (some ⟨b, o, none⟩) l.length c) := (hbi.cell (p := ⟨w.heap.size, 2, none⟩) z0).trans (hbx.cell 2)
          have hk0 : wr.cell? ⟨b, o + j, none⟩ = some (.int .u64 (p : Int)) := (hbi.cell (p := ⟨b, o + j, none⟩) (Nat.lt_of_lt_of_le hb hbel.size)).trans ((hbel.cell (p := ⟨b, o + j, none⟩) hb).trans HK.out)
          have hgl := goodPat_lt p m
          rcases Bool.eq_false_or_eq_true (P02.has p m) with hh | hh
          · have hg2 : goodPat p (m + 1) = P02.put (goodPat p m) m := by rw [goodPat, if_pos hh]
            have HG := Lib.hid hg2
            have HH := Lib.hid hh
            clear hg2 hh
            generalize goodPat p m = q at *
            go_wp2_with (first
              | (go_at_call 39; refine (has_any p hpw _ _).mono ?_; rintro e w1 ⟨rfl, hb1⟩; rw [HH.out])
              | (go_at_call 40; refine (put_any q hgl _ _).mono ?_; rintro e w2 ⟨rfl, hb2⟩))
            go_roundw
            case rel => exact ⟨m + 1, by omega, by rw [HG.out], by go_num, hbi.trans ((hb1.trans (hb2.mono hb1.size)).mono hwi)⟩
            case measure => simp [intOf]; omega
          · have hg2 : goodPat p (m + 1) = goodPat p m := by rw [goodPat, hh]; rfl
            have HG := Lib.hid hg2
            have HH := Lib.hid hh
            clear hg2 hh
            generalize goodPat p m = q at *
            go_wp2_with (first
              | (go_at_call 39; refine (has_any p hpw _ _).mono ?_; rintro e w1 ⟨rfl, hb1⟩; rw [HH.out]))
            go_roundw
            case rel => exact ⟨m + 1, by omega, by rw [HG.out], by go_num, hbi.trans (hb1.mono hwi)⟩
            case measure => simp [intOf]; omega
        · obtain rfl : m = D := by omega
          have o2 : wr.cell? ⟨w.heap.size + 1 + 1, 2, none⟩ = some v := (hbi.cell (p := ⟨w.heap.size + 1 + 1, 2, none⟩) z2).trans (hbo.cell 2)
          have ho2 := own_below hown hbi (Nat.le_refl _)
          have hjn : j ≤ 1000000000 := by omega
          have hbase : w.heap.size + 1 + 1 + 1 ≤ wr.heap.size := by omega
          go_wp2_with (at_builtin; refine wpList_append_one' wr rfl _ _ 39 rfl (w.heap.size + 1 + 1 + 1) 68 _ 1 8 Tryd.underlying39 u64info rfl (by decide) (by decide) _ _ _ ho2 rfl [.int .u64 (goodPat p m : Nat)] _ rfl rfl rfl hjn hbase ?_; intro g cap w5 ho5 hg0 hg1 hk5 hz5; have hb5 := hk5.below hbase; have o5 := (hb5.cell (p := ⟨w.heap.size + 1 + 1, 2, none⟩) (by show w.heap.size + 1 + 1 < _; omega)).trans o2; have f5 : w5.frozen? ⟨w.heap.size + 1 + 1, 2, none⟩ = false := ((hbo.below hbi z2).below hb5 (by omega)).frozen 2)
          go_roundw
          case rel =>
            refine ⟨j + 1, .slice (some ⟨g, 0, none⟩) (j + 1) cap, by omega, by omega, by go_num, ((hbx.below hbi z0).below hb5 (by omega)).far (p := ⟨w.heap.size + 1 + 1, 2, none⟩) (by show w.heap.size ≠ w.heap.size + 1 + 1; omega) _,
              ((hbz.below hbi z1).below hb5 (by omega)).far (p := ⟨w.heap.size + 1 + 1, 2, none⟩) (by show w.heap.size + 1 ≠ w.heap.size + 1 + 1; omega) _, ((hbo.below hbi z2).below hb5 (by omega)).set_ 2 _, fun h => absurd h (by omega), ?_, ?_⟩
            · have := own_set ho5 (p := ⟨w.heap.size + 1 + 1, 2, none⟩) (fun g' hg' => by simp [Value.ownBlock] at hg'; subst hg'; show g ≠ w.heap.size + 1 + 1; omega) (.slice (some ⟨g, 0, none⟩) (j + 1) cap)
              rw [List.take_add_one, HP1.out, List.map_append]
              exact this
            · exact ((hbel.trans (hbi.mono hbel.size)).trans (hb5.mono (by omega))).setCell (p := ⟨w.heap.size + 1 + 1, 2, none⟩) (by show w.heap.size ≤ w.heap.size + 1 + 1; omega) _
          case measure => simp [intOf]; omega
    · have HPW0 := HPW
      have o2 : wr.cell? ⟨w.heap.size + 1 + 1, 2, none⟩ = some v := hbo.cell 2
      have f2 := hbo.frozen 2
      clear HC HPW
      by_cases hj0 : j = 0
      · subst hj0
        obtain rfl := HV.out rfl
        have hl0 : l.length = 0 := by omega
        have hgp : goodPats l D = [1] := by rw [goodPats, List.eq_nil_of_length_eq_zero hl0]; rfl
        have HGP := Lib.hid hgp
        have hbase : w.heap.size + 1 + 1 + 1 ≤ wr.heap.size := by omega
        have h00 : 0 ≤ 1000000000 := by omega
        rw [hl0] at b2
        clear hl0 hgp hlt
        go_wp2_with (at_builtin; refine wpList_append_one' wr rfl _ _ 39 rfl (w.heap.size + 1 + 1 + 1) 68 _ 1 8 Tryd.underlying39 u64info rfl (by decide) (by decide) _ _ _ hown rfl [.int .u64 1] _ rfl rfl rfl h00 hbase ?_; intro g cap w5 ho5 hg0 hg1 hk5 hz5; have hb5 := hk5.below hbase; obtain ⟨q0, q1, q2, q3, q4, q5, q6, q7⟩ := (hbo.below hb5 (by omega)).cells8; have f5 := (hbo.below hb5 (by omega)).frozen 2; obtain ⟨y0, y1, y2, y3, y4, y5, y6, y7⟩ := (hbz.below hb5 (by omega)).cells8; obtain ⟨e0, e1, e2, e3, e4, e5, e6, e7⟩ := (hbz.below hb5 (by omega)).free8)
        refine bodyPost_ret (results_blk rfl _ _ (w.heap.size + 1) 41 [.int .i64 1, .int .i64 (rnd d 1 15), .slice (some ⟨g, 0, none⟩) 1 cap, .int .i64 0, .int .i64 0, .int .i64 0, .int .i64 0, .int .i64 0] _ rfl ?hW Tryd.underlying41 rfl csize) rfl ⟨_, rfl, ?_, ?_⟩
        case hW => exact Blk.set8 ((hbz.below hb5 (by omega)).far (p := ⟨w.heap.size + 1 + 1, 2, none⟩) (by show w.heap.size + 1 ≠ w.heap.size + 1 + 1; omega) _)
        · rw [HGP.out]
          exact own_mono (own_set8 (own_set' (by show g ≠ w.heap.size + 1 + 1; omega) ho5) (fun g' hg' => by simp [Value.ownBlock] at hg'; omega)) (by omega)
        · exact below_set8 ((hbel.trans (hb5.mono (by omega))).setCell (p := ⟨w.heap.size + 1 + 1, 2, none⟩) (by show w.heap.size ≤ w.heap.size + 1 + 1; omega) _) (by omega)
      · have hgp : goodPats l D = (l.take j).map fun s => goodPat s D := by
          have e : l.take 4 = l.take j := by
            by_cases h4 : j < 4
            · rw [List.take_of_length_le (by omega), List.take_of_length_le (by omega)]
            · rw [show j = 4 by omega]
          have ne : l.take 4 ≠ [] := by
            rw [e]
            intro h
            have := congrArg List.length h
            rw [List.length_take, List.length_nil] at this
            omega
          rw [goodPats, if_neg ne, e, Int.toNat_natCast]
        have HGP := Lib.hid hgp
        obtain ⟨g, cap, hv, hg0, hg1⟩ : ∃ g cap, v = .slice (some ⟨g, 0, none⟩) j cap ∧ w.heap.size + 1 + 1 + 1 ≤ g ∧ g < wr.heap.size := by
          rcases hown.2 with ⟨_, h0⟩ | ⟨g, cap, cur, rfl, hbg, hg, _⟩
          · exact absurd h0 hj0
          · exact ⟨g, cap, rfl, hbg, (Array.getElem?_eq_some_iff.1 hg).1⟩
        subst hv
        obtain ⟨q0, q1, q2, q3, q4, q5, q6, q7⟩ := hbo.cells8
        obtain ⟨y0, y1, y2, y3, y4, y5, y6, y7⟩ := hbz.cells8
        obtain ⟨e0, e1, e2, e3, e4, e5, e6, e7⟩ := hbz.free8
        have hjb : (j == 0) = false := by simp [hj0]
        have hjb2 : ((j : Int) == 0) = false := by simp; omega
        clear o2 f2 hgp
        have hend : j = l.length ∨ (j = 4 ∧ 4 < l.length) := by omega
        have hend2 : (¬ j < l.length ∧ j ≤ l.length) ∨ (j < l.length ∧ ¬ j < 4) := by omega
        clear hlt hend
        rcases hend2 with ⟨hn1, hn2⟩ | ⟨hn1, hn2⟩
        all_goals
          go_wp2
          refine bodyPost_ret (results_blk rfl _ _ (w.heap.size + 1) 41 [.int .i64 1, .int .i64 (rnd d 1 15), .slice (some ⟨g, 0, none⟩) j cap, .int .i64 0, .int .i64 0, .int .i64 0, .int .i64 0, .int .i64 0] _ rfl ?hW Tryd.underlying41 rfl csize) rfl ⟨_, rfl, ?_, ?_⟩
          case hW => exact hbz.set8
          · rw [HGP.out]
            rw [List.length_map, List.length_take, Nat.min_eq_left hj, List.map_map]
            exact own_mono (own_set8 (g := w.heap.size + 1) hown (fun g' hg' => by simp [Value.ownBlock] at hg'; omega)) (by omega)
          · exact below_set8 hbel (by omega)

end Go.Proofs.YtigljnnjamdcnaaDoor

namespace Go.Proofs.YtigljnnjamdcnaaDoor
open Go.RowKit P06

theorem arc_some {D : List (List Int)} {i j : Nat} {r : List Int} {z : Int} (h1 : D[i]? = some r) (h2 : r[j]? = some z) : arc D i j = z := by
  rw [arc, if_neg (by omega), Int.toNat_natCast, Int.toNat_natCast, h1]
  simp [h2]
theorem arc_none1 {D : List (List Int)} {a b : Int} (h : a < 0 ∨ b < 0 ∨ (D.length : Int) ≤ a) : arc D a b = 0 := by
  rw [arc]
  split
  · rfl
  · rw [List.getElem?_eq_none (l := D) (by omega)]; simp
theorem arc_none2 {D : List (List Int)} {i j : Nat} {r : List Int} (h1 : D[i]? = some r) (h2 : r.length ≤ j) : arc D i j = 0 := by
  rw [arc, if_neg (by omega), Int.toNat_natCast, Int.toNat_natCast, h1]
  simp [List.getElem?_eq_none h2]

set_option maxHeartbeats 1000000 in
theorem rarc_any (v : Value) (x : Inst) (a b : Int) (w : World) (hx : RInst w v x) :
    Calls Tryd.prog 17 #[v, .int .i64 a, .int .i64 b] w fun e w' => e = .returned (.int .i64 (arc x.dist a b)) ∧ Below w.heap.size w w' := by
  obtain ⟨cv, dv, rfl, -, hds⟩ := hx
  obtain ⟨A1, c1, rfl, hd1, hd2, hdc⟩ := hds.open_
  clear hds
  obtain ⟨days, veh, cap, len, custs, D⟩ := x
  simp only at hd1 hdc ⊢
  by_cases h0 : a < 0 ∨ b < 0 ∨ (D.length : Int) ≤ a
  · have H := Lib.hid (arc_none1 h0)
    clear hdc
    have h3 : a < 0 ∨ (0 ≤ a ∧ b < 0 ∧ a < D.length) ∨ (0 ≤ a ∧ 0 ≤ b ∧ (D.length : Int) ≤ a) ∨ (0 ≤ a ∧ b < 0 ∧ (D.length : Int) ≤ a) := by omega
    rcases h3 with h1 | ⟨h1, h2, h3⟩ | ⟨h1, h2, h3⟩ | ⟨h1, h2, h3⟩
    all_goals
      clear h0
      go_enter Tryd.func17, Tryd.ntmps17
      go_wp2
      go_ret
      exact ⟨ret_int H.out.symm, (Below.refl _ _).alloc (Nat.le_refl _) _⟩
  · obtain ⟨i, rfl⟩ := Int.eq_ofNat_of_zero_le (show 0 ≤ a by omega)
    obtain ⟨j, rfl⟩ := Int.eq_ofNat_of_zero_le (show 0 ≤ b by omega)
    obtain ⟨r, hr⟩ := some_of_lt (l := D) (i := i) (by omega)
    have hi := lt_of_some hr
    obtain ⟨b0, o0, rfl, hb, A2, c2, hk, e1, e2, hrc⟩ := hdc i r hr
    clear hdc h0
    by_cases hj : j < r.length
    · obtain ⟨z, hz⟩ := some_of_lt hj
      obtain ⟨b1, o1, rfl, hb1, hk1⟩ := hrc j z hz
      have H := Lib.hid (arc_some hr hz)
      clear hr hz hrc
      go_enter Tryd.func17, Tryd.ntmps17
      go_wp2
      go_ret
      exact ⟨ret_int H.out.symm, (Below.refl _ _).alloc (Nat.le_refl _) _⟩
    · have H := Lib.hid (arc_none2 (j := j) hr (by omega))
      clear hr hrc
      go_enter Tryd.func17, Tryd.ntmps17
      go_wp2
      go_ret
      exact ⟨ret_int H.out.symm, (Below.refl _ _).alloc (Nat.le_refl _) _⟩

end Go.Proofs.YtigljnnjamdcnaaDoor

namespace Go.Proofs.YtigljnnjamdcnaaDoor
open Go.RowKit P06

theorem cinfo : (Tryd.prog.info? 41).map (fun i => (i.zero, i.size, i.bytes)) = some (some (.agg #[.int .i64 0, .int .i64 0, .slice none 0 0, .int .i64 0, .int .i64 0, .int .i64 0, .int .i64 0, .int .i64 0]), 8, 80) := by kernel_rfl
theorem rinfo : (Tryd.prog.info? 43).map (fun i => (i.zero, i.size, i.bytes)) = some (some (.slice none 0 0), 1, 24) := by kernel_rfl
theorem fill_zero {l : List Int} {n k : Nat} (hl : l.length = n) (hz : l[k]? = some 0) :
    (l.take k).map (Value.int .i64) ++ zeros (n - k) = (l.take (k + 1)).map (Value.int .i64) ++ zeros (n - (k + 1)) := by
  have hk := lt_of_some hz
  have e : n - k = (n - (k + 1)) + 1 := by omega
  rw [e, List.take_add_one, hz]
  simp [zeros, List.replicate_succ]
theorem isize : (Tryd.prog.info? 25).map (·.size) = some 6 := by kernel_rfl

/-- A customer that may be, made of any, as the walk has it. -/
theorem good_any (x : Cust) (days : Int) (pv : Value) (w : World) (hp : RPats w pv x.pats) (hwf : x.wf) (hd0 : 1 ≤ days) (hd1 : days ≤ 7) :
    Calls Tryd.prog 16 #[.agg #[.int .i64 x.kind, .int .i64 x.demand, pv, .int .i64 x.rate, .int .i64 x.size, .int .i64 x.start, .int .i64 x.rule, .int .i64 x.hold], .int .i64 days] w
      fun e w' => ∃ (y : Cust) (A : Option Addr) (n c : Nat), e = .returned (.agg #[.int .i64 y.kind, .int .i64 y.demand, .slice A n c, .int .i64 y.rate, .int .i64 y.size, .int .i64 y.start, .int .i64 y.rule, .int .i64 y.hold]) ∧
        Hid (y = goodC x days) ∧ w'.ownsRow w.heap.size 68 1 (.slice A n c) y.pats.length (y.pats.map fun (s : Nat) => Value.int .u64 (s : Int)) ∧ Below w.heap.size w w' := by
  by_cases hk : x.kind % 2 = 0
  · refine (good2_any x days pv w hp hwf hk).mono ?_
    rintro e w' ⟨rfl, hb⟩
    exact ⟨goodC x days, none, 0, 0, by rw [goodC, if_pos hk], rfl, by rw [goodC, if_pos hk]; exact World.ownsRow_nil _ _ _ _, hb⟩
  · refine (good1_any x days pv w hp hwf hk hd0 hd1).mono ?_
    rintro e w' ⟨v, rfl, hv, hb⟩
    obtain ⟨A, c, rfl, _⟩ := RS.of_own hv
    exact ⟨goodC x days, A, _, c, by rw [goodC, if_neg hk], rfl, by rw [goodC, if_neg hk]; exact hv, hb⟩

set_option maxHeartbeats 2000000 in
theorem goodI_any (v : Value) (x : Inst) (w : World) (hx : RInst w v x) (hwf : x.wf) :
    Calls Tryd.prog 8 #[v] w fun e w' => ∃ v', e = .returned v' ∧ OwnInst w.heap.size 41 68 43 3 w' v' (goodP x) ∧ Below w.heap.size w w' := by
  have hxi := hx
  obtain ⟨cv, dv, rfl, hcs, hds⟩ := hx
  obtain ⟨A, c, rfl, hc1, hc2, hcell⟩ := hcs.open_
  obtain ⟨A1, c1, rfl, hd1, hd2, -⟩ := hds.open_
  obtain ⟨h0, h1, h2, h3, hcw, hdw⟩ := hwf
  obtain ⟨days, veh, cap, len, custs, D⟩ := x
  simp only at hc1 hd1 hcell hcw hdw h0 h1 h2 h3 ⊢
  have HXI := Lib.hid hxi
  have H0 := Lib.hid h0
  have H1 := Lib.hid h1
  have H2 := Lib.hid h2
  have H3 := Lib.hid h3
  have HC := Lib.hid hcell
  have HW := Lib.hid hcw
  have HD := Lib.hid hds
  have HDW := Lib.hid hdw
  clear hcell hcw hdw h0 h1 h2 h3 hcs hds hxi
  go_enter Tryd.func8, Tryd.ntmps8
  go_upto_region 1 with fail
  go_cut [3] (fun p wc => p = .pointer (some ⟨w.heap.size + 1 + 1, 0, none⟩) ∧ Blk wc w.heap.size 25 [.int .i64 days, .int .i64 veh, .int .i64 cap, .int .i64 len, .slice A custs.length c, .slice A1 D.length c1] ∧ Blk wc (w.heap.size + 1) 25 [.int .i64 0, .int .i64 0, .int .i64 0, .int .i64 0, .slice none 0 0, .slice none 0 0] ∧
    Blk wc (w.heap.size + 1 + 1) 25 [.int .i64 (rnd days 1 7), .int .i64 (rnd veh 0 5), .int .i64 (rnd cap 0 40), .int .i64 (rnd len 0 300), .slice none 0 0, .slice none 0 0] ∧ Below w.heap.size w wc)
  case first =>
    go_region_held3 (fun w' => w'.cell? ⟨w.heap.size, 0, none⟩ = some (.int .i64 days) ∧ w'.cell? ⟨w.heap.size, 1, none⟩ = some (.int .i64 veh) ∧ w'.cell? ⟨w.heap.size, 2, none⟩ = some (.int .i64 cap) ∧ w'.cell? ⟨w.heap.size, 3, none⟩ = some (.int .i64 len))
      (go_keep)
      (first
        | (go_at_call 15; ((with_reducible refine (round_any days 1 7 _ H0.out (by omega) (by omega) (by omega)).mono ?_); rintro e w' ⟨rfl, rfl⟩))
        | (go_at_call 15; ((with_reducible refine (round_any veh 0 5 _ H1.out (by omega) (by omega) (by omega)).mono ?_); rintro e w' ⟨rfl, rfl⟩))
        | (go_at_call 15; ((with_reducible refine (round_any cap 0 40 _ H2.out (by omega) (by omega) (by omega)).mono ?_); rintro e w' ⟨rfl, rfl⟩))
        | (go_at_call 15; ((with_reducible refine (round_any len 0 300 _ H3.out (by omega) (by omega) (by omega)).mono ?_); rintro e w' ⟨rfl, rfl⟩)))
    all_goals
      go_wp2_with fail
      go_meet
      refine ⟨rfl, ?_, ?_, ?_, ?_⟩
      · exact ((Blk.new w 25 [.int .i64 days, .int .i64 veh, .int .i64 cap, .int .i64 len, .slice A custs.length c, .slice A1 D.length c1]).alloc _).alloc _
      · have := (Blk.new (w.alloc (.cells [.int .i64 days, .int .i64 veh, .int .i64 cap, .int .i64 len, .slice A custs.length c, .slice A1 D.length c1].toArray 25)) 25 [.int .i64 0, .int .i64 0, .int .i64 0, .int .i64 0, .slice none 0 0, .slice none 0 0]).alloc (.cells [.int .i64 (rnd days 1 7), .int .i64 (rnd veh 0 5), .int .i64 (rnd cap 0 40), .int .i64 (rnd len 0 300), .slice none 0 0, .slice none 0 0].toArray 25)
        simp only [World.size_alloc] at this
        exact this.drew
      · have := Blk.new ((w.alloc (.cells [.int .i64 days, .int .i64 veh, .int .i64 cap, .int .i64 len, .slice A custs.length c, .slice A1 D.length c1].toArray 25)).alloc (.cells [.int .i64 0, .int .i64 0, .int .i64 0, .int .i64 0, .slice none 0 0, .slice none 0 0].toArray 25)) 25 [.int .i64 (rnd days 1 7), .int .i64 (rnd veh 0 5), .int .i64 (rnd cap 0 40), .int .i64 (rnd len 0 300), .slice none 0 0, .slice none 0 0]
        simp only [World.size_alloc] at this
        exact this.drew
      · repeat' (first | exact Below.refl _ _ | refine Below.drew ?_ | refine below_drewN ?_ _ | refine Below.alloc ?_ ?_ _)
        all_goals first | (simp; done) | (simp; omega)
  case rest =>
    obtain ⟨rfl, hbx, hbz, hbo, hbel⟩ := hcut
    go_wp2_with fail
    go_loopw [4] (fun i wr => ∃ (j : Nat) (v : Value), j ≤ 6 ∧ j ≤ custs.length ∧ i = .int .i64 j ∧ Blk wr w.heap.size 25 [.int .i64 days, .int .i64 veh, .int .i64 cap, .int .i64 len, .slice A custs.length c, .slice A1 D.length c1] ∧ Blk wr (w.heap.size + 1) 25 [.int .i64 0, .int .i64 0, .int .i64 0, .int .i64 0, .slice none 0 0, .slice none 0 0] ∧
      Blk wr (w.heap.size + 1 + 1) 25 [.int .i64 (rnd days 1 7), .int .i64 (rnd veh 0 5), .int .i64 (rnd cap 0 40), .int .i64 (rnd len 0 300), v, .slice none 0 0] ∧ Hid (j = 0 → v = .slice none 0 0) ∧ OwnCusts (w.heap.size + 1 + 1 + 1) 41 68 wr v ((custs.take j).map fun c => goodC c (rnd days 1 7)) ∧ Below w.heap.size w wr) (fun i _ => 6 - (intOf i).toNat)
    case atStart => exact ⟨0, .slice none 0 0, by omega, by omega, rfl, hbx, hbz, hbo, fun _ => rfl, OwnCusts.none_ _ _ _ _, hbel⟩
    case round =>
      clear hbx hbz hbo hbel
      obtain ⟨j, v, hj6, hj, rfl, hbx, hbz, hbo, HV, hown, hbel⟩ := hrel
      have z0 := hbx.lt
      have z1 := hbz.lt
      have z2 := hbo.lt
      have b4 : wr.cell? ⟨w.heap.size, 4, none⟩ = some (.slice A custs.length c) := hbx.cell 4
      by_cases hlt : j < custs.length ∧ j < 6
      · obtain ⟨hlt, hlt6⟩ := hlt
        obtain ⟨x, hx⟩ := some_of_lt hlt
        obtain ⟨b, o, rfl, hb, pv, hpv, k0, k1, k2, k3, k4, k5, k6, k7⟩ := HC.out j x hx
        have hb' := Nat.lt_of_lt_of_le hb hbel.size
        have o0 : wr.cell? ⟨w.heap.size + 1 + 1, 0, none⟩ = some (.int .i64 (rnd days 1 7)) := hbo.cell 0
        have o4 : wr.cell? ⟨w.heap.size + 1 + 1, 4, none⟩ = some v := hbo.cell 4
        replace k0 := cell_below hbel (Nat.le_refl _) k0
        replace k1 := cell_below hbel (Nat.le_refl _) k1
        replace k2 := cell_below hbel (Nat.le_refl _) k2
        replace k3 := cell_below hbel (Nat.le_refl _) k3
        replace k4 := cell_below hbel (Nat.le_refl _) k4
        replace k5 := cell_below hbel (Nat.le_refl _) k5
        replace k6 := cell_below hbel (Nat.le_refl _) k6
        replace k7 := cell_below hbel (Nat.le_refl _) k7
        have hpv' : RPats wr pv x.pats := hpv.below hbel (Nat.le_refl _)
        obtain ⟨Ap, cp, rfl, -⟩ := hpv'.open_
        have HP := Lib.hid hpv'
        have HWX := Lib.hid (HW.out x (List.mem_of_getElem? hx))
        have HX := Lib.hid hx
        have hj0 : (0 : Int) ≤ (j : Int) := Int.natCast_nonneg _
        have hj1 : (j : Int) < (custs.length : Int) := by omega
        have HRB := Lib.hid (rnd_bd days 1 7 (by omega))
        obtain ⟨pvs, hpl, how, hpr⟩ := hown
        have hLl : ((custs.take j).map fun c => goodC c (rnd days 1 7)).length = j := by rw [List.length_map, List.length_take, Nat.min_eq_left (by omega)]
        rw [hLl] at how hpl
        have HOW := Lib.hid how
        have HPR := Lib.hid hpr
        have HPL := Lib.hid hpl
        have hjn : j ≤ 1000000000 := by omega
        clear hpv hpv' hx how hpr hpl hLl
        go_wp2_with fail
        refine wp_region_L_S (fun w' => w'.cell? ⟨w.heap.size + 1 + 1, 4, none⟩ = some (v) ∧ w'.cell? ⟨w.heap.size + 1 + 1, 0, none⟩ = some (.int .i64 (rnd days 1 7)) ∧ w'.cell? ⟨w.heap.size, 4, none⟩ = some (.slice (some ⟨b, o, none⟩) custs.length c) ∧ w'.cell? ⟨b, o + j * 8, none⟩ = some (.int .i64 x.kind) ∧ w'.cell? ⟨b, o + j * 8 + 1, none⟩ = some (.int .i64 x.demand) ∧ w'.cell? ⟨b, o + j * 8 + 2, none⟩ = some (.slice Ap x.pats.length cp) ∧ w'.cell? ⟨b, o + j * 8 + 3, none⟩ = some (.int .i64 x.rate) ∧ w'.cell? ⟨b, o + j * 8 + 4, none⟩ = some (.int .i64 x.size) ∧ w'.cell? ⟨b, o + j * 8 + 5, none⟩ = some (.int .i64 x.start) ∧ w'.cell? ⟨b, o + j * 8 + 6, none⟩ = some (.int .i64 x.rule) ∧ w'.cell? ⟨b, o + j * 8 + 7, none⟩ = some (.int .i64 x.hold)) (by kernel_rfl) ?_ (fun hS => ?_)
        · exact ⟨o4, o0, b4, k0, k1, k2, k3, k4, k5, k6, k7⟩
        refine wpAnyL_take 0 (v := ?_) rfl (by kernel_rfl) (by kernel_rfl) (by kernel_rfl) (fun _ _ _ h => h) (by rfl) ?_ hS ?_
        rotate_left
        · intro w hSw
          (try dsimp only at hSw)
          go_simp
          try with_reducible rfl
        try simp only [Act.put, List.setIfInBounds_toArray]
        refine wpAnyL_take 1 (v := ?_) rfl (by kernel_rfl) (by kernel_rfl) (by kernel_rfl) (fun _ _ _ h => h) (by rfl) ?_ hS ?_
        rotate_left
        · intro w hSw
          (try dsimp only at hSw)
          go_simp
          try with_reducible rfl
        try simp only [Act.put]
        refine wpAnyL_take 2 (v := ?_) rfl (by kernel_rfl) (by kernel_rfl) (by kernel_rfl) (fun _ _ _ h => h) (by rfl) ?_ hS ?_
        rotate_left
        · intro w hSw
          (try dsimp only at hSw)
          go_simp
          try with_reducible rfl
        try simp only [Act.put]
        refine wpAnyL_take 3 (v := ?_) rfl (by kernel_rfl) (by kernel_rfl) (by kernel_rfl) (fun _ _ _ h => h) (by rfl) ?_ hS ?_
        rotate_left
        · intro w hSw
          (try dsimp only at hSw)
          go_simp
          try with_reducible rfl
        try simp only [Act.put]
        refine wpAnyL_take 4 (v := ?_) rfl (by kernel_rfl) (by kernel_rfl) (by kernel_rfl) (fun _ _ _ h => h) (by rfl) ?_ hS ?_
        rotate_left
        · intro w hSw
          (try dsimp only at hSw)
          go_simp
          try with_reducible rfl
        try simp only [Act.put]
        refine wpAnyL_take 5 (v := ?_) rfl (by kernel_rfl) (by kernel_rfl) (by kernel_rfl) (fun _ _ _ h => h) (by rfl) ?_ hS ?_
        rotate_left
        · intro w hSw
          (try dsimp only at hSw)
          go_simp
          try with_reducible rfl
        try simp only [Act.put]
        refine wpAnyL_take 6 (v := ?_) rfl (by kernel_rfl) (by kernel_rfl) (by kernel_rfl) (fun _ _ _ h => h) (by rfl) ?_ hS ?_
        rotate_left
        · intro w hSw
          (try dsimp only at hSw)
          go_simp
          try with_reducible rfl
        try simp only [Act.put]
        refine wpAnyL_take 7 (v := ?_) rfl (by kernel_rfl) (by kernel_rfl) (by kernel_rfl) (fun _ _ _ h => h) (by rfl) ?_ hS ?_
        rotate_left
        · intro w hSw
          (try dsimp only at hSw)
          go_simp
          try with_reducible rfl
        try simp only [Act.put]
        refine wpAnyL_take 8 (v := ?_) rfl (by kernel_rfl) (by kernel_rfl) (by kernel_rfl) (fun _ _ _ h => h) (by rfl) ?_ hS ?_
        rotate_left
        · intro w hSw
          (try dsimp only at hSw)
          go_simp
          try with_reducible rfl
        try simp only [Act.put]
        refine wpAnyL_one 9 rfl (by kernel_rfl) (by rfl) (fun K hK => ?_)
        go_simp
        go_at_call 16
        refine (good_any x (rnd days 1 7) _ _ (HP.out.below ((Below.refl wr.heap.size wr).drew) (Nat.le_refl _)) HWX.out HRB.out.1 HRB.out.2).mono ?_
        rintro e w1 ⟨y, Ay, ny, cy, rfl, hy, hpy, hb1⟩
        refine hK.out _ _ ?_ (fun hS => ?_)
        · exact ⟨cell_below hb1 (Nat.le_refl _) o4, cell_below hb1 (Nat.le_refl _) o0, cell_below hb1 (Nat.le_refl _) b4, cell_below hb1 (Nat.le_refl _) k0, cell_below hb1 (Nat.le_refl _) k1, cell_below hb1 (Nat.le_refl _) k2, cell_below hb1 (Nat.le_refl _) k3, cell_below hb1 (Nat.le_refl _) k4, cell_below hb1 (Nat.le_refl _) k5, cell_below hb1 (Nat.le_refl _) k6, cell_below hb1 (Nat.le_refl _) k7⟩
        clear hK K
        try simp only [Act.put, List.setIfInBounds_toArray, List.set_cons_zero, List.set_cons_succ]
        refine wpAnyL_one 10 rfl (by kernel_rfl) (by rfl) (fun K hK => ?_)
        go_simp
        have hal := (Below.refl w1.heap.size w1).alloc (Nat.le_refl _) (.cells (custCells y (.slice Ay ny cy)).toArray 41)
        refine hK.out _ _ ?_ (fun hS => ?_)
        · exact ⟨cell_below hal (Nat.le_refl _) (cell_below hb1 (Nat.le_refl _) o4), cell_below hal (Nat.le_refl _) (cell_below hb1 (Nat.le_refl _) o0), cell_below hal (Nat.le_refl _) (cell_below hb1 (Nat.le_refl _) b4), cell_below hal (Nat.le_refl _) (cell_below hb1 (Nat.le_refl _) k0), cell_below hal (Nat.le_refl _) (cell_below hb1 (Nat.le_refl _) k1), cell_below hal (Nat.le_refl _) (cell_below hb1 (Nat.le_refl _) k2), cell_below hal (Nat.le_refl _) (cell_below hb1 (Nat.le_refl _) k3), cell_below hal (Nat.le_refl _) (cell_below hb1 (Nat.le_refl _) k4), cell_below hal (Nat.le_refl _) (cell_below hb1 (Nat.le_refl _) k5), cell_below hal (Nat.le_refl _) (cell_below hb1 (Nat.le_refl _) k6), cell_below hal (Nat.le_refl _) (cell_below hb1 (Nat.le_refl _) k7)⟩
        clear hK K
        try simp only [Act.put, List.setIfInBounds_toArray, List.set_cons_zero, List.set_cons_succ]
        refine wpAnyL_one 11 rfl (by kernel_rfl) (by rfl) (fun K hK => ?_)
        refine wp_append_one w1 _ _ _ (by rfl) (w.heap.size + 1 + 1 + 1) 41 _ 8 80 Tryd.underlying22 cinfo rfl (by decide) (by decide) _ _ _ (own_below HOW.out ((Below.refl wr.heap.size wr).drew.trans hb1) (Nat.le_refl _)) (by rfl) (custCells y (.slice Ay ny cy)) _ (by rfl) rfl rfl hjn (by have := hb1.size; show _ ≤ w1.heap.size; simp at this; omega) ?_
        intro g cap w5 ho5 hg0 hg1 hk5 hz5
        have hb5 := hk5.below (by have := hb1.size; show _ ≤ w1.heap.size; simp at this; omega)
        refine hK.out _ _ ?_ (fun hS => ?_)
        · exact ⟨(hb5.cell (p := ⟨w.heap.size + 1 + 1, 4, none⟩) (by show w.heap.size + 1 + 1 < _; omega)).trans (cell_below hb1 (Nat.le_refl _) o4), (hb5.cell (p := ⟨w.heap.size + 1 + 1, 0, none⟩) (by show w.heap.size + 1 + 1 < _; omega)).trans (cell_below hb1 (Nat.le_refl _) o0), (hb5.cell (p := ⟨w.heap.size, 4, none⟩) (by show w.heap.size < _; omega)).trans (cell_below hb1 (Nat.le_refl _) b4), (hb5.cell (p := ⟨b, o + j * 8, none⟩) (by show b < _; omega)).trans (cell_below hb1 (Nat.le_refl _) k0), (hb5.cell (p := ⟨b, o + j * 8 + 1, none⟩) (by show b < _; omega)).trans (cell_below hb1 (Nat.le_refl _) k1), (hb5.cell (p := ⟨b, o + j * 8 + 2, none⟩) (by show b < _; omega)).trans (cell_below hb1 (Nat.le_refl _) k2), (hb5.cell (p := ⟨b, o + j * 8 + 3, none⟩) (by show b < _; omega)).trans (cell_below hb1 (Nat.le_refl _) k3), (hb5.cell (p := ⟨b, o + j * 8 + 4, none⟩) (by show b < _; omega)).trans (cell_below hb1 (Nat.le_refl _) k4), (hb5.cell (p := ⟨b, o + j * 8 + 5, none⟩) (by show b < _; omega)).trans (cell_below hb1 (Nat.le_refl _) k5), (hb5.cell (p := ⟨b, o + j * 8 + 6, none⟩) (by show b < _; omega)).trans (cell_below hb1 (Nat.le_refl _) k6), (hb5.cell (p := ⟨b, o + j * 8 + 7, none⟩) (by show b < _; omega)).trans (cell_below hb1 (Nat.le_refl _) k7)⟩
        clear hK K
        try simp only [Act.put, List.setIfInBounds_toArray]
        refine wpAnyL_take 12 (v := ?_) rfl (by kernel_rfl) (by kernel_rfl) (by kernel_rfl) (fun _ _ _ h => h) (by rfl) ?_ hS ?_
        rotate_left
        · intro w hSw
          (try dsimp only at hSw)
          go_simp
          try with_reducible rfl
        try simp only [Act.put]
        refine wpAnyL_last 13 rfl (by kernel_rfl) (by kernel_rfl) (by kernel_rfl) (by rfl) (fun K hK => ?_)
        have hbo5 := ((hbo.drew).below hb1 z2).below hb5 (by show w.heap.size + 1 + 1 < _; omega)
        have f5 := hbo5.frozen 4
        have c5 : w5.cell? ⟨w.heap.size + 1 + 1, 4, none⟩ = some v := hbo5.cell 4
        go_simp
        refine hK.out _ _ ?_
        clear hK K
        try simp only [Act.put, List.setIfInBounds_toArray, List.set_cons_zero, List.set_cons_succ]
        go_wp2
        go_roundw
        case rel =>
          refine ⟨j + 1, .slice (some ⟨g, 0, none⟩) (j + 1) cap, by omega, by omega, by go_num, ((hbx.drew.below hb1 z0).below hb5 (by omega)).far (p := ⟨w.heap.size + 1 + 1, 4, none⟩) (by show w.heap.size ≠ w.heap.size + 1 + 1; omega) _,
            ((hbz.drew.below hb1 z1).below hb5 (by omega)).far (p := ⟨w.heap.size + 1 + 1, 4, none⟩) (by show w.heap.size + 1 ≠ w.heap.size + 1 + 1; omega) _, hbo5.set_ 4 _, (fun h => absurd h (by omega)), ?_, ?_⟩
          · rw [List.take_add_one, HX.out, Option.toList_some, List.map_append, List.map_cons, List.map_nil, ← hy.out]
            have hbd : Below wr.heap.size wr w1 := (Below.refl wr.heap.size wr).drew.trans hb1
            exact (OwnCusts.push (by rw [List.length_map, List.length_take, Nat.min_eq_left (by omega)]) HPL.out ho5 (fun i x' qv hx' hq => hk5.own (own_below (HPR.out i x' qv hx' hq) hbd (Nat.le_refl _)) (by decide)) (hk5.own (own_mono hpy (by show _ ≤ wr.heap.size; omega)) (by decide))).set_low (by show w.heap.size + 1 + 1 < _; omega) _
          · exact (((hbel.drew).trans (hb1.mono (by show _ ≤ wr.heap.size; omega))).trans (hb5.mono (by omega))).setCell (p := ⟨w.heap.size + 1 + 1, 4, none⟩) (by show w.heap.size ≤ w.heap.size + 1 + 1; omega) _
        case measure => simp [intOf]; omega
      · have htk : custs.take 6 = custs.take j := by
          by_cases h6 : j < 6
          · rw [List.take_of_length_le (by omega), List.take_of_length_le (by omega)]
          · rw [show j = 6 by omega]
        have HTK := Lib.hid htk
        have HTL := Lib.hid (show (custs.take j).length = j by rw [List.length_take, Nat.min_eq_left hj])
        have HB := Lib.hid hbel
        have hv : ∃ Av cv, v = .slice Av j cv := by
          obtain ⟨pvs, _, ho, _⟩ := hown
          obtain ⟨Av, cv, hv, _⟩ := RS.of_own ho
          rw [List.length_map, HTL.out] at hv
          exact ⟨Av, cv, hv⟩
        obtain ⟨Av, cv, rfl⟩ := hv
        have o4 : wr.cell? ⟨w.heap.size + 1 + 1, 4, none⟩ = some (.slice Av j cv) := hbo.cell 4
        have hend2 : (¬ j < custs.length ∧ j ≤ custs.length) ∨ (j < custs.length ∧ ¬ j < 6) := by omega
        clear hlt htk hbel
        rcases hend2 with ⟨hn1, hn2⟩ | ⟨hn1, hn2⟩
        all_goals
          go_wp2_with fail
          clear b4 o4
        all_goals
          obtain ⟨wo, hwo⟩ : ∃ wo : World, wo = wr := ⟨_, rfl⟩
          subst hwo
          go_loopw [6] (fun iv wr => ∃ (i : Nat) (vd : Value), i ≤ j + 1 ∧ iv = .int .i64 i ∧ Blk wr w.heap.size 25 [.int .i64 days, .int .i64 veh, .int .i64 cap, .int .i64 len, .slice A custs.length c, .slice A1 D.length c1] ∧ Blk wr (w.heap.size + 1) 25 [.int .i64 0, .int .i64 0, .int .i64 0, .int .i64 0, .slice none 0 0, .slice none 0 0] ∧
            Blk wr (w.heap.size + 1 + 1) 25 [.int .i64 (rnd days 1 7), .int .i64 (rnd veh 0 5), .int .i64 (rnd cap 0 40), .int .i64 (rnd len 0 300), .slice Av j cv, vd] ∧ Hid (i = 0 → vd = .slice none 0 0) ∧ OwnCusts (w.heap.size + 1 + 1 + 1) 41 68 wr (.slice Av j cv) ((custs.take j).map fun c => goodC c (rnd days 1 7)) ∧
            OwnRows (w.heap.size + 1 + 1 + 1) 43 3 wr vd ((List.range i).map fun a => goodRow D (j + 1) a) ∧ Below w.heap.size w wr) (fun iv _ => j + 1 - (intOf iv).toNat)
          case atStart => exact ⟨0, .slice none 0 0, by omega, rfl, hbx, hbz, hbo, fun _ => rfl, hown, OwnRows.none_ _ _ _ _, HB.out⟩
          case round =>
            clear hbx hbz hbo hown
            obtain ⟨i, vd, hi, rfl, hbx, hbz, hbo, HVD, hown, hrow, hbel⟩ := hrel
            have z0 := hbx.lt
            have z1 := hbz.lt
            have z2 := hbo.lt
            by_cases hlt : i < j + 1
            · have hmk := fun W => run_make_ints (P := Tryd.prog) Tryd.underlying43 iinfo (j + 1) ((j : Int) + 1) (by omega) (by omega) W
              have hij : decide (i ≤ j) = true := by simp; omega
              go_wp2_with fail
              clear hmk hij
              obtain ⟨wq, hwq⟩ : ∃ wq : World, wq = wr := ⟨_, rfl⟩
              subst hwq
              go_loopw [8] (fun kv wi => ∃ m : Nat, m ≤ j + 1 ∧ kv = .int .i64 m ∧ Blk wi wq.heap.size 3 (((goodRow D (j + 1) i).take m).map (.int .i64) ++ zeros (j + 1 - m)) ∧ Below wq.heap.size wq wi) (fun kv _ => j + 1 - (intOf kv).toNat)
              case atStart => exact ⟨0, Nat.zero_le _, rfl, by simpa using Blk.new wq _ (zeros (j + 1)), (Below.refl _ _).alloc (Nat.le_refl _) _⟩
              case round =>
                obtain ⟨m, hm, rfl, hblk, hbi⟩ := hrel
                have hwi := hbi.size
                by_cases hlm : m < j + 1
                · have hg := goodRow_get D (j + 1) i m hlm
                  by_cases him : i = m
                  · subst him
                    rw [if_pos rfl] at hg
                    have HF := Lib.hid (fill_zero (goodRow_len D (j + 1) i) hg)
                    have HBK := Lib.hid hblk
                    clear hg hblk
                    go_wp2
                    go_roundw
                    case rel => exact ⟨i + 1, by omega, by go_num, by rw [← HF.out]; exact HBK.out, hbi⟩
                    case measure => simp [intOf]; omega
                  · rw [if_neg him] at hg
                    have HG := Lib.hid hg
                    have him1 : ((i : Int) != (m : Int)) = true := by simp; omega
                    have him2 : (i != m) = true := by simp; omega
                    have HXQ := Lib.hid ((HXI.out.below hbel (Nat.le_refl _)).below hbi (Nat.le_refl _))
                    obtain ⟨x0, x1, x2, x3, x4, x5⟩ := (hbx.below hbi z0).cells6
                    have HAW := Lib.hid (arc_wf D i m HDW.out)
                    clear hg
                    go_wp2_with (first
                      | (go_at_call 17; refine (rarc_any _ _ (i : Int) (m : Int) _ HXQ.out).mono ?_; rintro e w2 ⟨rfl, hb2⟩; have hz2 := hb2.size; have hq2 : w2.cell? ⟨wq.heap.size, m, none⟩ = some (.int .i64 0) := ((hblk.below hb2 hblk.lt).cell m).trans (fill_get (goodRow_len D (j + 1) i) hlm); have hf2 := (hblk.below hb2 hblk.lt).frozen m)
                      | (go_at_call 15; ((refine (round_any _ 0 60 _ HAW.out (by omega) (by omega) (by omega)).mono ?_); rintro e w' ⟨rfl, rfl⟩)))
                    go_roundw
                    case rel =>
                      refine ⟨m + 1, by omega, by go_num, ?_, (hbi.trans (hb2.mono hwi)).setCell (p := ⟨wq.heap.size, m, none⟩) (Nat.le_refl _) _⟩
                      have := (hblk.below hb2 hblk.lt).set_ m (.int .i64 (rnd (arc D i m) 0 60))
                      rw [fill_set (goodRow_len D (j + 1) i) HG.out] at this
                      exact this
                    case measure => simp [intOf]; omega
                · obtain rfl : m = j + 1 := by omega
                  have hfull : Blk wr wq.heap.size 3 ((goodRow D (j + 1) i).map (.int .i64)) := by
                    have := hblk
                    rwa [List.take_of_length_le (by rw [goodRow_len]; omega), Nat.sub_self, show zeros 0 = [] from rfl, List.append_nil] at this
                  have o5 : wr.cell? ⟨w.heap.size + 1 + 1, 5, none⟩ = some vd := (hbo.below hbi z2).cell 5
                  obtain ⟨rvs, hro, hrr⟩ := hrow.below hbi (Nat.le_refl _)
                  rw [List.length_map, List.length_range] at hro
                  have hil : i ≤ 1000000000 := by omega
                  have hbase : (w.heap.size + 1 + 1 + 1) ≤ wr.heap.size := by omega
                  have HFU := Lib.hid hfull
                  have HRR := Lib.hid hrr
                  have HBL := Lib.hid hblk
                  clear hfull hrr hblk
                  go_wp2_with (at_builtin; refine wpList_append_one' wr rfl _ _ 23 rfl (w.heap.size + 1 + 1 + 1) 43 _ 1 24 Tryd.underlying23 rinfo rfl (by decide) (by decide) _ _ _ hro rfl [.slice (some ⟨wq.heap.size, 0, none⟩) (j + 1) (j + 1)] _ rfl rfl rfl hil hbase ?_; intro g cap w5 ho5 hg0 hg1 hk5 hz5; have hb5 := hk5.below hbase; have hbo5 := (hbo.below hbi z2).below hb5 (by omega); have f5 := hbo5.frozen 5; have c5 : w5.cell? ⟨w.heap.size + 1 + 1, 5, none⟩ = some vd := hbo5.cell 5)
                  go_roundw
                  case rel =>
                    refine ⟨i + 1, .slice (some ⟨g, 0, none⟩) (i + 1) cap, by omega, by go_num, ((hbx.below hbi z0).below hb5 (by omega)).far (p := ⟨w.heap.size + 1 + 1, 5, none⟩) (by show w.heap.size ≠ w.heap.size + 1 + 1; omega) _,
                      ((hbz.below hbi z1).below hb5 (by omega)).far (p := ⟨w.heap.size + 1 + 1, 5, none⟩) (by show w.heap.size + 1 ≠ w.heap.size + 1 + 1; omega) _, hbo5.set_ 5 _, (fun h => absurd h (by omega)),
                      ((hown.below hbi (Nat.le_refl _)).keep hk5 (by decide) (by decide)).set_low (by show w.heap.size + 1 + 1 < _; omega) _, ?_, ?_⟩
                    · rw [List.range_succ, List.map_append, List.map_cons, List.map_nil]
                      refine (OwnRows.push (by simp) (by have := hro.1; omega) ho5 (fun a r qv hr hq => hk5.own (HRR.out a r qv hr hq) (by decide)) ?_).set_low (by show w.heap.size + 1 + 1 < _; omega) _
                      rw [goodRow_len]
                      exact hk5.own (Blk.own HFU.out (by omega) (by simp [goodRow_len]) (by simp only [maxLen]; omega)) (by decide)
                    · exact ((hbel.trans (hbi.mono (by omega))).trans (hb5.mono (by omega))).setCell (p := ⟨w.heap.size + 1 + 1, 5, none⟩) (by show w.heap.size ≤ w.heap.size + 1 + 1; omega) _
                  case measure => simp [intOf]; omega
            · obtain rfl : i = j + 1 := by omega
              have hvd : ∃ Ad cd, vd = .slice Ad (j + 1) cd := by
                obtain ⟨rvs, hro, _⟩ := hrow
                obtain ⟨Ad, cd, hv, _⟩ := RS.of_own hro
                rw [List.length_map, List.length_range] at hv
                exact ⟨Ad, cd, hv⟩
              obtain ⟨Ad, cd, rfl⟩ := hvd
              obtain ⟨q0, q1, q2, q3, q4, q5⟩ := hbo.cells6
              obtain ⟨y0, y1, y2, y3, y4, y5⟩ := hbz.cells6
              obtain ⟨e0, e1, e2, e3, e4, e5⟩ := hbz.free6
              go_wp2
              refine bodyPost_ret (results_blk rfl _ _ (w.heap.size + 1) 25 [.int .i64 (rnd days 1 7), .int .i64 (rnd veh 0 5), .int .i64 (rnd cap 0 40), .int .i64 (rnd len 0 300), .slice Av j cv, .slice Ad (j + 1) cd] _ rfl ?hW Tryd.underlying25 rfl isize) rfl ⟨_, rfl, ?_, ?_⟩
              case hW => exact hbz.set6
              · refine ⟨.slice Av j cv, .slice Ad (j + 1) cd, rfl, ?_, ?_⟩
                · have e : (goodP ⟨days, veh, cap, len, custs, D⟩).custs = (custs.take j).map fun c => goodC c (rnd days 1 7) := by
                    show (custs.take 6).map _ = _
                    rw [HTK.out]
                  rw [e]
                  exact (hown.low6 (by omega)).mono (by omega)
                · have e : (goodP ⟨days, veh, cap, len, custs, D⟩).dist = (List.range (j + 1)).map fun a => goodRow D (j + 1) a := by
                    show (List.range (((custs.take 6).map _).length + 1)).map _ = _
                    rw [List.length_map, HTK.out, HTL.out]
                  rw [e]
                  exact (hrow.low6 (by omega)).mono (by omega)
              · exact below_set6 hbel (by omega)

end Go.Proofs.YtigljnnjamdcnaaDoor
