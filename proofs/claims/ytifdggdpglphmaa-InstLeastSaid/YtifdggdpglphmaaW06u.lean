/- The walk of the statement InstLeast. -/
import Derived.Test.YtifdggdpglphmaaW06t
import Derived.Test.YtifdggdpglphmaaP06f
namespace Go.Proofs.Ytifdggdpglphmaa
open Go.RowKit P06

/-- What is known of the customers that are taken. -/
def Taken (D : List (List Int)) (n : Nat) (O : List Int) (come leave last : Int) : Prop :=
  (∀ c ∈ O, 0 ≤ c ∧ c + 1 ≤ n) ∧ apartFrom (-1) O ∧ O.getLast?.getD (-1) = last ∧ sumOf (fun c => minTo D c (n + 1)) O = come ∧ sumOf (fun c => minFrom D c (n + 1)) O = leave
theorem Taken.snoc {D : List (List Int)} {n : Nat} {O : List Int} {come leave last c : Int} (h : Taken D n O come leave last) (h0 : 0 ≤ c) (h1 : c < n) (hne : c ≠ last) :
    Taken D n (O ++ [c]) (come + minTo D c (n + 1)) (leave + minFrom D c (n + 1)) c := by
  obtain ⟨g1, g2, g3, g4, g5⟩ := h
  refine ⟨fun d hd => ?_, apartFrom_snoc O (-1) c g2 (by rw [g3]; exact hne), by simp, by rw [sumOf_append, g4]; simp [sumOf], by rw [sumOf_append, g5]; simp [sumOf]⟩
  rcases List.mem_append.1 hd with h | h
  · exact g1 d h
  · obtain rfl : d = c := by simpa using h
    omega

set_option maxHeartbeats 2000000 in
theorem instLeast_any (v lv : Value) (x : Inst) (l : List Int) (w : World) (hx : RInst w v x) (hwf : x.wf) (hl : RInts w .i64 lv l) (hlw : ∀ z ∈ l, W64 z) :
    Calls Try.prog 7 #[v, lv] w fun e w' => e = .returned (.bool true) ∧ Below w.heap.size w w' := by
  have HX := Lib.hid hx
  have HW := Lib.hid hwf
  obtain ⟨cv, dv, rfl, ⟨A1, c1, rfl, -⟩, ⟨A2, c2, rfl, -⟩⟩ := hx
  obtain ⟨A, c, rfl, hc1, hc2, hcell⟩ := hl.open_
  have HC := Lib.hid hcell
  have HZ := Lib.hid hlw
  clear hcell hlw hl hwf
  go_enter Try.func7, Try.ntmps7
  go_wp2_with fail
  refine (goodI_any _ _ _ (HX.out.below (below_al (Below.refl _ _) _) (Nat.le_refl _)) HW.out).mono ?_
  rintro e w2 ⟨v2, rfl, hown, hb2⟩
  have k2 := below_nx (below_al (Below.refl w.heap.size w) _) hb2
  have hyr := hown.reads
  obtain ⟨y, HY⟩ : ∃ y, y = goodP x := ⟨_, rfl⟩
  have HARC := Lib.hid (goodP_arcs x)
  have hy6 := goodP_custs x
  rw [← HY] at hyr HARC hy6
  clear HY hown HX HW
  have HYr := Lib.hid hyr
  obtain ⟨cv3, dv3, rfl, ⟨A3, c3, rfl, -⟩, ⟨A4, c4, rfl, -⟩⟩ := hyr
  go_wp2_with fail
  refine (cheap_any _ y _ (HYr.out.below (below_al (Below.refl _ _) _) (Nat.le_refl _)) (by omega)).mono ?_
  rintro e w3 ⟨tv, fv, rfl, htv, hfv, hb3⟩
  have hyb := (Blk.newAt w2 25 [.int .i64 y.days, .int .i64 y.veh, .int .i64 y.cap, .int .i64 y.len, .slice A3 y.custs.length c3, .slice A4 y.dist.length c4] rfl).below hb3 (by simp)
  have k3 := below_nx (below_al k2 _) hb3
  have HY3 := Lib.hid (HYr.out.below ((below_al (Below.refl _ _) _).trans (hb3.mono (by simp))) (Nat.le_refl _))
  have ht1 := toL_len y.dist y.custs.length y.custs.length
  have hf1 := fromL_len y.dist y.custs.length y.custs.length
  obtain ⟨At, ct, rfl, -, -, htc⟩ := htv.open_
  obtain ⟨Af, cf, rfl, -, -, hfc⟩ := hfv.open_
  rw [ht1, hf1]
  have HTC := Lib.hid htc
  have HFC := Lib.hid hfc
  clear htc hfc htv hfv ht1 hf1
  have k3b := k3
  have HSZ : Hid (w2.heap.size < w3.heap.size) := hyb.lt
  obtain ⟨q0, q1, q2, q3, q4, q5⟩ := hyb.cells6
  have hnn : ((y.custs.length : Int) != (y.custs.length : Int)) = false := by simp
  go_wp2_with fail
  clear q0 q1 q2 q3 q4 q5 hnn
  go_loopw [9, 10, 11, 12, 13] (fun ov cv fv av iv wr => ∃ (k : Nat) (O : List Int) (come leave last : Int), k ≤ l.length ∧ k ≤ 8 ∧ iv = .int .i64 k ∧ cv = .int .i64 come ∧ fv = .int .i64 leave ∧ av = .int .i64 last ∧ True ∧
      wr.ownsRow w3.heap.size 3 1 ov O.length (O.map (Value.int .i64)) ∧ Hid (Taken y.dist y.custs.length O come leave last) ∧ O.length ≤ k ∧ 0 ≤ come ∧ come ≤ k * 2147483648 ∧ 0 ≤ leave ∧ leave ≤ k * 2147483648 ∧
      Blk wr w2.heap.size 25 [.int .i64 y.days, .int .i64 y.veh, .int .i64 y.cap, .int .i64 y.len, .slice A3 y.custs.length c3, .slice A4 y.dist.length c4] ∧ Below w3.heap.size w3 wr) (fun _ _ _ _ iv _ => 8 - (intOf iv).toNat)
  case atStart => exact ⟨0, [], 0, 0, -1, Nat.zero_le _, by omega, rfl, rfl, rfl, rfl, trivial, World.ownsRow_nil _ _ _ _, ⟨by simp, trivial, rfl, rfl, rfl⟩, Nat.le_refl _, by omega, by omega, by omega, by omega, hyb, Below.refl _ _⟩
  case round =>
    clear hyb
    obtain ⟨k, O, come, leave, last, hk, hk8, rfl, rfl, rfl, rfl, -, hown, HO, hOk, ha0, ha1, hb0, hb1, hyb, hbel⟩ := hrel
    by_cases hlt : k < l.length ∧ k < 8
    · obtain ⟨hlt, hlt8⟩ := hlt
      obtain ⟨z, hz⟩ := some_of_lt hlt
      obtain ⟨b0, o0, rfl, hb, hk0⟩ := HC.out k z hz
      obtain ⟨hz1, hz2⟩ := HZ.out z (List.mem_of_getElem? hz)
      replace hk0 := (k3.cell (p := ⟨b0, o0 + k, none⟩) hb).trans hk0
      replace hk0 := (hbel.cell (p := ⟨b0, o0 + k, none⟩) (Nat.lt_of_lt_of_le hb k3.size)).trans hk0
      clear hz
      by_cases hskip : z < 0 ∨ (y.custs.length : Int) ≤ z ∨ z = last
      · have h3 : (z < 0) ∨ (0 ≤ z ∧ (y.custs.length : Int) ≤ z) ∨ (0 ≤ z ∧ z < (y.custs.length : Int) ∧ (z == last) = true) := by
          by_cases h1 : z < 0
          · exact .inl h1
          · by_cases h2 : (y.custs.length : Int) ≤ z
            · exact .inr (.inl ⟨by omega, h2⟩)
            · exact .inr (.inr ⟨by omega, by omega, beq_iff_eq.2 (by omega)⟩)
        clear hskip
        rcases h3 with h1 | ⟨h1, h2⟩ | ⟨h1, h2, h3⟩
        all_goals
          go_wp2
          go_roundw
          case rel => exact ⟨k + 1, O, come, leave, last, by omega, by omega, by go_num, rfl, rfl, rfl, trivial, hown, HO, by omega, ha0, by omega, hb0, by omega, hyb, hbel⟩
          case measure => simp [intOf]; omega
      · have hne : (z == last) = false := by rw [beq_eq_false_iff_ne]; omega
        have hz3 : 0 ≤ z := by omega
        have hz4 : z < (y.custs.length : Int) := by omega
        have HS := Lib.hid (HO.out.snoc hz3 hz4 (by omega))
        obtain ⟨zn, rfl⟩ := Int.eq_ofNat_of_zero_le hz3
        obtain ⟨bt, ot, rfl, hbt, hkt⟩ := HTC.out zn _ (toL_get _ _ _ _ (by omega))
        obtain ⟨bf, of_, rfl, hbf, hkf⟩ := HFC.out zn _ (fromL_get _ _ _ _ (by omega))
        replace hkt := (hbel.cell (p := ⟨bt, ot + zn, none⟩) hbt).trans hkt
        replace hkf := (hbel.cell (p := ⟨bf, of_ + zn, none⟩) hbf).trans hkf
        have hm1 := minTo_bd y.dist zn HARC.out (y.custs.length + 1)
        have hm2 := minFrom_bd y.dist zn HARC.out (y.custs.length + 1)
        generalize minTo y.dist zn (y.custs.length + 1) = mt at hkt hm1 HS
        generalize minFrom y.dist zn (y.custs.length + 1) = mf at hkf hm2 HS
        have hO2 : O.length ≤ 1000000000 := by omega
        have hbase := hbel.size
        clear hskip
        go_wp2_with (at_builtin; refine wpList_append_one _ rfl _ _ 33 rfl w3.heap.size 3 _ 1 8 Try.underlying33 iinfo rfl (by decide) (by decide) _ _ _ hown rfl [.int .i64 zn] _ rfl rfl rfl hO2 hbase ?_; intro v1 w1 hown1 hb1' hz1'; replace hkt := (hb1'.cell (p := ⟨bt, ot + zn, none⟩) hbt).trans hkt; replace hkf := (hb1'.cell (p := ⟨bf, of_ + zn, none⟩) hbf).trans hkf; have hbt1 := Nat.lt_of_lt_of_le hbt (Nat.le_trans hbase (Nat.le_of_lt hz1')); have hbf1 := Nat.lt_of_lt_of_le hbf (Nat.le_trans hbase (Nat.le_of_lt hz1')))
        go_roundw
        case rel => exact ⟨k + 1, O ++ [(zn : Int)], come + mt, leave + mf, zn, by omega, by omega, by go_num, rfl, rfl, rfl, trivial, by simpa using hown1, HS, by simp; omega, by omega, by push_cast; omega, by omega, by push_cast; omega, hyb.below hb1' (by have := k3b.size; have := HSZ.out; omega), hbel.trans hb1'⟩
        case measure => simp [intOf]; omega
    · have hstop : (k : Int) < l.length → (8 : Int) ≤ k := by omega
      have hcase : ((l.length : Int) ≤ k) ∨ ((k : Int) < l.length ∧ (8 : Int) ≤ k) := by omega
      have HL := Lib.hid (RS.of_own hown : RInts wr .i64 _ O)
      have HYR := Lib.hid (HY3.out.below hbel (Nat.le_refl _))
      obtain ⟨g1, g2, _, g4, g5⟩ := HO.out
      have hw1 := way_come y.dist y.custs.length HARC.out O g1 g2
      have hw2 := way_leave y.dist y.custs.length HARC.out O g1 g2
      rw [g4] at hw1
      rw [g5] at hw2
      have HG := Lib.hid g1
      obtain ⟨Ao, co, rfl, -⟩ := RInts.open_ HL.out
      obtain ⟨q0, q1, q2, q3, q4, q5⟩ := hyb.cells6
      clear hlt hstop g1 g2 g4 g5 hown
      rcases hcase with hc | ⟨hc, hc'⟩
      all_goals
        go_wp2_with fail
        refine (way_any _ _ y O _ HYR.out HL.out HARC.out (by omega) (fun c hc => by have := HG.out c hc; omega)).mono ?_
        rintro e w4 ⟨rfl, hb4⟩
        generalize way y.dist O = W at hw1 hw2 ⊢
        go_wp2_with fail
        refine (lives_any _).mono ?_
        rintro e w5 ⟨rfl, hb5⟩
        go_wp2
        go_ret
        exact ⟨rfl, below_nx (below_nx (below_nx k3 hbel) hb4) hb5⟩

end Go.Proofs.Ytifdggdpglphmaa
