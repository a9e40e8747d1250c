/- The walk of Print. -/
import Derived.Test.YtokdneolgolkbaaDoorW08c
import Derived.Test.YtokdneolgolkbaaDoorW08f
import Derived.Test.YtokdneolgolkbaaDoorMem5
import Derived.Test.YtokdneolgolkbaaDoorOrdR
import Derived.Test.YtokdneolgolkbaaDoorP08e
namespace Go.Proofs.YtokdneolgolkbaaDoor
open Go.RowKit Go.Shelf P08 P05
attribute [local go_sem] Oper.semAt_some

theorem strinfo8 : (Tryd.prog.info? 9).map (fun i => (i.zero, i.size, i.bytes)) = some (some (.string ByteArray.empty), 1, 16) := by kernel_rfl
theorem told_any (n : Int) (w : World) : Calls Tryd.prog 11 #[.int .i64 n] w fun e w' => e = .returned (.bool (toldI n)) ∧ w' = w := by
  by_cases h0 : 0 ≤ n
  · by_cases h1 : n ≤ 1000000000000000000
    · have H : Hid (toldI n = true) := by show toldI n = true; simp [toldI, h0, h1]
      go_enter Tryd.func11, Tryd.ntmps11
      go_wp2
      go_ret
      exact ⟨congrArg (fun b => Ending.returned (.bool b)) H.out.symm, rfl⟩
    · have H : Hid (toldI n = false) := by show toldI n = false; simp [toldI, h1]
      have h1 : 1000000000000000000 < n := by omega
      go_enter Tryd.func11, Tryd.ntmps11
      go_wp2
      go_ret
      exact ⟨congrArg (fun b => Ending.returned (.bool b)) H.out.symm, rfl⟩
  · have H : Hid (toldI n = false) := by show toldI n = false; simp [toldI, h0]
    have h0 : n < 0 := by omega
    go_enter Tryd.func11, Tryd.ntmps11
    go_wp2
    go_ret
    exact ⟨congrArg (fun b => Ending.returned (.bool b)) H.out.symm, rfl⟩

def allT (l : List (Nat × Stp)) : Bool := l.all fun x => toldS x.2
theorem allT_snoc (l : List (Nat × Stp)) (x : Nat × Stp) : allT (l ++ [x]) = (allT l && toldS x.2) := by unfold allT; rw [List.all_append]; simp
theorem allT_pre {l m : List (Nat × Stp)} (h : l <+: m) (hf : allT l = false) : allT m = false := by
  obtain ⟨r, rfl⟩ := h
  unfold allT at hf ⊢
  rw [List.all_append, hf, Bool.false_and]
def printS (p : Pl) : List UInt8 := if toldP p = true then planText p else []
def printE (p : Pl) : Int := if toldP p = true then 0 else 1

set_option maxRecDepth 100000 in
set_option maxHeartbeats 4000000 in
theorem print8_any (v : Value) (p : Pl) (w : World) (hp : RPlan w v p) (hsm : Small p) (hwf : Wf p) :
    Calls Tryd.prog 5 #[v] w fun e w' => e = .returned (.tuple #[bstr (printS p), .int .i64 (printE p)]) ∧ Below w.heap.size w w' := by
  obtain ⟨dv, rfl, hd⟩ := hp
  have HD := Lib.hid hd
  obtain ⟨A, c, rfl, h1, h2, hcs⟩ := RDays.open_ hd
  have HCS := Lib.hid hcs
  clear hcs
  have HSM := Lib.hid hsm
  have HWF := Lib.hid hwf
  clear hd hsm hwf
  refine (callsIn_wide (n := 4)).1 ?_
  refine callsIn_of_wp_marks Tryd.func5 rfl trivial ?_ rfl
  simp only [Tryd.ntmps5, List.size_toArray, List.length_cons, List.length_nil, Nat.reduceAdd, Nat.reduceSub, Array.replicate_succ, Array.replicate_zero, List.push_toArray, List.append_toArray, List.nil_append, List.cons_append]
  gi_wp2_with (refine ⟨trivial, ?_⟩; gi_at_call 10; refine (stops_in _ _ _ _ _).mono ?_; rintro e w' ⟨rfl, rfl⟩)
  have bX := (((Blk.new w 24 [.slice A p.length c]).alloc (.cells #[.string ⟨#[]⟩] 9)).alloc (.cells #[.int .i64 0] 26)).alloc (.cells #[.slice A p.length c] 24)
  have bS := ((Blk.newAt' (w.alloc (.cells #[.slice A p.length c] 24)) 9 [.string ⟨#[]⟩] (g := w.heap.size + 1) (by simp)).alloc (.cells #[.int .i64 0] 26)).alloc (.cells #[.slice A p.length c] 24)
  have bE := (Blk.newAt' ((w.alloc (.cells #[.slice A p.length c] 24)).alloc (.cells #[.string ⟨#[]⟩] 9)) 26 [.int .i64 0] (g := w.heap.size + 1 + 1) (by simp)).alloc (.cells #[.slice A p.length c] 24)
  have bP : ((((w.alloc (.cells #[.slice A p.length c] 24)).alloc (.cells #[.string ⟨#[]⟩] 9)).alloc (.cells #[.int .i64 0] 26)).alloc (.cells #[.slice A p.length c] 24)).cell? ⟨w.heap.size + 1 + 1 + 1, 0, none⟩ = some (.slice A p.length c) :=
    (Blk.newAt' (((w.alloc (.cells #[.slice A p.length c] 24)).alloc (.cells #[.string ⟨#[]⟩] 9)).alloc (.cells #[.int .i64 0] 26)) 24 [.slice A p.length c] (g := w.heap.size + 1 + 1 + 1) (by simp)).cell 0
  have hB0 := below_al8 (below_al8 (below_al8 (below_al8 (Below.refl w.heap.size w) (.cells #[.slice A p.length c] 24)) (.cells #[.string ⟨#[]⟩] 9)) (.cells #[.int .i64 0] 26)) (.cells #[.slice A p.length c] 24)
  have hsz : ((((w.alloc (.cells #[.slice A p.length c] 24)).alloc (.cells #[.string ⟨#[]⟩] 9)).alloc (.cells #[.int .i64 0] 26)).alloc (.cells #[.slice A p.length c] 24)).heap.size = w.heap.size + 4 := by simp
  revert bX bS bE bP hB0 hsz
  rename_i Q1 K1 hK1
  replace hK1 := fun a w h => hK1 a w (wpIn_wide.2 h)
  generalize ((((w.alloc (.cells #[.slice A p.length c] 24)).alloc (.cells #[.string ⟨#[]⟩] 9)).alloc (.cells #[.int .i64 0] 26)).alloc (.cells #[.slice A p.length c] 24)) = W0
  intro bX bS bE bP hB0 hsz
  refine wpIn_rangeFunc_ownH rfl (by omega) (gf := 21) (lb := #[.pointer (some ⟨w.heap.size + 1 + 1 + 1, 0, none⟩)]) rfl trivial (enters_of Tryd.func21 (by kernel_rfl) rfl)
    (stops_stops 3 (by omega) (w.heap.size + 1 + 1 + 1) w (.slice A p.length c) p HD.out W0 hB0 (by omega) bP) belowK_t (belowK_b (by omega)) (Below.refl _ _) (fun _ => rfl)
    (fun pre W => (((allT pre = true ∧ Blk W w.heap.size 24 [.slice A p.length c]) ∧ Blk W (w.heap.size + 1) 9 [.string ⟨#[]⟩]) ∧ Blk W (w.heap.size + 1 + 1) 26 [.int .i64 0]) ∧ Below w.heap.size w W)
    (fun cd pre W => ((((cd = .ret ∧ allT pre = false) ∧ Blk W w.heap.size 24 [.slice A p.length c]) ∧ Blk W (w.heap.size + 1) 9 [.string ⟨#[]⟩]) ∧ Blk W (w.heap.size + 1 + 1) 26 [.int .i64 1]) ∧ Below w.heap.size w W)
    (OwnFrom.and (OwnFrom.and (OwnFrom.and (OwnFrom.and (ownFrom_pure _ _) (blk_ownF _ _ _ _)) (blk_ownF _ _ _ _)) (blk_ownF _ _ _ _)) (ownFrom_below (Nat.le_refl _) (by omega)))
    (fun cd => OwnFrom.and (OwnFrom.and (OwnFrom.and (OwnFrom.and (ownFrom_pure _ _) (blk_ownF _ _ _ _)) (blk_ownF _ _ _ _)) (blk_ownF _ _ _ _)) (ownFrom_below (Nat.le_refl _) (by omega)))
    ⟨⟨⟨⟨rfl, bX⟩, bS⟩, bE⟩, hB0⟩
    (fun x a' W => ∃ Bx, w.heap.size + 1 + 1 < Bx ∧ Blk W Bx 48 [.int .i64 x.2.1, .int .i64 x.2.2, .int .i64 (x.1 : Int)] ∧ a' = { tmps := #[.agg #[.slice A p.length c], .pointer (some ⟨w.heap.size, 0, none⟩), .pointer (some ⟨w.heap.size + 1, 0, none⟩), .pointer (some ⟨w.heap.size + 1 + 1, 0, none⟩), .pointer (some ⟨Bx, 0, none⟩), undef, undef, undef, undef, undef, undef, undef, undef, .agg #[.slice A p.length c], .func (.func 21) #[] #[.pointer (some ⟨w.heap.size + 1 + 1 + 1, 0, none⟩)], .agg #[.int .i64 x.2.1, .int .i64 x.2.2, .int .i64 (x.1 : Int)], undef, undef, undef, undef, undef, undef, undef, undef, undef, undef, undef, undef, undef, undef, undef, undef, undef, undef, undef, undef, undef, undef, undef, undef, undef, undef, undef, undef, undef, undef, undef, undef, undef, undef, undef, undef, undef, undef, undef, undef, undef, undef, undef, undef, undef, undef, undef, undef, undef, undef, undef, undef, undef, undef, undef, undef, undef, undef, undef, undef, undef, undef, undef, undef, undef, undef, undef, undef], defers := [] })
    (fun x a' _ X Y row hs hg hr => by obtain ⟨Bx, e1, e2, e3⟩ := hs; exact ⟨Bx, e1, e2.ofGrown hg (fun r e => (hr r e).2), e3⟩)
    ?assign ?body ?done ?stop
  case assign =>
    rintro l pre ⟨dy, cx, qx⟩ W K ⟨⟨⟨⟨hal, hbx⟩, hbs⟩, hbe⟩, hB⟩ hK
    gi_wp2
    exact hK _ _ ((KeepsOthers.alloc _ _).from _) ((Below.refl _ W).alloc hB.size _) ⟨⟨⟨⟨hal, hbx.alloc _⟩, hbs.alloc _⟩, hbe.alloc _⟩, hB.alloc hB.size _⟩ ⟨W.heap.size, hbe.lt, Blk.new W _ _, rfl⟩
  case body =>
    rintro l pre ⟨dy, cx, qx⟩ a' W hl ⟨r, hr⟩ ⟨⟨⟨⟨hal, hbx⟩, hbs⟩, hbe⟩, hB⟩ ⟨Bx, hBx, bX1, rfl⟩ hlen
    have c3 : W.cell? ⟨Bx, 0, none⟩ = some (.int .i64 cx) := bX1.cell 0
    have c4 : W.cell? ⟨Bx, 1, none⟩ = some (.int .i64 qx) := bX1.cell 1
    have k1 : W.cell? ⟨w.heap.size + 1, 0, none⟩ = some (.string ⟨#[]⟩) := hbs.cell 0
    have k2 : W.cell? ⟨w.heap.size + 1 + 1, 0, none⟩ = some (.int .i64 0) := hbe.cell 0
    have f1 := hbs.frozen 0
    have f2 := hbe.frozen 0
    have hBl := bX1.lt
    have hle := hB.size
    have HAS := Lib.hid (allT_snoc pre (dy, cx, qx))
    have HAL := Lib.hid hal
    clear hal
    by_cases t1 : toldI cx = true
    · by_cases t2 : toldI qx = true
      · have HN : Hid (allT (pre ++ [(dy, cx, qx)]) = true) := by
          show _ = _
          rw [HAS.out, HAL.out]
          simp [toldS, t1, t2]
        gi_wp2_with (refine ⟨trivial, ?_⟩; gi_at_call 11; refine (CallsIn.inRound l (callsIn_wide.2 (told_any _ _))).mono ?_; rintro e w' ⟨rfl, rfl⟩)
        exact ⟨KeepsFrom.refl _ _, Below.refl _ _, ⟨⟨⟨HN.out, hbx⟩, hbs⟩, hbe⟩, hB⟩
      · replace t2 : toldI qx = false := by simpa using t2
        have HN : Hid (allT (pre ++ [(dy, cx, qx)]) = false) := by
          show _ = _
          rw [HAS.out]
          simp [toldS, t2]
        gi_wp2_with (refine ⟨trivial, ?_⟩; gi_at_call 11; refine (CallsIn.inRound l (callsIn_wide.2 (told_any _ _))).mono ?_; rintro e w' ⟨rfl, rfl⟩)
        exact ⟨((KeepsOthers.setCell _ _ _).trans (KeepsOthers.setCell _ _ _)).from _, ⟨⟨⟨⟨rfl, HN.out⟩, (hbx.far (p := ⟨w.heap.size + 1, 0, none⟩) (by show w.heap.size ≠ w.heap.size + 1; omega) _).far (p := ⟨w.heap.size + 1 + 1, 0, none⟩) (by show w.heap.size ≠ w.heap.size + 1 + 1; omega) _⟩, (hbs.set_ 0 _).far (p := ⟨w.heap.size + 1 + 1, 0, none⟩) (by show w.heap.size + 1 ≠ w.heap.size + 1 + 1; omega) _⟩, (hbe.far (p := ⟨w.heap.size + 1, 0, none⟩) (by show w.heap.size + 1 + 1 ≠ w.heap.size + 1; omega) _).set_ 0 _⟩,
          (hB.setCell (p := ⟨w.heap.size + 1, 0, none⟩) (by show w.heap.size ≤ w.heap.size + 1; omega) _).setCell (p := ⟨w.heap.size + 1 + 1, 0, none⟩) (by show w.heap.size ≤ w.heap.size + 1 + 1; omega) _⟩
    · replace t1 : toldI cx = false := by simpa using t1
      have HN : Hid (allT (pre ++ [(dy, cx, qx)]) = false) := by
        show _ = _
        rw [HAS.out]
        simp [toldS, t1]
      gi_wp2_with (refine ⟨trivial, ?_⟩; gi_at_call 11; refine (CallsIn.inRound l (callsIn_wide.2 (told_any _ _))).mono ?_; rintro e w' ⟨rfl, rfl⟩)
      refine ⟨trivial, ?_⟩
      gi_wp2
      exact ⟨((KeepsOthers.setCell _ _ _).trans (KeepsOthers.setCell _ _ _)).from _, ⟨⟨⟨⟨rfl, HN.out⟩, (hbx.far (p := ⟨w.heap.size + 1, 0, none⟩) (by show w.heap.size ≠ w.heap.size + 1; omega) _).far (p := ⟨w.heap.size + 1 + 1, 0, none⟩) (by show w.heap.size ≠ w.heap.size + 1 + 1; omega) _⟩, (hbs.set_ 0 _).far (p := ⟨w.heap.size + 1 + 1, 0, none⟩) (by show w.heap.size + 1 ≠ w.heap.size + 1 + 1; omega) _⟩, (hbe.far (p := ⟨w.heap.size + 1, 0, none⟩) (by show w.heap.size + 1 + 1 ≠ w.heap.size + 1; omega) _).set_ 0 _⟩,
          (hB.setCell (p := ⟨w.heap.size + 1, 0, none⟩) (by show w.heap.size ≤ w.heap.size + 1; omega) _).setCell (p := ⟨w.heap.size + 1 + 1, 0, none⟩) (by show w.heap.size ≤ w.heap.size + 1 + 1; omega) _⟩
  case stop =>
    rintro D cd pre W hD hpre ⟨⟨⟨⟨⟨rfl, hal⟩, hbx⟩, hbs⟩, hbe⟩, hB⟩ hK
    have HF : Hid (toldP p = false) := allT_pre hpre hal
    have k1 : W.cell? ⟨w.heap.size + 1, 0, none⟩ = some (.string ⟨#[]⟩) := hbs.cell 0
    have k2 : W.cell? ⟨w.heap.size + 1 + 1, 0, none⟩ = some (.int .i64 1) := hbe.cell 0
    clear hal
    gi_wp2
    refine ⟨by simp, .inl ⟨_, _, rfl, run_takeDeferred hK, ?_⟩⟩
    have c1 := cell_kept k1 (grownBy_putObj' _ D (.deferred none)) (fun r e => by cases e; exact ⟨_, hK, rfl⟩)
    have c2 := cell_kept k2 (grownBy_putObj' _ D (.deferred none)) (fun r e => by cases e; exact ⟨_, hK, rfl⟩)
    refine ⟨.tuple #[bstr [], .int .i64 1], ?_, ?_, below_put hB (Nat.le_refl _) (by omega) hK⟩
    · simp [results, Tryd.f5, go_sem, c1, c2, bstr]
    · unfold printS printE
      rw [HF.out]
      rfl
  case done =>
    rintro D ys W hD rfl ⟨⟨⟨⟨hal, hbx⟩, hbs⟩, hbe⟩, hB⟩ hK
    have HT : Hid (toldP p = true) := hal
    clear hal
    refine hK1 _ _ ?_
    have hDw : w.heap.size + 4 ≤ D := by omega
    clear hK1 bX bS bE bP hB0 hD hsz
    have hz0 := hbx.lt
    have k0 : W.cell? ⟨w.heap.size, 0, none⟩ = some (.slice A p.length c) := hbx.cell 0
    have hpl := HSM.out.days
    have hDl : D < W.heap.size := (Array.getElem?_eq_some_iff.1 hK).1
    have hle := hB.size
    go_wp2_with fail
    refine (dec_any _ _ (by omega) (by omega)).mono ?_
    rintro e w2 ⟨s2, rfl, HS2, hb2⟩
    have q2 : Below W.heap.size W w2 := below_nx8 (below_al8 (Below.refl _ _) _) hb2
    have bb2 : BldAt W.heap.size [] w2 := (BldAt.new W).below hb2 (Nat.le_refl _)
    go_wp2_with fail
    refine (ln_any [[112, 108, 97, 110], decI p.length] _ _ (two_words (Blk.new w2 _ _) rfl HS2.out) (by simp) (fun x hx => Nat.le_trans (head_len (by decide) (by omega) x hx) (by omega))).mono ?_
    rintro e w3 ⟨s3, rfl, HS3, hb3⟩
    have a2 := (Below.refl w2.heap.size w2).alloc (Nat.le_refl _) (.cells #[.string ⟨#[112, 108, 97, 110]⟩, .string s2] 9)
    have q3 : Below W.heap.size W w3 := below_nx8 (q2.trans (a2.mono q2.size)) hb3
    have bb3 : BldAt W.heap.size [] w3 := (bb2.below a2 (Nat.le_refl _)).below hb3 (Nat.le_refl _)
    have hlh : (headText p).length ≤ 100 := by have := lineP_len (l := [[112, 108, 97, 110], decI p.length]) (head_len (by decide) (by omega)); exact Nat.le_trans this (by simp)
    go_wp2_with fail
    refine (write_any W.heap.size [] (headText p) s3 w3 bb3 HS3.out (by simp; omega)).mono ?_
    rintro e w4 ⟨rfl, bb4, hb4, hk4⟩
    have q4 : Below W.heap.size W w4 := q3.trans hb4
    have k4 : w4.cell? ⟨w.heap.size, 0, none⟩ = some (.slice A p.length c) := cell_below q4 (Nat.le_refl _) k0
    have HT0 : Hid ([] ++ headText p = textTo p 0) := by show _ = _; rw [textTo_zero]; rfl
    have hlh2 : ([] ++ headText p).length ≤ 100 := hlh
    generalize [] ++ headText p = T0 at bb4 HT0 hlh2
    clear hlh a2 q2 q3 bb2 bb3 HS2 HS3 hb2 hb3 hb4
    go_wp2_with fail
    go_loopw [38] (fun iv wr => ∃ (k : Nat) (T : List UInt8), k ≤ p.length ∧ iv = .int .i64 k ∧ BldAt W.heap.size T wr ∧ Below W.heap.size W wr ∧ Hid (T = textTo p k) ∧ T.length ≤ 1000 + k * 10000) (fun iv _ => p.length - (intOf iv).toNat)
    case atStart => exact ⟨0, T0, Nat.zero_le _, rfl, bb4, q4, HT0, by omega⟩
    case round =>
      clear bb4 q4 HT0 hlh2 k4
      obtain ⟨k, T, hk, rfl, hbd, hbel, HT1, hTl⟩ := hrel
      by_cases hlt : k < p.length
      · obtain ⟨d, hd⟩ := some_of_lt hlt
        obtain ⟨b, o, rfl, hb, tv, htv, hcell⟩ := HCS.out k d hd
        obtain ⟨A2, c2, rfl, g1, g2, hct⟩ := RTours.open_ htv
        have x1 : wr.cell? ⟨b, o + k, none⟩ = some (.slice A2 d.length c2) := cell_below (hB.trans (hbel.mono hle)) (Nat.le_refl _) hcell
        have HCT := Lib.hid hct
        have HX := Lib.hid (textTo_succ hd)
        have hdl := HSM.out.tours d (List.mem_of_getElem? hd)
        have HDM := Lib.hid (List.mem_of_getElem? hd)
        obtain ⟨wo, hwo⟩ : ∃ wo : World, wo = wr := ⟨_, rfl⟩
        subst hwo
        have hlo := hbel.size
        clear hd hcell htv hct
        go_wp2_with fail
        refine (dec_any _ _ (by omega) (by omega)).mono ?_
        rintro e w2 ⟨s2, rfl, HS2, hb2⟩
        have a1 := (Below.refl wo.heap.size wo).alloc (Nat.le_refl _) (.cells #[.slice A2 d.length c2] 38)
        have q2 : Below wo.heap.size wo w2 := below_nx8 a1 hb2
        have bd2 : Blk w2 wo.heap.size 38 [.slice A2 d.length c2] := (Blk.new wo _ _).below hb2 (by simp)
        have bb2 : BldAt W.heap.size T w2 := hbd.below q2 (Nat.le_refl _)
        go_wp2_with fail
        refine (ln_any [[100, 97, 121], decI d.length] _ _ (two_words (Blk.new w2 _ _) rfl HS2.out) (by simp) (fun x hx => Nat.le_trans (head_len (by decide) (by omega) x hx) (by omega))).mono ?_
        rintro e w3 ⟨s3, rfl, HS3, hb3⟩
        have a2 := (Below.refl w2.heap.size w2).alloc (Nat.le_refl _) (.cells #[.string ⟨#[100, 97, 121]⟩, .string s2] 9)
        have q3 : Below wo.heap.size wo w3 := below_nx8 (below_nx8 q2 a2) hb3
        have bd3 : Blk w3 wo.heap.size 38 [.slice A2 d.length c2] := (bd2.below a2 bd2.lt).below hb3 (Nat.lt_of_lt_of_le bd2.lt a2.size)
        have bb3 : BldAt W.heap.size T w3 := hbd.below q3 (Nat.le_refl _)
        have hlh : (dayHead d).length ≤ 100 := by have := lineP_len (l := [[100, 97, 121], decI d.length]) (head_len (by decide) (by omega)); exact Nat.le_trans this (by simp)
        go_wp2_with fail
        refine (write_any W.heap.size T (dayHead d) s3 w3 bb3 HS3.out (by omega)).mono ?_
        rintro e w4 ⟨rfl, bb4, hb4, hk4⟩
        have q4 : Below W.heap.size W w4 := (hbel.trans (q3.mono hlo)).trans hb4
        have hbw := hbd.lt
        have bd4 := bd3.wkeep hk4 (by omega) (by decide)
        have y4 : w4.cell? ⟨wo.heap.size, 0, none⟩ = some (.slice A2 d.length c2) := bd4.cell 0
        have HT2 : Hid (T ++ dayHead d = T ++ dayText d 0) := by show _ = _; rw [dayText_zero]
        have hT2 : (T ++ dayHead d).length ≤ 2000 + k * 10000 := by rw [List.length_append]; omega
        generalize T ++ dayHead d = T2 at bb4 HT2 hT2
        clear hlh a1 a2 q2 q3 bb2 bb3 bd2 bd3 bd4 HS2 HS3 hb2 hb3 hb4 hk4
        go_wp2_with fail
        go_loopw [52] (fun iv wr => ∃ (j : Nat) (T2 : List UInt8), j ≤ d.length ∧ iv = .int .i64 j ∧ BldAt W.heap.size T2 wr ∧ Below W.heap.size W wr ∧ Hid (T2 = T ++ dayText d j) ∧ T2.length ≤ 2000 + k * 10000 + j * 1000) (fun iv _ => d.length - (intOf iv).toNat)
        case atStart => exact ⟨0, T2, Nat.zero_le _, rfl, bb4, q4, HT2, by omega⟩
        case round =>
          clear bb4 q4 HT2 hT2 y4
          obtain ⟨j, T3, hj, rfl, hbd3, hbel3, HT3, hT3⟩ := hrel
          by_cases hlt2 : j < d.length
          · obtain ⟨t, ht⟩ := some_of_lt hlt2
            obtain ⟨b2, o2, rfl, hb2, sv, hsv, hcell⟩ := HCT.out j t ht
            obtain ⟨A3, c3, rfl, g3, g4, hcs⟩ := RStops.open_ hsv
            have x2 : wr.cell? ⟨b2, o2 + j, none⟩ = some (.slice A3 t.length c3) := cell_below (hB.trans (hbel3.mono hle)) (Nat.le_refl _) hcell
            have HS := Lib.hid hcs
            have HX2 := Lib.hid (dayText_succ ht)
            have htm := List.mem_of_getElem? ht
            have htl := HSM.out.stops d HDM.out t htm
            have HWT := Lib.hid (HWF.out d HDM.out t htm)
            obtain ⟨wq, hwq⟩ : ∃ wq : World, wq = wr := ⟨_, rfl⟩
            subst hwq
            have hlq := hbel3.size
            clear ht hcell hsv hcs htm
            go_wp2_with fail
            refine (dec_any _ _ (by omega) (by omega)).mono ?_
            rintro e w5 ⟨s5, rfl, HS5, hb5⟩
            have a1 := (Below.refl wq.heap.size wq).alloc (Nat.le_refl _) (.cells #[.slice A3 t.length c3] 41)
            have q5 : Below wq.heap.size wq w5 := below_nx8 a1 hb5
            have bq5 : Blk w5 wq.heap.size 41 [.slice A3 t.length c3] := (Blk.new wq _ _).below hb5 (by simp)
            have y5 : w5.cell? ⟨wq.heap.size, 0, none⟩ = some (.slice A3 t.length c3) := bq5.cell 0
            have hl5 := bq5.lt
            have bb5 : BldAt W.heap.size T3 w5 := hbd3.below q5 (Nat.le_refl _)
            have hrow0 : Hid ((w5.alloc (.cells #[.string ⟨#[116, 111, 117, 114]⟩, .string s5] 9)).ownsRow w5.heap.size 9 1 (.slice (some ⟨w5.heap.size, 0, none⟩) 2 2) (2 + 2 * 0) ((tourPre t 0).map bstr)) := by
              have h := (Blk.new w5 9 [.string ⟨#[116, 111, 117, 114]⟩, .string s5]).own (lb := w5.heap.size) (n := 2) (Nat.le_refl _) rfl (by simp [maxLen])
              have e1 : (tourPre t 0).map bstr = [.string ⟨#[116, 111, 117, 114]⟩, .string s5] := by
                unfold tourPre
                rw [HS5.out]
                rfl
              show World.ownsRow _ _ _ _ _ _ _
              rw [e1]
              exact h
            have hbel5 := (Below.refl w5.heap.size w5).alloc (Nat.le_refl _) (.cells #[.string ⟨#[116, 111, 117, 114]⟩, .string s5] 9)
            clear a1 hb5
            go_wp2_with fail
            go_loopw [10, 64] (fun wv iv wr => ∃ (i : Nat) (Av : Option Addr) (cv : Nat), i ≤ t.length ∧ iv = .int .i64 i ∧ wv = .slice Av (2 + 2 * i) cv ∧ Hid (wr.ownsRow w5.heap.size 9 1 (.slice Av (2 + 2 * i) cv) (2 + 2 * i) ((tourPre t i).map bstr)) ∧ Below w5.heap.size w5 wr) (fun _ iv _ => t.length - (intOf iv).toNat)
            case atStart => exact ⟨0, _, _, Nat.zero_le _, rfl, rfl, hrow0, hbel5⟩
            case round =>
              clear hrow0 hbel5
              obtain ⟨i, Av, cv, hi, rfl, rfl, HR, hbz⟩ := hrel
              by_cases hlt3 : i < t.length
              · obtain ⟨⟨cu, qu⟩, hs⟩ := some_of_lt hlt3
                obtain ⟨b3, o3, rfl, hb3, hcell0, hcell1⟩ := HS.out i _ hs
                have u3 : wr.cell? ⟨b3, o3 + i * 2, none⟩ = some (.int .i64 cu) := cell_below hbz (Nat.le_refl _) (cell_below q5 (Nat.le_refl _) (cell_below (hB.trans (hbel3.mono hle)) (Nat.le_refl _) hcell0))
                have u4 : wr.cell? ⟨b3, o3 + i * 2 + 1, none⟩ = some (.int .i64 qu) := cell_below hbz (Nat.le_refl _) (cell_below q5 (Nat.le_refl _) (cell_below (hB.trans (hbel3.mono hle)) (Nat.le_refl _) hcell1))
                have HW := Lib.hid (HWT.out _ (List.mem_of_getElem? hs))
                obtain ⟨sd1, hd1⟩ : ∃ s : ByteArray, bstr (decI cu) = .string s := ⟨_, rfl⟩
                obtain ⟨sd2, hd2⟩ : ∃ s : ByteArray, bstr (decI qu) = .string s := ⟨_, rfl⟩
                have HD1 := Lib.hid hd1
                have HD2 := Lib.hid hd2
                have HRN : Hid (∀ (W' : World) (v' : Value), W'.ownsRow w5.heap.size 9 1 v' (2 + 2 * i + 2) ((tourPre t i).map bstr ++ [.string sd1, .string sd2]) → Hid (W'.ownsRow w5.heap.size 9 1 v' (2 + 2 * (i + 1)) ((tourPre t (i + 1)).map bstr))) := by
                  show ∀ _ _, _ → _
                  intro W' v' h
                  show World.ownsRow _ _ _ _ _ _ _
                  rw [tourPre_snoc hs, List.map_append, show 2 + 2 * (i + 1) = 2 + 2 * i + 2 by omega, show ([decI cu, decI qu] : List (List UInt8)).map bstr = [bstr (decI cu), bstr (decI qu)] from rfl, hd1, hd2]
                  exact h
                obtain ⟨wz, hwz⟩ : ∃ wz : World, wz = wr := ⟨_, rfl⟩
                subst hwz
                clear hs hcell0 hcell1 hd1 hd2
                go_wp2_with fail
                refine wp_region_N (fun wS => Below w5.heap.size w5 wS ∧ Blk wS wz.heap.size 43 [.int .i64 cu, .int .i64 qu] ∧ wS.ownsRow w5.heap.size 9 1 (.slice Av (2 + 2 * i) cv) (2 + 2 * i) ((tourPre t i).map bstr)) [8, 9] (by kernel_rfl) ?_ (fun hS => ?_)
                · exact ⟨(hbz.alloc hbz.size _).drew, (Blk.new wz _ _).drew, (HR.out.alloc _).drew⟩
                refine wpAnyM_take 0 (v := ?_) rfl (by kernel_rfl) (fun _ _ _ h => h) (by rfl) ?_ hS ?_
                rotate_left
                · intro wS hSw
                  (try dsimp only at hSw)
                  go_simp
                  try with_reducible rfl
                try simp only [Act.put, List.setIfInBounds_toArray, List.set_cons_zero, List.set_cons_succ]
                refine wpAnyM_take 1 (v := ?_) rfl (by kernel_rfl) (fun _ _ _ h => h) (by rfl) ?_ hS ?_
                rotate_left
                · intro wS hSw
                  (try dsimp only at hSw)
                  go_simp
                  try with_reducible rfl
                try simp only [Act.put, List.setIfInBounds_toArray, List.set_cons_zero, List.set_cons_succ]
                refine wpAnyM_take 2 (v := ?_) rfl (by kernel_rfl) (fun _ _ _ h => h) (by rfl) ?_ hS ?_
                rotate_left
                · intro wS hSw
                  (try dsimp only at hSw)
                  have hc := hSw.2.1.cell 0
                  simp only [List.getElem?_cons_zero] at hc
                  go_simp
                  try with_reducible rfl
                try simp only [Act.put, List.setIfInBounds_toArray, List.set_cons_zero, List.set_cons_succ]
                refine wpAnyM_take 4 (v := ?_) rfl (by kernel_rfl) (fun _ _ _ h => h) (by rfl) ?_ hS ?_
                rotate_left
                · intro wS hSw
                  (try dsimp only at hSw)
                  go_simp
                  try with_reducible rfl
                try simp only [Act.put, List.setIfInBounds_toArray, List.set_cons_zero, List.set_cons_succ]
                refine wpAnyM_take 5 (v := ?_) rfl (by kernel_rfl) (fun _ _ _ h => h) (by rfl) ?_ hS ?_
                rotate_left
                · intro wS hSw
                  (try dsimp only at hSw)
                  have hc := hSw.2.1.cell 1
                  simp only [List.getElem?_cons_succ, List.getElem?_cons_zero] at hc
                  go_simp
                  try with_reducible rfl
                try simp only [Act.put, List.setIfInBounds_toArray, List.set_cons_zero, List.set_cons_succ]
                refine wpAnyM_of_R (R := [3, 6]) _ _ _ ?_ _ hS
                clear hS
                refine wpAnyR_call 3 (v := .string sd1) (f := ?_) (args := ?_) rfl (by kernel_rfl) (by kernel_rfl) (by kernel_rfl) (by kernel_rfl) (by kernel_rfl) (fun _ _ _ h => h) (by rfl) ?_ ?_ ?_
                rotate_left 2
                · intro wS
                  go_simp
                  first | with_reducible rfl | (constructor <;> with_reducible rfl)
                · intro wS hSw
                  refine (decimal_any cu wS HW.out.1.1 HW.out.1.2).mono ?_
                  rintro e w' ⟨rfl, hb⟩
                  exact ⟨by rw [HD1.out], hSw.1.trans (hb.mono hSw.1.size), hSw.2.1.below hb hSw.2.1.lt, own_below hSw.2.2 hb (Nat.le_refl _)⟩
                try simp only [Act.put, List.setIfInBounds_toArray, List.set_cons_zero, List.set_cons_succ]
                refine wpAnyR_call 6 (v := .string sd2) (f := ?_) (args := ?_) rfl (by kernel_rfl) (by kernel_rfl) (by kernel_rfl) (by kernel_rfl) (by kernel_rfl) (fun _ _ _ h => h) (by rfl) ?_ ?_ ?_
                rotate_left 2
                · intro wS
                  go_simp
                  first | with_reducible rfl | (constructor <;> with_reducible rfl)
                · intro wS hSw
                  refine (decimal_any qu wS HW.out.2.1 HW.out.2.2).mono ?_
                  rintro e w' ⟨rfl, hb⟩
                  exact ⟨by rw [HD2.out], hSw.1.trans (hb.mono hSw.1.size), hSw.2.1.below hb hSw.2.1.lt, own_below hSw.2.2 hb (Nat.le_refl _)⟩
                try simp only [Act.put, List.setIfInBounds_toArray, List.set_cons_zero, List.set_cons_succ]
                refine wpAnyR_done (by kernel_rfl) ?_
                intro wS hSw
                obtain ⟨hS1, hS2, hS3⟩ := hSw
                refine wpAnyM_one 7 rfl (by kernel_rfl) (by rfl) (fun K hK => ?_)
                go_simp
                refine hK.out _ _ ⟨hS1.alloc hS1.size _, hS2.alloc _, hS3.alloc _⟩ ?_
                clear hK K
                try simp only [Act.put, List.setIfInBounds_toArray, List.set_cons_zero, List.set_cons_succ]
                refine wpAnyM_late 8 rfl (by kernel_rfl) (by kernel_rfl) (by rfl) (fun K hK => ?_)
                refine wp_append_els wS _ _ _ (by rfl) w5.heap.size 9 _ 16 Tryd.underlying60 strinfo8 rfl (by decide) _ _ _ hS3 (by rfl) [.string sd1, .string sd2] 2 _ (by rfl) rfl (by decide) rfl (by omega) hS1.size ?_
                intro g cap w6 ho6 hg0 hg1 hk6 hz6
                refine hK.out _ _ ?_
                clear hK K
                try simp only [Act.put, List.setIfInBounds_toArray, List.set_cons_zero, List.set_cons_succ]
                refine wpAnyM_late 9 rfl (by kernel_rfl) (by kernel_rfl) (by rfl) (fun K hK => ?_)
                go_simp
                refine hK.out _ _ ?_
                clear hK K
                try simp only [Act.put, List.setIfInBounds_toArray, List.set_cons_zero, List.set_cons_succ]
                refine wpAnyM_done (by kernel_rfl) ?_
                unfold onlyN
                go_wp2
                go_roundw
                case rel => exact ⟨i + 1, _, _, by omega, by go_num, by rw [show 2 + 2 * (i + 1) = 2 + 2 * i + 2 by omega], HRN.out _ _ ho6, hS1.trans (hk6.below hS1.size)⟩
                case measure => simp [intOf]; omega
              · obtain rfl : i = t.length := by omega
                have hwl : (tourWords t).length = 2 + 2 * t.length := by rw [← tourPre_all]; exact tourPre_len t _ (Nat.le_refl _)
                have hwx : ∀ x ∈ tourWords t, x.length ≤ 21 := by rw [← tourPre_all]; exact tour_len (by omega) HWT.out _
                have HRS : Hid (RStrs wr (.slice Av (2 + 2 * t.length) cv) (tourWords t)) := by
                  show RS _ _ _ _ _
                  rw [hwl, ← tourPre_all]
                  exact RS.of_own HR.out
                have hlh : (lineP (tourWords t)).length ≤ 1000 := by have := lineP_len hwx; rw [hwl] at this; omega
                have HWX := Lib.hid hwx
                have HWL := Lib.hid hwl
                clear hwx hwl
                go_wp2_with fail
                refine (ln_any (tourWords t) _ _ HRS.out (by rw [HWL.out]; omega) (fun x hx => Nat.le_trans (HWX.out x hx) (by omega))).mono ?_
                rintro e w7 ⟨s7, rfl, HS7, hb7⟩
                have q7 : Below W.heap.size W w7 := ((hbel3.trans (q5.mono hlq)).trans (hbz.mono (Nat.le_trans hlq q5.size))).trans (hb7.mono (Nat.le_trans hlq (Nat.le_trans q5.size hbz.size)))
                have bb7 : BldAt W.heap.size T3 w7 := (bb5.below hbz (Nat.le_refl _)).below hb7 (Nat.le_refl _)
                go_wp2_with fail
                refine (write_any W.heap.size T3 (lineP (tourWords t)) s7 w7 bb7 HS7.out (by omega)).mono ?_
                rintro e w8 ⟨rfl, bb8, hb8, hk8⟩
                go_wp2
                go_roundw
                case rel => exact ⟨j + 1, _, by omega, by go_num, bb8, q7.trans hb8, by show _ = _; rw [HX2.out, HT3.out, List.append_assoc], by rw [List.length_append]; omega⟩
                case measure => simp [intOf]; omega
          · obtain rfl : j = d.length := by omega
            go_wp2
            go_roundw
            case rel => exact ⟨k + 1, T3, by omega, by go_num, hbd3, hbel3, by show _ = _; rw [HX.out, HT3.out, HT1.out], by omega⟩
            case measure => simp [intOf]; omega
      · obtain rfl : k = p.length := by omega
        have k1 : wr.cell? ⟨w.heap.size + 1, 0, none⟩ = some (.string ⟨#[]⟩) := (hbs.below hbel hbs.lt).cell 0
        have k2 : wr.cell? ⟨w.heap.size + 1 + 1, 0, none⟩ = some (.int .i64 0) := (hbe.below hbel hbe.lt).cell 0
        go_wp2_with fail
        refine (string_any W.heap.size T wr hbd).mono ?_
        rintro e w5 ⟨rfl, hb5⟩
        have q5 : Below W.heap.size W w5 := hbel.trans hb5
        have bs5 := hbs.below q5 hbs.lt
        have be5 := hbe.below q5 hbe.lt
        have f1 := bs5.frozen 0
        have f2 := be5.frozen 0
        have l1 : w5.cell? ⟨w.heap.size + 1, 0, none⟩ = some (.string ⟨#[]⟩) := bs5.cell 0
        have l2 : w5.cell? ⟨w.heap.size + 1 + 1, 0, none⟩ = some (.int .i64 0) := be5.cell 0
        obtain ⟨sT, hsT⟩ : ∃ sT : ByteArray, bstr T = .string sT := ⟨_, rfl⟩
        have HST := Lib.hid hsT
        rw [hsT]
        clear hsT
        have HF : Hid (bstr (printS p) = .string sT ∧ printE p = 0) := by
          show _ ∧ _
          unfold printS printE
          rw [if_pos HT.out, if_pos HT.out, ← textTo_all, ← HT1.out]
          exact ⟨HST.out, rfl⟩
        have hK5 : w5.heap[D]? = some (.deferred (some [])) := (q5.block D hDl).trans hK
        have hK6 := ((KeepsOthers.setCell w5 ⟨w.heap.size + 1, 0, none⟩ (.string sT)).trans (KeepsOthers.setCell _ ⟨w.heap.size + 1 + 1, 0, none⟩ (.int .i64 0))).same D _ hK5 rfl
        have n1 : ((w5.setCell ⟨w.heap.size + 1, 0, none⟩ (.string sT)).setCell ⟨w.heap.size + 1 + 1, 0, none⟩ (.int .i64 0)).cell? ⟨w.heap.size + 1, 0, none⟩ = some (.string sT) := ((bs5.set_ 0 (.string sT)).far (p := ⟨w.heap.size + 1 + 1, 0, none⟩) (by show w.heap.size + 1 ≠ w.heap.size + 1 + 1; omega) (.int .i64 0)).cell 0
        have n2 : ((w5.setCell ⟨w.heap.size + 1, 0, none⟩ (.string sT)).setCell ⟨w.heap.size + 1 + 1, 0, none⟩ (.int .i64 0)).cell? ⟨w.heap.size + 1 + 1, 0, none⟩ = some (.int .i64 0) := ((be5.far (p := ⟨w.heap.size + 1, 0, none⟩) (by show w.heap.size + 1 + 1 ≠ w.heap.size + 1; omega) (.string sT)).set_ 0 (.int .i64 0)).cell 0
        have hBf : Below w.heap.size w ((w5.setCell ⟨w.heap.size + 1, 0, none⟩ (.string sT)).setCell ⟨w.heap.size + 1 + 1, 0, none⟩ (.int .i64 0)) := ((hB.trans (q5.mono hle)).setCell (p := ⟨w.heap.size + 1, 0, none⟩) (by show w.heap.size ≤ w.heap.size + 1; omega) _).setCell (p := ⟨w.heap.size + 1 + 1, 0, none⟩) (by show w.heap.size ≤ w.heap.size + 1 + 1; omega) _
        have HN1 := Lib.hid n1
        have HN2 := Lib.hid n2
        clear n1 n2
        go_wp2
        refine ⟨by simp, .inl ⟨_, _, rfl, run_takeDeferred hK6, ?_⟩⟩
        have m1 := cell_kept HN1.out (grownBy_putObj' _ D (.deferred none)) (fun r e => by cases e; exact ⟨_, hK6, rfl⟩)
        have m2 := cell_kept HN2.out (grownBy_putObj' _ D (.deferred none)) (fun r e => by cases e; exact ⟨_, hK6, rfl⟩)
        refine ⟨.tuple #[.string sT, .int .i64 0], ?_, ?_, below_put hBf (Nat.le_refl _) (by omega) hK6⟩
        · simp [results, Tryd.f5, go_sem, m1, m2]
        · rw [HF.out.1, HF.out.2]
end Go.Proofs.YtokdneolgolkbaaDoor
