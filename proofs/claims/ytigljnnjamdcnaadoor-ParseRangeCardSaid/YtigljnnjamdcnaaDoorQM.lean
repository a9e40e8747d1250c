/-
  The walk of Parse: the reader's parts, one after the other.
  The walk of lives.
-/
import Derived.Test.YtigljnnjamdcnaaDoorQL
import Derived.Test.YtigljnnjamdcnaaDoorQC
import Derived.Test.YtigljnnjamdcnaaDoorQI
import Derived.Test.YtigljnnjamdcnaaDoorQG
import Derived.Test.YtigljnnjamdcnaaDoorQA
import Derived.Outline
namespace Go.Proofs.YtigljnnjamdcnaaDoor
open Go.RowKit P05 P06 P07

theorem joinB_word (b : UInt8) : ∀ (ws : Line) (x : Word), x ∈ ws → x.length ≤ (joinB b ws).length
  | [], x, h => by cases h
  | [w], x, h => by obtain rfl : x = w := by simpa using h
                    exact Nat.le_refl _
  | w :: v :: t, x, h => by
    rw [joinB, List.length_append, List.length_cons]
    rcases List.mem_cons.1 h with h | h
    · subst h; omega
    · have := joinB_word b (v :: t) x h; omega
theorem flatMap_mem_len {L : List Line} {l : Line} (h : l ∈ L) : (lineP l).length ≤ (L.flatMap lineP).length := by
  induction L with
  | nil => cases h
  | cons a L ih =>
    rw [List.flatMap_cons, List.length_append]
    rcases List.mem_cons.1 h with h | h
    · subst h; omega
    · have := ih h; omega
theorem lines_word {t : List UInt8} {L : List Line} (h : linesP t = some L) {l : Line} (hl : l ∈ L) {x : Word} (hx : x ∈ l) : x.length ≤ t.length := by
  have h1 := (linesP_back h).1
  have h2 := flatMap_mem_len hl
  have h3 := joinB_word 32 l x hx
  rw [h1] at h2
  unfold lineP at h2
  simp at h2
  omega
def partF : Nat → FuncId
  | 0 => 26
  | 1 => 27
  | 2 => 28
  | 3 => 29
  | 4 => 30
  | _ => 31
def partV (R i : Nat) : Value := .func (.func (partF i)) #[.pointer (some ⟨R, 0, none⟩)] #[]
theorem results_blk2 {P : Program} {fn : Func} {p q : Tmp} {ty : TypeId} (h : fn.results = #[.cell p ty, .tmp q]) (tmps : Array Value) (w : World) (g : Nat) (t : TypeId) (cs : List Value) (d : TypeDesc) (u : Value)
    (hp : tmps.getD p undef = .pointer (some ⟨g, 0, none⟩)) (hq : tmps.getD q undef = u) (hg : Blk w g t cs)
    (hu : P.underlying ty = some d) (hd : (match d with | .struct _ | .array _ _ => true | _ => false) = true) (hi : (P.info? ty).map (·.size) = some cs.length) :
    (results fn tmps).run P w = .ok (.tuple #[.agg cs.toArray, u]) w := by
  have hp' : tmps[p]?.getD undef = .pointer (some ⟨g, 0, none⟩) := by simpa using hp
  have hq' : tmps[q]?.getD undef = u := by simpa using hq
  simp [results, h, hp', hq', asAddr, run_loadVar_row w g t ty cs.toArray (0, 0) d hg hu hd (by simpa using hi)]
theorem isize7 : (Tryd.prog.info? 25).map (·.size) = some 6 := by kernel_rfl
theorem OwnInst.zero (lb : Nat) (ec ep er ei : TypeId) (w : World) : OwnInst lb ec ep er ei w (.agg #[.int .i64 0, .int .i64 0, .int .i64 0, .int .i64 0, .slice none 0 0, .slice none 0 0]) zeroI :=
  ⟨_, _, rfl, OwnCusts.none_ _ _ _ _, OwnRows.none_ _ _ _ _⟩
theorem part_any (w0 : World) (R : Nat) (lv : Value) (L : List Line) (i : Nat) (s : Rd) (w : World) (hC : RdC w0 R lv L) (hi : i < 6) (hst : stage L i = some s) (hs : RdS w0 R lv L w s) :
    Calls Tryd.prog (partF i) #[.pointer (some ⟨R, 0, none⟩)] w fun e w' => e = .returned (.bool (P07.part i s).isSome) ∧ Below R w0 w' ∧ ∀ s', P07.part i s = some s' → RdS w0 R lv L w' s' ∧ KeepO R w w' := by
  obtain ⟨g1, g2, g3⟩ := stage_ok L i (by omega) hst
  match i, hi, g2, g3 with
  | 0, _, _, _ => exact title_any w0 R lv L s w hC.lines hC.low hs hC.few
  | 1, _, _, _ => exact limits_any w0 R lv L s w hC hs
  | 2, _, _, _ => exact how_any w0 R lv L s w hC hs
  | 3, _, g2, _ => exact customers_any w0 R lv L s w hC hs (g2 (by omega)) g1.lo g1.hi
  | 4, _, _, g3 => exact dist_any w0 R lv L s w hC hs (g3 (by omega)) g1.lo g1.hi
  | 5, _, _, _ =>
    refine (end_any w0 R lv L s w hC.lines hs).mono fun e w' ⟨q1, q2, q3⟩ => ?_
    have : (endR s).isSome = decide (s.rest = []) := by unfold endR; split <;> simp_all
    rw [show P07.part 5 s = endR s from rfl, this]
    refine ⟨q1, q2.from_, fun s' h => ?_⟩
    unfold endR at h
    split at h
    · obtain rfl := Option.some.inj h; exact ⟨q2, q3⟩
    · cases h
  | n + 6, hi, _, _ => omega
set_option maxHeartbeats 4000000 in
set_option maxRecDepth 100000 in
theorem parse7_any (s : ByteArray) (m : Int) (w : World) (hsz : s.size ≤ 1000000) (hl : ∀ l ∈ linesV s.data.toList, l.length ≤ 1000) (hm : w.cell? ⟨0, 0, none⟩ = some (.int .i64 m)) :
    Calls Tryd.prog 10 #[.string s] w fun e w' => ∃ v, e = .returned (.tuple #[v, .int .i64 (parseX s.data.toList).2]) ∧ OwnInst w.heap.size 41 68 43 3 w' v (parseX s.data.toList).1 ∧ Below w.heap.size w w' := by
  have HMM := Lib.hid (cell_below (below_al (Below.refl w.heap.size w) (.cells #[.int .i64 0, .int .i64 0, .int .i64 0, .int .i64 0, .slice none 0 0, .slice none 0 0] 25)) (Nat.le_refl _) hm)
  cases hlp : linesP s.data.toList with
  | none =>
    have HLE := Lib.hid (linesV_none hlp).2
    rw [parse_none hlp]
    clear hlp hl hm
    go_enter Tryd.func10, Tryd.ntmps10
    go_wp2_with fail
    refine (lines_any s m _ hsz HMM.out).mono ?_
    rintro e w2 ⟨v, rfl, hv, hb2⟩
    rw [HLE.out]
    have bz2 := (Blk.new w 25 [.int .i64 0, .int .i64 0, .int .i64 0, .int .i64 0, .slice none 0 0, .slice none 0 0]).below hb2 (by simp)
    have a2 : Below w.heap.size w w2 := below_nx (below_al (Below.refl w.heap.size w) _) hb2
    obtain ⟨y0, y1, y2, y3, y4, y5⟩ := bz2.cells6
    obtain ⟨e0, e1, e2, e3, e4, e5⟩ := bz2.free6
    clear hv hb2 HMM
    go_wp2_with fail
    refine bodyPost_ret (results_blk2 rfl _ _ w.heap.size 25 [.int .i64 0, .int .i64 0, .int .i64 0, .int .i64 0, .slice none 0 0, .slice none 0 0] _ (.int .i64 2) rfl rfl ?hW Tryd.underlying25 rfl isize7) rfl ⟨_, rfl, ?_, ?_⟩
    case hW => exact bz2.set6
    · exact OwnInst.zero _ _ _ _ _ _
    · exact below_set6 a2 (Nat.le_refl _)
  | some L =>
    have HLE := Lib.hid (linesV_some hlp).2
    have HLV := Lib.hid (linesV_some hlp).1
    have HSZ : s.data.toList.length = s.size := data_len s
    have hLL : L.length ≤ 1000000 := by have := linesP_len hlp; omega
    have HSM : Hid (∀ l ∈ L, l.length ≤ 1000 ∧ ∀ x ∈ l, x.length ≤ 1000000) := Lib.hid fun l hx => ⟨hl l (by rw [HLV.out]; exact hx), fun x hxx => by have := lines_word hlp hx hxx; omega⟩
    have HWD : Hid (∀ l ∈ L, ∀ x ∈ l, isWord x = true) := Lib.hid fun l hx => ((linesP_back hlp).2 l hx).2
    have HPX : Hid (parseX s.data.toList = match readR L with | none => (zeroI, 2) | some st => if st.odd || !may st.x then (zeroI, 3) else (st.x, 0)) := Lib.hid (by unfold parseX; rw [hlp]; rfl)
    clear hlp hl hm HSZ
    have hmf : ∀ (fn : Fn) (first cap : Array Value) (w : World), (Instr.makeFunc fn first cap).run Tryd.prog w = .ok (.func fn first cap) w := fun _ _ _ _ => rfl
    go_enter Tryd.func10, Tryd.ntmps10
    go_wp2_with fail
    refine (lines_any s m _ hsz HMM.out).mono ?_
    rintro e w2 ⟨v, rfl, hv, hb2⟩
    rw [HLE.out]
    rw [HLV.out] at hv
    obtain ⟨Al, cl, rfl, -⟩ := RLines.open_ (OLines.reads hv)
    have HR := Lib.hid (OLines.reads hv)
    have bz2 := (Blk.new w 25 [.int .i64 0, .int .i64 0, .int .i64 0, .int .i64 0, .slice none 0 0, .slice none 0 0]).below hb2 (by simp)
    have a2 : Below w.heap.size w w2 := below_nx (below_al (Below.refl w.heap.size w) _) hb2
    have zz2 := bz2.lt
    have HC : Hid (RdC w2 w2.heap.size (.slice Al L.length cl) L) := Lib.hid ⟨HR.out, Nat.le_refl _, hLL, HSM.out, HWD.out⟩
    have HS0 : Hid (RdS w2 w2.heap.size (.slice Al L.length cl) L (w2.alloc (.cells #[.slice Al L.length cl, .int .i64 0, .int .i64 0, .int .i64 0, .int .i64 0, .int .i64 0, .slice none 0 0, .slice none 0 0, .int .i64 0, .bool false] 65)) ⟨L, zeroI, 0, false⟩) := Lib.hid
      ⟨0, .slice none 0 0, .slice none 0 0, Nat.zero_le _, rfl, Blk.new _ _ _, OwnCusts.none_ _ _ _ _, OwnRows.none_ _ _ _ _, below_al (Below.refl _ _) _⟩
    clear hv hb2 HMM
    go_wp2_with fail
    go_loopw [34] (fun iv wr => ∃ (i : Nat) (st : Rd), i ≤ 6 ∧ iv = .int .i64 i ∧ Hid (RdS w2 w2.heap.size (.slice Al L.length cl) L wr st) ∧ Hid (stage L i = some st) ∧ Hid (wr.heap[w2.heap.size + 1]? = some (.cells ((List.range 6).map (partV w2.heap.size)).toArray 34 (0, 0)))) (fun iv _ => 6 - (intOf iv).toNat)
    case atStart =>
      refine ⟨0, _, Nat.zero_le _, rfl, Lib.hid (HS0.out.below (below_al (Below.refl _ _) _)), Lib.hid rfl, Lib.hid ?_⟩
      have := (Blk.new (w2.alloc (.cells #[.slice Al L.length cl, .int .i64 0, .int .i64 0, .int .i64 0, .int .i64 0, .int .i64 0, .slice none 0 0, .slice none 0 0, .int .i64 0, .bool false] 65)) 34 ((List.range 6).map (partV w2.heap.size)))
      simp only [World.size_alloc] at this
      exact this
    case round =>
      obtain ⟨i, st, hi, rfl, HRS, HST, HFN⟩ := hrel
      have hbF : Blk wr (w2.heap.size + 1) 34 ((List.range 6).map (partV w2.heap.size)) := HFN.out
      by_cases hlt : i < 6
      · have y0 : wr.cell? ⟨w2.heap.size + 1, i, none⟩ = some (partV w2.heap.size i) := by
          rw [hbF.cell, List.getElem?_map, List.getElem?_range hlt]; rfl
        unfold partV at y0
        clear hbF
        have HPA := part_any w2 w2.heap.size (.slice Al L.length cl) L i st _ HC.out hlt HST.out HRS.out
        rcases (show i = 0 ∨ i = 1 ∨ i = 2 ∨ i = 3 ∨ i = 4 ∨ i = 5 by omega) with h | h | h | h | h | h
        all_goals
          rw [show partF i = _ from congrArg partF h] at y0 HPA
          dsimp only [partF] at y0 HPA
          have HPA := Lib.hid HPA
          clear h
          go_wp2_with fail
          refine HPA.out.mono ?_
          rintro e w5 ⟨rfl, hb5, hs5⟩
          have HB5 := Lib.hid hb5
          cases hp : P07.part i st with
          | none =>
            have HF : Hid (readR L = none) := Lib.hid (stage_fall L HST.out hp hlt)
            have bz5 := bz2.below hb5 zz2
            obtain ⟨y0, y1, y2, y3, y4, y5⟩ := bz5.cells6
            obtain ⟨e0, e1, e2, e3, e4, e5⟩ := bz5.free6
            clear hs5 hb5 hp
            go_wp2_with fail
            rw [HPX.out, HF.out]
            refine bodyPost_ret (results_blk2 rfl _ _ w.heap.size 25 [.int .i64 0, .int .i64 0, .int .i64 0, .int .i64 0, .slice none 0 0, .slice none 0 0] _ (.int .i64 2) rfl rfl ?hW Tryd.underlying25 rfl isize7) rfl ⟨_, rfl, ?_, ?_⟩
            case hW => exact bz5.set6
            · exact OwnInst.zero _ _ _ _ _ _
            · exact below_set6 (below_nx a2 HB5.out) (Nat.le_refl _)
          | some st' =>
            obtain ⟨r1, r2⟩ := hs5 st' hp
            have HR1 := Lib.hid r1
            have HR2 := Lib.hid r2
            have HP := Lib.hid hp
            clear hs5 hb5 hp r1 r2
            go_wp2_with fail
            go_roundw
            case rel => exact ⟨i + 1, st', by omega, by go_num, HR1, Lib.hid (show (stage L i).bind (P07.part i) = some st' by rw [HST.out]; exact HP.out), Lib.hid (HR2.out _ _ (by omega) (fun cs e fr h => by cases h; rfl) HFN.out)⟩
            case measure => simp [intOf]; omega
      · obtain rfl : i = 6 := by omega
        have hread : readR L = some st := by rw [← stage_read]; exact HST.out
        obtain ⟨ok, -, -⟩ := stage_ok L 6 (Nat.le_refl _) HST.out
        have hwf := ok.wf
        have hcl : st.x.custs.length ≤ 1000000 := by have := ok.len; omega
        obtain ⟨kk, cv, dv, q1, q2, q3, q4, q5, q6⟩ := HRS.out
        have HOI : Hid (OwnInst (w2.heap.size + 1) 41 68 43 3 wr (.agg #[.int .i64 st.x.days, .int .i64 st.x.veh, .int .i64 st.x.cap, .int .i64 st.x.len, cv, dv]) st.x) := Lib.hid ⟨cv, dv, rfl, q4, q5⟩
        obtain ⟨pvs, -, oc, -⟩ := q4
        obtain ⟨rvs, od, -⟩ := q5
        obtain ⟨Ac, cc, rfl, -⟩ := RS.of_own oc
        obtain ⟨Ad, cd, rfl, -⟩ := RS.of_own od
        have HQ3 := Lib.hid q3
        have BW0 := Lib.hid q6
        obtain ⟨c0, c1, c2, c3, c4, c5, c6, c7, c8, c9⟩ := q3.cells10
        clear q1 q2 q3 q6 oc od hbF
        cases ho : st.odd with
        | true =>
          have HF : Hid (readR L = some st ∧ (st.odd || !may st.x) = true) := Lib.hid ⟨hread, by rw [ho]; rfl⟩
          have BW := BW0
          have bz5 := bz2.below BW.out zz2
          obtain ⟨y0, y1, y2, y3, y4, y5⟩ := bz5.cells6
          obtain ⟨e0, e1, e2, e3, e4, e5⟩ := bz5.free6
          rw [ho] at c9
          clear hread ho
          go_wp2_with fail
          rw [HPX.out, HF.out.1]
          simp only [HF.out.2, if_true]
          refine bodyPost_ret (results_blk2 rfl _ _ w.heap.size 25 [.int .i64 0, .int .i64 0, .int .i64 0, .int .i64 0, .slice none 0 0, .slice none 0 0] _ (.int .i64 3) rfl rfl ?hW Tryd.underlying25 rfl isize7) rfl ⟨_, rfl, ?_, ?_⟩
          case hW => exact bz5.set6
          · exact OwnInst.zero _ _ _ _ _ _
          · exact below_set6 (below_nx a2 BW.out) (Nat.le_refl _)
        | false =>
          rw [ho] at c9
          have HO := Lib.hid ho
          have HRD := Lib.hid hread
          clear hread ho
          go_wp2_with fail
          refine (may_any _ st.x _ HOI.out.reads hwf hcl).mono ?_
          rintro e w6 ⟨rfl, hb6⟩
          have BW : Hid (Below w2.heap.size w2 w6) := Lib.hid (BW0.out.trans (hb6.mono (Nat.le_of_lt HRS.out.lt)))
          have bz5 := bz2.below BW.out zz2
          obtain ⟨y0, y1, y2, y3, y4, y5⟩ := bz5.cells6
          obtain ⟨e0, e1, e2, e3, e4, e5⟩ := bz5.free6
          have hq6 := HQ3.out.below hb6 HRS.out.lt
          obtain ⟨d0, d1, d2, d3, d4, d5, d6, d7, d8, d9⟩ := hq6.cells10
          have HOI6 : Hid (OwnInst (w2.heap.size + 1) 41 68 43 3 w6 (.agg #[.int .i64 st.x.days, .int .i64 st.x.veh, .int .i64 st.x.cap, .int .i64 st.x.len, .slice Ac st.x.custs.length cc, .slice Ad st.x.dist.length cd]) st.x) := Lib.hid (by
            obtain ⟨cv, dv, h1, h2, h3⟩ := HOI.out
            exact ⟨cv, dv, h1, h2.below hb6 (Nat.le_refl _), h3.below hb6 (Nat.le_refl _)⟩)
          clear c0 c1 c2 c3 c4 c5 c6 c7 c8 c9 hb6
          cases hm : may st.x with
          | false =>
            rw [mayE_f hm]
            have HF : Hid (readR L = some st ∧ (st.odd || !may st.x) = true) := Lib.hid ⟨HRD.out, by rw [hm, HO.out]; rfl⟩
            clear hm
            go_wp2_with fail
            rw [HPX.out, HF.out.1]
            simp only [HF.out.2, if_true]
            refine bodyPost_ret (results_blk2 rfl _ _ w.heap.size 25 [.int .i64 0, .int .i64 0, .int .i64 0, .int .i64 0, .slice none 0 0, .slice none 0 0] _ (.int .i64 3) rfl rfl ?hW Tryd.underlying25 rfl isize7) rfl ⟨_, rfl, ?_, ?_⟩
            case hW => exact bz5.set6
            · exact OwnInst.zero _ _ _ _ _ _
            · exact below_set6 (below_nx a2 BW.out) (Nat.le_refl _)
          | true =>
            rw [mayE_t hm]
            have HF : Hid (readR L = some st ∧ (st.odd || !may st.x) = false) := Lib.hid ⟨HRD.out, by rw [hm, HO.out]; rfl⟩
            clear hm
            go_wp2_with fail
            rw [HPX.out, HF.out.1]
            simp only [HF.out.2]
            refine bodyPost_ret (results_blk2 rfl _ _ w.heap.size 25 [.int .i64 st.x.days, .int .i64 st.x.veh, .int .i64 st.x.cap, .int .i64 st.x.len, .slice Ac st.x.custs.length cc, .slice Ad st.x.dist.length cd] _ (.int .i64 0) rfl rfl ?hW Tryd.underlying25 rfl isize7) rfl ⟨_, rfl, ?_, ?_⟩
            case hW => exact bz5.set6
            · obtain ⟨cv, dv, h1, h2, h3⟩ := HOI6.out
              exact ⟨cv, dv, h1, (h2.low6 (by omega)).mono (by omega), (h3.low6 (by omega)).mono (by omega)⟩
            · exact below_set6 (below_nx a2 BW.out) (Nat.le_refl _)
end Go.Proofs.YtigljnnjamdcnaaDoor

namespace Go.Proofs.YtigljnnjamdcnaaDoor
open Go.RowKit P05 P06 P07

def liveX : Inst := ⟨1, 1, 9, 9, [⟨2, 0, [], 2, 6, 3, 1, 1⟩], [[0, 3], [4, 0]]⟩
theorem live_wf : liveX.wf := by
  refine ⟨by unfold W64; decide, by unfold W64; decide, by unfold W64; decide, by unfold W64; decide, fun c hc => ?_, fun r hr z hz => ?_⟩
  · obtain rfl : c = ⟨2, 0, [], 2, 6, 3, 1, 1⟩ := by simpa [liveX] using hc
    exact ⟨by unfold W64; decide, by unfold W64; decide, by simp, by unfold W64; decide, by unfold W64; decide, by unfold W64; decide, by unfold W64; decide, by unfold W64; decide⟩
  · have : ∀ r ∈ liveX.dist, ∀ z ∈ r, W64 z := by unfold W64; decide
    exact this r hr z hz
theorem live_may : may liveX = true := by decide +kernel
theorem live_lines : ∀ l ∈ instLines liveX, l.length ≤ 1000 := by decide +kernel
set_option maxHeartbeats 1000000 in
set_option maxRecDepth 100000 in
theorem lives7_any (m : Int) (w : World) (hm : w.cell? ⟨0, 0, none⟩ = some (.int .i64 m)) : Calls Tryd.prog 13 #[] w fun e w' => e = .returned (.bool true) ∧ Below w.heap.size w w' := by
  have HM := Lib.hid hm
  clear hm
  go_enter Tryd.func13, Tryd.ntmps13
  generalize hs : (⟨([116, 114, 97, 110, 116, 101, 114, 32, 49, 10, 100, 97, 121, 115, 32, 49, 32, 118, 101, 104, 105, 99, 108, 101, 115, 32, 49, 32, 99, 97, 112, 97, 99, 105, 116, 121, 32, 57, 32, 108, 101, 110, 103, 116, 104, 32, 57, 10].append [99, 117, 115, 116, 111, 109, 101, 114, 115, 32, 49, 10, 116, 97, 110, 107, 32, 50, 32, 54, 32, 51, 32, 102, 105, 108, 108, 32, 49, 10, 100, 105, 115, 116, 97, 110, 99, 101, 115, 10, 48, 32, 51, 10, 52, 32, 48, 10]).toArray⟩ : ByteArray) = s
  have hst : s.data.toList = instText liveX := by rw [← hs]; decide +kernel
  have hsz : s.size ≤ 1000000 := by rw [← hs]; decide +kernel
  clear hs
  go_wp2_with fail
  refine (parse7_any s m _ hsz (by rw [hst, (linesV_some (lines_inst live_wf live_may)).1]; exact live_lines) HM.out).mono ?_
  rintro e w2 ⟨v, rfl, hv, hb2⟩
  rw [hst, parse_print live_wf live_may] at hv ⊢
  obtain ⟨cv, dv, rfl, h1, h2⟩ := hv
  obtain ⟨rvs, od, -⟩ := h2
  obtain ⟨Ad, cd, rfl, -⟩ := RS.of_own od
  obtain ⟨A, c, rfl, g1, g2, g3⟩ := RCusts.open_ h1.reads.plain
  obtain ⟨b, o, rfl, hb, pv, -, c0, c1, c2, c3, c4, c5, c6, c7⟩ := g3 0 _ rfl
  have hal := below_al (Below.refl w2.heap.size w2) (.cells #[.int .i64 1, .int .i64 1, .int .i64 9, .int .i64 9, .slice (some ⟨b, o, none⟩) 1 c, .slice Ad 2 cd] 25)
  simp only [Nat.zero_mul, Nat.add_zero] at c0 c1 c2 c3 c4 c5 c6 c7
  have k3 := cell_below hal (Nat.le_refl _) c3
  have k4 := cell_below hal (Nat.le_refl _) c4
  have k5 := cell_below hal (Nat.le_refl _) c5
  have k6 := cell_below hal (Nat.le_refl _) c6
  have k7 := cell_below hal (Nat.le_refl _) c7
  simp only [liveX, List.length_cons, List.length_nil] at g1 ⊢
  have HB := Lib.hid (below_nx (show Below w.heap.size w w2 from hb2) hal)
  clear hst hsz h1 od g3 hal hb2 c0 c1 c2 c3 c4 c5 c6 c7
  go_wp2
  go_ret
  exact ⟨rfl, HB.out⟩
end Go.Proofs.YtigljnnjamdcnaaDoor
