/-
  The walks of days.With and days.Parse.
  The walk of the reader: a customer of patterns.
-/
import Derived.Test.YtigljnnjamdcnaaDoorW07d
import Derived.Lib.OthersKept
import Derived.Laws.Bits64b
import Derived.IntWalk
import Derived.Outline
namespace Go.Proofs.YtigljnnjamdcnaaDoor
open Go.RowKit P05 P06 P07

theorem or_pow (s d : Nat) (hs : s < 2 ^ d) (hd : d < 64) : bits BinOp.or IntKind.u64 (s : Int) (IntKind.u64.wrap (2 ^ d)) = ((s + 2 ^ d : Nat) : Int) := by
  have h1 : 2 ^ d ≤ 2 ^ 63 := Nat.pow_le_pow_right (by decide) (by omega)
  have e : ((2 : Int) ^ d) = ((2 ^ d : Nat) : Int) := by simp
  rw [e, show IntKind.u64.wrap ((2 ^ d : Nat) : Int) = ((2 ^ d : Nat) : Int) from IntWalk.u64_in _ ⟨by omega, by omega⟩, bits_or_u64_nat s (2 ^ d) (by omega) (by omega)]
  have := Nat.two_pow_add_eq_or_of_lt hs 1
  rw [Nat.mul_one, Nat.or_comm] at this
  rw [← this, Nat.add_comm]
set_option maxRecDepth 100000 in
theorem with_any (s d : Nat) (w : World) (hs : s < 2 ^ d) (hd : d < 64) :
    Calls Tryd.prog 86 #[.int .u64 (s : Int), .int .i64 (d : Int)] w fun e w' => e = .returned (.int .u64 ((s + 2 ^ d : Nat) : Int)) ∧ w' = w := by
  have hdd : decide ((d : Int) < 64) = true := decide_eq_true (by omega)
  have HO := Lib.hid (or_pow s d hs hd)
  clear hs
  go_enter Tryd.func86, Tryd.ntmps86
  go_wp2
  go_ret
  rw [HO.out]
  exact ⟨rfl, rfl⟩
set_option maxRecDepth 100000 in
theorem with_far (s d : Nat) (w : World) (hd : 64 ≤ d) :
    Calls Tryd.prog 86 #[.int .u64 (s : Int), .int .i64 (d : Int)] w fun e w' => e = .returned (.int .u64 (s : Int)) ∧ w' = w := by
  have hdd : decide ((d : Int) < 64) = false := decide_eq_false (by omega)
  clear hd
  go_enter Tryd.func86, Tryd.ntmps86
  go_wp2
  go_ret
  exact ⟨rfl, rfl⟩
theorem setV_snoc (c : UInt8) : ∀ l : Word, setV (l ++ [c]) = setV l + (if c = 49 then 2 ^ l.length else 0)
  | [] => by simp [setV]
  | a :: l => by
    rw [List.cons_append, setV, setV_snoc c l, setV, List.length_cons, Nat.pow_succ]
    split <;> split <;> omega
theorem setV_lt : ∀ l : Word, setV l < 2 ^ l.length
  | [] => by simp [setV]
  | a :: l => by
    have := setV_lt l
    rw [setV, List.length_cons, Nat.pow_succ]
    split <;> omega
/-- What days.Parse makes of a word. -/
def dpV (l : Word) : Nat := if setOk l then setP l else 0
def dpE (l : Word) : Int := if setOk l then (if 64 < l.length then 3 else 0) else 2
def is01 (c : UInt8) : Bool := c == 48 || c == 49
theorem setOk_iff (l : Word) : setOk l = (!l.isEmpty && l.all is01) := rfl
theorem sv_step (l : Word) (c : UInt8) : setV ((l ++ [c]).take 64) = setV (l.take 64) + if c = 49 ∧ l.length < 64 then 2 ^ l.length else 0 := by
  by_cases h : l.length < 64
  · rw [List.take_of_length_le (by simp; omega), List.take_of_length_le (by omega), setV_snoc]
    simp [h]
  · rw [List.take_append_of_le_length (by omega), if_neg (by omega), Nat.add_zero]
set_option maxHeartbeats 4000000 in
set_option maxRecDepth 100000 in
theorem dparse_any (t : ByteArray) (w : World) (hw : ∀ c ∈ t.data.toList, c.toNat < 128) (hs : t.size ≤ 1000000) :
    Calls Tryd.prog 68 #[.string t] w fun e w' => e = .returned (.tuple #[.int .u64 (dpV t.data.toList : Nat), .int .i64 (dpE t.data.toList)]) ∧ Below w.heap.size w w' := by
  have HW := Lib.hid hw
  clear hw
  go_enter Tryd.func68, Tryd.ntmps68
  go_wp2_with fail
  go_loopw [4, 5] (fun sv nv wr => ∃ i : Nat, i ≤ t.size ∧ sv = .int .u64 (setV ((t.data.toList.take i).take 64) : Nat) ∧ nv = .int .i64 i ∧ wr.heap[w.heap.size]? = some (.stringIter t i) ∧ Hid ((t.data.toList.take i).all is01 = true) ∧ Below w.heap.size w wr) (fun _ nv _ => t.size - (intOf nv).toNat)
  case atStart =>
    refine ⟨0, Nat.zero_le _, rfl, rfl, ?_, Lib.hid rfl, below_al (Below.refl _ _) _⟩
    exact World.iter_heap w t 0
  case round =>
    obtain ⟨i, hi, rfl, rfl, hit, HA, hbel⟩ := hrel
    by_cases hp : i < t.size
    · have hts := take_snoc t i hp
      have ha := HW.out _ (mem_data t i hp)
      have hnx0 := fun ty => Lib.run_next_ascii_at (P := Tryd.prog) wr w.heap.size t i ty hit hp ha
      have hit2 := Lib.iterAt_heap wr w.heap.size t i (i + 1) hit
      have hbw2 := Lib.below_iterAt hbel (k := w.heap.size) (Nat.le_refl _) t (i + 1)
      obtain ⟨c, hc⟩ : ∃ c, c = t[i] := ⟨_, rfl⟩
      rw [← hc] at hts
      have hnx : ∀ ty, (Instr.next (.pointer (some ⟨w.heap.size, 0, none⟩)) true ty).run Tryd.prog wr = .ok (.tuple #[.bool true, .int .i64 i, .int .i32 (c.toNat : Nat)]) (wr.iterAt w.heap.size t (i + 1)) := fun ty => by rw [hc]; exact hnx0 ty
      have HSV := Lib.hid (sv_step (t.data.toList.take i) c)
      have hli : (t.data.toList.take i).length = i := by rw [List.length_take, data_len]; omega
      have HT := Lib.hid hts
      have HLI := Lib.hid hli
      clear hnx0 ha hc hts hli
      by_cases h48 : c = 48
      · have e48 : ((c.toNat : Int) == 48) = true := by rw [h48]; rfl
        have HN : Hid (setV ((t.data.toList.take (i + 1)).take 64) = setV ((t.data.toList.take i).take 64)) := Lib.hid (by rw [HT.out, HSV.out, if_neg (fun h => by rw [h48] at h; exact absurd h.1 (by decide)), Nat.add_zero])
        have HA2 : Hid ((t.data.toList.take (i + 1)).all is01 = true) := Lib.hid (by rw [HT.out, List.all_append, HA.out, h48]; rfl)
        clear h48
        go_wp2_with fail
        go_roundw
        case rel => exact ⟨i + 1, by omega, by rw [HN.out], by go_num, hit2, HA2, hbw2⟩
        case measure => simp [intOf]; omega
      · have n48 : ((c.toNat : Int) == 48) = false := by
          rw [beq_eq_false_iff_ne]
          exact fun e => h48 (UInt8.toNat_inj.1 (by show c.toNat = 48; omega))
        by_cases h49 : c = 49
        · have e49 : ((c.toNat : Int) == 49) = true := by rw [h49]; rfl
          have HA2 : Hid ((t.data.toList.take (i + 1)).all is01 = true) := Lib.hid (by rw [HT.out, List.all_append, HA.out, h49]; rfl)
          by_cases h64 : i < 64
          · have HN : Hid (setV ((t.data.toList.take (i + 1)).take 64) = setV ((t.data.toList.take i).take 64) + 2 ^ i) := Lib.hid (by rw [HT.out, HSV.out, HLI.out, if_pos ⟨h49, h64⟩])
            have HLT : Hid (setV ((t.data.toList.take i).take 64) < 2 ^ i) := Lib.hid (by
              have := setV_lt ((t.data.toList.take i).take 64)
              rw [List.take_of_length_le (by rw [HLI.out]; omega)] at this ⊢
              rwa [HLI.out] at this)
            clear h48 h49
            go_wp2_with fail
            refine (with_any _ i _ HLT.out h64).mono ?_
            rintro e w2 ⟨rfl, rfl⟩
            go_wp2
            go_roundw
            case rel => exact ⟨i + 1, by omega, by rw [HN.out, Int.natCast_add, Int.natCast_pow]; rfl, by go_num, hit2, HA2, hbw2⟩
            case measure => simp [intOf]; omega
          · have HN : Hid (setV ((t.data.toList.take (i + 1)).take 64) = setV ((t.data.toList.take i).take 64)) := Lib.hid (by rw [HT.out, HSV.out, HLI.out, if_neg (by omega), Nat.add_zero])
            clear h48 h49
            go_wp2_with fail
            refine (with_far _ i _ (by omega)).mono ?_
            rintro e w2 ⟨rfl, rfl⟩
            go_wp2
            go_roundw
            case rel => exact ⟨i + 1, by omega, by rw [HN.out], by go_num, hit2, HA2, hbw2⟩
            case measure => simp [intOf]; omega
        · have n49 : ((c.toNat : Int) == 49) = false := by
            rw [beq_eq_false_iff_ne]
            exact fun e => h49 (UInt8.toNat_inj.1 (by show c.toNat = 49; omega))
          have HF : Hid (setOk t.data.toList = false) := Lib.hid (by
            rw [setOk_iff, Bool.and_eq_false_iff]
            right
            rw [List.all_eq_false]
            refine ⟨c, List.mem_of_mem_take (i := i + 1) (by rw [HT.out]; simp), ?_⟩
            simp [is01, h48, h49])
          clear h48 h49
          go_wp2_with fail
          go_ret2
          rw [dpV, dpE, HF.out]
          exact ⟨rfl, hbw2⟩
    · obtain rfl : i = t.size := by omega
      have hnx : ∀ ty, (Instr.next (.pointer (some ⟨w.heap.size, 0, none⟩)) true ty).run Tryd.prog wr = _ := fun ty => Lib.run_next_end_at wr w.heap.size t t.size ty hit hp
      have hl : t.data.toList.take t.size = t.data.toList := take_all t
      have HA3 : Hid (t.data.toList.all is01 = true) := Lib.hid (by have := HA.out; rwa [hl] at this)
      rw [hl]
      clear hl HA
      by_cases h0 : t.size = 0
      · have HF : Hid (setOk t.data.toList = false) := Lib.hid (by
          rw [setOk_iff, List.eq_nil_of_length_eq_zero (l := t.data.toList) (by rw [data_len]; exact h0)]
          rfl)
        have e0 : ((t.size : Int) == 0) = true := by rw [h0]; rfl
        go_wp2_with fail
        go_ret2
        rw [dpV, dpE, HF.out]
        exact ⟨rfl, hbel⟩
      · have HF : Hid (setOk t.data.toList = true) := Lib.hid (by
          rw [setOk_iff, HA3.out, Bool.and_true]
          cases e : t.data.toList with
          | nil => have := data_len t; rw [e] at this; simp at this; omega
          | cons a l => rfl)
        have e0 : ((t.size : Int) == 0) = false := by rw [beq_eq_false_iff_ne]; omega
        by_cases h64 : 64 < t.size
        · have d64 : decide ((64 : Int) < (t.size : Int)) = true := decide_eq_true (by omega)
          have HV : Hid (dpV t.data.toList = 0 ∧ dpE t.data.toList = 3) := Lib.hid (by rw [dpV, dpE, HF.out, setP, data_len]; simp [h64])
          go_wp2_with fail
          go_ret2
          rw [HV.out.1, HV.out.2]
          exact ⟨rfl, hbel⟩
        · have d64 : decide ((64 : Int) < (t.size : Int)) = false := decide_eq_false (by omega)
          have HV : Hid (dpV t.data.toList = setV (t.data.toList.take 64) ∧ dpE t.data.toList = 0) := Lib.hid (by rw [dpV, dpE, HF.out, setP, data_len, List.take_of_length_le (by rw [data_len]; omega)]; simp [h64])
          go_wp2_with fail
          go_ret2
          rw [HV.out.1, HV.out.2]
          exact ⟨rfl, hbel⟩
end Go.Proofs.YtigljnnjamdcnaaDoor

namespace Go.Proofs.YtigljnnjamdcnaaDoor
open Go.RowKit P05 P06 P07

theorem wpAnyM_weak {P : Program} {ops : Array Oper} {Q : Exit → Act → World → Prop} {S : World → Prop} {late : List Nat} : ∀ (n : Nat) (listed : Array Bool) (a : Act) (w : World), wpAnyM P ops Q S late n listed a w → wpAnyM P ops Q (fun _ => True) [] n listed a w
  | 0, _, _, _, h => h
  | n + 1, _, _, _, h => ⟨h.1, fun i hi => wpOp_mono (fun a' w' h' => ⟨fun _ => trivial, wpAnyM_weak n _ a' w' h'.2⟩) (h.2 i hi)⟩
theorem Below.set_both {B : Nat} {a w : World} (h : Below B a w) (p : Addr) (u : Value) : Below B (a.setCell p u) (w.setCell p u) :=
  ⟨h.os, h.tape, h.output, by simp; exact h.size, fun k hk => by
    simp only [World.setCell, Array.getElem?_modify]
    rw [h.block k hk]⟩
theorem u64info7 : (Tryd.prog.info? 68).map (fun i => (i.zero, i.size, i.bytes)) = some (some (.int .u64 0), 1, 8) := by kernel_rfl
theorem cinfo7 : (Tryd.prog.info? 41).map (fun i => (i.zero, i.size, i.bytes)) = some (some (.agg #[.int .i64 0, .int .i64 0, .slice none 0 0, .int .i64 0, .int .i64 0, .int .i64 0, .int .i64 0, .int .i64 0]), 8, 80) := by kernel_rfl
theorem take_snoc7 {α : Type} {l : List α} {k : Nat} {a : α} (h : l[k]? = some a) : l.take (k + 1) = l.take k ++ [a] := by rw [List.take_add_one, h]; rfl
theorem RdS.odd_ {w0 w : World} {R : Nat} {lv : Value} {L : List Line} {st : Rd} (h : RdS w0 R lv L w st) (b : Bool) : RdS w0 R lv L (w.setCell ⟨R, 9, none⟩ (.bool b)) { st with odd := b } := by
  obtain ⟨k, cv, dv, h1, h2, h3, h4, h5, h6⟩ := h
  exact ⟨k, cv, dv, h1, h2, h3.set_ 9 (.bool b), h4.set_low (p := ⟨R, 9, none⟩) (Nat.lt_succ_self _) _, h5.set_low (p := ⟨R, 9, none⟩) (Nat.lt_succ_self _) _, h6.setCell (p := ⟨R, 9, none⟩) (Nat.le_refl _) _⟩
theorem isWord_ascii {x : Word} (h : isWord x = true) : ∀ c ∈ x, c.toNat < 128 := by
  unfold isWord at h
  rw [Bool.and_eq_true, List.all_eq_true] at h
  intro c hc
  have := h.2 c hc
  simp only [okByte, Bool.and_eq_true, decide_eq_true_eq] at this
  omega
set_option maxHeartbeats 4000000 in
set_option maxRecDepth 100000 in
theorem visit_any (w0 : World) (R : Nat) (lv : Value) (L : List Line) (st : Rd) (l : List Word) (v : Value) (w : World) (hR : w0.heap.size ≤ R) (hs : RdS w0 R lv L w st) (hv : RStrs w0 v l) (hl : l.length ≤ 1000) (hx : ∀ x ∈ l, x.length ≤ 1000000 ∧ isWord x = true) (hcust : st.x.custs.length ≤ 1000000000) :
    Calls Tryd.prog 55 #[.pointer (some ⟨R, 0, none⟩), v] w fun e w' => e = .returned (.bool (visitC st.x.days l).isSome) ∧ Below R w0 w' ∧
      ∀ c o, visitC st.x.days l = some (c, o) → RdS w0 R lv L w' { st with x := ⟨st.x.days, st.x.veh, st.x.cap, st.x.len, st.x.custs ++ [c], st.x.dist⟩, odd := st.odd || o } ∧ KeepO R w w' := by
  have HS := Lib.hid hs
  have z := hs.lt
  have hfr := hs.from_
  have HFR := Lib.hid hfr
  have HX := Lib.hid hx
  obtain ⟨A, c, rfl, h1, h2, hlc⟩ := hv.open_
  have HL := Lib.hid hlc
  clear hs hv hlc hx
  cases l with
  | nil =>
    clear HL HX
    go_enter Tryd.func55, Tryd.ntmps55
    go_wp2
    go_ret
    exact ⟨rfl, HFR.out, fun c o h => by cases h⟩
  | cons d ps =>
    obtain ⟨b, o, rfl, hb, c0⟩ := HL.out 0 d rfl
    have y0 := cell_below hfr hR c0
    rw [Nat.add_zero] at y0
    have HD := Lib.hid (HX.out d (by simp))
    simp only [List.length_cons] at hl h1
    clear c0 hfr
    by_cases hn : isNum d = true
    rotate_left
    · have HF : Hid (visitC st.x.days (d :: ps) = none) := Lib.hid (by simp [visitC, hn])
      have HN := Lib.hid (show isNum d = false by simpa using hn)
      clear hn
      go_enter Tryd.func55, Tryd.ntmps55
      go_wp2_with fail
      refine (number_i d _ HD.out.1).mono ?_
      rintro e w4 ⟨rfl, rfl⟩
      rw [HN.out]
      go_wp2
      go_ret
      rw [HF.out]
      exact ⟨rfl, HFR.out, fun c o h => by cases h⟩
    · have HN := Lib.hid hn
      clear hn
      go_enter Tryd.func55, Tryd.ntmps55
      go_wp2_with fail
      refine (number_i d _ HD.out.1).mono ?_
      rintro e w4 ⟨rfl, rfl⟩
      rw [HN.out]
      go_wp2_with fail
      all_goals
        have HS4 := HS
        go_loopw [29] (fun iv wr => ∃ (i : Nat) (pv : Value) (w1 : World) (od : Bool), i ≤ ps.length ∧ iv = .int .i64 i ∧ Hid (RdS w0 R lv L w1 { st with odd := od }) ∧ w1.heap.size = w4.heap.size ∧ Below w4.heap.size w1 wr ∧
            Blk wr w4.heap.size 41 [.int .i64 1, .int .i64 (numI d), pv, .int .i64 0, .int .i64 0, .int .i64 0, .int .i64 0, .int .i64 0] ∧
            Hid (wr.ownsRow (w4.heap.size + 1) 68 1 pv i ((ps.take i).map fun x => .int .u64 (setP x : Nat))) ∧ Hid ((ps.take i).all setOk = true) ∧ Hid (od = (st.odd || (ps.take i).any fun p => decide ((p.length : Int) ≠ st.x.days))) ∧ Hid (KeepO R w4 w1)) (fun iv _ => ps.length - (intOf iv).toNat)
        case atStart =>
          exact ⟨0, .slice none 0 0, w4, st.odd, Nat.zero_le _, rfl, HS4, rfl, below_al (Below.refl _ _) _, Blk.new _ _ _, Lib.hid (World.ownsRow_nil _ _ _ _), Lib.hid rfl, Lib.hid (by simp), Lib.hid (KeepO.refl R w4)⟩
        case round =>
          obtain ⟨i, pv, w1, od, hi, rfl, HRS, hz1, hbel, hbox, HO, HA, HOD, HKO⟩ := hrel
          by_cases hlt : i < ps.length
          · try (exfalso; omega)
            all_goals
              obtain ⟨x, hx⟩ := some_of_lt hlt
              obtain ⟨b', o', hA, -, cx⟩ := HL.out (i + 1) x (by rw [List.getElem?_cons_succ]; exact hx)
              obtain ⟨rfl, rfl⟩ : b = b' ∧ o = o' := by simpa using hA
              have z1 := HRS.out.lt
              have hfr1 : Below R w0 wr := HRS.out.from_.trans (hbel.mono (by omega))
              have y1 := cell_below hfr1 hR cx
              rw [show o + (i + 1) = o + 1 + i by omega] at y1
              have HXX := Lib.hid (HX.out x (List.mem_cons_of_mem _ (List.mem_of_getElem? hx)))
              have HXM := Lib.hid (List.mem_of_getElem? hx)
              have HTK := Lib.hid (take_snoc7 hx)
              obtain ⟨t, ht⟩ : ∃ t : ByteArray, t = ⟨x.toArray⟩ := ⟨_, rfl⟩
              have htl : t.data.toList = x := by rw [ht]
              rw [← ht] at y1
              have HTL := Lib.hid htl
              have htsz : t.size = x.length := by rw [← data_len, htl]
              have HTZ := Lib.hid htsz
              have hzr := hbox.lt
              clear hx hA cx ht htl htsz
              go_wp2_with fail
              refine (dparse_any t _ (by rw [HTL.out]; exact isWord_ascii HXX.out.2) (by rw [HTZ.out]; exact HXX.out.1)).mono ?_
              rintro e w5 ⟨rfl, hb5⟩
              rw [HTL.out]
              have bel5 := hbel.trans (hb5.mono (Nat.le_of_lt hzr))
              have hbox5 := hbox.below hb5 hzr
              by_cases hok : setOk x = true
              rotate_left
              · have HF : Hid (visitC st.x.days (d :: ps) = none) := Lib.hid (by
                  have : ps.all setOk = false := by rw [List.all_eq_false]; exact ⟨x, HXM.out, hok⟩
                  simp [visitC, this])
                have e2 : dpE x = 2 := by unfold dpE; rw [if_neg hok]
                rw [e2]
                have HB5 := Lib.hid ((HRS.out.from_.trans (bel5.mono (by omega))))
                clear hok e2
                go_wp2_with fail
                go_ret
                rw [HF.out]
                exact ⟨rfl, HB5.out, fun c o h => by cases h⟩
              · have hv5 : dpV x = setP x := by unfold dpV; rw [if_pos hok]
                rw [hv5]
                obtain ⟨ev, hev, hev2⟩ : ∃ ev : Int, dpE x = ev ∧ (ev == 2) = false := ⟨_, rfl, by unfold dpE; rw [if_pos hok]; split <;> rfl⟩
                rw [hev]
                have HOK := Lib.hid hok
                clear hok hv5 hev
                obtain ⟨kk, cv, dv, q1, q2, q3, q4, q5, q6⟩ := HRS.out
                have qB := q3.below bel5 z
                have d2 := qB.cell 2
                have hin : i ≤ 1000000000 := by omega
                have hz5 := hb5.size
                clear q1 q2 q3 q4 q5 q6
                by_cases hld : (x.length : Int) = st.x.days
                · have hne : ((t.size : Int) != st.x.days) = false := by rw [HTZ.out, hld]; simp
                  have how := own_below HO.out hb5 (Nat.le_refl _)
                  have hbxq := hbox5
                  have e5 : w5.cell? ⟨w4.heap.size, 2, none⟩ = some pv := hbox5.cell 2
                  have hbase : w4.heap.size + 1 ≤ w5.heap.size := by omega
                  have HLD := Lib.hid hld
                  clear hld
                  go_wp2_with (at_builtin; refine wpList_append_one' _ rfl (.tmp 52) (.tmp 54) 39 rfl (w4.heap.size + 1) 68 _ 1 8 Tryd.underlying39 u64info7 rfl (by decide) (by decide) _ _ _ how rfl [.int .u64 (setP x : Nat)] _ rfl rfl rfl hin hbase ?_; intro g cap w6 ho6 hg0 hg1 hk6 hz6; have hb6 := hk6.below hbase; have hbx6 := hbxq.below hb6 (Nat.lt_succ_self _); have e6 : w6.cell? ⟨w4.heap.size, 2, none⟩ = some pv := hbx6.cell 2; have f6 : w6.frozen? ⟨w4.heap.size, 2, none⟩ = false := hbx6.frozen 2)
                  go_roundw
                  case rel =>
                    refine ⟨i + 1, .slice (some ⟨g, 0, none⟩) (i + 1) cap, w1, od, by omega, by go_num, HRS, hz1, (bel5.trans (hb6.mono (Nat.le_succ _))).setCell (p := ⟨w4.heap.size, 2, none⟩) (Nat.le_refl _) _, hbx6.set_ 2 _, Lib.hid ?_, Lib.hid ?_, Lib.hid ?_, HKO⟩
                    · rw [HTK.out, List.map_append]
                      exact own_set_low (p := ⟨w4.heap.size, 2, none⟩) ho6 (Nat.lt_succ_self _) _
                    · rw [HTK.out, List.all_append, HA.out]
                      simp [HOK.out]
                    · rw [HTK.out, List.any_append, HOD.out]
                      simp [HLD.out]
                  case measure => simp [intOf]; omega
                · have hne : ((t.size : Int) != st.x.days) = true := by rw [HTZ.out, bne_iff_ne]; exact hld
                  have d9 := qB.cell 9
                  have f9 := qB.frozen 9
                  have how := own_set_low (p := ⟨R, 9, none⟩) (own_below HO.out hb5 (Nat.le_refl _)) (by show R < w4.heap.size + 1; omega) (.bool true)
                  have hbxq := hbox5.far (p := ⟨R, 9, none⟩) (by show w4.heap.size ≠ R; omega) (.bool true)
                  have e5 : w5.cell? ⟨w4.heap.size, 2, none⟩ = some pv := hbox5.cell 2
                  have e7 : (w5.setCell ⟨R, 9, none⟩ (.bool true)).cell? ⟨w4.heap.size, 2, none⟩ = some pv := hbxq.cell 2
                  have hzz : (w5.setCell ⟨R, 9, none⟩ (.bool true)).heap.size = w5.heap.size := by simp
                  have hbase : w4.heap.size + 1 ≤ (w5.setCell ⟨R, 9, none⟩ (.bool true)).heap.size := by rw [hzz]; omega
                  have HLD := Lib.hid hld
                  clear hld
                  go_wp2_with (at_builtin; refine wpList_append_one' _ rfl (.tmp 52) (.tmp 54) 39 rfl (w4.heap.size + 1) 68 _ 1 8 Tryd.underlying39 u64info7 rfl (by decide) (by decide) _ _ _ how rfl [.int .u64 (setP x : Nat)] 1 (by rw [hzz]; rfl) rfl rfl hin hbase ?_; intro g cap w6 ho6 hg0 hg1 hk6 hz6; have hb6 := hk6.below hbase; have hbx6 := hbxq.below hb6 (Nat.lt_succ_self _); have e6 : w6.cell? ⟨w4.heap.size, 2, none⟩ = some pv := hbx6.cell 2; have f6 : w6.frozen? ⟨w4.heap.size, 2, none⟩ = false := hbx6.frozen 2)
                  go_roundw
                  case rel =>
                    refine ⟨i + 1, .slice (some ⟨g, 0, none⟩) (i + 1) cap, w1.setCell ⟨R, 9, none⟩ (.bool true), true, by omega, by go_num, Lib.hid (HRS.out.odd_ true), by simp; exact hz1, ((Below.set_both bel5 ⟨R, 9, none⟩ (.bool true)).trans (hb6.mono (Nat.le_succ _))).setCell (p := ⟨w4.heap.size, 2, none⟩) (Nat.le_refl _) _, hbx6.set_ 2 _, Lib.hid ?_, Lib.hid ?_, Lib.hid ?_, Lib.hid (HKO.out.set 9 _)⟩
                    · rw [HTK.out, List.map_append]
                      exact own_set_low (p := ⟨w4.heap.size, 2, none⟩) ho6 (Nat.lt_succ_self _) _
                    · rw [HTK.out, List.all_append, HA.out]
                      simp [HOK.out]
                    · rw [HTK.out, List.any_append]
                      simp [HLD.out]
                  case measure => simp [intOf]; omega
          · obtain rfl : i = ps.length := by omega
            obtain ⟨Ap, cp, rfl, -⟩ := RS.of_own HO.out
            obtain ⟨kk, cv, dv, q1, q2, q3, q4, q5, q6⟩ := HRS.out
            have hbel1 : Below w1.heap.size w1 wr := by rw [hz1]; exact hbel
            have qB := q3.below hbel z
            obtain ⟨pvs, g1, g2, g3⟩ := q4.below hbel1 (Nat.le_refl _)
            have q5' := q5.below hbel1 (Nat.le_refl _)
            have q6' := q6.trans (hbel.mono (Nat.le_of_lt z))
            have hzb := hbox.lt
            have hcn : st.x.custs.length ≤ 1000000000 := hcust
            have hbase : R + 1 ≤ wr.heap.size := by omega
            simp only at g1 g2 g3
            clear q3 q4 q5 q6
            go_wp2_with fail
            refine wp_region_N (fun _ => True) [] (by kernel_rfl) trivial (fun hT => ?_)
            refine wpAnyM_take 0 (v := ?_) rfl (by kernel_rfl) (fun _ _ _ h => h) (by rfl) ?_ hT ?_
            rotate_left
            · intro wS hSw
              (try dsimp only at hSw)
              go_simp
              try with_reducible rfl
            try simp only [Act.put, List.setIfInBounds_toArray]
            refine wpAnyM_weak (S := fun wS => Below wr.heap.size wr wS) (late := [8, 9, 10, 11, 12]) _ _ _ _ ?_
            have hS : Below wr.heap.size wr wr.drew := (Below.refl _ _).drew
            refine wpAnyM_take 1 (v := ?_) rfl (by kernel_rfl) (fun _ _ _ h => h) (by rfl) ?_ hS ?_
            rotate_left
            · intro wS hSw
              (try dsimp only at hSw)
              go_simp
              try with_reducible rfl
            try simp only [Act.put]
            refine wpAnyM_take 2 (v := ?_) rfl (by kernel_rfl) (fun _ _ _ h => h) (by rfl) ?_ hS ?_
            rotate_left
            · intro wS hSw
              (try dsimp only at hSw)
              go_simp
              try with_reducible rfl
            try simp only [Act.put]
            refine wpAnyM_take 3 (v := ?_) rfl (by kernel_rfl) (fun _ _ _ h => h) (by rfl) ?_ hS ?_
            rotate_left
            · intro wS hSw
              (try dsimp only at hSw)
              go_simp
              try with_reducible rfl
            try simp only [Act.put]
            refine wpAnyM_take 4 (v := ?_) rfl (by kernel_rfl) (fun _ _ _ h => h) (by rfl) ?_ hS ?_
            rotate_left
            · intro wS hSw
              (try dsimp only at hSw)
              go_simp
              try with_reducible rfl
            try simp only [Act.put]
            refine wpAnyM_take 5 (v := ?_) rfl (by kernel_rfl) (fun _ _ _ h => h) (by rfl) ?_ hS ?_
            rotate_left
            · intro wS hSw
              (try dsimp only at hSw)
              have hc := (qB.below hSw qB.lt).cell 6
              simp only [List.getElem?_cons_succ, List.getElem?_cons_zero] at hc
              go_simp
              try with_reducible rfl
            try simp only [Act.put]
            refine wpAnyM_take 6 (v := ?_) rfl (by kernel_rfl) (fun _ _ _ h => h) (by rfl) ?_ hS ?_
            rotate_left
            · intro wS hSw
              (try dsimp only at hSw)
              obtain ⟨k0, k1, k2, k3, k4, k5, k6, k7⟩ := (hbox.below hSw hbox.lt).cells8
              go_simp
              try with_reducible rfl
            try simp only [Act.put]
            refine wpAnyM_one 7 rfl (by kernel_rfl) (by rfl) (fun K hK => ?_)
            go_simp
            refine hK.out _ _ (hS.alloc hS.size _) ?_
            clear hK K
            try simp only [Act.put, List.setIfInBounds_toArray, List.set_cons_zero, List.set_cons_succ]
            refine wpAnyM_late 8 rfl (by kernel_rfl) (by kernel_rfl) (by rfl) (fun K hK => ?_)
            refine wp_append_one wr.drew _ _ _ (by rfl) (R + 1) 41 _ 8 80 Tryd.underlying22 cinfo7 rfl (by decide) (by decide) _ _ _ g2.drew (by rfl) (custCells ⟨1, numI d, ps.map setP, 0, 0, 0, 0, 0⟩ (.slice Ap ps.length cp)) _ (by rfl) rfl rfl hcn hbase ?_
            intro g cap w6 ho6 hg0 hg1 hk6 hz6
            have hb6 := hk6.below (show R + 1 ≤ wr.drew.heap.size from hbase)
            have hB6 := (qB.drew).below hb6 (Nat.lt_succ_self _)
            refine hK.out _ _ ?_
            clear hK K
            try simp only [Act.put, List.setIfInBounds_toArray]
            refine wpAnyM_late 9 rfl (by kernel_rfl) (by kernel_rfl) (by rfl) (fun K hK => ?_)
            go_simp
            refine hK.out _ _ ?_
            clear hK K
            try simp only [Act.put, List.setIfInBounds_toArray, List.set_cons_zero, List.set_cons_succ]
            refine wpAnyM_late 10 rfl (by kernel_rfl) (by kernel_rfl) (by rfl) (fun K hK => ?_)
            go_simp
            refine hK.out _ _ ?_
            clear hK K
            try simp only [Act.put, List.setIfInBounds_toArray, List.set_cons_zero, List.set_cons_succ]
            refine wpAnyM_late 11 rfl (by kernel_rfl) (by kernel_rfl) (by rfl) (fun K hK => ?_)
            go_simp
            refine hK.out _ _ ?_
            clear hK K
            try simp only [Act.put, List.setIfInBounds_toArray, List.set_cons_zero, List.set_cons_succ]
            refine wpAnyM_late 12 rfl (by kernel_rfl) (by kernel_rfl) (by rfl) (fun K hK => ?_)
            have e6 : w6.cell? ⟨R, 6, none⟩ = some cv := hB6.cell 6
            have f6 := hB6.frozen 6
            go_simp
            refine hK.out _ _ ?_
            clear hK K
            try simp only [Act.put, List.setIfInBounds_toArray, List.set_cons_zero, List.set_cons_succ]
            refine wpAnyM_done (by kernel_rfl) ?_
            unfold onlyN
            go_wp2_with fail
            go_ret
            have hall : ps.all setOk = true := by have := HA.out; rwa [List.take_length] at this
            have hod : od = (st.odd || ps.any fun p => decide ((p.length : Int) ≠ st.x.days)) := by have := HOD.out; rwa [List.take_length] at this
            have HVC : visitC st.x.days (d :: ps) = some (⟨1, numI d, ps.map setP, 0, 0, 0, 0, 0⟩, ps.any fun p => decide ((p.length : Int) ≠ st.x.days)) := by
              simp only [visitC]
              rw [HN.out, hall]
              rfl
            have hown : wr.ownsRow (R + 1) 68 1 (.slice Ap ps.length cp) (ps.map setP).length ((ps.map setP).map fun (s : Nat) => Value.int .u64 (s : Int)) := by
              have := own_mono (base' := R + 1) HO.out (by omega)
              rw [List.take_length] at this
              rw [List.length_map, List.map_map]
              exact this
            have hB7 := hB6.set_ 6 (.slice (some ⟨g, 0, none⟩) (st.x.custs.length + 1) cap)
            simp only [List.set_cons_succ, List.set_cons_zero] at hB7
            obtain ⟨rvs, r1, r2⟩ := q5'
            have hfin : Below R w0 (w6.setCell ⟨R, 6, none⟩ (.slice (some ⟨g, 0, none⟩) (st.x.custs.length + 1) cap)) := (q6'.drew.trans (hb6.mono (Nat.le_succ R))).setCell (p := ⟨R, 6, none⟩) (Nat.le_refl _) _
            rw [HVC]
            refine ⟨rfl, hfin, fun c' o' h => ?_⟩
            obtain ⟨rfl, rfl⟩ := Prod.mk.inj (Option.some.inj h)
            rw [← hod]
            refine ⟨⟨kk, .slice (some ⟨g, 0, none⟩) (st.x.custs.length + 1) cap, dv, q1, q2, hB7, ?_, ?_, hfin⟩, (((HKO.out.below hbel1).below ((Below.refl _ _).drew)).keep hk6 (by decide)).set 6 _⟩
            · exact (OwnCusts.push rfl g1 ho6 (fun i x qv hx hq => hk6.own (g3 i x qv hx hq).drew (by decide)) (hk6.own hown.drew (by decide))).set_low (p := ⟨R, 6, none⟩) (Nat.lt_succ_self _) _
            · exact OwnRows.set_low (p := ⟨R, 6, none⟩) ⟨rvs, hk6.own r1.drew (by decide), fun i r rv h h' => hk6.own (r2 i r rv h h').drew (by decide)⟩ (Nat.lt_succ_self _) _
end Go.Proofs.YtigljnnjamdcnaaDoor
