/-
  The reader in memory.
  The walks of the reader: the next line.
  The walks of the reader: slices.Equal at strings, the title, the end.
  The walks of the reader: numbers behind names.
-/
import Derived.Test.YtigljnnjamdcnaaDoorQD
import Derived.Test.YtigljnnjamdcnaaDoorQG
import Derived.Test.YtigljnnjamdcnaaDoorQC
import Derived.WalkLawsBesides
import Derived.BigQuiet
import Derived.Deep.QuietTactic
import Derived.Outline
import Derived.Test.YtigljnnjamdcnaaDoorQE
namespace Go.Proofs.YtigljnnjamdcnaaDoor
open Go.RowKit P06 P07

/-- The reader's block, over a world w0 that has the lines. -/
def RdS (w0 : World) (R : Nat) (lv : Value) (L : List Line) (w : World) (st : Rd) : Prop :=
  ∃ (k : Nat) (cv dv : Value), k ≤ L.length ∧ L.drop k = st.rest ∧
    Blk w R 65 [lv, .int .i64 k, .int .i64 st.x.days, .int .i64 st.x.veh, .int .i64 st.x.cap, .int .i64 st.x.len, cv, dv, .int .i64 st.count, .bool st.odd] ∧
    OwnCusts (R + 1) 41 68 w cv st.x.custs ∧ OwnRows (R + 1) 43 3 w dv st.x.dist ∧ Below R w0 w
theorem RdS.below {w0 w w' : World} {R : Nat} {lv : Value} {L : List Line} {st : Rd} (h : RdS w0 R lv L w st) (hb : Below w.heap.size w w') : RdS w0 R lv L w' st := by
  obtain ⟨k, cv, dv, h1, h2, h3, h4, h5, h6⟩ := h
  exact ⟨k, cv, dv, h1, h2, h3.below hb h3.lt, h4.below hb (Nat.le_refl _), h5.below hb (Nat.le_refl _), h6.trans (hb.mono (Nat.le_of_lt h3.lt))⟩
theorem RdS.lt {w0 w : World} {R : Nat} {lv : Value} {L : List Line} {st : Rd} (h : RdS w0 R lv L w st) : R < w.heap.size := by
  obtain ⟨k, cv, dv, h1, h2, h3, h4, h5, h6⟩ := h
  exact h3.lt
theorem RdS.from_ {w0 w : World} {R : Nat} {lv : Value} {L : List Line} {st : Rd} (h : RdS w0 R lv L w st) : Below R w0 w := by
  obtain ⟨k, cv, dv, h1, h2, h3, h4, h5, h6⟩ := h
  exact h6
theorem Blk.cells10 {w : World} {g : Nat} {t : TypeId} {a0 a1 a2 a3 a4 a5 a6 a7 a8 a9 : Value} (h : Blk w g t [a0, a1, a2, a3, a4, a5, a6, a7, a8, a9]) :
    w.cell? ⟨g, 0, none⟩ = some a0 ∧ w.cell? ⟨g, 1, none⟩ = some a1 ∧ w.cell? ⟨g, 2, none⟩ = some a2 ∧ w.cell? ⟨g, 3, none⟩ = some a3 ∧ w.cell? ⟨g, 4, none⟩ = some a4 ∧ w.cell? ⟨g, 5, none⟩ = some a5 ∧ w.cell? ⟨g, 6, none⟩ = some a6 ∧ w.cell? ⟨g, 7, none⟩ = some a7 ∧ w.cell? ⟨g, 8, none⟩ = some a8 ∧ w.cell? ⟨g, 9, none⟩ = some a9 :=
  ⟨h.cell 0, h.cell 1, h.cell 2, h.cell 3, h.cell 4, h.cell 5, h.cell 6, h.cell 7, h.cell 8, h.cell 9⟩
theorem Blk.free10 {w : World} {g : Nat} {t : TypeId} {cs : List Value} (h : Blk w g t cs) : ∀ i, w.frozen? ⟨g, i, none⟩ = false := fun i => h.frozen i
/-- What no list of the reader's can lie in: maps, functions. -/
def OtherO (o : Obj) : Prop := ∀ cs e fr, o = .cells cs e fr → e = 34
/-- All such blocks but R are as they were. -/
def KeepO (R : Nat) (w w' : World) : Prop := ∀ g o, g ≠ R → OtherO o → w.heap[g]? = some o → w'.heap[g]? = some o
theorem KeepO.refl (R : Nat) (w : World) : KeepO R w w := fun _ _ _ _ h => h
theorem KeepO.trans {R : Nat} {a b c : World} (h : KeepO R a b) (h2 : KeepO R b c) : KeepO R a c := fun g o hg ho hb => h2 g o hg ho (h g o hg ho hb)
theorem KeepO.below {R : Nat} {a w w' : World} (h : KeepO R a w) (hb : Below w.heap.size w w') : KeepO R a w' := fun g o hg ho hx => by
  have h1 := h g o hg ho hx
  rw [hb.block g (Array.getElem?_eq_some_iff.1 h1).1]; exact h1
theorem KeepO.keep {R : Nat} {a w w' : World} {e : TypeId} {base : Nat} (h : KeepO R a w) (hk : Keep e base w w') (he : e ≠ 34) : KeepO R a w' := fun g o hg ho hx => by
  have h1 := h g o hg ho hx
  rw [hk.block g (Array.getElem?_eq_some_iff.1 h1).1 (.inr fun cs fr h2 => he (ho cs e fr (Option.some.inj (h1.symm.trans h2))))]; exact h1
theorem KeepO.set {R : Nat} {a w : World} (h : KeepO R a w) (i : Nat) (v : Value) : KeepO R a (w.setCell ⟨R, i, none⟩ v) := fun g o hg ho hx => by
  have h1 := h g o hg ho hx
  simp only [World.setCell]
  rw [Array.getElem?_modify]
  rw [if_neg (show ¬ R = g from fun e => hg e.symm)]
  exact h1
end Go.Proofs.YtigljnnjamdcnaaDoor

namespace Go.Proofs.YtigljnnjamdcnaaDoor
open Go.RowKit P06 P07

set_option maxHeartbeats 2000000 in
set_option maxRecDepth 100000 in
theorem next_full (w0 : World) (R : Nat) (lv : Value) (L : List Line) (st : Rd) (w : World) (hL : RLines w0 lv L) (hR : w0.heap.size ≤ R) (hs : RdS w0 R lv L w st) (_hn : L.length ≤ 1000000) :
    Calls Tryd.prog 53 #[.pointer (some ⟨R, 0, none⟩)] w fun e w' => ∃ v, e = .returned v ∧ RStrs w0 v (nextR st).1 ∧ RdS w0 R lv L w' (nextR st).2 ∧ (∀ g t cs, g ≠ R → Blk w g t cs → Blk w' g t cs) ∧ KeepO R w w' := by
  obtain ⟨rest, x, n, o⟩ := st
  obtain ⟨k, cv, dv, h1, h2, h3, h4, h5, h6⟩ := hs
  simp only at h2 h3 h4 h5
  obtain ⟨A, c, rfl, q1, q2, hc⟩ := RLines.open_ hL
  obtain ⟨c0, c1, c2, c3, c4, c5, c6, c7, c8, c9⟩ := h3.cells10
  have f1 := h3.free10 1
  by_cases hk : k < L.length
  · obtain ⟨l, hl⟩ := some_of_lt hk
    obtain ⟨b, o2, rfl, hb, v, hv, hcell⟩ := hc k l hl
    have hcw := cell_below h6 hR hcell
    have hcw0 := Lib.hid hcell
    have hdr : rest = l :: L.drop (k + 1) := by rw [← h2]; exact List.drop_eq_getElem?_toList_append.trans (by rw [hl]; rfl)
    have HV := Lib.hid hv
    have HD := Lib.hid hdr
    clear hL hc hl hv hcell hdr
    go_enter Tryd.func53, Tryd.ntmps53
    go_wp2_with fail
    go_quiet (fail)
    go_wp2_with fail
    have hB := (h3.drewN nq).set_ 1 (.int .i64 ((k : Int) + 1))
    simp only [List.set_cons_succ, List.set_cons_zero] at hB
    have hW := (below_drewN h6 nq).setCell (p := ⟨R, 1, none⟩) (Nat.le_refl _) (.int .i64 ((k : Int) + 1))
    have hcw2 := cell_below hW hR hcw0.out
    obtain ⟨d0, d1, d2, d3, d4, d5, d6, d7, d8, d9⟩ := hB.cells10
    have hk1 : (k : Int) + 1 - 1 = (k : Int) := by omega
    have HS : Hid (RdS w0 R (.slice (some ⟨b, o2, none⟩) L.length c) L ((w.drewN nq).setCell ⟨R, 1, none⟩ (.int .i64 ((k : Int) + 1))) ⟨L.drop (k + 1), x, n, o⟩) :=
      Lib.hid ⟨k + 1, cv, dv, by omega, rfl, by rw [show (((k + 1 : Nat)) : Int) = (k : Int) + 1 by omega]; exact hB, (h4.below (below_drewN (Below.refl w.heap.size w) nq) (Nat.le_refl _)).set_low (p := ⟨R, 1, none⟩) (Nat.lt_succ_self _) _, (h5.below (below_drewN (Below.refl w.heap.size w) nq) (Nat.le_refl _)).set_low (p := ⟨R, 1, none⟩) (Nat.lt_succ_self _) _, hW⟩
    clear c0 c1 hcw
    go_quiet (fail)
    go_wp2_with fail
    go_ret
    rw [HD.out]
    exact ⟨_, rfl, HV.out, HS.out.below (below_drewN (Below.refl _ _) _), fun g t cs hg hb => ((hb.drewN _).far (p := ⟨R, 1, none⟩) hg _).drewN _, (((KeepO.refl R w).below (below_drewN (Below.refl _ _) _)).set 1 _).below (below_drewN (Below.refl _ _) _)⟩
  · have hnil : rest = [] := by rw [← h2]; exact List.drop_eq_nil_of_le (by omega)
    subst hnil
    clear hL hc
    go_enter Tryd.func53, Tryd.ntmps53
    go_wp2_with fail
    have HS : Hid (RdS w0 R (.slice A L.length c) L w ⟨[], x, n, o⟩) := Lib.hid ⟨k, cv, dv, h1, h2, h3, h4, h5, h6⟩
    go_quiet (fail)
    go_wp2_with fail
    go_ret
    exact ⟨_, rfl, RS.none_ _ _, HS.out.below (below_drewN (Below.refl _ _) _), fun g t cs hg hb => hb.drewN _, (KeepO.refl R w).below (below_drewN (Below.refl _ _) _)⟩
end Go.Proofs.YtigljnnjamdcnaaDoor

namespace Go.Proofs.YtigljnnjamdcnaaDoor
open Go.RowKit P06 P07

theorem drop_step {α : Type} {l m : List α} {k : Nat} {a b : α} (ha : l[k]? = some a) (hb : m[k]? = some b) : (l.drop k = m.drop k) ↔ (a = b ∧ l.drop (k + 1) = m.drop (k + 1)) := by
  rw [List.drop_eq_getElem?_toList_append (l := l), List.drop_eq_getElem?_toList_append (l := m), ha, hb]
  simp
set_option maxHeartbeats 1000000 in
theorem equalS_any (lv mv : Value) (l m : List (List UInt8)) (w : World) (hl : RStrs w lv l) (hm : RStrs w mv m) :
    Calls Tryd.prog 52 #[lv, mv] w fun e w' => e = .returned (.bool (decide (l = m))) ∧ ∃ n, w' = w.drewN n := by
  obtain ⟨A, c, rfl, h1, h2, hlc⟩ := hl.open_
  obtain ⟨A', c', rfl, h1', h2', hmc⟩ := hm.open_
  have HL := Lib.hid hlc
  have HM := Lib.hid hmc
  clear hlc hmc hl hm
  by_cases hlen : l.length = m.length
  rotate_left
  · have H : Hid (decide (l = m) = false) := Lib.hid (decide_eq_false fun e => hlen (by rw [e]))
    have hne : ((l.length : Int) != (m.length : Int)) = true := by rw [bne_iff_ne]; omega
    clear hlen
    go_enter Tryd.func52, Tryd.ntmps52
    go_wp2
    go_ret
    exact ⟨ret_bool H.out.symm, 0, rfl⟩
  · have HE := Lib.hid hlen
    have hne : ((l.length : Int) != (m.length : Int)) = false := by rw [bne_eq_false_iff_eq]; omega
    clear hlen
    go_enter Tryd.func52, Tryd.ntmps52
    go_wp2_with fail
    clear hne
    go_loopw [13] (fun iv wr => ∃ (k nd : Nat), k ≤ l.length ∧ iv = .int .i64 k ∧ wr = w.drewN nd ∧ Hid ((l = m) ↔ (l.drop k = m.drop k))) (fun iv _ => l.length - (intOf iv).toNat)
    case atStart => exact ⟨0, 0, Nat.zero_le _, rfl, rfl, Lib.hid Iff.rfl⟩
    case round =>
      obtain ⟨k, nd, hk, rfl, rfl, HI⟩ := hrel
      by_cases hlt : k < l.length
      · obtain ⟨a, ha⟩ := some_of_lt hlt
        have hltm : k < m.length := by have := HE.out; omega
        obtain ⟨b, hb⟩ := some_of_lt hltm
        have HS := Lib.hid (HI.out.trans (drop_step ha hb))
        obtain ⟨b0, o0, rfl, hb0, hk0⟩ := HL.out k a ha
        obtain ⟨b1, o1, rfl, hb1, hk1⟩ := HM.out k b hb
        clear ha hb
        by_cases hab : a = b
        · subst hab
          obtain ⟨sa, hsa⟩ : ∃ s : ByteArray, s = ⟨a.toArray⟩ := ⟨_, rfl⟩
          rw [← hsa] at hk0 hk1
          clear hsa
          go_wp2_with fail
          go_quiet (fail)
          go_wp2
          go_roundw
          case rel => exact ⟨k + 1, _, by omega, by go_num, rfl, Lib.hid (HS.out.trans (by simp))⟩
          case measure => simp [intOf]; omega
        · obtain ⟨sa, hsa⟩ : ∃ s : ByteArray, s = ⟨a.toArray⟩ := ⟨_, rfl⟩
          obtain ⟨sb, hsb⟩ : ∃ s : ByteArray, s = ⟨b.toArray⟩ := ⟨_, rfl⟩
          have hne : (sa.toList == sb.toList) = false := by
            rw [beq_eq_false_iff_ne, ByteArray.toList_eq, ByteArray.toList_eq, hsa, hsb]
            simpa using hab
          rw [← hsa] at hk0
          rw [← hsb] at hk1
          have HF : Hid (decide (l = m) = false) := Lib.hid (decide_eq_false fun e => hab (HS.out.1 e).1)
          clear hab hsa hsb
          go_wp2_with fail
          go_quiet (fail)
          go_wp2
          go_ret
          exact ⟨ret_bool HF.out.symm, _, World.drewN_drewN _ _ _⟩
      · have H : Hid (decide (l = m) = true) := Lib.hid (decide_eq_true (HI.out.2 (by rw [List.drop_eq_nil_of_le (by omega), List.drop_eq_nil_of_le (by have := HE.out; omega)])))
        go_wp2
        go_ret
        exact ⟨ret_bool H.out.symm, _, rfl⟩
theorem Blk.strs {w : World} {g : Nat} {t : TypeId} {l : List (List UInt8)} (h : Blk w g t (l.map bstr)) (hl : l.length ≤ 1000 := by decide) : RStrs w (.slice (some ⟨g, 0, none⟩) l.length l.length) l :=
  ⟨_, _, rfl, Nat.le_refl _, by simp only [maxLen]; omega, by simp, fun _ => ⟨g, 0, rfl, h.lt, fun j u hu => by rw [Nat.zero_add, h.cell]; exact hu⟩⟩
set_option maxHeartbeats 2000000 in
set_option maxRecDepth 100000 in
theorem title_any (w0 : World) (R : Nat) (lv : Value) (L : List Line) (st : Rd) (w : World) (hL : RLines w0 lv L) (hR : w0.heap.size ≤ R) (hs : RdS w0 R lv L w st) (hn : L.length ≤ 1000000) :
    Calls Tryd.prog 26 #[.pointer (some ⟨R, 0, none⟩)] w fun e w' => e = .returned (.bool (titleR st).isSome) ∧ Below R w0 w' ∧ ∀ st', titleR st = some st' → RdS w0 R lv L w' st' ∧ KeepO R w w' := by
  have HL := Lib.hid hL
  have HS := Lib.hid hs
  clear hL hs
  go_enter Tryd.func26, Tryd.ntmps26
  go_wp2_with fail
  refine (next_full w0 R lv L st _ HL.out hR HS.out hn).mono ?_
  rintro e w2 ⟨v, rfl, hv, hs2, -, hko⟩
  have HKO := Lib.hid hko
  have HS2 := Lib.hid hs2
  have hz2 := hs2.lt
  have HV := Lib.hid (RStrs.below hv hs2.from_ hR)
  have hB := Blk.new w2 9 [.string ⟨#[116, 114, 97, 110, 116, 101, 114]⟩, .string ⟨#[49]⟩]
  have HS3 : Hid (∀ o nd, RdS w0 R lv L ((w2.alloc o).drewN nd) (nextR st).2) := Lib.hid fun o nd => (HS2.out.below (below_al (Below.refl _ _) _)).below (below_drewN (Below.refl _ _) nd)
  clear hs2 hv hko
  go_wp2_with fail
  refine (equalS_any v _ (nextR st).1 [wTranter, wOne] _ (RStrs.below HV.out (below_al (Below.refl _ _) _) (Nat.le_refl _)) (Blk.strs (l := [wTranter, wOne]) hB)).mono ?_
  rintro e w3 ⟨rfl, nd, rfl⟩
  go_wp2
  go_ret
  have ht : titleR st = if (nextR st).1 = [wTranter, wOne] then some (nextR st).2 else none := rfl
  rw [ht]
  by_cases h : (nextR st).1 = [wTranter, wOne]
  · rw [if_pos h]
    exact ⟨ret_bool (decide_eq_true h), (HS3.out _ _).from_, fun st' e => by obtain rfl := Option.some.inj e; exact ⟨HS3.out _ _, (HKO.out.below (below_al (Below.refl _ _) _)).below (below_drewN (Below.refl _ _) _)⟩⟩
  · rw [if_neg h]
    exact ⟨ret_bool (decide_eq_false h), (HS3.out _ _).from_, fun st' e => by cases e⟩
theorem end_any (w0 : World) (R : Nat) (lv : Value) (L : List Line) (st : Rd) (w : World) (hL : RLines w0 lv L) (hs : RdS w0 R lv L w st) :
    Calls Tryd.prog 31 #[.pointer (some ⟨R, 0, none⟩)] w fun e w' => e = .returned (.bool (decide (st.rest = []))) ∧ RdS w0 R lv L w' st ∧ KeepO R w w' := by
  have HS := Lib.hid hs
  obtain ⟨k, cv, dv, h1, h2, h3, h4, h5, h6⟩ := hs
  obtain ⟨A, c, rfl, q1, q2, -⟩ := RLines.open_ hL
  obtain ⟨c0, c1, c2, c3, c4, c5, c6, c7, c8, c9⟩ := h3.cells10
  have HD : Hid (decide (st.rest = []) = ((k : Int) == (L.length : Int))) := by
    show _ = _
    rw [← h2]
    by_cases e : k = L.length
    · subst e; simp
    · rw [beq_eq_false_iff_ne.2 (by omega), decide_eq_false]
      rw [List.drop_eq_nil_iff]
      omega
  clear hL h2
  go_enter Tryd.func31, Tryd.ntmps31
  go_wp2_with fail
  go_quiet (fail)
  go_wp2
  go_ret
  exact ⟨ret_bool HD.out.symm, HS.out.below (below_drewN (Below.refl _ _) _), (KeepO.refl R w).below (below_drewN (Below.refl _ _) _)⟩
end Go.Proofs.YtigljnnjamdcnaaDoor

namespace Go.Proofs.YtigljnnjamdcnaaDoor
open Go.RowKit P05 P06 P07

theorem namedL_len {ns : List Word} {line : Line} (h : line.length ≠ 2 * ns.length) : namedL ns line = none := by
  cases e : namedL ns line with
  | none => rfl
  | some ds =>
    obtain ⟨h1, h2⟩ := namedL_inv ns line ds e
    exfalso
    apply h
    rw [h2]
    have : ∀ (a b : List Word), b.length = a.length → ((a.zip b).flatMap fun p => [p.1, p.2]).length = 2 * a.length := by
      intro a
      induction a with
      | nil => intro b _; rfl
      | cons x a ih =>
        intro b hb
        match b, hb with
        | y :: b, hb =>
          rw [List.zip_cons_cons, List.flatMap_cons, List.length_append, ih b (by simpa using hb)]
          simp
          omega
    exact this ns ds h1
theorem namedL_step {ns : List Word} {line : Line} {k : Nat} {n a b : Word} (hn : ns[k]? = some n) (ha : line[2 * k]? = some a) (hb : line[2 * k + 1]? = some b) :
    namedL (ns.drop k) (line.drop (2 * k)) = if a = n then (namedL (ns.drop (k + 1)) (line.drop (2 * (k + 1)))).map fun t => b :: t else none := by
  have e1 : ns.drop k = n :: ns.drop (k + 1) := List.drop_eq_getElem?_toList_append.trans (by rw [hn]; rfl)
  have e2 : line.drop (2 * k) = a :: line.drop (2 * k + 1) := List.drop_eq_getElem?_toList_append.trans (by rw [ha]; rfl)
  have e3 : line.drop (2 * k + 1) = b :: line.drop (2 * k + 1 + 1) := List.drop_eq_getElem?_toList_append.trans (by rw [hb]; rfl)
  rw [e1, e2, e3, namedL, show 2 * (k + 1) = 2 * k + 1 + 1 by omega]
/-- What the reader's walks know of the lines. -/
structure RdC (w0 : World) (R : Nat) (lv : Value) (L : List Line) : Prop where
  lines : RLines w0 lv L
  low : w0.heap.size ≤ R
  few : L.length ≤ 1000000
  small : ∀ l ∈ L, l.length ≤ 1000 ∧ ∀ x ∈ l, x.length ≤ 1000000
  words : ∀ l ∈ L, ∀ x ∈ l, isWord x = true
theorem RdS.next_small {w0 w : World} {R : Nat} {lv : Value} {L : List Line} {st : Rd} (h : RdS w0 R lv L w st) (hc : RdC w0 R lv L) : (nextR st).1.length ≤ 1000 ∧ ∀ x ∈ (nextR st).1, x.length ≤ 1000000 := by
  obtain ⟨k, cv, dv, h1, h2, h3, h4, h5, h6⟩ := h
  obtain ⟨rest, x, n, o⟩ := st
  simp only at h2
  cases rest with
  | nil => exact ⟨by simp [nextR], fun x hx => by simp [nextR] at hx⟩
  | cons a r => exact hc.small a (List.mem_of_mem_drop (by rw [h2]; simp))
theorem RdS.next_words {w0 w : World} {R : Nat} {lv : Value} {L : List Line} {st : Rd} (h : RdS w0 R lv L w st) (hc : RdC w0 R lv L) : ∀ x ∈ (nextR st).1, isWord x = true := by
  obtain ⟨k, cv, dv, h1, h2, h3, h4, h5, h6⟩ := h
  obtain ⟨rest, x, n, o⟩ := st
  simp only at h2
  cases rest with
  | nil => exact fun x hx => by simp [nextR] at hx
  | cons a r => exact hc.words a (List.mem_of_mem_drop (by rw [h2]; simp))
set_option maxHeartbeats 4000000 in
set_option maxRecDepth 100000 in
theorem named_any (w0 : World) (R : Nat) (lv : Value) (L : List Line) (st : Rd) (names : List Word) (g : Nat) (t : TypeId) (w : World) (hC : RdC w0 R lv L) (hs : RdS w0 R lv L w st) (hg : g ≠ R) (hb : Blk w g t (names.map bstr)) (hnl : names.length ≤ 4) :
    Calls Tryd.prog 54 #[.pointer (some ⟨R, 0, none⟩), .slice (some ⟨g, 0, none⟩) names.length names.length] w fun e w' => ∃ v, e = .returned (.tuple #[v, .bool (namedN names (nextR st).1).isSome]) ∧ RdS w0 R lv L w' (nextR st).2 ∧ KeepO R w w' ∧ ∀ m, namedN names (nextR st).1 = some m → OInts (R + 1) w' v m := by
  have HC := Lib.hid hC
  have HS := Lib.hid hs
  have HB := Lib.hid hb
  have HSM := Lib.hid (hs.next_small hC)
  have HNN : Hid (namedN names (nextR st).1 = (namedL names (nextR st).1).bind fun ds => if ds.all isNum then some (ds.map nI) else none) := Lib.hid rfl
  obtain ⟨line, hline⟩ : ∃ l, l = (nextR st).1 := ⟨_, rfl⟩
  clear hC hs hb
  go_enter Tryd.func54, Tryd.ntmps54
  go_wp2_with fail
  refine (next_full w0 R lv L st _ HC.out.lines HC.out.low HS.out HC.out.few).mono ?_
  rintro e w2 ⟨v, rfl, hv, hs2, hk2, hko⟩
  have HKO := Lib.hid hko
  clear hko
  rw [← hline] at hv HSM HNN
  have HLN := Lib.hid hline
  clear hline
  have HS2 := Lib.hid hs2
  have HB2 := Lib.hid (hk2 _ _ _ hg HB.out)
  obtain ⟨A, c, rfl, h1, h2, hlc⟩ := hv.open_
  have HL := Lib.hid hlc
  have hlw := HSM.out.1
  have z2 := hs2.lt
  clear hs2 hk2 hlc hv
  by_cases hlen : line.length = 2 * names.length
  rotate_left
  · have HF : Hid (namedN names line = none) := Lib.hid (HNN.out.trans (by rw [namedL_len hlen]; rfl))
    have hne : ((line.length : Int) != 2 * (names.length : Int)) = true := by rw [bne_iff_ne]; omega
    clear hlen
    go_wp2_with fail
    go_ret2
    rw [← HLN.out, HF.out]
    exact ⟨_, rfl, HS2.out, HKO.out, fun m hm => by cases hm⟩
  · have hne : ((line.length : Int) != 2 * (names.length : Int)) = false := by rw [bne_eq_false_iff_eq]; omega
    have HE := Lib.hid hlen
    clear hlen
    go_wp2_with fail
    clear hne
    go_loopw [7, 20] (fun sv iv wr => ∃ (k : Nat) (ds : List Word), k ≤ names.length ∧ iv = .int .i64 k ∧ Hid (ds.length = k ∧ (∀ x ∈ ds, x.length ≤ 1000000) ∧ namedL names line = (namedL (names.drop k) (line.drop (2 * k))).map fun t => ds ++ t) ∧ Hid (wr.ownsRow w2.heap.size 9 1 sv k (ds.map bstr)) ∧ Below w2.heap.size w2 wr) (fun _ iv _ => names.length - (intOf iv).toNat)
    case atStart => exact ⟨0, [], Nat.zero_le _, rfl, Lib.hid ⟨rfl, by simp, by simp⟩, Lib.hid (World.ownsRow_nil _ _ _ _), Below.refl _ _⟩
    case round =>
      obtain ⟨k, ds, hk, rfl, HD, HO, hbel⟩ := hrel
      by_cases hlt : k < names.length
      · obtain ⟨n, hn⟩ := some_of_lt hlt
        obtain ⟨a, ha⟩ := some_of_lt (l := line) (i := 2 * k) (by have := HE.out; omega)
        obtain ⟨b, hb⟩ := some_of_lt (l := line) (i := 2 * k + 1) (by have := HE.out; omega)
        have HST := Lib.hid (namedL_step hn ha hb)
        have hBr := HB2.out.below hbel HB2.out.lt
        have y0 : wr.cell? ⟨g, k, none⟩ = some (bstr n) := by rw [hBr.cell, List.getElem?_map, hn]; rfl
        obtain ⟨bl, o, rfl, hbl, ca⟩ := HL.out (2 * k) a ha
        obtain ⟨bl', o', hA, -, cb⟩ := HL.out (2 * k + 1) b hb
        obtain ⟨rfl, rfl⟩ : bl = bl' ∧ o = o' := by simpa using hA
        have hfr := (HS2.out.below hbel).from_
        have y1 := cell_below hfr HC.out.low ca
        have y2 := cell_below hfr HC.out.low cb
        have HBS := Lib.hid (HSM.out.2 b (List.mem_of_getElem? hb))
        have e1 : IntKind.i64.wrap (2 * (k : Int)) = 2 * (k : Int) := IntWalk.i64_in _ (by omega)
        have e1' : IntKind.i64.wrap (2 * (k : Int) + 1) = 2 * (k : Int) + 1 := IntWalk.i64_in _ (by omega)
        have e2 : (2 * (k : Int)).toNat = 2 * k := by omega
        have e3 : (2 * (k : Int) + 1).toNat = 2 * k + 1 := by omega
        have p1 : (0 : Int) ≤ 2 * (k : Int) := by omega
        have p2 : (0 : Int) ≤ 2 * (k : Int) + 1 := by omega
        have hlen := HE.out
        have p3 : 2 * k < line.length := by omega
        have p4 : 2 * k + 1 < line.length := by omega
        have p5 : 2 * (k : Int) < (line.length : Int) := by omega
        have p6 : 2 * (k : Int) + 1 < (line.length : Int) := by omega
        have hkn : k ≤ 1000000000 := by omega
        have hbase := hbel.size
        have how := HO.out
        have hgl := hBr.lt
        clear hn ha hb hA ca cb hlen
        by_cases han : a = n
        · subst han
          obtain ⟨sa, hsa⟩ : ∃ s : ByteArray, s = ⟨a.toArray⟩ := ⟨_, rfl⟩
          have hbs : bstr a = .string sa := by rw [hsa]; rfl
          rw [hbs] at y0
          rw [← hsa] at y1
          clear hsa hbs
          go_wp2_with (at_builtin; refine wpList_append_one _ rfl (.tmp 32) (.tmp 39) 56 rfl w2.heap.size 9 _ 1 16 Tryd.underlying56 strinfo rfl (by decide) (by decide) _ _ _ how rfl [bstr b] _ rfl rfl rfl hkn hbase ?_; intro v5 w5 ho5 hb5 hz5)
          go_roundw
          case rel =>
            refine ⟨k + 1, ds ++ [b], by omega, by go_num, Lib.hid ⟨by simp [HD.out.1], fun x hx => ?_, ?_⟩, Lib.hid (by rw [List.map_append]; exact ho5), hbel.trans hb5⟩
            · rcases List.mem_append.1 hx with hx | hx
              · exact HD.out.2.1 x hx
              · obtain rfl : x = b := by simpa using hx
                exact HBS.out
            · rw [HD.out.2.2, HST.out, if_pos rfl, Option.map_map]
              congr 1
              funext t
              simp
          case measure => simp [intOf]; omega
        · obtain ⟨sa, hsa⟩ : ∃ s : ByteArray, s = ⟨a.toArray⟩ := ⟨_, rfl⟩
          obtain ⟨sn, hsn⟩ : ∃ s : ByteArray, s = ⟨n.toArray⟩ := ⟨_, rfl⟩
          have hbs : bstr n = .string sn := by rw [hsn]; rfl
          have hne : (sa.toList == sn.toList) = false := by
            rw [beq_eq_false_iff_ne, ByteArray.toList_eq, ByteArray.toList_eq, hsa, hsn]
            simpa using han
          rw [hbs] at y0
          rw [← hsa] at y1
          have HF : Hid (namedN names line = none) := Lib.hid (HNN.out.trans (by rw [HD.out.2.2, HST.out, if_neg han]; rfl))
          clear han hsa hsn hbs
          go_wp2_with fail
          go_ret2
          rw [← HLN.out, HF.out]
          exact ⟨_, rfl, HS2.out.below hbel, HKO.out.below hbel, fun m hm => by cases hm⟩
      · obtain rfl : k = names.length := by omega
        have HN2 : Hid (namedL names line = some ds) := Lib.hid (by
          rw [HD.out.2.2, List.drop_length, List.drop_eq_nil_of_le (by have := HE.out; omega)]
          simp [namedL])
        have HDS : Hid (RStrs wr u7 ds) := Lib.hid (by
          have := RS.of_own HO.out
          unfold RStrs
          rw [HD.out.1]
          exact this)
        go_wp2_with fail
        refine (numbersO_any ds _ _ (by rw [HD.out.1]; omega) HD.out.2.1 HDS.out).mono ?_
        rintro e w4 ⟨u, rfl, hu, hb4⟩
        have HU := Lib.hid hu
        have HF : Hid (namedN names line = if ds.all isNum then some (ds.map nI) else none) := Lib.hid (HNN.out.trans (by rw [HN2.out]; rfl))
        clear hu
        go_wp2
        go_ret2
        rw [← HLN.out, HF.out]
        by_cases hall : ds.all isNum = true
        · rw [if_pos hall, hall]
          refine ⟨u, rfl, (HS2.out.below hbel).below hb4, (HKO.out.below hbel).below hb4, fun m hm => ?_⟩
          obtain rfl := Option.some.inj hm
          have := HU.out
          rw [numsP_yes hall] at this
          exact own_mono this (by have := hbel.size; omega)
        · have hall : ds.all isNum = false := by simpa using hall
          rw [hall]
          exact ⟨u, rfl, (HS2.out.below hbel).below hb4, (HKO.out.below hbel).below hb4, fun m hm => by cases hm⟩
end Go.Proofs.YtigljnnjamdcnaaDoor
