/-
  Words on a map of functions keyed by words: what an insert and a look-up do.
  The walk of the reader: all customers.
  The walk of the reader: the distances.
-/
import Derived.Test.YtigljnnjamdcnaaDoorW07g
import Derived.MapKept
import Derived.Carry
import Derived.Outline
namespace Go.Proofs.YtigljnnjamdcnaaDoor
open Go.RowKit P05 P06 P07

def lookV (z : Value) : Option (Nat × Value) → Value
  | some x => .tuple #[x.2, .bool true]
  | none => .tuple #[z, .bool false]
section
variable {P : Program} {t k e : TypeId}
theorem map_ins {w : World} {b clock : Nat} {es : Array MapEntry} {s : ByteArray} {v : Value} (ht : P.underlying t = some (.map k e)) (hk : P.underlying k = some .string) (hb : w.heap[b]? = some (.map es clock))
    (hf : Instr.findNow .string (.string s) es.toList 0 = some none) :
    ∃ w', (Instr.mapUpdate t (.map (some b)) (.string s) v).run P w = .ok () w' ∧ w'.heap[b]? = some (.map (es.push ⟨.string s, v, clock⟩) (clock + 1)) ∧ w'.heap.size = w.heap.size ∧ ∀ lb, lb ≤ b → Below lb w w' := by
  refine ⟨{ w with heap := w.heap.setIfInBounds b (.map (es.push ⟨.string s, v, clock⟩) (clock + 1)) }, ?_, ?_, by simp, fun lb hlb => ⟨rfl, rfl, rfl, by simp, fun i hi => ?_⟩⟩
  · have h1 : (Instr.checkKey false 10000 k (.string s)).run P w = .ok () w := MapKept.run_checkKey hk (show MapKept.IsKey .string (.string s) from trivial) false 9999
    have h2 : (Instr.findKey k (.string s) es.toList).run P w = .ok none w := MapKept.run_findKey hk hf
    simp [Instr.mapUpdate, run_underlying ht, MapKept.run_getObj_map hb, h1, h2, MapKept.run_setObj_map _ hb, Result.andThen]
  · have := (Array.getElem?_eq_some_iff.1 hb).1
    simp [this]
  · rw [Array.getElem?_setIfInBounds_ne (by omega)]
theorem map_look {w : World} {b clock : Nat} {es : Array MapEntry} {s : ByteArray} {r : Option (Nat × Value)} {z : Value} (ht : P.underlying t = some (.map k e)) (hk : P.underlying k = some .string) (hb : w.heap[b]? = some (.map es clock))
    (hf : Instr.findNow .string (.string s) es.toList 0 = some r) (hz : (zeroValue e).run P w = .ok z w) :
    (Instr.lookup t (.map (some b)) (.string s) true).run P w = .ok (lookV z r) w := by
  have h1 : (Instr.checkKey es.isEmpty 10000 k (.string s)).run P w = .ok () w := MapKept.run_checkKey hk (show MapKept.IsKey .string (.string s) from trivial) _ 9999
  have h2 : (Instr.findKey k (.string s) es.toList).run P w = .ok r w := MapKept.run_findKey hk hf
  cases r with
  | none => simp [Instr.lookup, run_underlying ht, MapKept.run_getObj_map hb, h1, h2, hz, Result.andThen, lookV]
  | some x => simp [Instr.lookup, run_underlying ht, MapKept.run_getObj_map hb, h1, h2, Result.andThen, lookV]
end
theorem zero_fn (w : World) : (zeroValue 94).run Tryd.prog w = .ok .nilFunc w := by kernel_rfl
end Go.Proofs.YtigljnnjamdcnaaDoor

namespace Go.Proofs.YtigljnnjamdcnaaDoor
open Go.RowKit P05 P06 P07

theorem nextR_x (st : Rd) : (nextR st).2.x = st.x ∧ (nextR st).2.count = st.count ∧ (nextR st).2.odd = st.odd := by unfold nextR; split <;> exact ⟨rfl, rfl, rfl⟩
theorem nextR_rest {st : Rd} (h : (nextR st).1 ≠ []) : (nextR st).2.rest.length + 1 = st.rest.length := by
  unfold nextR at h ⊢
  split
  · rename_i e; rw [e] at h; exact absurd rfl h
  · rename_i e; rw [e]; rfl
theorem custC_visit (d : Int) (l : Line) : custC d (wVisit :: l) = visitC d l := by
  show (if wVisit = wVisit then visitC d l else if wVisit = wTank then tankC l else none) = _
  rw [if_pos rfl]
theorem custC_tank (d : Int) (l : Line) : custC d (wTank :: l) = tankC l := by
  show (if wTank = wVisit then visitC d l else if wTank = wTank then tankC l else none) = _
  rw [if_neg (by decide), if_pos rfl]
theorem custC_else (d : Int) (x : Word) (l : Line) (h1 : x ≠ wVisit) (h2 : x ≠ wTank) : custC d (x :: l) = none := by
  show (if x = wVisit then visitC d l else if x = wTank then tankC l else none) = _
  rw [if_neg h1, if_neg h2]
theorem custR_nil {st : Rd} (h : (nextR st).1 = []) : custR st = none := by unfold custR; rw [h]; rfl
theorem custR_visit {st : Rd} {l : Line} (h : (nextR st).1 = wVisit :: l) : custR st = (visitC (nextR st).2.x.days l).map fun c =>
    { (nextR st).2 with x := ⟨(nextR st).2.x.days, (nextR st).2.x.veh, (nextR st).2.x.cap, (nextR st).2.x.len, (nextR st).2.x.custs ++ [c.1], (nextR st).2.x.dist⟩, odd := (nextR st).2.odd || c.2 } := by
  obtain ⟨h1, h2, h3⟩ := nextR_x st
  unfold custR
  rw [h, h1, h3, custC_visit]
theorem custR_tank {st : Rd} {l : Line} (h : (nextR st).1 = wTank :: l) : custR st = (tankC l).map fun c =>
    { (nextR st).2 with x := ⟨(nextR st).2.x.days, (nextR st).2.x.veh, (nextR st).2.x.cap, (nextR st).2.x.len, (nextR st).2.x.custs ++ [c.1], (nextR st).2.x.dist⟩, odd := (nextR st).2.odd || c.2 } := by
  obtain ⟨h1, h2, h3⟩ := nextR_x st
  unfold custR
  rw [h, h1, h3, custC_tank]
theorem custR_else {st : Rd} {x : Word} {l : Line} (h : (nextR st).1 = x :: l) (h1 : x ≠ wVisit) (h2 : x ≠ wTank) : custR st = none := by
  unfold custR
  rw [h, custC_else _ _ _ h1 h2]; rfl
theorem RdS.rest_le {w0 w : World} {R : Nat} {lv : Value} {L : List Line} {st : Rd} (h : RdS w0 R lv L w st) : st.rest.length ≤ L.length := by
  obtain ⟨k, cv, dv, h1, h2, -⟩ := h
  rw [← h2, List.length_drop]; omega
def kindsM (R : Nat) : Array MapEntry := #[⟨.string ⟨#[118, 105, 115, 105, 116]⟩, .func (.func 55) #[.pointer (some ⟨R, 0, none⟩)] #[], 0⟩, ⟨.string ⟨#[116, 97, 110, 107]⟩, .func (.func 56) #[.pointer (some ⟨R, 0, none⟩)] #[], 1⟩]
theorem kinds_find (R : Nat) (s : ByteArray) : Instr.findNow .string (.string s) (kindsM R).toList 0 = some (if s.data.toList = wVisit then some (0, .func (.func 55) #[.pointer (some ⟨R, 0, none⟩)] #[]) else
    if s.data.toList = wTank then some (1, .func (.func 56) #[.pointer (some ⟨R, 0, none⟩)] #[]) else none) := by
  have hb : ∀ a : List UInt8, (s == (⟨a.toArray⟩ : ByteArray)) = decide (s.data.toList = a) := fun a => by
    rcases s with ⟨d⟩
    show (d == a.toArray) = _
    rw [Bool.eq_iff_iff, beq_iff_eq, decide_eq_true_eq]
    exact ⟨fun h => by rw [h], fun h => by rw [← h]⟩
  have h1 : (s == (⟨#[118, 105, 115, 105, 116]⟩ : ByteArray)) = decide (s.data.toList = wVisit) := hb wVisit
  have h2 : (s == (⟨#[116, 97, 110, 107]⟩ : ByteArray)) = decide (s.data.toList = wTank) := hb wTank
  unfold kindsM
  by_cases e1 : s.data.toList = wVisit
  · rw [if_pos e1]
    rw [decide_eq_true (show s.data.toList = wVisit from e1)] at h1
    show (match some (s == _) with | some true => _ | some false => _ | none => _ : Option (Option (Nat × Value))) = _
    rw [show (s == (⟨#[118, 105, 115, 105, 116]⟩ : ByteArray)) = true from h1]
  · rw [if_neg e1]
    rw [decide_eq_false (show ¬ s.data.toList = wVisit from e1)] at h1
    show (match some (s == _) with | some true => _ | some false => _ | none => _ : Option (Option (Nat × Value))) = _
    rw [show (s == (⟨#[118, 105, 115, 105, 116]⟩ : ByteArray)) = false from h1]
    show (match some (s == _) with | some true => _ | some false => _ | none => _ : Option (Option (Nat × Value))) = _
    by_cases e2 : s.data.toList = wTank
    · rw [if_pos e2]
      rw [decide_eq_true (show s.data.toList = wTank from e2)] at h2
      rw [show (s == (⟨#[116, 97, 110, 107]⟩ : ByteArray)) = true from h2]
    · rw [if_neg e2]
      rw [decide_eq_false (show ¬ s.data.toList = wTank from e2)] at h2
      rw [show (s == (⟨#[116, 97, 110, 107]⟩ : ByteArray)) = false from h2]
      rfl
theorem RStrs.tailc {w : World} {b o c c' : Nat} {x : Word} {l : Line} (h : RStrs w (.slice (some ⟨b, o, none⟩) (x :: l).length c) (x :: l)) (h1 : l.length ≤ c') (hm : c' ≤ maxLen) : RStrs w (.slice (some ⟨b, o + 1, none⟩) l.length c') l := by
  obtain ⟨A, c0, hv, g1, g2, g3, g4⟩ := h
  injection hv with e1 _ e3
  subst e1; subst e3
  refine ⟨_, c', rfl, h1, hm, by simp, fun hn => ?_⟩
  obtain ⟨b', o', hA, hb, hc⟩ := g4 (by simp)
  obtain ⟨rfl, rfl⟩ : b = b' ∧ o = o' := by simpa using hA
  refine ⟨b, o + 1, rfl, hb, fun j u hu => ?_⟩
  have := hc (1 + j) u (by rw [Nat.add_comm, List.map_cons, List.getElem?_cons_succ]; exact hu)
  rw [← Nat.add_assoc] at this
  exact this
theorem RStrs.nilc (w : World) (A : Option Addr) (c : Nat) (hc : c ≤ maxLen) : RStrs w (.slice A 0 c) [] := ⟨A, c, rfl, Nat.zero_le _, hc, rfl, fun h => absurd h (by simp)⟩
/-- What reading the rest of a customer's line does. -/
def ReadsC (w0 : World) (R : Nat) (lv : Value) (L : List Line) (s : Rd) (f : FuncId) (w3 : World) (l : Line) : Prop :=
  ∀ v, RStrs w0 v l → Calls Tryd.prog f #[.pointer (some ⟨R, 0, none⟩), v] w3 fun e w' => e = .returned (.bool (custR s).isSome) ∧ Below R w0 w' ∧
    ∀ s', custR s = some s' → RdS w0 R lv L w' s' ∧ KeepO R w3 w' ∧ s'.x.custs.length = s.x.custs.length + 1 ∧ s'.rest.length = (nextR s).2.rest.length
set_option maxHeartbeats 4000000 in
set_option maxRecDepth 100000 in
theorem customers_any (w0 : World) (R : Nat) (lv : Value) (L : List Line) (st : Rd) (w : World) (hC : RdC w0 R lv L) (hs : RdS w0 R lv L w st) (h0 : st.x.custs = []) (hn0 : 0 ≤ st.count) (hn1 : st.count ≤ 1000000000000000000) :
    Calls Tryd.prog 29 #[.pointer (some ⟨R, 0, none⟩)] w fun e w' => e = .returned (.bool (custsR st.count.toNat st).isSome) ∧ Below R w0 w' ∧ ∀ st', custsR st.count.toNat st = some st' → RdS w0 R lv L w' st' ∧ KeepO R w w' := by
  have HC := Lib.hid hC
  have HS := Lib.hid hs
  have H0 := Lib.hid h0
  have z := hs.lt
  obtain ⟨n, hn⟩ : ∃ n : Nat, st.count = n := ⟨st.count.toNat, by omega⟩
  have hnN : st.count.toNat = n := by omega
  rw [hnN]
  have HN := Lib.hid hn
  have hnb : n ≤ 1000000000000000000 := by omega
  have hmm := @run_makeMap Tryd.prog
  have hmf : ∀ (fn : Fn) (first cap : Array Value) (w : World), (Instr.makeFunc fn first cap).run Tryd.prog w = .ok (.func fn first cap) w := fun _ _ _ _ => rfl
  have hbM : (w.alloc (.map #[] 0)).heap[w.heap.size]? = some (.map #[] 0) := by simp only [World.alloc, Array.getElem?_push_size]
  obtain ⟨w1, hi1, hb1, hz1, hl1⟩ := map_ins (P := Tryd.prog) (v := .func (.func 55) #[.pointer (some ⟨R, 0, none⟩)] #[]) (s := ⟨#[118, 105, 115, 105, 116]⟩) Tryd.underlying95 Tryd.underlying9 hbM rfl
  obtain ⟨w2, hi2, hb2, hz2, hl2⟩ := map_ins (P := Tryd.prog) (v := .func (.func 56) #[.pointer (some ⟨R, 0, none⟩)] #[]) (s := ⟨#[116, 97, 110, 107]⟩) Tryd.underlying95 Tryd.underlying9 hb1 (by rfl)
  have hbl : Below w.heap.size w w2 := ((below_al (Below.refl _ _) _).trans (hl1 _ (Nat.le_refl _))).trans (hl2 _ (Nat.le_refl _))
  have hb2' : w2.heap[w.heap.size]? = some (.map (kindsM R) 2) := hb2
  have HB2 := Lib.hid hb2'
  have HBL := Lib.hid hbl
  have HS2 := Lib.hid (hs.below hbl)
  have hr0 := hs.rest_le
  obtain ⟨kk, cv, dv, -, -, q3, -⟩ := hs.below hbl
  have c8 := q3.cell 8
  simp only [List.getElem?_cons_succ, List.getElem?_cons_zero] at c8
  rw [hn] at c8
  have hl10 := hC.few
  clear hC hs hn h0 hnN hb1 hb2 hb2' hl1 hl2 hbl hbM q3 hn0 hn1
  go_enter Tryd.func29, Tryd.ntmps29
  go_wp2_with fail
  clear hi1 hi2 c8
  go_loopw [17] (fun iv wr => ∃ (i : Nat) (s : Rd), i ≤ n ∧ iv = .int .i64 i ∧ Hid (RdS w0 R lv L wr s) ∧ Hid (custsR n st = custsR (n - i) s) ∧ s.x.custs.length = i ∧ i + s.rest.length ≤ st.rest.length ∧ Hid (KeepO R w2 wr)) (fun iv _ => n - (intOf iv).toNat)
  case atStart => exact ⟨0, st, Nat.zero_le _, rfl, HS2, Lib.hid rfl, by rw [H0.out]; rfl, by omega, Lib.hid (KeepO.refl _ _)⟩
  case round =>
    obtain ⟨i, s, hi, rfl, HRS, HR, hcl, hrl, HKO⟩ := hrel
    by_cases hlt : i < n
    · go_wp2_with fail
      refine (next_full w0 R lv L s _ HC.out.lines HC.out.low HRS.out HC.out.few).mono ?_
      rintro e w3 ⟨v, rfl, hv, hs3, -, hko⟩
      have HS3 := Lib.hid hs3
      have HKO3 := Lib.hid (HKO.out.trans hko)
      have HSM := Lib.hid (HRS.out.next_small HC.out)
      have HWD := Lib.hid (HRS.out.next_words HC.out)
      have HST : Hid (custsR n st = (custR s).bind (custsR (n - (i + 1)))) := Lib.hid (by
        rw [HR.out, show n - i = (n - (i + 1)) + 1 by omega]; rfl)
      have hsz : w3.heap.size = w3.heap.size := rfl
      clear hko
      cases hline : (nextR s).1 with
      | nil =>
        have HF : Hid (custsR n st = none) := Lib.hid (by rw [HST.out, custR_nil hline]; rfl)
        rw [hline] at hv
        obtain ⟨A, c, rfl, h1, h2, -⟩ := hv.open_
        clear hv hline hs3
        go_wp2_with fail
        go_ret
        rw [HF.out]
        exact ⟨rfl, HS3.out.from_, fun st' h => by cases h⟩
      | cons x l =>
        have HLN := Lib.hid hline
        have hrest : (nextR s).2.rest.length + 1 = s.rest.length := nextR_rest (by rw [hline]; simp)
        rw [hline] at hv HSM HWD
        obtain ⟨A, c, rfl, h1, h2, hlc⟩ := hv.open_
        obtain ⟨b, o, rfl, hb, c0⟩ := hlc 0 x rfl
        have y0 := cell_below HS3.out.from_ HC.out.low c0
        rw [Nat.add_zero] at y0
        have y1 := y0
        obtain ⟨t, ht⟩ : ∃ t : ByteArray, t = ⟨x.toArray⟩ := ⟨_, rfl⟩
        have htl : t.data.toList = x := by rw [ht]
        change w3.cell? ⟨b, o, none⟩ = some (.string ⟨x.toArray⟩) at y0
        rw [← ht] at y0
        have hmap : w3.heap[w.heap.size]? = some (.map (kindsM R) 2) := HKO3.out _ _ (by omega) (fun cs e fr h => by cases h) HB2.out
        have hfn := kinds_find R t
        rw [htl] at hfn
        have hlk := map_look (P := Tryd.prog) Tryd.underlying95 Tryd.underlying9 hmap hfn (zero_fn w3)
        have HXW := Lib.hid (fun y hy => (⟨HSM.out.2 y (List.mem_cons_of_mem _ hy), HWD.out y (List.mem_cons_of_mem _ hy)⟩ : y.length ≤ 1000000 ∧ isWord y = true))
        have HTL : Hid (∀ c', l.length ≤ c' → c' ≤ maxLen → RStrs w0 (.slice (some ⟨b, o + 1, none⟩) l.length c') l) := Lib.hid fun c' q1 q2 => hv.tailc q1 q2
        have hll : l.length ≤ 1000 := by have := HSM.out.1; simp only [List.length_cons] at this; omega
        have hcust : (nextR s).2.x.custs.length ≤ 1000000000 := by rw [(nextR_x s).1]; omega
        simp only [List.length_cons] at h1 h2
        clear hv hlc c0 y1 ht htl hfn hmap hs3 hline HSM HWD
        by_cases e1 : x = wVisit
        · rw [if_pos e1] at hlk
          simp only [lookV] at hlk
          have HCALL : Hid (ReadsC w0 R lv L s 55 w3 l) := Lib.hid fun v hv => (visit_any w0 R lv L (nextR s).2 l v w3 HC.out.low HS3.out hv hll HXW.out hcust).mono fun e w' ⟨q1, q2, q3⟩ => by
            have hcr := custR_visit (st := s) (l := l) (by rw [HLN.out, e1])
            rw [hcr, Option.isSome_map]
            refine ⟨q1, q2, fun s' hs' => ?_⟩
            obtain ⟨⟨c', o'⟩, hvc, rfl⟩ := Option.map_eq_some_iff.1 hs'
            exact ⟨(q3 c' o' hvc).1, (q3 c' o' hvc).2, by simp [(nextR_x s).1], rfl⟩
          clear e1
          go_wp2_with fail
          all_goals
            refine (HCALL.out _ (by first | exact HTL.out _ (by omega) (by simp only [maxLen]; omega) | (obtain rfl : l = [] := List.length_eq_zero_iff.1 (by omega); exact RStrs.nilc _ _ _ (by simp [maxLen])))).mono ?_
            rintro e w4 ⟨rfl, hb4, hs4⟩
            cases hcr : custR s with
            | none =>
              have HF : Hid (custsR n st = none) := Lib.hid (by rw [HST.out, hcr]; rfl)
              have HB4 := Lib.hid hb4
              clear hs4 hb4 hcr
              go_wp2_with fail
              go_ret
              rw [HF.out]
              exact ⟨rfl, HB4.out, fun st' h => by cases h⟩
            | some s' =>
              obtain ⟨r1, r2, r3, r4⟩ := hs4 s' hcr
              have HR1 := Lib.hid r1
              have HR2 := Lib.hid r2
              have HCR := Lib.hid hcr
              clear hs4 hb4 hcr r1 r2
              go_wp2_with fail
              go_roundw
              case rel => exact ⟨i + 1, s', by omega, by go_num, HR1, Lib.hid (by rw [HST.out, HCR.out]; rfl), by omega, by omega, Lib.hid (HKO3.out.trans HR2.out)⟩
              case measure => simp [intOf]; omega
        · rw [if_neg e1] at hlk
          by_cases e2 : x = wTank
          · rw [if_pos e2] at hlk
            simp only [lookV] at hlk
            have HCALL : Hid (ReadsC w0 R lv L s 56 w3 l) := Lib.hid fun v hv => (tank_any w0 R lv L (nextR s).2 l v w3 HC.out.low HS3.out hv HXW.out hcust).mono fun e w' ⟨q1, q2, q3⟩ => by
              have hcr := custR_tank (st := s) (l := l) (by rw [HLN.out, e2])
              rw [hcr, Option.isSome_map]
              refine ⟨q1, q2, fun s' hs' => ?_⟩
              obtain ⟨⟨c', o'⟩, hvc, rfl⟩ := Option.map_eq_some_iff.1 hs'
              exact ⟨(q3 c' o' hvc).1, (q3 c' o' hvc).2, by simp [(nextR_x s).1], rfl⟩
            clear e1 e2
            go_wp2_with fail
            all_goals
              refine (HCALL.out _ (by first | exact HTL.out _ (by omega) (by simp only [maxLen]; omega) | (obtain rfl : l = [] := List.length_eq_zero_iff.1 (by omega); exact RStrs.nilc _ _ _ (by simp [maxLen])))).mono ?_
              rintro e w4 ⟨rfl, hb4, hs4⟩
              cases hcr : custR s with
              | none =>
                have HF : Hid (custsR n st = none) := Lib.hid (by rw [HST.out, hcr]; rfl)
                have HB4 := Lib.hid hb4
                clear hs4 hb4 hcr
                go_wp2_with fail
                go_ret
                rw [HF.out]
                exact ⟨rfl, HB4.out, fun st' h => by cases h⟩
              | some s' =>
                obtain ⟨r1, r2, r3, r4⟩ := hs4 s' hcr
                have HR1 := Lib.hid r1
                have HR2 := Lib.hid r2
                have HCR := Lib.hid hcr
                clear hs4 hb4 hcr r1 r2
                go_wp2_with fail
                go_roundw
                case rel => exact ⟨i + 1, s', by omega, by go_num, HR1, Lib.hid (by rw [HST.out, HCR.out]; rfl), by omega, by omega, Lib.hid (HKO3.out.trans HR2.out)⟩
                case measure => simp [intOf]; omega
          · rw [if_neg e2] at hlk
            simp only [lookV] at hlk
            have HF : Hid (custsR n st = none) := Lib.hid (by rw [HST.out, custR_else HLN.out e1 e2]; rfl)
            clear e1 e2
            go_wp2_with fail
            go_ret
            rw [HF.out]
            exact ⟨rfl, HS3.out.from_, fun st' h => by cases h⟩
    · obtain rfl : i = n := by omega
      go_wp2_with fail
      go_ret
      have hR := HR.out
      rw [Nat.sub_self] at hR
      rw [hR]
      exact ⟨rfl, HRS.out.from_, fun st' h => by obtain rfl := Option.some.inj h; exact ⟨HRS.out, ((KeepO.refl R w).below HBL.out).trans HKO.out⟩⟩
end Go.Proofs.YtigljnnjamdcnaaDoor

namespace Go.Proofs.YtigljnnjamdcnaaDoor
open Go.RowKit P05 P06 P07

theorem rinfo7 : (Tryd.prog.info? 43).map (fun i => (i.zero, i.size, i.bytes)) = some (some (.slice none 0 0), 1, 24) := by kernel_rfl
theorem numsP_len {l : Line} (h : l.all isNum = true) : (numsP l).length = l.length := by rw [numsP_yes h, List.length_map]
theorem numsP_nI {l : Line} (h : l.all isNum = true) : numsP l = l.map nI := by rw [numsP_yes h]; rfl
set_option maxHeartbeats 4000000 in
set_option maxRecDepth 100000 in
theorem dist_any (w0 : World) (R : Nat) (lv : Value) (L : List Line) (st : Rd) (w : World) (hC : RdC w0 R lv L) (hs : RdS w0 R lv L w st) (h0 : st.x.dist = []) (hn0 : 0 ≤ st.count) (hn1 : st.count ≤ 1000000000000000000) :
    Calls Tryd.prog 30 #[.pointer (some ⟨R, 0, none⟩)] w fun e w' => e = .returned (.bool (distR st).isSome) ∧ Below R w0 w' ∧ ∀ st', distR st = some st' → RdS w0 R lv L w' st' ∧ KeepO R w w' := by
  have HC := Lib.hid hC
  have HS := Lib.hid hs
  have H0 := Lib.hid h0
  obtain ⟨n, hn⟩ : ∃ n : Nat, st.count = n := ⟨st.count.toNat, by omega⟩
  have HN := Lib.hid hn
  have hnb : n ≤ 1000000000000000000 := by omega
  have hr0 := hs.rest_le
  have hl10 := hC.few
  have HDR : Hid (distR st = if (nextR st).1 = [wDist] then rowsR (n + 1) (nextR st).2 else none) := Lib.hid (by
    unfold distR
    rw [hn, show ((n : Int) + 1).toNat = n + 1 by omega])
  clear hC hs h0 hn hn0 hn1
  go_enter Tryd.func30, Tryd.ntmps30
  go_wp2_with fail
  refine (next_full w0 R lv L st _ HC.out.lines HC.out.low HS.out HC.out.few).mono ?_
  rintro e w2 ⟨v, rfl, hv, hs2, -, hko⟩
  have HKO := Lib.hid hko
  have HS2 := Lib.hid hs2
  have HV := Lib.hid (RStrs.below hv hs2.from_ HC.out.low)
  have hB := Blk.new w2 9 [.string ⟨#[100, 105, 115, 116, 97, 110, 99, 101, 115]⟩]
  clear hs2 hv hko
  go_wp2_with fail
  refine (equalS_any v _ (nextR st).1 [wDist] _ (RStrs.below HV.out (below_al (Below.refl _ _) _) (Nat.le_refl _)) (Blk.strs (l := [wDist]) hB)).mono ?_
  rintro e w3 ⟨rfl, nd, rfl⟩
  have HB3 : Hid (Below w2.heap.size w2 ((w2.alloc (.cells #[.string ⟨#[100, 105, 115, 116, 97, 110, 99, 101, 115]⟩] 9)).drewN nd)) := Lib.hid (below_drewN (below_al (Below.refl _ _) _) nd)
  generalize hw3 : (w2.alloc (.cells #[.string ⟨#[100, 105, 115, 116, 97, 110, 99, 101, 115]⟩] 9)).drewN nd = w3 at HB3
  have HS3 := Lib.hid (HS2.out.below HB3.out)
  have HKO3 := Lib.hid (HKO.out.below HB3.out)
  clear HV hB hw3
  by_cases hd : (nextR st).1 = [wDist]
  rotate_left
  · have HF : Hid (distR st = none) := Lib.hid (by rw [HDR.out, if_neg hd])
    rw [decide_eq_false hd]
    clear hd
    go_wp2_with fail
    go_ret
    rw [HF.out]
    exact ⟨rfl, HS3.out.from_, fun st' h => by cases h⟩
  · have HD : Hid (distR st = rowsR (n + 1) (nextR st).2) := Lib.hid (by rw [HDR.out, if_pos hd])
    have hrr : (nextR st).2.rest.length + 1 = st.rest.length := nextR_rest (by rw [hd]; simp)
    have hc2 : (nextR st).2.count = n := by rw [(nextR_x st).2.1, HN.out]
    have hx2 : (nextR st).2.x.dist = [] := by rw [(nextR_x st).1, H0.out]
    rw [decide_eq_true hd]
    clear hd HDR
    obtain ⟨st2, hst2⟩ : ∃ s, s = (nextR st).2 := ⟨_, rfl⟩
    rw [← hst2] at HD HS3 hrr hc2 hx2
    clear hst2 HS2
    obtain ⟨kk, cv, dv, -, -, q3, -⟩ := HS3.out
    have c8 := q3.cell 8
    simp only [List.getElem?_cons_succ, List.getElem?_cons_zero] at c8
    rw [hc2] at c8
    have e1 : IntKind.i64.wrap ((n : Int) + 1) = (n : Int) + 1 := IntWalk.i64_in _ (by omega)
    clear q3
    go_wp2_with fail
    clear c8
    go_loopw [15] (fun iv wr => ∃ (i : Nat) (s : Rd), i ≤ n + 1 ∧ iv = .int .i64 i ∧ Hid (RdS w0 R lv L wr s) ∧ Hid (distR st = rowsR (n + 1 - i) s) ∧ s.x.dist.length = i ∧ i + s.rest.length ≤ st.rest.length ∧ s.count = n ∧ Hid (KeepO R w wr)) (fun iv _ => n + 1 - (intOf iv).toNat)
    case atStart => exact ⟨0, st2, Nat.zero_le _, rfl, HS3, HD, by rw [hx2]; rfl, by omega, hc2, HKO3⟩
    case round =>
      obtain ⟨i, s, hi, rfl, HRS, HR, hcl, hrl, hsc, HKR⟩ := hrel
      by_cases hlt : i < n + 1
      · go_wp2_with fail
        refine (next_full w0 R lv L s _ HC.out.lines HC.out.low HRS.out HC.out.few).mono ?_
        rintro e w4 ⟨v4, rfl, hv4, hs4, -, hko4⟩
        have HS4 := Lib.hid hs4
        have HKO4 := Lib.hid (HKR.out.trans hko4)
        have HSM := Lib.hid (HRS.out.next_small HC.out)
        have HV4 := Lib.hid (RStrs.below hv4 hs4.from_ HC.out.low)
        have HST : Hid (distR st = (rowR s).bind (rowsR (n + 1 - (i + 1)))) := Lib.hid (by
          rw [HR.out, show n + 1 - i = (n + 1 - (i + 1)) + 1 by omega]; rfl)
        have hz4 := hs4.lt
        clear hko4 hs4 hv4
        go_wp2_with fail
        refine (numbersO_any (nextR s).1 v4 _ HSM.out.1 HSM.out.2 HV4.out).mono ?_
        rintro e w5 ⟨u, rfl, hu, hb5⟩
        have HS5 := Lib.hid (HS4.out.below hb5)
        have HKO5 := Lib.hid (HKO4.out.below hb5)
        have hz5 := HS5.out.lt
        cases hall : (nextR s).1.all isNum with
        | false =>
          have HF : Hid (distR st = none) := Lib.hid (by rw [HST.out]; unfold rowR; rw [hall]; rfl)
          clear hu hall
          go_wp2_with fail
          go_ret
          rw [HF.out]
          exact ⟨rfl, HS5.out.from_, fun st' h => by cases h⟩
        | true =>
          have HALL := Lib.hid hall
          have hul := numsP_len hall
          have hu2 := own_mono (base' := R + 1) hu (show R + 1 ≤ w4.heap.size by omega)
          obtain ⟨A, c, rfl, hlc, hcm, -⟩ := RS.of_own hu2
          have HU := Lib.hid hu2
          have hll := HSM.out.1
          simp only [hul] at hlc ⊢
          have c8 : w5.cell? ⟨R, 8, none⟩ = some (.int .i64 n) := by
            obtain ⟨kk, cv, dv, -, -, q3, -⟩ := HS5.out
            have c8 := q3.cell 8
            simp only [List.getElem?_cons_succ, List.getElem?_cons_zero] at c8
            rw [(nextR_x s).2.1, hsc] at c8
            exact c8
          clear hu hu2 hall
          by_cases hlen : (nextR s).1.length = n + 1
          rotate_left
          · have HF : Hid (distR st = none) := Lib.hid (by
              rw [HST.out]; unfold rowR; rw [HALL.out, hsc, decide_eq_false (by omega)]; rfl)
            have hne : (((nextR s).1.length : Int) != (n : Int) + 1) = true := by rw [bne_iff_ne]; omega
            clear hlen
            go_wp2_with fail
            go_ret
            rw [HF.out]
            exact ⟨rfl, HS5.out.from_, fun st' h => by cases h⟩
          · have hne : (((nextR s).1.length : Int) != (n : Int) + 1) = false := by rw [bne_eq_false_iff_eq]; omega
            have hRR : rowR s = some { (nextR s).2 with x := ⟨s.x.days, s.x.veh, s.x.cap, s.x.len, s.x.custs, s.x.dist ++ [(nextR s).1.map nI]⟩ } := by
              unfold rowR
              rw [HALL.out, hsc, decide_eq_true (by omega)]
              rfl
            have hrs := nextR_rest (st := s) (by intro e; rw [e] at hlen; simp at hlen)
            obtain ⟨x1, x2, x3⟩ := nextR_x s
            rw [← x1] at hRR hcl
            have HRR := Lib.hid hRR
            have HUN : Hid (w5.ownsRow (R + 1) 3 1 (.slice A (nextR s).1.length c) ((nextR s).1.map nI).length (((nextR s).1.map nI).map (Value.int .i64))) := Lib.hid (by
              have := HU.out
              rw [numsP_nI HALL.out] at this
              simpa using this)
            obtain ⟨kk, cv, dv, q1, q2, q3, q4, ⟨rvs, r1, r2⟩, q6⟩ := HS5.out
            obtain ⟨s2, hs2⟩ : ∃ y, y = (nextR s).2 := ⟨_, rfl⟩
            rw [← hs2] at HRR q2 q3 q4 r1 r2 hcl hrs x2
            have hcn : s2.x.dist.length ≤ 1000000000 := by omega
            have hbase : R + 1 ≤ w5.heap.size := by omega
            have c7 := q3.cell 7
            have f7 := q3.frozen 7
            simp only [List.getElem?_cons_succ, List.getElem?_cons_zero] at c7
            have Q := Lib.hid (And.intro q1 (And.intro q2 (And.intro q3 (And.intro q4 (And.intro r2 q6)))))
            have q3' := Lib.hid q3
            clear hs2 hRR q1 q2 q3 q4 r2 q6 hlen hlt
            go_wp2_with (at_builtin; refine wpList_append_one' _ rfl (.tmp 40) (.tmp 42) 23 rfl (R + 1) 43 _ 1 24 Tryd.underlying23 rinfo7 rfl (by decide) (by decide) _ _ _ r1 rfl [.slice A (nextR s).1.length c] _ rfl rfl rfl hcn hbase ?_; intro g cap w6 ho6 hg0 hg1 hk6 hz6; have hb6 := hk6.below hbase; have hB6 := q3'.out.below hb6 (Nat.lt_succ_self _); have e7 : w6.cell? ⟨R, 7, none⟩ = some dv := hB6.cell 7; have f7' : w6.frozen? ⟨R, 7, none⟩ = false := hB6.frozen 7)
            go_roundw
            case rel =>
              subst hcl
              obtain ⟨q1, q2, q3, q4, r2, q6⟩ := Q.out
              have hfin : Below R w0 (w6.setCell ⟨R, 7, none⟩ (.slice (some ⟨g, 0, none⟩) (s2.x.dist.length + 1) cap)) := (q6.trans (hb6.mono (Nat.le_succ R))).setCell (p := ⟨R, 7, none⟩) (Nat.le_refl _) _
              have hB7 := hB6.set_ 7 (.slice (some ⟨g, 0, none⟩) (s2.x.dist.length + 1) cap)
              simp only [List.set_cons_succ, List.set_cons_zero] at hB7
              refine ⟨s2.x.dist.length + 1, { s2 with x := ⟨s2.x.days, s2.x.veh, s2.x.cap, s2.x.len, s2.x.custs, s2.x.dist ++ [(nextR s).1.map nI]⟩ }, by omega, by go_num, Lib.hid ⟨kk, cv, .slice (some ⟨g, 0, none⟩) (s2.x.dist.length + 1) cap, q1, q2, hB7, ?_, ?_, hfin⟩, Lib.hid (by rw [HST.out, HRR.out]; rfl), by simp, by show s2.x.dist.length + 1 + s2.rest.length ≤ st.rest.length; omega, by show s2.count = n; omega, Lib.hid ((HKO5.out.keep hk6 (by decide)).set 7 _)⟩
              · exact OwnCusts.set_low (p := ⟨R, 7, none⟩) (OwnCusts.keep q4 hk6 (by decide) (by decide)) (Nat.lt_succ_self _) _
              · exact (OwnRows.push rfl (by have := r1.1; simpa using this) ho6 (fun i x qv hx hq => hk6.own (r2 i x qv hx hq) (by decide)) (hk6.own HUN.out (by decide))).set_low (p := ⟨R, 7, none⟩) (Nat.lt_succ_self _) _
            case measure => simp [intOf]; omega
      · obtain rfl : i = n + 1 := by omega
        go_wp2_with fail
        go_ret
        have hR := HR.out
        rw [Nat.sub_self] at hR
        rw [hR]
        exact ⟨rfl, HRS.out.from_, fun st' h => by obtain rfl := Option.some.inj h; exact ⟨HRS.out, HKR.out⟩⟩
end Go.Proofs.YtigljnnjamdcnaaDoor
