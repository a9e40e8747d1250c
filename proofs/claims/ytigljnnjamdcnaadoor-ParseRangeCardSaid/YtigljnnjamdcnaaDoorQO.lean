/-
  The walk of a set's text.
  The walk of a customer's line.
-/
import Derived.Test.YtigljnnjamdcnaaDoorQM
import Derived.Test.YtigljnnjamdcnaaDoorQE
import Derived.Test.YtigljnnjamdcnaaDoorQH
import Derived.Outline
import Derived.Test.YtigljnnjamdcnaaDoorQN
import Derived.Test.YtigljnnjamdcnaaDoorQG
import Derived.Test.YtigljnnjamdcnaaDoorQD
namespace Go.Proofs.YtigljnnjamdcnaaDoor
open Go.RowKit P05 P06 P07

/-- A byte's cell; n bytes that are not laid yet. -/
def ucell (c : UInt8) : Value := .int .u8 (c.toNat : Nat)
def unone (n : Nat) : List Value := List.replicate n (.int .u8 0)
theorem made_unone (n : Nat) : madeCells (Value.int .u8 0).cells n = (unone n).toArray := by
  apply Array.ext'
  simp [madeCells, unone, Value.cells, Array.toList_range]
  apply List.ext_getElem
  · simp
  · intro i _ _
    simp [Nat.mod_one]
theorem ufill_get {l : List UInt8} {n k : Nat} (hl : l.length = n) (hk : k < n) : ((l.take k).map ucell ++ unone (n - k))[k]? = some (.int .u8 0) := by
  rw [List.getElem?_append_right (by simp; omega), List.length_map, List.length_take, hl, Nat.min_eq_left (by omega), Nat.sub_self, unone, List.getElem?_replicate, if_pos (by omega)]
theorem ufill_set {l : List UInt8} {n k : Nat} {z : UInt8} (hl : l.length = n) (hz : l[k]? = some z) :
    ((l.take k).map ucell ++ unone (n - k)).set k (ucell z) = (l.take (k + 1)).map ucell ++ unone (n - (k + 1)) := by
  have hk := lt_of_some hz
  have e : n - k = (n - (k + 1)) + 1 := by omega
  rw [List.set_append_right _ _ (by simp; omega), List.length_map, List.length_take, hl, Nat.min_eq_left (by omega), Nat.sub_self, e]
  rw [List.take_add_one, hz]
  simp [unone, List.replicate_succ]
theorem u8info : (Tryd.prog.info? 5).map (fun i => (i.zero, i.size, i.bytes)) = some (some (.int .u8 0), 1, 1) := by kernel_rfl
theorem run_make_bytes (n : Nat) (hn : n ≤ 1000000) (w : World) :
    (Instr.makeSlice 47 (.int .i64 (n : Int)) (.int .i64 (n : Int))).run Tryd.prog w = .ok (.slice (some ⟨w.heap.size, 0, none⟩) n n) (w.alloc (.cells (unone n).toArray 5)) := by
  obtain ⟨i, hi, h0, h1, h8⟩ := info_parts u8info
  have h := run_make (P := Tryd.prog) w 47 5 i _ Tryd.underlying47 hi h0 .i64 .i64 (n : Int) (n : Int) (by omega) (by omega) (by rw [h8]; omega) (by omega)
  rw [h, Int.toNat_natCast, h1, Nat.mul_one, made_unone]
theorem run_ustr {w : World} {g n : Nat} {L : List UInt8} (hb : Blk w g 5 (L.map ucell)) (hL : L.length = n) :
    (convert 47 9 (.slice (some ⟨g, 0, none⟩) n n)).run Tryd.prog w = .ok (.string ⟨L.toArray⟩) w := by
  subst hL
  refine run_convert_bytes_back w 47 9 5 ⟨g, 0, none⟩ L.length L Tryd.underlying47 Tryd.underlying5 Tryd.underlying9 (fun j hj => ?_)
  have hadd : (⟨g, 0, none⟩ : Addr).add j = ⟨g, 0 + j, none⟩ := by unfold Addr.add; split <;> simp_all
  rw [hadd, Nat.zero_add, hb.cell, List.getElem?_map, List.getElem?_eq_getElem hj]
  rfl
theorem setText_get {s n k : Nat} (hk : k < n) : (setText s n)[k]? = some (if s / 2 ^ k % 2 = 1 then 49 else 48) := by
  unfold setText
  rw [List.getElem?_map, List.getElem?_range hk]
  rfl
theorem has_bit {s k : Nat} (hk : k < 64) : P02.has s (k : Int) = decide (s / 2 ^ k % 2 = 1) := by
  unfold P02.has
  rw [decide_eq_true (show (0 : Int) ≤ k by omega), decide_eq_true (show (k : Int) ≤ 63 by omega), Int.toNat_natCast]
  rfl
set_option maxHeartbeats 1000000 in
set_option maxRecDepth 100000 in
theorem dtext_any (s n : Nat) (w : World) (hs : s < 18446744073709551616) (h0 : 1 ≤ n) (h1 : n ≤ 64) :
    Calls Tryd.prog 46 #[.int .u64 (s : Int), .int .i64 (n : Int)] w fun e w' => ∃ t : ByteArray, e = .returned (.string t) ∧ Hid (t = ⟨(setText s n).toArray⟩) ∧ Below w.heap.size w w' := by
  have hmk := fun W => run_make_bytes n (by omega) W
  have d0 : decide ((n : Int) < 1) = false := decide_eq_false (by omega)
  have d1 : decide ((n : Int) > 64) = false := decide_eq_false (by omega)
  have hlen := setText_len s n
  go_enter Tryd.func46, Tryd.ntmps46
  go_wp2_with fail
  clear d0 d1
  go_loopw [17] (fun iv wr => ∃ i : Nat, i ≤ n ∧ iv = .int .i64 i ∧ Below w.heap.size w wr ∧ Blk wr w.heap.size 5 (((setText s n).take i).map ucell ++ unone (n - i))) (fun iv _ => n - (intOf iv).toNat)
  case atStart => exact ⟨0, Nat.zero_le _, rfl, below_al (Below.refl _ _) _, Blk.new _ _ _⟩
  case round =>
    obtain ⟨i, hi, rfl, hbel, hb⟩ := hrel
    by_cases hlt : i < n
    · have y0 := (hb.cell i).trans (ufill_get hlen hlt)
      have f0 := hb.frozen i
      have hg := setText_get (s := s) hlt
      have HB := Lib.hid (has_bit (s := s) (show i < 64 by omega))
      by_cases hbit : s / 2 ^ i % 2 = 1
      · rw [if_pos hbit] at hg
        rw [decide_eq_true hbit] at HB
        have HB2 := Lib.hid (show (((setText s n).take i).map ucell ++ unone (n - i)).set i (ucell 49) = _ from ufill_set hlen hg)
        have hb1 := hb.set_ i (.int .u8 48)
        have f1 := hb1.frozen i
        have y1 : _ = some (Value.int .u8 48) := (hb1.cell i).trans (List.getElem?_set_self (by simp [unone, hlen]; omega))
        clear hbit hg
        go_wp2_with (go_at_call 64; refine (dhas_any s hs _ _).mono ?_; rintro e w1 ⟨rfl, rfl⟩; rw [HB.out])
        go_roundw
        case rel =>
          refine ⟨i + 1, by omega, by go_num, (hbel.setCell (p := ⟨w.heap.size, i, none⟩) (Nat.le_refl _) _).setCell (p := ⟨w.heap.size, i, none⟩) (Nat.le_refl _) _, ?_⟩
          have := hb1.set_ i (.int .u8 49)
          rw [List.set_set] at this
          rw [← HB2.out]
          exact this
        case measure => simp [intOf]; omega
      · rw [if_neg hbit] at hg
        rw [decide_eq_false hbit] at HB
        have HB2 := Lib.hid (show (((setText s n).take i).map ucell ++ unone (n - i)).set i (ucell 48) = _ from ufill_set hlen hg)
        have hb1 := hb.set_ i (.int .u8 48)
        clear hbit hg
        go_wp2_with (go_at_call 64; refine (dhas_any s hs _ _).mono ?_; rintro e w1 ⟨rfl, rfl⟩; rw [HB.out])
        go_roundw
        case rel =>
          refine ⟨i + 1, by omega, by go_num, hbel.setCell (p := ⟨w.heap.size, i, none⟩) (Nat.le_refl _) _, ?_⟩
          rw [← HB2.out]
          exact hb1
        case measure => simp [intOf]; omega
    · obtain rfl : i = n := by omega
      have hb2 : Blk wr w.heap.size 5 ((setText s i).map ucell) := by
        have := hb
        rw [List.take_of_length_le (by omega), Nat.sub_self] at this
        simpa [unone] using this
      have hcv := run_ustr hb2 hlen
      clear hb hb2
      go_wp2_with fail
      go_ret
      exact ⟨_, rfl, Lib.hid rfl, hbel⟩
end Go.Proofs.YtigljnnjamdcnaaDoor

namespace Go.Proofs.YtigljnnjamdcnaaDoor
open Go.RowKit P05 P06 P07

theorem wpList_append_strs {ops : Array Oper} {rest : List Oper} {o : Oper} {a : Act} {Q : Exit → Act → World → Prop} (w : World) (hgd : o.guard = none) (s x : Operand)
    (ho : o.op = .call { callee := .builtin .append, args := #[s, x], argTypes := #[56, 56] })
    (base : Nat) (v : Value) (n : Nat) (xs : List Value) (hown : w.ownsRow base 9 1 v n xs) (hs : a.eval s = v)
    (u : Value) (L : Line) (hx : a.eval x = u) (hu : RStrs w u L) (hL : 0 < L.length) (hn : n + L.length ≤ 1000000000) (hbase : base ≤ w.heap.size)
    (h : ∀ v' w', w'.ownsRow base 9 1 v' (n + L.length) (xs ++ L.map bstr) → Below base w w' → wpList Tryd.prog ops Q rest (a.put o.dst v') w') : wpList Tryd.prog ops Q (o :: rest) a w := by
  obtain ⟨i, hi, hz, hs1, hb1⟩ := info_parts strinfo
  obtain ⟨A, c, rfl, g1, g2, g3, g4⟩ := hu
  obtain ⟨b, of, rfl, hb, hc⟩ := g4 hL
  refine wpList_append_own (P := Tryd.prog) w hgd s x 56 ho base 9 i _ 1 16 Tryd.underlying56 hi hz hs1 hb1 rfl (by decide) v n xs hs hown ⟨b, of, none⟩ L.length c (L.map bstr) hx (by simp)
    (fun j u hu => ?_) (fun u hu => ?_) (by simp only [maxLen]; omega) (by omega) hbase (fun v' w' h1 hg _ => h v' w' h1 ?_)
  · have hadd : (⟨b, of, none⟩ : Addr).add j = ⟨b, of + j, none⟩ := by unfold Addr.add; split <;> simp_all
    rw [hadd]; exact hc j u hu
  · obtain ⟨y, -, rfl⟩ := List.mem_map.1 hu; rfl
  · exact (Below.refl _ _).grown hg (by omega) (fun k hk => (hown.lt k hk).1)
theorem RStrs.of_own {w : World} {lb : Nat} {v : Value} {n : Nat} {L : Line} (h : w.ownsRow lb 9 1 v n (L.map bstr)) : RStrs w v L := by
  have hl := h.1
  rw [List.length_map, Nat.mul_one] at hl
  subst hl
  exact RS.of_own h
def visitPre (x : Cust) (n i : Nat) : Line := wVisit :: decI x.demand :: (x.pats.take i).map fun s => setText s n
theorem visitPre_len (x : Cust) (n i : Nat) (h : i ≤ x.pats.length) : (visitPre x n i).length = i + 2 := by unfold visitPre; simp; omega
theorem visitPre_snoc {x : Cust} {n i s : Nat} (h : x.pats[i]? = some s) : visitPre x n (i + 1) = visitPre x n i ++ [setText s n] := by
  unfold visitPre
  rw [take_snoc7 h, List.map_append]
  rfl
set_option maxHeartbeats 4000000 in
set_option maxRecDepth 100000 in
theorem customer_any (x : Cust) (n : Nat) (pv : Value) (w : World) (hp : RPats w pv x.pats) (hwf : x.wf) (h0 : 1 ≤ n) (h1 : n ≤ 64) (hpl : x.pats.length ≤ 900) :
    Calls Tryd.prog 22 #[.agg #[.int .i64 x.kind, .int .i64 x.demand, pv, .int .i64 x.rate, .int .i64 x.size, .int .i64 x.start, .int .i64 x.rule, .int .i64 x.hold], .int .i64 (n : Int)] w fun e w' => ∃ u, e = .returned u ∧ RStrs w' u (custLine n x) ∧ Below w.heap.size w w' := by
  obtain ⟨wf1, wf2, wf3, wf4, wf5, wf6, wf7, wf8⟩ := hwf
  unfold W64 at wf1 wf2 wf4 wf5 wf6 wf7 wf8
  have HP := Lib.hid hp
  have HW3 := Lib.hid wf3
  obtain ⟨A, c, rfl, g1, g2, g3⟩ := hp.open_
  have G3 := Lib.hid g3
  have bx := Blk.new w 41 [.int .i64 x.kind, .int .i64 x.demand, .slice A x.pats.length c, .int .i64 x.rate, .int .i64 x.size, .int .i64 x.start, .int .i64 x.rule, .int .i64 x.hold]
  have hal := below_al (Below.refl w.heap.size w) (.cells #[.int .i64 x.kind, .int .i64 x.demand, .slice A x.pats.length c, .int .i64 x.rate, .int .i64 x.size, .int .i64 x.start, .int .i64 x.rule, .int .i64 x.hold] 41)
  clear hp wf3 g3
  by_cases hk : x.kind = 1
  · have HCL : Hid (custLine n x = visitPre x n x.pats.length) := Lib.hid (by unfold custLine visitPre; rw [if_pos hk, List.take_length, Int.toNat_natCast])
    have hkb : (x.kind == 1) = true := by rw [hk]; rfl
    clear hk
    go_enter Tryd.func22, Tryd.ntmps22
    go_wp2_with fail
    refine (dec_any x.demand _ wf2.1 wf2.2).mono ?_
    rintro e w2 ⟨t, rfl, HT, hb2⟩
    have hal2 := below_nx hal hb2
    have bx2 := bx.below hb2 bx.lt
    have how := World.ownsRow_lit (base := w.heap.size + 1) (e := 9) (size := 1) w2 #[.string ⟨#[118, 105, 115, 105, 116]⟩, .string t] 2 bx2.lt (by simp [maxLen]) rfl
    have HOW : Hid ((w2.alloc (.cells #[.string ⟨#[118, 105, 115, 105, 116]⟩, .string t] 9)).ownsRow (w.heap.size + 1) 9 1 (.slice (some ⟨w2.heap.size, 0, none⟩) 2 2) (0 + 2) ((visitPre x n 0).map bstr)) := Lib.hid (by
      rw [HT.out] at how ⊢
      exact how)
    have hal3 := hal2.alloc hal2.size (.cells #[.string ⟨#[118, 105, 115, 105, 116]⟩, .string t] 9)
    have bx3 := bx2.alloc (.cells #[.string ⟨#[118, 105, 115, 105, 116]⟩, .string t] 9)
    obtain ⟨d0, d1, d2, d3, d4, d5, d6, d7⟩ := bx3.cells8
    clear how hb2 hal2 hal bx2 bx
    go_wp2_with fail
    clear d0 d1 d2 d3 d4 d5 d6 d7
    go_loopw [5, 19] (fun lv iv wr => ∃ i, i ≤ x.pats.length ∧ iv = .int .i64 i ∧ Hid (wr.ownsRow (w.heap.size + 1) 9 1 lv (i + 2) ((visitPre x n i).map bstr)) ∧ Below w.heap.size w wr ∧ w.heap.size < wr.heap.size) (fun _ iv _ => x.pats.length - (intOf iv).toNat)
    case atStart => exact ⟨0, Nat.zero_le _, rfl, HOW, hal3, bx3.lt⟩
    case round =>
      obtain ⟨i, hi, rfl, HO, hbel, hzz⟩ := hrel
      by_cases hlt : i < x.pats.length
      · obtain ⟨s, hs⟩ := some_of_lt hlt
        obtain ⟨b, o, rfl, hb, hc⟩ := G3.out i s hs
        have y0 := cell_below hbel (Nat.le_refl _) hc
        have hs64 := HW3.out s (List.mem_of_getElem? hs)
        have HSN := Lib.hid (visitPre_snoc (n := n) hs)
        obtain ⟨Al, cl, rfl, -⟩ := RS.of_own HO.out
        clear hs hc
        go_wp2_with fail
        refine (dtext_any s n _ hs64 h0 h1).mono ?_
        rintro e w3 ⟨t3, rfl, HT3, hb3⟩
        have how := own_below HO.out hb3 (Nat.le_refl _)
        have hz3 := hb3.size
        have hin : i + 2 ≤ 1000000000 := by omega
        have hbase : w.heap.size + 1 ≤ w3.heap.size := by omega
        go_wp2_with (at_builtin; refine wpList_append_one _ rfl (.tmp 23) (.tmp 27) 56 rfl (w.heap.size + 1) 9 _ 1 16 Tryd.underlying56 strinfo rfl (by decide) (by decide) _ _ _ how rfl [.string t3] _ rfl rfl rfl hin hbase ?_; intro v5 w5 ho5 hb5 hz5)
        go_roundw
        case rel =>
          refine ⟨i + 1, by omega, by go_num, Lib.hid ?_, hbel.trans ((hb3.mono hbel.size).trans (hb5.mono (Nat.le_succ _))), by omega⟩
          rw [HSN.out, List.map_append, show i + 1 + 2 = i + 2 + 1 by omega]
          rw [HT3.out] at ho5
          exact ho5
        case measure => simp [intOf]; omega
      · obtain rfl : i = x.pats.length := by omega
        go_wp2_with fail
        go_ret
        rw [HCL.out]
        exact ⟨_, rfl, RStrs.of_own HO.out, hbel⟩
  · have hkb : (x.kind == 1) = false := by rw [beq_eq_false_iff_ne]; exact hk
    have HCL : Hid (custLine n x = [wTank] ++ [x.rate, x.size, x.start].map decI ++ [if x.rule = 1 then wFill else wAny] ++ [decI x.hold]) := Lib.hid (by unfold custLine; rw [if_neg hk]; rfl)
    clear hk
    obtain ⟨d0, d1, d2, d3, d4, d5, d6, d7⟩ := bx.cells8
    obtain ⟨d0', d1', d2', d3', d4', d5', d6', d7'⟩ := (bx.alloc (.cells #[.string ⟨#[116, 97, 110, 107]⟩] 9)).cells8
    have how := World.ownsRow_lit (base := w.heap.size + 1) (e := 9) (size := 1) (w.alloc (.cells #[.int .i64 x.kind, .int .i64 x.demand, .slice A x.pats.length c, .int .i64 x.rate, .int .i64 x.size, .int .i64 x.start, .int .i64 x.rule, .int .i64 x.hold] 41)) #[.string ⟨#[116, 97, 110, 107]⟩] 1 bx.lt (by simp [maxLen]) rfl
    have hal2 := hal.alloc hal.size (.cells #[.string ⟨#[116, 97, 110, 107]⟩] 9)
    have bx2 := bx.alloc (.cells #[.string ⟨#[116, 97, 110, 107]⟩] 9)
    go_enter Tryd.func22, Tryd.ntmps22
    go_wp2_with fail
    have bi := Blk.newAt ((w.alloc (.cells #[.int .i64 x.kind, .int .i64 x.demand, .slice A x.pats.length c, .int .i64 x.rate, .int .i64 x.size, .int .i64 x.start, .int .i64 x.rule, .int .i64 x.hold] 41)).alloc (.cells #[.string ⟨#[116, 97, 110, 107]⟩] 9)) 3 ([x.rate, x.size, x.start].map (.int .i64)) (g := w.heap.size + 1 + 1) (by simp)
    have hri : RInts _ .i64 (.slice (some ⟨w.heap.size + 1 + 1, 0, none⟩) 3 3) [x.rate, x.size, x.start] := bi.RInts rfl (by decide) (by simp [maxLen])
    have hal3 := hal2.alloc hal2.size (.cells #[.int .i64 x.rate, .int .i64 x.size, .int .i64 x.start] 3)
    have bx3 := bx2.alloc (.cells #[.int .i64 x.rate, .int .i64 x.size, .int .i64 x.start] 3)
    have how3 := how.alloc (.cells #[.int .i64 x.rate, .int .i64 x.size, .int .i64 x.start] 3)
    simp only [World.size_alloc] at how3
    change RInts (((w.alloc (.cells #[.int .i64 x.kind, .int .i64 x.demand, .slice A x.pats.length c, .int .i64 x.rate, .int .i64 x.size, .int .i64 x.start, .int .i64 x.rule, .int .i64 x.hold] 41)).alloc (.cells #[.string ⟨#[116, 97, 110, 107]⟩] 9)).alloc (.cells #[.int .i64 x.rate, .int .i64 x.size, .int .i64 x.start] 3)) _ _ _ at hri
    clear d0 d1 d2 d3 d4 d5 d6 d7 d0' d1' d2' d3' d4' d5' d6' d7' bx bx2 bi hal hal2 how
    revert hri hal3 bx3 how3
    generalize (((w.alloc (.cells #[.int .i64 x.kind, .int .i64 x.demand, .slice A x.pats.length c, .int .i64 x.rate, .int .i64 x.size, .int .i64 x.start, .int .i64 x.rule, .int .i64 x.hold] 41)).alloc (.cells #[.string ⟨#[116, 97, 110, 107]⟩] 9)).alloc (.cells #[.int .i64 x.rate, .int .i64 x.size, .int .i64 x.start] 3)) = w1
    intro hal3 bx3 how3 hri
    refine (words_any [x.rate, x.size, x.start] _ w1 (by simp) (fun z hz => by simp only [List.mem_cons, List.not_mem_nil, or_false] at hz; rcases hz with rfl | rfl | rfl <;> assumption) hri).mono ?_
    rintro e w2 ⟨u, rfl, hu, hb2⟩
    have hb2' := hb2.mono hal3.size
    have hal4 := hal3.trans hb2'
    have bx4 := bx3.below hb2 bx3.lt
    have how4 := own_below how3 hb2 (Nat.le_refl _)
    have hz4 := bx4.lt
    have hbase4 : w.heap.size + 1 ≤ w2.heap.size := hz4
    have HWO : ∃ An cn, u = .slice An 3 cn := by
      obtain ⟨An, cn, h, -⟩ := hu
      exact ⟨An, cn, h⟩
    obtain ⟨An, cn, rfl⟩ := HWO
    clear hri hal3 bx3 how3 hb2 hb2'
    obtain ⟨c0, c1, c2, c3, c4, c5, c6, c7⟩ := bx4.cells8
    clear c0 c1 c2 c3 c4 c5 c7
    have HX4 := Lib.hid bx4
    have HA4 := Lib.hid hal4
    clear bx4 hal4
    by_cases hr : x.rule = 1
    · have HRW : Hid ((if x.rule = 1 then wFill else wAny) = wFill) := Lib.hid (by rw [if_pos hr])
      have hrb : (x.rule == 1) = true := by rw [hr]; rfl
      clear hr
      go_wp2_with (first | (at_builtin; refine wpList_append_strs _ rfl (.tmp 31) (.tmp 39) rfl (w.heap.size + 1) _ _ _ how4 rfl _ ([x.rate, x.size, x.start].map decI) rfl hu (by simp) (by simp) hbase4 ?_; intro v5 w5 ho5 hb5; have bx5 := HX4.out.below hb5 (Nat.lt_succ_self _); have e6 : w5.cell? ⟨w.heap.size, 6, none⟩ = some (.int .i64 x.rule) := bx5.cell 6; have hbase5 : w.heap.size + 1 ≤ w5.heap.size := bx5.lt; obtain ⟨A5, c5, rfl, -⟩ := RS.of_own ho5) | (at_builtin; refine wpList_append_one _ rfl (.tmp 44) (.tmp 45) 56 rfl (w.heap.size + 1) 9 _ 1 16 Tryd.underlying56 strinfo rfl (by decide) (by decide) _ _ _ ho5 rfl [.string ⟨#[102, 105, 108, 108]⟩] _ rfl rfl rfl (by simp) hbase5 ?_; intro v6 w6 ho6 hb6 hz6; have bx6 := bx5.below hb6 (Nat.lt_succ_self _); have e7' : w6.cell? ⟨w.heap.size, 7, none⟩ = some (.int .i64 x.hold) := bx6.cell 7; obtain ⟨A6, c6, rfl, -⟩ := RS.of_own ho6))
      refine (dec_any x.hold _ wf8.1 wf8.2).mono ?_
      rintro e w7 ⟨t7, rfl, HT7, hb7⟩
      have ho7 := own_below ho6 hb7 (Nat.le_refl _)
      have hbase7 : w.heap.size + 1 ≤ w7.heap.size := by have := hb7.size; omega
      have HA7 := Lib.hid (HA4.out.trans ((hb5.mono (Nat.le_succ _)).trans ((hb6.mono (Nat.le_succ _)).trans (hb7.mono (by omega)))))
      go_wp2_with (at_builtin; refine wpList_append_one _ rfl (.tmp 50) (.tmp 54) 56 rfl (w.heap.size + 1) 9 _ 1 16 Tryd.underlying56 strinfo rfl (by decide) (by decide) _ _ _ ho7 rfl [.string t7] _ rfl rfl rfl (by simp) hbase7 ?_; intro v8 w8 ho8 hb8 hz8)
      go_ret
      refine ⟨_, rfl, RStrs.of_own (n := 1 + 3 + 1 + 1) (lb := w.heap.size + 1) ?_, HA7.out.trans (hb8.mono (Nat.le_succ _))⟩
      rw [HCL.out, HRW.out]
      rw [HT7.out] at ho8
      exact ho8
    · have HRW : Hid ((if x.rule = 1 then wFill else wAny) = wAny) := Lib.hid (by rw [if_neg hr])
      have hrb : (x.rule == 1) = false := by rw [beq_eq_false_iff_ne]; exact hr
      clear hr
      go_wp2_with (first | (at_builtin; refine wpList_append_strs _ rfl (.tmp 31) (.tmp 39) rfl (w.heap.size + 1) _ _ _ how4 rfl _ ([x.rate, x.size, x.start].map decI) rfl hu (by simp) (by simp) hbase4 ?_; intro v5 w5 ho5 hb5; have bx5 := HX4.out.below hb5 (Nat.lt_succ_self _); have e6 : w5.cell? ⟨w.heap.size, 6, none⟩ = some (.int .i64 x.rule) := bx5.cell 6; have hbase5 : w.heap.size + 1 ≤ w5.heap.size := bx5.lt; obtain ⟨A5, c5, rfl, -⟩ := RS.of_own ho5) | (at_builtin; refine wpList_append_one _ rfl (.tmp 47) (.tmp 48) 56 rfl (w.heap.size + 1) 9 _ 1 16 Tryd.underlying56 strinfo rfl (by decide) (by decide) _ _ _ ho5 rfl [.string ⟨#[97, 110, 121]⟩] _ rfl rfl rfl (by simp) hbase5 ?_; intro v6 w6 ho6 hb6 hz6; have bx6 := bx5.below hb6 (Nat.lt_succ_self _); have e7' : w6.cell? ⟨w.heap.size, 7, none⟩ = some (.int .i64 x.hold) := bx6.cell 7; obtain ⟨A6, c6, rfl, -⟩ := RS.of_own ho6))
      refine (dec_any x.hold _ wf8.1 wf8.2).mono ?_
      rintro e w7 ⟨t7, rfl, HT7, hb7⟩
      have ho7 := own_below ho6 hb7 (Nat.le_refl _)
      have hbase7 : w.heap.size + 1 ≤ w7.heap.size := by have := hb7.size; omega
      have HA7 := Lib.hid (HA4.out.trans ((hb5.mono (Nat.le_succ _)).trans ((hb6.mono (Nat.le_succ _)).trans (hb7.mono (by omega)))))
      go_wp2_with (at_builtin; refine wpList_append_one _ rfl (.tmp 50) (.tmp 54) 56 rfl (w.heap.size + 1) 9 _ 1 16 Tryd.underlying56 strinfo rfl (by decide) (by decide) _ _ _ ho7 rfl [.string t7] _ rfl rfl rfl (by simp) hbase7 ?_; intro v8 w8 ho8 hb8 hz8)
      go_ret
      refine ⟨_, rfl, RStrs.of_own (n := 1 + 3 + 1 + 1) (lb := w.heap.size + 1) ?_, HA7.out.trans (hb8.mono (Nat.le_succ _))⟩
      rw [HCL.out, HRW.out]
      rw [HT7.out] at ho8
      exact ho8
end Go.Proofs.YtigljnnjamdcnaaDoor
