/- The walk of lives. -/
import Derived.Test.YtddhcmibimabnaaDoorW05e
namespace Go.Proofs.YtddhcmibimabnaaDoor
open Go.RowKit P05

theorem below_al5 {w0 w : World} (h : Below w0.heap.size w0 w) (o : Obj) : Below w0.heap.size w0 (w.alloc o) := h.alloc h.size o
theorem below_nx5 {w0 w w' : World} (h : Below w0.heap.size w0 w) (h2 : Below w.heap.size w w') : Below w0.heap.size w0 w' := h.trans (h2.mono h.size)
theorem ex_lines : linesP [97, 32, 98, 10, 55, 10] = some [[[97], [98]], [[55]]] := by decide +kernel
theorem ex_num : isNum [48, 48, 55] = false := by decide +kernel
set_option maxHeartbeats 1000000 in
theorem lives_any (m : Int) (w : World) (hm : w.cell? ⟨0, 0, none⟩ = some (.int .i64 m)) :
    Calls Tryd.prog 12 #[] w fun e w' => e = .returned (.bool true) ∧ Below w.heap.size w w' := by
  have HM := Lib.hid hm
  clear hm
  have HL := fun W h => lines_any ⟨#[97, 32, 98, 10, 55, 10]⟩ m W (by decide) h
  obtain ⟨e1, e2⟩ := linesV_some ex_lines
  have h3 : (⟨#[97, 32, 98, 10, 55, 10]⟩ : ByteArray).data.toList = [97, 32, 98, 10, 55, 10] := rfl
  rw [h3, e1, e2] at HL
  have HN := fun W => number_any ⟨#[48, 48, 55]⟩ W (by decide)
  have h4 : (⟨#[48, 48, 55]⟩ : ByteArray).data.toList = [48, 48, 55] := rfl
  rw [h4, numV_no ex_num, ex_num] at HN
  have HL := Lib.hid HL
  have HN := Lib.hid HN
  clear e1 e2 h3 h4
  go_enter Tryd.func12, Tryd.ntmps12
  go_wp2_with fail
  refine (HL.out _ HM.out).mono ?_
  rintro e w2 ⟨v, rfl, ho, hb2⟩
  obtain ⟨A, c, rfl, h1, h2, hc⟩ := RLines.open_ ho.reads
  obtain ⟨b, o, rfl, hb, r0, hr0, k0⟩ := hc 0 [[97], [98]] rfl
  obtain ⟨b', o', hA, -, r1, hr1, k1⟩ := hc 1 [[55]] rfl
  obtain ⟨rfl, rfl⟩ : b = b' ∧ o = o' := by simpa using hA
  obtain ⟨A0, c0, rfl, g1, g2, hc0⟩ := RStrs.open_ hr0
  obtain ⟨b0, o0, rfl, hb0, j0⟩ := hc0 1 [98] rfl
  obtain ⟨A1, c1, rfl, g3, g4, hc1⟩ := RStrs.open_ hr1
  obtain ⟨b1, o1, rfl, hb1, j1⟩ := hc1 0 [55] rfl
  clear hc hA hc0 hc1 hr0 hr1 ho
  simp only [List.length_cons, List.length_nil, Nat.zero_add, Nat.add_zero] at *
  go_wp2_with fail
  refine (HN.out _).mono ?_
  rintro e w3 ⟨rfl, rfl⟩
  go_wp2
  go_ret
  exact ⟨rfl, hb2⟩
end Go.Proofs.YtddhcmibimabnaaDoor
