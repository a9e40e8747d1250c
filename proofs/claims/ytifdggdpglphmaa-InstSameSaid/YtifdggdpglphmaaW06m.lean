/- The walk of the document's example. -/
import Derived.Test.YtifdggdpglphmaaW06g
import Derived.Test.YtifdggdpglphmaaW06l
namespace Go.Proofs.Ytifdggdpglphmaa
open Go.RowKit P06

def X0 : Inst := ⟨1, 1, 9, 9, [⟨1, 1, [1], 0, 0, 0, 0, 0⟩], [[0, 3], [4, 0]]⟩
theorem X0_may : may X0 = true := by decide +kernel
theorem X0_way : way X0.dist [0] = 7 := by decide
theorem X0_arcs : ArcsOk X0.dist := by
  intro a b
  unfold arc
  split
  · omega
  · rcases h : a.toNat with _ | _ | n
    · rcases h' : b.toNat with _ | _ | m <;> simp [X0]
    · rcases h' : b.toNat with _ | _ | m <;> simp [X0]
    · simp [X0]
theorem X0_wf : X0.wf := by
  refine ⟨⟨by decide, by decide⟩, ⟨by decide, by decide⟩, ⟨by decide, by decide⟩, ⟨by decide, by decide⟩, fun c hc => ?_, fun r hr z hz => ?_⟩
  · simp [X0] at hc
    subst hc
    exact ⟨⟨by decide, by decide⟩, ⟨by decide, by decide⟩, fun s hs => by simp at hs; omega, ⟨by decide, by decide⟩, ⟨by decide, by decide⟩, ⟨by decide, by decide⟩, ⟨by decide, by decide⟩, ⟨by decide, by decide⟩⟩
  · simp [X0] at hr
    rcases hr with rfl | rfl <;> simp at hz <;> rcases hz with rfl | rfl <;> exact ⟨by decide, by decide⟩
theorem X0_reads {w : World} {g0 g1 g2 g3 g4 : Nat} {t0 t1 t2 t3 t4 : TypeId} (h0 : Blk w g0 t0 [.int .u64 1]) (h1 : Blk w g1 t1 [.int .i64 1, .int .i64 1, .slice (some ⟨g0, 0, none⟩) 1 1, .int .i64 0, .int .i64 0, .int .i64 0, .int .i64 0, .int .i64 0])
    (h2 : Blk w g2 t2 [.int .i64 0, .int .i64 3]) (h3 : Blk w g3 t3 [.int .i64 4, .int .i64 0]) (h4 : Blk w g4 t4 [.slice (some ⟨g2, 0, none⟩) 2 2, .slice (some ⟨g3, 0, none⟩) 2 2]) :
    RInst w (.agg #[.int .i64 1, .int .i64 1, .int .i64 9, .int .i64 9, .slice (some ⟨g1, 0, none⟩) 1 1, .slice (some ⟨g4, 0, none⟩) 2 2]) X0 := by
  refine ⟨_, _, rfl, ?_, ?_⟩
  · refine ⟨_, 1, rfl, Nat.le_refl _, by simp [maxLen], fun _ => ⟨g1, 0, rfl, h1.lt, fun i x hx => ?_⟩⟩
    match i, hx with
    | 0, hx =>
      obtain rfl : (⟨1, 1, [1], 0, 0, 0, 0, 0⟩ : Cust) = x := by simpa [X0] using hx
      refine ⟨.slice (some ⟨g0, 0, none⟩) 1 1, (h0.RInts (l := [1]) rfl (Nat.le_refl _) (by simp [maxLen])), h1.cell 0, h1.cell 1, h1.cell 2, h1.cell 3, h1.cell 4, h1.cell 5, h1.cell 6, h1.cell 7⟩
    | i + 1, hx => simp [X0] at hx
  · refine ⟨_, 2, rfl, Nat.le_refl _, by simp [maxLen], fun _ => ⟨g4, 0, rfl, h4.lt, fun i r hr => ?_⟩⟩
    match i, hr with
    | 0, hr =>
      obtain rfl : ([0, 3] : List Int) = r := by simpa [X0] using hr
      exact ⟨.slice (some ⟨g2, 0, none⟩) 2 2, h2.RInts (l := [0, 3]) rfl (Nat.le_refl _) (by simp [maxLen]), h4.cell 0⟩
    | 1, hr =>
      obtain rfl : ([4, 0] : List Int) = r := by simpa [X0] using hr
      exact ⟨.slice (some ⟨g3, 0, none⟩) 2 2, h3.RInts (l := [4, 0]) rfl (Nat.le_refl _) (by simp [maxLen]), h4.cell 1⟩
    | i + 2, hr => simp [X0] at hr

theorem Blk.newAt (w : World) (t : TypeId) (cs : List Value) {g : Nat} (hg : g = w.heap.size) : Blk (w.alloc (.cells cs.toArray t)) g t cs := by subst hg; exact Blk.new w t cs

theorem below_al {w0 w : World} (h : Below w0.heap.size w0 w) (o : Obj) : Below w0.heap.size w0 (w.alloc o) := h.alloc h.size o
theorem calls_at {P : Program} {f : FuncId} {args : Array Value} {w : World} {Q : Ending → World → Prop} (S : World → Prop) (hS : S w) (h : ∀ W, S W → Calls P f args W Q) : Calls P f args w Q := h w hS

set_option maxHeartbeats 2000000 in
theorem lives_any (w : World) : Calls Try.prog 13 #[] w fun e w' => e = .returned (.bool true) ∧ Below w.heap.size w w' := by
  have HM : Hid (mayE X0 = 0) := mayE_t X0_may
  have HW : Hid (way X0.dist [0] = 7) := X0_way
  have HN : Hid (way X0.dist [] = 0) := rfl
  go_enter Try.func13, Try.ntmps13
  go_wp2_with fail
  refine calls_at (S := fun W => Below w.heap.size w W ∧ Blk W (w.heap.size + 5) 25 [.int .i64 1, .int .i64 1, .int .i64 9, .int .i64 9, .slice (some ⟨w.heap.size + 1, 0, none⟩) 1 1, .slice (some ⟨w.heap.size + 4, 0, none⟩) 2 2] ∧
    RInst W (.agg #[.int .i64 1, .int .i64 1, .int .i64 9, .int .i64 9, .slice (some ⟨w.heap.size + 1, 0, none⟩) 1 1, .slice (some ⟨w.heap.size + 4, 0, none⟩) 2 2]) X0) ⟨?_, ?_, ?_⟩ ?_
  · exact below_al (below_al (below_al (below_al (below_al (below_al (Below.refl _ _) _) _) _) _) _) _
  · exact Blk.newAt _ _ _ (by simp)
  · refine X0_reads (g0 := w.heap.size) (g2 := w.heap.size + 2) (g3 := w.heap.size + 3) (t0 := 47) (t1 := 46) (t2 := 3) (t3 := 3) (t4 := 33) ?_ ?_ ?_ ?_ ?_
    · exact (((((Blk.newAt _ _ _ rfl).alloc _).alloc _).alloc _).alloc _).alloc _
    · exact ((((Blk.newAt _ _ _ (by simp)).alloc _).alloc _).alloc _).alloc _
    · exact (((Blk.newAt _ _ _ (by simp)).alloc _).alloc _).alloc _
    · exact ((Blk.newAt _ _ _ (by simp)).alloc _).alloc _
    · exact (Blk.newAt _ _ _ (by simp)).alloc _
  rintro W ⟨hb0, hbx, hR⟩
  have hRW := Lib.hid hR
  refine (may_any _ X0 _ hR X0_wf (by decide)).mono ?_
  rintro e w1 ⟨rfl, hb1⟩
  rw [HM.out]
  have hbx1 := hbx.below hb1 hbx.lt
  have hR1 := Lib.hid (hR.below hb1 (Nat.le_refl _))
  obtain ⟨x0, x1, x2, x3, x4, x5⟩ := hbx1.cells6
  have hsz := hb1.size
  have hlt := hbx.lt
  clear hR hbx
  go_wp2_with fail
  refine (way_any _ _ X0 [] _ hR1.out (RS.none_ _ _) X0_arcs (by decide) (by simp)).mono ?_
  rintro e w2 ⟨rfl, hb2⟩
  rw [HN.out]
  have hbx2 := hbx1.below hb2 hbx1.lt
  have hR2 := Lib.hid (hR1.out.below hb2 (Nat.le_refl _))
  obtain ⟨y0, y1, y2, y3, y4, y5⟩ := hbx2.cells6
  clear x0 x1 x2 x3 x4 x5
  go_wp2_with fail
  have hl3 : RInts (w2.alloc (.cells #[.int .i64 0] 3)) .i64 (.slice (some ⟨w2.heap.size, 0, none⟩) 1 1) [0] := (Blk.newAt w2 _ [.int .i64 0] rfl).RInts (l := [0]) rfl (Nat.le_refl _) (by simp [maxLen])
  refine (way_any _ _ X0 [0] _ (hR2.out.below (below_al (Below.refl _ _) _) (Nat.le_refl _)) hl3 X0_arcs (by decide) (by simp)).mono ?_
  rintro e w3 ⟨rfl, hb3⟩
  rw [HW.out]
  clear y0 y1 y2 y3 y4 y5
  go_wp2_with fail
  go_ret
  exact ⟨rfl, ((hb0.trans (hb1.mono hb0.size)).trans (hb2.mono (Nat.le_trans hb0.size hsz))).trans (((below_al (Below.refl _ _) _).trans (hb3.mono (by simp))).mono (by have := hb2.size; have := hb0.size; omega))⟩

end Go.Proofs.Ytifdggdpglphmaa
