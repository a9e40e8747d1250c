/- The walk of Visits. -/
import Derived.Test.YtokdneolgolkbaaW08c
import Derived.Test.YtokdneolgolkbaaMem5
import Derived.Test.YtokdneolgolkbaaP08c
namespace Go.Proofs.Ytokdneolgolkbaa
open Go.RowKit Go.Shelf P08
attribute [local go_sem] Oper.semAt_some

def visC (x : Nat × Int) : List Value := [.int .i64 (x.1 : Int), .int .i64 x.2]
def RVis (_ : World) (cs : List Value) (x : Nat × Int) : Prop := cs = visC x
theorem visinfo : (Try.prog.info? 42).map (fun i => (i.zero, i.size, i.bytes)) = some (some (.agg #[.int .i64 0, .int .i64 0]), 2, 16) := by kernel_rfl

set_option maxRecDepth 100000 in
set_option maxHeartbeats 4000000 in
theorem visits_any (v : Value) (p : Pl) (cu : Int) (w : World) (hp : RPlan w v p) (hsm : Small p) :
    Calls Try.prog 9 #[v, .int .i64 cu] w fun e w' => ∃ lv, e = .returned lv ∧ w'.ownsRow w.heap.size 42 2 lv (visP cu p).length ((visP cu p).flatMap visC) ∧ Below w.heap.size w w' := by
  obtain ⟨dv, rfl, hd⟩ := hp
  have HD := Lib.hid hd
  obtain ⟨A, c, rfl, h1, h2, -⟩ := RDays.open_ hd
  have HN := Lib.hid (stopsP_len hsm)
  clear hd hsm
  refine (callsIn_wide (n := 4)).1 ?_
  refine callsIn_of_wp_marks Try.func9 rfl trivial ?_ rfl
  simp only [Try.ntmps9, List.size_toArray, List.length_cons, List.length_nil, Nat.reduceAdd, Nat.reduceSub, Array.replicate_succ, Array.replicate_zero, List.push_toArray, List.append_toArray, List.nil_append, List.cons_append]
  gi_wp2_with (refine ⟨trivial, ?_⟩; gi_at_call 13; refine (stops_in _ _ _ _ _).mono ?_; rintro e w' ⟨rfl, rfl⟩)
  have bC := ((Blk.newAt' (w.alloc (.cells #[.slice A p.length c] 24)) 3 [.int .i64 cu] (g := w.heap.size + 1) (by simp)).alloc (.cells #[.slice none 0 0] 39)).alloc (.cells #[.slice A p.length c] 24)
  have bL := (Boxed.new ((w.alloc (.cells #[.slice A p.length c] 24)).alloc (.cells #[.int .i64 cu] 3)) 39 (.slice none 0 0)).alloc (.cells #[.slice A p.length c] 24)
  have bP : ((((w.alloc (.cells #[.slice A p.length c] 24)).alloc (.cells #[.int .i64 cu] 3)).alloc (.cells #[.slice none 0 0] 39)).alloc (.cells #[.slice A p.length c] 24)).cell? ⟨w.heap.size + 1 + 1 + 1, 0, none⟩ = some (.slice A p.length c) :=
    (Blk.newAt' (((w.alloc (.cells #[.slice A p.length c] 24)).alloc (.cells #[.int .i64 cu] 3)).alloc (.cells #[.slice none 0 0] 39)) 24 [.slice A p.length c] (g := w.heap.size + 1 + 1 + 1) (by simp)).cell 0
  simp only [World.size_alloc] at bL
  have hB0 := below_al8 (below_al8 (below_al8 (below_al8 (Below.refl w.heap.size w) (.cells #[.slice A p.length c] 24)) (.cells #[.int .i64 cu] 3)) (.cells #[.slice none 0 0] 39)) (.cells #[.slice A p.length c] 24)
  have hsz : ((((w.alloc (.cells #[.slice A p.length c] 24)).alloc (.cells #[.int .i64 cu] 3)).alloc (.cells #[.slice none 0 0] 39)).alloc (.cells #[.slice A p.length c] 24)).heap.size = w.heap.size + 4 := by simp
  replace bC : Blk ((((w.alloc (.cells #[.slice A p.length c] 24)).alloc (.cells #[.int .i64 cu] 3)).alloc (.cells #[.slice none 0 0] 39)).alloc (.cells #[.slice A p.length c] 24)) (w.heap.size + 1) 3 [.int .i64 cu] := bC
  revert bC bL bP hB0 hsz
  generalize ((((w.alloc (.cells #[.slice A p.length c] 24)).alloc (.cells #[.int .i64 cu] 3)).alloc (.cells #[.slice none 0 0] 39)).alloc (.cells #[.slice A p.length c] 24)) = W0
  intro bP bL hB0 hsz bC
  refine wpIn_rangeFunc_ownH rfl (by omega) (gf := 24) (lb := #[.pointer (some ⟨w.heap.size + 1 + 1 + 1, 0, none⟩)]) rfl trivial (enters_of Try.func24 (by kernel_rfl) rfl)
    (stops_stops 3 (by omega) (w.heap.size + 1 + 1 + 1) w (.slice A p.length c) p HD.out W0 hB0 (by omega) bP) belowK_t (belowK_b (by omega)) (Below.refl _ _) (fun _ => rfl)
    (fun pre W => ((∃ lv, Boxed W (w.heap.size + 1 + 1) 39 lv ∧ W.ownsRow w.heap.size 42 2 lv (visOf cu pre).length ((visOf cu pre).flatMap visC) ∧ True) ∧ Blk W (w.heap.size + 1) 3 [.int .i64 cu]) ∧ Below w.heap.size w W)
    (fun _ _ _ => False)
    (OwnFrom.and (OwnFrom.and (Own.from (holdsRow_own w.heap.size (w.heap.size + 1 + 1) 39 42 2 (fun pre => (visOf cu pre).length) (fun pre => (visOf cu pre).flatMap visC) (fun _ _ => True)) _) (blk_ownF _ _ _ _)) (ownFrom_below (Nat.le_refl _) (by omega)))
    (fun _ _ _ _ _ h _ _ => h)
    ⟨⟨⟨_, bL, World.ownsRow_nil _ _ _ _, trivial⟩, bC⟩, hB0⟩
    (fun x a' W => ∃ Bx, w.heap.size + 1 + 1 < Bx ∧ Blk W Bx 48 [.int .i64 x.2.1, .int .i64 x.2.2, .int .i64 (x.1 : Int)] ∧ a' = { tmps := #[.agg #[.slice A p.length c], .int .i64 cu, .pointer (some ⟨w.heap.size, 0, none⟩), .pointer (some ⟨w.heap.size + 1, 0, none⟩), .slice none 0 0, .pointer (some ⟨w.heap.size + 1 + 1, 0, none⟩), .pointer (some ⟨Bx, 0, none⟩), .agg #[.slice A p.length c],
      .func (.func 24) #[] #[.pointer (some ⟨w.heap.size + 1 + 1 + 1, 0, none⟩)], .agg #[.int .i64 x.2.1, .int .i64 x.2.2, .int .i64 (x.1 : Int)], undef, undef, undef, undef, undef, undef, undef, undef, undef, undef, undef, undef, undef, undef, undef], defers := [] })
    (fun x a' _ X Y row hs hg hr => by obtain ⟨Bx, e1, e2, e3⟩ := hs; exact ⟨Bx, e1, e2.ofGrown hg (fun r e => (hr r e).2), e3⟩)
    ?assign ?body ?done ?stop
  case assign =>
    rintro l pre ⟨dy, cx, qx⟩ W K ⟨⟨⟨lv, hbx, hrow, -⟩, hbc⟩, hB⟩ hK
    gi_wp2
    exact hK _ _ ((KeepsOthers.alloc _ _).from _) ((Below.refl _ W).alloc hB.size _) ⟨⟨⟨lv, hbx.alloc _, hrow.alloc _, trivial⟩, hbc.alloc _⟩, hB.alloc hB.size _⟩ ⟨W.heap.size, hbx.lt, Blk.new W _ _, rfl⟩
  case body =>
    rintro l pre ⟨dy, cx, qx⟩ a' W hl ⟨r, hr⟩ ⟨⟨⟨lv, hbx, hrow, -⟩, hbc⟩, hB⟩ ⟨Bx, hBx, bX, rfl⟩ hlen
    have c1 : W.cell? ⟨w.heap.size + 1, 0, none⟩ = some (.int .i64 cu) := hbc.cell 0
    have c2 : W.cell? ⟨w.heap.size + 1 + 1, 0, none⟩ = some lv := hbx.cell
    have c3 : W.cell? ⟨Bx, 0, none⟩ = some (.int .i64 cx) := bX.cell 0
    have c4 : W.cell? ⟨Bx, 1, none⟩ = some (.int .i64 qx) := bX.cell 1
    have c5 : W.cell? ⟨Bx, 2, none⟩ = some (.int .i64 (dy : Int)) := bX.cell 2
    have hBl := bX.lt
    have hk : (visOf cu pre).length ≤ 1000000000 := by have := visOf_len cu pre; have := HN.out; omega
    have hle := hB.size
    by_cases hcu : cx = cu
    · subst hcu
      have HV := Lib.hid (visOf_yes (l := pre) (x := (dy, cx, qx)) rfl)
      generalize visOf cx pre = VL at hrow hk HV
      gi_wp2_with (gi_at_builtin; refine wpListIn_append_one _ rfl (.tmp 15) (.tmp 22) 39 rfl w.heap.size 42 _ 2 16 Try.underlying39 visinfo rfl (by decide) (by decide) _ _ _ hrow rfl [.int .i64 (dy : Int), .int .i64 qx] _ rfl rfl rfl hk hle ?_; intro g cap w5 ho5 hg5; obtain ⟨hv1, hv2, hr2, hk2, hb2⟩ := hbx.appended (by decide) hrow hle (by omega) ho5 hg5; have e5 := hv1.cell; have f5 := hv1.frozen)
      refine ⟨hk2.from _, hb2, ⟨⟨_, hv2, ?_⟩, ?_⟩, hB.trans hb2⟩
      · rw [HV.out, List.length_append, List.flatMap_append]
        exact hr2
      · exact (Blk.ofKept (hbc.alloc _) hg5 (hbc.not_row (by decide) hrow)).far (p := ⟨w.heap.size + 1 + 1, 0, none⟩) (by show w.heap.size + 1 ≠ w.heap.size + 1 + 1; omega) _
    · have hne : (cx == cu) = false := by rw [beq_eq_false_iff_ne]; exact hcu
      have HV := Lib.hid (visOf_no (l := pre) (x := (dy, cx, qx)) hcu)
      clear hcu
      gi_wp2
      exact ⟨KeepsFrom.refl _ _, Below.refl _ _, ⟨⟨lv, hbx, by rw [HV.out]; exact hrow⟩, hbc⟩, hB⟩
  case done =>
    rintro D ys W hD rfl ⟨⟨⟨lv, hbx, hrow, -⟩, hbc⟩, hB⟩ hK
    have c2 : W.cell? ⟨w.heap.size + 1 + 1, 0, none⟩ = some lv := hbx.cell
    obtain ⟨A1, cap1, rfl, -⟩ := RS.of_own hrow
    gi_wp2
    refine ⟨by simp, .inl ⟨_, _, rfl, run_takeDeferred hK, ?_⟩⟩
    exact ⟨_, results_tmp rfl _ _ _, _, rfl, ownsRow_putObj hrow _ hK rfl, below_put hB (Nat.le_refl _) (by omega) hK⟩
  case stop =>
    rintro D c pre W _ _ h _
    exact h.elim
end Go.Proofs.Ytokdneolgolkbaa
