/- Plans in memory: what a value of type api.Plan reads as; plans of the call's own. No condition. -/
import Derived.Test.YtokdneolgolkbaaDoorMem3
import Derived.Test.YtokdneolgolkbaaDoorGen
import Derived.Test.YtokdneolgolkbaaDoorP08
import Derived.Test.YtokdneolgolkbaaDoorRows
namespace Go.Proofs.YtokdneolgolkbaaDoor
open Go.RowKit P08

/-- A stop. -/
def stopC (s : Stp) : List Value := [.int .i64 s.1, .int .i64 s.2]
def RStop (_ : World) (cs : List Value) (s : Stp) : Prop := cs = stopC s
def RTour (w : World) (cs : List Value) (t : Tr) : Prop := ∃ v, cs = [v] ∧ RL 2 RStop w v t
def RDay (w : World) (cs : List Value) (d : Dy) : Prop := ∃ v, cs = [v] ∧ RL 1 RTour w v d
def RDays (w : World) (v : Value) (p : Pl) : Prop := RL 1 RDay w v p
def RPlan (w : World) (v : Value) (p : Pl) : Prop := ∃ dv, v = .agg #[dv] ∧ RDays w dv p
section
variable {w w' : World} {B : Nat}
theorem RStops.below {v : Value} {t : Tr} (h : RL 2 RStop w v t) (hb : Below B w w') (hB : w.heap.size ≤ B) : RL 2 RStop w' v t := RL.below h hb hB fun _ _ h => h
theorem RTour.below {cs : List Value} {t : Tr} (h : RTour w cs t) (hb : Below B w w') (hB : w.heap.size ≤ B) : RTour w' cs t := by
  obtain ⟨v, e, h⟩ := h
  exact ⟨v, e, RStops.below h hb hB⟩
theorem RTours.below {v : Value} {d : Dy} (h : RL 1 RTour w v d) (hb : Below B w w') (hB : w.heap.size ≤ B) : RL 1 RTour w' v d := RL.below h hb hB fun _ _ h => RTour.below h hb hB
theorem RDay.below {cs : List Value} {d : Dy} (h : RDay w cs d) (hb : Below B w w') (hB : w.heap.size ≤ B) : RDay w' cs d := by
  obtain ⟨v, e, h⟩ := h
  exact ⟨v, e, RTours.below h hb hB⟩
theorem RDays.below {v : Value} {p : Pl} (h : RDays w v p) (hb : Below B w w') (hB : w.heap.size ≤ B) : RDays w' v p := RL.below h hb hB fun _ _ h => RDay.below h hb hB
theorem RPlan.below {v : Value} {p : Pl} (h : RPlan w v p) (hb : Below B w w') (hB : w.heap.size ≤ B) : RPlan w' v p := by
  obtain ⟨dv, e, h⟩ := h
  exact ⟨dv, e, RDays.below h hb hB⟩
/-- A list of stops: the slice's form and each stop's cells. -/
theorem RStops.open_ {v : Value} {t : Tr} (h : RL 2 RStop w v t) : ∃ A c, v = .slice A t.length c ∧ t.length ≤ c ∧ c ≤ 9223372036854775807 ∧
    ∀ i s, t[i]? = some s → ∃ b o, A = some ⟨b, o, none⟩ ∧ b < w.heap.size ∧ w.cell? ⟨b, o + i * 2, none⟩ = some (.int .i64 s.1) ∧ w.cell? ⟨b, o + i * 2 + 1, none⟩ = some (.int .i64 s.2) := by
  obtain ⟨A, c, hv, h1, h2, h3⟩ := RL.open_ h
  refine ⟨A, c, hv, h1, h2, fun i s hs => ?_⟩
  obtain ⟨b, o, hA, hb, cs, _, rfl, hc⟩ := h3 i s hs
  exact ⟨b, o, hA, hb, hc 0 _ rfl, hc 1 _ rfl⟩
theorem RTours.open_ {v : Value} {d : Dy} (h : RL 1 RTour w v d) : ∃ A c, v = .slice A d.length c ∧ d.length ≤ c ∧ c ≤ 9223372036854775807 ∧
    ∀ i t, d[i]? = some t → ∃ b o, A = some ⟨b, o, none⟩ ∧ b < w.heap.size ∧ ∃ tv, RL 2 RStop w tv t ∧ w.cell? ⟨b, o + i, none⟩ = some tv := by
  obtain ⟨A, c, hv, h1, h2, h3⟩ := RL.open_ h
  refine ⟨A, c, hv, h1, h2, fun i s hs => ?_⟩
  obtain ⟨b, o, hA, hb, cs, _, ⟨tv, rfl, ht⟩, hc⟩ := h3 i s hs
  have := hc 0 _ rfl
  rw [Nat.mul_one] at this
  exact ⟨b, o, hA, hb, tv, ht, this⟩
theorem RDays.open_ {v : Value} {p : Pl} (h : RDays w v p) : ∃ A c, v = .slice A p.length c ∧ p.length ≤ c ∧ c ≤ 9223372036854775807 ∧
    ∀ i d, p[i]? = some d → ∃ b o, A = some ⟨b, o, none⟩ ∧ b < w.heap.size ∧ ∃ tv, RL 1 RTour w tv d ∧ w.cell? ⟨b, o + i, none⟩ = some tv := by
  obtain ⟨A, c, hv, h1, h2, h3⟩ := RL.open_ h
  refine ⟨A, c, hv, h1, h2, fun i s hs => ?_⟩
  obtain ⟨b, o, hA, hb, cs, _, ⟨tv, rfl, ht⟩, hc⟩ := h3 i s hs
  have := hc 0 _ rfl
  rw [Nat.mul_one] at this
  exact ⟨b, o, hA, hb, tv, ht, this⟩
end
/-- Plans of the call's own: ed, et, es the types of a day, a tour, a stop. -/
def OTour (lb : Nat) (es : TypeId) (w : World) (cs : List Value) (t : Tr) : Prop := ∃ v, cs = [v] ∧ OL lb es 2 RStop w v t
def ODay (lb : Nat) (et es : TypeId) (w : World) (cs : List Value) (d : Dy) : Prop := ∃ v, cs = [v] ∧ OL lb et 1 (OTour lb es) w v d
def ODays (lb : Nat) (ed et es : TypeId) (w : World) (v : Value) (p : Pl) : Prop := OL lb ed 1 (ODay lb et es) w v p
def OPlan (lb : Nat) (ed et es : TypeId) (w : World) (v : Value) (p : Pl) : Prop := ∃ dv, v = .agg #[dv] ∧ ODays lb ed et es w dv p
section
variable {w w' : World} {B lb base : Nat} {ed et es e' : TypeId}
theorem OStops.below {v : Value} {t : Tr} (h : OL lb es 2 RStop w v t) (hb : Below B w w') (hB : w.heap.size ≤ B) : OL lb es 2 RStop w' v t := OL.below h hb hB fun _ _ h => h
theorem OTour.below {cs : List Value} {t : Tr} (h : OTour lb es w cs t) (hb : Below B w w') (hB : w.heap.size ≤ B) : OTour lb es w' cs t := by
  obtain ⟨v, e, h⟩ := h
  exact ⟨v, e, OStops.below h hb hB⟩
theorem OTours.below {v : Value} {d : Dy} (h : OL lb et 1 (OTour lb es) w v d) (hb : Below B w w') (hB : w.heap.size ≤ B) : OL lb et 1 (OTour lb es) w' v d := OL.below h hb hB fun _ _ h => OTour.below h hb hB
theorem ODay.below {cs : List Value} {d : Dy} (h : ODay lb et es w cs d) (hb : Below B w w') (hB : w.heap.size ≤ B) : ODay lb et es w' cs d := by
  obtain ⟨v, e, h⟩ := h
  exact ⟨v, e, OTours.below h hb hB⟩
theorem ODays.below {v : Value} {p : Pl} (h : ODays lb ed et es w v p) (hb : Below B w w') (hB : w.heap.size ≤ B) : ODays lb ed et es w' v p := OL.below h hb hB fun _ _ h => ODay.below h hb hB
theorem OPlan.below {v : Value} {p : Pl} (h : OPlan lb ed et es w v p) (hb : Below B w w') (hB : w.heap.size ≤ B) : OPlan lb ed et es w' v p := by
  obtain ⟨dv, e, h⟩ := h
  exact ⟨dv, e, ODays.below h hb hB⟩
theorem OStops.keep {v : Value} {t : Tr} (h : OL lb es 2 RStop w v t) (hk : Keep e' base w w') (h1 : es ≠ e') : OL lb es 2 RStop w' v t := OL.keep h hk h1 fun _ _ h => h
theorem OTour.keep {cs : List Value} {t : Tr} (h : OTour lb es w cs t) (hk : Keep e' base w w') (h1 : es ≠ e') : OTour lb es w' cs t := by
  obtain ⟨v, e, h⟩ := h
  exact ⟨v, e, OStops.keep h hk h1⟩
theorem OTours.keep {v : Value} {d : Dy} (h : OL lb et 1 (OTour lb es) w v d) (hk : Keep e' base w w') (h1 : et ≠ e') (h2 : es ≠ e') : OL lb et 1 (OTour lb es) w' v d := OL.keep h hk h1 fun _ _ h => OTour.keep h hk h2
theorem ODay.keep {cs : List Value} {d : Dy} (h : ODay lb et es w cs d) (hk : Keep e' base w w') (h1 : et ≠ e') (h2 : es ≠ e') : ODay lb et es w' cs d := by
  obtain ⟨v, e, h⟩ := h
  exact ⟨v, e, OTours.keep h hk h1 h2⟩
theorem ODays.keep {v : Value} {p : Pl} (h : ODays lb ed et es w v p) (hk : Keep e' base w w') (h0 : ed ≠ e') (h1 : et ≠ e') (h2 : es ≠ e') : ODays lb ed et es w' v p := OL.keep h hk h0 fun _ _ h => ODay.keep h hk h1 h2
theorem OTour.mono {cs : List Value} {t : Tr} {lb' : Nat} (h : OTour lb es w cs t) (hl : lb' ≤ lb) : OTour lb' es w cs t := by
  obtain ⟨v, e, h⟩ := h
  exact ⟨v, e, OL.mono h hl⟩
theorem OTours.mono {v : Value} {d : Dy} {lb' : Nat} (h : OL lb et 1 (OTour lb es) w v d) (hl : lb' ≤ lb) : OL lb' et 1 (OTour lb' es) w v d := OL.imp (OL.mono h hl) fun _ _ h => OTour.mono h hl
theorem ODay.mono {cs : List Value} {d : Dy} {lb' : Nat} (h : ODay lb et es w cs d) (hl : lb' ≤ lb) : ODay lb' et es w cs d := by
  obtain ⟨v, e, h⟩ := h
  exact ⟨v, e, OTours.mono h hl⟩
theorem ODays.mono {v : Value} {p : Pl} {lb' : Nat} (h : ODays lb ed et es w v p) (hl : lb' ≤ lb) : ODays lb' ed et es w v p := OL.imp (OL.mono h hl) fun _ _ h => ODay.mono h hl
theorem OTour.reads {cs : List Value} {t : Tr} (h : OTour lb es w cs t) : RTour w cs t := by
  obtain ⟨v, e, h⟩ := h
  exact ⟨v, e, OL.reads h fun _ _ h => h⟩
theorem OTours.reads {v : Value} {d : Dy} (h : OL lb et 1 (OTour lb es) w v d) : RL 1 RTour w v d := OL.reads h fun _ _ h => OTour.reads h
theorem ODay.reads {cs : List Value} {d : Dy} (h : ODay lb et es w cs d) : RDay w cs d := by
  obtain ⟨v, e, h⟩ := h
  exact ⟨v, e, OTours.reads h⟩
theorem ODays.reads {v : Value} {p : Pl} (h : ODays lb ed et es w v p) : RDays w v p := OL.reads h fun _ _ h => ODay.reads h
theorem OPlan.reads {v : Value} {p : Pl} (h : OPlan lb ed et es w v p) : RPlan w v p := by
  obtain ⟨dv, e, h⟩ := h
  exact ⟨dv, e, ODays.reads h⟩
end
theorem OL.set_low {α : Type} {lb : Nat} {e : TypeId} {size : Nat} {O : World → List Value → α → Prop} {w : World} {v : Value} {L : List α} {p : Addr} (h : OL lb e size O w v L) (hp : p.block < lb) (u : Value) (hO : ∀ cs x, O w cs x → O (w.setCell p u) cs x) : OL lb e size O (w.setCell p u) v L := by
  obtain ⟨css, h1, h2, h3, h4⟩ := h
  exact ⟨css, h1, h2, own_set_low h3 hp u, fun i x cs hx hc => hO _ _ (h4 i x cs hx hc)⟩
section
variable {w : World} {lb : Nat} {ed et es : TypeId} {q : Addr}
theorem OStops.set_low {v : Value} {t : Tr} (h : OL lb es 2 RStop w v t) (hp : q.block < lb) (u : Value) : OL lb es 2 RStop (w.setCell q u) v t := OL.set_low h hp u fun _ _ h => h
theorem OTour.set_low {cs : List Value} {t : Tr} (h : OTour lb es w cs t) (hp : q.block < lb) (u : Value) : OTour lb es (w.setCell q u) cs t := by
  obtain ⟨v, e, h⟩ := h
  exact ⟨v, e, OStops.set_low h hp u⟩
theorem OTours.set_low {v : Value} {d : Dy} (h : OL lb et 1 (OTour lb es) w v d) (hp : q.block < lb) (u : Value) : OL lb et 1 (OTour lb es) (w.setCell q u) v d := OL.set_low h hp u fun _ _ h => OTour.set_low h hp u
theorem ODay.set_low {cs : List Value} {d : Dy} (h : ODay lb et es w cs d) (hp : q.block < lb) (u : Value) : ODay lb et es (w.setCell q u) cs d := by
  obtain ⟨v, e, h⟩ := h
  exact ⟨v, e, OTours.set_low h hp u⟩
theorem ODays.set_low {v : Value} {p : Pl} (h : ODays lb ed et es w v p) (hp : q.block < lb) (u : Value) : ODays lb ed et es (w.setCell q u) v p := OL.set_low h hp u fun _ _ h => ODay.set_low h hp u
end
theorem below_al8 {w0 w : World} (h : Below w0.heap.size w0 w) (o : Obj) : Below w0.heap.size w0 (w.alloc o) := h.alloc h.size o
theorem below_nx8 {w0 w w' : World} (h : Below w0.heap.size w0 w) (h2 : Below w.heap.size w w') : Below w0.heap.size w0 w' := h.trans (h2.mono h.size)
theorem stopinfo : (Tryd.prog.info? 43).map (fun i => (i.zero, i.size, i.bytes)) = some (some (.agg #[.int .i64 0, .int .i64 0]), 2, 16) := by kernel_rfl
theorem tourinfo : (Tryd.prog.info? 41).map (fun i => (i.zero, i.size, i.bytes)) = some (some (.agg #[.slice none 0 0]), 1, 24) := by kernel_rfl
theorem dayinfo : (Tryd.prog.info? 38).map (fun i => (i.zero, i.size, i.bytes)) = some (some (.agg #[.slice none 0 0]), 1, 24) := by kernel_rfl
theorem take_snoc8 {α : Type} {l : List α} {k : Nat} {a : α} (h : l[k]? = some a) : l.take (k + 1) = l.take k ++ [a] := by rw [List.take_add_one, h]; rfl
end Go.Proofs.YtokdneolgolkbaaDoor
