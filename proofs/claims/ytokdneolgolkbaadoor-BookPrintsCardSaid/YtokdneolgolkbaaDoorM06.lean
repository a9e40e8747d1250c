/- Instances in memory: what a value of type api.Instance reads as. -/
import Derived.Test.YtokdneolgolkbaaDoorMem
import Derived.Test.YtokdneolgolkbaaDoorP06
namespace Go.Proofs.YtokdneolgolkbaaDoor
open Go.RowKit P06

/-- A list of sets of days. -/
def RPats (w : World) (v : Value) (l : List Nat) : Prop := RInts w .u64 v (l.map Int.ofNat)
/-- A list of customers. -/
def RCusts (w : World) (v : Value) (L : List Cust) : Prop :=
  ∃ A c, v = .slice A L.length c ∧ L.length ≤ c ∧ c ≤ maxLen ∧
    (0 < L.length → ∃ b o, A = some ⟨b, o, none⟩ ∧ b < w.heap.size ∧ ∀ i x, L[i]? = some x → ∃ pv, RPats w pv x.pats ∧
      w.cell? ⟨b, o + i * 8, none⟩ = some (.int .i64 x.kind) ∧ w.cell? ⟨b, o + i * 8 + 1, none⟩ = some (.int .i64 x.demand) ∧ w.cell? ⟨b, o + i * 8 + 2, none⟩ = some pv ∧
      w.cell? ⟨b, o + i * 8 + 3, none⟩ = some (.int .i64 x.rate) ∧ w.cell? ⟨b, o + i * 8 + 4, none⟩ = some (.int .i64 x.size) ∧ w.cell? ⟨b, o + i * 8 + 5, none⟩ = some (.int .i64 x.start) ∧
      w.cell? ⟨b, o + i * 8 + 6, none⟩ = some (.int .i64 x.rule) ∧ w.cell? ⟨b, o + i * 8 + 7, none⟩ = some (.int .i64 x.hold))
/-- Rows of numbers. -/
def RRows (w : World) (v : Value) (L : List (List Int)) : Prop :=
  ∃ A c, v = .slice A L.length c ∧ L.length ≤ c ∧ c ≤ maxLen ∧
    (0 < L.length → ∃ b o, A = some ⟨b, o, none⟩ ∧ b < w.heap.size ∧ ∀ i r, L[i]? = some r → ∃ rv, RInts w .i64 rv r ∧ w.cell? ⟨b, o + i, none⟩ = some rv)
/-- An instance. -/
def RInst (w : World) (v : Value) (x : Inst) : Prop :=
  ∃ cv dv, v = .agg #[.int .i64 x.days, .int .i64 x.veh, .int .i64 x.cap, .int .i64 x.len, cv, dv] ∧ RCusts w cv x.custs ∧ RRows w dv x.dist

theorem RPats.open_ {w : World} {v : Value} {l : List Nat} (h : RPats w v l) : ∃ A c, v = .slice A l.length c ∧ l.length ≤ c ∧ c ≤ 9223372036854775807 ∧
    ∀ (i s : Nat), l[i]? = some s → ∃ b o, A = some ⟨b, o, none⟩ ∧ b < w.heap.size ∧ w.cell? ⟨b, o + i, none⟩ = some (.int .u64 (s : Int)) := by
  obtain ⟨A, c, hv, h1, h2, h3⟩ := RInts.open_ h
  rw [List.length_map] at hv h1
  exact ⟨A, c, hv, h1, h2, fun i s hs => h3 i _ (by rw [List.getElem?_map, hs]; rfl)⟩
theorem cell_below {w w' : World} {B b o : Nat} {v : Value} (hb : Below B w w') (hB : w.heap.size ≤ B) (h : w.cell? ⟨b, o, none⟩ = some v) : w'.cell? ⟨b, o, none⟩ = some v :=
  (hb.cell (p := ⟨b, o, none⟩) (Nat.lt_of_lt_of_le (World.block_lt_of_cell? w _ h) hB)).trans h

theorem RPats.below {w w' : World} {v : Value} {l : List Nat} {B : Nat} (h : RPats w v l) (hb : Below B w w') (hB : w.heap.size ≤ B) : RPats w' v l := RInts.below h hb hB
theorem RCusts.below {w w' : World} {v : Value} {L : List Cust} {B : Nat} (h : RCusts w v L) (hb : Below B w w') (hB : w.heap.size ≤ B) : RCusts w' v L := by
  obtain ⟨A, c, rfl, h1, h2, h3⟩ := h
  refine ⟨A, c, rfl, h1, h2, fun hn => ?_⟩
  obtain ⟨b, o, rfl, hlt, hc⟩ := h3 hn
  refine ⟨b, o, rfl, Nat.lt_of_lt_of_le hlt hb.size, fun i x hx => ?_⟩
  obtain ⟨pv, hp, c0, c1, c2, c3, c4, c5, c6, c7⟩ := hc i x hx
  exact ⟨pv, hp.below hb hB, cell_below hb hB c0, cell_below hb hB c1, cell_below hb hB c2, cell_below hb hB c3, cell_below hb hB c4, cell_below hb hB c5, cell_below hb hB c6, cell_below hb hB c7⟩
theorem RRows.below {w w' : World} {v : Value} {L : List (List Int)} {B : Nat} (h : RRows w v L) (hb : Below B w w') (hB : w.heap.size ≤ B) : RRows w' v L := by
  obtain ⟨A, c, rfl, h1, h2, h3⟩ := h
  refine ⟨A, c, rfl, h1, h2, fun hn => ?_⟩
  obtain ⟨b, o, rfl, hlt, hc⟩ := h3 hn
  refine ⟨b, o, rfl, Nat.lt_of_lt_of_le hlt hb.size, fun i r hr => ?_⟩
  obtain ⟨rv, hrv, hcell⟩ := hc i r hr
  exact ⟨rv, hrv.below hb hB, cell_below hb hB hcell⟩
theorem RInst.below {w w' : World} {v : Value} {x : Inst} {B : Nat} (h : RInst w v x) (hb : Below B w w') (hB : w.heap.size ≤ B) : RInst w' v x := by
  obtain ⟨cv, dv, hv, h1, h2⟩ := h
  exact ⟨cv, dv, hv, h1.below hb hB, h2.below hb hB⟩

end Go.Proofs.YtokdneolgolkbaaDoor
