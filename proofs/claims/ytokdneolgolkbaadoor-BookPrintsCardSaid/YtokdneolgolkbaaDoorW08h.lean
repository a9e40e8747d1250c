/- The walk of lives. -/
import Derived.Test.YtokdneolgolkbaaDoorW08e
import Derived.Test.YtokdneolgolkbaaDoorW08g
namespace Go.Proofs.YtokdneolgolkbaaDoor
open Go.RowKit P08 P05

theorem ex_print : bstr (printS [[]]) = .string ⟨#[112, 108, 97, 110, 32, 49, 10, 100, 97, 121, 32, 48, 10]⟩ ∧ printE [[]] = 0 := by
  have e1 : printS [[]] = [112, 108, 97, 110, 32, 49, 10, 100, 97, 121, 32, 48, 10] := by decide +kernel
  have e2 : printE [[]] = 0 := by decide +kernel
  rw [e1, e2]
  exact ⟨rfl, rfl⟩
theorem small_one : Small [[]] := ⟨by decide, by decide, by decide⟩
theorem wf_one : Wf [[]] := by
  intro d hd t ht
  simp only [List.mem_cons, List.not_mem_nil, or_false] at hd
  subst hd
  cases ht
theorem plan_one (w : World) : RPlan (w.alloc (.cells #[.slice none 0 0] 38)) (.agg #[.slice (some ⟨w.heap.size, 0, none⟩) 1 1]) [[]] := by
  refine ⟨_, rfl, some ⟨w.heap.size, 0, none⟩, 1, rfl, Nat.le_refl _, by simp [maxLen], fun _ => ⟨w.heap.size, 0, rfl, by simp, fun i x hx => ?_⟩⟩
  match i, hx with
  | 0, hx =>
    obtain rfl : [] = x := by simpa using hx
    refine ⟨[.slice none 0 0], rfl, ⟨_, rfl, RL.nil_ _ _ _⟩, fun j u hu => ?_⟩
    match j, hu with
    | 0, hu =>
      obtain rfl : Value.slice none 0 0 = u := by simpa using hu
      exact (Blk.new w 38 [.slice none 0 0]).cell 0
theorem plan_none (w : World) : RPlan w (.agg #[.slice none 0 0]) [] := ⟨_, rfl, RL.nil_ _ _ _⟩
set_option maxHeartbeats 1000000 in
theorem lives8_any (w : World) : Calls Tryd.prog 7 #[] w fun e w' => e = .returned (.bool true) ∧ Below w.heap.size w w' := by
  go_enter Tryd.func7, Tryd.ntmps7
  go_wp2_with fail
  refine (print8_any _ [[]] _ (plan_one w) small_one wf_one).mono ?_
  rintro e w2 ⟨rfl, hb2⟩
  rw [ex_print.1, ex_print.2]
  go_wp2_with fail
  refine (same8_any _ _ [] [] _ (plan_none _) (plan_none _)).mono ?_
  rintro e w3 ⟨rfl, hb3⟩
  rw [plEq_refl]
  go_wp2
  go_ret
  exact ⟨rfl, below_nx8 (below_nx8 (below_al8 (Below.refl _ _) _) hb2) hb3⟩
end Go.Proofs.YtokdneolgolkbaaDoor
