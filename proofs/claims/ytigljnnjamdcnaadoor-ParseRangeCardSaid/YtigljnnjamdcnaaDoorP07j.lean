/- An instance's text, as the reference writes it. No program in sight. -/
import Derived.Test.YtigljnnjamdcnaaDoorQC
namespace Go.Proofs.YtigljnnjamdcnaaDoor.P07
open P05 P06

theorem joinB_snoc7 (b : UInt8) : ∀ (l : Line) (a : Word), l ≠ [] → joinB b (l ++ [a]) = joinB b l ++ b :: a
  | [], a, h => absurd rfl h
  | [w], a, _ => rfl
  | w :: v :: t, a, _ => by
    have ih := joinB_snoc7 b (v :: t) a (by simp)
    show w ++ b :: joinB b ((v :: t) ++ [a]) = (w ++ b :: joinB b (v :: t)) ++ b :: a
    rw [ih]
    simp
theorem head_txt (x : Inst) : txt x 3 = [116, 114, 97, 110, 116, 101, 114, 32, 49, 10, 100, 97, 121, 115, 32] ++ decI x.days ++ [32, 118, 101, 104, 105, 99, 108, 101, 115, 32] ++ decI x.veh ++ [32, 99, 97, 112, 97, 99, 105, 116, 121, 32] ++ decI x.cap ++ [32, 108, 101, 110, 103, 116, 104, 32] ++ decI x.len ++ [10, 99, 117, 115, 116, 111, 109, 101, 114, 115, 32] ++ decI x.custs.length ++ [10] := by
  rw [txt_succ (il_2 x), txt_succ (il_1 x), txt_succ (il_0 x), txt_zero]
  simp [lineP, joinB, wTranter, wOne, wDays, wVeh, wCap, wLen, wCust]
theorem dist_txt (x : Inst) : txt x (3 + x.custs.length + 1) = txt x (3 + x.custs.length) ++ [100, 105, 115, 116, 97, 110, 99, 101, 115, 10] := by
  rw [txt_succ (il_dist x)]
  rfl
def visitW (c : Cust) (n i : Nat) : Line := wVisit :: decI c.demand :: (c.pats.take i).map fun s => setText s n
theorem visitW_zero (c : Cust) (n : Nat) : joinB 32 (visitW c n 0) = [118, 105, 115, 105, 116, 32] ++ decI c.demand := rfl
theorem visitW_step {c : Cust} {n k s : Nat} (h : c.pats[k]? = some s) : joinB 32 (visitW c n (k + 1)) = joinB 32 (visitW c n k) ++ [32] ++ setText s n := by
  have e : visitW c n (k + 1) = visitW c n k ++ [setText s n] := by
    unfold visitW
    rw [List.take_add_one, h]
    simp
  rw [e, joinB_snoc7 _ _ _ (by simp [visitW])]
  simp
theorem visitW_line {c : Cust} {days : Int} (hk : c.kind = 1) : lineP (custLine days c) = joinB 32 (visitW c days.toNat c.pats.length) ++ [10] := by
  unfold custLine visitW lineP
  rw [if_pos hk, List.take_length]
theorem tank_line {c : Cust} {days : Int} (hk : c.kind ≠ 1) : lineP (custLine days c) = [116, 97, 110, 107, 32] ++ decI c.rate ++ [32] ++ decI c.size ++ [32] ++ decI c.start ++ [32] ++ (if c.rule = 1 then wFill else wAny) ++ [32] ++ decI c.hold ++ [10] := by
  unfold custLine lineP
  rw [if_neg hk]
  simp [joinB, wTank]
theorem tank_rule {c : Cust} {days : Int} (hk : c.kind ≠ 1) (hm : custMay c days = true) : c.rule = 1 ∨ c.rule = 2 := by
  unfold custMay at hm
  rw [if_neg hk] at hm
  split at hm
  · simp only [musts2, ruledB, List.all_cons, List.all_nil, id, Bool.and_true, Bool.and_eq_true, Bool.or_eq_true, beq_iff_eq] at hm
    exact hm.2.2.2.1
  · cases hm
end Go.Proofs.YtigljnnjamdcnaaDoor.P07
