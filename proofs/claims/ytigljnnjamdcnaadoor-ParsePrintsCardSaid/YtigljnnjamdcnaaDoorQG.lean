/-
  The walks of isWord and of Number, the program's and the reference's.
  The walks of each[string,int] and Numbers.
  The walks of each[int,string] and Words.
  The walk of Lines.
-/
import Derived.Test.YtigljnnjamdcnaaDoorQA
import Derived.Test.YtigljnnjamdcnaaDoorQD
import Derived.Test.YtigljnnjamdcnaaDoorShelf
import Derived.IntWalk
import Derived.WalkSmall
import Derived.Test.YtigljnnjamdcnaaDoorQE
namespace Go.Proofs.YtigljnnjamdcnaaDoor
open Go.RowKit P05

set_option maxHeartbeats 1000000 in
theorem isWord_any (s : ByteArray) (w : World) (hs : s.size ≤ 4294967281) :
    Calls Tryd.prog 51 #[.string s] w fun e w' => e = .returned (.bool (isWord s.data.toList)) ∧ w' = w := by
  by_cases h0 : s.size = 0
  · obtain rfl := str_empty s h0
    clear h0 hs
    go_enter Tryd.func51, Tryd.ntmps51
    go_wp2_with fail
    go_loop [6] (fun i => i = .int .i64 0) (fun _ => 0)
    case atStart => exact rfl
    case round =>
      subst hrel
      go_wp2
      go_ret
      exact ⟨rfl, rfl⟩
  · go_enter Tryd.func51, Tryd.ntmps51
    have hne := ne_nil_of_size s (by omega)
    have HN := Lib.hid hne
    have hs0 : 0 < s.size := by omega
    clear hne h0
    go_wp2_with fail
    go_loop [6] (fun i => ∃ k : Nat, k ≤ s.size ∧ i = .int .i64 k ∧ Hid ((s.data.toList.take k).all okByte = true)) (fun i => s.size - (intOf i).toNat)
    case atStart => exact ⟨0, Nat.zero_le _, rfl, rfl⟩
    case round =>
      obtain ⟨k, hk, rfl, HA⟩ := hrel
      by_cases hlt : k < s.size
      · have hts := Lib.hid (take_snoc s k hlt)
        have HM := Lib.hid (mem_data s k hlt)
        by_cases ho : okByte s[k] = true
        · obtain ⟨h1, h2⟩ := (okByte_iff _).1 ho
          have HO := Lib.hid ho
          clear ho
          go_wp2
          go_round
          case rel => exact ⟨k + 1, by omega, by go_num, by show (_ : List UInt8).all okByte = true; rw [hts.out, List.all_append, HA.out]; simp [HO.out]⟩
          case measure => simp [intOf]; omega
        · have HF : Hid (isWord s.data.toList = false) := by
            show isWord s.data.toList = false
            have : s.data.toList.all okByte = false := by
              rw [List.all_eq_false]
              exact ⟨_, HM.out, by simpa using ho⟩
            simp [isWord, this]
          have hc : (s[k].toNat : Int) < 33 ∨ (33 ≤ (s[k].toNat : Int) ∧ 126 < (s[k].toNat : Int)) := by
            by_cases a : 33 ≤ (s[k].toNat : Int)
            · by_cases b : (s[k].toNat : Int) ≤ 126
              · exact absurd ((okByte_iff s[k]).2 ⟨a, b⟩) ho
              · exact .inr ⟨a, by omega⟩
            · exact .inl (by omega)
          clear ho
          rcases hc with h1 | ⟨h1, h2⟩
          all_goals
            go_wp2
            go_ret
            exact ⟨ret_bool HF.out.symm, rfl⟩
      · obtain rfl : k = s.size := by omega
        have HT : Hid (isWord s.data.toList = true) := by
          have := HA.out
          rw [take_all] at this
          exact (isWord_cur this).2 HN.out
        have hse := str_nonempty s hs0
        go_wp2
        go_ret
        exact ⟨ret_bool HT.out.symm, rfl⟩
/-- The number that is told; 0, if it is no decimal. -/
def numV (l : List UInt8) : Nat := if isNum l then clampF 0 l else 0
theorem numV_no {l : List UInt8} (h : isNum l = false) : numV l = 0 := by unfold numV; rw [h]; rfl
theorem numV_yes {l : List UInt8} (h : isNum l = true) : numV l = clampF 0 l := by unfold numV; rw [if_pos h]
theorem isDig_iff (c : UInt8) : isDig c = true ↔ 48 ≤ (c.toNat : Int) ∧ (c.toNat : Int) ≤ 57 := by
  unfold isDig
  rw [Bool.and_eq_true, decide_eq_true_eq, decide_eq_true_eq]
  omega
theorem isNum_bad {l : List UInt8} {c : UInt8} (hm : c ∈ l) (h : ¬ isDig c = true) : isNum l = false := by
  have : l.all isDig = false := by
    rw [List.all_eq_false]
    exact ⟨c, hm, h⟩
  simp [isNum, this]
theorem isNum_zero {l : List UInt8} (h : l.head? = some 48) (h1 : 1 < l.length) : isNum l = false := by
  simp [isNum, h, h1]
theorem isNum_good {l : List UInt8} (h : l.all isDig = true) (h0 : l ≠ []) (hz : l.head? ≠ some 48 ∨ l.length = 1) : isNum l = true := by
  unfold isNum
  rw [h]
  have : l.isEmpty = false := by cases l with | nil => exact absurd rfl h0 | cons a t => rfl
  rw [this]
  rcases hz with h | h
  · have : (l.head? == some 48) = false := by rw [beq_eq_false_iff_ne]; exact h
    rw [this]; rfl
  · have : decide (1 < l.length) = false := by rw [h]; rfl
    rw [this]; simp
theorem head_data (s : ByteArray) (h : 0 < s.size) : s.data.toList.head? = some s[0] := by
  have : s.data.toList[0]? = some s[0] := by
    rw [List.getElem?_eq_getElem (by rw [data_len]; exact h)]
    rfl
  rw [List.head?_eq_getElem?, this]
theorem ret_two {a b : Int} {p q : Bool} (h : a = b) (h' : p = q) : Ending.returned (.tuple #[.int .i64 a, .bool p]) = .returned (.tuple #[.int .i64 b, .bool q]) := by rw [h, h']
/-- The number behind one digit more. -/
def StepN (n : Nat) (c : UInt8) (m : Int) : Prop := m = (stepF n c : Nat)
theorem step_hi {n : Nat} {c : UInt8} (h : (100000000000000000 : Int) ≤ (n : Int)) : ((stepF n c : Nat) : Int) = 1000000000000000000 := by
  unfold stepF
  rw [if_pos (by omega)]
  rfl
theorem step_lo {n : Nat} {c : UInt8} (h : (n : Int) < 100000000000000000) (hc : 48 ≤ (c.toNat : Int)) : ((stepF n c : Nat) : Int) = (n : Int) * 10 + ((c.toNat : Int) - 48) := by
  unfold stepF
  rw [if_neg (by omega)]
  push_cast
  omega
set_option maxHeartbeats 1000000 in
set_option maxRecDepth 100000 in
theorem number_any (s : ByteArray) (w : World) (hs : s.size ≤ 4294967281) :
    Calls Tryd.prog 67 #[.string s] w fun e w' => e = .returned (.tuple #[.int .i64 (numV s.data.toList : Nat), .bool (isNum s.data.toList)]) ∧ w' = w := by
  by_cases h0 : s.size = 0
  · obtain rfl := str_empty s h0
    clear h0 hs
    go_enter Tryd.func67, Tryd.ntmps67
    go_wp2
    go_ret2
    exact ⟨rfl, rfl⟩
  · have hs0 : 0 < s.size := by omega
    have hse := str_nonempty s hs0
    have hhd := Lib.hid (head_data s hs0)
    have HN := Lib.hid (ne_nil_of_size s hs0)
    have HLN := Lib.hid (data_len s)
    clear h0
    by_cases hz : s[0] = 48 ∧ 1 < s.size
    · obtain ⟨hz, h1⟩ := hz
      have HF := Lib.hid (isNum_zero (hhd.out.trans (by rw [hz])) (by rw [HLN.out]; exact h1))
      have hz2 : ((s[0].toNat : Int) == 48) = true := by rw [hz]; rfl
      have h1' : (1 : Int) < (s.size : Int) := by omega
      clear hz
      go_enter Tryd.func67, Tryd.ntmps67
      go_wp2
      go_ret2
      exact ⟨ret_two (by rw [numV_no HF.out]; rfl) HF.out.symm, rfl⟩
    · have HZ : Hid (s.data.toList.head? ≠ some 48 ∨ s.data.toList.length = 1) := by
        by_cases e : s[0] = 48
        · exact .inr (by rw [HLN.out]; have : ¬ 1 < s.size := fun h => hz ⟨e, h⟩; omega)
        · exact .inl (by rw [hhd.out]; intro h; injection h with h; exact e h)
      have hcase : ((s[0].toNat : Int) == 48) = false ∨ (((s[0].toNat : Int) == 48) = true ∧ (s.size : Int) ≤ 1) := by
        by_cases e : s[0] = 48
        · exact .inr ⟨by rw [e]; rfl, by have : ¬ 1 < s.size := fun h => hz ⟨e, h⟩; omega⟩
        · refine .inl ?_
          rw [beq_eq_false_iff_ne]
          intro h
          exact e (UInt8.toNat_inj.1 (by have e48 : (48 : UInt8).toNat = 48 := rfl; omega))
      clear hz
      rcases hcase with hz | ⟨hz, hz1⟩
      all_goals
        go_enter Tryd.func67, Tryd.ntmps67
        go_wp2_with fail
        clear hz
        go_loop [4, 20] (fun nv i => ∃ (k : Nat) (z : Int), k ≤ s.size ∧ i = .int .i64 k ∧ nv = .int .i64 z ∧ 0 ≤ z ∧ z ≤ 1000000000000000000 ∧ Hid ((s.data.toList.take k).all isDig = true ∧ ((clampF 0 (s.data.toList.take k) : Nat) : Int) = z)) (fun _ i => s.size - (intOf i).toNat)
        case atStart => exact ⟨0, 0, Nat.zero_le _, rfl, rfl, by omega, by omega, rfl, rfl⟩
        case round =>
          obtain ⟨k, z, hk, rfl, rfl, hn0, hn, HA⟩ := hrel
          by_cases hlt : k < s.size
          · have hts := Lib.hid (take_snoc s k hlt)
            have HM := Lib.hid (mem_data s k hlt)
            by_cases ho : isDig s[k] = true
            · obtain ⟨h1, h2⟩ := (isDig_iff _).1 ho
              have HO := Lib.hid ho
              have HS : Hid ((s.data.toList.take (k + 1)).all isDig = true ∧ clampF 0 (s.data.toList.take (k + 1)) = stepF (clampF 0 (s.data.toList.take k)) s[k]) := by
                show _ ∧ _
                rw [hts.out, List.all_append, HA.out.1, clampF_snoc]
                exact ⟨by simp [HO.out], rfl⟩
              clear ho hse
              by_cases hb : 100000000000000000 ≤ z
              · have HV : Hid ((stepF (clampF 0 (s.data.toList.take k)) s[k] : Nat) = (1000000000000000000 : Int)) := step_hi (by rw [HA.out.2]; exact hb)
                go_wp2
                go_round
                case rel => exact ⟨k + 1, _, by omega, by go_num, rfl, by omega, by omega, HS.out.1, by rw [HS.out.2, HV.out]⟩
                case measure => simp [intOf]; omega
              · have hb : z < 100000000000000000 := by omega
                have HV : Hid (((stepF (clampF 0 (s.data.toList.take k)) s[k] : Nat) : Int) = z * 10 + ((s[k].toNat : Int) - 48)) := by
                  have := step_lo (n := clampF 0 (s.data.toList.take k)) (c := s[k]) (by rw [HA.out.2]; exact hb) h1
                  rw [HA.out.2] at this
                  exact this
                go_wp2
                go_round
                case rel => exact ⟨k + 1, _, by omega, by go_num, rfl, by omega, by omega, HS.out.1, by rw [HS.out.2, HV.out]⟩
                case measure => simp [intOf]; omega
            · have HF := Lib.hid (isNum_bad HM.out ho)
              have hc : (s[k].toNat : Int) < 48 ∨ (48 ≤ (s[k].toNat : Int) ∧ 57 < (s[k].toNat : Int)) := by
                by_cases a : 48 ≤ (s[k].toNat : Int)
                · by_cases b : (s[k].toNat : Int) ≤ 57
                  · exact absurd ((isDig_iff s[k]).2 ⟨a, b⟩) ho
                  · exact .inr ⟨a, by omega⟩
                · exact .inl (by omega)
              clear ho hse
              rcases hc with h1 | ⟨h1, h2⟩
              all_goals
                go_wp2
                go_ret2
                exact ⟨ret_two (by rw [numV_no HF.out]; rfl) HF.out.symm, rfl⟩
          · obtain rfl : k = s.size := by omega
            have HT : Hid (isNum s.data.toList = true ∧ ((clampF 0 s.data.toList : Nat) : Int) = z) := by
              have := HA.out
              rw [take_all] at this
              exact ⟨isNum_good this.1 HN.out HZ.out, this.2⟩
            clear hse
            go_wp2
            go_ret2
            exact ⟨ret_two (by rw [numV_yes HT.out.1, HT.out.2]) HT.out.1.symm, rfl⟩
end Go.Proofs.YtigljnnjamdcnaaDoor

namespace Go.Proofs.YtigljnnjamdcnaaDoor
open Go.RowKit P05


theorem number_l (l : List UInt8) (w : World) (hs : l.length ≤ 1000000) :
    Calls Tryd.prog 67 #[.string ⟨l.toArray⟩] w fun e w' => e = .returned (.tuple #[.int .i64 (numV l : Nat), .bool (isNum l)]) ∧ w' = w :=
  number_any ⟨l.toArray⟩ w (by rw [← data_len]; show l.length ≤ _; omega)
theorem numV_dec {n : Int} (h : 0 ≤ n) (h1 : n ≤ 1000000000000000000) : ((numV (decI n) : Nat) : Int) = n := by
  have h2 := num_decI h h1
  have h3 := isNum_decI h (by omega)
  rw [numP_yes h3] at h2
  injection h2 with h2
  rw [numV_yes h3, h2]
  omega
theorem isNum_neg {n : Int} (h : n < 0) : isNum (decI n) = false := by
  rw [decI, if_pos h]
  simp [isNum, isDig45]
theorem extract_size (s : ByteArray) (k : Nat) (h : k ≤ s.size) : (s.extract 0 k).size = k := by rw [ByteArray.size_extract]; omega

/-- A word's number, as the walk has it. -/
def numI (x : List UInt8) : Int := (numV x : Nat)
theorem number_i (l : List UInt8) (w : World) (hs : l.length ≤ 1000000) :
    Calls Tryd.prog 67 #[.string ⟨l.toArray⟩] w fun e w' => e = .returned (.tuple #[.int .i64 (numI l), .bool (isNum l)]) ∧ w' = w := number_l l w hs
theorem map_take_snoc {α β : Type} {l : List α} {k : Nat} {a : α} (f : α → β) (hk : l[k]? = some a) : (l.take (k + 1)).map f = (l.take k).map f ++ [f a] := by
  rw [List.take_add_one, hk]
  simp
theorem ret_nums {v : Value} {a b : Bool} (h : a = b) : Ending.returned (.tuple #[v, .bool a]) = .returned (.tuple #[v, .bool b]) := by rw [h]
theorem iinfo5 : (Tryd.prog.info? 3).map (fun i => (i.zero, i.size, i.bytes)) = some (some (.int .i64 0), 1, 8) := by kernel_rfl
/-- Numbers' list. -/
def numsP (l : List (List UInt8)) : List Int := if l.all isNum then l.map numI else []
theorem numsP_yes {l : List (List UInt8)} (h : l.all isNum = true) : numsP l = l.map numI := by unfold numsP; rw [if_pos h]
theorem numsP_no {l : List (List UInt8)} (h : l.all isNum = false) : numsP l = [] := by unfold numsP; rw [h]; rfl
/-- A list of numbers of the call's own. -/
def OInts (lb : Nat) (w : World) (v : Value) (l : List Int) : Prop := w.ownsRow lb 3 1 v l.length (l.map (Value.int .i64))
theorem OInts.reads {lb : Nat} {w : World} {v : Value} {l : List Int} (h : OInts lb w v l) : RInts w .i64 v l := RS.of_own h
theorem own_nums {w : World} {lb : Nat} {v : Value} {l : List (List UInt8)} (h : w.ownsRow lb 3 1 v l.length ((l.take l.length).map fun x => .int .i64 (numI x))) (hF : l.all isNum = true) : OInts lb w v (numsP l) := by
  rw [List.take_length] at h
  rw [numsP_yes hF]
  unfold OInts
  rw [List.length_map, List.map_map]
  exact h
set_option maxHeartbeats 1000000 in
theorem eachN_any (l : List (List UInt8)) (v : Value) (w : World) (hl : l.length ≤ 1000) (hs : ∀ x ∈ l, x.length ≤ 1000000) (hr : RStrs w v l) :
    Calls Tryd.prog 69 #[v, .func (.func 67) #[] #[]] w fun e w' => ∃ u, e = .returned (.tuple #[u, .bool (l.all isNum)]) ∧ OInts w.heap.size w' u (numsP l) ∧ Below w.heap.size w w' := by
  obtain ⟨A, c, rfl, h1, h2, hlc⟩ := hr.open_
  obtain ⟨ii, hii, hz0, hz1, hz2⟩ := info_parts iinfo5
  have HL := Lib.hid hlc
  have HS := Lib.hid hs
  have hb2 : ii.bytes * l.length ≤ 281474976710656 := by rw [hz2]; omega
  have hb3 : l.length ≤ maxLen := by simp only [maxLen]; omega
  clear hlc hr hs
  go_enter Tryd.func69, Tryd.ntmps69
  go_wp2_with (at_make; refine wpList_make_own _ rfl _ _ 43 rfl w.heap.size 3 ii _ 1 Tryd.underlying43 hii hz0 hz1 _ _ _ l.length rfl rfl rfl hb2 hb3 (Nat.le_refl _) ?_; intro w1 hown1 hgrow1)
  clear hb2 hb3 hz0 hz1 hz2 hii
  have hbel1 : Below w.heap.size w w1 := (Below.refl _ _).grown hgrow1 (Nat.le_refl _) (fun k hk => by cases hk)
  have HO1 := Lib.hid hown1
  clear hown1 hgrow1
  go_loopw [6, 16] (fun sv iv wr => ∃ k : Nat, k ≤ l.length ∧ iv = .int .i64 k ∧ Hid ((l.take k).all isNum = true) ∧ Hid (wr.ownsRow w.heap.size 3 1 sv k ((l.take k).map fun x => .int .i64 (numI x))) ∧ Below w.heap.size w wr) (fun _ iv _ => l.length - (intOf iv).toNat)
  case atStart => exact ⟨0, Nat.zero_le _, rfl, rfl, HO1, hbel1⟩
  case round =>
    clear HO1 hbel1
    obtain ⟨k, hk, rfl, HA, HO, hbel⟩ := hrel
    by_cases hlt : k < l.length
    · obtain ⟨x, hx⟩ := some_of_lt hlt
      obtain ⟨b, o, rfl, hb, hc0⟩ := HL.out k x hx
      have hc : wr.cell? ⟨b, o + k, none⟩ = some (.string ⟨x.toArray⟩) := cell_below hbel (Nat.le_refl _) hc0
      have HX := Lib.hid hx
      have HXL := Lib.hid (HS.out x (List.mem_of_getElem? hx))
      clear hc0 hx
      by_cases hw : isNum x = true
      · have HW := Lib.hid hw
        have HN := Lib.hid (all_take_snoc HA.out HX.out hw)
        have HM := Lib.hid (map_take_snoc (fun x => Value.int .i64 (numI x)) HX.out)
        have how := HO.out
        have hkn : k ≤ 1000000000 := by omega
        have hbase := hbel.size
        clear hw
        go_wp2_with fail
        refine (number_i x _ HXL.out).mono ?_
        rintro e w4 ⟨rfl, rfl⟩
        rw [HW.out]
        go_wp2_with (at_builtin; refine wpList_append_one _ rfl (.tmp 28) (.tmp 30) 43 rfl w.heap.size 3 _ 1 8 Tryd.underlying43 iinfo5 rfl (by decide) (by decide) _ _ _ how rfl [.int .i64 (numI x)] _ rfl rfl rfl hkn hbase ?_; intro v5 w5 ho5 hb5 hz5)
        go_roundw
        case rel => exact ⟨k + 1, by omega, by go_num, HN, by rw [HM.out]; exact ho5, hbel.trans hb5⟩
        case measure => simp [intOf]; omega
      · have HW := Lib.hid (show isNum x = false by simpa using hw)
        have HF : Hid (l.all isNum = false) := by
          show _ = _
          rw [List.all_eq_false]
          exact ⟨x, List.mem_of_getElem? HX.out, hw⟩
        clear hw
        go_wp2_with fail
        refine (number_i x _ HXL.out).mono ?_
        rintro e w4 ⟨rfl, rfl⟩
        rw [HW.out]
        go_wp2
        go_ret2
        exact ⟨.slice none 0 0, ret_nums HF.out.symm, by rw [numsP_no HF.out]; exact World.ownsRow_nil _ _ _ _, hbel⟩
    · obtain rfl : k = l.length := by omega
      have HF : Hid (l.all isNum = true) := by
        have := HA.out
        rw [List.take_length] at this
        exact this
      have HR := Lib.hid (own_nums HO.out HF.out)
      go_wp2
      go_ret2
      exact ⟨_, ret_nums HF.out.symm, HR.out, hbel⟩

theorem numbersO_any (l : List (List UInt8)) (v : Value) (w : World) (hl : l.length ≤ 1000) (hs : ∀ x ∈ l, x.length ≤ 1000000) (hr : RStrs w v l) :
    Calls Tryd.prog 57 #[v] w fun e w' => ∃ u, e = .returned (.tuple #[u, .bool (l.all isNum)]) ∧ OInts w.heap.size w' u (numsP l) ∧ Below w.heap.size w w' := by
  have HC := Lib.hid (eachN_any l v w hl hs hr)
  clear hl hs hr
  go_enter Tryd.func57, Tryd.ntmps57
  go_wp2_with fail
  refine HC.out.mono ?_
  rintro e w2 ⟨u, rfl, hr2, hb2⟩
  go_wp2
  go_ret2
  exact ⟨u, rfl, hr2, hb2⟩
theorem numbers_any (l : List (List UInt8)) (v : Value) (w : World) (hl : l.length ≤ 1000) (hs : ∀ x ∈ l, x.length ≤ 1000000) (hr : RStrs w v l) :
    Calls Tryd.prog 57 #[v] w fun e w' => ∃ u, e = .returned (.tuple #[u, .bool (l.all isNum)]) ∧ RInts w' .i64 u (numsP l) ∧ Below w.heap.size w w' :=
  (numbersO_any l v w hl hs hr).mono fun _ _ ⟨u, he, h, hb⟩ => ⟨u, he, h.reads, hb⟩
end Go.Proofs.YtigljnnjamdcnaaDoor

namespace Go.Proofs.YtigljnnjamdcnaaDoor
open Go.RowKit P05


theorem words1_any (n : Int) (w : World) (h0 : -9223372036854775808 ≤ n) (h1 : n ≤ 9223372036854775807) :
    Calls Tryd.prog 48 #[.int .i64 n] w fun e w' => e = .returned (.tuple #[bstr (decI n), .bool true]) ∧ Below w.heap.size w w' := by
  have HC := Lib.hid (decimal_any n w h0 h1)
  clear h0 h1
  generalize decI n = d at HC
  go_enter Tryd.func48, Tryd.ntmps48
  go_wp2_with fail
  refine HC.out.mono ?_
  rintro e w2 ⟨rfl, hb2⟩
  unfold bstr
  go_wp2
  go_ret2
  exact ⟨rfl, hb2⟩
theorem own_words {w : World} {lb : Nat} {e : TypeId} {v : Value} {l : List Int} (h : w.ownsRow lb e 1 v l.length ((l.take l.length).map fun x => bstr (decI x))) : RStrs w v (l.map decI) := by
  have := RS.of_own h
  rw [List.take_length] at this
  unfold RStrs
  rw [List.length_map, List.map_map]
  exact this
set_option maxHeartbeats 1000000 in
theorem eachW_any (l : List Int) (v : Value) (w : World) (hl : l.length ≤ 1000) (hs : ∀ x ∈ l, -9223372036854775808 ≤ x ∧ x ≤ 9223372036854775807) (hr : RInts w .i64 v l) :
    Calls Tryd.prog 47 #[v, .func (.func 48) #[] #[]] w fun e w' => ∃ u, e = .returned (.tuple #[u, .bool true]) ∧ RStrs w' u (l.map decI) ∧ Below w.heap.size w w' := by
  obtain ⟨A, c, rfl, h1, h2, hlc⟩ := hr.open_
  obtain ⟨ii, hii, hz0, hz1, hz2⟩ := info_parts strinfo
  have HL := Lib.hid hlc
  have HS := Lib.hid hs
  have hb2 : ii.bytes * l.length ≤ 281474976710656 := by rw [hz2]; omega
  have hb3 : l.length ≤ maxLen := by simp only [maxLen]; omega
  clear hlc hr hs
  go_enter Tryd.func47, Tryd.ntmps47
  go_wp2_with (at_make; refine wpList_make_own _ rfl _ _ 56 rfl w.heap.size 9 ii _ 1 Tryd.underlying56 hii hz0 hz1 _ _ _ l.length rfl rfl rfl hb2 hb3 (Nat.le_refl _) ?_; intro w1 hown1 hgrow1)
  clear hb2 hb3 hz0 hz1 hz2 hii
  have hbel1 : Below w.heap.size w w1 := (Below.refl _ _).grown hgrow1 (Nat.le_refl _) (fun k hk => by cases hk)
  have HO1 := Lib.hid hown1
  clear hown1 hgrow1
  go_loopw [6, 16] (fun sv iv wr => ∃ k : Nat, k ≤ l.length ∧ iv = .int .i64 k ∧ Hid (wr.ownsRow w.heap.size 9 1 sv k ((l.take k).map fun x => bstr (decI x))) ∧ Below w.heap.size w wr) (fun _ iv _ => l.length - (intOf iv).toNat)
  case atStart => exact ⟨0, Nat.zero_le _, rfl, HO1, hbel1⟩
  case round =>
    clear HO1 hbel1
    obtain ⟨k, hk, rfl, HO, hbel⟩ := hrel
    by_cases hlt : k < l.length
    · obtain ⟨x, hx⟩ := some_of_lt hlt
      obtain ⟨b, o, rfl, hb, hc0⟩ := HL.out k x hx
      have hc : wr.cell? ⟨b, o + k, none⟩ = some (.int .i64 x) := cell_below hbel (Nat.le_refl _) hc0
      have HX := Lib.hid hx
      have HXL := Lib.hid (HS.out x (List.mem_of_getElem? hx))
      have HM := Lib.hid (map_take_snoc (fun x => bstr (decI x)) HX.out)
      have hkn : k ≤ 1000000000 := by omega
      have HC := fun W => Lib.hid (words1_any x W HXL.out.1 HXL.out.2)
      clear hc0 hx
      generalize decI x = d at HM HC
      go_wp2_with fail
      refine (HC _).out.mono ?_
      rintro e w4 ⟨rfl, hb4⟩
      unfold bstr
      have how := own_below HO.out hb4 (Nat.le_refl _)
      have hbel4 := below_nx5 hbel hb4
      have hbase := hbel4.size
      go_wp2_with (at_builtin; refine wpList_append_one _ rfl (.tmp 28) (.tmp 30) 56 rfl w.heap.size 9 _ 1 16 Tryd.underlying56 strinfo rfl (by decide) (by decide) _ _ _ how rfl [.string ⟨d.toArray⟩] _ rfl rfl rfl hkn hbase ?_; intro v5 w5 ho5 hb5 hz5)
      go_roundw
      case rel => exact ⟨k + 1, by omega, by go_num, by rw [HM.out]; exact ho5, hbel4.trans hb5⟩
      case measure => simp [intOf]; omega
    · obtain rfl : k = l.length := by omega
      have HR := Lib.hid (own_words HO.out)
      go_wp2
      go_ret2
      exact ⟨_, rfl, HR.out, hbel⟩
theorem words_any (l : List Int) (v : Value) (w : World) (hl : l.length ≤ 1000) (hs : ∀ x ∈ l, -9223372036854775808 ≤ x ∧ x ≤ 9223372036854775807) (hr : RInts w .i64 v l) :
    Calls Tryd.prog 23 #[v] w fun e w' => ∃ u, e = .returned u ∧ RStrs w' u (l.map decI) ∧ Below w.heap.size w w' := by
  have HC := Lib.hid (eachW_any l v w hl hs hr)
  clear hl hs hr
  go_enter Tryd.func23, Tryd.ntmps23
  go_wp2_with fail
  refine HC.out.mono ?_
  rintro e w2 ⟨u, rfl, hr2, hb2⟩
  go_wp2
  go_ret
  exact ⟨u, rfl, hr2, hb2⟩
end Go.Proofs.YtigljnnjamdcnaaDoor

namespace Go.Proofs.YtigljnnjamdcnaaDoor
open Go.RowKit P05


def linesV (l : List UInt8) : List (List (List UInt8)) := (linesP l).getD []
def linesE (l : List UInt8) : Int := if (linesP l).isSome then 0 else 2
theorem linesV_some {l : List UInt8} {L : List (List (List UInt8))} (h : linesP l = some L) : linesV l = L ∧ linesE l = 0 := by
  unfold linesV linesE
  rw [h]
  exact ⟨rfl, rfl⟩
theorem linesV_none {l : List UInt8} (h : linesP l = none) : linesV l = [] ∧ linesE l = 2 := by
  unfold linesV linesE
  rw [h]
  exact ⟨rfl, rfl⟩
def strSize : Value → Nat
  | .string s => s.size
  | _ => 0
theorem size_data (s : ByteArray) : s.size = s.data.toList.length := (data_len s).symm
theorem isWord_l (l : List UInt8) (w : World) (hs : l.length ≤ 4294967281) :
    Calls Tryd.prog 51 #[.string ⟨l.toArray⟩] w fun e w' => e = .returned (.bool (isWord l)) ∧ w' = w :=
  isWord_any ⟨l.toArray⟩ w (by rw [size_data]; simpa using hs)
theorem cut_nl_yes {t : ByteArray} {p q : List UInt8} (ht : t.data.toList = p ++ 10 :: q) (hp : (10 : UInt8) ∉ p) (m : Int) (w : World) (hs : t.size < 4294967281) (hm : w.cell? ⟨0, 0, none⟩ = some (.int .i64 m)) :
    Calls Tryd.prog 49 #[.string t, .string ⟨#[10]⟩] w fun e w' => e = .returned (.tuple #[.string ⟨p.toArray⟩, .string ⟨q.toArray⟩, .bool true]) ∧ ∃ n, w' = w.drewN n := by
  have := cut_any t ⟨#[10]⟩ m w hs hm
  have e : Lib.cut t.data.toList (⟨#[10]⟩ : ByteArray).data.toList = (p, q, true) := by rw [ht]; exact cut_hit 10 p q hp
  rw [e] at this
  exact this
theorem cut_nl_no {t : ByteArray} (hp : (10 : UInt8) ∉ t.data.toList) (m : Int) (w : World) (hs : t.size < 4294967281) (hm : w.cell? ⟨0, 0, none⟩ = some (.int .i64 m)) :
    Calls Tryd.prog 49 #[.string t, .string ⟨#[10]⟩] w fun e w' => e = .returned (.tuple #[.string t, .string ⟨#[]⟩, .bool false]) ∧ ∃ n, w' = w.drewN n := by
  have := cut_any t ⟨#[10]⟩ m w hs hm
  have e : Lib.cut t.data.toList (⟨#[10]⟩ : ByteArray).data.toList = (t.data.toList, [], false) := cut_miss 10 _ hp
  rw [e] at this
  have e2 : (⟨(t.data.toList, ([] : List UInt8), false).1.toArray⟩ : ByteArray) = t := mk_data t
  rw [e2] at this
  exact this
theorem split_l (p : List UInt8) (m : Int) (w : World) (hs : p.length < 4294967281) (hm : w.cell? ⟨0, 0, none⟩ = some (.int .i64 m)) :
    Calls Tryd.prog 50 #[.string ⟨p.toArray⟩, .string ⟨#[32]⟩] w fun e w' => e = .returned (.slice (some ⟨w.heap.size, 0, none⟩) (pieces 32 p).length (pieces 32 p).length) ∧ w' = w.alloc (.cells ((pieces 32 p).map bstr).toArray 9) :=
  split_any ⟨p.toArray⟩ 32 m w (by rw [size_data]; simpa using hs) hm
theorem pieces_count (b : UInt8) : ∀ p : List UInt8, (pieces b p).length ≤ p.length + 1
  | [] => by simp [pieces]
  | c :: t => by
    have ih := pieces_count b t
    by_cases e : c = b
    · rw [pieces, if_pos e]; simp; omega
    · rw [pieces_cons_ne _ _ _ e]
      cases h : pieces b t with
      | nil => simp [pre]
      | cons a r => rw [h] at ih; simp [pre] at ih ⊢; omega
theorem pieces_small (b : UInt8) : ∀ (p : List UInt8), ∀ w ∈ pieces b p, w.length ≤ p.length
  | [] => by simp [pieces]
  | c :: t => by
    intro w hw
    have ih := pieces_small b t
    by_cases e : c = b
    · rw [pieces, if_pos e] at hw
      rcases List.mem_cons.1 hw with h | h
      · rw [h]; simp
      · have := ih w h; simp; omega
    · rw [pieces_cons_ne _ _ _ e] at hw
      cases h : pieces b t with
      | nil => exact absurd h (pieces_ne _ _)
      | cons a r =>
        rw [h] at hw ih
        simp only [pre, List.mem_cons] at hw
        rcases hw with h | h
        · have := ih a (by simp); rw [h]; simp; omega
        · have := ih w (by simp [h]); simp; omega
theorem ret_lines {v v' : Value} {a b : Int} (h : a = b) (hv : v = v') : Ending.returned (.tuple #[v, .int .i64 a]) = .returned (.tuple #[v', .int .i64 b]) := by rw [h, hv]
theorem strsinfo : (Tryd.prog.info? 56).map (fun i => (i.zero, i.size, i.bytes)) = some (some (.slice none 0 0), 1, 24) := by kernel_rfl
set_option maxHeartbeats 2000000 in
theorem lines_any (s : ByteArray) (m : Int) (w : World) (hs : s.size ≤ 1000000) (hm : w.cell? ⟨0, 0, none⟩ = some (.int .i64 m)) :
    Calls Tryd.prog 25 #[.string s] w fun e w' => ∃ v, e = .returned (.tuple #[v, .int .i64 (linesE s.data.toList)]) ∧ OLines w.heap.size 56 9 w' v (linesV s.data.toList) ∧ Below w.heap.size w w' := by
  have HM := Lib.hid hm
  clear hm
  go_enter Tryd.func25, Tryd.ntmps25
  go_wp2_with fail
  go_loopw [0, 4] (fun tv lv wr => ∃ (t : ByteArray) (L : List (List (List UInt8))), tv = .string t ∧ Hid (OLines w.heap.size 56 9 wr lv L) ∧ Below w.heap.size w wr ∧ L.length + t.size ≤ 1000000 ∧ Hid (linesP s.data.toList = scan L [] [] t.data.toList)) (fun tv _ _ => strSize tv)
  case atStart => exact ⟨s, [], rfl, OLines.nil_ _ _ _ _, Below.refl _ _, by simpa using hs, rfl⟩
  case round =>
    obtain ⟨t, L, rfl, HO, hbel, hlen, HI⟩ := hrel
    by_cases ht0 : t.size = 0
    · obtain rfl := str_empty t ht0
      have HR := Lib.hid (linesV_some (l := s.data.toList) (L := L) HI.out)
      clear ht0
      go_wp2
      go_ret2
      exact ⟨_, ret_lines HR.out.2.symm rfl, by rw [HR.out.1]; exact HO.out, hbel⟩
    · have hse := str_nonempty t (by omega)
      have hmr : wr.cell? ⟨0, 0, none⟩ = some (.int .i64 m) := cell_below hbel (Nat.le_refl _) HM.out
      have HMR := Lib.hid hmr
      clear hmr
      by_cases hmem : (10 : UInt8) ∈ t.data.toList
      · obtain ⟨p, q, htp, hp⟩ := split_at 10 _ hmem
        have hln := data_len t
        rw [htp] at hln
        simp at hln
        have HP := Lib.hid hp
        have HT := Lib.hid htp
        have HLN := Lib.hid hln
        have hpl : p.length ≤ 1000000 := by omega
        have hql : L.length + 1 + q.length ≤ 1000000 := by omega
        have hqt : q.length < t.size := by omega
        clear hmem hp htp hln
        go_wp2_with fail
        refine (cut_nl_yes HT.out HP.out m _ (by omega) HMR.out).mono ?_
        rintro e w2 ⟨rfl, n2, rfl⟩
        go_wp2_with fail
        refine (split_l p m _ (by omega) (by exact HMR.out)).mono ?_
        rintro e w3 ⟨rfl, rfl⟩
        have hsc : Hid (linesP s.data.toList = if (pieces 32 p).all isWord then scan (L ++ [pieces 32 p]) [] [] q else none) := by
          show linesP s.data.toList = _
          rw [HI.out, HT.out, scan_line q p L [] [] HP.out rfl, pre_nil _ (pieces_ne _ _), List.nil_append]
        have hwl := pieces_count 32 p
        have hws := pieces_small 32 p
        generalize pieces 32 p = WS at hsc hwl hws ⊢
        have HWS := Lib.hid hws
        have hblk : Blk ((wr.drewN n2).alloc (.cells (WS.map bstr).toArray 9)) wr.heap.size 9 (WS.map bstr) := Blk.newAt' (wr.drewN n2) _ _ rfl
        have kq : Below wr.heap.size wr ((wr.drewN n2).alloc (.cells (WS.map bstr).toArray 9)) := (below_drewN (Below.refl wr.heap.size wr) n2).alloc (Nat.le_refl _) _
        rw [show (wr.drewN n2).heap.size = wr.heap.size from rfl]
        generalize (wr.drewN n2).alloc (.cells (WS.map bstr).toArray 9) = wq at hblk kq ⊢
        have HB := Lib.hid hblk
        have hwl2 : WS.length ≤ 1000001 := by omega
        clear hblk hws hwl
        go_wp2_with fail
        go_loop [25] (fun iv => ∃ k : Nat, k ≤ WS.length ∧ iv = .int .i64 k ∧ Hid ((WS.take k).all isWord = true)) (fun iv => WS.length - (intOf iv).toNat)
        case atStart => exact ⟨0, Nat.zero_le _, rfl, rfl⟩
        case round =>
          obtain ⟨k, hk, rfl, HA⟩ := hrel
          by_cases hlt : k < WS.length
          · obtain ⟨x, hx⟩ := some_of_lt hlt
            have hc : wq.cell? ⟨wr.heap.size, k, none⟩ = some (.string ⟨x.toArray⟩) := (HB.out.cell k).trans (by rw [List.getElem?_map, hx]; rfl)
            have HX := Lib.hid hx
            have HXL := Lib.hid (HWS.out x (List.mem_of_getElem? hx))
            clear hx
            by_cases hw : isWord x = true
            · have HW := Lib.hid hw
              have HN := Lib.hid (all_take_snoc HA.out HX.out hw)
              clear hw
              go_wp2_with fail
              refine (isWord_l x _ (by have := HXL.out; omega)).mono ?_
              rintro e w4 ⟨rfl, rfl⟩
              rw [HW.out]
              go_wp2
              go_round
              case rel => exact ⟨k + 1, by omega, by go_num, HN⟩
              case measure => simp [intOf]; omega
            · have HW := Lib.hid (show isWord x = false by simpa using hw)
              have HF : Hid (linesP s.data.toList = none) := by
                show linesP s.data.toList = none
                have : WS.all isWord = false := by
                  rw [List.all_eq_false]
                  exact ⟨x, List.mem_of_getElem? HX.out, hw⟩
                rw [hsc.out, this]
                rfl
              have HR := Lib.hid (linesV_none HF.out)
              clear hw
              go_wp2_with fail
              refine (isWord_l x _ (by have := HXL.out; omega)).mono ?_
              rintro e w4 ⟨rfl, rfl⟩
              rw [HW.out]
              go_wp2
              go_ret2
              exact ⟨.slice none 0 0, ret_lines HR.out.2.symm rfl, by rw [HR.out.1]; exact OLines.nil_ _ _ _ _, hbel.trans (kq.mono hbel.size)⟩
          · obtain rfl : k = WS.length := by omega
            have HSC : Hid (linesP s.data.toList = scan (L ++ [WS]) [] [] q) := by
              have := HA.out
              rw [List.take_length] at this
              show _ = _
              rw [hsc.out, this]
              rfl
            obtain ⟨css, g1, g2, g3, g4⟩ := HO.out
            have HG1 := Lib.hid g1
            have HG2 := Lib.hid g2
            have how := own_below g3 kq (Nat.le_refl _)
            have HG4 := Lib.hid g4
            have hLn : L.length ≤ 1000000000 := by omega
            have hbase : w.heap.size ≤ wq.heap.size := Nat.le_trans hbel.size kq.size
            clear g1 g2 g3 g4
            go_wp2_with (at_builtin; refine wpList_append_one' _ rfl (.tmp 33) (.tmp 35) 60 rfl w.heap.size 56 _ 1 24 Tryd.underlying60 strsinfo rfl (by decide) (by decide) _ _ _ how rfl [.slice (some ⟨wr.heap.size, 0, none⟩) WS.length WS.length] _ rfl rfl rfl hLn hbase ?_; intro g cap w5 ho5 hg0 hg1 hk5 hz5)
            go_roundw
            case rel =>
              refine ⟨⟨q.toArray⟩, L ++ [WS], rfl, ?_, (hbel.trans (kq.mono hbel.size)).trans (hk5.below hbase), ?_, ?_⟩
              · refine OL.push (n := L.length) rfl HG1.out HG2.out rfl ho5 (fun i x cs hx hcs => ?_) ⟨_, rfl, ?_⟩
                · obtain ⟨v, rfl, hv⟩ := HG4.out i x cs hx hcs
                  exact ⟨v, rfl, hk5.own (own_below hv kq (Nat.le_refl _)) (by decide)⟩
                · exact hk5.own (HB.out.own (by exact hbel.size) (by simp) (by simp only [maxLen]; omega)) (by decide)
              · have : (⟨q.toArray⟩ : ByteArray).size = q.length := by rw [size_data]
                rw [this, List.length_append]
                simp
                omega
              · exact HSC
            case measure =>
              show (⟨q.toArray⟩ : ByteArray).size < t.size
              have : (⟨q.toArray⟩ : ByteArray).size = q.length := by rw [size_data]
              omega
      · have HF : Hid (linesP s.data.toList = none) := HI.out.trans (scan_open _ _ _ _ hmem (.inl (ne_nil_of_size t (by omega))))
        have HR := Lib.hid (linesV_none HF.out)
        have HMEM := Lib.hid hmem
        clear hmem ht0
        go_wp2_with fail
        refine (cut_nl_no HMEM.out m _ (by omega) HMR.out).mono ?_
        rintro e w2 ⟨rfl, n2, rfl⟩
        go_wp2
        go_ret2
        exact ⟨.slice none 0 0, ret_lines HR.out.2.symm rfl, by rw [HR.out.1]; exact OLines.nil_ _ _ _ _, below_drewN hbel _⟩
end Go.Proofs.YtigljnnjamdcnaaDoor
