/- The walks of each[string,int] and Numbers. -/
import Derived.Test.YtokdneolgolkbaaDoorW05a
import Derived.Test.YtokdneolgolkbaaDoorMem4
namespace Go.Proofs.YtokdneolgolkbaaDoor
open Go.RowKit P05


theorem number_l (l : List UInt8) (w : World) (hs : l.length ≤ 1000000) :
    Calls Tryd.prog 32 #[.string ⟨l.toArray⟩] w fun e w' => e = .returned (.tuple #[.int .i64 (numV l : Nat), .bool (isNum l)]) ∧ w' = w :=
  number_any ⟨l.toArray⟩ w (by rw [← data_len]; show l.length ≤ _; omega)
theorem numV_dec {n : Int} (h : 0 ≤ n) (h1 : n ≤ 1000000000000000000) : ((numV (decI n) : Nat) : Int) = n := by
  have h2 := num_decI h h1
  have h3 := isNum_decI h (by omega)
  rw [numP_yes h3] at h2
  injection h2 with h2
  rw [numV_yes h3, h2]
  omega
theorem isNum_neg {n : Int} (h : n < 0) : isNum (decI n) = false := by
  rw [decI, if_pos h]
  simp [isNum, isDig45]
theorem extract_size (s : ByteArray) (k : Nat) (h : k ≤ s.size) : (s.extract 0 k).size = k := by rw [ByteArray.size_extract]; omega

/-- A word's number, as the walk has it. -/
def numI (x : List UInt8) : Int := (numV x : Nat)
theorem number_i (l : List UInt8) (w : World) (hs : l.length ≤ 1000000) :
    Calls Tryd.prog 32 #[.string ⟨l.toArray⟩] w fun e w' => e = .returned (.tuple #[.int .i64 (numI l), .bool (isNum l)]) ∧ w' = w := number_l l w hs
theorem map_take_snoc {α β : Type} {l : List α} {k : Nat} {a : α} (f : α → β) (hk : l[k]? = some a) : (l.take (k + 1)).map f = (l.take k).map f ++ [f a] := by
  rw [List.take_add_one, hk]
  simp
theorem ret_nums {v : Value} {a b : Bool} (h : a = b) : Ending.returned (.tuple #[v, .bool a]) = .returned (.tuple #[v, .bool b]) := by rw [h]
theorem iinfo5 : (Tryd.prog.info? 3).map (fun i => (i.zero, i.size, i.bytes)) = some (some (.int .i64 0), 1, 8) := by kernel_rfl
/-- Numbers' list. -/
def numsP (l : List (List UInt8)) : List Int := if l.all isNum then l.map numI else []
theorem numsP_yes {l : List (List UInt8)} (h : l.all isNum = true) : numsP l = l.map numI := by unfold numsP; rw [if_pos h]
theorem numsP_no {l : List (List UInt8)} (h : l.all isNum = false) : numsP l = [] := by unfold numsP; rw [h]; rfl
theorem own_nums {w : World} {lb : Nat} {e : TypeId} {v : Value} {l : List (List UInt8)} (h : w.ownsRow lb e 1 v l.length ((l.take l.length).map fun x => .int .i64 (numI x))) (hF : l.all isNum = true) : RInts w .i64 v (numsP l) := by
  have := RS.of_own h
  rw [List.take_length] at this
  rw [numsP_yes hF]
  unfold RInts
  rw [List.length_map, List.map_map]
  exact this
set_option maxHeartbeats 1000000 in
theorem eachN_any (l : List (List UInt8)) (v : Value) (w : World) (hl : l.length ≤ 1000) (hs : ∀ x ∈ l, x.length ≤ 1000000) (hr : RStrs w v l) :
    Calls Tryd.prog 44 #[v, .func (.func 32) #[] #[]] w fun e w' => ∃ u, e = .returned (.tuple #[u, .bool (l.all isNum)]) ∧ RInts w' .i64 u (numsP l) ∧ Below w.heap.size w w' := by
  obtain ⟨A, c, rfl, h1, h2, hlc⟩ := hr.open_
  obtain ⟨ii, hii, hz0, hz1, hz2⟩ := info_parts iinfo5
  have HL := Lib.hid hlc
  have HS := Lib.hid hs
  have hb2 : ii.bytes * l.length ≤ 281474976710656 := by rw [hz2]; omega
  have hb3 : l.length ≤ maxLen := by simp only [maxLen]; omega
  clear hlc hr hs
  go_enter Tryd.func44, Tryd.ntmps44
  go_wp2_with (at_make; refine wpList_make_own _ rfl _ _ 91 rfl w.heap.size 3 ii _ 1 Tryd.underlying91 hii hz0 hz1 _ _ _ l.length rfl rfl rfl hb2 hb3 (Nat.le_refl _) ?_; intro w1 hown1 hgrow1)
  clear hb2 hb3 hz0 hz1 hz2 hii
  have hbel1 : Below w.heap.size w w1 := (Below.refl _ _).grown hgrow1 (Nat.le_refl _) (fun k hk => by cases hk)
  have HO1 := Lib.hid hown1
  clear hown1 hgrow1
  go_loopw [6, 16] (fun sv iv wr => ∃ k : Nat, k ≤ l.length ∧ iv = .int .i64 k ∧ Hid ((l.take k).all isNum = true) ∧ Hid (wr.ownsRow w.heap.size 3 1 sv k ((l.take k).map fun x => .int .i64 (numI x))) ∧ Below w.heap.size w wr) (fun _ iv _ => l.length - (intOf iv).toNat)
  case atStart => exact ⟨0, Nat.zero_le _, rfl, rfl, HO1, hbel1⟩
  case round =>
    clear HO1 hbel1
    obtain ⟨k, hk, rfl, HA, HO, hbel⟩ := hrel
    by_cases hlt : k < l.length
    · obtain ⟨x, hx⟩ := some_of_lt hlt
      obtain ⟨b, o, rfl, hb, hc0⟩ := HL.out k x hx
      have hc : wr.cell? ⟨b, o + k, none⟩ = some (.string ⟨x.toArray⟩) := cell_below hbel (Nat.le_refl _) hc0
      have HX := Lib.hid hx
      have HXL := Lib.hid (HS.out x (List.mem_of_getElem? hx))
      clear hc0 hx
      by_cases hw : isNum x = true
      · have HW := Lib.hid hw
        have HN := Lib.hid (all_take_snoc HA.out HX.out hw)
        have HM := Lib.hid (map_take_snoc (fun x => Value.int .i64 (numI x)) HX.out)
        have how := HO.out
        have hkn : k ≤ 1000000000 := by omega
        have hbase := hbel.size
        clear hw
        go_wp2_with fail
        refine (number_i x _ HXL.out).mono ?_
        rintro e w4 ⟨rfl, rfl⟩
        rw [HW.out]
        go_wp2_with (at_builtin; refine wpList_append_one _ rfl (.tmp 28) (.tmp 30) 91 rfl w.heap.size 3 _ 1 8 Tryd.underlying91 iinfo5 rfl (by decide) (by decide) _ _ _ how rfl [.int .i64 (numI x)] _ rfl rfl rfl hkn hbase ?_; intro v5 w5 ho5 hb5 hz5)
        go_roundw
        case rel => exact ⟨k + 1, by omega, by go_num, HN, by rw [HM.out]; exact ho5, hbel.trans hb5⟩
        case measure => simp [intOf]; omega
      · have HW := Lib.hid (show isNum x = false by simpa using hw)
        have HF : Hid (l.all isNum = false) := by
          show _ = _
          rw [List.all_eq_false]
          exact ⟨x, List.mem_of_getElem? HX.out, hw⟩
        clear hw
        go_wp2_with fail
        refine (number_i x _ HXL.out).mono ?_
        rintro e w4 ⟨rfl, rfl⟩
        rw [HW.out]
        go_wp2
        go_ret2
        exact ⟨.slice none 0 0, ret_nums HF.out.symm, by rw [numsP_no HF.out]; exact RS.none_ _ _, hbel⟩
    · obtain rfl : k = l.length := by omega
      have HF : Hid (l.all isNum = true) := by
        have := HA.out
        rw [List.take_length] at this
        exact this
      have HR := Lib.hid (own_nums HO.out HF.out)
      go_wp2
      go_ret2
      exact ⟨_, ret_nums HF.out.symm, HR.out, hbel⟩

theorem numbers_any (l : List (List UInt8)) (v : Value) (w : World) (hl : l.length ≤ 1000) (hs : ∀ x ∈ l, x.length ≤ 1000000) (hr : RStrs w v l) :
    Calls Tryd.prog 38 #[v] w fun e w' => ∃ u, e = .returned (.tuple #[u, .bool (l.all isNum)]) ∧ RInts w' .i64 u (numsP l) ∧ Below w.heap.size w w' := by
  have HC := Lib.hid (eachN_any l v w hl hs hr)
  clear hl hs hr
  go_enter Tryd.func38, Tryd.ntmps38
  go_wp2_with fail
  refine HC.out.mono ?_
  rintro e w2 ⟨u, rfl, hr2, hb2⟩
  go_wp2
  go_ret2
  exact ⟨u, rfl, hr2, hb2⟩
end Go.Proofs.YtokdneolgolkbaaDoor
