/- The walk of the statement TextMany. -/
import Derived.Test.YtddhcmibimabnaaDoorW05m
import Derived.Test.YtddhcmibimabnaaDoorOrdG
namespace Go.Proofs.YtddhcmibimabnaaDoor
open Go.RowKit P05

theorem rnumber_i (l : List UInt8) (w : World) (hs : l.length ≤ 1000000) :
    Calls Tryd.prog 14 #[.string ⟨l.toArray⟩] w fun e w' => e = .returned (.tuple #[.int .i64 (numI l), .bool (isNum l)]) ∧ w' = w :=
  rnumber_any ⟨l.toArray⟩ w (by rw [← data_len]; show l.length ≤ _; omega)
theorem cut_bytes (x : List UInt8) : (⟨x.toArray⟩ : ByteArray).extract 0 25 = ⟨(x.take 25).toArray⟩ := by
  apply ByteArray.ext
  simp
theorem take_short {α : Type} {x : List α} {k : Nat} (h : x.length ≤ k) : x.take k = x := List.take_of_length_le h
/-- The statement's own words. -/
def wsP (l : List (List UInt8)) : List (List UInt8) := (l.take 8).map fun x => x.take 25
theorem wsP_get {l : List (List UInt8)} {k : Nat} {x : List UInt8} (h : l[k]? = some x) (hk : k < 8) : (wsP l)[k]? = some (x.take 25) := by
  unfold wsP
  rw [List.getElem?_map, List.getElem?_take, if_pos hk, h]
  rfl
theorem wsP_len (l : List (List UInt8)) : (wsP l).length = min l.length 8 := by unfold wsP; simp; omega
theorem wsP_small {l : List (List UInt8)} : ∀ x ∈ wsP l, x.length ≤ 1000000 := by
  intro x hx
  obtain ⟨y, _, rfl⟩ := List.mem_map.1 hx
  rw [List.length_take]
  omega
theorem RInts.cut {w : World} {A : Option Addr} {c n : Nat} {l : List Int} (h : RInts w .i64 (.slice A l.length c) l) (hn : n ≤ l.length) : RInts w .i64 (.slice A n c) (l.take n) := by
  have h1 := RL.take (RL.of_one (enc := Value.int .i64) h) hn
  have h2 := RL.one h1
  have e : (l.take n).length = n := by rw [List.length_take]; omega
  unfold RInts
  rw [e] at h2 ⊢
  exact h2
theorem all_take_step {α : Type} {f : α → Bool} {l : List α} {k : Nat} {a : α} {b : Bool} (h : (l.take k).all f = b) (hk : l[k]? = some a) : (l.take (k + 1)).all f = (b && f a) := by
  rw [List.take_add_one, hk, List.all_append, h]
  simp

theorem own_as {w : World} {lb : Nat} {e : TypeId} {v : Value} {n : Nat} {xs ys : List Value} (h : ys = xs) (ho : w.ownsRow lb e 1 v n xs) : w.ownsRow lb e 1 v n ys := h ▸ ho
set_option maxHeartbeats 4000000 in
set_option maxRecDepth 100000 in
theorem textMany_any (v0 v1 : Value) (l : List (List UInt8)) (M0 : List Int) (m : Int) (w : World) (h0 : RStrs w v0 l) (hs : ∀ x ∈ l, x.length ≤ 9223372036854775807) (h1 : RInts w .i64 v1 M0)
    (hM : ∀ z ∈ M0, -9223372036854775808 ≤ z ∧ z ≤ 9223372036854775807) (hm : w.cell? ⟨0, 0, none⟩ = some (.int .i64 m)) :
    Calls Tryd.prog 7 #[v0, v1] w fun e w' => e = .returned (.bool true) ∧ Below w.heap.size w w' := by
  have HM := Lib.hid hm
  obtain ⟨A, c, rfl, g1, g2, hlc⟩ := h0.open_
  obtain ⟨A', c', rfl, g3, g4, -⟩ := h1.open_
  obtain ⟨n, M, hML, hn8, hMR, hMS, hcase⟩ : ∃ (n : Nat) (M : List Int), M.length = n ∧ n ≤ 8 ∧ (∀ z ∈ M, -9223372036854775808 ≤ z ∧ z ≤ 9223372036854775807) ∧ RInts w .i64 (.slice A' n c') M ∧ ((8 < M0.length ∧ n = 8) ∨ (M0.length ≤ 8 ∧ M0.length = n)) := by
    by_cases h : 8 < M0.length
    · exact ⟨8, M0.take 8, by rw [List.length_take]; omega, Nat.le_refl _, fun z hz => hM z (List.mem_of_mem_take hz), h1.cut (by omega), .inl ⟨h, rfl⟩⟩
    · exact ⟨M0.length, M0, rfl, by omega, hM, h1, .inr ⟨by omega, rfl⟩⟩
  have HML := Lib.hid hML
  have HMR := Lib.hid hMR
  have HWS : Hid (∀ W : World, Below w.heap.size w W → Hid (Calls Tryd.prog 18 #[.slice A' n c'] W fun e w' => ∃ Wd cw, e = .returned (.slice Wd n cw) ∧ n ≤ cw ∧ cw ≤ 9223372036854775807 ∧
      (∀ i z, M[i]? = some z → ∃ b o, Wd = some ⟨b, o, none⟩ ∧ b < w'.heap.size ∧ w'.cell? ⟨b, o + i, none⟩ = some (.string ⟨(decI z).toArray⟩)) ∧ Below W.heap.size W w')) := by
    show ∀ W : World, _
    intro W hW
    refine (words_any M _ W (by omega) hMR (hMS.below hW (Nat.le_refl _))).mono fun e w' ⟨u, he, hr, hb⟩ => ?_
    obtain ⟨Wd, cw, rfl, q1, q2, q3⟩ := hr.open_
    have e1 : (M.map decI).length = n := by rw [List.length_map]; exact hML
    rw [e1] at he q1
    exact ⟨Wd, cw, he, q1, q2, fun i z hz => q3 i (decI z) (by rw [List.getElem?_map, hz]; rfl), hb⟩
  have HMC : Hid (∀ i z, M[i]? = some z → ∃ b o, A' = some ⟨b, o, none⟩ ∧ b < w.heap.size ∧ w.cell? ⟨b, o + i, none⟩ = some (.int .i64 z)) := by
    show ∀ i z, _
    intro i z hz
    obtain ⟨A1, c1, hv, _, _, q3⟩ := hMS.open_
    injection hv with e1 _ _
    subst e1
    exact q3 i z hz
  have HL := Lib.hid hlc
  have HSZ := Lib.hid hs
  have HCASE := Lib.hid hcase
  clear hm hlc hs h0 h1 hM hML hMR hMS hcase
  go_enter Tryd.func7, Tryd.ntmps7
  go_wp2_with fail
  go_loopw [5, 6, 7] (fun sv av iv wr => ∃ (k : Nat) (b : Bool), k ≤ l.length ∧ k ≤ 8 ∧ iv = .int .i64 k ∧ av = .bool b ∧ Hid (((wsP l).take k).all isNum = b) ∧ Hid (wr.ownsRow w.heap.size 9 1 sv k (((wsP l).take k).map bstr)) ∧ Below w.heap.size w wr) (fun _ _ iv _ => l.length - (intOf iv).toNat)
  case atStart => exact ⟨0, true, Nat.zero_le _, Nat.zero_le _, rfl, rfl, rfl, World.ownsRow_nil _ _ _ _, Below.refl _ _⟩
  case round =>
    obtain ⟨k, b, hk, hk8, rfl, rfl, HA, HO, hbel⟩ := hrel
    by_cases hlt : k < l.length ∧ k < 8
    · obtain ⟨hlt, hlt8⟩ := hlt
      obtain ⟨x, hx⟩ := some_of_lt hlt
      obtain ⟨g, o, rfl, hb, hc0⟩ := HL.out k x hx
      have hc1 : wr.cell? ⟨g, o + k, none⟩ = some (.string ⟨x.toArray⟩) := cell_below hbel (Nat.le_refl _) hc0
      have hw := wsP_get hx hlt8
      have HN := Lib.hid (all_take_step HA.out hw)
      have HB := Lib.hid (map_take_snoc bstr hw)
      have how := HO.out
      have hxl := HSZ.out x (List.mem_of_getElem? hx)
      have hbase := hbel.size
      have hkn : k ≤ 1000000000 := by omega
      obtain ⟨s, y, hs1, hs2, hsz⟩ : ∃ (s : ByteArray) (y : List UInt8), (⟨x.toArray⟩ : ByteArray) = s ∧ x.take 25 = y ∧ s.size ≤ 9223372036854775807 ∧ ((25 < s.size ∧ s.extract 0 25 = ⟨y.toArray⟩) ∨ (s.size ≤ 25 ∧ s = ⟨y.toArray⟩)) := by
        have e0 : (⟨x.toArray⟩ : ByteArray).size = x.length := by show x.toArray.size = _; simp
        refine ⟨_, _, rfl, rfl, by omega, ?_⟩
        by_cases h : 25 < x.length
        · exact .inl ⟨by omega, cut_bytes x⟩
        · exact .inr ⟨by omega, by rw [take_short (by omega)]⟩
      have hyl : y.length ≤ 1000000 := by rw [← hs2, List.length_take]; omega
      have HC := fun W => Lib.hid (rnumber_i y W hyl)
      rw [hs1] at hc1
      rw [hs2] at HN HB
      replace HB : Hid (((wsP l).take (k + 1)).map bstr = ((wsP l).take k).map bstr ++ [.string ⟨y.toArray⟩]) := HB
      obtain ⟨p, hp⟩ : ∃ p, p = isNum y := ⟨_, rfl⟩
      rw [← hp] at HN HC
      obtain ⟨num, hnum⟩ : ∃ num, num = numI y := ⟨_, rfl⟩
      rw [← hnum] at HC
      obtain ⟨hsz, hcut⟩ := hsz
      clear hx hc0 hs1 hs2 hw hb hp hnum
      rcases hcut with ⟨hz, hcut⟩ | ⟨hz, hcut⟩ <;> rcases b with _ | _
      · have hz' : (25 : Int) < (s.size : Int) := by omega
        clear hz
        go_wp2_with fail
        refine (HC _).out.mono ?_
        rintro e w2 ⟨rfl, rfl⟩
        go_wp2_with (at_builtin; refine wpList_append_one _ rfl (.tmp 46) (.tmp 48) 35 rfl w.heap.size 9 _ 1 16 Tryd.underlying35 strinfo rfl (by decide) (by decide) _ _ _ how rfl [.string ⟨y.toArray⟩] _ rfl rfl rfl hkn hbase ?_; intro v5 w5 ho5 hb5 hz5)
        go_roundw
        case rel => exact ⟨k + 1, _, by omega, by omega, by go_num, rfl, HN, own_as HB.out ho5, hbel.trans hb5⟩
        case measure => simp [intOf]; omega
      · have hz' : (25 : Int) < (s.size : Int) := by omega
        clear hz
        go_wp2_with fail
        refine (HC _).out.mono ?_
        rintro e w2 ⟨rfl, rfl⟩
        go_wp2_with (at_builtin; refine wpList_append_one _ rfl (.tmp 46) (.tmp 48) 35 rfl w.heap.size 9 _ 1 16 Tryd.underlying35 strinfo rfl (by decide) (by decide) _ _ _ how rfl [.string ⟨y.toArray⟩] _ rfl rfl rfl hkn hbase ?_; intro v5 w5 ho5 hb5 hz5)
        go_roundw
        case rel => exact ⟨k + 1, _, by omega, by omega, by go_num, rfl, HN, own_as HB.out ho5, hbel.trans hb5⟩
        case measure => simp [intOf]; omega
      all_goals
        have hz' : (s.size : Int) ≤ (25 : Int) := by omega
        rw [← hcut] at HC HB
        clear hz hcut
        go_wp2_with fail
        refine (HC _).out.mono ?_
        rintro e w2 ⟨rfl, rfl⟩
        go_wp2_with (at_builtin; refine wpList_append_one _ rfl (.tmp 46) (.tmp 48) 35 rfl w.heap.size 9 _ 1 16 Tryd.underlying35 strinfo rfl (by decide) (by decide) _ _ _ how rfl [.string s] _ rfl rfl rfl hkn hbase ?_; intro v5 w5 ho5 hb5 hz5)
        go_roundw
        case rel => exact ⟨k + 1, _, by omega, by omega, by go_num, rfl, HN, own_as HB.out ho5, hbel.trans hb5⟩
        case measure => simp [intOf]; omega
    · have hwl : (wsP l).length = k := by rw [wsP_len]; omega
      have hexit : (¬ k < l.length) ∨ (k < l.length ∧ (8 : Int) ≤ (k : Int)) := by omega
      have htk : (wsP l).take k = wsP l := by rw [← hwl]; exact List.take_length
      have ha := HA.out
      have ho := HO.out
      rw [htk] at ha ho
      have hrs : RStrs wr u5 (wsP l) := by
        unfold RStrs
        rw [hwl]
        exact RS.of_own ho
      have HNS := Lib.hid (numbers_any (wsP l) u5 wr (by omega) wsP_small hrs)
      have HWL := Lib.hid hwl
      have HRS := Lib.hid hrs
      have HWM := Lib.hid (wsP_small (l := l))
      obtain ⟨Ao, co, rfl, o1, o2, hoc⟩ := hrs.open_
      rw [hwl] at HNS o1 ⊢
      have HOC := Lib.hid hoc
      have hcase := HCASE.out
      have HAB := Lib.hid ha
      clear htk ha ho HO HA hwl hrs hoc HCASE
      generalize hXX : wsP l = ws at HNS HWL HRS HOC HAB HWM
      clear hXX
      rcases b with _ | _
      · have HX := numsP_no HAB.out
        have HN0 : Hid (Calls Tryd.prog 17 #[.slice Ao k co] wr fun e w' => ∃ U cu, e = .returned (.tuple #[.slice U 0 cu, .bool false]) ∧ Below wr.heap.size wr w') := by
          refine HNS.out.mono fun e w' ⟨u, he, hr, hb⟩ => ?_
          rw [HX] at hr
          obtain ⟨U, cu, rfl, _, _, _⟩ := hr.open_
          exact ⟨U, cu, by rw [he, HAB.out]; rfl, hb⟩
        clear HX HNS
        rcases hcase with ⟨hm8, rfl⟩ | ⟨hm8, rfl⟩
        · rcases hexit with hlt | ⟨hlt, hx8⟩
          all_goals
            go_wp2_with fail
            refine HN0.out.mono ?_
            rintro e w2 ⟨U, cu, rfl, hb2⟩
            have hbel2 := below_nx5 hbel hb2
            clear hbel hb2
            go_wp2_with fail
            go_loop [13] (fun iv => iv = .int .i64 0) (fun _ => 0)
            case atStart => rfl
            case round =>
              obtain rfl := hrel
              go_wp2_with fail
              refine (HWS.out _ hbel2).out.mono ?_
              rintro e w3 ⟨Wd, cw, rfl, g5, g6, hwc, hb3⟩
              have HWC := Lib.hid hwc
              have kb3 := below_nx5 hbel2 hb3
              clear hwc
              go_wp2_with fail
              go_loopw [17] (fun iv wr => ∃ j : Nat, j ≤ 8 ∧ iv = .int .i64 j ∧ Below w3.heap.size w3 wr) (fun iv _ => 8 - (intOf iv).toNat)
              case atStart => exact ⟨0, Nat.zero_le _, rfl, Below.refl _ _⟩
              case round =>
                obtain ⟨j, hj, rfl, hbq⟩ := hrel
                by_cases hlt : j < 8
                · obtain ⟨z, hz⟩ := some_of_lt (l := M) (i := j) (by rw [HML.out]; exact hlt)
                  obtain ⟨b, o, rfl, hb, hc0⟩ := HWC.out j z hz
                  obtain ⟨b1, o1, rfl, hb1, hc1⟩ := HMC.out j z hz
                  have j0 : wr.cell? ⟨b, o + j, none⟩ = some (.string ⟨(decI z).toArray⟩) := cell_below hbq (Nat.le_refl _) hc0
                  have j1 : wr.cell? ⟨b1, o1 + j, none⟩ = some (.int .i64 z) := cell_below hbq (Nat.le_refl _) (cell_below kb3 (Nat.le_refl _) hc1)
                  have HD := Lib.hid (fun W => rdecimal_any z W (HMR.out z (List.mem_of_getElem? hz)).1 (HMR.out z (List.mem_of_getElem? hz)).2)
                  clear hc0 hc1 hz hb hb1
                  generalize decI z = d at j0 HD
                  unfold bstr at HD
                  go_wp2_with fail
                  refine wp_region_G (fun wS => Below wr.heap.size wr wS) 10 (listed := #[false, false, false, false, false, false, false, false, false, false]) (by kernel_rfl) ?_ (by kernel_rfl) (by kernel_rfl) ?_
                  · exact (Below.refl _ _).drew
                  refine wpAnyG_take 0 115 (tm' := ?_) (v := ?_) rfl rfl (by kernel_rfl) (by kernel_rfl) (by kernel_rfl) (listed' := #[true, false, false, false, false, false, false, false, false, false]) (by kernel_rfl) (fun _ _ _ h => h) (wanted_none rfl) ?_ ?_ ?_
                  rotate_left 2
                  · intro w hSw
                    (try dsimp only at hSw)
                    go_simp
                    try with_reducible rfl
                  · simp only [List.setIfInBounds_toArray, List.set_cons_zero, List.set_cons_succ]; with_reducible rfl
                  refine wpAnyG_take 1 116 (tm' := ?_) (v := ?_) rfl rfl (by kernel_rfl) (by kernel_rfl) (by kernel_rfl) (listed' := #[true, true, false, false, false, false, false, false, false, false]) (by kernel_rfl) (fun _ _ _ h => h) (wanted_none rfl) ?_ ?_ ?_
                  rotate_left 2
                  · intro w hSw
                    (try dsimp only at hSw)
                    go_simp
                    try with_reducible rfl
                  · simp only [List.setIfInBounds_toArray, List.set_cons_zero, List.set_cons_succ]; with_reducible rfl
                  refine wpAnyG_take 2 117 (tm' := ?_) (v := ?_) rfl rfl (by kernel_rfl) (by kernel_rfl) (by kernel_rfl) (listed' := #[true, true, true, false, false, false, false, false, false, false]) (by kernel_rfl) (fun _ _ _ h => h) (wanted_none rfl) ?_ ?_ ?_
                  rotate_left 2
                  · intro w hSw
                    (try dsimp only at hSw)
                    go_simp
                    try with_reducible rfl
                  · simp only [List.setIfInBounds_toArray, List.set_cons_zero, List.set_cons_succ]; with_reducible rfl
                  refine wpAnyG_take 3 118 (tm' := ?_) (v := ?_) rfl rfl (by kernel_rfl) (by kernel_rfl) (by kernel_rfl) (listed' := #[true, true, true, true, false, false, false, false, false, false]) (by kernel_rfl) (fun _ _ _ h => h) (wanted_none rfl) ?_ ?_ ?_
                  rotate_left 2
                  · intro w hSw
                    (try dsimp only at hSw)
                    have j0S := cell_below hSw (Nat.le_refl _) j0
                    have j1S := cell_below hSw (Nat.le_refl _) j1
                    go_simp
                    try with_reducible rfl
                  · simp only [List.setIfInBounds_toArray, List.set_cons_zero, List.set_cons_succ]; with_reducible rfl
                  refine wpAnyG_take 4 119 (tm' := ?_) (v := ?_) rfl rfl (by kernel_rfl) (by kernel_rfl) (by kernel_rfl) (listed' := #[true, true, true, true, true, false, false, false, false, false]) (by kernel_rfl) (fun _ _ _ h => h) (wanted_none rfl) ?_ ?_ ?_
                  rotate_left 2
                  · intro w hSw
                    (try dsimp only at hSw)
                    go_simp
                    try with_reducible rfl
                  · simp only [List.setIfInBounds_toArray, List.set_cons_zero, List.set_cons_succ]; with_reducible rfl
                  refine wpAnyG_take 5 120 (tm' := ?_) (v := ?_) rfl rfl (by kernel_rfl) (by kernel_rfl) (by kernel_rfl) (listed' := #[true, true, true, true, true, true, false, false, false, false]) (by kernel_rfl) (fun _ _ _ h => h) (wanted_none rfl) ?_ ?_ ?_
                  rotate_left 2
                  · intro w hSw
                    (try dsimp only at hSw)
                    go_simp
                    try with_reducible rfl
                  · simp only [List.setIfInBounds_toArray, List.set_cons_zero, List.set_cons_succ]; with_reducible rfl
                  refine wpAnyG_take 6 121 (tm' := ?_) (v := ?_) rfl rfl (by kernel_rfl) (by kernel_rfl) (by kernel_rfl) (listed' := #[true, true, true, true, true, true, true, false, false, false]) (by kernel_rfl) (fun _ _ _ h => h) (wanted_none rfl) ?_ ?_ ?_
                  rotate_left 2
                  · intro w hSw
                    (try dsimp only at hSw)
                    go_simp
                    try with_reducible rfl
                  · simp only [List.setIfInBounds_toArray, List.set_cons_zero, List.set_cons_succ]; with_reducible rfl
                  refine wpAnyG_take 7 122 (tm' := ?_) (v := ?_) rfl rfl (by kernel_rfl) (by kernel_rfl) (by kernel_rfl) (listed' := #[true, true, true, true, true, true, true, true, false, false]) (by kernel_rfl) (fun _ _ _ h => h) (wanted_none rfl) ?_ ?_ ?_
                  rotate_left 2
                  · intro w hSw
                    (try dsimp only at hSw)
                    have j0S := cell_below hSw (Nat.le_refl _) j0
                    have j1S := cell_below hSw (Nat.le_refl _) j1
                    go_simp
                    try with_reducible rfl
                  · simp only [List.setIfInBounds_toArray, List.set_cons_zero, List.set_cons_succ]; with_reducible rfl
                  refine wpAnyG_call 8 123 (tm' := ?_) (v := .string ⟨d.toArray⟩) (f := ?_) (args := ?_) rfl rfl (by kernel_rfl) (by kernel_rfl) (by kernel_rfl) (listed' := #[true, true, true, true, true, true, true, true, true, false]) (by kernel_rfl) (fun _ _ _ h => h) (wanted_none rfl) ?_ ?_ ?_ ?_
                  rotate_left 3
                  · intro w
                    go_simp
                    first | with_reducible rfl | (constructor <;> with_reducible rfl)
                  · intro wS hSw
                    exact (HD.out wS).mono fun e w' ⟨he, hb⟩ => ⟨he, below_nx5 hSw hb⟩
                  · simp only [List.setIfInBounds_toArray, List.set_cons_zero, List.set_cons_succ]; with_reducible rfl
                  refine wpAnyG_take 9 124 (tm' := ?_) (v := .bool false) rfl rfl (by kernel_rfl) (by kernel_rfl) (by kernel_rfl) (listed' := #[true, true, true, true, true, true, true, true, true, true]) (by kernel_rfl) (fun _ _ _ h => h) (wanted_none rfl) ?_ ?_ ?_
                  rotate_left
                  · intro w hSw
                    (try dsimp only at hSw)
                    go_simp
                    try with_reducible rfl
                  · simp only [List.setIfInBounds_toArray, List.set_cons_zero, List.set_cons_succ]; with_reducible rfl
                  refine wpAnyF_done (by kernel_rfl) ?_
                  intro wf hSf
                  go_wp2
                  go_roundw
                  case rel => exact ⟨j + 1, by omega, by go_num, below_nx5 hbq hSf⟩
                  case measure => simp [intOf]; omega
                · obtain rfl : j = 8 := by omega
                  have kq := below_nx5 kb3 hbq
                  go_wp2_with fail
                  refine (lives_any m _ (cell_below kq (Nat.le_refl _) HM.out)).mono ?_
                  rintro e w7 ⟨rfl, hb7⟩
                  go_wp2
                  go_ret
                  exact ⟨rfl, below_nx5 kq hb7⟩
        · rcases hexit with hlt | ⟨hlt, hx8⟩
          all_goals
            go_wp2_with fail
            refine HN0.out.mono ?_
            rintro e w2 ⟨U, cu, rfl, hb2⟩
            have hbel2 := below_nx5 hbel hb2
            clear hbel hb2
            go_wp2_with fail
            go_loop [13] (fun iv => iv = .int .i64 0) (fun _ => 0)
            case atStart => rfl
            case round =>
              obtain rfl := hrel
              go_wp2_with fail
              refine (HWS.out _ hbel2).out.mono ?_
              rintro e w3 ⟨Wd, cw, rfl, g5, g6, hwc, hb3⟩
              have HWC := Lib.hid hwc
              have kb3 := below_nx5 hbel2 hb3
              clear hwc
              go_wp2_with fail
              go_loopw [17] (fun iv wr => ∃ j : Nat, j ≤ M0.length ∧ iv = .int .i64 j ∧ Below w3.heap.size w3 wr) (fun iv _ => M0.length - (intOf iv).toNat)
              case atStart => exact ⟨0, Nat.zero_le _, rfl, Below.refl _ _⟩
              case round =>
                obtain ⟨j, hj, rfl, hbq⟩ := hrel
                by_cases hlt : j < M0.length
                · obtain ⟨z, hz⟩ := some_of_lt (l := M) (i := j) (by rw [HML.out]; exact hlt)
                  obtain ⟨b, o, rfl, hb, hc0⟩ := HWC.out j z hz
                  obtain ⟨b1, o1, rfl, hb1, hc1⟩ := HMC.out j z hz
                  have j0 : wr.cell? ⟨b, o + j, none⟩ = some (.string ⟨(decI z).toArray⟩) := cell_below hbq (Nat.le_refl _) hc0
                  have j1 : wr.cell? ⟨b1, o1 + j, none⟩ = some (.int .i64 z) := cell_below hbq (Nat.le_refl _) (cell_below kb3 (Nat.le_refl _) hc1)
                  have HD := Lib.hid (fun W => rdecimal_any z W (HMR.out z (List.mem_of_getElem? hz)).1 (HMR.out z (List.mem_of_getElem? hz)).2)
                  clear hc0 hc1 hz hb hb1
                  generalize decI z = d at j0 HD
                  unfold bstr at HD
                  go_wp2_with fail
                  refine wp_region_G (fun wS => Below wr.heap.size wr wS) 10 (listed := #[false, false, false, false, false, false, false, false, false, false]) (by kernel_rfl) ?_ (by kernel_rfl) (by kernel_rfl) ?_
                  · exact (Below.refl _ _).drew
                  refine wpAnyG_take 0 115 (tm' := ?_) (v := ?_) rfl rfl (by kernel_rfl) (by kernel_rfl) (by kernel_rfl) (listed' := #[true, false, false, false, false, false, false, false, false, false]) (by kernel_rfl) (fun _ _ _ h => h) (wanted_none rfl) ?_ ?_ ?_
                  rotate_left 2
                  · intro w hSw
                    (try dsimp only at hSw)
                    go_simp
                    try with_reducible rfl
                  · simp only [List.setIfInBounds_toArray, List.set_cons_zero, List.set_cons_succ]; with_reducible rfl
                  refine wpAnyG_take 1 116 (tm' := ?_) (v := ?_) rfl rfl (by kernel_rfl) (by kernel_rfl) (by kernel_rfl) (listed' := #[true, true, false, false, false, false, false, false, false, false]) (by kernel_rfl) (fun _ _ _ h => h) (wanted_none rfl) ?_ ?_ ?_
                  rotate_left 2
                  · intro w hSw
                    (try dsimp only at hSw)
                    go_simp
                    try with_reducible rfl
                  · simp only [List.setIfInBounds_toArray, List.set_cons_zero, List.set_cons_succ]; with_reducible rfl
                  refine wpAnyG_take 2 117 (tm' := ?_) (v := ?_) rfl rfl (by kernel_rfl) (by kernel_rfl) (by kernel_rfl) (listed' := #[true, true, true, false, false, false, false, false, false, false]) (by kernel_rfl) (fun _ _ _ h => h) (wanted_none rfl) ?_ ?_ ?_
                  rotate_left 2
                  · intro w hSw
                    (try dsimp only at hSw)
                    go_simp
                    try with_reducible rfl
                  · simp only [List.setIfInBounds_toArray, List.set_cons_zero, List.set_cons_succ]; with_reducible rfl
                  refine wpAnyG_take 3 118 (tm' := ?_) (v := ?_) rfl rfl (by kernel_rfl) (by kernel_rfl) (by kernel_rfl) (listed' := #[true, true, true, true, false, false, false, false, false, false]) (by kernel_rfl) (fun _ _ _ h => h) (wanted_none rfl) ?_ ?_ ?_
                  rotate_left 2
                  · intro w hSw
                    (try dsimp only at hSw)
                    have j0S := cell_below hSw (Nat.le_refl _) j0
                    have j1S := cell_below hSw (Nat.le_refl _) j1
                    go_simp
                    try with_reducible rfl
                  · simp only [List.setIfInBounds_toArray, List.set_cons_zero, List.set_cons_succ]; with_reducible rfl
                  refine wpAnyG_take 4 119 (tm' := ?_) (v := ?_) rfl rfl (by kernel_rfl) (by kernel_rfl) (by kernel_rfl) (listed' := #[true, true, true, true, true, false, false, false, false, false]) (by kernel_rfl) (fun _ _ _ h => h) (wanted_none rfl) ?_ ?_ ?_
                  rotate_left 2
                  · intro w hSw
                    (try dsimp only at hSw)
                    go_simp
                    try with_reducible rfl
                  · simp only [List.setIfInBounds_toArray, List.set_cons_zero, List.set_cons_succ]; with_reducible rfl
                  refine wpAnyG_take 5 120 (tm' := ?_) (v := ?_) rfl rfl (by kernel_rfl) (by kernel_rfl) (by kernel_rfl) (listed' := #[true, true, true, true, true, true, false, false, false, false]) (by kernel_rfl) (fun _ _ _ h => h) (wanted_none rfl) ?_ ?_ ?_
                  rotate_left 2
                  · intro w hSw
                    (try dsimp only at hSw)
                    go_simp
                    try with_reducible rfl
                  · simp only [List.setIfInBounds_toArray, List.set_cons_zero, List.set_cons_succ]; with_reducible rfl
                  refine wpAnyG_take 6 121 (tm' := ?_) (v := ?_) rfl rfl (by kernel_rfl) (by kernel_rfl) (by kernel_rfl) (listed' := #[true, true, true, true, true, true, true, false, false, false]) (by kernel_rfl) (fun _ _ _ h => h) (wanted_none rfl) ?_ ?_ ?_
                  rotate_left 2
                  · intro w hSw
                    (try dsimp only at hSw)
                    go_simp
                    try with_reducible rfl
                  · simp only [List.setIfInBounds_toArray, List.set_cons_zero, List.set_cons_succ]; with_reducible rfl
                  refine wpAnyG_take 7 122 (tm' := ?_) (v := ?_) rfl rfl (by kernel_rfl) (by kernel_rfl) (by kernel_rfl) (listed' := #[true, true, true, true, true, true, true, true, false, false]) (by kernel_rfl) (fun _ _ _ h => h) (wanted_none rfl) ?_ ?_ ?_
                  rotate_left 2
                  · intro w hSw
                    (try dsimp only at hSw)
                    have j0S := cell_below hSw (Nat.le_refl _) j0
                    have j1S := cell_below hSw (Nat.le_refl _) j1
                    go_simp
                    try with_reducible rfl
                  · simp only [List.setIfInBounds_toArray, List.set_cons_zero, List.set_cons_succ]; with_reducible rfl
                  refine wpAnyG_call 8 123 (tm' := ?_) (v := .string ⟨d.toArray⟩) (f := ?_) (args := ?_) rfl rfl (by kernel_rfl) (by kernel_rfl) (by kernel_rfl) (listed' := #[true, true, true, true, true, true, true, true, true, false]) (by kernel_rfl) (fun _ _ _ h => h) (wanted_none rfl) ?_ ?_ ?_ ?_
                  rotate_left 3
                  · intro w
                    go_simp
                    first | with_reducible rfl | (constructor <;> with_reducible rfl)
                  · intro wS hSw
                    exact (HD.out wS).mono fun e w' ⟨he, hb⟩ => ⟨he, below_nx5 hSw hb⟩
                  · simp only [List.setIfInBounds_toArray, List.set_cons_zero, List.set_cons_succ]; with_reducible rfl
                  refine wpAnyG_take 9 124 (tm' := ?_) (v := .bool false) rfl rfl (by kernel_rfl) (by kernel_rfl) (by kernel_rfl) (listed' := #[true, true, true, true, true, true, true, true, true, true]) (by kernel_rfl) (fun _ _ _ h => h) (wanted_none rfl) ?_ ?_ ?_
                  rotate_left
                  · intro w hSw
                    (try dsimp only at hSw)
                    go_simp
                    try with_reducible rfl
                  · simp only [List.setIfInBounds_toArray, List.set_cons_zero, List.set_cons_succ]; with_reducible rfl
                  refine wpAnyF_done (by kernel_rfl) ?_
                  intro wf hSf
                  go_wp2
                  go_roundw
                  case rel => exact ⟨j + 1, by omega, by go_num, below_nx5 hbq hSf⟩
                  case measure => simp [intOf]; omega
                · obtain rfl : j = M0.length := by omega
                  have kq := below_nx5 kb3 hbq
                  go_wp2_with fail
                  refine (lives_any m _ (cell_below kq (Nat.le_refl _) HM.out)).mono ?_
                  rintro e w7 ⟨rfl, hb7⟩
                  go_wp2
                  go_ret
                  exact ⟨rfl, below_nx5 kq hb7⟩
      · have HX := numsP_yes HAB.out
        have HN0 : Hid (Calls Tryd.prog 17 #[.slice Ao k co] wr fun e w' => ∃ U cu, e = .returned (.tuple #[.slice U k cu, .bool true]) ∧ k ≤ cu ∧ cu ≤ 9223372036854775807 ∧ (∀ i y, ws[i]? = some y → ∃ b o, U = some ⟨b, o, none⟩ ∧ b < w'.heap.size ∧ w'.cell? ⟨b, o + i, none⟩ = some (.int .i64 (numI y))) ∧ Below wr.heap.size wr w') := by
          refine HNS.out.mono fun e w' ⟨u, he, hr, hb⟩ => ?_
          rw [HX] at hr
          obtain ⟨U, cu, rfl, q1, q2, q3⟩ := hr.open_
          rw [List.length_map, HWL.out] at he q1
          exact ⟨U, cu, by rw [he, HAB.out], q1, q2, fun i y hy => q3 i (numI y) (by rw [List.getElem?_map, hy]; rfl), hb⟩
        clear HX HNS
        rcases hcase with ⟨hm8, rfl⟩ | ⟨hm8, rfl⟩
        · rcases hexit with hlt | ⟨hlt, hx8⟩
          all_goals
            go_wp2_with fail
            refine HN0.out.mono ?_
            rintro e w2 ⟨U, cu, rfl, u1, u2, huc, hb2⟩
            have HUC := Lib.hid huc
            have hbel2 := below_nx5 hbel hb2
            have HB2 := Lib.hid hb2
            clear hbel hb2 huc
            go_wp2_with fail
            go_loop [13] (fun iv => ∃ j : Nat, j ≤ k ∧ iv = .int .i64 j) (fun iv => k - (intOf iv).toNat)
            case atStart => exact ⟨0, Nat.zero_le _, rfl⟩
            case round =>
              obtain ⟨j, hj, rfl⟩ := hrel
              by_cases hjk : j < k
              · obtain ⟨y, hy⟩ := some_of_lt (l := ws) (i := j) (by rw [HWL.out]; exact hjk)
                obtain ⟨b0, p0, rfl, hb0, hc0⟩ := HOC.out j y hy
                obtain ⟨b1, p1, rfl, hb1, hc1⟩ := HUC.out j y hy
                have hc2 : w2.cell? ⟨b0, p0 + j, none⟩ = some (.string ⟨y.toArray⟩) := cell_below HB2.out (Nat.le_refl _) hc0
                have HC := fun W => Lib.hid (rnumber_i y W (HWM.out y (List.mem_of_getElem? hy)))
                clear hc0 hb0 hb1 hy
                generalize numI y = z at hc1 HC
                generalize isNum y = q at HC
                go_wp2_with fail
                refine (HC _).out.mono ?_
                rintro e w4 ⟨rfl, rfl⟩
                go_wp2
                go_round
                case rel => exact ⟨j + 1, by omega, by go_num⟩
                case measure => simp [intOf]; omega
              · obtain rfl : j = k := by omega
                go_wp2_with fail
                refine (HWS.out _ hbel2).out.mono ?_
                rintro e w3 ⟨Wd, cw, rfl, g5, g6, hwc, hb3⟩
                have HWC := Lib.hid hwc
                have kb3 := below_nx5 hbel2 hb3
                clear hwc
                go_wp2_with fail
                go_loopw [17] (fun iv wr => ∃ j : Nat, j ≤ 8 ∧ iv = .int .i64 j ∧ Below w3.heap.size w3 wr) (fun iv _ => 8 - (intOf iv).toNat)
                case atStart => exact ⟨0, Nat.zero_le _, rfl, Below.refl _ _⟩
                case round =>
                  obtain ⟨j, hj, rfl, hbq⟩ := hrel
                  by_cases hlt : j < 8
                  · obtain ⟨z, hz⟩ := some_of_lt (l := M) (i := j) (by rw [HML.out]; exact hlt)
                    obtain ⟨b, o, rfl, hb, hc0⟩ := HWC.out j z hz
                    obtain ⟨b1, o1, rfl, hb1, hc1⟩ := HMC.out j z hz
                    have j0 : wr.cell? ⟨b, o + j, none⟩ = some (.string ⟨(decI z).toArray⟩) := cell_below hbq (Nat.le_refl _) hc0
                    have j1 : wr.cell? ⟨b1, o1 + j, none⟩ = some (.int .i64 z) := cell_below hbq (Nat.le_refl _) (cell_below kb3 (Nat.le_refl _) hc1)
                    have HD := Lib.hid (fun W => rdecimal_any z W (HMR.out z (List.mem_of_getElem? hz)).1 (HMR.out z (List.mem_of_getElem? hz)).2)
                    clear hc0 hc1 hz hb hb1
                    generalize decI z = d at j0 HD
                    unfold bstr at HD
                    go_wp2_with fail
                    refine wp_region_G (fun wS => Below wr.heap.size wr wS) 10 (listed := #[false, false, false, false, false, false, false, false, false, false]) (by kernel_rfl) ?_ (by kernel_rfl) (by kernel_rfl) ?_
                    · exact (Below.refl _ _).drew
                    refine wpAnyG_take 0 115 (tm' := ?_) (v := ?_) rfl rfl (by kernel_rfl) (by kernel_rfl) (by kernel_rfl) (listed' := #[true, false, false, false, false, false, false, false, false, false]) (by kernel_rfl) (fun _ _ _ h => h) (wanted_none rfl) ?_ ?_ ?_
                    rotate_left 2
                    · intro w hSw
                      (try dsimp only at hSw)
                      go_simp
                      try with_reducible rfl
                    · simp only [List.setIfInBounds_toArray, List.set_cons_zero, List.set_cons_succ]; with_reducible rfl
                    refine wpAnyG_take 1 116 (tm' := ?_) (v := ?_) rfl rfl (by kernel_rfl) (by kernel_rfl) (by kernel_rfl) (listed' := #[true, true, false, false, false, false, false, false, false, false]) (by kernel_rfl) (fun _ _ _ h => h) (wanted_none rfl) ?_ ?_ ?_
                    rotate_left 2
                    · intro w hSw
                      (try dsimp only at hSw)
                      go_simp
                      try with_reducible rfl
                    · simp only [List.setIfInBounds_toArray, List.set_cons_zero, List.set_cons_succ]; with_reducible rfl
                    refine wpAnyG_take 2 117 (tm' := ?_) (v := ?_) rfl rfl (by kernel_rfl) (by kernel_rfl) (by kernel_rfl) (listed' := #[true, true, true, false, false, false, false, false, false, false]) (by kernel_rfl) (fun _ _ _ h => h) (wanted_none rfl) ?_ ?_ ?_
                    rotate_left 2
                    · intro w hSw
                      (try dsimp only at hSw)
                      go_simp
                      try with_reducible rfl
                    · simp only [List.setIfInBounds_toArray, List.set_cons_zero, List.set_cons_succ]; with_reducible rfl
                    refine wpAnyG_take 3 118 (tm' := ?_) (v := ?_) rfl rfl (by kernel_rfl) (by kernel_rfl) (by kernel_rfl) (listed' := #[true, true, true, true, false, false, false, false, false, false]) (by kernel_rfl) (fun _ _ _ h => h) (wanted_none rfl) ?_ ?_ ?_
                    rotate_left 2
                    · intro w hSw
                      (try dsimp only at hSw)
                      have j0S := cell_below hSw (Nat.le_refl _) j0
                      have j1S := cell_below hSw (Nat.le_refl _) j1
                      go_simp
                      try with_reducible rfl
                    · simp only [List.setIfInBounds_toArray, List.set_cons_zero, List.set_cons_succ]; with_reducible rfl
                    refine wpAnyG_take 4 119 (tm' := ?_) (v := ?_) rfl rfl (by kernel_rfl) (by kernel_rfl) (by kernel_rfl) (listed' := #[true, true, true, true, true, false, false, false, false, false]) (by kernel_rfl) (fun _ _ _ h => h) (wanted_none rfl) ?_ ?_ ?_
                    rotate_left 2
                    · intro w hSw
                      (try dsimp only at hSw)
                      go_simp
                      try with_reducible rfl
                    · simp only [List.setIfInBounds_toArray, List.set_cons_zero, List.set_cons_succ]; with_reducible rfl
                    refine wpAnyG_take 5 120 (tm' := ?_) (v := ?_) rfl rfl (by kernel_rfl) (by kernel_rfl) (by kernel_rfl) (listed' := #[true, true, true, true, true, true, false, false, false, false]) (by kernel_rfl) (fun _ _ _ h => h) (wanted_none rfl) ?_ ?_ ?_
                    rotate_left 2
                    · intro w hSw
                      (try dsimp only at hSw)
                      go_simp
                      try with_reducible rfl
                    · simp only [List.setIfInBounds_toArray, List.set_cons_zero, List.set_cons_succ]; with_reducible rfl
                    refine wpAnyG_take 6 121 (tm' := ?_) (v := ?_) rfl rfl (by kernel_rfl) (by kernel_rfl) (by kernel_rfl) (listed' := #[true, true, true, true, true, true, true, false, false, false]) (by kernel_rfl) (fun _ _ _ h => h) (wanted_none rfl) ?_ ?_ ?_
                    rotate_left 2
                    · intro w hSw
                      (try dsimp only at hSw)
                      go_simp
                      try with_reducible rfl
                    · simp only [List.setIfInBounds_toArray, List.set_cons_zero, List.set_cons_succ]; with_reducible rfl
                    refine wpAnyG_take 7 122 (tm' := ?_) (v := ?_) rfl rfl (by kernel_rfl) (by kernel_rfl) (by kernel_rfl) (listed' := #[true, true, true, true, true, true, true, true, false, false]) (by kernel_rfl) (fun _ _ _ h => h) (wanted_none rfl) ?_ ?_ ?_
                    rotate_left 2
                    · intro w hSw
                      (try dsimp only at hSw)
                      have j0S := cell_below hSw (Nat.le_refl _) j0
                      have j1S := cell_below hSw (Nat.le_refl _) j1
                      go_simp
                      try with_reducible rfl
                    · simp only [List.setIfInBounds_toArray, List.set_cons_zero, List.set_cons_succ]; with_reducible rfl
                    refine wpAnyG_call 8 123 (tm' := ?_) (v := .string ⟨d.toArray⟩) (f := ?_) (args := ?_) rfl rfl (by kernel_rfl) (by kernel_rfl) (by kernel_rfl) (listed' := #[true, true, true, true, true, true, true, true, true, false]) (by kernel_rfl) (fun _ _ _ h => h) (wanted_none rfl) ?_ ?_ ?_ ?_
                    rotate_left 3
                    · intro w
                      go_simp
                      first | with_reducible rfl | (constructor <;> with_reducible rfl)
                    · intro wS hSw
                      exact (HD.out wS).mono fun e w' ⟨he, hb⟩ => ⟨he, below_nx5 hSw hb⟩
                    · simp only [List.setIfInBounds_toArray, List.set_cons_zero, List.set_cons_succ]; with_reducible rfl
                    refine wpAnyG_take 9 124 (tm' := ?_) (v := .bool false) rfl rfl (by kernel_rfl) (by kernel_rfl) (by kernel_rfl) (listed' := #[true, true, true, true, true, true, true, true, true, true]) (by kernel_rfl) (fun _ _ _ h => h) (wanted_none rfl) ?_ ?_ ?_
                    rotate_left
                    · intro w hSw
                      (try dsimp only at hSw)
                      go_simp
                      try with_reducible rfl
                    · simp only [List.setIfInBounds_toArray, List.set_cons_zero, List.set_cons_succ]; with_reducible rfl
                    refine wpAnyF_done (by kernel_rfl) ?_
                    intro wf hSf
                    go_wp2
                    go_roundw
                    case rel => exact ⟨j + 1, by omega, by go_num, below_nx5 hbq hSf⟩
                    case measure => simp [intOf]; omega
                  · obtain rfl : j = 8 := by omega
                    have kq := below_nx5 kb3 hbq
                    go_wp2_with fail
                    refine (lives_any m _ (cell_below kq (Nat.le_refl _) HM.out)).mono ?_
                    rintro e w7 ⟨rfl, hb7⟩
                    go_wp2
                    go_ret
                    exact ⟨rfl, below_nx5 kq hb7⟩
        · rcases hexit with hlt | ⟨hlt, hx8⟩
          all_goals
            go_wp2_with fail
            refine HN0.out.mono ?_
            rintro e w2 ⟨U, cu, rfl, u1, u2, huc, hb2⟩
            have HUC := Lib.hid huc
            have hbel2 := below_nx5 hbel hb2
            have HB2 := Lib.hid hb2
            clear hbel hb2 huc
            go_wp2_with fail
            go_loop [13] (fun iv => ∃ j : Nat, j ≤ k ∧ iv = .int .i64 j) (fun iv => k - (intOf iv).toNat)
            case atStart => exact ⟨0, Nat.zero_le _, rfl⟩
            case round =>
              obtain ⟨j, hj, rfl⟩ := hrel
              by_cases hjk : j < k
              · obtain ⟨y, hy⟩ := some_of_lt (l := ws) (i := j) (by rw [HWL.out]; exact hjk)
                obtain ⟨b0, p0, rfl, hb0, hc0⟩ := HOC.out j y hy
                obtain ⟨b1, p1, rfl, hb1, hc1⟩ := HUC.out j y hy
                have hc2 : w2.cell? ⟨b0, p0 + j, none⟩ = some (.string ⟨y.toArray⟩) := cell_below HB2.out (Nat.le_refl _) hc0
                have HC := fun W => Lib.hid (rnumber_i y W (HWM.out y (List.mem_of_getElem? hy)))
                clear hc0 hb0 hb1 hy
                generalize numI y = z at hc1 HC
                generalize isNum y = q at HC
                go_wp2_with fail
                refine (HC _).out.mono ?_
                rintro e w4 ⟨rfl, rfl⟩
                go_wp2
                go_round
                case rel => exact ⟨j + 1, by omega, by go_num⟩
                case measure => simp [intOf]; omega
              · obtain rfl : j = k := by omega
                go_wp2_with fail
                refine (HWS.out _ hbel2).out.mono ?_
                rintro e w3 ⟨Wd, cw, rfl, g5, g6, hwc, hb3⟩
                have HWC := Lib.hid hwc
                have kb3 := below_nx5 hbel2 hb3
                clear hwc
                go_wp2_with fail
                go_loopw [17] (fun iv wr => ∃ j : Nat, j ≤ M0.length ∧ iv = .int .i64 j ∧ Below w3.heap.size w3 wr) (fun iv _ => M0.length - (intOf iv).toNat)
                case atStart => exact ⟨0, Nat.zero_le _, rfl, Below.refl _ _⟩
                case round =>
                  obtain ⟨j, hj, rfl, hbq⟩ := hrel
                  by_cases hlt : j < M0.length
                  · obtain ⟨z, hz⟩ := some_of_lt (l := M) (i := j) (by rw [HML.out]; exact hlt)
                    obtain ⟨b, o, rfl, hb, hc0⟩ := HWC.out j z hz
                    obtain ⟨b1, o1, rfl, hb1, hc1⟩ := HMC.out j z hz
                    have j0 : wr.cell? ⟨b, o + j, none⟩ = some (.string ⟨(decI z).toArray⟩) := cell_below hbq (Nat.le_refl _) hc0
                    have j1 : wr.cell? ⟨b1, o1 + j, none⟩ = some (.int .i64 z) := cell_below hbq (Nat.le_refl _) (cell_below kb3 (Nat.le_refl _) hc1)
                    have HD := Lib.hid (fun W => rdecimal_any z W (HMR.out z (List.mem_of_getElem? hz)).1 (HMR.out z (List.mem_of_getElem? hz)).2)
                    clear hc0 hc1 hz hb hb1
                    generalize decI z = d at j0 HD
                    unfold bstr at HD
                    go_wp2_with fail
                    refine wp_region_G (fun wS => Below wr.heap.size wr wS) 10 (listed := #[false, false, false, false, false, false, false, false, false, false]) (by kernel_rfl) ?_ (by kernel_rfl) (by kernel_rfl) ?_
                    · exact (Below.refl _ _).drew
                    refine wpAnyG_take 0 115 (tm' := ?_) (v := ?_) rfl rfl (by kernel_rfl) (by kernel_rfl) (by kernel_rfl) (listed' := #[true, false, false, false, false, false, false, false, false, false]) (by kernel_rfl) (fun _ _ _ h => h) (wanted_none rfl) ?_ ?_ ?_
                    rotate_left 2
                    · intro w hSw
                      (try dsimp only at hSw)
                      go_simp
                      try with_reducible rfl
                    · simp only [List.setIfInBounds_toArray, List.set_cons_zero, List.set_cons_succ]; with_reducible rfl
                    refine wpAnyG_take 1 116 (tm' := ?_) (v := ?_) rfl rfl (by kernel_rfl) (by kernel_rfl) (by kernel_rfl) (listed' := #[true, true, false, false, false, false, false, false, false, false]) (by kernel_rfl) (fun _ _ _ h => h) (wanted_none rfl) ?_ ?_ ?_
                    rotate_left 2
                    · intro w hSw
                      (try dsimp only at hSw)
                      go_simp
                      try with_reducible rfl
                    · simp only [List.setIfInBounds_toArray, List.set_cons_zero, List.set_cons_succ]; with_reducible rfl
                    refine wpAnyG_take 2 117 (tm' := ?_) (v := ?_) rfl rfl (by kernel_rfl) (by kernel_rfl) (by kernel_rfl) (listed' := #[true, true, true, false, false, false, false, false, false, false]) (by kernel_rfl) (fun _ _ _ h => h) (wanted_none rfl) ?_ ?_ ?_
                    rotate_left 2
                    · intro w hSw
                      (try dsimp only at hSw)
                      go_simp
                      try with_reducible rfl
                    · simp only [List.setIfInBounds_toArray, List.set_cons_zero, List.set_cons_succ]; with_reducible rfl
                    refine wpAnyG_take 3 118 (tm' := ?_) (v := ?_) rfl rfl (by kernel_rfl) (by kernel_rfl) (by kernel_rfl) (listed' := #[true, true, true, true, false, false, false, false, false, false]) (by kernel_rfl) (fun _ _ _ h => h) (wanted_none rfl) ?_ ?_ ?_
                    rotate_left 2
                    · intro w hSw
                      (try dsimp only at hSw)
                      have j0S := cell_below hSw (Nat.le_refl _) j0
                      have j1S := cell_below hSw (Nat.le_refl _) j1
                      go_simp
                      try with_reducible rfl
                    · simp only [List.setIfInBounds_toArray, List.set_cons_zero, List.set_cons_succ]; with_reducible rfl
                    refine wpAnyG_take 4 119 (tm' := ?_) (v := ?_) rfl rfl (by kernel_rfl) (by kernel_rfl) (by kernel_rfl) (listed' := #[true, true, true, true, true, false, false, false, false, false]) (by kernel_rfl) (fun _ _ _ h => h) (wanted_none rfl) ?_ ?_ ?_
                    rotate_left 2
                    · intro w hSw
                      (try dsimp only at hSw)
                      go_simp
                      try with_reducible rfl
                    · simp only [List.setIfInBounds_toArray, List.set_cons_zero, List.set_cons_succ]; with_reducible rfl
                    refine wpAnyG_take 5 120 (tm' := ?_) (v := ?_) rfl rfl (by kernel_rfl) (by kernel_rfl) (by kernel_rfl) (listed' := #[true, true, true, true, true, true, false, false, false, false]) (by kernel_rfl) (fun _ _ _ h => h) (wanted_none rfl) ?_ ?_ ?_
                    rotate_left 2
                    · intro w hSw
                      (try dsimp only at hSw)
                      go_simp
                      try with_reducible rfl
                    · simp only [List.setIfInBounds_toArray, List.set_cons_zero, List.set_cons_succ]; with_reducible rfl
                    refine wpAnyG_take 6 121 (tm' := ?_) (v := ?_) rfl rfl (by kernel_rfl) (by kernel_rfl) (by kernel_rfl) (listed' := #[true, true, true, true, true, true, true, false, false, false]) (by kernel_rfl) (fun _ _ _ h => h) (wanted_none rfl) ?_ ?_ ?_
                    rotate_left 2
                    · intro w hSw
                      (try dsimp only at hSw)
                      go_simp
                      try with_reducible rfl
                    · simp only [List.setIfInBounds_toArray, List.set_cons_zero, List.set_cons_succ]; with_reducible rfl
                    refine wpAnyG_take 7 122 (tm' := ?_) (v := ?_) rfl rfl (by kernel_rfl) (by kernel_rfl) (by kernel_rfl) (listed' := #[true, true, true, true, true, true, true, true, false, false]) (by kernel_rfl) (fun _ _ _ h => h) (wanted_none rfl) ?_ ?_ ?_
                    rotate_left 2
                    · intro w hSw
                      (try dsimp only at hSw)
                      have j0S := cell_below hSw (Nat.le_refl _) j0
                      have j1S := cell_below hSw (Nat.le_refl _) j1
                      go_simp
                      try with_reducible rfl
                    · simp only [List.setIfInBounds_toArray, List.set_cons_zero, List.set_cons_succ]; with_reducible rfl
                    refine wpAnyG_call 8 123 (tm' := ?_) (v := .string ⟨d.toArray⟩) (f := ?_) (args := ?_) rfl rfl (by kernel_rfl) (by kernel_rfl) (by kernel_rfl) (listed' := #[true, true, true, true, true, true, true, true, true, false]) (by kernel_rfl) (fun _ _ _ h => h) (wanted_none rfl) ?_ ?_ ?_ ?_
                    rotate_left 3
                    · intro w
                      go_simp
                      first | with_reducible rfl | (constructor <;> with_reducible rfl)
                    · intro wS hSw
                      exact (HD.out wS).mono fun e w' ⟨he, hb⟩ => ⟨he, below_nx5 hSw hb⟩
                    · simp only [List.setIfInBounds_toArray, List.set_cons_zero, List.set_cons_succ]; with_reducible rfl
                    refine wpAnyG_take 9 124 (tm' := ?_) (v := .bool false) rfl rfl (by kernel_rfl) (by kernel_rfl) (by kernel_rfl) (listed' := #[true, true, true, true, true, true, true, true, true, true]) (by kernel_rfl) (fun _ _ _ h => h) (wanted_none rfl) ?_ ?_ ?_
                    rotate_left
                    · intro w hSw
                      (try dsimp only at hSw)
                      go_simp
                      try with_reducible rfl
                    · simp only [List.setIfInBounds_toArray, List.set_cons_zero, List.set_cons_succ]; with_reducible rfl
                    refine wpAnyF_done (by kernel_rfl) ?_
                    intro wf hSf
                    go_wp2
                    go_roundw
                    case rel => exact ⟨j + 1, by omega, by go_num, below_nx5 hbq hSf⟩
                    case measure => simp [intOf]; omega
                  · obtain rfl : j = M0.length := by omega
                    have kq := below_nx5 kb3 hbq
                    go_wp2_with fail
                    refine (lives_any m _ (cell_below kq (Nat.le_refl _) HM.out)).mono ?_
                    rintro e w7 ⟨rfl, hb7⟩
                    go_wp2
                    go_ret
                    exact ⟨rfl, below_nx5 kq hb7⟩
end Go.Proofs.YtddhcmibimabnaaDoor
