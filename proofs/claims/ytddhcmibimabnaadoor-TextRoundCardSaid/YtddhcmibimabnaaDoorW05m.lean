/- The walks of Numbers and Words. -/
import Derived.Test.YtddhcmibimabnaaDoorW05l
namespace Go.Proofs.YtddhcmibimabnaaDoor
open Go.RowKit P05

theorem numbers_any (l : List (List UInt8)) (v : Value) (w : World) (hl : l.length ≤ 1000) (hs : ∀ x ∈ l, x.length ≤ 1000000) (hr : RStrs w v l) :
    Calls Tryd.prog 17 #[v] w fun e w' => ∃ u, e = .returned (.tuple #[u, .bool (l.all isNum)]) ∧ RInts w' .i64 u (numsP l) ∧ Below w.heap.size w w' := by
  have HC := Lib.hid (eachN_any l v w hl hs hr)
  clear hl hs hr
  go_enter Tryd.func17, Tryd.ntmps17
  go_wp2_with fail
  refine HC.out.mono ?_
  rintro e w2 ⟨u, rfl, hr2, hb2⟩
  go_wp2
  go_ret2
  exact ⟨u, rfl, hr2, hb2⟩
theorem words1_any (n : Int) (w : World) (h0 : -9223372036854775808 ≤ n) (h1 : n ≤ 9223372036854775807) :
    Calls Tryd.prog 27 #[.int .i64 n] w fun e w' => e = .returned (.tuple #[bstr (decI n), .bool true]) ∧ Below w.heap.size w w' := by
  have HC := Lib.hid (decimal_any n w h0 h1)
  clear h0 h1
  generalize decI n = d at HC
  go_enter Tryd.func27, Tryd.ntmps27
  go_wp2_with fail
  refine HC.out.mono ?_
  rintro e w2 ⟨rfl, hb2⟩
  unfold bstr
  go_wp2
  go_ret2
  exact ⟨rfl, hb2⟩
theorem own_words {w : World} {lb : Nat} {e : TypeId} {v : Value} {l : List Int} (h : w.ownsRow lb e 1 v l.length ((l.take l.length).map fun x => bstr (decI x))) : RStrs w v (l.map decI) := by
  have := RS.of_own h
  rw [List.take_length] at this
  unfold RStrs
  rw [List.length_map, List.map_map]
  exact this
set_option maxHeartbeats 1000000 in
theorem eachW_any (l : List Int) (v : Value) (w : World) (hl : l.length ≤ 1000) (hs : ∀ x ∈ l, -9223372036854775808 ≤ x ∧ x ≤ 9223372036854775807) (hr : RInts w .i64 v l) :
    Calls Tryd.prog 26 #[v, .func (.func 27) #[] #[]] w fun e w' => ∃ u, e = .returned (.tuple #[u, .bool true]) ∧ RStrs w' u (l.map decI) ∧ Below w.heap.size w w' := by
  obtain ⟨A, c, rfl, h1, h2, hlc⟩ := hr.open_
  obtain ⟨ii, hii, hz0, hz1, hz2⟩ := info_parts strinfo
  have HL := Lib.hid hlc
  have HS := Lib.hid hs
  have hb2 : ii.bytes * l.length ≤ 281474976710656 := by rw [hz2]; omega
  have hb3 : l.length ≤ maxLen := by simp only [maxLen]; omega
  clear hlc hr hs
  go_enter Tryd.func26, Tryd.ntmps26
  go_wp2_with (at_make; refine wpList_make_own _ rfl _ _ 35 rfl w.heap.size 9 ii _ 1 Tryd.underlying35 hii hz0 hz1 _ _ _ l.length rfl rfl rfl hb2 hb3 (Nat.le_refl _) ?_; intro w1 hown1 hgrow1)
  clear hb2 hb3 hz0 hz1 hz2 hii
  have hbel1 : Below w.heap.size w w1 := (Below.refl _ _).grown hgrow1 (Nat.le_refl _) (fun k hk => by cases hk)
  have HO1 := Lib.hid hown1
  clear hown1 hgrow1
  go_loopw [6, 16] (fun sv iv wr => ∃ k : Nat, k ≤ l.length ∧ iv = .int .i64 k ∧ Hid (wr.ownsRow w.heap.size 9 1 sv k ((l.take k).map fun x => bstr (decI x))) ∧ Below w.heap.size w wr) (fun _ iv _ => l.length - (intOf iv).toNat)
  case atStart => exact ⟨0, Nat.zero_le _, rfl, HO1, hbel1⟩
  case round =>
    clear HO1 hbel1
    obtain ⟨k, hk, rfl, HO, hbel⟩ := hrel
    by_cases hlt : k < l.length
    · obtain ⟨x, hx⟩ := some_of_lt hlt
      obtain ⟨b, o, rfl, hb, hc0⟩ := HL.out k x hx
      have hc : wr.cell? ⟨b, o + k, none⟩ = some (.int .i64 x) := cell_below hbel (Nat.le_refl _) hc0
      have HX := Lib.hid hx
      have HXL := Lib.hid (HS.out x (List.mem_of_getElem? hx))
      have HM := Lib.hid (map_take_snoc (fun x => bstr (decI x)) HX.out)
      have hkn : k ≤ 1000000000 := by omega
      have HC := fun W => Lib.hid (words1_any x W HXL.out.1 HXL.out.2)
      clear hc0 hx
      generalize decI x = d at HM HC
      go_wp2_with fail
      refine (HC _).out.mono ?_
      rintro e w4 ⟨rfl, hb4⟩
      unfold bstr
      have how := own_below HO.out hb4 (Nat.le_refl _)
      have hbel4 := below_nx5 hbel hb4
      have hbase := hbel4.size
      go_wp2_with (at_builtin; refine wpList_append_one _ rfl (.tmp 28) (.tmp 30) 35 rfl w.heap.size 9 _ 1 16 Tryd.underlying35 strinfo rfl (by decide) (by decide) _ _ _ how rfl [.string ⟨d.toArray⟩] _ rfl rfl rfl hkn hbase ?_; intro v5 w5 ho5 hb5 hz5)
      go_roundw
      case rel => exact ⟨k + 1, by omega, by go_num, by rw [HM.out]; exact ho5, hbel4.trans hb5⟩
      case measure => simp [intOf]; omega
    · obtain rfl : k = l.length := by omega
      have HR := Lib.hid (own_words HO.out)
      go_wp2
      go_ret2
      exact ⟨_, rfl, HR.out, hbel⟩
theorem words_any (l : List Int) (v : Value) (w : World) (hl : l.length ≤ 1000) (hs : ∀ x ∈ l, -9223372036854775808 ≤ x ∧ x ≤ 9223372036854775807) (hr : RInts w .i64 v l) :
    Calls Tryd.prog 18 #[v] w fun e w' => ∃ u, e = .returned u ∧ RStrs w' u (l.map decI) ∧ Below w.heap.size w w' := by
  have HC := Lib.hid (eachW_any l v w hl hs hr)
  clear hl hs hr
  go_enter Tryd.func18, Tryd.ntmps18
  go_wp2_with fail
  refine HC.out.mono ?_
  rintro e w2 ⟨u, rfl, hr2, hb2⟩
  go_wp2
  go_ret
  exact ⟨u, rfl, hr2, hb2⟩
end Go.Proofs.YtddhcmibimabnaaDoor
