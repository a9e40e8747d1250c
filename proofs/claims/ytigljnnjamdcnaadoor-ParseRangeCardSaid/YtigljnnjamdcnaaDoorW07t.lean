/- The walk of the reference's words. -/
import Derived.Test.YtigljnnjamdcnaaDoorW07s
import Derived.Test.YtigljnnjamdcnaaDoorQU
import Derived.Test.YtigljnnjamdcnaaDoorQC
import Derived.Test.YtigljnnjamdcnaaDoorQF
import Derived.Outline
namespace Go.Proofs.YtigljnnjamdcnaaDoor
open Go.RowKit P05 P06 P07

theorem rdec_any (n : Int) (w : World) (h0 : -9223372036854775808 ≤ n) (h1 : n ≤ 9223372036854775807) :
    Calls Tryd.prog 33 #[.int .i64 n] w fun e w' => ∃ s : ByteArray, e = .returned (.string s) ∧ Hid (s = ⟨(decI n).toArray⟩) ∧ Below w.heap.size w w' :=
  (rdecimal_any n w h0 h1).mono fun _ _ ⟨he, hb⟩ => ⟨_, he, rfl, hb⟩
set_option maxHeartbeats 1000000 in
set_option maxRecDepth 100000 in
theorem rwords_any (l : List Int) (v : Value) (w : World) (hl : l.length ≤ 1000) (hs : ∀ z ∈ l, -9223372036854775808 ≤ z ∧ z ≤ 9223372036854775807) (hr : RInts w .i64 v l) :
    Calls Tryd.prog 32 #[v] w fun e w' => ∃ u, e = .returned u ∧ RStrs w' u (l.map decI) ∧ Below w.heap.size w w' := by
  obtain ⟨A, c, rfl, h1, h2, hc⟩ := hr.open_
  have HCC := Lib.hid hc
  have HS := Lib.hid hs
  clear hr hc hs
  go_enter Tryd.func32, Tryd.ntmps32
  go_wp2_with fail
  go_loopw [3, 4] (fun lv iv wr => ∃ i : Nat, i ≤ l.length ∧ iv = .int .i64 i ∧ Below w.heap.size w wr ∧ Hid (wr.ownsRow w.heap.size 9 1 lv i ((l.take i).map fun z => bstr (decI z)))) (fun _ iv _ => l.length - (intOf iv).toNat)
  case atStart => exact ⟨0, Nat.zero_le _, rfl, Below.refl _ _, Lib.hid (World.ownsRow_nil _ _ _ _)⟩
  case round =>
    obtain ⟨i, hi, rfl, hb, HO⟩ := hrel
    by_cases hlt : i < l.length
    · obtain ⟨z, hz⟩ := some_of_lt hlt
      obtain ⟨b, o, rfl, hbb, y⟩ := HCC.out i z hz
      have y0 := cell_below hb (Nat.le_refl _) y
      have hzr := HS.out z (List.mem_of_getElem? hz)
      have HTK := Lib.hid (take_snoc7 hz)
      obtain ⟨Al, cl, rfl, -⟩ := RS.of_own HO.out
      clear hz y
      go_wp2_with fail
      refine (rdec_any z _ hzr.1 hzr.2).mono ?_
      rintro e w3 ⟨t3, rfl, HT3, hb3⟩
      have how := own_below HO.out hb3 (Nat.le_refl _)
      have hin : i ≤ 1000000000 := by omega
      have hbase : w.heap.size ≤ w3.heap.size := Nat.le_trans hb.size hb3.size
      go_wp2_with (at_builtin; refine wpList_append_one _ rfl (.tmp 11) (.tmp 17) 56 rfl w.heap.size 9 _ 1 16 Tryd.underlying56 strinfo rfl (by decide) (by decide) _ _ _ how rfl [.string t3] _ rfl rfl rfl hin hbase ?_; intro v5 w5 ho5 hb5 hz5)
      go_roundw
      case rel =>
        refine ⟨i + 1, by omega, by go_num, (hb.trans (hb3.mono hb.size)).trans hb5, Lib.hid ?_⟩
        rw [HTK.out, List.map_append]
        rw [HT3.out] at ho5
        exact ho5
      case measure => simp [intOf]; omega
    · obtain rfl : i = l.length := by omega
      have ho := HO.out
      rw [List.take_length] at ho
      have ho2 : wr.ownsRow w.heap.size 9 1 u3 l.length ((l.map decI).map bstr) := by rw [List.map_map]; exact ho
      have HR := Lib.hid (RStrs.of_own ho2)
      clear ho ho2
      go_wp2_with fail
      go_ret
      exact ⟨_, rfl, HR.out, hb⟩
end Go.Proofs.YtigljnnjamdcnaaDoor
