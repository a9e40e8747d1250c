/- The walk of the reference's text of a set. -/
import Derived.Test.YtigljnnjamdcnaaDoorQO
import Derived.Outline
namespace Go.Proofs.YtigljnnjamdcnaaDoor
open Go.RowKit P05 P06 P07

theorem u8info1 : (Tryd.prog.info? 5).map (fun i => (i.zero, i.size, i.bytes)) = some (some (.int .u8 0), 1, 1) := by kernel_rfl
theorem run_ustr_own {w : World} {lb : Nat} {v : Value} {n : Nat} {L : List UInt8} (ho : w.ownsRow lb 5 1 v n (L.map ucell)) (h0 : 0 < L.length) :
    (convert 47 9 v).run Tryd.prog w = .ok (.string ⟨L.toArray⟩) w := by
  have hl := ho.1
  rw [List.length_map, Nat.mul_one] at hl
  subst hl
  obtain ⟨A, c, rfl, -, -, -, g4⟩ := RS.of_own ho
  obtain ⟨b, o, rfl, -, hc⟩ := g4 h0
  refine run_convert_bytes_back w 47 9 5 ⟨b, o, none⟩ c L Tryd.underlying47 Tryd.underlying5 Tryd.underlying9 (fun j hj => ?_)
  have hadd : (⟨b, o, none⟩ : Addr).add j = ⟨b, o + j, none⟩ := by unfold Addr.add; split <;> simp_all
  rw [hadd, hc j (ucell L[j]) (by rw [List.getElem?_map, List.getElem?_eq_getElem hj]; rfl)]
  rfl
set_option maxHeartbeats 1000000 in
set_option maxRecDepth 100000 in
theorem rtext_any (s n : Nat) (w : World) (hs : s < 18446744073709551616) (h0 : 1 ≤ n) (h1 : n ≤ 64) :
    Calls Tryd.prog 34 #[.int .u64 (s : Int), .int .i64 (n : Int)] w fun e w' => ∃ t : ByteArray, e = .returned (.string t) ∧ Hid (t = ⟨(setText s n).toArray⟩) ∧ Below w.heap.size w w' := by
  have d0 : decide ((n : Int) < 1) = false := decide_eq_false (by omega)
  have d1 : decide ((n : Int) > 64) = false := decide_eq_false (by omega)
  have hlen := setText_len s n
  go_enter Tryd.func34, Tryd.ntmps34
  go_wp2_with fail
  refine (bits_any s hs _).mono ?_
  rintro e w1 ⟨rfl, hblk, hbel⟩
  clear d0 d1
  have hz1 := hblk.lt
  go_wp2_with fail
  go_loopw [5, 7] (fun lv iv wr => ∃ i : Nat, i ≤ n ∧ iv = .int .i64 i ∧ Below w1.heap.size w1 wr ∧ Hid (wr.ownsRow w1.heap.size 5 1 lv i (((setText s n).take i).map ucell))) (fun _ iv _ => n - (intOf iv).toNat)
  case atStart => exact ⟨0, Nat.zero_le _, rfl, Below.refl _ _, Lib.hid (World.ownsRow_nil _ _ _ _)⟩
  case round =>
    obtain ⟨i, hi, rfl, hb, HO⟩ := hrel
    by_cases hlt : i < n
    · have hg := setText_get (s := s) hlt
      have y0 := ((hblk.below hb hz1).cell i).trans (by rw [List.getElem?_map, P02.bits_get s i (by omega)])
      have HTK := Lib.hid (take_snoc7 hg)
      have how := HO.out
      have hin : i ≤ 1000000000 := by omega
      have hbase := hb.size
      obtain ⟨Al, cl, rfl, -⟩ := RS.of_own HO.out
      by_cases hbit : s / 2 ^ i % 2 = 1
      · rw [hbit] at y0
        rw [if_pos hbit] at HTK
        have y1 : wr.cell? ⟨w.heap.size, i, none⟩ = some (.int .i64 1) := y0
        clear hbit hg y0
        go_wp2_with (at_builtin; refine wpList_append_one _ rfl (.tmp 21) (.tmp 28) 47 rfl w1.heap.size 5 _ 1 1 Tryd.underlying47 u8info1 rfl (by decide) (by decide) _ _ _ how rfl [.int .u8 49] _ rfl rfl rfl hin hbase ?_; intro v5 w5 ho5 hb5 hz5)
        go_roundw
        case rel => exact ⟨i + 1, by omega, by go_num, hb.trans hb5, Lib.hid (by rw [HTK.out, List.map_append]; exact ho5)⟩
        case measure => simp [intOf]; omega
      · have hb0 : s / 2 ^ i % 2 = 0 := by omega
        rw [hb0] at y0
        rw [if_neg hbit] at HTK
        have y1 : wr.cell? ⟨w.heap.size, i, none⟩ = some (.int .i64 0) := y0
        clear hbit hg y0 hb0
        go_wp2_with (at_builtin; refine wpList_append_one _ rfl (.tmp 21) (.tmp 28) 47 rfl w1.heap.size 5 _ 1 1 Tryd.underlying47 u8info1 rfl (by decide) (by decide) _ _ _ how rfl [.int .u8 48] _ rfl rfl rfl hin hbase ?_; intro v5 w5 ho5 hb5 hz5)
        go_roundw
        case rel => exact ⟨i + 1, by omega, by go_num, hb.trans hb5, Lib.hid (by rw [HTK.out, List.map_append]; exact ho5)⟩
        case measure => simp [intOf]; omega
    · obtain rfl : i = n := by omega
      have ho := HO.out
      rw [List.take_of_length_le (by omega)] at ho
      have hcv := run_ustr_own ho (by omega)
      obtain ⟨Al, cl, rfl, -⟩ := RS.of_own ho
      clear ho
      go_wp2_with fail
      go_ret
      exact ⟨_, rfl, Lib.hid rfl, hbel.trans (hb.mono hbel.size)⟩
end Go.Proofs.YtigljnnjamdcnaaDoor
