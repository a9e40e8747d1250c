/- The walks of the reference's sets of days. -/
import Derived.Test.YtifdggdpglphmaaRows
import Derived.Test.YtifdggdpglphmaaMem
import Derived.Test.YtifdggdpglphmaaP02
import Derived.WalkLawsBesides
import Derived.BigQuiet
import Derived.Deep.QuietTactic
namespace Go.Proofs.Ytifdggdpglphmaa
open Go.RowKit

theorem iinfo : (Try.prog.info? 3).map (fun i => (i.zero, i.size, i.bytes)) = some (some (.int .i64 0), 1, 8) := by kernel_rfl

set_option maxHeartbeats 400000 in
theorem bits_any (s : Nat) (hs : s < 18446744073709551616) (w : World) :
    Calls Try.prog 50 #[.int .u64 s] w fun e w' => e = .returned (.slice (some ⟨w.heap.size, 0, none⟩) 64 64) ∧
      Blk w' w.heap.size 3 ((P02.bits s).map (.int .i64)) ∧ Below w.heap.size w w' := by
  have hmk := fun W => run_make_ints (P := Try.prog) Try.underlying33 iinfo 64 64 rfl (by omega) W
  go_enter Try.func50, Try.ntmps50
  go_wp2
  go_loopw [0, 4] (fun sv dv wr => ∃ k : Nat, k ≤ 64 ∧ sv = .int .u64 ((s / 2 ^ k : Nat) : Int) ∧ dv = .int .i64 k ∧ Blk wr w.heap.size 3 (((P02.bits s).take k).map (.int .i64) ++ zeros (64 - k)) ∧ Below w.heap.size w wr) (fun _ dv _ => 64 - (intOf dv).toNat)
  case atStart => exact ⟨0, by omega, by simp, rfl, by simpa using Blk.new w _ (zeros 64), (Below.refl _ _).alloc (Nat.le_refl _) _⟩
  case round =>
    clear hmk
    obtain ⟨k, hk, rfl, rfl, hblk, hbel⟩ := hrel
    by_cases hlt : k < 64
    · have hg := fill_get (P02.bits_len s) hlt
      have hst := hblk.set_ k (.int .i64 ((s / 2 ^ k % 2 : Nat) : Int))
      rw [fill_set (P02.bits_len s) (P02.bits_get s k hlt)] at hst
      have HST := Lib.hid hst
      have hbs : Below w.heap.size w (wr.setCell ⟨w.heap.size, k, none⟩ (.int .i64 ((s / 2 ^ k % 2 : Nat) : Int))) := hbel.setCell (p := ⟨w.heap.size, k, none⟩) (Nat.le_refl _) _
      have hc : wr.cell? ⟨w.heap.size, k, none⟩ = some (.int .i64 0) := (hblk.cell k).trans hg
      have hf := hblk.frozen k
      have hq : s / 2 ^ k < 18446744073709551616 := Nat.lt_of_le_of_lt (Nat.div_le_self _ _) hs
      clear hg hst
      have hqq : s / 2 ^ (k + 1) = s / 2 ^ k / 2 := by rw [Nat.pow_succ, Nat.div_div_eq_div_mul]
      generalize s / 2 ^ k = q at hq HST hbs hqq
      have HQ := Lib.hid hqq
      clear hqq
      go_wp2
      go_roundw
      case rel => exact ⟨k + 1, by omega, by rw [HQ.out]; rfl, by go_num, HST.out, hbs⟩
      case measure => simp [intOf]; omega
    · obtain rfl : k = 64 := by omega
      go_wp2
      go_ret
      refine ⟨rfl, ?_, hbel⟩
      have := hblk
      rwa [List.take_of_length_le (by rw [P02.bits_len]; omega), show zeros (64 - 64) = [] from rfl, List.append_nil] at this

set_option maxHeartbeats 400000 in
theorem number_any (v : Value) (l : List Int) (w : World) (h : RInts w .i64 v l) (hl : l.length = 64) (h01 : ∀ z ∈ l, 0 ≤ z ∧ z ≤ 1) :
    Calls Try.prog 51 #[v] w fun e w' => e = .returned (.int .u64 (P02.num l)) ∧ w' = w := by
  obtain ⟨A, c, rfl, hc1, hc2, hcell⟩ := h.open_
  rw [hl] at hc1 ⊢
  go_enter Try.func51, Try.ntmps51
  go_wp2
  go_loop [3, 4] (fun n d => ∃ k : Nat, k ≤ 64 ∧ n = .int .u64 (P02.num (l.drop k) : Nat) ∧ d = .int .i64 ((k : Int) - 1)) (fun _ d => (intOf d + 1).toNat)
  case atStart => exact ⟨64, by omega, by rw [List.drop_eq_nil_of_le (by omega)]; rfl, rfl⟩
  case round =>
    obtain ⟨k, hk, rfl, rfl⟩ := hrel
    by_cases h0 : 0 < k
    · obtain ⟨j, rfl⟩ : ∃ j, k = j + 1 := ⟨k - 1, by omega⟩
      obtain ⟨z, hz⟩ := some_of_lt (l := l) (i := j) (by omega)
      obtain ⟨b, o, rfl, hb, hk1⟩ := hcell j z hz
      have hzz := h01 z (List.mem_of_getElem? hz)
      have hz0 := hzz.1
      have hz1 := hzz.2
      have hnn := P02.num_lt (l.drop (j + 1)) (fun y hy => h01 y (List.mem_of_mem_drop hy))
      have hn2 : P02.num (l.drop j) = 2 * P02.num (l.drop (j + 1)) + z.toNat := by rw [drop_some hz]; rfl
      have hpw : 2 ^ (l.drop (j + 1)).length ≤ 2 ^ 63 := Nat.pow_le_pow_right (by omega) (by rw [List.length_drop]; omega)
      have hnb : P02.num (l.drop (j + 1)) < 9223372036854775808 := Nat.lt_of_lt_of_le hnn (by simpa using hpw)
      clear hnn hpw hzz hcell h01 hz
      generalize P02.num (l.drop (j + 1)) = q at hn2 hnb
      have HN := Lib.hid hn2
      have HL := Lib.hid hl
      clear hn2 hl
      go_wp2
      go_round
      case rel => exact ⟨j, by omega, by rw [HN.out]; go_num, by go_num⟩
      case measure => simp [intOf]
    · obtain rfl : k = 0 := by omega
      go_wp2
      go_ret
      exact ⟨rfl, rfl⟩

set_option maxHeartbeats 400000 in
theorem has_any (s : Nat) (hs : s < 18446744073709551616) (d : Int) (w : World) :
    Calls Try.prog 37 #[.int .u64 s, .int .i64 d] w fun e w' => e = .returned (.bool (P02.has s d)) ∧ Below w.heap.size w w' := by
  by_cases h0 : d < 0
  · have hr : P02.has s d = false := by simp [P02.has]; omega
    rw [hr]
    clear hr
    go_enter Try.func37, Try.ntmps37
    go_wp2
    go_ret
    exact ⟨rfl, Below.refl _ _⟩
  · by_cases h1 : 63 < d
    · have hr : P02.has s d = false := by simp [P02.has]; omega
      rw [hr]
      clear hr
      go_enter Try.func37, Try.ntmps37
      go_wp2
      go_ret
      exact ⟨rfl, Below.refl _ _⟩
    · obtain ⟨k, rfl⟩ := Int.eq_ofNat_of_zero_le (show 0 ≤ d by omega)
      have hk : k < 64 := by omega
      have hr : P02.has s k = decide (s / 2 ^ k % 2 = 1) := by simp [P02.has]; omega
      rw [hr]
      clear hr h0 h1
      have hg := P02.bits_get s k hk
      generalize s / 2 ^ k % 2 = q at hg
      have HG := Lib.hid hg
      clear hg
      go_enter Try.func37, Try.ntmps37
      go_wp2_with (go_at_call 50; refine (bits_any s hs _).mono ?_; rintro e w1 ⟨rfl, hblk, hbel⟩; have hc := (hblk.cell k).trans (show _ = some (Value.int .i64 (q : Int)) by rw [List.getElem?_map, HG.out]; rfl))
      go_ret
      refine ⟨ret_bool ?_, hbel⟩
      rw [Bool.eq_iff_iff]
      simp
      omega

set_option maxHeartbeats 400000 in
theorem put_any (s : Nat) (hs : s < 18446744073709551616) (d : Int) (w : World) :
    Calls Try.prog 38 #[.int .u64 s, .int .i64 d, .int .i64 1] w fun e w' => e = .returned (.int .u64 (P02.put s d : Nat)) ∧ Below w.heap.size w w' := by
  by_cases h0 : d < 0
  · have hr : P02.put s d = s := by simp [P02.put]; omega
    rw [hr]
    clear hr
    go_enter Try.func38, Try.ntmps38
    go_wp2
    go_ret
    exact ⟨rfl, Below.refl _ _⟩
  · by_cases h1 : 63 < d
    · have hr : P02.put s d = s := by simp [P02.put]; omega
      rw [hr]
      clear hr
      go_enter Try.func38, Try.ntmps38
      go_wp2
      go_ret
      exact ⟨rfl, Below.refl _ _⟩
    · obtain ⟨k, rfl⟩ := Int.eq_ofNat_of_zero_le (show 0 ≤ d by omega)
      have hk : k < 64 := by omega
      have hr : P02.put s k = P02.num ((P02.bits s).set k 1) := by rw [P02.put, if_pos (by omega)]; rfl
      rw [hr]
      clear hr h0 h1
      have hg := P02.bits_get s k hk
      have h01 : ∀ z ∈ (P02.bits s).set k 1, 0 ≤ z ∧ z ≤ 1 := fun z hz => by
        rcases List.mem_or_eq_of_mem_set hz with h | h
        · exact P02.bits_01 s z h
        · omega
      have HG := Lib.hid hg
      have H01 := Lib.hid h01
      clear hg h01
      go_enter Try.func38, Try.ntmps38
      go_wp2_with (go_at_call 50; refine (bits_any s hs _).mono ?_; rintro e w1 ⟨rfl, hblk, hbel⟩; have hc := (hblk.cell k).trans (show _ = some (Value.int .i64 _) by rw [List.getElem?_map, HG.out]; rfl); have hf := hblk.frozen k)
      have hst := hblk.set_ k (.int .i64 1)
      rw [show (.int .i64 1 : Value) = Value.int .i64 1 from rfl, ← List.map_set] at hst
      refine (number_any _ _ _ (hst.RInts (by rw [List.length_set, P02.bits_len]) (Nat.le_refl _) (by simp [maxLen])) (by rw [List.length_set, P02.bits_len]) H01.out).mono ?_
      rintro e w2 ⟨rfl, rfl⟩
      clear hst hblk
      go_wp2
      go_ret
      exact ⟨rfl, hbel.setCell (p := ⟨w.heap.size, k, none⟩) (Nat.le_refl _) _⟩

set_option maxHeartbeats 400000 in
theorem all_any (s : Nat) (hs : s < 18446744073709551616) (w : World) :
    Calls Try.prog 49 #[.int .u64 s] w fun e w' => ∃ v, e = .returned v ∧ RInts w' .i64 v (P02.days s 0) ∧ Below w.heap.size w w' := by
  go_enter Try.func49, Try.ntmps49
  go_wp2_with (go_at_call 50; refine (bits_any s hs _).mono ?_; rintro e w1 ⟨rfl, hblk, hbel⟩)
  go_loopw [3, 5] (fun v d wr => ∃ k : Nat, k ≤ 64 ∧ d = .int .i64 k ∧
      wr.ownsRow (w.heap.size + 1) 3 1 v (((List.range k).map Int.ofNat).filter (P02.has s)).length ((((List.range k).map Int.ofNat).filter (P02.has s)).map (Value.int .i64)) ∧
      Blk wr w.heap.size 3 ((P02.bits s).map (.int .i64)) ∧ Below w.heap.size w wr) (fun _ d _ => 64 - (intOf d).toNat)
  case atStart => exact ⟨0, by omega, rfl, World.ownsRow_nil _ _ _ _, hblk, hbel⟩
  case round =>
    clear hblk hbel
    obtain ⟨k, hk, rfl, hown, hblk, hbel⟩ := hrel
    by_cases hlt : k < 64
    · have hg := P02.bits_get s k hlt
      have hc := (hblk.cell k).trans (show _ = some (Value.int .i64 _) by rw [List.getElem?_map, hg]; rfl)
      have hhas : P02.has s k = decide (s / 2 ^ k % 2 = 1) := by simp [P02.has]; omega
      have hL : (((List.range k).map Int.ofNat).filter (P02.has s)).length ≤ k := Nat.le_trans (List.length_filter_le _ _) (by simp)
      have hsucc : ((List.range (k + 1)).map Int.ofNat).filter (P02.has s) = ((List.range k).map Int.ofNat).filter (P02.has s) ++ (if s / 2 ^ k % 2 = 1 then [(k : Int)] else []) := by
        rw [List.range_succ, List.map_append, List.filter_append]
        congr 1
        simp only [List.map_cons, List.map_nil, List.filter_cons, List.filter_nil]
        rw [show Int.ofNat k = (k : Int) from rfl, hhas]
        simp
      have HS := Lib.hid hsucc
      clear hg hhas hsucc
      generalize (((List.range k).map Int.ofNat).filter (P02.has s)) = L at hL hown HS
      generalize s / 2 ^ k % 2 = q at hc HS
      by_cases hq : q = 1
      · subst hq
        have hL2 : L.length ≤ 1000000000 := by omega
        have hbase : w.heap.size + 1 ≤ wr.heap.size := hblk.lt
        go_wp2_with (at_builtin; refine wpList_append_one wr rfl _ _ 33 rfl (w.heap.size + 1) 3 _ 1 8 Try.underlying33 iinfo rfl (by decide) (by decide) _ _ _ hown rfl [.int .i64 k] _ rfl rfl rfl hL2 hbase ?_; intro v1 w1 hown1 hb1 hz1)
        go_roundw
        case rel => 
          refine ⟨k + 1, by omega, by go_num, ?_, ?_, ?_⟩
          · rw [HS.out]; simpa using hown1
          · exact hblk.below hb1 (by omega)
          · exact hbel.trans (hb1.mono (by omega))
        case measure => simp [intOf]; omega
      · go_wp2
        go_roundw
        case rel =>
          refine ⟨k + 1, by omega, by go_num, ?_, hblk, hbel⟩
          rw [HS.out, if_neg hq, List.append_nil]; exact hown
        case measure => simp [intOf]; omega
    · obtain rfl : k = 64 := by omega
      go_wp2
      go_ret
      refine ⟨_, rfl, ?_, hbel⟩
      have hd : P02.days s 0 = ((List.range 64).map Int.ofNat).filter (P02.has s) := by
        unfold P02.days
        apply List.filter_congr
        intro x hx
        obtain ⟨y, _, rfl⟩ := List.mem_map.1 hx
        simp
      rw [hd]
      exact RS.of_own hown

set_option maxHeartbeats 400000 in
theorem next_any (s : Nat) (hs : s < 18446744073709551616) (d : Int) (w : World) :
    Calls Try.prog 36 #[.int .u64 s, .int .i64 d] w fun e w' => e = .returned (.int .i64 (P02.next s d)) ∧ Below w.heap.size w w' := by
  go_enter Try.func36, Try.ntmps36
  go_wp2_with (go_at_call 49; refine (all_any s hs _).mono ?_; rintro e w1 ⟨v, rfl, hv, hbel⟩)
  have hL := P02.days_len s 0
  have hF := P02.first_days s d
  generalize P02.days s 0 = l at hL hv hF
  have HF := Lib.hid hF
  clear hF
  obtain ⟨A, c, rfl, hc1, hc2, hcell⟩ := hv.open_
  go_loop [6] (fun i => ∃ k : Nat, k ≤ l.length ∧ i = .int .i64 k ∧ Hid (P02.first d l = P02.first d (l.drop k))) (fun i => l.length - (intOf i).toNat)
  case atStart => exact ⟨0, Nat.zero_le _, rfl, rfl⟩
  case round =>
    obtain ⟨k, hk, rfl, H⟩ := hrel
    by_cases hlt : k < l.length
    · obtain ⟨z, hz⟩ := some_of_lt hlt
      obtain ⟨b, o, rfl, hb, hk1⟩ := hcell k z hz
      have hd := H.out
      rw [drop_some hz, P02.first_cons] at hd
      clear H
      by_cases hz0 : d ≤ z
      · rw [if_pos hz0] at hd
        have HD := Lib.hid hd
        clear hd hcell hz
        go_wp2
        go_ret
        exact ⟨ret_int (HD.out.symm.trans HF.out), hbel⟩
      · rw [if_neg hz0] at hd
        have HD := Lib.hid hd
        clear hd hcell hz
        go_wp2
        go_round
        case rel => exact ⟨k + 1, by omega, by go_num, HD⟩
        case measure => simp [intOf]; omega
    · have hd := H.out
      rw [List.drop_eq_nil_of_le (by omega)] at hd
      have HD := Lib.hid hd
      clear hd H hcell
      go_wp2
      go_ret
      exact ⟨ret_int (HD.out.symm.trans HF.out), hbel⟩

end Go.Proofs.Ytifdggdpglphmaa
