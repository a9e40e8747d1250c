/-
  The walks of the reference's sets of days.
  The walks of the program's sets of days.
  The walks of what a customer must be.
  The walks of what a customer must be, behind them.
-/
import Derived.Test.YtigljnnjamdcnaaDoorRows
import Derived.Test.YtigljnnjamdcnaaDoorQD
import Derived.Test.YtigljnnjamdcnaaDoorQB
import Derived.WalkLawsBesides
import Derived.BigQuiet
import Derived.Deep.QuietTactic
namespace Go.Proofs.YtigljnnjamdcnaaDoor
open Go.RowKit

theorem iinfo : (Tryd.prog.info? 3).map (fun i => (i.zero, i.size, i.bytes)) = some (some (.int .i64 0), 1, 8) := by kernel_rfl

set_option maxHeartbeats 400000 in
theorem bits_any (s : Nat) (hs : s < 18446744073709551616) (w : World) :
    Calls Tryd.prog 58 #[.int .u64 s] w fun e w' => e = .returned (.slice (some ⟨w.heap.size, 0, none⟩) 64 64) ∧
      Blk w' w.heap.size 3 ((P02.bits s).map (.int .i64)) ∧ Below w.heap.size w w' := by
  have hmk := fun W => run_make_ints (P := Tryd.prog) Tryd.underlying43 iinfo 64 64 rfl (by omega) W
  go_enter Tryd.func58, Tryd.ntmps58
  go_wp2
  go_loopw [0, 4] (fun sv dv wr => ∃ k : Nat, k ≤ 64 ∧ sv = .int .u64 ((s / 2 ^ k : Nat) : Int) ∧ dv = .int .i64 k ∧ Blk wr w.heap.size 3 (((P02.bits s).take k).map (.int .i64) ++ zeros (64 - k)) ∧ Below w.heap.size w wr) (fun _ dv _ => 64 - (intOf dv).toNat)
  case atStart => exact ⟨0, by omega, by simp, rfl, by simpa using Blk.new w _ (zeros 64), (Below.refl _ _).alloc (Nat.le_refl _) _⟩
  case round =>
    clear hmk
    obtain ⟨k, hk, rfl, rfl, hblk, hbel⟩ := hrel
    by_cases hlt : k < 64
    · have hg := fill_get (P02.bits_len s) hlt
      have hst := hblk.set_ k (.int .i64 ((s / 2 ^ k % 2 : Nat) : Int))
      rw [fill_set (P02.bits_len s) (P02.bits_get s k hlt)] at hst
      have HST := Lib.hid hst
      have hbs : Below w.heap.size w (wr.setCell ⟨w.heap.size, k, none⟩ (.int .i64 ((s / 2 ^ k % 2 : Nat) : Int))) := hbel.setCell (p := ⟨w.heap.size, k, none⟩) (Nat.le_refl _) _
      have hc : wr.cell? ⟨w.heap.size, k, none⟩ = some (.int .i64 0) := (hblk.cell k).trans hg
      have hf := hblk.frozen k
      have hq : s / 2 ^ k < 18446744073709551616 := Nat.lt_of_le_of_lt (Nat.div_le_self _ _) hs
      clear hg hst
      have hqq : s / 2 ^ (k + 1) = s / 2 ^ k / 2 := by rw [Nat.pow_succ, Nat.div_div_eq_div_mul]
      generalize s / 2 ^ k = q at hq HST hbs hqq
      have HQ := Lib.hid hqq
      clear hqq
      go_wp2
      go_roundw
      case rel => exact ⟨k + 1, by omega, by rw [HQ.out]; rfl, by go_num, HST.out, hbs⟩
      case measure => simp [intOf]; omega
    · obtain rfl : k = 64 := by omega
      go_wp2
      go_ret
      refine ⟨rfl, ?_, hbel⟩
      have := hblk
      rwa [List.take_of_length_le (by rw [P02.bits_len]; omega), show zeros (64 - 64) = [] from rfl, List.append_nil] at this

set_option maxHeartbeats 400000 in
theorem bnumber_any (v : Value) (l : List Int) (w : World) (h : RInts w .i64 v l) (hl : l.length = 64) (h01 : ∀ z ∈ l, 0 ≤ z ∧ z ≤ 1) :
    Calls Tryd.prog 60 #[v] w fun e w' => e = .returned (.int .u64 (P02.num l)) ∧ w' = w := by
  obtain ⟨A, c, rfl, hc1, hc2, hcell⟩ := h.open_
  rw [hl] at hc1 ⊢
  go_enter Tryd.func60, Tryd.ntmps60
  go_wp2
  go_loop [3, 4] (fun n d => ∃ k : Nat, k ≤ 64 ∧ n = .int .u64 (P02.num (l.drop k) : Nat) ∧ d = .int .i64 ((k : Int) - 1)) (fun _ d => (intOf d + 1).toNat)
  case atStart => exact ⟨64, by omega, by rw [List.drop_eq_nil_of_le (by omega)]; rfl, rfl⟩
  case round =>
    obtain ⟨k, hk, rfl, rfl⟩ := hrel
    by_cases h0 : 0 < k
    · obtain ⟨j, rfl⟩ : ∃ j, k = j + 1 := ⟨k - 1, by omega⟩
      obtain ⟨z, hz⟩ := some_of_lt (l := l) (i := j) (by omega)
      obtain ⟨b, o, rfl, hb, hk1⟩ := hcell j z hz
      have hzz := h01 z (List.mem_of_getElem? hz)
      have hz0 := hzz.1
      have hz1 := hzz.2
      have hnn := P02.num_lt (l.drop (j + 1)) (fun y hy => h01 y (List.mem_of_mem_drop hy))
      have hn2 : P02.num (l.drop j) = 2 * P02.num (l.drop (j + 1)) + z.toNat := by rw [drop_some hz]; rfl
      have hpw : 2 ^ (l.drop (j + 1)).length ≤ 2 ^ 63 := Nat.pow_le_pow_right (by omega) (by rw [List.length_drop]; omega)
      have hnb : P02.num (l.drop (j + 1)) < 9223372036854775808 := Nat.lt_of_lt_of_le hnn (by simpa using hpw)
      clear hnn hpw hzz hcell h01 hz
      generalize P02.num (l.drop (j + 1)) = q at hn2 hnb
      have HN := Lib.hid hn2
      have HL := Lib.hid hl
      clear hn2 hl
      go_wp2
      go_round
      case rel => exact ⟨j, by omega, by rw [HN.out]; go_num, by go_num⟩
      case measure => simp [intOf]
    · obtain rfl : k = 0 := by omega
      go_wp2
      go_ret
      exact ⟨rfl, rfl⟩

set_option maxHeartbeats 400000 in
theorem has_any (s : Nat) (hs : s < 18446744073709551616) (d : Int) (w : World) :
    Calls Tryd.prog 39 #[.int .u64 s, .int .i64 d] w fun e w' => e = .returned (.bool (P02.has s d)) ∧ Below w.heap.size w w' := by
  by_cases h0 : d < 0
  · have hr : P02.has s d = false := by simp [P02.has]; omega
    rw [hr]
    clear hr
    go_enter Tryd.func39, Tryd.ntmps39
    go_wp2
    go_ret
    exact ⟨rfl, Below.refl _ _⟩
  · by_cases h1 : 63 < d
    · have hr : P02.has s d = false := by simp [P02.has]; omega
      rw [hr]
      clear hr
      go_enter Tryd.func39, Tryd.ntmps39
      go_wp2
      go_ret
      exact ⟨rfl, Below.refl _ _⟩
    · obtain ⟨k, rfl⟩ := Int.eq_ofNat_of_zero_le (show 0 ≤ d by omega)
      have hk : k < 64 := by omega
      have hr : P02.has s k = decide (s / 2 ^ k % 2 = 1) := by simp [P02.has]; omega
      rw [hr]
      clear hr h0 h1
      have hg := P02.bits_get s k hk
      generalize s / 2 ^ k % 2 = q at hg
      have HG := Lib.hid hg
      clear hg
      go_enter Tryd.func39, Tryd.ntmps39
      go_wp2_with (go_at_call 58; refine (bits_any s hs _).mono ?_; rintro e w1 ⟨rfl, hblk, hbel⟩; have hc := (hblk.cell k).trans (show _ = some (Value.int .i64 (q : Int)) by rw [List.getElem?_map, HG.out]; rfl))
      go_ret
      refine ⟨ret_bool ?_, hbel⟩
      rw [Bool.eq_iff_iff]
      simp
      omega

set_option maxHeartbeats 400000 in
theorem put_any (s : Nat) (hs : s < 18446744073709551616) (d : Int) (w : World) :
    Calls Tryd.prog 40 #[.int .u64 s, .int .i64 d, .int .i64 1] w fun e w' => e = .returned (.int .u64 (P02.put s d : Nat)) ∧ Below w.heap.size w w' := by
  by_cases h0 : d < 0
  · have hr : P02.put s d = s := by simp [P02.put]; omega
    rw [hr]
    clear hr
    go_enter Tryd.func40, Tryd.ntmps40
    go_wp2
    go_ret
    exact ⟨rfl, Below.refl _ _⟩
  · by_cases h1 : 63 < d
    · have hr : P02.put s d = s := by simp [P02.put]; omega
      rw [hr]
      clear hr
      go_enter Tryd.func40, Tryd.ntmps40
      go_wp2
      go_ret
      exact ⟨rfl, Below.refl _ _⟩
    · obtain ⟨k, rfl⟩ := Int.eq_ofNat_of_zero_le (show 0 ≤ d by omega)
      have hk : k < 64 := by omega
      have hr : P02.put s k = P02.num ((P02.bits s).set k 1) := by rw [P02.put, if_pos (by omega)]; rfl
      rw [hr]
      clear hr h0 h1
      have hg := P02.bits_get s k hk
      have h01 : ∀ z ∈ (P02.bits s).set k 1, 0 ≤ z ∧ z ≤ 1 := fun z hz => by
        rcases List.mem_or_eq_of_mem_set hz with h | h
        · exact P02.bits_01 s z h
        · omega
      have HG := Lib.hid hg
      have H01 := Lib.hid h01
      clear hg h01
      go_enter Tryd.func40, Tryd.ntmps40
      go_wp2_with (go_at_call 58; refine (bits_any s hs _).mono ?_; rintro e w1 ⟨rfl, hblk, hbel⟩; have hc := (hblk.cell k).trans (show _ = some (Value.int .i64 _) by rw [List.getElem?_map, HG.out]; rfl); have hf := hblk.frozen k)
      have hst := hblk.set_ k (.int .i64 1)
      rw [show (.int .i64 1 : Value) = Value.int .i64 1 from rfl, ← List.map_set] at hst
      refine (bnumber_any _ _ _ (hst.RInts (by rw [List.length_set, P02.bits_len]) (Nat.le_refl _) (by simp [maxLen])) (by rw [List.length_set, P02.bits_len]) H01.out).mono ?_
      rintro e w2 ⟨rfl, rfl⟩
      clear hst hblk
      go_wp2
      go_ret
      exact ⟨rfl, hbel.setCell (p := ⟨w.heap.size, k, none⟩) (Nat.le_refl _) _⟩

set_option maxHeartbeats 400000 in
theorem all_any (s : Nat) (hs : s < 18446744073709551616) (w : World) :
    Calls Tryd.prog 70 #[.int .u64 s] w fun e w' => ∃ v, e = .returned v ∧ RInts w' .i64 v (P02.days s 0) ∧ Below w.heap.size w w' := by
  go_enter Tryd.func70, Tryd.ntmps70
  go_wp2_with (go_at_call 58; refine (bits_any s hs _).mono ?_; rintro e w1 ⟨rfl, hblk, hbel⟩)
  go_loopw [3, 5] (fun v d wr => ∃ k : Nat, k ≤ 64 ∧ d = .int .i64 k ∧
      wr.ownsRow (w.heap.size + 1) 3 1 v (((List.range k).map Int.ofNat).filter (P02.has s)).length ((((List.range k).map Int.ofNat).filter (P02.has s)).map (Value.int .i64)) ∧
      Blk wr w.heap.size 3 ((P02.bits s).map (.int .i64)) ∧ Below w.heap.size w wr) (fun _ d _ => 64 - (intOf d).toNat)
  case atStart => exact ⟨0, by omega, rfl, World.ownsRow_nil _ _ _ _, hblk, hbel⟩
  case round =>
    clear hblk hbel
    obtain ⟨k, hk, rfl, hown, hblk, hbel⟩ := hrel
    by_cases hlt : k < 64
    · have hg := P02.bits_get s k hlt
      have hc := (hblk.cell k).trans (show _ = some (Value.int .i64 _) by rw [List.getElem?_map, hg]; rfl)
      have hhas : P02.has s k = decide (s / 2 ^ k % 2 = 1) := by simp [P02.has]; omega
      have hL : (((List.range k).map Int.ofNat).filter (P02.has s)).length ≤ k := Nat.le_trans (List.length_filter_le _ _) (by simp)
      have hsucc : ((List.range (k + 1)).map Int.ofNat).filter (P02.has s) = ((List.range k).map Int.ofNat).filter (P02.has s) ++ (if s / 2 ^ k % 2 = 1 then [(k : Int)] else []) := by
        rw [List.range_succ, List.map_append, List.filter_append]
        congr 1
        simp only [List.map_cons, List.map_nil, List.filter_cons, List.filter_nil]
        rw [show Int.ofNat k = (k : Int) from rfl, hhas]
        simp
      have HS := Lib.hid hsucc
      clear hg hhas hsucc
      generalize (((List.range k).map Int.ofNat).filter (P02.has s)) = L at hL hown HS
      generalize s / 2 ^ k % 2 = q at hc HS
      by_cases hq : q = 1
      · subst hq
        have hL2 : L.length ≤ 1000000000 := by omega
        have hbase : w.heap.size + 1 ≤ wr.heap.size := hblk.lt
        go_wp2_with (at_builtin; refine wpList_append_one wr rfl _ _ 43 rfl (w.heap.size + 1) 3 _ 1 8 Tryd.underlying43 iinfo rfl (by decide) (by decide) _ _ _ hown rfl [.int .i64 k] _ rfl rfl rfl hL2 hbase ?_; intro v1 w1 hown1 hb1 hz1)
        go_roundw
        case rel => 
          refine ⟨k + 1, by omega, by go_num, ?_, ?_, ?_⟩
          · rw [HS.out]; simpa using hown1
          · exact hblk.below hb1 (by omega)
          · exact hbel.trans (hb1.mono (by omega))
        case measure => simp [intOf]; omega
      · go_wp2
        go_roundw
        case rel =>
          refine ⟨k + 1, by omega, by go_num, ?_, hblk, hbel⟩
          rw [HS.out, if_neg hq, List.append_nil]; exact hown
        case measure => simp [intOf]; omega
    · obtain rfl : k = 64 := by omega
      go_wp2
      go_ret
      refine ⟨_, rfl, ?_, hbel⟩
      have hd : P02.days s 0 = ((List.range 64).map Int.ofNat).filter (P02.has s) := by
        unfold P02.days
        apply List.filter_congr
        intro x hx
        obtain ⟨y, _, rfl⟩ := List.mem_map.1 hx
        simp
      rw [hd]
      exact RS.of_own hown

set_option maxHeartbeats 400000 in
theorem next_any (s : Nat) (hs : s < 18446744073709551616) (d : Int) (w : World) :
    Calls Tryd.prog 59 #[.int .u64 s, .int .i64 d] w fun e w' => e = .returned (.int .i64 (P02.next s d)) ∧ Below w.heap.size w w' := by
  go_enter Tryd.func59, Tryd.ntmps59
  go_wp2_with (go_at_call 70; refine (all_any s hs _).mono ?_; rintro e w1 ⟨v, rfl, hv, hbel⟩)
  have hL := P02.days_len s 0
  have hF := P02.first_days s d
  generalize P02.days s 0 = l at hL hv hF
  have HF := Lib.hid hF
  clear hF
  obtain ⟨A, c, rfl, hc1, hc2, hcell⟩ := hv.open_
  go_loop [6] (fun i => ∃ k : Nat, k ≤ l.length ∧ i = .int .i64 k ∧ Hid (P02.first d l = P02.first d (l.drop k))) (fun i => l.length - (intOf i).toNat)
  case atStart => exact ⟨0, Nat.zero_le _, rfl, rfl⟩
  case round =>
    obtain ⟨k, hk, rfl, H⟩ := hrel
    by_cases hlt : k < l.length
    · obtain ⟨z, hz⟩ := some_of_lt hlt
      obtain ⟨b, o, rfl, hb, hk1⟩ := hcell k z hz
      have hd := H.out
      rw [drop_some hz, P02.first_cons] at hd
      clear H
      by_cases hz0 : d ≤ z
      · rw [if_pos hz0] at hd
        have HD := Lib.hid hd
        clear hd hcell hz
        go_wp2
        go_ret
        exact ⟨ret_int (HD.out.symm.trans HF.out), hbel⟩
      · rw [if_neg hz0] at hd
        have HD := Lib.hid hd
        clear hd hcell hz
        go_wp2
        go_round
        case rel => exact ⟨k + 1, by omega, by go_num, HD⟩
        case measure => simp [intOf]; omega
    · have hd := H.out
      rw [List.drop_eq_nil_of_le (by omega)] at hd
      have HD := Lib.hid hd
      clear hd H hcell
      go_wp2
      go_ret
      exact ⟨ret_int (HD.out.symm.trans HF.out), hbel⟩

end Go.Proofs.YtigljnnjamdcnaaDoor

namespace Go.Proofs.YtigljnnjamdcnaaDoor
open Go.RowKit

theorem and1 (q : Nat) (h : q < 18446744073709551616) : (bits BinOp.and IntKind.u64 (q : Int) 1 == 1) = decide (q % 2 = 1) := by
  rw [and_one_u64 _ (by omega) (by omega), Bool.eq_iff_iff]
  simp
  omega

set_option maxHeartbeats 400000 in
theorem dhas_any (s : Nat) (hs : s < 18446744073709551616) (d : Int) (w : World) :
    Calls Tryd.prog 64 #[.int .u64 s, .int .i64 d] w fun e w' => e = .returned (.bool (P02.has s d)) ∧ w = w' := by
  by_cases h0 : 0 ≤ d ∧ d < 64
  · obtain ⟨k, rfl⟩ := Int.eq_ofNat_of_zero_le h0.1
    obtain ⟨h1, h2⟩ := h0
    go_enter Tryd.func64, Tryd.ntmps64
    go_wp2
    go_ret
    refine ⟨ret_bool ?_, rfl⟩
    have e : ((s : Int) / 2 ^ k) = ((s / 2 ^ k : Nat) : Int) := by simp
    have hq : s / 2 ^ k < 18446744073709551616 := Nat.lt_of_le_of_lt (Nat.div_le_self _ _) hs
    rw [e, and1 _ hq, P02.has, Int.toNat_natCast, decide_eq_true (show 0 ≤ (k : Int) by omega), decide_eq_true (show (k : Int) ≤ 63 by omega)]
    simp
  · have hr : P02.has s d = false := by simp [P02.has]; omega
    rw [hr]
    clear hr
    by_cases h1 : 0 ≤ d
    all_goals
      go_enter Tryd.func64, Tryd.ntmps64
      go_wp2
      go_ret
      exact ⟨rfl, rfl⟩

set_option maxHeartbeats 400000 in
theorem among_any (s : Nat) (hs : s < 18446744073709551616) (d : Int) (w : World) :
    Calls Tryd.prog 96 #[.func (.func 64) #[.int .u64 s] #[], .int .i64 d] w fun e w' => ∃ v, e = .returned v ∧ RInts w' .i64 v (P02.days s d) ∧ Below w.heap.size w w' := by
  go_enter Tryd.func96, Tryd.ntmps96
  obtain ⟨m, hm⟩ : ∃ m : Nat, (d = m ∨ (d < 0 ∧ m = 0)) := by
    by_cases h : 0 ≤ d
    · exact ⟨d.toNat, .inl (by omega)⟩
    · exact ⟨0, .inr ⟨by omega, rfl⟩⟩
  have hm0 : d ≤ m := by omega
  have hst := P02.upTo_start s d m (by omega)
  have hend : 64 ≤ m → P02.days s d = P02.upTo s d m := fun h => by
    rcases hm with rfl | ⟨_, rfl⟩
    · rw [hst, P02.days_upTo]; exact P02.upTo_start s _ 64 (by omega)
    · omega
  obtain ⟨dd, hdd⟩ : ∃ dd, dd = d := ⟨_, rfl⟩
  rw [← hdd] at hst hend hm0
  have HST := Lib.hid hst
  have HEND := Lib.hid hend
  have HM0 := Lib.hid hm0
  have HDD := Lib.hid hdd
  clear hst hdd hend hm0
  rcases hm with rfl | ⟨hd, hm⟩
  rotate_left
  have HM := Lib.hid (show (0 : Int) = m by omega)
  clear hm
  rotate_left
  have HM := Lib.hid (show (m : Int) = m from rfl)
  all_goals
    go_wp2
    go_loopw [5, 6] (fun v dv wr => ∃ k : Nat, m ≤ k ∧ (k ≤ 64 ∨ k = m) ∧ dv = .int .i64 k ∧
        wr.ownsRow (w.heap.size) 3 1 v (P02.upTo s dd k).length ((P02.upTo s dd k).map (Value.int .i64)) ∧ Below w.heap.size w wr) (fun _ dv _ => 64 - (intOf dv).toNat)
    case atStart => exact ⟨m, Nat.le_refl _, .inr rfl, by first | rfl | (rw [HM.out]), by rw [HST.out]; exact World.ownsRow_nil _ _ _ _, Below.refl _ _⟩
    case round =>
      obtain ⟨k, hk0, hk, rfl, hown, hbel⟩ := hrel
      clear HM
      by_cases hlt : k < 64
      · have hL := P02.upTo_len s dd k
        have HS := Lib.hid (P02.upTo_succ s dd k (by have := HM0.out; omega))
        have hhas : P02.has s k = true ∨ P02.has s k = false := by cases P02.has s k <;> simp
        generalize P02.upTo s dd k = L at hL hown HS
        rcases hhas with hq | hq
        · rw [hq] at HS
          have hL2 : L.length ≤ 1000000000 := by omega
          have hbase := hbel.size
          go_wp2_with (first
            | (go_at_call 64; refine (dhas_any s hs _ _).mono ?_; rintro e w' ⟨rfl, rfl⟩; try simp only [hq])
            | (at_builtin; refine wpList_append_one wr rfl _ _ 43 rfl (w.heap.size) 3 _ 1 8 Tryd.underlying43 iinfo rfl (by decide) (by decide) _ _ _ hown rfl [.int .i64 k] _ rfl rfl rfl hL2 hbase ?_; intro v1 w1 hown1 hb1 hz1))
          go_roundw
          case rel =>
            refine ⟨k + 1, by omega, by omega, by go_num, ?_, ?_⟩
            · rw [HS.out]; simpa using hown1
            · exact hbel.trans hb1
          case measure => simp [intOf]; omega
        · rw [hq] at HS
          go_wp2_with (go_at_call 64; refine (dhas_any s hs _ _).mono ?_; rintro e w' ⟨rfl, rfl⟩; try simp only [hq])
          go_roundw
          case rel =>
            refine ⟨k + 1, by omega, by omega, by go_num, ?_, hbel⟩
            rw [HS.out]; simpa using hown
          case measure => simp [intOf]; omega
      · have he : P02.days s dd = P02.upTo s dd k := by
          by_cases h64 : k ≤ 64
          · obtain rfl : k = 64 := by omega
            rfl
          · obtain rfl : k = m := by omega
            exact HEND.out (by omega)
        have HE := Lib.hid he
        clear he
        go_wp2
        go_ret
        refine ⟨_, rfl, ?_, hbel⟩
        rw [← HDD.out, HE.out]
        exact RS.of_own hown

set_option maxHeartbeats 400000 in
theorem dnext_any (s : Nat) (hs : s < 18446744073709551616) (d : Int) (w : World) :
    Calls Tryd.prog 87 #[.int .u64 s, .int .i64 d] w fun e w' => e = .returned (.int .i64 (P02.next s d)) ∧ Below w.heap.size w w' := by
  go_enter Tryd.func87, Tryd.ntmps87
  have hF : P02.next s d = (P02.days s d).headD (-1) := rfl
  have HF := Lib.hid hF
  clear hF
  go_wp2_with fail
  refine (among_any s hs _ _).mono ?_
  rintro e w1 ⟨v, rfl, hv, hbel⟩
  generalize P02.days s d = l at hv HF
  obtain ⟨A, c, rfl, hc1, hc2, hcell⟩ := hv.open_
  cases l with
  | nil =>
    simp only [List.length_nil] at hc1
    have hl : ([] : List Int).length = 0 := rfl
    rw [hl] at hv ⊢
    clear hcell hl
    go_wp2
    go_ret
    exact ⟨ret_int (by rw [HF.out]; rfl), hbel⟩
  | cons z r =>
    obtain ⟨b, o, rfl, hb, hk⟩ := hcell 0 z rfl
    have hl : (z :: r).length = r.length + 1 := rfl
    rw [Nat.add_zero] at hk
    have hlt : 0 < (z :: r).length := by simp
    clear hcell hl
    generalize (z :: r).length = n at hlt hc1
    go_wp2
    go_ret
    exact ⟨ret_int (by rw [HF.out]; rfl), hbel⟩

end Go.Proofs.YtigljnnjamdcnaaDoor

namespace Go.Proofs.YtigljnnjamdcnaaDoor
open Go.RowKit P06

set_option maxHeartbeats 400000 in
theorem from_any (n lo hi : Int) (w : World) :
    Calls Tryd.prog 41 #[.int .i64 n, .int .i64 lo, .int .i64 hi] w fun e w' => e = .returned (.bool (fromB n lo hi)) ∧ w = w' := by
  by_cases h : lo ≤ n
  · have H := Lib.hid (show fromB n lo hi = decide (n ≤ hi) by simp [fromB, h])
    go_enter Tryd.func41, Tryd.ntmps41
    go_wp2
    go_ret
    exact ⟨ret_bool H.out.symm, rfl⟩
  · have H := Lib.hid (show fromB n lo hi = false by simp [fromB, h])
    go_enter Tryd.func41, Tryd.ntmps41
    go_wp2
    go_ret
    exact ⟨ret_bool H.out.symm, rfl⟩

set_option maxHeartbeats 400000 in
theorem demands_any (k d r s t u h days : Int) (pv : Value) (w : World) :
    Calls Tryd.prog 71 #[.agg #[.int .i64 k, .int .i64 d, pv, .int .i64 r, .int .i64 s, .int .i64 t, .int .i64 u, .int .i64 h, .int .i64 days]] w fun e w' => e = .returned (.bool (fromB d 1 2147483648)) ∧ Below w.heap.size w w' := by
  go_enter Tryd.func71, Tryd.ntmps71
  go_wp2_with (go_at_call 41; refine (from_any _ _ _ _).mono ?_; rintro e w' ⟨rfl, rfl⟩)
  all_goals
    go_ret
    exact ⟨rfl, (Below.refl _ _).alloc (Nat.le_refl _) _⟩

set_option maxHeartbeats 400000 in
theorem uses_any (k d r s t u h days : Int) (pv : Value) (w : World) :
    Calls Tryd.prog 74 #[.agg #[.int .i64 k, .int .i64 d, pv, .int .i64 r, .int .i64 s, .int .i64 t, .int .i64 u, .int .i64 h, .int .i64 days]] w fun e w' => e = .returned (.bool (fromB r 0 2147483648)) ∧ Below w.heap.size w w' := by
  go_enter Tryd.func74, Tryd.ntmps74
  go_wp2_with (go_at_call 41; refine (from_any _ _ _ _).mono ?_; rintro e w' ⟨rfl, rfl⟩)
  all_goals
    go_ret
    exact ⟨rfl, (Below.refl _ _).alloc (Nat.le_refl _) _⟩

set_option maxHeartbeats 400000 in
theorem sized_any (k d r s t u h days : Int) (pv : Value) (w : World) :
    Calls Tryd.prog 75 #[.agg #[.int .i64 k, .int .i64 d, pv, .int .i64 r, .int .i64 s, .int .i64 t, .int .i64 u, .int .i64 h, .int .i64 days]] w fun e w' => e = .returned (.bool (fromB s 1 2147483648)) ∧ Below w.heap.size w w' := by
  go_enter Tryd.func75, Tryd.ntmps75
  go_wp2_with (go_at_call 41; refine (from_any _ _ _ _).mono ?_; rintro e w' ⟨rfl, rfl⟩)
  all_goals
    go_ret
    exact ⟨rfl, (Below.refl _ _).alloc (Nat.le_refl _) _⟩

set_option maxHeartbeats 400000 in
theorem started_any (k d r s t u h days : Int) (pv : Value) (w : World) :
    Calls Tryd.prog 76 #[.agg #[.int .i64 k, .int .i64 d, pv, .int .i64 r, .int .i64 s, .int .i64 t, .int .i64 u, .int .i64 h, .int .i64 days]] w fun e w' => e = .returned (.bool (fromB t 0 s)) ∧ Below w.heap.size w w' := by
  go_enter Tryd.func76, Tryd.ntmps76
  go_wp2_with (go_at_call 41; refine (from_any _ _ _ _).mono ?_; rintro e w' ⟨rfl, rfl⟩)
  all_goals
    go_ret
    exact ⟨rfl, (Below.refl _ _).alloc (Nat.le_refl _) _⟩

set_option maxHeartbeats 400000 in
theorem holds_any (k d r s t u h days : Int) (pv : Value) (w : World) :
    Calls Tryd.prog 78 #[.agg #[.int .i64 k, .int .i64 d, pv, .int .i64 r, .int .i64 s, .int .i64 t, .int .i64 u, .int .i64 h, .int .i64 days]] w fun e w' => e = .returned (.bool (fromB h 0 1024)) ∧ Below w.heap.size w w' := by
  go_enter Tryd.func78, Tryd.ntmps78
  go_wp2_with (go_at_call 41; refine (from_any _ _ _ _).mono ?_; rintro e w' ⟨rfl, rfl⟩)
  all_goals
    go_ret
    exact ⟨rfl, (Below.refl _ _).alloc (Nat.le_refl _) _⟩

set_option maxHeartbeats 400000 in
theorem tankless_any (k d r s t u h days : Int) (pv : Value) (w : World) :
    Calls Tryd.prog 73 #[.agg #[.int .i64 k, .int .i64 d, pv, .int .i64 r, .int .i64 s, .int .i64 t, .int .i64 u, .int .i64 h, .int .i64 days]] w fun e w' => e = .returned (.bool (r == 0 && s == 0 && t == 0 && u == 0 && h == 0)) ∧ Below w.heap.size w w' := by
  go_enter Tryd.func73, Tryd.ntmps73
  go_wp2
  all_goals
    go_ret
    exact ⟨ret_bool (by simp [*]), (Below.refl _ _).alloc (Nat.le_refl _) _⟩

set_option maxHeartbeats 400000 in
theorem ruled_any (k d r s t u h days : Int) (pv : Value) (w : World) :
    Calls Tryd.prog 77 #[.agg #[.int .i64 k, .int .i64 d, pv, .int .i64 r, .int .i64 s, .int .i64 t, .int .i64 u, .int .i64 h, .int .i64 days]] w fun e w' => e = .returned (.bool (u == 1 || u == 2)) ∧ Below w.heap.size w w' := by
  go_enter Tryd.func77, Tryd.ntmps77
  go_wp2
  all_goals
    go_ret
    exact ⟨ret_bool (by simp [*]), (Below.refl _ _).alloc (Nat.le_refl _) _⟩

end Go.Proofs.YtigljnnjamdcnaaDoor

namespace Go.Proofs.YtigljnnjamdcnaaDoor
open Go.RowKit P06

set_option maxHeartbeats 400000 in
theorem patternless_any (k d r s t u h days : Int) (pv : Value) (l : List Nat) (w : World) (hp : RPats w pv l) :
    Calls Tryd.prog 79 #[.agg #[.int .i64 k, .int .i64 d, pv, .int .i64 r, .int .i64 s, .int .i64 t, .int .i64 u, .int .i64 h, .int .i64 days]] w fun e w' => e = .returned (.bool (decide (l.length = 0) && d == 0)) ∧ Below w.heap.size w w' := by
  obtain ⟨A, c, rfl, hc1, hc2, hcell⟩ := hp.open_
  clear hcell hp
  generalize l.length = n at *
  go_enter Tryd.func79, Tryd.ntmps79
  go_wp2
  all_goals
    go_ret
    refine ⟨ret_bool ?_, (Below.refl _ _).alloc (Nat.le_refl _) _⟩
    first | (simp [*]; done) | (simp [*]; omega)

set_option maxHeartbeats 400000 in
theorem patterned_any (k d r s t u h days : Int) (pv : Value) (l : List Nat) (w : World) (hp : RPats w pv l) (hwf : ∀ s ∈ l, s < 18446744073709551616) :
    Calls Tryd.prog 72 #[.agg #[.int .i64 k, .int .i64 d, pv, .int .i64 r, .int .i64 s, .int .i64 t, .int .i64 u, .int .i64 h, .int .i64 days]] w fun e w' => e = .returned (.bool (patternedB l days)) ∧ Below w.heap.size w w' := by
  obtain ⟨A, c, rfl, hc1, hc2, hcell⟩ := hp.open_
  go_enter Tryd.func72, Tryd.ntmps72
  go_wp2
  go_loopw [9] (fun i wr => ∃ j : Nat, j ≤ l.length ∧ i = .int .i64 j ∧ Hid (l.all (fun p => decide (P02.next p days < 0)) = (l.drop j).all (fun p => decide (P02.next p days < 0))) ∧
      Blk wr w.heap.size 78 [.int .i64 k, .int .i64 d, .slice A l.length c, .int .i64 r, .int .i64 s, .int .i64 t, .int .i64 u, .int .i64 h, .int .i64 days] ∧ Below w.heap.size w wr) (fun i _ => l.length - (intOf i).toNat)
  case atStart => exact ⟨0, Nat.zero_le _, rfl, rfl, Blk.new _ _ _, (Below.refl _ _).alloc (Nat.le_refl _) _⟩
  case round =>
    obtain ⟨j, hj, rfl, H, hblk, hbel⟩ := hrel
    have hz := hblk.lt
    have b2 : wr.cell? ⟨w.heap.size, 2, none⟩ = some (.slice A l.length c) := hblk.cell 2
    have b8 : wr.cell? ⟨w.heap.size, 8, none⟩ = some (.int .i64 days) := hblk.cell 8
    by_cases hlt : j < l.length
    · obtain ⟨p, hp1⟩ := some_of_lt hlt
      obtain ⟨b, o, rfl, hb, hk⟩ := hcell j p hp1
      have hk1 := (hbel.cell (p := ⟨b, o + j, none⟩) hb).trans hk
      have hpw := hwf p (List.mem_of_getElem? hp1)
      have hd := H.out
      rw [drop_some hp1, List.all_cons] at hd
      clear H hcell hp hp1 hk
      by_cases hn : P02.next p days < 0
      · rw [decide_eq_true hn, Bool.true_and] at hd
        have HD := Lib.hid hd
        clear hd
        go_wp2_with (go_at_call 87; refine (dnext_any _ hpw _ _).mono ?_; rintro e w1 ⟨rfl, hb1⟩)
        go_roundw
        case rel => exact ⟨j + 1, by omega, by go_num, HD, hblk.below hb1 hz, hbel.trans (hb1.mono (by omega))⟩
        case measure => simp [intOf]; omega
      · rw [decide_eq_false hn, Bool.false_and] at hd
        have HD := Lib.hid hd
        clear hd
        go_wp2_with (go_at_call 87; refine (dnext_any _ hpw _ _).mono ?_; rintro e w1 ⟨rfl, hb1⟩)
        go_ret
        exact ⟨ret_bool (by rw [patternedB, HD.out, Bool.false_and]), hbel.trans (hb1.mono (by omega))⟩
    · have hd := H.out
      rw [List.drop_eq_nil_of_le (by omega)] at hd
      have HD := Lib.hid hd
      clear hd H hcell hp
      go_wp2_with (go_at_call 41; refine (from_any _ _ _ _).mono ?_; rintro e w' ⟨rfl, rfl⟩)
      go_ret
      exact ⟨ret_bool (by rw [patternedB, HD.out]; rfl), hbel⟩

set_option maxHeartbeats 400000 in
theorem musts1_any (w : World) :
    Calls Tryd.prog 61 #[.int .i64 1] w fun e w' => e = .returned (.slice (some ⟨w.heap.size, 0, none⟩) 3 3) ∧
      Blk w' w.heap.size 76 [.func (.func 71) #[] #[], .func (.func 72) #[] #[], .func (.func 73) #[] #[]] ∧ Below w.heap.size w w' := by
  go_enter Tryd.func61, Tryd.ntmps61
  go_wp2
  go_ret
  exact ⟨rfl, Blk.new _ _ _, (Below.refl _ _).alloc (Nat.le_refl _) _⟩

set_option maxHeartbeats 400000 in
theorem musts2_any (w : World) :
    Calls Tryd.prog 61 #[.int .i64 2] w fun e w' => e = .returned (.slice (some ⟨w.heap.size, 0, none⟩) 6 6) ∧
      Blk w' w.heap.size 76 [.func (.func 74) #[] #[], .func (.func 75) #[] #[], .func (.func 76) #[] #[],
        .func (.func 77) #[] #[], .func (.func 78) #[] #[], .func (.func 79) #[] #[]] ∧ Below w.heap.size w w' := by
  go_enter Tryd.func61, Tryd.ntmps61
  go_wp2
  go_ret
  exact ⟨rfl, Blk.new _ _ _, (Below.refl _ _).alloc (Nat.le_refl _) _⟩

set_option maxHeartbeats 400000 in
theorem musts0_any (k : Int) (h1 : k ≠ 1) (h2 : k ≠ 2) (w : World) :
    Calls Tryd.prog 61 #[.int .i64 k] w fun e w' => e = .returned (.slice none 0 0) ∧ w = w' := by
  go_enter Tryd.func61, Tryd.ntmps61
  go_wp2
  go_ret
  exact ⟨rfl, rfl⟩

end Go.Proofs.YtigljnnjamdcnaaDoor
