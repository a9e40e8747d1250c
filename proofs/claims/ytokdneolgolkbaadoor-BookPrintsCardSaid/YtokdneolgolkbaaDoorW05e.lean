/- The walk of Lines. -/
import Derived.Test.YtokdneolgolkbaaDoorS05
import Derived.Test.YtokdneolgolkbaaDoorW05a
import Derived.Test.YtokdneolgolkbaaDoorMem3
namespace Go.Proofs.YtokdneolgolkbaaDoor
open Go.RowKit P05


def linesV (l : List UInt8) : List (List (List UInt8)) := (linesP l).getD []
def linesE (l : List UInt8) : Int := if (linesP l).isSome then 0 else 2
theorem linesV_some {l : List UInt8} {L : List (List (List UInt8))} (h : linesP l = some L) : linesV l = L ∧ linesE l = 0 := by
  unfold linesV linesE
  rw [h]
  exact ⟨rfl, rfl⟩
theorem linesV_none {l : List UInt8} (h : linesP l = none) : linesV l = [] ∧ linesE l = 2 := by
  unfold linesV linesE
  rw [h]
  exact ⟨rfl, rfl⟩
def strSize : Value → Nat
  | .string s => s.size
  | _ => 0
theorem size_data (s : ByteArray) : s.size = s.data.toList.length := (data_len s).symm
theorem isWord_l (l : List UInt8) (w : World) (hs : l.length ≤ 4294967281) :
    Calls Tryd.prog 31 #[.string ⟨l.toArray⟩] w fun e w' => e = .returned (.bool (isWord l)) ∧ w' = w :=
  isWord_any ⟨l.toArray⟩ w (by rw [size_data]; simpa using hs)
theorem cut_nl_yes {t : ByteArray} {p q : List UInt8} (ht : t.data.toList = p ++ 10 :: q) (hp : (10 : UInt8) ∉ p) (m : Int) (w : World) (hs : t.size < 4294967281) (hm : w.cell? ⟨0, 0, none⟩ = some (.int .i64 m)) :
    Calls Tryd.prog 29 #[.string t, .string ⟨#[10]⟩] w fun e w' => e = .returned (.tuple #[.string ⟨p.toArray⟩, .string ⟨q.toArray⟩, .bool true]) ∧ ∃ n, w' = w.drewN n := by
  have := cut_any t ⟨#[10]⟩ m w hs hm
  have e : Lib.cut t.data.toList (⟨#[10]⟩ : ByteArray).data.toList = (p, q, true) := by rw [ht]; exact cut_hit 10 p q hp
  rw [e] at this
  exact this
theorem cut_nl_no {t : ByteArray} (hp : (10 : UInt8) ∉ t.data.toList) (m : Int) (w : World) (hs : t.size < 4294967281) (hm : w.cell? ⟨0, 0, none⟩ = some (.int .i64 m)) :
    Calls Tryd.prog 29 #[.string t, .string ⟨#[10]⟩] w fun e w' => e = .returned (.tuple #[.string t, .string ⟨#[]⟩, .bool false]) ∧ ∃ n, w' = w.drewN n := by
  have := cut_any t ⟨#[10]⟩ m w hs hm
  have e : Lib.cut t.data.toList (⟨#[10]⟩ : ByteArray).data.toList = (t.data.toList, [], false) := cut_miss 10 _ hp
  rw [e] at this
  have e2 : (⟨(t.data.toList, ([] : List UInt8), false).1.toArray⟩ : ByteArray) = t := mk_data t
  rw [e2] at this
  exact this
theorem split_l (p : List UInt8) (m : Int) (w : World) (hs : p.length < 4294967281) (hm : w.cell? ⟨0, 0, none⟩ = some (.int .i64 m)) :
    Calls Tryd.prog 30 #[.string ⟨p.toArray⟩, .string ⟨#[32]⟩] w fun e w' => e = .returned (.slice (some ⟨w.heap.size, 0, none⟩) (pieces 32 p).length (pieces 32 p).length) ∧ w' = w.alloc (.cells ((pieces 32 p).map bstr).toArray 9) :=
  split_any ⟨p.toArray⟩ 32 m w (by rw [size_data]; simpa using hs) hm
theorem pieces_count (b : UInt8) : ∀ p : List UInt8, (pieces b p).length ≤ p.length + 1
  | [] => by simp [pieces]
  | c :: t => by
    have ih := pieces_count b t
    by_cases e : c = b
    · rw [pieces, if_pos e]; simp; omega
    · rw [pieces_cons_ne _ _ _ e]
      cases h : pieces b t with
      | nil => simp [pre]
      | cons a r => rw [h] at ih; simp [pre] at ih ⊢; omega
theorem pieces_small (b : UInt8) : ∀ (p : List UInt8), ∀ w ∈ pieces b p, w.length ≤ p.length
  | [] => by simp [pieces]
  | c :: t => by
    intro w hw
    have ih := pieces_small b t
    by_cases e : c = b
    · rw [pieces, if_pos e] at hw
      rcases List.mem_cons.1 hw with h | h
      · rw [h]; simp
      · have := ih w h; simp; omega
    · rw [pieces_cons_ne _ _ _ e] at hw
      cases h : pieces b t with
      | nil => exact absurd h (pieces_ne _ _)
      | cons a r =>
        rw [h] at hw ih
        simp only [pre, List.mem_cons] at hw
        rcases hw with h | h
        · have := ih a (by simp); rw [h]; simp; omega
        · have := ih w (by simp [h]); simp; omega
theorem ret_lines {v v' : Value} {a b : Int} (h : a = b) (hv : v = v') : Ending.returned (.tuple #[v, .int .i64 a]) = .returned (.tuple #[v', .int .i64 b]) := by rw [h, hv]
theorem strinfo : (Tryd.prog.info? 9).map (fun i => (i.zero, i.size, i.bytes)) = some (some (.string ByteArray.empty), 1, 16) := by kernel_rfl
theorem strsinfo : (Tryd.prog.info? 60).map (fun i => (i.zero, i.size, i.bytes)) = some (some (.slice none 0 0), 1, 24) := by kernel_rfl
set_option maxHeartbeats 2000000 in
theorem lines_any (s : ByteArray) (m : Int) (w : World) (hs : s.size ≤ 1000000) (hm : w.cell? ⟨0, 0, none⟩ = some (.int .i64 m)) :
    Calls Tryd.prog 18 #[.string s] w fun e w' => ∃ v, e = .returned (.tuple #[v, .int .i64 (linesE s.data.toList)]) ∧ OLines w.heap.size 60 9 w' v (linesV s.data.toList) ∧ Below w.heap.size w w' := by
  have HM := Lib.hid hm
  clear hm
  go_enter Tryd.func18, Tryd.ntmps18
  go_wp2_with fail
  go_loopw [0, 4] (fun tv lv wr => ∃ (t : ByteArray) (L : List (List (List UInt8))), tv = .string t ∧ Hid (OLines w.heap.size 60 9 wr lv L) ∧ Below w.heap.size w wr ∧ L.length + t.size ≤ 1000000 ∧ Hid (linesP s.data.toList = scan L [] [] t.data.toList)) (fun tv _ _ => strSize tv)
  case atStart => exact ⟨s, [], rfl, OLines.nil_ _ _ _ _, Below.refl _ _, by simpa using hs, rfl⟩
  case round =>
    obtain ⟨t, L, rfl, HO, hbel, hlen, HI⟩ := hrel
    by_cases ht0 : t.size = 0
    · obtain rfl := str_empty t ht0
      have HR := Lib.hid (linesV_some (l := s.data.toList) (L := L) HI.out)
      clear ht0
      go_wp2
      go_ret2
      exact ⟨_, ret_lines HR.out.2.symm rfl, by rw [HR.out.1]; exact HO.out, hbel⟩
    · have hse := str_nonempty t (by omega)
      have hmr : wr.cell? ⟨0, 0, none⟩ = some (.int .i64 m) := cell_below hbel (Nat.le_refl _) HM.out
      have HMR := Lib.hid hmr
      clear hmr
      by_cases hmem : (10 : UInt8) ∈ t.data.toList
      · obtain ⟨p, q, htp, hp⟩ := split_at 10 _ hmem
        have hln := data_len t
        rw [htp] at hln
        simp at hln
        have HP := Lib.hid hp
        have HT := Lib.hid htp
        have HLN := Lib.hid hln
        have hpl : p.length ≤ 1000000 := by omega
        have hql : L.length + 1 + q.length ≤ 1000000 := by omega
        have hqt : q.length < t.size := by omega
        clear hmem hp htp hln
        go_wp2_with fail
        refine (cut_nl_yes HT.out HP.out m _ (by omega) HMR.out).mono ?_
        rintro e w2 ⟨rfl, n2, rfl⟩
        go_wp2_with fail
        refine (split_l p m _ (by omega) (by exact HMR.out)).mono ?_
        rintro e w3 ⟨rfl, rfl⟩
        have hsc : Hid (linesP s.data.toList = if (pieces 32 p).all isWord then scan (L ++ [pieces 32 p]) [] [] q else none) := by
          show linesP s.data.toList = _
          rw [HI.out, HT.out, scan_line q p L [] [] HP.out rfl, pre_nil _ (pieces_ne _ _), List.nil_append]
        have hwl := pieces_count 32 p
        have hws := pieces_small 32 p
        generalize pieces 32 p = WS at hsc hwl hws ⊢
        have HWS := Lib.hid hws
        have hblk : Blk ((wr.drewN n2).alloc (.cells (WS.map bstr).toArray 9)) wr.heap.size 9 (WS.map bstr) := Blk.newAt' (wr.drewN n2) _ _ rfl
        have kq : Below wr.heap.size wr ((wr.drewN n2).alloc (.cells (WS.map bstr).toArray 9)) := (below_drewN (Below.refl wr.heap.size wr) n2).alloc (Nat.le_refl _) _
        rw [show (wr.drewN n2).heap.size = wr.heap.size from rfl]
        generalize (wr.drewN n2).alloc (.cells (WS.map bstr).toArray 9) = wq at hblk kq ⊢
        have HB := Lib.hid hblk
        have hwl2 : WS.length ≤ 1000001 := by omega
        clear hblk hws hwl
        go_wp2_with fail
        go_loop [25] (fun iv => ∃ k : Nat, k ≤ WS.length ∧ iv = .int .i64 k ∧ Hid ((WS.take k).all isWord = true)) (fun iv => WS.length - (intOf iv).toNat)
        case atStart => exact ⟨0, Nat.zero_le _, rfl, rfl⟩
        case round =>
          obtain ⟨k, hk, rfl, HA⟩ := hrel
          by_cases hlt : k < WS.length
          · obtain ⟨x, hx⟩ := some_of_lt hlt
            have hc : wq.cell? ⟨wr.heap.size, k, none⟩ = some (.string ⟨x.toArray⟩) := (HB.out.cell k).trans (by rw [List.getElem?_map, hx]; rfl)
            have HX := Lib.hid hx
            have HXL := Lib.hid (HWS.out x (List.mem_of_getElem? hx))
            clear hx
            by_cases hw : isWord x = true
            · have HW := Lib.hid hw
              have HN := Lib.hid (all_take_snoc HA.out HX.out hw)
              clear hw
              go_wp2_with fail
              refine (isWord_l x _ (by have := HXL.out; omega)).mono ?_
              rintro e w4 ⟨rfl, rfl⟩
              rw [HW.out]
              go_wp2
              go_round
              case rel => exact ⟨k + 1, by omega, by go_num, HN⟩
              case measure => simp [intOf]; omega
            · have HW := Lib.hid (show isWord x = false by simpa using hw)
              have HF : Hid (linesP s.data.toList = none) := by
                show linesP s.data.toList = none
                have : WS.all isWord = false := by
                  rw [List.all_eq_false]
                  exact ⟨x, List.mem_of_getElem? HX.out, hw⟩
                rw [hsc.out, this]
                rfl
              have HR := Lib.hid (linesV_none HF.out)
              clear hw
              go_wp2_with fail
              refine (isWord_l x _ (by have := HXL.out; omega)).mono ?_
              rintro e w4 ⟨rfl, rfl⟩
              rw [HW.out]
              go_wp2
              go_ret2
              exact ⟨.slice none 0 0, ret_lines HR.out.2.symm rfl, by rw [HR.out.1]; exact OLines.nil_ _ _ _ _, hbel.trans (kq.mono hbel.size)⟩
          · obtain rfl : k = WS.length := by omega
            have HSC : Hid (linesP s.data.toList = scan (L ++ [WS]) [] [] q) := by
              have := HA.out
              rw [List.take_length] at this
              show _ = _
              rw [hsc.out, this]
              rfl
            obtain ⟨css, g1, g2, g3, g4⟩ := HO.out
            have HG1 := Lib.hid g1
            have HG2 := Lib.hid g2
            have how := own_below g3 kq (Nat.le_refl _)
            have HG4 := Lib.hid g4
            have hLn : L.length ≤ 1000000000 := by omega
            have hbase : w.heap.size ≤ wq.heap.size := Nat.le_trans hbel.size kq.size
            clear g1 g2 g3 g4
            go_wp2_with (at_builtin; refine wpList_append_one' _ rfl (.tmp 33) (.tmp 35) 62 rfl w.heap.size 60 _ 1 24 Tryd.underlying62 strsinfo rfl (by decide) (by decide) _ _ _ how rfl [.slice (some ⟨wr.heap.size, 0, none⟩) WS.length WS.length] _ rfl rfl rfl hLn hbase ?_; intro g cap w5 ho5 hg0 hg1 hk5 hz5)
            go_roundw
            case rel =>
              refine ⟨⟨q.toArray⟩, L ++ [WS], rfl, ?_, (hbel.trans (kq.mono hbel.size)).trans (hk5.below hbase), ?_, ?_⟩
              · refine OL.push (n := L.length) rfl HG1.out HG2.out rfl ho5 (fun i x cs hx hcs => ?_) ⟨_, rfl, ?_⟩
                · obtain ⟨v, rfl, hv⟩ := HG4.out i x cs hx hcs
                  exact ⟨v, rfl, hk5.own (own_below hv kq (Nat.le_refl _)) (by decide)⟩
                · exact hk5.own (HB.out.own (by exact hbel.size) (by simp) (by simp only [maxLen]; omega)) (by decide)
              · have : (⟨q.toArray⟩ : ByteArray).size = q.length := by rw [size_data]
                rw [this, List.length_append]
                simp
                omega
              · exact HSC
            case measure =>
              show (⟨q.toArray⟩ : ByteArray).size < t.size
              have : (⟨q.toArray⟩ : ByteArray).size = q.length := by rw [size_data]
              omega
      · have HF : Hid (linesP s.data.toList = none) := HI.out.trans (scan_open _ _ _ _ hmem (.inl (ne_nil_of_size t (by omega))))
        have HR := Lib.hid (linesV_none HF.out)
        have HMEM := Lib.hid hmem
        clear hmem ht0
        go_wp2_with fail
        refine (cut_nl_no HMEM.out m _ (by omega) HMR.out).mono ?_
        rintro e w2 ⟨rfl, n2, rfl⟩
        go_wp2
        go_ret2
        exact ⟨.slice none 0 0, ret_lines HR.out.2.symm rfl, by rw [HR.out.1]; exact OLines.nil_ _ _ _ _, below_drewN hbel _⟩
end Go.Proofs.YtokdneolgolkbaaDoor
