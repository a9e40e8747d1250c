/- The walk of the reference's Lines. -/
import Derived.Test.YtddhcmibimabnaaDoorW05e
import Derived.Test.YtddhcmibimabnaaDoorP05d
namespace Go.Proofs.YtddhcmibimabnaaDoor
open Go.RowKit P05

theorem str_sub (s : ByteArray) (a b : Nat) : Value.string (s.extract a b) = bstr (sub s.data.toList a b) := by
  unfold bstr sub
  congr 1
  have h := Lib.extract_data s a b
  have e : (⟨(s.extract a b).data.toList.toArray⟩ : ByteArray) = s.extract a b := mk_data _
  rw [← e, h]
theorem data_get (s : ByteArray) (k : Nat) (h : k < s.size) : s.data.toList[k]? = some s[k] := by
  rw [List.getElem?_eq_getElem (by rw [data_len]; exact h)]
  rfl
/-- The reference's state behind i bytes. -/
def LinesSo (er es : TypeId) (s : ByteArray) (w : World) (ov lv : Value) (from_ i : Nat) (out : List (List (List UInt8))) (line : List (List UInt8)) (wr : World) : Prop :=
  ∃ W1 : World, OLines w.heap.size er es W1 ov out ∧ Below w.heap.size w W1 ∧ Below W1.heap.size W1 wr ∧ wr.ownsRow W1.heap.size es 1 lv line.length (line.map bstr) ∧
    linesP s.data.toList = scan out line (sub s.data.toList from_ i) (s.data.toList.drop i)
set_option maxHeartbeats 4000000 in
set_option maxRecDepth 100000 in
theorem rlines_any (s : ByteArray) (w : World) (hs : s.size ≤ 1000000) :
    Calls Tryd.prog 10 #[.string s] w fun e w' => ∃ v, e = .returned (.tuple #[v, .int .i64 (linesE s.data.toList)]) ∧ OLines w.heap.size 35 9 w' v (linesV s.data.toList) ∧ Below w.heap.size w w' := by
  go_enter Tryd.func10, Tryd.ntmps10
  go_wp2_with fail
  go_loopw [4, 5, 6, 7] (fun ov lv fv iv wr => ∃ (from_ i : Nat) (out : List (List (List UInt8))) (line : List (List UInt8)), fv = .int .i64 from_ ∧ iv = .int .i64 i ∧ from_ ≤ i ∧ i ≤ s.size ∧ out.length ≤ i ∧ line.length ≤ i ∧ Hid (LinesSo 35 9 s w ov lv from_ i out line wr)) (fun _ _ _ iv _ => s.size - (intOf iv).toNat)
  case atStart => exact ⟨0, 0, [], [], rfl, rfl, Nat.le_refl _, Nat.zero_le _, Nat.le_refl _, Nat.le_refl _, w, OLines.nil_ _ _ _ _, Below.refl _ _, Below.refl _ _, World.ownsRow_nil _ _ _ _, rfl⟩
  case round =>
    obtain ⟨from_, i, out, line, rfl, rfl, hfi, his, hol, hll, HS⟩ := hrel
    by_cases hlt : i < s.size
    · have HG := Lib.hid (data_get s i hlt)
      have hbyte : (0 : Int) ≤ (s[i].toNat : Int) ∧ (s[i].toNat : Int) < 256 := ⟨by omega, by have := s[i].toNat_lt; omega⟩
      obtain ⟨hy0, hy1⟩ := hbyte
      by_cases hsep : s[i] = 32 ∨ s[i] = 10
      · by_cases hfe : from_ = i
        · subst hfe
          have HF : Hid (linesP s.data.toList = none) := by
            obtain ⟨W1, _, _, _, _, h⟩ := HS.out
            rw [sub_self, drop_at HG.out] at h
            exact h.trans (scan_empty hsep)
          have HR := Lib.hid (linesV_none HF.out)
          obtain ⟨W1, _, g2, g3, _, _⟩ := HS.out
          have hbel := g2.trans (g3.mono g2.size)
          clear g2 g3
          have hcase : ((s[from_].toNat : Int) != 32) = false ∨ (((s[from_].toNat : Int) != 32) = true ∧ ((s[from_].toNat : Int) != 10) = false) := by
            rcases hsep with hc | hc
            · exact .inl (by rw [hc]; rfl)
            · exact .inr ⟨by rw [hc]; rfl, by rw [hc]; rfl⟩
          clear hsep
          rcases hcase with e1 | ⟨e1, e2⟩
          all_goals
            go_wp2
            go_ret2
            exact ⟨.slice none 0 0, ret_lines HR.out.2.symm rfl, by rw [HR.out.1]; exact OLines.nil_ _ _ _ _, hbel⟩
        · have hfe1 : (i == from_) = false := by rw [beq_eq_false_iff_ne]; omega
          have hfe2 : ((i : Int) == (from_ : Int)) = false := by rw [beq_eq_false_iff_ne]; omega
          have hflt : from_ < i := by omega
          obtain ⟨W1, g1, g2, g3, g4, g5⟩ := HS.out
          rw [drop_at HG.out] at g5
          have HCUR := Lib.hid (sub_ne (l := s.data.toList) hflt (by rw [data_len]; exact his))
          have HSTR := Lib.hid (str_sub s from_ i)
          have HG5 := Lib.hid g5
          have hlln : line.length ≤ 1000000000 := by omega
          have hb1 := g3.size
          have HG1 := Lib.hid g1
          have kk0 : (from_ : Int) ≤ (i : Int) := by omega
          have kk1 : (i : Int) ≤ (s.size : Int) := by omega
          clear hfe g1 g5
          by_cases hc : s[i] = 32
          · have e1 : ((s[i].toNat : Int) != 32) = false := by rw [hc]; rfl
            have e3 : ((s[i].toNat : Int) == 10) = false := by rw [hc]; rfl
            have HN : Hid (linesP s.data.toList = scan out (line ++ [sub s.data.toList from_ i]) (sub s.data.toList (i + 1) (i + 1)) (s.data.toList.drop (i + 1))) := by
              show _ = _
              rw [HG5.out, hc, scan_sp HCUR.out, sub_self]
            clear hc hsep
            go_wp2_with (at_builtin; refine wpList_append_one' _ rfl (.tmp 33) (.tmp 38) 35 rfl W1.heap.size 9 _ 1 16 Tryd.underlying35 strinfo rfl (by decide) (by decide) _ _ _ g4 rfl [.string (s.extract from_ i)] _ rfl rfl rfl hlln hb1 ?_; intro g cap w5 ho5 hg0 hg1 hk5 hz5)
            go_roundw
            case rel =>
              refine ⟨i + 1, i + 1, out, line ++ [sub s.data.toList from_ i], by go_num, by go_num, Nat.le_refl _, by omega, by omega, by simp; omega, W1, HG1.out, g2, g3.trans (hk5.below hb1), ?_, HN.out⟩
              rw [HSTR.out] at ho5
              simpa using ho5
            case measure => simp [intOf]; omega
          · have hc10 : s[i] = 10 := by rcases hsep with h | h; exact absurd h hc; exact h
            have e1 : ((s[i].toNat : Int) != 32) = true := by rw [hc10]; rfl
            have e2 : ((s[i].toNat : Int) != 10) = false := by rw [hc10]; rfl
            have e3 : ((s[i].toNat : Int) == 10) = true := by rw [hc10]; rfl
            have HN : Hid (linesP s.data.toList = scan (out ++ [line ++ [sub s.data.toList from_ i]]) [] (sub s.data.toList (i + 1) (i + 1)) (s.data.toList.drop (i + 1))) := by
              show _ = _
              rw [HG5.out, hc10, scan_nl HCUR.out, sub_self]
            obtain ⟨css, q1, q2, q3, q4⟩ := HG1.out
            have HQ1 := Lib.hid q1
            have HQ2 := Lib.hid q2
            have HQ4 := Lib.hid q4
            have HQ3 := Lib.hid q3
            have holn : out.length ≤ 1000000000 := by omega
            clear hc hc10 hsep q1 q2 q3 q4
            go_wp2_with (first
              | (at_builtin; refine wpList_append_one' _ rfl (.tmp 33) (.tmp 38) 35 rfl W1.heap.size 9 _ 1 16 Tryd.underlying35 strinfo rfl (by decide) (by decide) _ _ _ g4 rfl [.string (s.extract from_ i)] _ rfl rfl rfl hlln hb1 ?_; intro g cap w5 ho5 hg0 hg1 hk5 hz5; have kb5 := g3.trans (hk5.below hb1); have how := own_below HQ3.out kb5 (Nat.le_refl _); have hb2 : w.heap.size ≤ w5.heap.size := Nat.le_trans g2.size kb5.size)
              | (at_builtin; refine wpList_append_one' _ rfl (.tmp 44) (.tmp 46) 22 rfl w.heap.size 35 _ 1 24 Tryd.underlying22 strsinfo rfl (by decide) (by decide) _ _ _ how rfl [.slice (some ⟨g, 0, none⟩) (line.length + 1) cap] _ rfl rfl rfl holn hb2 ?_; intro g' cap' w6 ho6 hg0' hg1' hk6 hz6))
            go_roundw
            case rel =>
              refine ⟨i + 1, i + 1, out ++ [line ++ [sub s.data.toList from_ i]], [], by go_num, by go_num, Nat.le_refl _, by omega, by simp; omega, by simp, w6, ?_, (g2.trans (kb5.mono g2.size)).trans (hk6.below hb2), Below.refl _ _, World.ownsRow_nil _ _ _ _, HN.out⟩
              refine OL.push (n := out.length) rfl HQ1.out HQ2.out rfl ho6 (fun a x cs hx hcs => ?_) ⟨_, rfl, ?_⟩
              · obtain ⟨v, rfl, hv⟩ := HQ4.out a x cs hx hcs
                exact ⟨v, rfl, hk6.own (own_below hv kb5 (Nat.le_refl _)) (by decide)⟩
              · rw [HSTR.out] at ho5
                have := hk6.own (own_mono ho5 g2.size) (by decide)
                simpa using this
            case measure => simp [intOf]; omega
      · have h32 : s[i] ≠ 32 := fun h => hsep (.inl h)
        have h10 : s[i] ≠ 10 := fun h => hsep (.inr h)
        have e1 : ((s[i].toNat : Int) != 32) = true := by rw [bne_iff_ne]; intro h; exact h32 (UInt8.toNat_inj.1 (by have e48 : (32 : UInt8).toNat = 32 := rfl; omega))
        have e2 : ((s[i].toNat : Int) != 10) = true := by rw [bne_iff_ne]; intro h; exact h10 (UInt8.toNat_inj.1 (by have e48 : (10 : UInt8).toNat = 10 := rfl; omega))
        have H32 := Lib.hid h32
        have H10 := Lib.hid h10
        clear hsep h32 h10
        by_cases ho : okByte s[i] = true
        · obtain ⟨h1, h2⟩ := (okByte_iff _).1 ho
          have HN : Hid (LinesSo 35 9 s w u4 u5 from_ (i + 1) out line wr) := by
            obtain ⟨W1, g1, g2, g3, g4, g5⟩ := HS.out
            rw [drop_at HG.out, scan_ok ho, ← sub_snoc hfi HG.out] at g5
            exact ⟨W1, g1, g2, g3, g4, g5⟩
          clear ho
          go_wp2
          go_roundw
          case rel => exact ⟨from_, i + 1, out, line, rfl, by go_num, by omega, by omega, by omega, by omega, HN⟩
          case measure => simp [intOf]; omega
        · have hc : (s[i].toNat : Int) < 33 ∨ (33 ≤ (s[i].toNat : Int) ∧ 126 < (s[i].toNat : Int)) := by
            by_cases a : 33 ≤ (s[i].toNat : Int)
            · by_cases b : (s[i].toNat : Int) ≤ 126
              · exact absurd ((okByte_iff s[i]).2 ⟨a, b⟩) ho
              · exact .inr ⟨a, by omega⟩
            · exact .inl (by omega)
          obtain ⟨W1, g1, g2, g3, g4, g5⟩ := HS.out
          rw [drop_at HG.out, scan_bad (by simpa using ho) H32.out H10.out] at g5
          have HR := Lib.hid (linesV_none g5)
          have hbel := g2.trans (g3.mono g2.size)
          clear ho g1 g2 g3 g4 g5
          rcases hc with h1 | ⟨h1, h2⟩
          all_goals
            go_wp2
            go_ret2
            exact ⟨.slice none 0 0, ret_lines HR.out.2.symm rfl, by rw [HR.out.1]; exact OLines.nil_ _ _ _ _, hbel⟩
    · obtain rfl : i = s.size := by omega
      obtain ⟨W1, g1, g2, g3, g4, g5⟩ := HS.out
      have hdr : s.data.toList.drop s.size = [] := List.drop_of_length_le (by rw [data_len]; exact Nat.le_refl _)
      rw [hdr] at g5
      have hbel := g2.trans (g3.mono g2.size)
      have HG1 := Lib.hid g1
      have HG3 := Lib.hid g3
      have hline : ∃ A c, u5 = .slice A line.length c := by
        obtain ⟨A, c, hv, _⟩ := RS.of_own g4
        exact ⟨A, c, hv⟩
      obtain ⟨A, c, rfl⟩ := hline
      clear hdr g1 g2 g3 g4
      by_cases hf : from_ < s.size
      · have HR := Lib.hid (linesV_none (g5.trans (scan_end_no (.inl (sub_ne hf (by rw [data_len]; exact Nat.le_refl _))))))
        have hf' : (from_ : Int) < (s.size : Int) := by omega
        clear g5 hf
        go_wp2
        go_ret2
        exact ⟨.slice none 0 0, ret_lines HR.out.2.symm rfl, by rw [HR.out.1]; exact OLines.nil_ _ _ _ _, hbel⟩
      · obtain rfl : from_ = s.size := by omega
        by_cases hl0 : line.length = 0
        · obtain rfl : line = [] := List.eq_nil_of_length_eq_zero hl0
          rw [sub_self] at g5
          have HR := Lib.hid (linesV_some (g5.trans scan_end))
          clear g5 hf hl0
          go_wp2
          go_ret2
          exact ⟨_, ret_lines HR.out.2.symm rfl, by rw [HR.out.1]; exact HG1.out.below HG3.out (Nat.le_refl _), hbel⟩
        · have HR := Lib.hid (linesV_none (g5.trans (scan_end_no (.inr (fun e => hl0 (by rw [e]; rfl))))))
          have hl1 : (0 : Int) < (line.length : Int) := by omega
          have hl2 : 0 < line.length := by omega
          clear g5 hf hl0
          go_wp2
          go_ret2
          exact ⟨.slice none 0 0, ret_lines HR.out.2.symm rfl, by rw [HR.out.1]; exact OLines.nil_ _ _ _ _, hbel⟩
end Go.Proofs.YtddhcmibimabnaaDoor
