/- The walks of Word and of the two Lines. -/
import Derived.Test.YtddhcmibimabnaaDoorW05m
namespace Go.Proofs.YtddhcmibimabnaaDoor
open Go.RowKit P05

/-- A byte made one of a word. -/
def fixB (c : UInt8) : UInt8 := if okByte c = true then c else 120
/-- A word made of any bytes. -/
def wordB (x : List UInt8) : List UInt8 := if (x.take 12).isEmpty = true then [120] else (x.take 12).map fixB
theorem fixB_ok (c : UInt8) : okByte (fixB c) = true := by
  unfold fixB
  by_cases h : okByte c = true
  · rw [if_pos h]; exact h
  · rw [if_neg h]; decide
theorem wordB_word (x : List UInt8) : isWord (wordB x) = true := by
  unfold wordB
  by_cases h : (x.take 12).isEmpty = true
  · rw [if_pos h]; decide
  · rw [if_neg h]
    unfold isWord
    rw [Bool.and_eq_true]
    refine ⟨?_, ?_⟩
    · simpa using h
    · rw [List.all_eq_true]
      intro c hc
      obtain ⟨d, _, rfl⟩ := List.mem_map.1 hc
      exact fixB_ok d
theorem wordB_len (x : List UInt8) : (wordB x).length ≤ 12 := by
  unfold wordB
  split
  · simp
  · rw [List.length_map, List.length_take]; omega
/-- The cells of a row of bytes. -/
def cellsB (l : List UInt8) : List Value := l.map fun c => .int .u8 (c.toNat : Int)
theorem u8info : (Tryd.prog.info? 5).map (fun i => (i.zero, i.size, i.bytes)) = some (some (.int .u8 0), 1, 1) := by kernel_rfl
theorem run_bytes {w : World} {lb : Nat} {e : TypeId} {A : Option Addr} {n c : Nat} {L : List UInt8} (h : w.ownsRow lb e 1 (.slice A n c) n (cellsB L)) (h0 : 0 < n) :
    ∃ a, A = some a ∧ (convert 50 9 (.slice (some a) n c)).run Tryd.prog w = .ok (.string ⟨L.toArray⟩) w := by
  obtain ⟨A', c', hv, _, _, h3, h4⟩ := RS.of_own h
  injection hv with e1 _ e3
  subst e1; subst e3
  obtain ⟨b, o, rfl, _, hc⟩ := h4 h0
  have hL : L.length = n := by unfold cellsB at h3; rw [List.length_map] at h3; omega
  subst hL
  refine ⟨_, rfl, run_convert_bytes_back w 50 9 5 ⟨b, o, none⟩ c L Tryd.underlying50 Tryd.underlying5 Tryd.underlying9 (fun j hj => ?_)⟩
  have hadd : (⟨b, o, none⟩ : Addr).add j = ⟨b, o + j, none⟩ := by unfold Addr.add; split <;> simp_all
  rw [hadd]
  refine hc j _ ?_
  unfold cellsB
  rw [List.getElem?_map, List.getElem?_eq_getElem hj]
  rfl
theorem cellsB_snoc (l : List UInt8) (c : UInt8) : cellsB (l ++ [c]) = cellsB l ++ [.int .u8 (c.toNat : Int)] := by unfold cellsB; simp
theorem own_as1 {w : World} {lb : Nat} {e : TypeId} {v : Value} {n : Nat} {xs ys : List Value} (h : ys = xs) (ho : w.ownsRow lb e 1 v n xs) : w.ownsRow lb e 1 v n ys := h ▸ ho
theorem wordB_none (l : List UInt8) (h : (l.take 0).map fixB = (l.take 12).map fixB) : wordB l = [120] := by
  have : l.take 12 = [] := by simpa using h.symm
  unfold wordB
  rw [this]
  rfl
theorem wordB_some (l : List UInt8) {k : Nat} (h : (l.take k).map fixB = (l.take 12).map fixB) (hk : 0 < k) (hl : k ≤ l.length) : wordB l = (l.take k).map fixB := by
  have h1 : (l.take 12).isEmpty = false := by
    have := congrArg List.length h
    simp only [List.length_map, List.length_take] at this
    cases e : l.take 12 with
    | nil =>
      rw [e] at h
      have h2 := congrArg List.length h
      rw [List.length_map, List.length_take] at h2
      simp only [List.map_nil, List.length_nil] at h2
      omega
    | cons a t => rfl
  unfold wordB
  rw [h1, h]
  rfl

set_option maxHeartbeats 1000000 in
set_option maxRecDepth 100000 in
theorem word_any (s : ByteArray) (w : World) (hs : s.size ≤ 9223372036854775807) :
    Calls Tryd.prog 19 #[.string s] w fun e w' => e = .returned (bstr (wordB s.data.toList)) ∧ Below w.heap.size w w' := by
  have HLN := Lib.hid (data_len s)
  go_enter Tryd.func19, Tryd.ntmps19
  go_wp2_with fail
  go_loopw [3, 4] (fun sv iv wr => ∃ k : Nat, k ≤ s.size ∧ k ≤ 12 ∧ iv = .int .i64 k ∧ Hid (wr.ownsRow w.heap.size 5 1 sv k (cellsB ((s.data.toList.take k).map fixB))) ∧ Below w.heap.size w wr) (fun _ iv _ => 12 - (intOf iv).toNat)
  case atStart => exact ⟨0, Nat.zero_le _, Nat.zero_le _, rfl, World.ownsRow_nil _ _ _ _, Below.refl _ _⟩
  case round =>
    obtain ⟨k, hk, hk12, rfl, HO, hbel⟩ := hrel
    by_cases hlt : k < s.size ∧ k < 12
    · obtain ⟨hlt, hlt12⟩ := hlt
      have hts := take_snoc s k hlt
      have hbase := hbel.size
      have hkn : k ≤ 1000000000 := by omega
      have how := HO.out
      by_cases ho : okByte s[k] = true
      · obtain ⟨h1, h2⟩ := (okByte_iff _).1 ho
        have HB : Hid (cellsB ((s.data.toList.take (k + 1)).map fixB) = cellsB ((s.data.toList.take k).map fixB) ++ [.int .u8 (s[k].toNat : Int)]) := by
          show _ = _
          rw [hts, List.map_append, List.map_cons, List.map_nil, cellsB_snoc, show fixB s[k] = s[k] from if_pos ho]
        clear ho hts
        go_wp2_with (at_builtin; refine wpList_append_one _ rfl (.tmp 25) (.tmp 27) 50 rfl w.heap.size 5 _ 1 1 Tryd.underlying50 u8info rfl (by decide) (by decide) _ _ _ how rfl [.int .u8 (s[k].toNat : Int)] _ rfl rfl rfl hkn hbase ?_; intro v5 w5 ho5 hb5 hz5)
        go_roundw
        case rel => exact ⟨k + 1, by omega, by omega, by go_num, own_as1 HB.out ho5, hbel.trans hb5⟩
        case measure => simp [intOf]; omega
      · have HB : Hid (cellsB ((s.data.toList.take (k + 1)).map fixB) = cellsB ((s.data.toList.take k).map fixB) ++ [.int .u8 120]) := by
          show _ = _
          rw [hts, List.map_append, List.map_cons, List.map_nil, cellsB_snoc, show fixB s[k] = 120 from if_neg ho]
          rfl
        have hc : (s[k].toNat : Int) < 33 ∨ (33 ≤ (s[k].toNat : Int) ∧ 126 < (s[k].toNat : Int)) := by
          by_cases a : 33 ≤ (s[k].toNat : Int)
          · by_cases b : (s[k].toNat : Int) ≤ 126
            · exact absurd ((okByte_iff s[k]).2 ⟨a, b⟩) ho
            · exact .inr ⟨a, by omega⟩
          · exact .inl (by omega)
        clear ho hts
        rcases hc with h1 | ⟨h1, h2⟩
        all_goals
          go_wp2_with (at_builtin; refine wpList_append_one _ rfl (.tmp 25) (.tmp 27) 50 rfl w.heap.size 5 _ 1 1 Tryd.underlying50 u8info rfl (by decide) (by decide) _ _ _ how rfl [.int .u8 120] _ rfl rfl rfl hkn hbase ?_; intro v5 w5 ho5 hb5 hz5)
          go_roundw
          case rel => exact ⟨k + 1, by omega, by omega, by go_num, own_as1 HB.out ho5, hbel.trans hb5⟩
          case measure => simp [intOf]; omega
    · have hexit : (¬ k < s.size) ∨ (k < s.size ∧ (12 : Int) ≤ (k : Int)) := by omega
      have hsame : (s.data.toList.take k).map fixB = (s.data.toList.take 12).map fixB := by
        by_cases h : k = 12
        · rw [h]
        · rw [List.take_of_length_le (by rw [HLN.out]; omega), List.take_of_length_le (by rw [HLN.out]; omega)]
      by_cases h0 : k = 0
      · subst h0
        have HW := Lib.hid (wordB_none _ hsame)
        obtain ⟨A, c, rfl, -⟩ := RS.of_own HO.out
        clear hsame
        rcases hexit with h1 | ⟨h1, h2⟩
        · go_wp2
          go_ret
          rw [HW.out]
          exact ⟨rfl, hbel⟩
        · omega
      · have HW := Lib.hid (wordB_some _ hsame (by omega) (by rw [HLN.out]; omega))
        have hk0 : ((k : Int) == 0) = false := by rw [beq_eq_false_iff_ne]; omega
        obtain ⟨A, c, rfl, -⟩ := RS.of_own HO.out
        obtain ⟨a, rfl, kc⟩ := run_bytes HO.out (by omega)
        clear hsame
        rcases hexit with h1 | ⟨h1, h2⟩
        all_goals
          go_wp2
          go_ret
          rw [HW.out, List.map_take]
          exact ⟨rfl, hbel⟩
theorem joinB_snoc (b : UInt8) : ∀ (l : List (List UInt8)) (x : List UInt8), joinB b (l ++ [x]) = if l.isEmpty = true then x else joinB b l ++ [b] ++ x
  | [], x => rfl
  | [a], x => by simp [joinB]
  | a :: c :: t, x => by
    have ih := joinB_snoc b (c :: t) x
    simp only [List.isEmpty_cons, List.cons_append, joinB] at ih ⊢
    simp [ih]
theorem joinB_len (b : UInt8) (m : Nat) : ∀ (l : List (List UInt8)), (∀ x ∈ l, x.length ≤ m) → (joinB b l).length ≤ l.length * (m + 1)
  | [], _ => by simp [joinB]
  | [a], h => by
    have := h a (by simp)
    simp [joinB]
    omega
  | a :: c :: t, h => by
    have ih := joinB_len b m (c :: t) fun x hx => h x (by simp at hx ⊢; exact .inr hx)
    have := h a (by simp)
    simp only [joinB, List.length_append, List.length_cons] at ih ⊢
    rw [Nat.add_mul _ 1]
    omega
theorem ba_append (a b : ByteArray) : (a ++ b).data.toList = a.data.toList ++ b.data.toList := by
  rw [ByteArray.data_append]
  simp
theorem ba_eta (s : ByteArray) (l : List UInt8) (h : s.data.toList = l) : s = ⟨l.toArray⟩ := by
  subst h
  cases s
  simp
/-- The program's Line. -/
theorem line_any (l : List (List UInt8)) (v : Value) (w : World) (hr : RStrs w v l) (hl : l.length ≤ 1000) (hs : ∀ x ∈ l, x.length ≤ 1000) :
    Calls Tryd.prog 20 #[v] w fun e w' => e = .returned (bstr (lineP l)) ∧ Below w.heap.size w w' := by
  have hjl := joinB_len 32 1000 l hs
  have hj2 : l.length * (1000 + 1) ≤ 1000 * 1001 := Nat.mul_le_mul hl (Nat.le_refl _)
  have HC := Lib.hid (join_any v l 32 w hr (by omega) (by omega))
  have hsz : (joinB 32 l).length ≤ 100000000 := by omega
  have HE : Hid (lineP l = joinB 32 l ++ [10]) := rfl
  clear hr hl hs hjl hj2
  generalize joinB 32 l = J at HC hsz HE
  go_enter Tryd.func20, Tryd.ntmps20
  go_wp2_with fail
  refine HC.out.mono ?_
  rintro e w2 ⟨rfl, hb2⟩
  unfold bstr
  go_wp2
  go_ret
  rw [HE.out]
  exact ⟨congrArg Ending.returned (bstr_append J [10]), hb2⟩
set_option maxHeartbeats 1000000 in
set_option maxRecDepth 100000 in
/-- The reference's Line. -/
theorem rline_any (l : List (List UInt8)) (v : Value) (w : World) (hr : RStrs w v l) (hl : l.length ≤ 1000) (hs : ∀ x ∈ l, x.length ≤ 1000) :
    Calls Tryd.prog 21 #[v] w fun e w' => e = .returned (bstr (lineP l)) ∧ w' = w := by
  obtain ⟨A, c, rfl, h1, h2, hlc⟩ := hr.open_
  have HL := Lib.hid hlc
  have HS := Lib.hid hs
  clear hlc hr hs
  go_enter Tryd.func21, Tryd.ntmps21
  go_wp2_with fail
  go_loop [3, 4] (fun sv iv => ∃ (k : Nat) (s : ByteArray), k ≤ l.length ∧ iv = .int .i64 k ∧ sv = .string s ∧ s.size ≤ k * 1001 ∧ Hid (s.data.toList = joinB 32 (l.take k))) (fun _ iv => l.length - (intOf iv).toNat)
  case atStart => exact ⟨0, _, Nat.zero_le _, rfl, rfl, Nat.zero_le _, rfl⟩
  case round =>
    obtain ⟨k, s, hk, rfl, rfl, hsz, HI⟩ := hrel
    by_cases hlt : k < l.length
    · obtain ⟨x, hx⟩ := some_of_lt hlt
      obtain ⟨b, o, rfl, hb, hc0⟩ := HL.out k x hx
      have hxl := HS.out x (List.mem_of_getElem? hx)
      obtain ⟨t, ht⟩ : ∃ t : ByteArray, (⟨x.toArray⟩ : ByteArray) = t := ⟨_, rfl⟩
      rw [ht] at hc0
      have htd : t.data.toList = x := by rw [← ht]
      have hts : t.size ≤ 1000 := by rw [← data_len, htd]; exact hxl
      have hst : l.take (k + 1) = l.take k ++ [x] := by rw [List.take_add_one, hx]; rfl
      have hjn := joinB_snoc 32 (l.take k) x
      rw [← hst] at hjn
      have hlk : (l.take k).length = k := by rw [List.length_take]; omega
      by_cases h0 : k = 0
      · subst h0
        have HN : Hid ((s ++ t).data.toList = joinB 32 (l.take (0 + 1))) := by
          show _ = _
          rw [ba_append, HI.out, hjn, htd]
          rfl
        rw [Nat.add_zero] at hc0
        have hss : (s ++ t).size ≤ (0 + 1) * 1001 := by rw [ByteArray.size_append]; omega
        clear hst hjn hlk hx ht htd
        go_wp2
        go_round
        case rel => exact ⟨0 + 1, _, by omega, by go_num, rfl, hss, HN⟩
        case measure => simp [intOf]; omega
      · have HN : Hid (((s ++ ⟨#[32]⟩) ++ t).data.toList = joinB 32 (l.take (k + 1))) := by
          show _ = _
          have he : (l.take k).isEmpty = false := by
            cases e : l.take k with
            | nil => rw [e] at hlk; simp at hlk; omega
            | cons a t => rfl
          rw [ba_append, ba_append, HI.out, hjn, htd, he]
          rfl
        have hss : ((s ++ ⟨#[32]⟩) ++ t).size ≤ (k + 1) * 1001 := by
          rw [ByteArray.size_append, ByteArray.size_append]
          have : (⟨#[32]⟩ : ByteArray).size = 1 := rfl
          omega
        have hk0 : (0 : Int) < (k : Int) := by omega
        have hsb : s.size ≤ 10000000 := by omega
        clear hst hjn hlk hx ht htd h0
        go_wp2
        go_round
        case rel => exact ⟨k + 1, _, by omega, by go_num, rfl, hss, HN⟩
        case measure => simp [intOf]; omega
    · obtain rfl : k = l.length := by omega
      have HF : Hid (bstr (lineP l) = .string (s ++ ⟨#[10]⟩)) := by
        have := HI.out
        rw [List.take_length] at this
        show bstr (joinB 32 l ++ [10]) = _
        rw [← this, ba_eta (s ++ ⟨#[10]⟩) _ (ba_append _ _)]
        rfl
      have hsb : s.size ≤ 10000000 := by omega
      go_wp2
      go_ret
      exact ⟨congrArg Ending.returned HF.out.symm, rfl⟩
end Go.Proofs.YtddhcmibimabnaaDoor
