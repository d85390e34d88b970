/- The reference's Int: what it tells. -/
import Derived.Test.YtbfbmgkgaokecaaDoorSq12
set_option linter.unusedVariables false
set_option linter.unusedSimpArgs false
namespace Go.Proofs.YtbfbmgkgaokecaaDoor.Vb
open Go.RowKit

/-- From number n on, down the digits. -/
def downS : List UInt8 → Int → Option Int
  | [], n => some n
  | c :: r, n => if (c.toNat : Int) - 48 < 0 then none else if 9 < (c.toNat : Int) - 48 then none
      else if n < -((9223372036854775808 - ((c.toNat : Int) - 48)) / 10) then none else downS r (10 * n - ((c.toNat : Int) - 48))
def fromS (s : ByteArray) : Nat := if s.data.toList.head? = some 45 then 1 else 0
def rIntS (s : ByteArray) : Option Int :=
  if s.size = fromS s ∨ 20 < s.size then none else
  match downS (s.data.toList.drop (fromS s)) 0 with
  | none => none
  | some n => if fromS s = 0 ∧ n = -9223372036854775808 then none
      else if txt (if fromS s = 0 then -n else n) = s then some (if fromS s = 0 then -n else n) else none
def rIntV (s : ByteArray) : Value := match rIntS s with | some n => .tuple #[.int .i64 n, .bool true] | none => .tuple #[.int .i64 0, .bool false]

theorem down_neg {c : UInt8} {r : List UInt8} {n : Int} (h : (c.toNat : Int) < 48) : downS (c :: r) n = none := by rw [downS, if_pos (by omega)]
theorem down_big {c : UInt8} {r : List UInt8} {n : Int} (h : 57 < (c.toNat : Int)) : downS (c :: r) n = none := by rw [downS, if_neg (by omega), if_pos (by omega)]
theorem down_low {c : UInt8} {r : List UInt8} {n : Int} (h : 48 ≤ (c.toNat : Int)) (h2 : (c.toNat : Int) ≤ 57) (h3 : n < -((9223372036854775808 - ((c.toNat : Int) - 48)) / 10)) : downS (c :: r) n = none := by
  rw [downS, if_neg (by omega), if_neg (by omega), if_pos h3]
theorem down_next {c : UInt8} {r : List UInt8} {n : Int} (h : 48 ≤ (c.toNat : Int)) (h2 : (c.toNat : Int) ≤ 57) (h3 : ¬ n < -((9223372036854775808 - ((c.toNat : Int) - 48)) / 10)) : downS (c :: r) n = downS r (10 * n - ((c.toNat : Int) - 48)) := by
  rw [downS, if_neg (by omega), if_neg (by omega), if_neg h3]
theorem tdiv_low (c : UInt8) (h : 48 ≤ (c.toNat : Int)) (h2 : (c.toNat : Int) ≤ 57) : Int.tdiv (-9223372036854775808 + ((c.toNat : Int) - 48)) 10 = -((9223372036854775808 - ((c.toNat : Int) - 48)) / 10) := by
  rw [show (-9223372036854775808 + ((c.toNat : Int) - 48)) = -(9223372036854775808 - ((c.toNat : Int) - 48)) by omega, Int.neg_tdiv, Int.tdiv_eq_ediv_of_nonneg (by omega)]

set_option maxHeartbeats 1600000 in
set_option maxRecDepth 20000 in
theorem rInt_calls0 (s : ByteArray) (hs : 0 < s.size) (hz : s.size ≤ 20) (w : World) (hf : (s[0]'hs) ≠ 45) :
    Calls Tryd.prog 34 #[.string s] w fun e w' => e = .returned (rIntV s) ∧ Below w.heap.size w w' := by
  have hlen : s.data.toList.length = s.size := Array.length_toList
  obtain ⟨Z, hZ⟩ : ∃ Z, s[0]'hs = Z := ⟨_, rfl⟩
  rw [hZ] at hf
  have hzl : s.data.toList[0]'(by rw [hlen]; exact hs) = Z := by rw [← hZ]; show _ = s.data[0]'hs; simp
  have hzt : ((Z.toNat : Int) == 45) = false := by
    rw [beq_eq_false_iff_ne]; intro e; exact hf (UInt8.toNat_inj.1 (show Z.toNat = (45 : UInt8).toNat by have : (45 : UInt8).toNat = 45 := rfl; omega))
  have hfr : fromS s = 0 := by
    unfold fromS
    rw [if_neg]
    rw [List.head?_eq_getElem?, List.getElem?_eq_getElem (by omega), hzl]
    intro e; exact hf (Option.some.inj e)
  have hnone : downS s.data.toList 0 = none → rIntV s = .tuple #[.int .i64 0, .bool false] := by
    intro e
    unfold rIntV rIntS
    rw [hfr, if_neg (by omega), List.drop_zero, e]
  have hlow : downS s.data.toList 0 = some (-9223372036854775808) → rIntV s = .tuple #[.int .i64 0, .bool false] := by
    intro e
    unfold rIntV rIntS
    rw [hfr, if_neg (by omega), List.drop_zero, e]
    simp
  have N1 := Lib.hid hlow
  clear hlow
  have hsome : ∀ n, downS s.data.toList 0 = some n → n ≠ -9223372036854775808 → rIntV s = if txt (-n) = s then .tuple #[.int .i64 (-n), .bool true] else .tuple #[.int .i64 0, .bool false] := by
    intro n e hn
    unfold rIntV rIntS
    rw [hfr, if_neg (by omega), List.drop_zero, e]
    simp only [hn, and_false, if_false, if_true]
    by_cases h : txt (-n) = s
    · simp only [h, if_true]
    · simp only [h, if_false]
  have hne : ¬ s = ByteArray.empty := by rintro rfl; exact absurd hs (by decide)
  have hsz : ((s.size : Int) == 0) = false := by rw [beq_eq_false_iff_ne]; omega
  have hR := fun n h0 h1 w => rText_calls (2 * n.natAbs + 1) n (by omega) h0 h1 w
  have N0 := Lib.hid hnone
  have N2 := Lib.hid hsome
  have HL := Lib.hid hlen
  have HR := Lib.hid hR
  clear hnone hsome hlen hfr hf hzl hR
  go_enter Tryd.func34, Tryd.ntmps34
  go_wp2
  go_loopw [5, 6] (fun n i wr => ∃ (k : Nat) (m : Int), 0 ≤ k ∧ k ≤ s.size ∧ i = .int .i64 k ∧ n = .int .i64 m ∧ Hid (-9223372036854775808 ≤ m ∧ m ≤ 0) ∧ Hid (downS s.data.toList 0 = downS (s.data.toList.drop k) m) ∧ Below w.heap.size w wr) (fun _ i _ => s.size - (intOf i).toNat)
  case atStart => exact ⟨0, 0, Nat.le_refl _, by omega, rfl, rfl, Lib.hid ⟨by omega, by omega⟩, Lib.hid rfl, Below.refl _ _⟩
  case round =>
    obtain ⟨k, m, hk0, hk, rfl, rfl, hm, hd, hb⟩ := hrel
    by_cases hlt : k < s.size
    · have hkl : k < s.data.toList.length := by have := HL.out; omega
      obtain ⟨A, hA⟩ : ∃ A, s[k] = A := ⟨_, rfl⟩
      have hA2 : s.data.toList[k] = A := by rw [← hA]; simp; rfl
      have hdr : s.data.toList.drop k = A :: s.data.toList.drop (k + 1) := by rw [List.drop_eq_getElem_cons hkl, hA2]
      have HD := Lib.hid hdr
      clear hA2 hdr
      have a8 := A.toNat_lt
      by_cases c1 : (A.toNat : Int) < 48
      · go_wp2
        go_ret2
        refine ⟨?_, hb⟩
        rw [N0.out (by rw [hd.out, HD.out, down_neg c1])]; rfl
      by_cases c2 : 57 < (A.toNat : Int)
      · go_wp2
        go_ret2
        refine ⟨?_, hb⟩
        rw [N0.out (by rw [hd.out, HD.out, down_big c2])]; rfl
      have HT := Lib.hid (tdiv_low A (by omega) (by omega))
      have C1 := c1
      have C2 := c2
      go_wp2
      · have ht : ((A.toNat : Int) - 48 < 0 ∨ 9 < (A.toNat : Int) - 48) ∨ m < Int.tdiv (-9223372036854775808 + ((A.toNat : Int) - 48)) 10 := by assumption
        rw [HT.out] at ht
        go_ret2
        refine ⟨?_, hb⟩
        rw [N0.out (by rw [hd.out, HD.out, down_low (by omega) (by omega) (by omega)])]; rfl
      · have ht : (0 ≤ (A.toNat : Int) - 48 ∧ (A.toNat : Int) - 48 ≤ 9) ∧ Int.tdiv (-9223372036854775808 + ((A.toNat : Int) - 48)) 10 ≤ m := by assumption
        rw [HT.out] at ht
        go_roundw
        case rel =>
          have h0 := hm.out
          have e1 : wrap64 (wrap64 (10 * m) - ((A.toNat : Int) - 48)) = 10 * m - ((A.toNat : Int) - 48) := by unfold wrap64; omega
          refine ⟨k + 1, 10 * m - ((A.toNat : Int) - 48), by omega, by omega, by go_num, by rw [e1], Lib.hid ⟨by omega, by omega⟩, Lib.hid ?_, hb⟩
          rw [hd.out, HD.out, down_next (by omega) (by omega) (by omega)]
        case measure => simp [intOf]; omega
    · have hdn : Hid (downS s.data.toList 0 = some m) := Lib.hid (by rw [hd.out, List.drop_eq_nil_of_le (by have := HL.out; omega), downS])
      by_cases hlo : m = -9223372036854775808
      · subst hlo
        go_wp2
        go_ret2
        refine ⟨?_, hb⟩
        rw [N1.out hdn.out]; rfl
      have hmt : (m == -9223372036854775808) = false := by rw [beq_eq_false_iff_ne]; exact hlo
      have HLo := Lib.hid hlo
      clear hlo
      go_wp2_with fail
      rw [show wrap64 (-m) = -m by have := hm.out; have := HLo.out; unfold wrap64; omega]
      refine (HR.out (-m) (by have := hm.out; omega) (by have := hm.out; have := HLo.out; omega) _).mono ?_
      rintro e w1 ⟨rfl, b1⟩
      have h2 := N2.out _ hdn.out HLo.out
      generalize ht : txt (-m) = t at *
      have H2 := Lib.hid h2
      clear h2
      have teq : (t.toList == s.toList) = decide (t = s) := by rw [← ht]; exact txt_eq _ s
      have HTe := Lib.hid teq
      clear teq ht
      go_wp2_with fail
      · have hx : (!t.toList == s.toList) = true := by assumption
        rw [HTe.out] at hx
        have hne2 : ¬ t = s := by simpa using hx
        go_ret2
        refine ⟨?_, Below.comp hb b1⟩
        rw [H2.out, if_neg hne2]; rfl
      · have hx : (!t.toList == s.toList) = false := by assumption
        rw [HTe.out] at hx
        have hne2 : t = s := by simpa using hx
        go_ret2
        refine ⟨?_, Below.comp hb b1⟩
        rw [H2.out, if_pos hne2]; rfl

set_option maxHeartbeats 1600000 in
set_option maxRecDepth 20000 in
theorem rInt_calls1 (s : ByteArray) (hs : 1 < s.size) (hz : s.size ≤ 20) (w : World) (hf : (s[0]'(Nat.lt_trans Nat.zero_lt_one hs)) = 45) :
    Calls Tryd.prog 34 #[.string s] w fun e w' => e = .returned (rIntV s) ∧ Below w.heap.size w w' := by
  have hlen : s.data.toList.length = s.size := Array.length_toList
  obtain ⟨Z, hZ⟩ : ∃ Z, s[0]'(Nat.lt_trans Nat.zero_lt_one hs) = Z := ⟨_, rfl⟩
  rw [hZ] at hf
  have hzl : s.data.toList[0]'(by rw [hlen]; exact (Nat.lt_trans Nat.zero_lt_one hs)) = Z := by rw [← hZ]; show _ = s.data[0]'(Nat.lt_trans Nat.zero_lt_one hs); simp
  have hzt : ((Z.toNat : Int) == 45) = true := by rw [hf]; rfl
  have hfr : fromS s = 1 := by
    unfold fromS
    rw [if_pos]
    rw [List.head?_eq_getElem?, List.getElem?_eq_getElem (by omega), hzl, hf]
  have hnone : downS (s.data.toList.drop 1) 0 = none → rIntV s = .tuple #[.int .i64 0, .bool false] := by
    intro e
    unfold rIntV rIntS
    rw [hfr, if_neg (by omega), e]
  have hsome : ∀ n, downS (s.data.toList.drop 1) 0 = some n → rIntV s = if txt n = s then .tuple #[.int .i64 n, .bool true] else .tuple #[.int .i64 0, .bool false] := by
    intro n e
    unfold rIntV rIntS
    rw [hfr, if_neg (by omega), e]
    simp only [Nat.one_ne_zero, false_and, if_false]
    by_cases h : txt n = s
    · simp only [h, if_true]
    · simp only [h, if_false]
  have hne : ¬ s = ByteArray.empty := by rintro rfl; exact absurd hs (by decide)
  have hsz : ((s.size : Int) == 1) = false := by rw [beq_eq_false_iff_ne]; omega
  have hR := fun n h0 h1 w => rText_calls (2 * n.natAbs + 1) n (by omega) h0 h1 w
  have N0 := Lib.hid hnone
  have N2 := Lib.hid hsome
  have HL := Lib.hid hlen
  have HR := Lib.hid hR
  clear hnone hsome hlen hfr hf hzl hR
  go_enter Tryd.func34, Tryd.ntmps34
  go_wp2
  go_loopw [5, 6] (fun n i wr => ∃ (k : Nat) (m : Int), 1 ≤ k ∧ k ≤ s.size ∧ i = .int .i64 k ∧ n = .int .i64 m ∧ Hid (-9223372036854775808 ≤ m ∧ m ≤ 0) ∧ Hid (downS (s.data.toList.drop 1) 0 = downS (s.data.toList.drop k) m) ∧ Below w.heap.size w wr) (fun _ i _ => s.size - (intOf i).toNat)
  case atStart => exact ⟨1, 0, Nat.le_refl _, by omega, rfl, rfl, Lib.hid ⟨by omega, by omega⟩, Lib.hid rfl, Below.refl _ _⟩
  case round =>
    obtain ⟨k, m, hk0, hk, rfl, rfl, hm, hd, hb⟩ := hrel
    by_cases hlt : k < s.size
    · have hkl : k < s.data.toList.length := by have := HL.out; omega
      obtain ⟨A, hA⟩ : ∃ A, s[k] = A := ⟨_, rfl⟩
      have hA2 : s.data.toList[k] = A := by rw [← hA]; simp; rfl
      have hdr : s.data.toList.drop k = A :: s.data.toList.drop (k + 1) := by rw [List.drop_eq_getElem_cons hkl, hA2]
      have HD := Lib.hid hdr
      clear hA2 hdr
      have a8 := A.toNat_lt
      by_cases c1 : (A.toNat : Int) < 48
      · go_wp2
        go_ret2
        refine ⟨?_, hb⟩
        rw [N0.out (by rw [hd.out, HD.out, down_neg c1])]; rfl
      by_cases c2 : 57 < (A.toNat : Int)
      · go_wp2
        go_ret2
        refine ⟨?_, hb⟩
        rw [N0.out (by rw [hd.out, HD.out, down_big c2])]; rfl
      have HT := Lib.hid (tdiv_low A (by omega) (by omega))
      have C1 := c1
      have C2 := c2
      go_wp2
      · have ht : ((A.toNat : Int) - 48 < 0 ∨ 9 < (A.toNat : Int) - 48) ∨ m < Int.tdiv (-9223372036854775808 + ((A.toNat : Int) - 48)) 10 := by assumption
        rw [HT.out] at ht
        go_ret2
        refine ⟨?_, hb⟩
        rw [N0.out (by rw [hd.out, HD.out, down_low (by omega) (by omega) (by omega)])]; rfl
      · have ht : (0 ≤ (A.toNat : Int) - 48 ∧ (A.toNat : Int) - 48 ≤ 9) ∧ Int.tdiv (-9223372036854775808 + ((A.toNat : Int) - 48)) 10 ≤ m := by assumption
        rw [HT.out] at ht
        go_roundw
        case rel =>
          have h0 := hm.out
          have e1 : wrap64 (wrap64 (10 * m) - ((A.toNat : Int) - 48)) = 10 * m - ((A.toNat : Int) - 48) := by unfold wrap64; omega
          refine ⟨k + 1, 10 * m - ((A.toNat : Int) - 48), by omega, by omega, by go_num, by rw [e1], Lib.hid ⟨by omega, by omega⟩, Lib.hid ?_, hb⟩
          rw [hd.out, HD.out, down_next (by omega) (by omega) (by omega)]
        case measure => simp [intOf]; omega
    · have hdn : Hid (downS (s.data.toList.drop 1) 0 = some m) := Lib.hid (by rw [hd.out, List.drop_eq_nil_of_le (by have := HL.out; omega), downS])
      go_wp2_with fail
      refine (HR.out m (by have := hm.out; omega) (by have := hm.out; omega) _).mono ?_
      rintro e w1 ⟨rfl, b1⟩
      have h2 := N2.out _ hdn.out
      generalize ht : txt m = t at *
      have H2 := Lib.hid h2
      clear h2
      have teq : (t.toList == s.toList) = decide (t = s) := by rw [← ht]; exact txt_eq _ s
      have HTe := Lib.hid teq
      clear teq ht
      go_wp2_with fail
      · have hx : (!t.toList == s.toList) = true := by assumption
        rw [HTe.out] at hx
        have hne2 : ¬ t = s := by simpa using hx
        go_ret2
        refine ⟨?_, Below.comp hb b1⟩
        rw [H2.out, if_neg hne2]; rfl
      · have hx : (!t.toList == s.toList) = false := by assumption
        rw [HTe.out] at hx
        have hne2 : t = s := by simpa using hx
        go_ret2
        refine ⟨?_, Below.comp hb b1⟩
        rw [H2.out, if_pos hne2]; rfl

end Go.Proofs.YtbfbmgkgaokecaaDoor.Vb
