/- The reference's Int: its answer is verb.Int's. -/
import Derived.Test.YtbfbmgkgaokecaaDoorRInt
set_option linter.unusedVariables false
set_option linter.unusedSimpArgs false
namespace Go.Proofs.YtbfbmgkgaokecaaDoor.Vb
open Go.RowKit

theorem rInt_none {s : ByteArray} (h : s.size = fromS s ∨ 20 < s.size) : rIntV s = .tuple #[.int .i64 0, .bool false] := by
  unfold rIntV rIntS
  rw [if_pos h]
theorem from_neg {s : ByteArray} (hs : 0 < s.size) (hf : s[0] = 45) : fromS s = 1 := by
  have hlen : s.data.toList.length = s.size := Array.length_toList
  have hzl : s.data.toList[0]'(by rw [hlen]; exact hs) = 45 := by rw [← hf]; show _ = s.data[0]'hs; simp
  unfold fromS
  rw [if_pos]
  rw [List.head?_eq_getElem?, List.getElem?_eq_getElem (by omega), hzl]

set_option maxHeartbeats 1600000 in
set_option maxRecDepth 20000 in
theorem rInt_far0 (s : ByteArray) (hs : 0 < s.size) (hf : s[0] ≠ 45) (h : 20 < s.size) (hm : s.size ≤ 140737488351232) (w : World) :
    Calls Tryd.prog 34 #[.string s] w fun e w' => e = .returned (rIntV s) ∧ Below w.heap.size w w' := by
  have hN := rInt_none (s := s) (.inr h)
  obtain ⟨Z, hZ⟩ : ∃ Z, s[0]'hs = Z := ⟨_, rfl⟩
  rw [hZ] at hf
  have hzt : ((Z.toNat : Int) == 45) = false := by
    rw [beq_eq_false_iff_ne]; intro e; exact hf (UInt8.toNat_inj.1 (show Z.toNat = (45 : UInt8).toNat by have : (45 : UInt8).toNat = 45 := rfl; omega))
  have hne : ¬ s = ByteArray.empty := by rintro rfl; exact absurd hs (by decide)
  have hsz : ((s.size : Int) == 0) = false := by rw [beq_eq_false_iff_ne]; omega
  have HN := Lib.hid hN
  clear hN hf
  go_enter Tryd.func34, Tryd.ntmps34
  go_wp2
  go_ret2
  refine ⟨?_, Below.refl _ _⟩
  rw [HN.out]; rfl

set_option maxHeartbeats 1600000 in
set_option maxRecDepth 20000 in
theorem rInt_far1 (s : ByteArray) (hs : 0 < s.size) (hf : s[0] = 45) (h : 20 < s.size) (hm : s.size ≤ 140737488351232) (w : World) :
    Calls Tryd.prog 34 #[.string s] w fun e w' => e = .returned (rIntV s) ∧ Below w.heap.size w w' := by
  have hN := rInt_none (s := s) (.inr h)
  obtain ⟨Z, hZ⟩ : ∃ Z, s[0]'hs = Z := ⟨_, rfl⟩
  rw [hZ] at hf
  have hzt : ((Z.toNat : Int) == 45) = true := by rw [hf]; rfl
  have hne : ¬ s = ByteArray.empty := by rintro rfl; exact absurd hs (by decide)
  have hsz : ((s.size : Int) == 1) = false := by rw [beq_eq_false_iff_ne]; omega
  have HN := Lib.hid hN
  clear hN hf
  go_enter Tryd.func34, Tryd.ntmps34
  go_wp2
  go_ret2
  refine ⟨?_, Below.refl _ _⟩
  rw [HN.out]; rfl

set_option maxHeartbeats 1600000 in
set_option maxRecDepth 20000 in
theorem rInt_one (s : ByteArray) (hs : 0 < s.size) (hf : s[0] = 45) (h : s.size = 1) (w : World) :
    Calls Tryd.prog 34 #[.string s] w fun e w' => e = .returned (rIntV s) ∧ Below w.heap.size w w' := by
  have hN := rInt_none (s := s) (.inl (by rw [from_neg hs hf, h]))
  obtain ⟨Z, hZ⟩ : ∃ Z, s[0]'hs = Z := ⟨_, rfl⟩
  rw [hZ] at hf
  have hzt : ((Z.toNat : Int) == 45) = true := by rw [hf]; rfl
  have hne : ¬ s = ByteArray.empty := by rintro rfl; exact absurd hs (by decide)
  have hsz : ((s.size : Int) == 1) = true := by rw [h]; rfl
  have HN := Lib.hid hN
  clear hN hf
  go_enter Tryd.func34, Tryd.ntmps34
  go_wp2
  go_ret2
  refine ⟨?_, Below.refl _ _⟩
  rw [HN.out]; rfl

set_option maxHeartbeats 1600000 in
set_option maxRecDepth 20000 in
theorem rInt_empty (w : World) :
    Calls Tryd.prog 34 #[.string ByteArray.empty] w fun e w' => e = .returned (rIntV ByteArray.empty) ∧ Below w.heap.size w w' := by
  have HN := Lib.hid (show rIntV ByteArray.empty = .tuple #[.int .i64 0, .bool false] from rInt_none (.inl rfl))
  go_enter Tryd.func34, Tryd.ntmps34
  go_wp2
  go_ret2
  refine ⟨?_, Below.refl _ _⟩
  rw [HN.out]; rfl

theorem rInt_all (s : ByteArray) (hm : s.size ≤ 140737488351232) (w : World) :
    Calls Tryd.prog 34 #[.string s] w fun e w' => e = .returned (rIntV s) ∧ Below w.heap.size w w' := by
  by_cases h0 : s.size = 0
  · obtain rfl : s = ByteArray.empty := by
      apply ByteArray.ext
      exact Array.eq_empty_of_size_eq_zero h0
    exact rInt_empty w
  have hs : 0 < s.size := by omega
  by_cases hf : s[0]'hs = 45
  · by_cases h1 : s.size = 1
    · exact rInt_one s hs hf h1 w
    by_cases h2 : 20 < s.size
    · exact rInt_far1 s hs hf h2 hm w
    exact rInt_calls1 s (by omega) (by omega) w hf
  · by_cases h2 : 20 < s.size
    · exact rInt_far0 s hs hf h2 hm w
    exact rInt_calls0 s hs (by omega) w hf

theorem dec_upto : ∀ (k u : Nat), u < 10 ^ (k + 1) → (Lib.decDigits u).length ≤ k + 1
  | 0, u, h => by rw [dec_small (by omega)]; simp
  | k + 1, u, h => by
    by_cases h10 : u < 10
    · rw [dec_small h10]; simp
    · have : u / 10 < 10 ^ (k + 1) := by rw [Nat.pow_succ] at h; omega
      have := dec_upto k (u / 10) this
      rw [dec_more h10, List.length_append, List.length_singleton]
      omega
theorem down_dec (u : Nat) : u ≤ 9223372036854775808 → ∀ r, downS (Lib.decDigits u ++ r) 0 = downS r (-(u : Int)) := by
  induction u using Nat.strongRecOn with
  | _ u ih =>
  intro hu r
  by_cases h : u < 10
  · have hd := dig_nat h
    rw [dec_small h, List.singleton_append, down_next (by omega) (by omega) (by omega)]
    congr 1; omega
  · have hd := dig_nat (show u % 10 < 10 by omega)
    rw [dec_more h, List.append_assoc, ih (u / 10) (by omega) (by omega), List.singleton_append, down_next (by omega) (by omega) (by omega)]
    congr 1; omega
theorem down_range : ∀ (l : List UInt8) (n m : Int), -9223372036854775808 ≤ n → n ≤ 0 → downS l n = some m → -9223372036854775808 ≤ m ∧ m ≤ 0
  | [], n, m, h0, h1, e => by rw [downS] at e; obtain rfl := Option.some.inj e; exact ⟨h0, h1⟩
  | c :: r, n, m, h0, h1, e => by
    by_cases c1 : (c.toNat : Int) < 48
    · rw [down_neg c1] at e; simp at e
    by_cases c2 : 57 < (c.toNat : Int)
    · rw [down_big c2] at e; simp at e
    by_cases c3 : n < -((9223372036854775808 - ((c.toNat : Int) - 48)) / 10)
    · rw [down_low (by omega) (by omega) c3] at e; simp at e
    rw [down_next (by omega) (by omega) c3] at e
    exact down_range r _ m (by omega) (by omega) e

theorem rIntS_txt (n : Int) (h0 : -9223372036854775808 ≤ n) (h1 : n ≤ 9223372036854775807) : rIntS (txt n) = some n := by
  by_cases hn : n < 0
  · have hl : Lib.itoa n = 45 :: Lib.decDigits n.natAbs := by unfold Lib.itoa; rw [if_pos hn]
    obtain ⟨c, r, e, _, _⟩ := dec_head n.natAbs
    have hlen := dec_upto 18 n.natAbs (by omega)
    have hsz : (txt n).size = (Lib.decDigits n.natAbs).length + 1 := by
      show (Lib.itoa n).toArray.size = _
      rw [hl]; simp
    have hpos : 0 < (Lib.decDigits n.natAbs).length := by rw [e]; simp
    have hfr : fromS (txt n) = 1 := by
      unfold fromS
      rw [if_pos]
      show (Lib.itoa n).head? = some 45
      rw [hl]; rfl
    have hdn : downS ((txt n).data.toList.drop 1) 0 = some n := by
      show downS ((Lib.itoa n).drop 1) 0 = some n
      rw [hl, List.drop_succ_cons, List.drop_zero]
      have := down_dec n.natAbs (by omega) []
      rw [List.append_nil] at this
      rw [this, downS]
      congr 1; omega
    unfold rIntS
    rw [hfr, if_neg (by omega), hdn]
    simp
  · have hl : Lib.itoa n = Lib.decDigits n.toNat := by unfold Lib.itoa; rw [if_neg hn]
    obtain ⟨c, r, e, c1, c2⟩ := dec_head n.toNat
    have hlen := dec_upto 18 n.toNat (by omega)
    have hsz : (txt n).size = (Lib.decDigits n.toNat).length := by
      show (Lib.itoa n).toArray.size = _
      rw [hl]; simp
    have hpos : 0 < (Lib.decDigits n.toNat).length := by rw [e]; simp
    have hfr : fromS (txt n) = 0 := by
      unfold fromS
      rw [if_neg]
      show ¬ (Lib.itoa n).head? = some 45
      rw [hl, e]
      intro h
      have h := Option.some.inj h
      rw [h] at c1
      exact absurd c1 (by decide)
    have hdn : downS ((txt n).data.toList.drop 0) 0 = some (-n) := by
      show downS ((Lib.itoa n).drop 0) 0 = some (-n)
      rw [hl, List.drop_zero]
      have := down_dec n.toNat (by omega) []
      rw [List.append_nil] at this
      rw [this, downS]
      congr 1; omega
    unfold rIntS
    rw [hfr, if_neg (by omega), hdn]
    have : ¬ (-n = -9223372036854775808) := by omega
    simp [this]
theorem rIntS_some {s : ByteArray} {v : Int} (h : rIntS s = some v) : txt v = s ∧ -9223372036854775808 ≤ v ∧ v ≤ 9223372036854775807 := by
  unfold rIntS at h
  split at h
  · cases h
  split at h
  · cases h
  rename_i n hn
  have hr := down_range _ _ _ (by omega) (by omega) hn
  by_cases hf : fromS s = 0
  · by_cases hl : n = -9223372036854775808
    · rw [if_pos ⟨hf, hl⟩] at h; cases h
    · rw [if_neg (fun e => hl e.2)] at h
      simp only [hf, if_true] at h
      by_cases ht : txt (-n) = s
      · rw [if_pos ht] at h
        obtain rfl := Option.some.inj h
        exact ⟨ht, by omega, by omega⟩
      · rw [if_neg ht] at h; cases h
  · rw [if_neg (fun e => hf e.1)] at h
    simp only [hf, if_false] at h
    by_cases ht : txt n = s
    · rw [if_pos ht] at h
      obtain rfl := Option.some.inj h
      exact ⟨ht, by omega, by omega⟩
    · rw [if_neg ht] at h; cases h
theorem intS_some {s : ByteArray} {v : Int} (h : intS s = some v) : txt v = s ∧ -9223372036854775808 ≤ v ∧ v ≤ 9223372036854775807 := by
  unfold intS at h
  split at h
  · rename_i u hu
    split at h
    · rename_i ht
      obtain rfl := Option.some.inj h
      exact ⟨ht, int_range hu⟩
    · cases h
  · cases h
theorem rIntS_eq (s : ByteArray) : rIntS s = intS s := by
  cases h : intS s with
  | some v =>
    obtain ⟨rfl, h0, h1⟩ := intS_some h
    exact rIntS_txt v h0 h1
  | none =>
    cases h2 : rIntS s with
    | none => rfl
    | some v =>
      obtain ⟨rfl, h0, h1⟩ := rIntS_some h2
      rw [intS_txt v h0 h1] at h
      cases h
theorem rIntV_eq (s : ByteArray) : rIntV s = intV s := by
  unfold rIntV intV
  rw [rIntS_eq]
  cases intS s <;> rfl
end Go.Proofs.YtbfbmgkgaokecaaDoor.Vb
