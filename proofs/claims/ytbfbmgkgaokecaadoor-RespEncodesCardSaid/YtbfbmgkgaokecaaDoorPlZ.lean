/- Layer 19: a command's bytes are parsed as it was; the reference's bytes of a command. -/
import Derived.Test.YtbfbmgkgaokecaaDoorSq6
import Derived.Test.YtbfbmgkgaokecaaDoorGvS
import Derived.Test.YtbfbmgkgaokecaaDoorRInt2
namespace Go.Proofs.YtbfbmgkgaokecaaDoor.PS
open Go.RowKit Go.Proofs.YtbfbmgkgaokecaaDoorW.PrintWords Go.Proofs.YtbfbmgkgaokecaaDoorW.PrintLast Go.Proofs.YtbfbmgkgaokecaaDoorW.PrintMore
set_option linter.unusedVariables false
set_option linter.unusedSimpArgs false

theorem dec_digit : ∀ (u : Nat), ∀ c ∈ Lib.decDigits u, 48 ≤ c.toNat ∧ c.toNat ≤ 57
  | u => by
    by_cases h : u < 10
    · rw [Vb.dec_small h]
      intro c hc
      obtain rfl := List.mem_singleton.1 hc
      rw [UInt8.toNat_ofNat']
      omega
    · rw [Vb.dec_more h]
      intro c hc
      rcases List.mem_append.1 hc with hc | hc
      · exact dec_digit (u / 10) c hc
      · obtain rfl := List.mem_singleton.1 hc
        rw [UInt8.toNat_ofNat']
        omega
termination_by u => u
theorem itoa_nat (n : Nat) : Lib.itoa (n : Int) = Lib.decDigits n := by unfold Lib.itoa; rw [if_neg (by omega), Int.toNat_natCast]
theorem indexByte_pre : ∀ (pre t : List UInt8) (x : UInt8), (∀ c ∈ pre, c ≠ x) → Lib.indexByte (pre ++ x :: t) x = pre.length
  | [], t, x, _ => by simp [Lib.indexByte]
  | b :: pre, t, x, h => by
    have ih := indexByte_pre pre t x (fun c hc => h c (List.mem_cons_of_mem _ hc))
    have hb := h b List.mem_cons_self
    simp only [List.cons_append, Lib.indexByte, beq_iff_eq, ih, List.length_cons]
    rw [if_neg hb, if_neg (by omega)]
    omega
theorem dec_len3 (n : Nat) (h : n ≤ 999) : 1 ≤ (Lib.decDigits n).length ∧ (Lib.decDigits n).length ≤ 3 := by
  refine ⟨?_, Vb.dec_upto 2 n (by omega)⟩
  by_cases h10 : n < 10
  · rw [Vb.dec_small h10]; simp
  · rw [Vb.dec_more h10]; simp
theorem cnt_number (sg : UInt8) (most : Int) (n : Nat) (r : List UInt8) (hn : n ≤ 999) (hm : (n : Int) ≤ most) (hs : sg ≠ 10) : cnt sg most (sg :: (Lib.itoa (n : Int) ++ [13, 10] ++ r)) = ((n : Int), r, 0) := by
  rw [itoa_nat]
  obtain ⟨h1, h3⟩ := dec_len3 n hn
  obtain ⟨D, hD⟩ : ∃ D, Lib.decDigits n = D := ⟨_, rfl⟩
  have hd := dec_digit n
  have hI : Vb.intS ⟨D.toArray⟩ = some (n : Int) := by
    have := Vb.intS_txt (n : Int) (by omega) (by omega)
    unfold Vb.txt at this
    rw [itoa_nat, hD] at this
    exact this
  rw [hD] at h1 h3 hd ⊢
  have hpre : ∀ c ∈ sg :: (D ++ [13]), c ≠ 10 := by
    intro c hc
    rcases List.mem_cons.1 hc with rfl | hc
    · exact hs
    · rcases List.mem_append.1 hc with hc | hc
      · have := hd c hc
        rintro rfl
        have h10 : (10 : UInt8).toNat = 10 := rfl
        omega
      · obtain rfl := List.mem_singleton.1 hc
        decide
  have hsplit : sg :: (D ++ [13, 10] ++ r) = (sg :: (D ++ [13])) ++ 10 :: r := by simp
  have hlen : (sg :: (D ++ [13])).length = D.length + 2 := by simp
  rw [hsplit]
  have htake : ((sg :: (D ++ [13])) ++ 10 :: r).take 16 = (sg :: (D ++ [13])) ++ 10 :: (r.take (16 - (D.length + 3))) := by
    rw [List.take_append, List.take_of_length_le (by rw [hlen]; omega), hlen]
    congr 1
    rw [show 16 - (D.length + 2) = (16 - (D.length + 3)) + 1 by omega, List.take_succ_cons]
  unfold cnt
  rw [htake, indexByte_pre _ _ _ hpre, hlen, if_neg (by omega), Int.toNat_natCast]
  unfold cntAt
  have e1 : ((sg :: (D ++ [13])) ++ 10 :: r)[D.length + 2 - 1]? = some 13 := by
    rw [show D.length + 2 - 1 = D.length + 1 by omega, List.cons_append, List.getElem?_cons_succ, List.append_assoc, List.getElem?_append_right (Nat.le_refl _), Nat.sub_self]
    rfl
  have e2 : (((sg :: (D ++ [13])) ++ 10 :: r).take (D.length + 2 - 1)).drop 1 = D := by
    rw [show D.length + 2 - 1 = D.length + 1 by omega, List.cons_append, List.take_succ_cons, List.drop_succ_cons, List.drop_zero, List.append_assoc, List.take_left' rfl]
  have e3 : ((sg :: (D ++ [13])) ++ 10 :: r).drop (D.length + 2 + 1) = r := by
    rw [show (sg :: (D ++ [13])) ++ 10 :: r = (sg :: (D ++ [13]) ++ [10]) ++ r by simp]
    exact List.drop_left' (by simp)
  rw [if_pos ⟨by omega, by omega, e1, rfl⟩, e2, e3, hI]
  dsimp only
  rw [if_neg (by omega), if_neg (by omega)]
theorem wrd_bulk (t : ByteArray) (r : List UInt8) (h : t.size ≤ 512) : wrd (bulkL t.data.toList ++ r) = (t, r, 0) := by
  have hlen : t.data.toList.length = t.size := Array.length_toList
  have e : bulkL t.data.toList ++ r = 36 :: (Lib.itoa (t.size : Int) ++ [13, 10] ++ (t.data.toList ++ [13, 10] ++ r)) := by
    unfold bulkL
    rw [hlen]
    simp
  have hc := cnt_number 36 512 t.size (t.data.toList ++ [13, 10] ++ r) (by omega) (by omega) (by decide)
  rw [e]
  unfold wrd
  rw [hc]
  dsimp only
  rw [if_pos rfl, Int.toNat_natCast, if_neg (by simp only [List.length_append, List.length_cons, List.length_nil, hlen]; omega)]
  have e1 : ((t.data.toList ++ [13, 10] ++ r).drop t.size).take 2 = [13, 10] := by
    rw [List.append_assoc, List.drop_left' hlen]; rfl
  have e2 : (t.data.toList ++ [13, 10] ++ r).take t.size = t.data.toList := by
    rw [List.append_assoc, List.take_left' hlen]
  have e3 : (t.data.toList ++ [13, 10] ++ r).drop (t.size + 2) = r := by
    rw [List.drop_left' (by simp [hlen])]
  rw [e1, e2, e3, if_pos rfl, bself]
theorem wrds_bulks (r : List UInt8) : ∀ (l acc : List ByteArray), (∀ t ∈ l, t.size ≤ 512) → wrds l.length (l.flatMap (fun a => bulkL a.data.toList) ++ r) acc = (acc ++ l, r, 0)
  | [], acc, _ => by simp [wrds]
  | t :: l, acc, h => by
    have hw := wrd_bulk t (l.flatMap (fun a => bulkL a.data.toList) ++ r) (h t List.mem_cons_self)
    rw [List.flatMap_cons, List.append_assoc, List.length_cons, wrds, hw]
    dsimp only
    rw [if_pos rfl, wrds_bulks r l _ (fun t ht => h t (List.mem_cons_of_mem _ ht))]
    simp
theorem cmd_cmdL (l : List ByteArray) (r : List UInt8) (hl : l.length ≤ 40) (h : ∀ t ∈ l, t.size ≤ 512) : cmd (cmdL l ++ r) = (l, r, 0) := by
  have e : cmdL l ++ r = 42 :: (Lib.itoa (l.length : Int) ++ [13, 10] ++ (l.flatMap (fun a => bulkL a.data.toList) ++ r)) := by
    unfold cmdL cmdHead
    simp
  have hc := cnt_number 42 40 l.length (l.flatMap (fun a => bulkL a.data.toList) ++ r) (by omega) (by omega) (by decide)
  rw [e]
  unfold cmd
  rw [hc]
  dsimp only
  rw [if_pos rfl, Int.toNat_natCast, wrds_bulks r l [] h]
  rfl
theorem parse_cmdL (l : List ByteArray) (r : List UInt8) (h1 : 1 ≤ l.length) (hl : l.length ≤ 40) (h : ∀ t ∈ l, t.size ≤ 512) : parse (cmdL l ++ r) = (l :: (parse r).1, (parse r).2) := by
  have hc := cmd_cmdL l r hl h
  have hk := cmd_ok (l := cmdL l ++ r) (by rw [hc])
  rw [hc] at hk
  unfold parse
  rw [prs, hc]
  dsimp only
  dsimp only at hk
  rw [if_neg (by decide), if_pos rfl, if_pos (by omega)]
  have := prs_acc (cmdL l ++ r).length r ([] ++ [l]) []
  rw [List.append_nil] at this
  rw [this, prs_rounds _ (r.length + 1) _ _ (by omega) (by omega)]
  rfl
theorem parse_nil : parse [] = ([], 0, []) := by
  unfold parse
  rw [prs, if_pos cmd_nil]
end Go.Proofs.YtbfbmgkgaokecaaDoor.PS
