/- Layer 19: how long a command's bytes are; what comes of a command with a text that is far too long. -/
import Derived.Test.YtbfbmgkgaokecaaDoorPlY
namespace Go.Proofs.YtbfbmgkgaokecaaDoor.PS
open Go.RowKit Go.Proofs.YtbfbmgkgaokecaaDoorW.PrintWords Go.Proofs.YtbfbmgkgaokecaaDoorW.PrintLast Go.Proofs.YtbfbmgkgaokecaaDoorW.PrintMore
set_option linter.unusedVariables false
set_option linter.unusedSimpArgs false

def sm : List ByteArray → Nat
  | [] => 0
  | a :: l => min a.size 6000 + sm l
def sz : List ByteArray → Nat
  | [] => 0
  | a :: l => a.size + sz l
theorem sm_append (a b : List ByteArray) : sm (a ++ b) = sm a + sm b := by
  induction a with
  | nil => simp [sm]
  | cons x a ih => simp only [List.cons_append, sm, ih]; omega
/-- Either all is short, or one text alone is long and the others are empty. -/
theorem sm_cases (B : Nat) (hB : 6000 ≤ B) : ∀ l : List ByteArray, (∀ a ∈ l, a.size ≤ B) → sm l ≤ 6000 → sz l = sm l ∨ (sm l = 6000 ∧ sz l ≤ B ∧ 6000 < sz l ∧ ∀ a ∈ l, a.size = 0 ∨ a.size = sz l)
  | [], _, _ => .inl rfl
  | a :: l, h, hs => by
    simp only [sm] at hs
    have ih := sm_cases B hB l (fun x hx => h x (List.mem_cons_of_mem _ hx)) (by omega)
    have ha := h a List.mem_cons_self
    have zero : sz l = 0 → ∀ x ∈ l, x.size = 0 := by
      intro hz
      have key : ∀ l : List ByteArray, ∀ x ∈ l, x.size ≤ sz l := by
        intro l
        induction l with
        | nil => intro x hx; cases hx
        | cons y l ih =>
          intro x hx
          simp only [sz]
          rcases List.mem_cons.1 hx with rfl | hx
          · omega
          · have := ih x hx; omega
      intro x hx
      have := key l x hx
      omega
    simp only [sm, sz]
    by_cases h6 : a.size ≤ 6000
    · rcases ih with ih | ⟨i1, i2, i3, i4⟩
      · left; omega
      · have h0 : a.size = 0 := by omega
        refine .inr ⟨by omega, by omega, by omega, fun x hx => ?_⟩
        rcases List.mem_cons.1 hx with rfl | hx
        · exact .inl h0
        · rcases i4 x hx with e | e
          · exact .inl e
          · right; omega
    · rcases ih with ih | ⟨i1, i2, i3, i4⟩
      · have hz : sz l = 0 := by omega
        refine .inr ⟨by omega, by omega, by omega, fun x hx => ?_⟩
        rcases List.mem_cons.1 hx with rfl | hx
        · right; omega
        · exact .inl (zero hz x hx)
      · omega
theorem dec_len20 (n : Nat) (h : n ≤ 9000000000000000000) : (Lib.decDigits n).length ≤ 20 := Vb.dec_upto 19 n (by omega)
theorem bulkL_len (t : ByteArray) (h : t.size ≤ 9000000000000000000) : (bulkL t.data.toList).length ≤ t.size + 25 := by
  have hlen : t.data.toList.length = t.size := Array.length_toList
  unfold bulkL
  rw [hlen, itoa_nat]
  have := dec_len20 t.size h
  simp only [List.length_cons, List.length_append, List.length_nil, hlen]
  omega
theorem cmdL_len (l : List ByteArray) (h : ∀ a ∈ l, a.size ≤ 9000000000000000000) (hl : l.length ≤ 1000000) : (cmdL l).length ≤ sz l + 25 * l.length + 25 := by
  have key : ∀ l : List ByteArray, (∀ a ∈ l, a.size ≤ 9000000000000000000) → (l.flatMap (fun a => bulkL a.data.toList)).length ≤ sz l + 25 * l.length := by
    intro l
    induction l with
    | nil => intro _; simp [sz]
    | cons a l ih =>
      intro h
      have h1 := bulkL_len a (h a List.mem_cons_self)
      have h2 := ih (fun x hx => h x (List.mem_cons_of_mem _ hx))
      simp only [List.flatMap_cons, List.length_append, List.length_cons, sz]
      omega
  have hk := key l h
  have := dec_len20 l.length (by omega)
  unfold cmdL cmdHead
  rw [itoa_nat]
  simp only [List.length_cons, List.length_append, List.length_nil]
  omega
theorem dec_long (n : Nat) (h : 100000000000 ≤ n) : 11 ≤ (Lib.decDigits n).length := by
  have key : ∀ (k n : Nat), 10 ^ k ≤ n → k + 1 ≤ (Lib.decDigits n).length := by
    intro k
    induction k with
    | zero => intro n _; by_cases h10 : n < 10
              · rw [Vb.dec_small h10]; simp
              · rw [Vb.dec_more h10]; simp
    | succ k ih =>
      intro n hn
      have hp : 10 ^ (k + 1) = 10 * 10 ^ k := by rw [Nat.pow_succ, Nat.mul_comm]
      have h1 : 1 ≤ 10 ^ k := Nat.one_le_pow _ _ (by decide)
      rw [Vb.dec_more (by omega)]
      have := ih (n / 10) (by omega)
      rw [List.length_append, List.length_singleton]
      omega
  exact key 10 n (by omega)
/-- A number of too many digits is no form. -/
theorem cnt_long (sg : UInt8) (most : Int) (n : Nat) (r : List UInt8) (hn : 100000000000 ≤ n) (hs : sg ≠ 10) (hr : 16 ≤ r.length) : cnt sg most (sg :: (Lib.itoa (n : Int) ++ [13, 10] ++ r)) = (0, [], 3) := by
  rw [itoa_nat]
  have h11 := dec_long n hn
  have hd := dec_digit n
  obtain ⟨D, hD⟩ : ∃ D, Lib.decDigits n = D := ⟨_, rfl⟩
  rw [hD] at h11 hd ⊢
  unfold cnt
  by_cases hx : Lib.indexByte ((sg :: (D ++ [13, 10] ++ r)).take 16) 10 < 0
  · rw [if_pos hx, if_pos (by simp only [List.length_cons, List.length_append]; omega)]
  · rw [if_neg hx]
    have hget := indexByte_get ((sg :: (D ++ [13, 10] ++ r)).take 16) 10 (by omega)
    have hlt := indexByte_lt ((sg :: (D ++ [13, 10] ++ r)).take 16) 10
    rw [List.length_take] at hlt
    obtain ⟨i, hi⟩ : ∃ i : Nat, Lib.indexByte ((sg :: (D ++ [13, 10] ++ r)).take 16) 10 = (i : Int) := ⟨_, (Int.toNat_of_nonneg (by omega)).symm⟩
    rw [hi] at hget hlt ⊢
    rw [Int.toNat_natCast] at hget ⊢
    rw [List.getElem?_take_of_lt (by omega)] at hget
    have h12 : 12 ≤ i := by
      rcases Nat.lt_or_ge i 12 with hlt12 | h
      · exfalso
        cases i with
        | zero => rw [List.getElem?_cons_zero] at hget; exact hs (Option.some.inj hget)
        | succ i =>
          rw [List.getElem?_cons_succ, List.append_assoc, List.getElem?_append_left (by omega)] at hget
          obtain ⟨hlt2, hg⟩ := List.getElem?_eq_some_iff.1 hget
          have := hd _ (List.getElem_mem hlt2)
          rw [hg] at this
          have h10 : (10 : UInt8).toNat = 10 := rfl
          omega
      · exact h
    unfold cntAt
    rw [if_neg (fun h => by omega)]
theorem cnt_over (sg : UInt8) (most : Int) (n : Nat) (r : List UInt8) (hn : n ≤ 999) (hm : most < (n : Int)) (hs : sg ≠ 10) : (cnt sg most (sg :: (Lib.itoa (n : Int) ++ [13, 10] ++ r))).2.2 = 5 := by
  have h := cnt_number sg (n : Int) n r hn (Int.le_refl _) hs
  obtain ⟨X, hX⟩ : ∃ X, sg :: (Lib.itoa (n : Int) ++ [13, 10] ++ r) = X := ⟨_, rfl⟩
  rw [hX] at h ⊢
  unfold cnt at h ⊢
  by_cases hx : Lib.indexByte (X.take 16) 10 < 0
  · rw [if_pos hx] at h
    exfalso
    have := congrArg (fun z => z.2.2) h
    dsimp only at this
    split at this
    · exact absurd this (by decide)
    · exact absurd this (by decide)
  · rw [if_neg hx] at h ⊢
    unfold cntAt at h ⊢
    split
    · rename_i hc
      rw [if_pos hc] at h
      cases hI : Vb.intS ⟨((X.take ((Lib.indexByte (X.take 16) 10).toNat - 1)).drop 1).toArray⟩ with
      | none =>
        rw [hI] at h
        exact absurd (show (3 : Int) = 0 from congrArg (fun z => z.2.2) h) (by decide)
      | some x =>
        rw [hI] at h
        dsimp only at h ⊢
        by_cases h0 : x < 0
        · rw [if_pos h0] at h
          exact absurd (show (3 : Int) = 0 from congrArg (fun z => z.2.2) h) (by decide)
        · rw [if_neg h0] at h ⊢
          by_cases h1 : (n : Int) < x
          · rw [if_pos h1] at h
            exact absurd (show (5 : Int) = 0 from congrArg (fun z => z.2.2) h) (by decide)
          · rw [if_neg h1] at h
            have hxn : x = (n : Int) := congrArg (fun z => z.1) h
            rw [if_pos (by omega)]
    · rename_i hc
      rw [if_neg hc] at h
      exact absurd (show (3 : Int) = 0 from congrArg (fun z => z.2.2) h) (by decide)
theorem wrd_long (t : ByteArray) (r : List UInt8) (h : 100000000000 ≤ t.size) : (wrd (bulkL t.data.toList ++ r)).2.2 = 3 := by
  have hlen : t.data.toList.length = t.size := Array.length_toList
  have e : bulkL t.data.toList ++ r = 36 :: (Lib.itoa (t.size : Int) ++ [13, 10] ++ (t.data.toList ++ [13, 10] ++ r)) := by
    unfold bulkL
    rw [hlen]
    simp
  have hc := cnt_long 36 512 t.size (t.data.toList ++ [13, 10] ++ r) h (by decide) (by simp only [List.length_append, hlen]; omega)
  rw [e]
  unfold wrd
  rw [hc]
  rfl
theorem wrds_long (r : List UInt8) : ∀ (l acc : List ByteArray), (∀ t ∈ l, t.size = 0 ∨ 100000000000 ≤ t.size) → (∃ t ∈ l, 100000000000 ≤ t.size) → (wrds l.length (l.flatMap (fun a => bulkL a.data.toList) ++ r) acc).2.2 = 3
  | [], _, _, h => by obtain ⟨t, ht, _⟩ := h; cases ht
  | t :: l, acc, h, hx => by
    rw [List.flatMap_cons, List.append_assoc, List.length_cons, wrds]
    rcases h t List.mem_cons_self with h0 | hb
    · have hw := wrd_bulk t (l.flatMap (fun a => bulkL a.data.toList) ++ r) (by omega)
      rw [hw]
      dsimp only
      rw [if_pos rfl]
      refine wrds_long r l _ (fun x hx => h x (List.mem_cons_of_mem _ hx)) ?_
      obtain ⟨x, hx, hx2⟩ := hx
      rcases List.mem_cons.1 hx with rfl | hx
      · omega
      · exact ⟨x, hx, hx2⟩
    · have hw := wrd_long t (l.flatMap (fun a => bulkL a.data.toList) ++ r) hb
      rw [if_neg (by rw [hw]; decide)]
      exact hw
theorem cmd_long (l : List ByteArray) (r : List UInt8) (hl : l.length ≤ 999) (h : ∀ t ∈ l, t.size = 0 ∨ 100000000000 ≤ t.size) (hx : ∃ t ∈ l, 100000000000 ≤ t.size) : (cmd (cmdL l ++ r)).2.2 ≠ 4 ∧ (cmd (cmdL l ++ r)).2.2 ≠ 0 := by
  have e : cmdL l ++ r = 42 :: (Lib.itoa (l.length : Int) ++ [13, 10] ++ (l.flatMap (fun a => bulkL a.data.toList) ++ r)) := by
    unfold cmdL cmdHead
    simp
  rw [e]
  by_cases h40 : l.length ≤ 40
  · have hc := cnt_number 42 40 l.length (l.flatMap (fun a => bulkL a.data.toList) ++ r) (by omega) (by omega) (by decide)
    have : (cmd (42 :: (Lib.itoa (l.length : Int) ++ [13, 10] ++ (l.flatMap (fun a => bulkL a.data.toList) ++ r)))).2.2 = 3 := by
      unfold cmd
      rw [hc]
      dsimp only
      rw [if_pos rfl, Int.toNat_natCast]
      exact wrds_long r l [] h hx
    rw [this]
    exact ⟨by decide, by decide⟩
  · have hc := cnt_over 42 40 l.length (l.flatMap (fun a => bulkL a.data.toList) ++ r) (by omega) (by omega) (by decide)
    have : (cmd (42 :: (Lib.itoa (l.length : Int) ++ [13, 10] ++ (l.flatMap (fun a => bulkL a.data.toList) ++ r)))).2.2 = 5 := by
      unfold cmd
      rw [if_neg (by rw [hc]; decide)]
      exact hc
    rw [this]
    exact ⟨by decide, by decide⟩
end Go.Proofs.YtbfbmgkgaokecaaDoor.PS
