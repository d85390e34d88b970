/- Patterns, plainly: what verb.Match tells is whether the text parts into pieces that the pattern's parts describe. -/
import Derived.Test.YtbfbmgkgaokecaaDoorMatch
namespace Go.Proofs.YtbfbmgkgaokecaaDoor.Vb

/-- Does a part describe a piece? -/
def oneP (p : Int × List Bool) (a : List UInt8) : Prop :=
  if p.1 = 0 then True else if p.1 = 1 then a.length = 1 else ∃ c, a = [c] ∧ p.2.getD c.toNat false = true
/-- Do parts describe a text? -/
def MP : List (Int × List Bool) → List UInt8 → Prop
  | [], s => s = []
  | p :: ps, s => ∃ a b, s = a ++ b ∧ oneP p a ∧ MP ps b

theorem MP_snoc (p : Int × List Bool) : ∀ (pl : List (Int × List Bool)) (s : List UInt8), MP (pl ++ [p]) s ↔ ∃ a b, s = a ++ b ∧ MP pl a ∧ oneP p b
  | [], s => by
    constructor
    · rintro ⟨a, b, rfl, h, rfl⟩
      exact ⟨[], a, by simp, rfl, h⟩
    · rintro ⟨a, b, rfl, rfl, h⟩
      exact ⟨b, [], by simp, h, rfl⟩
  | q :: pl, s => by
    constructor
    · rintro ⟨a, b, rfl, h, h2⟩
      obtain ⟨c, d, rfl, h3, h4⟩ := (MP_snoc p pl b).1 h2
      exact ⟨a ++ c, d, by simp, ⟨a, c, rfl, h, h3⟩, h4⟩
    · rintro ⟨a, b, rfl, ⟨c, d, rfl, h1, h2⟩, h3⟩
      exact ⟨c, d ++ b, by simp, h1, (MP_snoc p pl _).2 ⟨d, b, rfl, h2, h3⟩⟩

theorem nx0_iff (f : List Bool) (s : List UInt8) (at_ : List Bool) : ∀ i, nxAt 0 f s at_ i = true ↔ ∃ j, j ≤ i ∧ at_.getD j false = true
  | 0 => by
    constructor
    · intro h
      have h2 : ((0 : Int) == 0 && at_.getD 0 false) = true := h
      exact ⟨0, Nat.le_refl _, by simpa using h2⟩
    · rintro ⟨j, hj, h⟩
      obtain rfl : j = 0 := by omega
      exact nx0_yes h
  | i + 1 => by
    rw [nxAt, if_pos rfl, Bool.or_eq_true, nx0_iff f s at_ i]
    constructor
    · rintro (h | ⟨j, hj, h⟩)
      · exact ⟨i + 1, Nat.le_refl _, h⟩
      · exact ⟨j, by omega, h⟩
    · rintro ⟨j, hj, h⟩
      by_cases e : j = i + 1
      · subst e; exact .inl h
      · exact .inr ⟨j, by omega, h⟩
theorem nxL_get (s : List UInt8) (at_ : List Bool) (p : Int × List Bool) {i : Nat} (h : i ≤ s.length) : (nxL s at_ p).getD i false = nxAt p.1 p.2 s at_ i := by
  have : i < s.length + 1 := by omega
  simp [nxL, List.getD_eq_getElem?_getD, this]

theorem at_iff (s : List UInt8) : ∀ (n : Nat) (pl : List (Int × List Bool)), pl.length = n → (∀ p ∈ pl, p.1 = 0 ∨ p.1 = 1 ∨ p.1 = 2) → ∀ i, i ≤ s.length → ((atBehind s pl).getD i false = true ↔ MP pl (s.take i)) := by
  intro n
  induction n with
  | zero =>
    intro pl hpl _ i hi
    obtain rfl : pl = [] := List.eq_nil_of_length_eq_zero hpl
    cases i with
    | zero => simp [atBehind, atStart, MP]
    | succ i =>
      have hne : s.take (i + 1) ≠ [] := by
        intro e
        have h2 : min (i + 1) s.length = 0 := by rw [← List.length_take, e]; rfl
        omega
      have hf : (atBehind s []).getD (i + 1) false = false := by
        show (true :: List.replicate s.length false).getD (i + 1) false = false
        rw [List.getD_cons_succ, List.getD_eq_getElem?_getD, List.getElem?_replicate]
        split <;> rfl
      rw [hf]
      exact ⟨(fun h => by cases h), (fun h => absurd h hne)⟩
  | succ n ih =>
    intro pl0 hpl hk i hi
    obtain ⟨pl, p, rfl⟩ : ∃ l b, pl0 = l ++ [b] := by
      rcases List.eq_nil_or_concat pl0 with h | ⟨l, b, h⟩
      · subst h; simp at hpl
      · exact ⟨l, b, by rw [h, List.concat_eq_append]⟩
    have hk1 : ∀ q ∈ pl, q.1 = 0 ∨ q.1 = 1 ∨ q.1 = 2 := fun q hq => hk q (by simp [hq])
    have ih := ih pl (by simpa using hpl) hk1
    rw [MP_snoc, atBehind, List.foldl_append]
    show (nxL s (atBehind s pl) p).getD i false = true ↔ _
    rw [nxL_get s _ p hi]
    obtain ⟨k, f⟩ := p
    rcases hk (k, f) (by simp) with rfl | rfl | rfl
    · rw [nx0_iff]
      constructor
      · rintro ⟨j, hj, h⟩
        exact ⟨s.take j, (s.take i).drop j, by conv => lhs; rw [← List.take_append_drop j (s.take i), List.take_take, Nat.min_eq_left hj], (ih j (by omega)).1 h, by simp [oneP]⟩
      · rintro ⟨a, b, e, h, _⟩
        have hl := congrArg List.length e
        simp at hl
        have ha : a = s.take a.length := by
          have := congrArg (List.take a.length) e
          rw [List.take_append_of_le_length (Nat.le_refl _), List.take_length, List.take_take, Nat.min_eq_left (by omega)] at this
          exact this.symm
        exact ⟨a.length, by omega, (ih a.length (by omega)).2 (ha ▸ h)⟩
    · cases i with
      | zero =>
        constructor
        · intro h; have h2 : ((1 : Int) == 0 && (atBehind s pl).getD 0 false) = true := h; simp at h2
        · rintro ⟨a, b, e, h, h2⟩
          have h2 : b.length = 1 := h2
          have := congrArg List.length e
          simp at this; omega
      | succ m =>
        rw [nxAt, if_neg (show ¬ ((1 : Int) = 0) by decide), if_pos rfl, ih m (by omega)]
        have e1 : s.take (m + 1) = s.take m ++ [s[m]] := List.take_succ_eq_append_getElem (by omega)
        constructor
        · intro h
          exact ⟨s.take m, [s[m]], e1, h, rfl⟩
        · rintro ⟨a, b, e, h, h2⟩
          have h2 : b.length = 1 := h2
          rw [e1] at e
          obtain ⟨rfl, rfl⟩ := List.append_inj' e (by simp [h2])
          exact h
    · cases i with
      | zero =>
        constructor
        · intro h; have h2 : ((2 : Int) == 0 && (atBehind s pl).getD 0 false) = true := h; simp at h2
        · rintro ⟨a, b, e, h, c, rfl, _⟩
          have := congrArg List.length e
          simp at this
      | succ m =>
        rw [nxAt, if_neg (show ¬ ((2 : Int) = 0) by decide), if_neg (show ¬ ((2 : Int) = 1) by decide), Bool.and_eq_true, ih m (by omega)]
        have e1 : s.take (m + 1) = s.take m ++ [s[m]] := List.take_succ_eq_append_getElem (by omega)
        have e2 : s.getD m 0 = s[m] := by rw [List.getD_eq_getElem?_getD, List.getElem?_eq_getElem (by omega)]; rfl
        rw [e2]
        constructor
        · rintro ⟨h1, h⟩
          exact ⟨s.take m, [s[m]], e1, h, s[m], rfl, h1⟩
        · rintro ⟨a, b, e, h, c, rfl, h1⟩
          have h1 : f.getD c.toNat false = true := h1
          rw [e1] at e
          obtain ⟨rfl, hc⟩ := List.append_inj' e rfl
          have hc : s[m] = c := by simpa using hc
          rw [hc]
          exact ⟨h1, h⟩

/-- What Match tells. -/
theorem match_iff (p s : ByteArray) : matchS p s = true ↔ MP (partsL p.data.toList) s.data.toList := by
  have hl : s.data.toList.length = s.size := Array.length_toList
  unfold matchS
  rw [at_iff _ _ _ rfl (fun q hq => (partsL_kind _ _ (Nat.le_refl _) q hq).1) _ (by omega), ← hl, List.take_length]

theorem partsL_nil : partsL [] = [] := by rw [partsL]
end Go.Proofs.YtbfbmgkgaokecaaDoor.Vb
