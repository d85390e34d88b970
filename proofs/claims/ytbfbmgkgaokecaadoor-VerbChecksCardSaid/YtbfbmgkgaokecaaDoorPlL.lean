/- VerbChecks, plainly: the reference's keys, and both checks. -/
import Derived.Test.YtbfbmgkgaokecaaDoorPlK
import Derived.Test.YtbfbmgkgaokecaaDoorPRf13
set_option linter.unusedVariables false
set_option linter.unusedSimpArgs false
namespace Go.Proofs.YtbfbmgkgaokecaaDoor.PR
open Go.RowKit Go.Proofs.YtbfbmgkgaokecaaDoorW.PrintWords Go.Proofs.YtbfbmgkgaokecaaDoorW.PrintLast Go.Proofs.YtbfbmgkgaokecaaDoorW.PrintMore
open Vb

/-- A step that calls: what is called answers, and what is behind answers. -/
theorem ev_callL {α β : Type} {g : Nat → Option β} {h : Nat → Option α} {F : Nat → α → Option β} {a : α} {r : β} (hs : ∀ k, g k = (h k).bind (F k)) (hh : Ev h a) (hF : Ev (fun k => F k a) r) : Ev g r :=
  Ev.congr hs (Ev.bind hh hF)

/-- The reference's loop. -/
theorem rkeys_l0 (l : List ByteArray) (hl : l.length ≤ 1000) (two : Bool) (last : Int) (hlast : last = 1 ∨ last = 2 ∨ last = -1) (step : Int) (hs : step = if two then 2 else 1) (nm : ByteArray) (mi ma : Int) (wr od ev : Bool)
    (n : Nat) : ∀ (i : Nat) (acc : List ByteArray), i + n = l.length → 1 ≤ i → acc.length ≤ i →
    Ev (fun k => intaglioref17_Keys.l0 k l acc true (i : Int) nm mi ma wr 1 last step od ev) (acc ++ kf two last i (l.drop i)) := by
  have hs0 : ¬ step = 0 := by rw [hs]; split <;> decide
  induction n with
  | zero =>
    intro i acc hn h1 ha
    have c1 : ¬ (i : Int) < (l.length : Int) := by omega
    rw [List.drop_eq_nil_of_le (by omega), kf, List.append_nil]
    refine ⟨2, fun k hk => ?_⟩
    obtain ⟨k, rfl⟩ : ∃ m, k = m + 1 + 1 := ⟨k - 2, by omega⟩
    simp only [intaglioref17_Keys.l0, intaglioref17_Keys.j1, ↓reduceIte, c1, decide_false, Bool.false_eq_true, show (1 : Int) > 0 by decide]
  | succ n ih =>
    intro i acc hn h1 ha
    have hlt : i < l.length := by omega
    have c1 : (i : Int) < (l.length : Int) := by omega
    have c2 : 0 ≤ (i : Int) := by omega
    have c4 : acc.length < 8796093022208 := by omega
    have hrd := rdN l i hlt
    have hW := wM i h1 (by omega)
    have hmod : (Int.tmod ((i - 1 : Nat) : Int) step = 0) ↔ (two = true → i % 2 = 1) := by
      subst hs
      cases two with
      | false => simp
      | true =>
        simp only [if_true, forall_const]
        rw [Int.tmod_eq_emod_of_nonneg (by omega)]
        omega
    rw [List.drop_eq_getElem_cons hlt, kf]
    have next1 := ih (i + 1) (acc ++ [l[i]]) (by omega) (by omega) (by simp; omega)
    have next0 := ih (i + 1) acc (by omega) (by omega) (by omega)
    rw [List.append_assoc] at next1
    have j1 : Ev (fun k => intaglioref17_Keys.j1 k l acc true (i : Int) true nm mi ma wr 1 last step od ev) (acc ++ if (two = true → i % 2 = 1) ∧ (last < 0 ∨ (i : Int) ≤ last) then l[i] :: kf two last (i + 1) (l.drop (i + 1)) else kf two last (i + 1) (l.drop (i + 1))) := by
      by_cases hm : (two = true → i % 2 = 1)
      · have hm' := hmod.2 hm
        by_cases hneg : last < 0
        · rw [if_pos ⟨hm, .inl hneg⟩]
          refine Ev.step (fun k => ?_) next1
          simp only [intaglioref17_Keys.j1, ↓reduceIte, hs0, hW, hm', hneg, c2, c1, c4, hrd, wS i (by omega)]
        · by_cases hle : (i : Int) ≤ last
          · rw [if_pos ⟨hm, .inr hle⟩]
            refine Ev.step (fun k => ?_) next1
            simp only [intaglioref17_Keys.j1, ↓reduceIte, hs0, hW, hm', hneg, hle, c2, c1, c4, hrd, wS i (by omega)]
          · rw [if_neg (by rintro ⟨_, h | h⟩ <;> contradiction)]
            refine Ev.step (fun k => ?_) next0
            simp only [intaglioref17_Keys.j1, ↓reduceIte, hs0, hW, hm', hneg, hle, wS i (by omega)]
      · have hm' : ¬ Int.tmod ((i - 1 : Nat) : Int) step = 0 := fun h => hm (hmod.1 h)
        rw [if_neg (fun h => hm h.1)]
        refine Ev.step (fun k => ?_) next0
        simp only [intaglioref17_Keys.j1, ↓reduceIte, hs0, hW, hm', wS i (by omega)]
    refine Ev.step (fun k => ?_) j1
    simp only [intaglioref17_Keys.l0, ↓reduceIte, c1, decide_true, show (1 : Int) > 0 by decide]

theorem rkeys (l : List ByteArray) (hl : l.length ≤ 1000) (hz : ∀ s ∈ l, s.size ≤ 1000) : Ev (fun k => intaglioref17_Keys.f k l) (keysL l) := by
  cases l with
  | nil => exact ⟨0, fun k _ => rfl⟩
  | cons n t =>
    have hne : ¬ ((n :: t).length : Int) = 0 := by simp only [List.length_cons]; omega
    have hpos : 0 < ((n :: t).length : Int) := by simp only [List.length_cons]; omega
    have hF := find_ev n (by have := hz n (by simp); omega)
    unfold intaglioref17_Keys.f
    simp only [hne, hpos, ↓reduceIte, rd0]
    refine Ev.bind hF ?_
    rw [show keysL (n :: t) = keysOf (findU (upS n).toList) (n :: t) from rfl]
    cases hu : findU (upS n).toList with
    | none =>
      simp only [convU, noRT, keysOf]
      refine ⟨2, fun k hk => ?_⟩
      obtain ⟨k, rfl⟩ : ∃ m, k = m + 1 + 1 := ⟨k - 2, by omega⟩
      simp only [intaglioref17_Keys.l0, intaglioref17_Keys.j1, Bool.false_eq_true, ↓reduceIte]
    | some p =>
      simp only [convU, keysOf]
      rcases sp_cases (ok_find hu) with h0 | ⟨h1, h2, h3⟩
      · rw [if_pos h0, h0]
        refine ⟨2, fun k hk => ?_⟩
        obtain ⟨k, rfl⟩ : ∃ m, k = m + 1 + 1 := ⟨k - 2, by omega⟩
        simp only [intaglioref17_Keys.l0, intaglioref17_Keys.j1, Bool.false_eq_true, ↓reduceIte, show ¬ ((0 : Int) > 0) by decide]
      · rw [if_neg (by omega), h1]
        have := rkeys_l0 (n :: t) hl (p.step == 2) p.last h3 p.step h2 (upS n) p.min p.max p.writes p.odd p.even t.length 1 [] (by simp; omega) (by omega) (by simp)
        exact this

/-! the checks -/
def tUnk : ByteArray := ⟨#[69, 82, 82, 32, 117, 110, 107, 110, 111, 119, 110, 32, 99, 111, 109, 109, 97, 110, 100]⟩
def tAri : ByteArray := ⟨#[69, 82, 82, 32, 119, 114, 111, 110, 103, 32, 110, 117, 109, 98, 101, 114, 32, 111, 102, 32, 97, 114, 103, 117, 109, 101, 110, 116, 115]⟩
def tLong : ByteArray := ⟨#[69, 82, 82, 32, 116, 111, 111, 32, 108, 111, 110, 103]⟩
def tBad : ByteArray := ⟨#[69, 82, 82, 32, 98, 97, 100, 32, 107, 101, 121]⟩
/-- May a command of this spec have so many words? -/
def fitB (p : Sp) (n : Nat) : Bool := decide (p.min ≤ (n : Int)) && decide ((n : Int) ≤ p.max) && (!p.odd || n % 2 == 1) && (!p.even || n % 2 == 0)
/-- A spec with its name, or what is wrong. -/
def chk (l : List ByteArray) : Option (ByteArray × Sp) × ByteArray := match l with
  | [] => (none, tUnk)
  | n :: t => match findU (upS n).toList with
    | none => (none, tUnk)
    | some p => if fitB p (n :: t).length then (if (n :: t).any (fun s => decide (512 < s.size)) then (none, tLong) else
        if (keysL (n :: t)).any (fun s => decide (s.size = 0) || decide (64 < s.size)) then (none, tBad) else (some (upS n, p), ⟨#[]⟩)) else (none, tAri)
def chkI (x : Option (ByteArray × Sp) × ByteArray) : Int × Int × Int × ByteArray × Int × Int × Bool × Bool × Bool × ByteArray := match x with
  | (none, e) => (0, 0, 0, ⟨#[]⟩, 0, 0, false, false, false, e)
  | (some (n, p), e) => (p.first, p.last, p.step, n, p.min, p.max, p.writes, p.odd, p.even, e)
def chkR (x : Option (ByteArray × Sp) × ByteArray) : ByteArray × Int × Int × Bool × Int × Int × Int × Bool × Bool × ByteArray := match x with
  | (none, e) => (⟨#[]⟩, 0, 0, false, 0, 0, 0, false, false, e)
  | (some (n, p), e) => (n, p.min, p.max, p.writes, p.first, p.last, p.step, p.odd, p.even, e)

theorem fits_eq (p : Sp) (nm : ByteArray) (n : Nat) : verb_Spec_fits.f p.first p.last p.step nm p.min p.max p.writes p.odd p.even (n : Int) = some (fitB p n) := by
  have hm : Int.tmod (n : Int) 2 = ((n % 2 : Nat) : Int) := by rw [Int.tmod_eq_emod_of_nonneg (by omega)]; omega
  unfold verb_Spec_fits.f fitB
  rw [hm]
  by_cases h1 : (n : Int) ≥ p.min
  · by_cases h2 : (n : Int) ≤ p.max
    · rw [if_pos h1, if_pos h2, decide_eq_true (show p.min ≤ (n : Int) from h1), decide_eq_true h2]
      have hc : n % 2 = 0 ∨ n % 2 = 1 := by omega
      cases p.odd <;> cases p.even <;> rcases hc with h | h <;> simp [h]
    · rw [if_pos h1, if_neg h2, decide_eq_false h2]; simp
  · rw [if_neg h1, decide_eq_false (show ¬ p.min ≤ (n : Int) from h1)]; simp

theorem check_impl (l : List ByteArray) (hl : l.length ≤ 1000) (hz : ∀ s ∈ l, s.size ≤ 1000) : Ev (fun k => verb_Check.f k l) (chkI (chk l)) := by
  cases l with
  | nil => exact ⟨0, fun k _ => rfl⟩
  | cons n t =>
    have hne : ¬ ((n :: t).length : Int) = 0 := by simp only [List.length_cons]; omega
    have hpos : 0 < ((n :: t).length : Int) := by simp only [List.length_cons]; omega
    have hF : verb_Find.f n = some (spT (findS n)) := by unfold verb_Find.f; rw [if_pos (by have := hz n (by simp); omega)]
    have hK := keys_impl (n :: t) hl hz
    have hkl : ∀ l : List ByteArray, l.length ≤ 1000 → slices_ContainsFunc_66.f l = some (l.any fun s => decide (512 < s.size)) := fun l h => by unfold slices_ContainsFunc_66.f; rw [if_pos (by omega)]
    have kfl : ∀ (two : Bool) (last : Int) (l : List ByteArray) (i : Nat), (kf two last i l).length ≤ l.length := by
      intro two last l
      induction l with
      | nil => intro i; simp [kf]
      | cons a t ih => intro i; rw [kf]; split <;> (have := ih (i + 1); simp; omega)
    have hkk : (keysL (n :: t)).length ≤ 9223372036854775807 := by
      rw [show keysL (n :: t) = keysOf (findU (upS n).toList) (n :: t) from rfl]
      cases findU (upS n).toList with
      | none => simp [keysOf]
      | some p =>
        simp only [keysOf]
        split
        · simp
        · have := kfl (p.step == 2) p.last ((n :: t).drop 1) 1
          simp only [List.length_drop] at this
          omega
    have hkb : slices_ContainsFunc_67.f (keysL (n :: t)) = some ((keysL (n :: t)).any fun s => decide (s.size = 0) || decide (64 < s.size)) := by unfold slices_ContainsFunc_67.f; rw [if_pos hkk]
    unfold verb_Check.f
    simp only [hne, hpos, ↓reduceIte, rd0, hF, Option.bind_some]
    rw [findS_U]
    unfold chk
    simp only
    cases hu : findU (upS n).toList with
    | none =>
      simp only [Option.map_none, spT, Bool.false_eq_true, ↓reduceIte]
      exact Ev.now _
    | some p =>
      simp only [Option.map_some, spT, Sp.named, ↓reduceIte, fits_eq, Option.bind_some, hkl _ hl]
      cases fitB p (n :: t).length with
      | false => simp only [Bool.false_eq_true, ↓reduceIte]; exact Ev.now _
      | true =>
        simp only [↓reduceIte]
        cases (n :: t).any (fun s => decide (512 < s.size)) with
        | true => simp only [↓reduceIte]; exact Ev.now _
        | false =>
          simp only [Bool.false_eq_true, ↓reduceIte]
          refine Ev.bind hK ?_
          rw [hkb]
          simp only [Option.bind_some]
          cases (keysL (n :: t)).any (fun s => decide (s.size = 0) || decide (64 < s.size)) with
          | true => simp only [↓reduceIte]; exact Ev.now _
          | false => simp only [Bool.false_eq_true, ↓reduceIte]; exact Ev.now _
end Go.Proofs.YtbfbmgkgaokecaaDoor.PR
