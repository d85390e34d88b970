/- VerbChecks, plainly: the keys of words. -/
import Derived.Test.YtbfbmgkgaokecaaDoorPlS
import Derived.Test.YtbfbmgkgaokecaaDoorPRf42
set_option linter.unusedVariables false
set_option linter.unusedSimpArgs false

namespace Go.Proofs.YtbfbmgkgaokecaaDoor.PR
open Go.RowKit Go.Proofs.YtbfbmgkgaokecaaDoorW.PrintWords Go.Proofs.YtbfbmgkgaokecaaDoorW.PrintLast Go.Proofs.YtbfbmgkgaokecaaDoorW.PrintMore
open Vb

/-- Where a spec says that keys stand: nowhere, or from the first word on. -/
def spOk (p : Sp) : Bool := p.first == 0 || (p.first == 1 && ((p.step == 1 || p.step == 2) && (p.last == 1 || (p.last == 2 || p.last == -1))))
theorem ok_short : shortT.all (fun r => spOk r.2) = true := by kernel_rfl
theorem ok_middle : middleT.all (fun r => spOk r.2) = true := by kernel_rfl
theorem ok_wide : wideT.all (fun r => spOk r.2) = true := by kernel_rfl
theorem ok_pick {t : List (List UInt8 × Sp)} (ht : t.all (fun r => spOk r.2) = true) {l : List UInt8} {p : Sp} (h : pick t l = some p) : spOk p = true := by
  obtain ⟨q, hq, rfl⟩ := pickName h
  exact List.all_eq_true.1 ht q hq
theorem ok_find {l : List UInt8} {p : Sp} (h : findU l = some p) : spOk p = true := by
  unfold findU at h
  cases h1 : shortS l with
  | some q => rw [h1] at h; exact (Option.some.inj h) ▸ ok_pick ok_short h1
  | none =>
    rw [h1] at h
    simp only at h
    cases h2 : middleS l with
    | some q => rw [h2] at h; exact (Option.some.inj h) ▸ ok_pick ok_middle h2
    | none => rw [h2] at h; exact ok_pick ok_wide h

/-- The words that are keys, from word i on. -/
def kf (two : Bool) (last : Int) : Nat → List ByteArray → List ByteArray
  | _, [] => []
  | i, a :: t => if (two = true → i % 2 = 1) ∧ (last < 0 ∨ (i : Int) ≤ last) then a :: kf two last (i + 1) t else kf two last (i + 1) t
theorem kf_late (two : Bool) (last : Int) (h0 : 0 ≤ last) : ∀ (t : List ByteArray) (i : Nat), last < (i : Int) → kf two last i t = []
  | [], _, _ => rfl
  | a :: t, i, h => by rw [kf, if_neg (by omega)]; exact kf_late two last h0 t (i + 1) (by omega)
def keysOf (o : Option Sp) (l : List ByteArray) : List ByteArray := match o with
  | none => []
  | some p => if p.first = 0 then [] else kf (p.step == 2) p.last 1 (l.drop 1)
/-- The words that are keys. -/
def keysL : List ByteArray → List ByteArray
  | [] => []
  | n :: t => keysOf (findU (upS n).toList) (n :: t)

theorem wT (n m : Nat) (h : n + m ≤ 1000000) (x : Int) (hx : x = m) : wrap64 ((n : Int) + x) = ((n + m : Nat) : Int) := by subst hx; unfold wrap64; omega
theorem wM (n : Nat) (h1 : 1 ≤ n) (h : n ≤ 1000000) : wrap64 ((n : Int) - 1) = ((n - 1 : Nat) : Int) := by unfold wrap64; omega

/-- verb.Keys' loop. -/
theorem keys_l0 (l : List ByteArray) (hl : l.length ≤ 1000) (two : Bool) (last : Int) (hlast : last = 1 ∨ last = 2 ∨ last = -1) (f step : Int) (hs : step = if two then 2 else 1) (nm : ByteArray) (mi ma : Int) (wr od ev : Bool)
    (L : Int) (hL : L = if last < 0 ∨ last ≥ (l.length : Int) then (l.length : Int) - 1 else last) (n : Nat) : ∀ (i : Nat) (acc : List ByteArray), l.length - i = n → i ≤ 2000 → 1 ≤ i → (two = true → i % 2 = 1) → acc.length ≤ i →
    Ev (fun k => verb_Keys.l0 k l acc L (i : Int) f last step nm mi ma wr od ev) (acc ++ kf two last i (l.drop i)) := by
  induction n using Nat.strongRecOn with
  | _ n ih =>
  intro i acc hn hi h1 h2 ha
  by_cases hc : (i : Int) ≤ L
  · have hlt : i < l.length := by rw [hL] at hc; split at hc <;> omega
    have c2 : 0 ≤ (i : Int) := by omega
    have c3 : (i : Int) < (l.length : Int) := by omega
    have c4 : acc.length < 8796093022208 := by omega
    have hcond : (two = true → i % 2 = 1) ∧ (last < 0 ∨ (i : Int) ≤ last) := ⟨h2, by rw [hL] at hc; split at hc <;> omega⟩
    have hv : kf two last i (l.drop i) = l[i] :: kf two last (i + 1) (l.drop (i + 1)) := by rw [List.drop_eq_getElem_cons hlt, kf, if_pos hcond]
    have hrd := rdN l i hlt
    rw [hv]
    cases two with
    | false =>
      have := ih (l.length - (i + 1)) (by omega) (i + 1) (acc ++ [l[i]]) rfl (by omega) (by omega) (by simp) (by simp; omega)
      rw [List.append_assoc] at this
      refine Ev.step (fun k => ?_) this
      simp only [verb_Keys.l0, ↓reduceIte, hc, c2, c3, c4, hrd, wT i 1 (by omega) step (by rw [hs]; rfl)]
    | true =>
      have h2' := h2 rfl
      have hskip : kf true last (i + 1) (l.drop (i + 1)) = kf true last (i + 2) (l.drop (i + 2)) := by
        by_cases h3 : i + 1 < l.length
        · rw [List.drop_eq_getElem_cons h3, kf, if_neg (by intro h; have := h.1 rfl; omega)]
        · rw [List.drop_eq_nil_of_le (by omega), List.drop_eq_nil_of_le (by omega)]; rfl
      rw [hskip]
      have := ih (l.length - (i + 2)) (by omega) (i + 2) (acc ++ [l[i]]) rfl (by omega) (by omega) (by intro _; omega) (by simp; omega)
      rw [List.append_assoc] at this
      refine Ev.step (fun k => ?_) this
      simp only [verb_Keys.l0, ↓reduceIte, hc, c2, c3, c4, hrd, wT i 2 (by omega) step (by rw [hs]; rfl)]
  · have hv : kf two last i (l.drop i) = [] := by
      rw [hL] at hc
      split at hc
      · rw [List.drop_eq_nil_of_le (by omega)]; rfl
      · exact kf_late two last (by omega) _ _ (by omega)
    rw [hv, List.append_nil]
    refine ⟨1, fun k hk => ?_⟩
    obtain ⟨k, rfl⟩ : ∃ m, k = m + 1 := ⟨k - 1, by omega⟩
    simp only [verb_Keys.l0, ↓reduceIte, hc]
theorem sp_cases {p : Sp} (h : spOk p = true) : p.first = 0 ∨ (p.first = 1 ∧ (p.step = if (p.step == 2) then 2 else 1) ∧ (p.last = 1 ∨ p.last = 2 ∨ p.last = -1)) := by
  unfold spOk at h
  simp only [Bool.or_eq_true, Bool.and_eq_true, beq_iff_eq] at h
  rcases h with h | ⟨h1, h2, h3⟩
  · exact .inl h
  · refine .inr ⟨h1, ?_, by rcases h3 with h | h | h <;> simp [h]⟩
    rcases h2 with h | h <;> simp [h]
theorem rd0 (n : ByteArray) (t : List ByteArray) : rdOf ByteArray.empty (n :: t) 0 = n := rfl

theorem keys_impl (l : List ByteArray) (hl : l.length ≤ 1000) (hz : ∀ s ∈ l, s.size ≤ 1000) : Ev (fun k => verb_Keys.f k l) (keysL l) := by
  cases l with
  | nil => exact ⟨0, fun k _ => rfl⟩
  | cons n t =>
    have hne : ¬ ((n :: t).length : Int) = 0 := by simp only [List.length_cons]; omega
    have hpos : 0 < ((n :: t).length : Int) := by simp only [List.length_cons]; omega
    have hF : verb_Find.f n = some (spT (findS n)) := by unfold verb_Find.f; rw [if_pos (by have := hz n (by simp); omega)]
    unfold verb_Keys.f
    simp only [hne, hpos, ↓reduceIte, rd0, hF, Option.bind_some]
    rw [findS_U, show keysL (n :: t) = keysOf (findU (upS n).toList) (n :: t) from rfl]
    cases hu : findU (upS n).toList with
    | none =>
      simp only [Option.map_none, spT, Bool.false_eq_true, ↓reduceIte, keysOf]
      refine ⟨1, fun k hk => ?_⟩
      obtain ⟨k, rfl⟩ : ∃ m, k = m + 1 := ⟨k - 1, by omega⟩
      simp only [verb_Keys.j0, ↓reduceIte]
    | some p =>
      simp only [Option.map_some, spT, Sp.named, ↓reduceIte, keysOf]
      rcases sp_cases (ok_find hu) with h0 | ⟨h1, h2, h3⟩
      · rw [if_pos h0, h0]
        refine ⟨1, fun k hk => ?_⟩
        obtain ⟨k, rfl⟩ : ∃ m, k = m + 1 := ⟨k - 1, by omega⟩
        simp only [verb_Keys.j0, beq_self_eq_true, ↓reduceIte]
      · rw [if_neg (by omega), h1]
        have hk0 := keys_l0 (n :: t) hl (p.step == 2) p.last h3 1 p.step h2 (upS n) p.min p.max p.writes p.odd p.even _ rfl _ 1 [] rfl (by omega) (by omega) (by intro _; rfl) (by simp)
        rw [List.nil_append] at hk0
        have hb : ((1 : Int) == 0) = false := rfl
        rw [hb]
        have key : ∀ L, L = (if p.last < 0 ∨ p.last ≥ ((n :: t).length : Int) then ((n :: t).length : Int) - 1 else p.last) → Ev (fun k => verb_Keys.j2 k (n :: t) [] L 1 p.last p.step (upS n) p.min p.max p.writes p.odd p.even) (kf (p.step == 2) p.last 1 ((n :: t).drop 1)) := by
          intro L hL
          subst hL
          refine Ev.step (fun k => ?_) hk0
          simp only [verb_Keys.j2]
          rfl
        have hw : wrap64 (((n :: t).length : Int) - 1) = ((n :: t).length : Int) - 1 := by
          rw [wM _ (by simp) (by omega)]; simp only [List.length_cons]; omega
        have yes : (p.last < 0 ∨ p.last ≥ ((n :: t).length : Int)) → Ev (fun k => verb_Keys.j1 k (n :: t) [] p.last true 1 p.last p.step (upS n) p.min p.max p.writes p.odd p.even) (kf (p.step == 2) p.last 1 ((n :: t).drop 1)) := by
          intro h
          refine Ev.step (fun k => ?_) (key (((n :: t).length : Int) - 1) (by rw [if_pos h]))
          simp only [verb_Keys.j1, ↓reduceIte]
          rw [hw]
        by_cases hneg : p.last < 0
        · refine Ev.step (fun k => ?_) (yes (.inl hneg))
          simp only [verb_Keys.j0, Bool.false_eq_true, ↓reduceIte, hneg]
        · by_cases hge : p.last ≥ ((n :: t).length : Int)
          · refine Ev.step (fun k => ?_) (yes (.inr hge))
            simp only [verb_Keys.j0, Bool.false_eq_true, ↓reduceIte, hneg, hge, decide_true]
          · have no : Ev (fun k => verb_Keys.j1 k (n :: t) [] p.last false 1 p.last p.step (upS n) p.min p.max p.writes p.odd p.even) (kf (p.step == 2) p.last 1 ((n :: t).drop 1)) := by
              refine Ev.step (fun k => ?_) (key p.last (by rw [if_neg (by omega)]))
              simp only [verb_Keys.j1, Bool.false_eq_true, ↓reduceIte]
            refine Ev.step (fun k => ?_) no
            simp only [verb_Keys.j0, Bool.false_eq_true, ↓reduceIte, hneg, hge, decide_false]
end Go.Proofs.YtbfbmgkgaokecaaDoor.PR
