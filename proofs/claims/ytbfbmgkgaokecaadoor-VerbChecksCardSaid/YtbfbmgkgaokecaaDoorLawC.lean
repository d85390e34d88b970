/- The walk of the statement VerbChecks. -/
import Derived.Test.YtbfbmgkgaokecaaDoorPlL
set_option linter.unusedVariables false
set_option linter.unusedSimpArgs false
namespace Go.Proofs.YtbfbmgkgaokecaaDoor.PR
open Go.RowKit Go.Proofs.YtbfbmgkgaokecaaDoorW.PrintWords Go.Proofs.YtbfbmgkgaokecaaDoorW.PrintLast Go.Proofs.YtbfbmgkgaokecaaDoorW.PrintMore
open Vb

section
variable (nm : ByteArray) (mi ma : Int) (wr : Bool) (fi la st : Int) (od ev : Bool)
theorem rchk_l1 (ks : List ByteArray) (hk : ks.length ≤ 1000) (n : Nat) : ∀ i : Nat, i + n = ks.length →
    Ev (fun k => intaglioref17_Check.l1 k ks (i : Int) nm mi ma wr fi la st od ev) (if (ks.drop i).any (fun s => decide (s.size = 0) || decide (64 < s.size)) then (⟨#[]⟩, 0, 0, false, 0, 0, 0, false, false, tBad) else (nm, mi, ma, wr, fi, la, st, od, ev, ⟨#[]⟩)) := by
  induction n with
  | zero =>
    intro i hi
    have c : ¬ (i : Int) < (ks.length : Int) := by omega
    rw [List.drop_eq_nil_of_le (by omega), List.any_nil, if_neg (by simp)]
    refine ⟨1, fun k hk => ?_⟩
    obtain ⟨k, rfl⟩ : ∃ m, k = m + 1 := ⟨k - 1, by omega⟩
    simp only [intaglioref17_Check.l1, ↓reduceIte, c]
  | succ n ih =>
    intro i hi
    have hlt : i < ks.length := by omega
    have c : (i : Int) < (ks.length : Int) := by omega
    have c2 : 0 ≤ (i : Int) := by omega
    have hrd := rdN ks i hlt
    rw [List.drop_eq_getElem_cons hlt, List.any_cons]
    by_cases h0 : ks[i].size = 0
    · have c3 : (ks[i].size : Int) < 1 := by omega
      rw [decide_eq_true h0, Bool.true_or, Bool.true_or, if_pos rfl]
      refine ⟨1, fun k hk => ?_⟩
      obtain ⟨k, rfl⟩ : ∃ m, k = m + 1 := ⟨k - 1, by omega⟩
      simp only [intaglioref17_Check.l1, ↓reduceIte, c, c2, hrd, c3]
      rfl
    · have c3 : ¬ (ks[i].size : Int) < 1 := by omega
      by_cases h64 : 64 < ks[i].size
      · have c4 : (ks[i].size : Int) > 64 := by omega
        rw [decide_eq_false h0, decide_eq_true h64, Bool.false_or, Bool.true_or, if_pos rfl]
        refine ⟨1, fun k hk => ?_⟩
        obtain ⟨k, rfl⟩ : ∃ m, k = m + 1 := ⟨k - 1, by omega⟩
        simp only [intaglioref17_Check.l1, ↓reduceIte, c, c2, hrd, c3, c4]
        rfl
      · have c4 : ¬ (ks[i].size : Int) > 64 := by omega
        rw [decide_eq_false h0, decide_eq_false h64, Bool.false_or, Bool.false_or]
        refine Ev.step (fun k => ?_) (ih (i + 1) (by omega))
        simp only [intaglioref17_Check.l1, ↓reduceIte, c, c2, hrd, c3, c4, wS i (by omega)]
theorem rchk_l0 (l : List ByteArray) (hl : l.length ≤ 1000) (R : ByteArray × Int × Int × Bool × Int × Int × Int × Bool × Bool × ByteArray)
    (hR : Ev (fun k => (intaglioref17_Keys.f k l).bind fun t => intaglioref17_Check.l1 k t 0 nm mi ma wr fi la st od ev) R) (n : Nat) : ∀ i : Nat, i + n = l.length →
    Ev (fun k => intaglioref17_Check.l0 k l (l.length : Int) (i : Int) nm mi ma wr fi la st od ev) (if (l.drop i).any (fun s => decide (512 < s.size)) then (⟨#[]⟩, 0, 0, false, 0, 0, 0, false, false, tLong) else R) := by
  induction n with
  | zero =>
    intro i hi
    have c : ¬ (i : Int) < (l.length : Int) := by omega
    rw [List.drop_eq_nil_of_le (by omega), List.any_nil, if_neg (by simp)]
    refine Ev.step (fun k => ?_) hR
    simp only [intaglioref17_Check.l0, ↓reduceIte, c]
  | succ n ih =>
    intro i hi
    have hlt : i < l.length := by omega
    have c : (i : Int) < (l.length : Int) := by omega
    have c2 : 0 ≤ (i : Int) := by omega
    have hrd := rdN l i hlt
    rw [List.drop_eq_getElem_cons hlt, List.any_cons]
    by_cases h : 512 < l[i].size
    · have c4 : (l[i].size : Int) > 512 := by omega
      rw [decide_eq_true h, Bool.true_or, if_pos rfl]
      refine ⟨1, fun k hk => ?_⟩
      obtain ⟨k, rfl⟩ : ∃ m, k = m + 1 := ⟨k - 1, by omega⟩
      simp only [intaglioref17_Check.l0, ↓reduceIte, c, c2, hrd, c4]
      rfl
    · have c4 : ¬ (l[i].size : Int) > 512 := by omega
      rw [decide_eq_false h, Bool.false_or]
      refine Ev.step (fun k => ?_) (ih (i + 1) (by omega))
      simp only [intaglioref17_Check.l0, ↓reduceIte, c, c2, hrd, c4, wS i (by omega)]
end
theorem kf_length (two : Bool) (last : Int) : ∀ (l : List ByteArray) (i : Nat), (kf two last i l).length ≤ l.length
  | [], _ => by simp [kf]
  | a :: t, i => by rw [kf]; split <;> (have := kf_length two last t (i + 1); simp; omega)
theorem keysL_length (l : List ByteArray) : (keysL l).length ≤ l.length := by
  cases l with
  | nil => simp [keysL]
  | cons n t =>
    rw [show keysL (n :: t) = keysOf (findU (upS n).toList) (n :: t) from rfl]
    cases findU (upS n).toList with
    | none => simp [keysOf]
    | some p =>
      simp only [keysOf]
      split
      · simp
      · have := kf_length (p.step == 2) p.last ((n :: t).drop 1) 1
        simp only [List.length_drop] at this
        omega
theorem check_ref (l : List ByteArray) (hl : l.length ≤ 1000) (hz : ∀ s ∈ l, s.size ≤ 1000) : Ev (fun k => intaglioref17_Check.f k l) (chkR (chk l)) := by
  cases l with
  | nil => exact ⟨0, fun k _ => rfl⟩
  | cons n t =>
    have hne : ¬ ((n :: t).length : Int) = 0 := by simp only [List.length_cons]; omega
    have hpos : 0 < ((n :: t).length : Int) := by simp only [List.length_cons]; omega
    have hF := find_ev n (by have := hz n (by simp); omega)
    have hK := rkeys (n :: t) hl hz
    unfold intaglioref17_Check.f
    simp only [hne, hpos, ↓reduceIte, rd0]
    refine Ev.bind hF ?_
    unfold chk
    simp only
    cases hu : findU (upS n).toList with
    | none =>
      simp only [convU, noRT, Bool.false_eq_true, ↓reduceIte]
      exact Ev.now _
    | some p =>
      simp only [convU, ↓reduceIte]
      have hj : ∀ b, b = !fitB p (n :: t).length → Ev (fun k => intaglioref17_Check.j0 k (n :: t) ((n :: t).length : Int) b (upS n) p.min p.max p.writes p.first p.last p.step p.odd p.even)
          (chkR (if fitB p (n :: t).length = true then (if (n :: t).any (fun s => decide (512 < s.size)) = true then (none, tLong) else if (keysL (n :: t)).any (fun s => decide (s.size = 0) || decide (64 < s.size)) = true then (none, tBad) else (some (upS n, p), ⟨#[]⟩)) else (none, tAri))) := by
        intro b hb
        subst hb
        cases fitB p (n :: t).length with
        | false =>
          refine ⟨1, fun k hk => ?_⟩
          obtain ⟨k, rfl⟩ : ∃ m, k = m + 1 := ⟨k - 1, by omega⟩
          simp only [intaglioref17_Check.j0, Bool.not_false, ↓reduceIte, Bool.false_eq_true]
          rfl
        | true =>
          have h1 := rchk_l1 (upS n) p.min p.max p.writes p.first p.last p.step p.odd p.even (keysL (n :: t)) (by have := keysL_length (n :: t); omega) _ 0 (Nat.zero_add _)
          have h0 := rchk_l0 (upS n) p.min p.max p.writes p.first p.last p.step p.odd p.even (n :: t) hl _ (Ev.bind hK h1) _ 0 (Nat.zero_add _)
          rw [List.drop_zero, List.drop_zero] at h0
          have hv : (if (n :: t).any (fun s => decide (512 < s.size)) = true then ((⟨#[]⟩ : ByteArray), (0 : Int), (0 : Int), false, (0 : Int), (0 : Int), (0 : Int), false, false, tLong) else
              if (keysL (n :: t)).any (fun s => decide (s.size = 0) || decide (64 < s.size)) = true then (⟨#[]⟩, 0, 0, false, 0, 0, 0, false, false, tBad) else (upS n, p.min, p.max, p.writes, p.first, p.last, p.step, p.odd, p.even, ⟨#[]⟩)) =
              chkR (if true = true then (if (n :: t).any (fun s => decide (512 < s.size)) = true then (none, tLong) else if (keysL (n :: t)).any (fun s => decide (s.size = 0) || decide (64 < s.size)) = true then (none, tBad) else (some (upS n, p), ⟨#[]⟩)) else (none, tAri)) := by
            rw [if_pos rfl]
            split
            · rfl
            · split <;> rfl
          rw [hv] at h0
          refine Ev.step (fun k => ?_) h0
          simp only [intaglioref17_Check.j0, Bool.not_true, Bool.false_eq_true, ↓reduceIte]
          rfl
      generalize hN : (n :: t).length = N at *
      have hfit : fitB p N = (decide (p.min ≤ (N : Int)) && decide ((N : Int) ≤ p.max) && (!p.odd || N % 2 == 1) && (!p.even || N % 2 == 0)) := rfl
      by_cases h1 : (N : Int) < p.min
      · refine Ev.congr (fun k => ?_) (hj true ?_)
        · simp only [h1, ↓reduceIte]
        · rw [hfit, decide_eq_false (show ¬ p.min ≤ (N : Int) by omega)]; simp
      · by_cases h2 : (N : Int) > p.max
        · refine Ev.congr (fun k => ?_) (hj true ?_)
          · simp only [h1, h2, ↓reduceIte]
          · rw [hfit, decide_eq_false (show ¬ (N : Int) ≤ p.max by omega)]; simp
        · have d1 : decide (p.min ≤ (N : Int)) = true := decide_eq_true (by omega)
          have d2 : decide ((N : Int) ≤ p.max) = true := decide_eq_true (by omega)
          rw [d1, d2] at hfit
          have hm : (((N : Int) % 2) == 1) = (N % 2 == 1) := by rw [Bool.eq_iff_iff, beq_iff_eq, beq_iff_eq]; omega
          have hc : N % 2 = 0 ∨ N % 2 = 1 := by omega
          by_cases ho : p.odd = true
          · by_cases hz0 : (N : Int) % 2 = 0
            · have hz1 : N % 2 = 0 := by omega
              refine Ev.congr (fun k => ?_) (hj true ?_)
              · simp only [h1, h2, ho, hz0, ↓reduceIte]
              · rw [hfit]; simp [ho, hz1]
            · have hz1 : N % 2 = 1 := by omega
              by_cases he : p.even = true
              · refine Ev.congr (fun k => ?_) (hj (((N : Int) % 2) == 1) ?_)
                · simp only [h1, h2, ho, hz0, he, ↓reduceIte]
                · rw [hfit, hm]; simp [ho, he, hz1]
              · refine Ev.congr (fun k => ?_) (hj false ?_)
                · simp only [h1, h2, ho, hz0, he, Bool.false_eq_true, ↓reduceIte]
                · rw [hfit]; simp [ho, he, hz1]
          · by_cases he : p.even = true
            · refine Ev.congr (fun k => ?_) (hj (((N : Int) % 2) == 1) ?_)
              · simp only [h1, h2, ho, he, Bool.false_eq_true, ↓reduceIte]
              · rw [hfit, hm]; rcases hc with h | h <;> simp [ho, he, h]
            · refine Ev.congr (fun k => ?_) (hj false ?_)
              · simp only [h1, h2, ho, he, Bool.false_eq_true, ↓reduceIte]
              · rw [hfit]; simp [ho, he]

theorem light_ev (l : List ByteArray) (n : Nat) (hn : l.length ≤ 1000) : ∀ i : Nat, i + n = l.length →
    Ev (fun k => intagliolaw17_light.l0 k l (i : Int)) ((l.drop i).all fun s => decide (s.size ≤ 600)) := by
  induction n with
  | zero =>
    intro i hi
    have c : ¬ (i : Int) < (l.length : Int) := by omega
    rw [List.drop_eq_nil_of_le (by omega)]
    refine ⟨1, fun k hk => ?_⟩
    obtain ⟨k, rfl⟩ : ∃ m, k = m + 1 := ⟨k - 1, by omega⟩
    simp only [intagliolaw17_light.l0, ↓reduceIte, c]
    rfl
  | succ n ih =>
    intro i hi
    have hlt : i < l.length := by omega
    have c : (i : Int) < (l.length : Int) := by omega
    have c2 : 0 ≤ (i : Int) := by omega
    have hrd := rdN l i hlt
    rw [List.drop_eq_getElem_cons hlt, List.all_cons]
    by_cases h : l[i].size ≤ 600
    · have c4 : ¬ (l[i].size : Int) > 600 := by omega
      rw [decide_eq_true h, Bool.true_and]
      refine Ev.step (fun k => ?_) (ih (i + 1) (by omega))
      simp only [intagliolaw17_light.l0, ↓reduceIte, c, c2, hrd, c4, wS i (by omega)]
    · have c4 : (l[i].size : Int) > 600 := by omega
      rw [decide_eq_false h, Bool.false_and]
      refine ⟨1, fun k hk => ?_⟩
      obtain ⟨k, rfl⟩ : ∃ m, k = m + 1 := ⟨k - 1, by omega⟩
      simp only [intagliolaw17_light.l0, ↓reduceIte, c, c2, hrd, c4]
theorem same_ev (l : List ByteArray) (hn : l.length ≤ 100000) (n : Nat) : ∀ i : Nat, i + n = l.length → Ev (fun k => intaglioref17_Same.l0 k l l (i : Int)) true := by
  induction n with
  | zero =>
    intro i hi
    have c : ¬ (i : Int) < (l.length : Int) := by omega
    refine ⟨1, fun k hk => ?_⟩
    obtain ⟨k, rfl⟩ : ∃ m, k = m + 1 := ⟨k - 1, by omega⟩
    simp only [intaglioref17_Same.l0, ↓reduceIte, c]
  | succ n ih =>
    intro i hi
    have c : (i : Int) < (l.length : Int) := by omega
    have c2 : 0 ≤ (i : Int) := by omega
    refine Ev.step (fun k => ?_) (ih (i + 1) (by omega))
    simp only [intaglioref17_Same.l0, ↓reduceIte, c, c2, wS i (by omega)]
theorem same_refl2 (a b c : Int) (n : ByteArray) (d e : Int) (x y z : Bool) : intagliolaw17_same.f a b c n d e x y z n d e x a b c y z = some true := by
  unfold intagliolaw17_same.f
  simp
theorem VerbChecks_true (l : List ByteArray) : ∃ k, intagliolaw17_VerbChecks.f k l = some true := by
  apply Ev.rounds
  unfold intagliolaw17_VerbChecks.f intagliolaw17_light.f
  by_cases h60 : (l.length : Int) > 60
  · simp only [h60, ↓reduceIte, Option.bind_some, Bool.false_eq_true]
    exact Ev.now _
  · simp only [h60, ↓reduceIte]
    refine Ev.bind (light_ev l _ (by omega) 0 (Nat.zero_add _)) ?_
    rw [List.drop_zero]
    cases ha : l.all (fun s => decide (s.size ≤ 600)) with
    | false => simp only [Bool.false_eq_true, ↓reduceIte]; exact Ev.now _
    | true =>
      simp only [↓reduceIte]
      have hz : ∀ s ∈ l, s.size ≤ 1000 := fun s hs => by have := of_decide_eq_true (List.all_eq_true.1 ha s hs); omega
      refine Ev.bind (check_impl l (by omega) hz) (Ev.bind (check_ref l (by omega) hz) ?_)
      have hkl := keysL_length l
      have hs := same_ev (keysL l) (by omega) _ 0 (Nat.zero_add _)
      have tail : Ev (fun k => (verb_Keys.f k l).bind fun t126 => ((intaglioref17_Keys.f k l).bind fun t129 => ((intaglioref17_Same.f k t126 t129).bind fun t132 => (if t132 = true then ((intagliolaw17_awake.f).bind fun t133 => (some t133)) else (some false))))) true := by
        refine Ev.bind (keys_impl l (by omega) hz) (Ev.bind (rkeys l (by omega) hz) (Ev.bind (a := true) ?_ ?_))
        · unfold intaglioref17_Same.f
          simp only [↓reduceIte]
          exact hs
        · exact Ev.now _
      have fin : ∀ x, Ev (fun k => (intagliolaw17_same.f (chkI x).1 (chkI x).2.1 (chkI x).2.2.1 (chkI x).2.2.2.1 (chkI x).2.2.2.2.1 (chkI x).2.2.2.2.2.1 (chkI x).2.2.2.2.2.2.1 (chkI x).2.2.2.2.2.2.2.1 (chkI x).2.2.2.2.2.2.2.2.1 (chkR x).1 (chkR x).2.1 (chkR x).2.2.1 (chkR x).2.2.2.1 (chkR x).2.2.2.2.1 (chkR x).2.2.2.2.2.1 (chkR x).2.2.2.2.2.2.1 (chkR x).2.2.2.2.2.2.2.1 (chkR x).2.2.2.2.2.2.2.2.1).bind fun t125 => (if t125 = true then (if (chkI x).2.2.2.2.2.2.2.2.2.toList = (chkR x).2.2.2.2.2.2.2.2.2.toList then ((verb_Keys.f k l).bind fun t126 => ((intaglioref17_Keys.f k l).bind fun t129 => ((intaglioref17_Same.f k t126 t129).bind fun t132 => (if t132 = true then ((intagliolaw17_awake.f).bind fun t133 => (some t133)) else (some false))))) else (some false)) else (some false))) true := by
        rintro ⟨o, e⟩
        cases o with
        | none =>
          simp only [chkI, chkR, same_refl2, Option.bind_some, ↓reduceIte]
          exact tail
        | some q =>
          obtain ⟨n, p⟩ := q
          simp only [chkI, chkR, same_refl2, Option.bind_some, ↓reduceIte]
          exact tail
      exact fin (chk l)
end Go.Proofs.YtbfbmgkgaokecaaDoor.PR
namespace Go.Proofs.YtbfbmgkgaokecaaDoor.PR
open Go.RowKit Go.Proofs.YtbfbmgkgaokecaaDoorW.PrintWords Go.Proofs.YtbfbmgkgaokecaaDoorW.PrintLast Go.Proofs.YtbfbmgkgaokecaaDoorW.PrintMore
theorem C_none {α : Type} {d : Kd α} {w : World} : Kd.C d w none ([] : List α).length [] := ⟨rfl, by simp, fun h => by simp at h⟩
theorem C_strings {w : World} {x : Addr} {len : Nat} {zs : List ByteArray} (h : ∀ i, i < zs.length → w.cell? (x.add i) = some (.string (zs.getD i ByteArray.empty))) (hl : len ≤ zs.length) (hm : len ≤ 9223372036854775807)
    (hlen : (zs.take len).length = len) : Kd.C Kd.string w (some x) (zs.take len).length (zs.take len) := by
  refine ⟨rfl, by omega, fun _ => ⟨x, rfl, fun j p hj => ⟨[.string p], rfl, rfl, fun i u hu => ?_⟩⟩⟩
  obtain ⟨hjl, hp⟩ := List.getElem?_eq_some_iff.1 hj
  match i, hu with
  | 0, hu =>
    obtain rfl := Option.some.inj hu
    have hj2 : j < zs.length := by omega
    have := h j hj2
    rw [List.getD_eq_getElem?_getD, List.getElem?_eq_getElem hj2] at this
    show w.cell? (x.add (j * 1 + 0)) = _
    rw [show j * 1 + 0 = j by omega, this]
    rw [List.getElem_take] at hp
    rw [← hp]; rfl
end Go.Proofs.YtbfbmgkgaokecaaDoor.PR
namespace Go.Proofs.YtbfbmgkgaokecaaDoor.Vb
open Go.RowKit
theorem VerbChecks_walk {w : World} (A : Option Addr) (c : Nat) (l : List ByteArray) (hr : Go.Proofs.YtbfbmgkgaokecaaDoorW.PrintWords.Kd.C Go.Proofs.YtbfbmgkgaokecaaDoorW.PrintWords.Kd.string w A l.length l) (hc : l.length ≤ c) (hG : Glob w) :
    Calls Tryd.prog 13 #[.slice A l.length c] w fun e w' => e = .returned (.bool true) ∧ Below w.heap.size w w' := by
  obtain ⟨k, hk⟩ := PR.VerbChecks_true l
  exact PR.intagliolaw17_VerbChecks.calls k A c l true w hG hr hc hk
end Go.Proofs.YtbfbmgkgaokecaaDoor.Vb
