/- Layer 19: what the reference's parser tells is what PlV says. -/
import Derived.Test.YtbfbmgkgaokecaaDoorPlR
namespace Go.Proofs.YtbfbmgkgaokecaaDoor.PS
open Go.RowKit Go.Proofs.YtbfbmgkgaokecaaDoorW.PrintWords Go.Proofs.YtbfbmgkgaokecaaDoorW.PrintLast Go.Proofs.YtbfbmgkgaokecaaDoorW.PrintMore
set_option linter.unusedVariables false
set_option linter.unusedSimpArgs false

/-- A count's answer, in the reference's words. -/
def toB (x : Int × List UInt8 × Int) : Int × ByteArray × Int := (x.1, ⟨x.2.1.toArray⟩, x.2.2)
theorem rj1_true (x0 : ByteArray) (x2 x9 : Int) (x10 : ByteArray) (x11 : Int) : Ev (fun k => intaglioref19_count.j1 k x0 x2 x9 x10 x11 true) (0, ⟨#[]⟩, 3) :=
  Ev.step (f := fun _ => some (0, ⟨#[]⟩, 3)) (fun k => by simp only [intaglioref19_count.j1, if_true]) (Ev.now _)
theorem rj1_false (sg : UInt8) (most : Int) (l : List UInt8) (hl : l.length ≤ 1000000) (i : Nat) (hi : i < l.length) (h3 : 3 ≤ i) (h11 : i ≤ 11) (h13 : l[i - 1]? = some 13) (hh : l.head? = some sg) :
    Ev (fun k => intaglioref19_count.j1 k ⟨l.toArray⟩ most (i : Int) ⟨(l.take (i + 1)).toArray⟩ ((i + 1 : Nat) : Int) false) (toB (cntAt sg most l i)) := by
  have e1 : ((1 : Int) ≤ ((i - 1 : Nat) : Int)) = True := eq_true (by omega)
  have e2 : (((i - 1 : Nat) : Int) ≤ ((⟨(l.take (i + 1)).toArray⟩ : ByteArray).size : Int)) = True := eq_true (by rw [bsz, List.length_take]; omega)
  have ex : (⟨(l.take (i + 1)).toArray⟩ : ByteArray).extract 1 (i - 1) = ⟨((l.take (i - 1)).drop 1).toArray⟩ := by
    rw [bex]
    congr 2
    rw [List.drop_take, List.drop_take, List.take_take, Nat.min_eq_left (by omega)]
  have hs20 : (⟨((l.take (i - 1)).drop 1).toArray⟩ : ByteArray).size ≤ 20 := by rw [bsz, List.length_drop, List.length_take]; omega
  have hI := rint_ev _ hs20
  have e3 : ((0 : Int) ≤ ((i + 1 : Nat) : Int)) = True := eq_true (by omega)
  have e4 : (((i + 1 : Nat) : Int) ≤ ((⟨l.toArray⟩ : ByteArray).size : Int)) = True := eq_true (by rw [bsz]; omega)
  have exr : (⟨l.toArray⟩ : ByteArray).extract (i + 1) (⟨l.toArray⟩ : ByteArray).size = ⟨(l.drop (i + 1)).toArray⟩ := by
    rw [bex, bsz]
    congr 2
    exact List.take_of_length_le (by rw [List.length_drop]; omega)
  have ec : cntAt sg most l i = match Vb.intS ⟨((l.take (i - 1)).drop 1).toArray⟩ with
      | none => (0, [], 3)
      | some x => if x < 0 then (0, [], 3) else if most < x then (0, [], 5) else (x, l.drop (i + 1), 0) := by
    unfold cntAt; rw [if_pos ⟨h3, h11, h13, hh⟩]; rfl
  rw [ec]
  refine Ev.step (fun k => by simp only [intaglioref19_count.j1, Bool.false_eq_true, if_false, show wrap64 (((i + 1 : Nat) : Int) - 2) = ((i - 1 : Nat) : Int) by rw [wI (by omega) (by omega)]; omega, e1, e2, if_true, Int.toNat_natCast, ex]; exact rfl) ?_
  refine Ev.bind hI ?_
  have tail : ∀ x : Int, ∀ bb : Bool, (bb = true → x < 0 ∨ True) → Ev (fun k => intaglioref19_count.j2 k ⟨l.toArray⟩ most (i : Int) x bb) (if bb = true then (0, ⟨#[]⟩, 3) else if most < x then (0, ⟨#[]⟩, 5) else (x, ⟨(l.drop (i + 1)).toArray⟩, 0)) := by
    intro x bb _
    cases bb with
    | true => exact Ev.step (f := fun _ => some (0, ⟨#[]⟩, 3)) (fun k => by simp only [intaglioref19_count.j2, if_true]) (Ev.now _)
    | false =>
      by_cases hm : most < x
      · have hm' : (x > most) = True := eq_true hm
        simp only [Bool.false_eq_true, if_false, hm, if_true]
        exact Ev.step (f := fun _ => some (0, ⟨#[]⟩, 5)) (fun k => by simp only [intaglioref19_count.j2, Bool.false_eq_true, if_false, hm', if_true]) (Ev.now _)
      · have hm' : (x > most) = False := eq_false hm
        simp only [Bool.false_eq_true, if_false, hm]
        exact Ev.step (f := fun _ => some (x, ⟨(l.drop (i + 1)).toArray⟩, 0)) (fun k => by simp only [intaglioref19_count.j2, Bool.false_eq_true, if_false, hm', show wrap64 ((i : Int) + 1) = ((i + 1 : Nat) : Int) by rw [wI (by omega) (by omega)]; omega, e3, e4, if_true, Int.toNat_natCast, exr]) (Ev.now _)
  cases hv : Vb.intS ⟨((l.take (i - 1)).drop 1).toArray⟩ with
  | none =>
    have := tail 0 true (fun _ => .inr trivial)
    simp only [if_true] at this
    simp only [Bool.false_eq_true, if_false]
    exact this
  | some x =>
    by_cases hx : x < 0
    · have := tail x true (fun _ => .inr trivial)
      simp only [if_true] at this
      simp only [if_true, decide_eq_true hx, hx]
      exact this
    · have := tail x false (fun h => by cases h)
      simp only [Bool.false_eq_true, if_false] at this
      simp only [if_true, decide_eq_false hx, hx, if_false]
      have e : toB (if most < x then (0, [], 5) else (x, l.drop (i + 1), 0)) = (if most < x then (0, ⟨#[]⟩, 5) else (x, ⟨(l.drop (i + 1)).toArray⟩, 0)) := by split <;> rfl
      rw [e]
      exact this
theorem head_one (l : List UInt8) (sg : UInt8) (i : Nat) : (l.take (i + 1)).take 1 = [sg] ↔ l.head? = some sg := by
  cases l with
  | nil => simp
  | cons a l => simp
theorem rcnt_ev (sg : UInt8) (most : Int) (l : List UInt8) (hl : l.length ≤ 1000000) : Ev (fun k => intaglioref19_count.f k ⟨l.toArray⟩ ⟨[sg].toArray⟩ most) (toB (cnt sg most l)) := by
  have hx : (⟨l.toArray⟩ : ByteArray).extract 0 (min l.length 16) = ⟨(l.take 16).toArray⟩ := by
    rw [bex, List.drop_zero, Nat.sub_zero]
    congr 2
    by_cases h : l.length ≤ 16
    · rw [Nat.min_eq_left h, List.take_length, List.take_of_length_le h]
    · rw [Nat.min_eq_right (by omega)]
  have e1 : ((0 : Int) ≤ ((min l.length 16 : Nat) : Int)) = True := eq_true (by omega)
  have e2 : (((min l.length 16 : Nat) : Int) ≤ (l.length : Int)) = True := eq_true (by omega)
  have hf := find_ev (l.take 16) (by rw [List.length_take]; omega)
  refine ev_call (fun k => by unfold intaglioref19_count.f; simp only [bsz, mn16, e1, e2, if_true, Int.toNat_natCast, hx]; exact rfl) hf ?_
  by_cases hn : Lib.indexByte (l.take 16) 10 < 0
  · have ec : cnt sg most l = (0, [], if 16 ≤ l.length then 3 else 4) := by unfold cnt; rw [if_pos hn]
    rw [ec]
    simp only [hn, if_true]
    by_cases h16 : 16 ≤ l.length
    · have d : decide ((l.length : Int) ≥ 16) = true := decide_eq_true (by omega)
      rw [if_pos h16]
      simp only [d]
      exact Ev.step (f := fun _ => some (0, ⟨#[]⟩, 3)) (fun k => by simp only [intaglioref19_count.j0, if_true]) (Ev.now _)
    · have d : decide ((l.length : Int) ≥ 16) = false := decide_eq_false (by omega)
      rw [if_neg h16]
      simp only [d]
      exact Ev.step (f := fun _ => some (0, ⟨#[]⟩, 4)) (fun k => by simp only [intaglioref19_count.j0, Bool.false_eq_true, if_false, hn, if_true]) (Ev.now _)
  · have ec : cnt sg most l = cntAt sg most l (Lib.indexByte (l.take 16) 10).toNat := by unfold cnt; rw [if_neg hn]
    have hlt := indexByte_lt (l.take 16) 10
    have hget := indexByte_get (l.take 16) 10 (by omega)
    rw [List.length_take] at hlt
    rw [ec]
    simp only [hn, if_false]
    obtain ⟨i, hi⟩ : ∃ i : Nat, Lib.indexByte (l.take 16) 10 = (i : Int) := ⟨(Lib.indexByte (l.take 16) 10).toNat, by omega⟩
    rw [hi] at hlt hget hn ⊢
    rw [Int.toNat_natCast] at hget ⊢
    have hil : i < l.length := by omega
    have h10 : l[i]? = some 10 := by rw [List.getElem?_take_of_lt (by omega)] at hget; exact hget
    have e3 : ((0 : Int) ≤ ((i + 1 : Nat) : Int)) = True := eq_true (by omega)
    have e4 : (((i + 1 : Nat) : Int) ≤ (l.length : Int)) = True := eq_true (by omega)
    have hlen : (l.take (i + 1)).length = i + 1 := by rw [List.length_take]; omega
    have ex : (⟨l.toArray⟩ : ByteArray).extract 0 (i + 1) = ⟨(l.take (i + 1)).toArray⟩ := by rw [bex, List.drop_zero, Nat.sub_zero]
    have hend := line_end l i h10
    have tri : (0 : Int) ≤ 1 := by decide
    have w1 : wrap64 ((i : Int) + 1) = ((i + 1 : Nat) : Int) := by rw [wI (by omega) (by omega)]; omega
    by_cases h4 : i + 1 < 4
    · have d1 : (((i + 1 : Nat) : Int) < 4) = True := eq_true (by omega)
      have er : cntAt sg most l i = (0, [], 3) := by unfold cntAt; rw [if_neg (fun h => by omega)]
      rw [er]
      refine Ev.step (fun k => by simp only [intaglioref19_count.j0, Bool.false_eq_true, if_false, hn, w1, e3, e4, bsz, if_true, Int.toNat_natCast, ex, hlen, d1]; exact rfl) ?_
      exact rj1_true _ _ _ _ _
    · have d1 : (((i + 1 : Nat) : Int) < 4) = False := eq_false (by omega)
      by_cases h12 : 12 < i + 1
      · have d2 : (((i + 1 : Nat) : Int) > 12) = True := eq_true (by omega)
        have er : cntAt sg most l i = (0, [], 3) := by unfold cntAt; rw [if_neg (fun h => by omega)]
        rw [er]
        refine Ev.step (fun k => by simp only [intaglioref19_count.j0, Bool.false_eq_true, if_false, hn, w1, e3, e4, bsz, if_true, Int.toNat_natCast, ex, hlen, d1, d2]; exact rfl) ?_
        exact rj1_true _ _ _ _ _
      · have d2 : (((i + 1 : Nat) : Int) > 12) = False := eq_false (by omega)
        have d3 : ((1 : Int) ≤ ((i + 1 : Nat) : Int)) = True := eq_true (by omega)
        have ex1 : (⟨(l.take (i + 1)).toArray⟩ : ByteArray).extract 0 1 = ⟨((l.take (i + 1)).take 1).toArray⟩ := by rw [bex, List.drop_zero, Nat.sub_zero]
        have h01 := head_one l sg i
        by_cases hh : l.head? = some sg
        · have d4 : ((l.take (i + 1)).take 1 = [sg]) = True := eq_true (h01.2 hh)
          have w2 : wrap64 (((i + 1 : Nat) : Int) - 2) = ((i - 1 : Nat) : Int) := by rw [wI (by omega) (by omega)]; omega
          have d5 : ((0 : Int) ≤ ((i - 1 : Nat) : Int)) = True := eq_true (by omega)
          have d6 : (((i - 1 : Nat) : Int) ≤ ((i + 1 : Nat) : Int)) = True := eq_true (by omega)
          have ex2 : (⟨(l.take (i + 1)).toArray⟩ : ByteArray).extract (i - 1) (i + 1) = ⟨((l.take (i + 1)).drop ((l.take (i + 1)).length - 2)).toArray⟩ := by
            rw [bex]
            congr 2
            rw [hlen, show i + 1 - 2 = i - 1 by omega]
            exact List.take_of_length_le (by rw [List.length_drop, hlen]; omega)
          by_cases hE : 1 ≤ i ∧ l[i - 1]? = some 13
          · have d7 : (((l.take (i + 1)).drop ((l.take (i + 1)).length - 2)) != [13, 10]) = false := by rw [(hend.2 hE).2]; rfl
            refine Ev.step (fun k => by simp only [intaglioref19_count.j0, Bool.false_eq_true, if_false, hn, w1, e3, e4, bsz, if_true, Int.toNat_natCast, ex, hlen, d1, d2, tri, d3, ex1, btl, d4, w2, d5, d6, ex2]; exact rfl) ?_
            have d7' : ((l.take (i + 1)).drop (i + 1 - 2) != [13, 10]) = false := by rw [hlen] at d7; exact d7
            simp only [d7', d7]
            exact rj1_false sg most l hl i hil (by omega) (by omega) hE.2 hh
          · have hne : ¬ (l.take (i + 1)).drop ((l.take (i + 1)).length - 2) = [13, 10] := fun h => hE (hend.1 ⟨by rw [hlen]; omega, h⟩)
            have d7 : (((l.take (i + 1)).drop ((l.take (i + 1)).length - 2)) != [13, 10]) = true := bne_iff_ne.mpr hne
            have er : cntAt sg most l i = (0, [], 3) := by unfold cntAt; rw [if_neg (fun h => hE ⟨by omega, h.2.2.1⟩)]
            rw [er]
            refine Ev.step (fun k => by simp only [intaglioref19_count.j0, Bool.false_eq_true, if_false, hn, w1, e3, e4, bsz, if_true, Int.toNat_natCast, ex, hlen, d1, d2, tri, d3, ex1, btl, d4, w2, d5, d6, ex2]; exact rfl) ?_
            have d7' : ((l.take (i + 1)).drop (i + 1 - 2) != [13, 10]) = true := by rw [hlen] at d7; exact d7
            simp only [d7', d7]
            exact rj1_true _ _ _ _ _
        · have d4 : ((l.take (i + 1)).take 1 = [sg]) = False := eq_false (fun h => hh (h01.1 h))
          have er : cntAt sg most l i = (0, [], 3) := by unfold cntAt; rw [if_neg (fun h => hh h.2.2.2)]
          rw [er]
          refine Ev.step (fun k => by simp only [intaglioref19_count.j0, Bool.false_eq_true, if_false, hn, w1, e3, e4, bsz, if_true, Int.toNat_natCast, ex, hlen, d1, d2, tri, d3, ex1, btl, d4]; exact rfl) ?_
          exact rj1_true _ _ _ _ _
end Go.Proofs.YtbfbmgkgaokecaaDoor.PS
