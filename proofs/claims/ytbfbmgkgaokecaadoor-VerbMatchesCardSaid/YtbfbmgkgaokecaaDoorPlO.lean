/- The reference's first part of a pattern, plainly. -/
import Derived.Test.YtbfbmgkgaokecaaDoorPlN
namespace Go.Proofs.YtbfbmgkgaokecaaDoor.PR
open Go.RowKit Go.Proofs.YtbfbmgkgaokecaaDoorW.PrintWords Go.Proofs.YtbfbmgkgaokecaaDoorW.PrintLast Go.Proofs.YtbfbmgkgaokecaaDoorW.PrintMore
open Vb

theorem just_get' (c d : UInt8) : (justF c.toNat).getD d.toNat false = (c == d) := by
  have hc := c.toNat_lt
  have hd := d.toNat_lt
  unfold justF
  rw [List.getD_eq_getElem?_getD, List.getElem?_set]
  by_cases e : c = d
  · subst e; rw [if_pos rfl, if_pos (by rw [f0_length]; omega)]; simp
  · have e2 : ¬ c.toNat = d.toNat := fun h => e (UInt8.toNat_inj.1 h)
    rw [if_neg e2, beq_eq_false_iff_ne.2 e, List.getElem?_eq_getElem (by rw [f0_length]; omega), f0_at]; rfl
theorem bt_eq (a c : UInt8) : ((a.toNat : Int) == (c.toNat : Int)) = (a == c) := by
  rw [Bool.eq_iff_iff, beq_iff_eq, beq_iff_eq, ← UInt8.toNat_inj]; omega
theorem bt_is (a c : UInt8) : ((a.toNat : Int) = (c.toNat : Int)) ↔ a = c := by
  rw [← UInt8.toNat_inj]; omega

/-- Where the brackets end that a pattern begins with. -/
def endV (l : List UInt8) : Int := if Lib.indexByte (l.drop (brkFrom l + 1)) 93 < 0 then 0 else brkFrom l + 1 + Lib.indexByte (l.drop (brkFrom l + 1)) 93
theorem end_loop (s : ByteArray) (hs : s.size ≤ 1000000) (n : Nat) : ∀ i : Nat, i ≤ 1000000 → s.size - i = n →
    Ev (fun k => intaglioref17_end.l0 k s (i : Int)) (if Lib.indexByte (s.data.toList.drop i) 93 < 0 then 0 else (i : Int) + Lib.indexByte (s.data.toList.drop i) 93) := by
  have hl : s.data.toList.length = s.size := Array.length_toList
  induction n with
  | zero =>
    intro i hi hn
    rw [List.drop_eq_nil_of_le (by omega)]
    exact ⟨1, fun k hk => by
      obtain ⟨k, rfl⟩ : ∃ m, k = m + 1 := ⟨k - 1, by omega⟩
      simp only [intaglioref17_end.l0]
      rw [if_neg (by omega)]; rfl⟩
  | succ n ih =>
    intro i hi hn
    have h0 : i < s.size := by omega
    rw [List.drop_eq_getElem_cons (show i < s.data.toList.length by omega)]
    generalize ha : s.data.toList[i]'(by omega) = a
    have hb := bt_of s i h0
    rw [ha] at hb
    by_cases h93 : a = 93
    · subst h93
      refine ⟨1, fun k hk => ?_⟩
      obtain ⟨k, rfl⟩ : ∃ m, k = m + 1 := ⟨k - 1, by omega⟩
      simp only [intaglioref17_end.l0]
      rw [if_pos (by omega), if_pos (by omega), if_pos (by rw [hb]; rfl)]
      simp [Lib.indexByte]
    · have hne : (a == 93) = false := beq_eq_false_iff_ne.2 h93
      have hge := Lib.indexByte_ge (s.data.toList.drop (i + 1)) 93
      have hv : (if Lib.indexByte (a :: s.data.toList.drop (i + 1)) 93 < 0 then 0 else (i : Int) + Lib.indexByte (a :: s.data.toList.drop (i + 1)) 93) =
          (if Lib.indexByte (s.data.toList.drop (i + 1)) 93 < 0 then 0 else ((i + 1 : Nat) : Int) + Lib.indexByte (s.data.toList.drop (i + 1)) 93) := by
        rw [Lib.indexByte, hne]
        simp only [Bool.false_eq_true, if_false]
        by_cases h1 : Lib.indexByte (s.data.toList.drop (i + 1)) 93 = -1
        · rw [h1]; rfl
        · have : (Lib.indexByte (s.data.toList.drop (i + 1)) 93 == -1) = false := beq_eq_false_iff_ne.2 h1
          rw [this]
          simp only [Bool.false_eq_true, if_false]
          rw [if_neg (by omega), if_neg (by omega)]; omega
      rw [hv]
      refine Ev.step (fun k => ?_) (ih (i + 1) (by omega) (by omega))
      simp only [intaglioref17_end.l0]
      rw [if_pos (by omega), if_pos (by omega), if_neg (by rw [hb]; exact fun e => h93 ((bt_is a 93).1 e)), w64' (by omega) (by omega)]
      congr 1
theorem end_ev (s : ByteArray) (hs : s.size ≤ 100000) : Ev (fun k => intaglioref17_end.f k s) (endV s.data.toList) := by
  have hl : s.data.toList.length = s.size := Array.length_toList
  have key : ∀ i : Nat, i ≤ 2 → brkFrom s.data.toList = i → Ev (fun k => intaglioref17_end.j1 k s (i : Int)) (endV s.data.toList) := by
    intro i hi hb
    have := end_loop s (by omega) (s.size - (i + 1)) (i + 1) (by omega) rfl
    unfold endV
    rw [hb]
    refine Ev.step (fun k => ?_) this
    simp only [intaglioref17_end.j1]
    rw [w64' (by omega) (by omega)]
    congr 1
  unfold intaglioref17_end.f
  by_cases h1 : (s.size : Int) > 1
  · have hb := bt_of s 1 (by omega)
    have hx : s.data.toList[1]? = some (s.data.toList[1]'(by omega)) := List.getElem?_eq_getElem _
    have hbe : (bt s 1 == 94) = decide (s.data.toList[1]? = some 94) := by
      have hb' : bt s 1 = (s.data.toList[1]'(by omega)).toNat := hb
      rw [hb', hx]
      have := bt_eq (s.data.toList[1]'(by omega)) 94
      rw [show ((94 : UInt8).toNat : Int) = 94 from rfl] at this
      rw [this, Bool.eq_iff_iff, beq_iff_eq, decide_eq_true_eq]
      simp
    refine Ev.congr (f := fun k => intaglioref17_end.j0 k s 1 (bt s 1 == 94)) (fun k => by rw [if_pos h1, if_pos (by omega)]) ?_
    rw [hbe]
    by_cases h94 : s.data.toList[1]? = some 94
    · rw [decide_eq_true h94]
      exact Ev.step (fun k => by simp only [intaglioref17_end.j0]; rw [if_pos trivial]; rfl) (key 2 (by omega) (by unfold brkFrom; rw [if_pos h94]))
    · rw [decide_eq_false h94]
      exact Ev.step (fun k => by simp only [intaglioref17_end.j0]; rw [if_neg (by simp)]; rfl) (key 1 (by omega) (by unfold brkFrom; rw [if_neg h94]))
  · refine Ev.congr (f := fun k => intaglioref17_end.j0 k s 1 false) (fun k => by rw [if_neg h1]) ?_
    refine Ev.step (fun k => by simp only [intaglioref17_end.j0]; rw [if_neg (by simp)]; rfl) (key 1 (by omega) ?_)
    unfold brkFrom
    rw [if_neg]
    rw [List.getElem?_eq_none (by omega)]
    simp

theorem brk_end (l : List UInt8) : brk l = if endV l = 0 then (justF 91, 1) else (classF ((l.take (endV l).toNat).drop (brkFrom l)) (l[1]? = some 94), (endV l).toNat + 1) := by
  have hf : brkFrom l = 1 ∨ brkFrom l = 2 := by unfold brkFrom; split <;> simp
  unfold brk endV
  by_cases h1 : l.length < brkFrom l + 1
  · rw [if_pos h1, List.drop_eq_nil_of_le (by omega)]
    rfl
  · rw [if_neg h1]
    have hge := Lib.indexByte_ge (l.drop (brkFrom l + 1)) 93
    generalize Lib.indexByte (l.drop (brkFrom l + 1)) 93 = e at *
    by_cases h2 : e < 0
    · simp only [if_pos h2]; rfl
    · simp only [if_neg h2]
      rw [if_neg (by omega)]
      congr 1
      · congr 1
        rw [List.drop_take]
        congr 1
        omega
      · omega

/-- Does a part describe a byte? -/
def oneB (p : Int × List Bool) (c : UInt8) : Bool := if p.1 = 0 then true else if p.1 = 1 then true else p.2.getD c.toNat false

theorem first_ev (s : ByteArray) (c0 : UInt8) (rest : List UInt8) (hd : s.data.toList = c0 :: rest) (h42 : c0 ≠ 42) (c : UInt8) (hs : s.size ≤ 100000) :
    Ev (fun k => intaglioref17_first.f k s c.toNat) (oneB (onePart c0 rest).1 c, ((onePart c0 rest).2 : Int)) := by
  have hl : s.data.toList.length = s.size := Array.length_toList
  have hz : 0 < s.size := by rw [← hl, hd]; simp
  have hb0 : bt s 0 = (c0.toNat : Int) := by
    have := bt_of s 0 hz
    simp only [hd, List.getElem_cons_zero] at this
    exact this
  have one : ∀ f : List Bool, oneB (2, f) c = f.getD c.toNat false := fun f => rfl
  unfold intaglioref17_first.f
  by_cases h63 : c0 = 63
  · subst h63
    exact ⟨0, fun k _ => by show (if 0 < (s.size : Int) then _ else _) = _; rw [if_pos (by omega), hb0, if_pos (by rfl)]; rfl⟩
  have n63 : ¬ bt s 0 = 63 := by rw [hb0]; exact fun e => h63 ((bt_is c0 63).1 e)
  -- a part that is neither a backslash with something behind, nor begins with one
  have other : ∀ (hno : ¬ (c0 = 92 ∧ 1 < s.size)), Ev (fun k => intaglioref17_first.j0 k s c.toNat false) (oneB (onePart c0 rest).1 c, ((onePart c0 rest).2 : Int)) := by
    intro hno
    by_cases h91 : c0 = 91
    · have hop : onePart c0 rest = ((2, (brk (c0 :: rest)).1), (brk (c0 :: rest)).2) := by
        unfold onePart; rw [if_neg h42, if_neg h63, if_pos h91]
      rw [hop, one, ← hd, brk_end]
      have hE := end_ev s hs
      refine Ev.step (f := fun k => (intaglioref17_end.f k s).bind fun t => intaglioref17_first.j1 k s c.toNat t) (fun k => ?_) (Ev.bind hE ?_)
      · simp only [intaglioref17_first.j0]
        rw [if_neg (by simp), if_pos (by omega), if_pos (by rw [hb0, h91]; rfl)]
      · by_cases he : endV s.data.toList = 0
        · rw [he]
          refine ⟨1, fun k hk => ?_⟩
          obtain ⟨k, rfl⟩ : ∃ m, k = m + 1 := ⟨k - 1, by omega⟩
          simp only [intaglioref17_first.j1]
          rw [if_pos trivial, if_pos (by omega), if_pos trivial, hb0, h91, bt_eq]
          have := just_get' 91 c
          show some (91 == c, (1 : Int)) = some ((justF (UInt8.toNat 91)).getD c.toNat false, 1)
          rw [this]
        · have hf : brkFrom s.data.toList = 1 ∨ brkFrom s.data.toList = 2 := by unfold brkFrom; split <;> simp
          have hE2 : (brkFrom s.data.toList : Int) + 1 ≤ endV s.data.toList ∧ endV s.data.toList < s.size := by
            unfold endV at he ⊢
            have hge := Lib.indexByte_ge (s.data.toList.drop (brkFrom s.data.toList + 1)) 93
            have hlt := indexByte_lt (l := s.data.toList.drop (brkFrom s.data.toList + 1)) (c := 93)
            rw [List.length_drop, hl] at hlt
            split at he
            · exact absurd rfl he
            · rename_i hn; rw [if_neg hn]; omega
          generalize endV s.data.toList = E at *
          obtain ⟨hE3, hE4⟩ := hE2
          rw [if_neg he]
          simp only
          have hx : s.data.toList[1]? = some (s.data.toList[1]'(by omega)) := List.getElem?_eq_getElem _
          have hb1 : bt s 1 = ((s.data.toList[1]'(by omega)).toNat : Int) := bt_of s 1 (by omega)
          have hin : ∀ a : Nat, a ≤ 2 → (s.extract a E.toNat).data.toList = (s.data.toList.take E.toNat).drop a := by
            intro a _
            rw [ByteArray.data_extract]
            simp only [Array.toList_extract]
            rw [List.extract_eq_take_drop, List.drop_take]
          have hsz : ∀ a : Nat, (s.extract a E.toNat).size ≤ 1000000 := by intro a; rw [ByteArray.size_extract]; omega
          by_cases h94 : s.data.toList[1]? = some 94
          · have hf2 : brkFrom s.data.toList = 2 := by unfold brkFrom; rw [if_pos h94]
            have hI := in_ev (s.extract 2 E.toNat) c (hsz 2)
            rw [hin 2 (by omega)] at hI
            rw [decide_eq_true h94, class_get, hf2]
            have hb94 : bt s 1 = 94 := by
              rw [hb1]; rw [hx] at h94; rw [Option.some.inj h94]; rfl
            refine Ev.step (f := fun k => (intaglioref17_in.f k (s.extract 2 E.toNat) c.toNat).bind fun t => some (!t, wrap64 (E + 1))) (fun k => ?_) (Ev.bind hI ?_)
            · simp only [intaglioref17_first.j1]
              rw [if_neg he, if_pos (by omega), if_pos hb94, if_pos (by omega), if_pos (by omega)]
            · refine ⟨0, fun k _ => ?_⟩
              rw [w64' (by omega) (by omega), Bool.bne_true]
              refine congrArg some (Prod.ext rfl ?_)
              show E + 1 = ((E.toNat + 1 : Nat) : Int)
              omega
          · have hf2 : brkFrom s.data.toList = 1 := by unfold brkFrom; rw [if_neg h94]
            have hI := in_ev (s.extract 1 E.toNat) c (hsz 1)
            rw [hin 1 (by omega)] at hI
            rw [decide_eq_false h94, class_get, hf2]
            have hb94 : ¬ bt s 1 = 94 := by
              rw [hb1]; intro e
              exact h94 (by rw [hx, (bt_is _ 94).1 e])
            refine Ev.step (f := fun k => (intaglioref17_in.f k (s.extract 1 E.toNat) c.toNat).bind fun t => some (t, wrap64 (E + 1))) (fun k => ?_) (Ev.bind hI ?_)
            · simp only [intaglioref17_first.j1]
              rw [if_neg he, if_pos (by omega), if_neg hb94, if_pos (by omega), if_pos (by omega)]
            · refine ⟨0, fun k _ => ?_⟩
              rw [w64' (by omega) (by omega), Bool.bne_false]
              refine congrArg some (Prod.ext rfl ?_)
              show E + 1 = ((E.toNat + 1 : Nat) : Int)
              omega
    · have hop : onePart c0 rest = ((2, justF c0.toNat), 1) := by
        unfold onePart; rw [if_neg h42, if_neg h63, if_neg h91]
        cases rest with
        | nil => rfl
        | cons d r =>
          simp only
          rw [if_neg]
          intro e
          exact hno ⟨e, by rw [← hl, hd]; simp⟩
      rw [hop, one, just_get']
      refine Ev.step (f := fun k => intaglioref17_first.j1 k s c.toNat 0) (fun k => ?_) ⟨1, fun k hk => ?_⟩
      · simp only [intaglioref17_first.j0]
        rw [if_neg (by simp), if_pos (by omega), if_neg (by rw [hb0]; exact fun e => h91 ((bt_is c0 91).1 e))]
      · obtain ⟨k, rfl⟩ : ∃ m, k = m + 1 := ⟨k - 1, by omega⟩
        simp only [intaglioref17_first.j1]
        rw [if_pos trivial, if_pos (by omega), hb0, bt_eq]
        rfl
  by_cases h92 : c0 = 92
  · have hb92 : bt s 0 = 92 := by rw [hb0, h92]; rfl
    refine Ev.congr (f := fun k => intaglioref17_first.j0 k s c.toNat (decide ((s.size : Int) > 1))) (fun k => by rw [if_pos (by omega), if_neg n63, if_pos hb92]) ?_
    by_cases h1 : 1 < s.size
    · rw [decide_eq_true (show (s.size : Int) > 1 by omega)]
      have hb1 := bt_of s 1 h1
      cases rest with
      | nil => rw [hd] at hl; simp at hl; omega
      | cons d r =>
        simp only [hd, List.getElem_cons_succ, List.getElem_cons_zero] at hb1
        have hb1 : bt s 1 = (d.toNat : Int) := hb1
        have hop : onePart c0 (d :: r) = ((2, justF d.toNat), 2) := by
          unfold onePart; rw [if_neg h42, if_neg h63, if_neg (by rw [h92]; decide)]; simp only; rw [if_pos h92]
        rw [hop, one, just_get']
        refine ⟨1, fun k hk => ?_⟩
        obtain ⟨k, rfl⟩ : ∃ m, k = m + 1 := ⟨k - 1, by omega⟩
        simp only [intaglioref17_first.j0]
        rw [if_pos trivial, if_pos (by omega), hb1, bt_eq]
        rfl
    · rw [decide_eq_false (show ¬ (s.size : Int) > 1 by omega)]
      exact other (fun h => h1 h.2)
  · have n92 : ¬ bt s 0 = 92 := by rw [hb0]; exact fun e => h92 ((bt_is c0 92).1 e)
    refine Ev.congr (f := fun k => intaglioref17_first.j0 k s c.toNat false) (fun k => by rw [if_pos (by omega), if_neg n63, if_neg n92]) ?_
    exact other (fun h => h92 h.1)
end Go.Proofs.YtbfbmgkgaokecaaDoor.PR
