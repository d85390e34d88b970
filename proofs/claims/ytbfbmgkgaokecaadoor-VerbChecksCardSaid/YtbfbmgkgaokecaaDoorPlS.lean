/- VerbSpecs, plainly: the reference's table tells what the switches tell. -/
import Derived.Test.YtbfbmgkgaokecaaDoorPRf29
import Derived.Test.YtbfbmgkgaokecaaDoorGvA
set_option linter.unusedVariables false
set_option linter.unusedSimpArgs false
namespace Go.Proofs.YtbfbmgkgaokecaaDoor.PR
open Go.RowKit Go.Proofs.YtbfbmgkgaokecaaDoorW.PrintWords Go.Proofs.YtbfbmgkgaokecaaDoorW.PrintLast Go.Proofs.YtbfbmgkgaokecaaDoorW.PrintMore
open Vb

abbrev RT := ByteArray × Int × Int × Bool × Int × Int × Int × Bool × Bool × Bool
def tbl : List S99 := (intaglioref17_table.f).getD []
theorem tbl_eq : intaglioref17_table.f = some tbl := rfl
def rowHit (r : S99) (up : ByteArray) : Bool := r.f0.any fun n => decide (n.toList = up.toList)
def noRT : RT := (⟨#[]⟩, 0, 0, false, 0, 0, 0, false, false, false)
/-- What the reference's table tells of a name. -/
def refF : List S99 → ByteArray → RT
  | [], _ => noRT
  | r :: t, up => if rowHit r up then (up, r.f1, r.f2, r.f3, r.f4, r.f5, r.f6, r.f7, r.f8, true) else refF t up
/-- What the switches tell of a name. -/
def findU (l : List UInt8) : Option Sp := match shortS l with
  | some p => some p
  | none => match middleS l with
    | some p => some p
    | none => wideS l
def convU (up : ByteArray) : Option Sp → RT
  | some p => (up, p.min, p.max, p.writes, p.first, p.last, p.step, p.odd, p.even, true)
  | none => noRT
def allN : List ByteArray := tbl.flatMap (·.f0)
def eqRT : RT → RT → Bool
  | (a1, a2, a3, a4, a5, a6, a7, a8, a9, a10), (b1, b2, b3, b4, b5, b6, b7, b8, b9, b10) =>
    a1.toList == b1.toList && (a2 == b2 && (a3 == b3 && (a4 == b4 && (a5 == b5 && (a6 == b6 && (a7 == b7 && (a8 == b8 && (a9 == b9 && a10 == b10))))))))
theorem eqRT_eq : ∀ {a b : RT}, eqRT a b = true → a = b
  | (a1, a2, a3, a4, a5, a6, a7, a8, a9, a10), (b1, b2, b3, b4, b5, b6, b7, b8, b9, b10), h => by
    simp only [eqRT, Bool.and_eq_true, beq_iff_eq] at h
    obtain ⟨h1, rfl, rfl, rfl, rfl, rfl, rfl, rfl, rfl, rfl⟩ := h
    rw [bytes_ext h1]
theorem names_all : allN.all (fun n => eqRT (refF tbl n) (convU n (findU n.toList))) = true := by kernel_rfl
theorem names_short : shortT.all (fun r => allN.any fun n => n.toList == r.1) = true := by kernel_rfl
theorem names_middle : middleT.all (fun r => allN.any fun n => n.toList == r.1) = true := by kernel_rfl
theorem names_wide : wideT.all (fun r => allN.any fun n => n.toList == r.1) = true := by kernel_rfl
theorem refF_none : ∀ (t : List S99) (up : ByteArray), (∀ n ∈ t.flatMap (·.f0), ¬ n.toList = up.toList) → refF t up = noRT
  | [], _, _ => rfl
  | r :: t, up, h => by
    rw [refF, if_neg, refF_none t up (fun n hn => h n (by rw [List.flatMap_cons]; exact List.mem_append.2 (.inr hn)))]
    intro hh
    obtain ⟨n, hn, he⟩ := List.any_eq_true.1 hh
    exact h n (by rw [List.flatMap_cons]; exact List.mem_append.2 (.inl hn)) (of_decide_eq_true he)
theorem pick_none {t : List (List UInt8 × Sp)} {up : ByteArray} (ht : t.all (fun r => allN.any fun n => n.toList == r.1) = true) (h : ∀ n ∈ allN, ¬ n.toList = up.toList) : pick t up.toList = none := by
  unfold pick
  rw [List.find?_eq_none.2]
  · rfl
  · intro r hr he
    have := List.all_eq_true.1 ht r hr
    obtain ⟨n, hn, hn2⟩ := List.any_eq_true.1 this
    exact h n hn ((eq_of_beq hn2).trans (eq_of_beq he))
theorem refF_eq (up : ByteArray) : refF tbl up = convU up (findU up.toList) := by
  by_cases h : ∃ n ∈ allN, n.toList = up.toList
  · obtain ⟨n, hn, he⟩ := h
    obtain rfl := bytes_ext he
    exact eqRT_eq (List.all_eq_true.1 names_all n hn)
  · have h : ∀ n ∈ allN, ¬ n.toList = up.toList := fun n hn he => h ⟨n, hn, he⟩
    rw [refF_none tbl up h]
    unfold findU shortS middleS wideS
    rw [pick_none names_short h, pick_none names_middle h, pick_none names_wide h]
    rfl
theorem findS_U (s : ByteArray) : findS s = (findU (upS s).toList).map (Sp.named (upS s)) := by
  unfold findS findU
  cases shortS (upS s).toList with
  | some p => rfl
  | none =>
    simp only
    cases middleS (upS s).toList with
    | some p => rfl
    | none => simp only; cases wideS (upS s).toList <;> rfl

theorem bt_ofS (s : ByteArray) (i : Nat) (h : i < s.size) : bt s (i : Int) = ((s.data.toList[i]'(by rw [Array.length_toList]; exact h)).toNat : Int) := by
  unfold bt
  rw [Int.toNat_natCast, dif_pos h]
  simp
  rfl
theorem wS (n : Nat) (h : n ≤ 1000000) : wrap64 ((n : Int) + 1) = ((n + 1 : Nat) : Int) := by unfold wrap64; omega
theorem rd99 (x : List S99) (i : Nat) (h : i < x.length) : rd_T99 x (i : Int) = x[i] := by
  unfold rd_T99; rw [Int.toNat_natCast, List.getD_eq_getElem?_getD, List.getElem?_eq_getElem h]; rfl
theorem rdN (x : List ByteArray) (i : Nat) (h : i < x.length) : rdOf ByteArray.empty x (i : Int) = x[i] := by
  unfold rdOf; rw [Int.toNat_natCast, List.getD_eq_getElem?_getD, List.getElem?_eq_getElem h]; rfl

theorem find_l1 (t : List S99) (ht : t.length ≤ 1000) (up : ByteArray) (i : Nat) (hi : i < t.length) (hn : t[i].f0.length ≤ 1000)
    (next : Ev (fun k => intaglioref17_Find.l0 k t up ((i + 1 : Nat) : Int)) (refF (t.drop (i + 1)) up)) (d : Nat) : ∀ j : Nat, j + d = t[i].f0.length →
    Ev (fun k => intaglioref17_Find.l1 k t up (i : Int) (j : Int)) (if (t[i].f0.drop j).any (fun n => decide (n.toList = up.toList)) then (up, t[i].f1, t[i].f2, t[i].f3, t[i].f4, t[i].f5, t[i].f6, t[i].f7, t[i].f8, true) else refF (t.drop (i + 1)) up) := by
  have hr := rd99 t i hi
  have c1 : 0 ≤ (i : Int) := by omega
  have c2 : (i : Int) < (t.length : Int) := by omega
  induction d with
  | zero =>
    intro j hj
    have c3 : ¬ (j : Int) < (t[i].f0.length : Int) := by omega
    rw [List.drop_eq_nil_of_le (by omega), List.any_nil, if_neg (by simp)]
    refine Ev.step (fun k => ?_) next
    simp only [intaglioref17_Find.l1, ↓reduceIte, c1, c2, hr, c3, wS i (by omega)]
  | succ d ih =>
    intro j hj
    have c3 : (j : Int) < (t[i].f0.length : Int) := by omega
    have c4 : 0 ≤ (j : Int) := by omega
    have hj2 : j < t[i].f0.length := by omega
    have hrn := rdN t[i].f0 j hj2
    rw [List.drop_eq_getElem_cons hj2, List.any_cons]
    by_cases he : t[i].f0[j].toList = up.toList
    · rw [decide_eq_true he, Bool.true_or, if_pos rfl]
      refine ⟨1, fun k hk => ?_⟩
      obtain ⟨k, rfl⟩ : ∃ m, k = m + 1 := ⟨k - 1, by omega⟩
      simp only [intaglioref17_Find.l1, ↓reduceIte, c1, c2, hr, c3, c4, hrn, eq_true he]
    · rw [decide_eq_false he, Bool.false_or]
      refine Ev.step (fun k => ?_) (ih (j + 1) (by omega))
      simp only [intaglioref17_Find.l1, ↓reduceIte, c1, c2, hr, c3, c4, hrn, eq_false he, wS j (by omega)]
theorem find_l0 (t : List S99) (ht : t.length ≤ 1000) (hn : ∀ r ∈ t, r.f0.length ≤ 1000) (up : ByteArray) (d : Nat) : ∀ i : Nat, i + d = t.length →
    Ev (fun k => intaglioref17_Find.l0 k t up (i : Int)) (refF (t.drop i) up) := by
  induction d with
  | zero =>
    intro i hi
    have c : ¬ (i : Int) < (t.length : Int) := by omega
    rw [List.drop_eq_nil_of_le (by omega)]
    refine ⟨1, fun k hk => ?_⟩
    obtain ⟨k, rfl⟩ : ∃ m, k = m + 1 := ⟨k - 1, by omega⟩
    simp only [intaglioref17_Find.l0, ↓reduceIte, c]
    rfl
  | succ d ih =>
    intro i hi
    have hi2 : i < t.length := by omega
    have c : (i : Int) < (t.length : Int) := by omega
    have := find_l1 t ht up i hi2 (hn _ (List.getElem_mem hi2)) (ih (i + 1) (by omega)) (t[i].f0.length) 0 (by omega)
    rw [List.drop_eq_getElem_cons hi2]
    refine Ev.step (fun k => ?_) this
    simp only [intaglioref17_Find.l0, ↓reduceIte, c]
    rfl

/-! the reference's capital letters -/
theorem up_step (s : ByteArray) (i : Nat) (h : i < s.size) (n : Int) (hn : n = ((up1 (s.data.toList[i]'(by rw [Array.length_toList]; exact h))).toNat : Int)) :
    (⟨(upL (s.data.toList.take i)).toArray⟩ : ByteArray) ++ strOfNums [n] = ⟨(upL (s.data.toList.take (i + 1))).toArray⟩ := by
  subst hn
  have hl : i < s.data.toList.length := by rw [Array.length_toList]; exact h
  rw [List.take_succ_eq_append_getElem hl]
  apply ByteArray.ext
  simp [upL, strOfNums]
theorem upper_l0 (s : ByteArray) (hs : s.size ≤ 100000) (d : Nat) : ∀ i : Nat, i + d = s.size →
    Ev (fun k => intaglioref17_Upper.l0 k s ⟨(upL (s.data.toList.take i)).toArray⟩ (i : Int)) (upS s) := by
  have hl : s.data.toList.length = s.size := Array.length_toList
  induction d with
  | zero =>
    intro i hi
    have c : ¬ (i : Int) < (s.size : Int) := by omega
    refine ⟨1, fun k hk => ?_⟩
    obtain ⟨k, rfl⟩ : ∃ m, k = m + 1 := ⟨k - 1, by omega⟩
    simp only [intaglioref17_Upper.l0, ↓reduceIte, c]
    rw [List.take_of_length_le (by omega)]; rfl
  | succ d ih =>
    intro i hi
    have hi2 : i < s.size := by omega
    have c1 : (i : Int) < (s.size : Int) := by omega
    have c2 : 0 ≤ (i : Int) := by omega
    have hb := bt_ofS s i hi2
    have hst := up_step s i hi2
    generalize s.data.toList[i]'(by omega) = a at hb hst
    have ha := a.toNat_lt
    have hsz : (⟨(upL (s.data.toList.take i)).toArray⟩ : ByteArray).size ≤ i := by
      show (upL (s.data.toList.take i)).toArray.size ≤ i
      simp [upL]; omega
    have h1 : ∀ n : Int, (strOfNums [n]).size = 1 := fun n => rfl
    have c3 : ∀ n : Int, (⟨(upL (s.data.toList.take i)).toArray⟩ : ByteArray).size + (strOfNums [n]).size ≤ 9223372036854775807 := fun n => by rw [h1]; omega
    refine Ev.step (fun k => ?_) (ih (i + 1) (by omega))
    by_cases h97 : (a.toNat : Int) ≥ 97
    · by_cases h122 : (a.toNat : Int) ≤ 122
      · have hu := up1_yes h97 h122
        have := hst (((a.toNat : Int) - 32) % 256) (by omega)
        simp only [intaglioref17_Upper.l0, ↓reduceIte, c1, c2, hb, h97, h122, Option.bind_some, c3, this, wS i (by omega)]
      · have hu := up1_no (c := a) (fun h => h122 h.2)
        have := hst (a.toNat : Int) (by rw [hu])
        simp only [intaglioref17_Upper.l0, ↓reduceIte, c1, c2, hb, h97, h122, Option.bind_some, c3, this, wS i (by omega)]
    · have hu := up1_no (c := a) (fun h => h97 h.1)
      have := hst (a.toNat : Int) (by rw [hu])
      simp only [intaglioref17_Upper.l0, ↓reduceIte, c1, c2, hb, h97, Option.bind_some, c3, this, wS i (by omega)]
theorem upper_ev (s : ByteArray) (hs : s.size ≤ 100000) : Ev (fun k => intaglioref17_Upper.f k s) (upS s) := upper_l0 s hs _ 0 (Nat.zero_add _)
theorem tbl_len : tbl.length = 20 := by kernel_rfl
theorem tbl_names : tbl.all (fun r => decide (r.f0.length ≤ 1000)) = true := by kernel_rfl
/-- The reference's Find. -/
theorem find_ev (s : ByteArray) (hs : s.size ≤ 100000) : Ev (fun k => intaglioref17_Find.f k s) (convU (upS s) (findU (upS s).toList)) := by
  have := find_l0 tbl (by rw [tbl_len]; omega) (fun r hr => of_decide_eq_true (List.all_eq_true.1 tbl_names r hr)) (upS s) tbl.length 0 (by omega)
  rw [List.drop_zero, refF_eq] at this
  refine Ev.congr (f := fun k => (intaglioref17_Upper.f k s).bind fun t => intaglioref17_Find.l0 k tbl t 0) (fun k => ?_) (Ev.bind (upper_ev s hs) this)
  unfold intaglioref17_Find.f
  rw [tbl_eq]
  rfl
end Go.Proofs.YtbfbmgkgaokecaaDoor.PR
