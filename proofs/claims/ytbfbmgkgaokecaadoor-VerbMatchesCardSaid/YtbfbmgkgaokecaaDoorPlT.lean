/- VerbMatches, plainly: the reference's table tells what verb.Match tells. -/
import Derived.Test.YtbfbmgkgaokecaaDoorPlO
import Derived.Test.YtbfbmgkgaokecaaDoorGvM
import Derived.Test.YtbfbmgkgaokecaaDoorPRf11
namespace Go.Proofs.YtbfbmgkgaokecaaDoor.PR
open Go.RowKit Go.Proofs.YtbfbmgkgaokecaaDoorW.PrintWords Go.Proofs.YtbfbmgkgaokecaaDoorW.PrintLast Go.Proofs.YtbfbmgkgaokecaaDoorW.PrintMore
open Vb

/-- Does a pattern describe a text, by their first parts? -/
def RB : Nat → List UInt8 → List UInt8 → Bool
  | 0, _, _ => false
  | _ + 1, [], s => s.isEmpty
  | n + 1, c0 :: rest, s => if c0 = 42 then RB n rest s || (match s with | [] => false | _ :: t => RB n (c0 :: rest) t)
    else match s with | [] => false | c :: t => oneB (onePart c0 rest).1 c && RB n ((c0 :: rest).drop (onePart c0 rest).2) t

theorem ite_iff {α : Type} {p q : Prop} [Decidable p] [Decidable q] (h : p ↔ q) (a b : α) : (if p then a else b) = if q then a else b := by
  by_cases hp : p
  · rw [if_pos hp, if_pos (h.1 hp)]
  · rw [if_neg hp, if_neg (fun hq => hp (h.2 hq))]
theorem RB_cons (n : Nat) (c0 : UInt8) (rest s : List UInt8) : RB (n + 1) (c0 :: rest) s = if c0 = 42 then RB n rest s || (match s with | [] => false | _ :: t => RB n (c0 :: rest) t)
    else match s with | [] => false | c :: t => oneB (onePart c0 rest).1 c && RB n ((c0 :: rest).drop (onePart c0 rest).2) t := by rw [RB.eq_def]

theorem oneB_iff (p : Int × List Bool) (h : p.1 = 1 ∨ p.1 = 2) (a : List UInt8) : oneP p a ↔ ∃ c, a = [c] ∧ oneB p c = true := by
  unfold oneP oneB
  rcases h with h | h
  · rw [h, if_neg (by decide), if_pos rfl]
    constructor
    · intro ha
      match a, ha with
      | [c], _ => exact ⟨c, rfl, by rw [if_neg (by decide)]; rfl⟩
    · rintro ⟨c, rfl, _⟩; rfl
  · rw [h, if_neg (by decide), if_neg (by decide)]
    constructor
    · rintro ⟨c, rfl, hc⟩; exact ⟨c, rfl, by rw [if_neg (by decide), if_neg (by decide)]; exact hc⟩
    · rintro ⟨c, rfl, hc⟩; exact ⟨c, rfl, by rw [if_neg (by decide), if_neg (by decide)] at hc; exact hc⟩
theorem onePart_kind (c0 : UInt8) (rest : List UInt8) (h : c0 ≠ 42) : (onePart c0 rest).1.1 = 1 ∨ (onePart c0 rest).1.1 = 2 := by
  unfold onePart
  rw [if_neg h]
  split
  · exact .inl rfl
  · split
    · exact .inr rfl
    · split
      · split <;> exact .inr rfl
      · exact .inr rfl
theorem RB_iff : ∀ (n : Nat) (p s : List UInt8), p.length + s.length < n → (RB n p s = true ↔ MP (partsL p) s)
  | 0, _, _, h => by omega
  | n + 1, [], s, _ => by rw [partsL_nil]; cases s <;> simp [RB, MP]
  | n + 1, c0 :: rest, s, h => by
    simp only [List.length_cons] at h
    by_cases h42 : c0 = 42
    · have hp : partsL (c0 :: rest) = (0, f0) :: partsL rest := by
        rw [partsL_cons]; simp [onePart, h42]
      rw [RB_cons, if_pos h42, Bool.or_eq_true, RB_iff n rest s (by omega), hp]
      cases s with
      | nil =>
        simp only [Bool.false_eq_true, or_false]
        constructor
        · intro h; exact ⟨[], [], rfl, trivial, h⟩
        · rintro ⟨a, b, e, _, h⟩
          have := List.append_eq_nil_iff.1 e.symm
          rw [this.2] at h; exact h
      | cons c t =>
        simp only
        rw [RB_iff n (c0 :: rest) t (by simp only [List.length_cons] at h ⊢; omega), hp]
        constructor
        · rintro (h | ⟨a, b, rfl, _, h⟩)
          · exact ⟨[], c :: t, rfl, trivial, h⟩
          · exact ⟨c :: a, b, rfl, trivial, h⟩
        · rintro ⟨a, b, e, _, h⟩
          cases a with
          | nil => exact .inl (by rw [show b = c :: t from e.symm] at h; exact h)
          | cons d a =>
            injection e with _ e2
            exact .inr ⟨a, b, e2, trivial, h⟩
    · have hk := onePart_kind c0 rest h42
      have hpos := onePart_pos c0 rest
      rw [RB_cons, if_neg h42, partsL_cons]
      cases s with
      | nil =>
        simp only [Bool.false_eq_true, false_iff]
        rintro ⟨a, b, e, h1, _⟩
        obtain ⟨c, rfl, _⟩ := (oneB_iff _ hk a).1 h1
        simp at e
      | cons c t =>
        simp only
        rw [Bool.and_eq_true, RB_iff n _ t (by simp only [List.length_drop, List.length_cons] at h ⊢; omega)]
        constructor
        · rintro ⟨h1, h2⟩
          exact ⟨[c], t, rfl, (oneB_iff _ hk _).2 ⟨c, rfl, h1⟩, h2⟩
        · rintro ⟨a, b, e, h1, h2⟩
          obtain ⟨d, rfl, h3⟩ := (oneB_iff _ hk a).1 h1
          injection e with e1 e2
          subst e1
          have e2 : t = b := e2
          rw [← e2] at h2
          exact ⟨h3, h2⟩
/-- With rounds enough. -/
def RM (p s : List UInt8) : Bool := RB (p.length + s.length + 1) p s
theorem RM_iff (p s : List UInt8) : RM p s = true ↔ MP (partsL p) s := RB_iff _ p s (by omega)
theorem RM_eq {n : Nat} {p s : List UInt8} (h : p.length + s.length < n) : RB n p s = RM p s := by
  rw [Bool.eq_iff_iff, RB_iff n p s h, RM_iff]
theorem RM_nil (s : List UInt8) : RM [] s = s.isEmpty := rfl
theorem RM_star {c0 : UInt8} {rest : List UInt8} (h : c0 = 42) (s : List UInt8) : RM (c0 :: rest) s = (RM rest s || (match s with | [] => false | _ :: t => RM (c0 :: rest) t)) := by
  conv => lhs; unfold RM
  rw [RB_cons, if_pos h, RM_eq (by simp only [List.length_cons]; omega)]
  cases s with
  | nil => rfl
  | cons c t => simp only; rw [RM_eq (by simp only [List.length_cons]; omega)]
theorem RM_part {c0 : UInt8} {rest : List UInt8} (h : ¬ c0 = 42) (s : List UInt8) : RM (c0 :: rest) s = (match s with | [] => false | c :: t => oneB (onePart c0 rest).1 c && RM ((c0 :: rest).drop (onePart c0 rest).2) t) := by
  conv => lhs; unfold RM
  rw [RB_cons, if_neg h]
  cases s with
  | nil => rfl
  | cons c t =>
    have := onePart_pos c0 rest
    simp only
    rw [RM_eq (by simp only [List.length_drop, List.length_cons]; omega)]

/-- The table, its rows from a on done, and of the row ahead of a the places from b on. -/
structure TabAt (p s : List UInt8) (a b : Nat) (x : List (List Bool)) : Prop where
  len : x.length = p.length + 1
  row : ∀ j, j ≤ p.length → (x.getD j []).length = s.length + 1
  val : ∀ j l, j ≤ p.length → l ≤ s.length → (x.getD j []).getD l false = if a ≤ j ∨ (j + 1 = a ∧ b ≤ l) then RM (p.drop j) (s.drop l) else false
theorem tab_set {p s : List UInt8} {a b : Nat} {x : List (List Bool)} (h : TabAt p s (a + 1) (b + 1) x) (ha : a ≤ p.length) (hb : b ≤ s.length) (v : Bool) (hv : v = RM (p.drop a) (s.drop b)) :
    TabAt p s (a + 1) b (x.set a ((x.getD a []).set b v)) := by
  have hl := h.len
  have hr := h.row a ha
  have get : ∀ j, (x.set a ((x.getD a []).set b v)).getD j [] = if j = a then (x.getD a []).set b v else x.getD j [] := by
    intro j
    rw [List.getD_eq_getElem?_getD, List.getElem?_set]
    by_cases e : j = a
    · subst e; rw [if_pos rfl, if_pos (by omega), if_pos rfl]; rfl
    · rw [if_neg (fun e2 => e e2.symm), if_neg e, ← List.getD_eq_getElem?_getD]
  refine ⟨by rw [List.length_set, hl], fun j hj => ?_, fun j l hj hl2 => ?_⟩
  · rw [get]; split
    · rw [List.length_set, hr]
    · exact h.row j hj
  · rw [get]
    have hv2 := h.val j l hj hl2
    by_cases e : j = a
    · subst e
      rw [if_pos rfl, List.getD_eq_getElem?_getD, List.getElem?_set]
      by_cases e2 : l = b
      · subst e2
        rw [if_pos rfl, if_pos (by omega), if_pos (by omega), hv]; rfl
      · rw [if_neg (fun e3 => e2 e3.symm), ← List.getD_eq_getElem?_getD, hv2]
        exact ite_iff (by omega) _ _
    · rw [if_neg e, hv2]
      exact ite_iff (by omega) _ _
theorem tab_keep {p s : List UInt8} {a b : Nat} {x : List (List Bool)} (h : TabAt p s (a + 1) (b + 1) x) (hv : RM (p.drop a) (s.drop b) = false) : TabAt p s (a + 1) b x := by
  refine ⟨h.len, h.row, fun j l hj hl => ?_⟩
  rw [h.val j l hj hl]
  by_cases e : j = a ∧ l = b
  · obtain ⟨rfl, rfl⟩ := e
    rw [if_neg (by omega), if_pos (by omega), hv]
  · exact ite_iff (by omega) _ _
theorem tab_row {p s : List UInt8} {a : Nat} {x : List (List Bool)} (h : TabAt p s (a + 1) 0 x) : TabAt p s a (s.length + 1) x := by
  refine ⟨h.len, h.row, fun j l hj hl => ?_⟩
  rw [h.val j l hj hl]
  exact ite_iff (by omega) _ _

theorem rdL (x : List (List Bool)) (j : Nat) : rd_L32 x (j : Int) = x.getD j [] := by unfold rd_L32; rw [Int.toNat_natCast]
theorem rdB (r : List Bool) (j : Nat) : rdOf false r (j : Int) = r.getD j false := by unfold rdOf; rw [Int.toNat_natCast]

/-- A step that calls: what is called answers, and what is behind answers. -/
theorem ev_call {α β : Type} {g : Nat → Option β} {h : Nat → Option α} {F : Nat → α → Option β} {a : α} {r : β} (hs : ∀ k, g (k + 1) = (h k).bind (F k)) (hh : Ev h a) (hF : Ev (fun k => F k a) r) : Ev g r :=
  Ev.step hs (Ev.bind hh hF)
theorem wsub (n : Nat) (h : n ≤ 100000) : wrap64 ((n : Int) - 1) = (n : Int) - 1 := w64' (by omega) (by omega)
theorem wadd (n : Nat) (h : n ≤ 100000) : wrap64 ((n : Int) + 1) = ((n + 1 : Nat) : Int) := by rw [w64' (by omega) (by omega)]; omega
theorem waddm (n m : Nat) (h : n + m ≤ 100000) : wrap64 ((n : Int) + (m : Int)) = ((n + m : Nat) : Int) := by rw [w64' (by omega) (by omega)]; omega
section
variable (p s : ByteArray) (hp : p.size ≤ 1000) (hs : s.size ≤ 1000)
include hp hs
set_option maxHeartbeats 1000000 in
/-- A round of the inner loop. -/
theorem round2 (a b : Nat) (ha : a ≤ p.size) (hb : b ≤ s.size) (x : List (List Bool)) (h : TabAt p.data.toList s.data.toList (a + 1) (b + 1) x) (v : Bool)
    (next : ∀ x', TabAt p.data.toList s.data.toList (a + 1) b x' → Ev (fun k => intaglioref17_Match.l2 k p s x' (a : Int) ((b : Int) - 1)) v) :
    Ev (fun k => intaglioref17_Match.l2 k p s x (a : Int) (b : Int)) v := by
  have hpl : p.data.toList.length = p.size := Array.length_toList
  have hsl : s.data.toList.length = s.size := Array.length_toList
  have hxl := h.len
  have hxa := h.row a (by omega)
  rw [hpl] at hxl
  rw [hsl] at hxa
  have cb : (b : Int) ≥ 0 := by omega
  have cb0 : 0 ≤ (b : Int) := by omega
  have ca0 : 0 ≤ (a : Int) := by omega
  have ca1 : 0 ≤ ((a + 1 : Nat) : Int) := by omega
  have cb1 : 0 ≤ ((b + 1 : Nat) : Int) := by omega
  have cxa : (a : Int) < (x.length : Int) := by omega
  have cxb : (b : Int) < ((x.getD a []).length : Int) := by omega
  by_cases hlast : a = p.size
  · have hv : RM (p.data.toList.drop a) (s.data.toList.drop b) = ((b : Int) == (s.size : Int)) := by
      rw [List.drop_eq_nil_of_le (by omega), RM_nil, Bool.eq_iff_iff, List.isEmpty_iff, List.drop_eq_nil_iff, beq_iff_eq]; omega
    have ce : (a : Int) = (p.size : Int) := by omega
    refine Ev.step (fun k => ?_) (next _ (tab_set h (by omega) (by omega) _ hv.symm))
    simp only [intaglioref17_Match.l2, ↓reduceIte, cb, eq_true ce, ca0, cxa, cb0, rdL, cxb, wsub b (by omega), Int.toNat_natCast]
  · have hal : a < p.size := by omega
    have hda : p.data.toList.drop a = p.data.toList[a]'(by omega) :: p.data.toList.drop (a + 1) := List.drop_eq_getElem_cons (by omega)
    have hba := bt_of p a hal
    generalize p.data.toList[a]'(by omega) = c0 at hda hba
    have ce : ¬ (a : Int) = (p.size : Int) := by omega
    have cp : (a : Int) < (p.size : Int) := by omega
    have cp2 : (a : Int) ≤ (p.size : Int) := by omega
    have cx1 : ((a + 1 : Nat) : Int) < (x.length : Int) := by omega
    by_cases h42 : c0 = 42
    · have hb42 : bt p a = 42 := by rw [hba, h42]; rfl
      have hv1 := h.val (a + 1) b (by omega) (by omega)
      rw [if_pos (.inl (Nat.le_refl _))] at hv1
      have hra := h.row (a + 1) (by omega)
      rw [hsl] at hra
      have cxr : (b : Int) < ((x.getD (a + 1) []).length : Int) := by omega
      have hR : RM (p.data.toList.drop a) (s.data.toList.drop b) = (RM (p.data.toList.drop (a + 1)) (s.data.toList.drop b) || (match s.data.toList.drop b with | [] => false | _ :: t => RM (p.data.toList.drop a) t)) := by
        rw [hda, RM_star h42]
      cases hc1 : RM (p.data.toList.drop (a + 1)) (s.data.toList.drop b) with
      | true =>
        rw [hc1] at hR hv1
        refine Ev.step (fun k => ?_) (next _ (tab_set h (by omega) (by omega) true (by rw [hR]; rfl)))
        simp only [intaglioref17_Match.l2, ↓reduceIte, cb, eq_false ce, ca0, cp, eq_true hb42, cxa, wadd a (by omega), ca1, cx1, cb0, rdL, cxr, rdB, hv1, cxb, wsub b (by omega), Int.toNat_natCast]
      | false =>
        rw [hc1, Bool.false_or] at hR
        rw [hc1] at hv1
        by_cases hbl : b < s.size
        · have hdb : s.data.toList.drop b = s.data.toList[b]'(by omega) :: s.data.toList.drop (b + 1) := List.drop_eq_getElem_cons (by omega)
          rw [hdb] at hR
          have hv2 := h.val a (b + 1) (by omega) (by omega)
          rw [if_pos (.inr ⟨rfl, Nat.le_refl _⟩)] at hv2
          have cbs : (b : Int) < (s.size : Int) := by omega
          have cxb1 : ((b + 1 : Nat) : Int) < ((x.getD a []).length : Int) := by omega
          refine Ev.step (fun k => ?_) (next _ (tab_set h (by omega) (by omega) ((x.getD a []).getD (b + 1) false) (by rw [hv2, hdb, hR])))
          simp only [intaglioref17_Match.l2, ↓reduceIte, cb, eq_false ce, ca0, cp, eq_true hb42, cxa, wadd a (by omega), ca1, cx1, cb0, rdL, cxr, rdB, hv1, Bool.false_eq_true, cbs, wadd b (by omega), cb1, cxb1, cxb, wsub b (by omega), Int.toNat_natCast]
        · have hdb : s.data.toList.drop b = [] := List.drop_eq_nil_of_le (by omega)
          rw [hdb] at hR
          have cbs : ¬ (b : Int) < (s.size : Int) := by omega
          refine Ev.step (fun k => ?_) (next _ (tab_set h (by omega) (by omega) false (by rw [hdb, hR])))
          simp only [intaglioref17_Match.l2, ↓reduceIte, cb, eq_false ce, ca0, cp, eq_true hb42, cxa, wadd a (by omega), ca1, cx1, cb0, rdL, cxr, rdB, hv1, Bool.false_eq_true, cbs, cxb, wsub b (by omega), Int.toNat_natCast]
    · have hb42 : ¬ bt p a = 42 := by rw [hba]; exact fun e => h42 ((bt_is c0 42).1 e)
      by_cases hbl : b < s.size
      · have hdb : s.data.toList.drop b = s.data.toList[b]'(by omega) :: s.data.toList.drop (b + 1) := List.drop_eq_getElem_cons (by omega)
        have hbb := bt_of s b hbl
        generalize s.data.toList[b]'(by omega) = c at hdb hbb
        have cbs : (b : Int) < (s.size : Int) := by omega
        have hR : RM (p.data.toList.drop a) (s.data.toList.drop b) = (oneB (onePart c0 (p.data.toList.drop (a + 1))).1 c && RM (p.data.toList.drop (a + (onePart c0 (p.data.toList.drop (a + 1))).2)) (s.data.toList.drop (b + 1))) := by
          rw [hdb, hda, RM_part h42]
          simp only
          rw [← hda, List.drop_drop]
        have hle := onePart_le c0 (p.data.toList.drop (a + 1))
        have hpos := onePart_pos c0 (p.data.toList.drop (a + 1))
        simp only [List.length_cons, List.length_drop] at hle
        have hF := first_ev (p.extract a p.size) c0 (p.data.toList.drop (a + 1)) (by rw [Lib.extract_to_end, hda]) h42 c (by rw [ByteArray.size_extract]; omega)
        generalize (onePart c0 (p.data.toList.drop (a + 1))).2 = m at *
        generalize oneB (onePart c0 (p.data.toList.drop (a + 1))).1 c = is at *
        have hrm := h.row (a + m) (by omega)
        rw [hsl] at hrm
        have cm0 : 0 ≤ ((a + m : Nat) : Int) := by omega
        have cmx : ((a + m : Nat) : Int) < (x.length : Int) := by omega
        have cmr : ((b + 1 : Nat) : Int) < ((x.getD (a + m) []).length : Int) := by omega
        refine ev_call (F := ?F1) (fun k => ?hs1) hF ?_
        case hs1 =>
          simp only [intaglioref17_Match.l2, ↓reduceIte, cb, eq_false ce, ca0, cp, eq_false hb42, cbs, cp2, cb0, hbb, Int.toNat_natCast]
          rfl
        · cases is with
          | true =>
            rw [Bool.true_and] at hR
            have hv2 := h.val (a + m) (b + 1) (by omega) (by omega)
            rw [if_pos (.inl (by omega))] at hv2
            refine Ev.congr (fun k => ?_) (next _ (tab_set h (by omega) (by omega) ((x.getD (a + m) []).getD (b + 1) false) (by rw [hv2, hR])))
            simp only [↓reduceIte, cxa, waddm a m (by omega), cm0, cmx, wadd b (by omega), cb1, rdL, cmr, cxb, rdB, wsub b (by omega), Int.toNat_natCast]
          | false =>
            rw [Bool.false_and] at hR
            refine Ev.congr (fun k => ?_) (next _ (tab_set h (by omega) (by omega) false hR.symm))
            simp only [↓reduceIte, cxa, Bool.false_eq_true, rdL, cxb, wsub b (by omega), Int.toNat_natCast]
      · have hdb : s.data.toList.drop b = [] := List.drop_eq_nil_of_le (by omega)
        have cbs : ¬ (b : Int) < (s.size : Int) := by omega
        refine Ev.step (fun k => ?_) (next x (tab_keep h (by rw [hdb, hda, RM_part h42])))
        simp only [intaglioref17_Match.l2, ↓reduceIte, cb, eq_false ce, ca0, cp, eq_false hb42, cbs, wsub b (by omega)]
theorem loop2 (a : Nat) (ha : a ≤ p.size) (v : Bool) (next : ∀ x', TabAt p.data.toList s.data.toList a (s.data.toList.length + 1) x' → Ev (fun k => intaglioref17_Match.l1 k p s x' ((a : Int) - 1)) v) :
    ∀ (b : Nat) (x : List (List Bool)), b ≤ s.size + 1 → TabAt p.data.toList s.data.toList (a + 1) b x → Ev (fun k => intaglioref17_Match.l2 k p s x (a : Int) ((b : Int) - 1)) v
  | 0, x, _, h => by
    refine Ev.step (fun k => ?_) (next x (tab_row h))
    simp only [intaglioref17_Match.l2]
    rw [if_neg (by omega), w64' (by omega) (by omega)]
  | b + 1, x, hb, h => by
    have := round2 p s hp hs a b ha (by omega) x h v (fun x' h' => loop2 a ha v next b x' (by omega) h')
    rw [show ((b + 1 : Nat) : Int) - 1 = (b : Int) by omega]
    exact this
theorem loop1 : ∀ (a : Nat) (x : List (List Bool)), a ≤ p.size + 1 → TabAt p.data.toList s.data.toList a (s.data.toList.length + 1) x → Ev (fun k => intaglioref17_Match.l1 k p s x ((a : Int) - 1)) (RM p.data.toList s.data.toList)
  | 0, x, _, h => by
    have hpl : p.data.toList.length = p.size := Array.length_toList
    have hv := h.val 0 0 (by omega) (by omega)
    rw [if_pos (.inl (Nat.zero_le _)), List.drop_zero, List.drop_zero] at hv
    have hxl := h.len
    have hr := h.row 0 (by omega)
    refine ⟨1, fun k hk => ?_⟩
    obtain ⟨k, rfl⟩ : ∃ m, k = m + 1 := ⟨k - 1, by omega⟩
    simp only [intaglioref17_Match.l1]
    have e : rd_L32 x 0 = x.getD 0 [] := rdL x 0
    have e2 : rdOf false (x.getD 0 []) 0 = (x.getD 0 []).getD 0 false := rdB _ 0
    rw [if_neg (by omega), if_pos (by omega), e, if_pos (by omega), e2, hv]
  | a + 1, x, ha, h => by
    have hsl : s.data.toList.length = s.size := Array.length_toList
    have := loop2 p s hp hs a (by omega) _ (fun x' h' => loop1 a x' (by omega) h') (s.size + 1) x (by omega) (by rw [hsl] at h; exact h)
    refine Ev.step (fun k => ?_) this
    simp only [intaglioref17_Match.l1]
    rw [if_pos (by omega)]
    congr 1 <;> omega
theorem loop0 (d : Nat) : ∀ (i : Nat), i + d = p.size + 1 → Ev (fun k => intaglioref17_Match.l0 k p s (List.replicate i (List.replicate (s.size + 1) false)) (i : Int)) (RM p.data.toList s.data.toList) := by
  have hpl : p.data.toList.length = p.size := Array.length_toList
  have hsl : s.data.toList.length = s.size := Array.length_toList
  induction d with
  | zero =>
    intro i hi
    have := loop1 p s hp hs (p.size + 1) (List.replicate i (List.replicate (s.size + 1) false)) (by omega) ⟨by rw [List.length_replicate, hpl]; omega, fun j hj => ?_, fun j l hj hl => ?_⟩
    · refine Ev.step (fun k => ?_) this
      simp only [intaglioref17_Match.l0]
      rw [if_neg (by omega)]
      congr 1; omega
    · rw [List.getD_eq_getElem?_getD, List.getElem?_replicate, if_pos (by omega)]; simp [hsl]
    · have e0 : (List.replicate i (List.replicate (s.size + 1) false)).getD j [] = List.replicate (s.size + 1) false := by
        rw [List.getD_eq_getElem?_getD, List.getElem?_replicate, if_pos (by omega)]; rfl
      rw [e0, if_neg (by omega)]
      rw [List.getD_eq_getElem?_getD, List.getElem?_replicate]
      split <;> rfl
  | succ d ih =>
    intro i hi
    refine Ev.step (fun k => ?_) (ih (i + 1) (by omega))
    simp only [intaglioref17_Match.l0]
    rw [if_pos (by omega), wadd s.size (by omega), if_pos (by omega), Int.toNat_natCast, if_pos (by omega), List.length_replicate, if_pos (by omega), wadd i (by omega)]
    congr 1
    exact List.replicate_succ'.symm
end
theorem ref_match (p s : ByteArray) (hp : p.size ≤ 1000) (hs : s.size ≤ 1000) : Ev (fun k => intaglioref17_Match.f k p s) (matchS p s) := by
  have : RM p.data.toList s.data.toList = matchS p s := by rw [Bool.eq_iff_iff, RM_iff, match_iff]
  rw [← this]
  exact loop0 p s hp hs (p.size + 1) 0 (by omega)

theorem VerbMatches_true (s t : ByteArray) : ∃ k, intagliolaw17_VerbMatches.f k s t = some true := by
  unfold intagliolaw17_VerbMatches.f
  by_cases h : (s.size : Int) > 80
  · exact ⟨1, by rw [if_pos h]; rfl⟩
  · by_cases h2 : (t.size : Int) > 80
    · exact ⟨1, by rw [if_neg h, decide_eq_true h2]; rfl⟩
    · obtain ⟨K, hK⟩ := ref_match s t (by omega) (by omega)
      refine ⟨K + 1, ?_⟩
      rw [if_neg h, decide_eq_false h2]
      simp only [intagliolaw17_VerbMatches.j0]
      rw [if_neg (by simp), show verb_Match.f s t = some (matchS s t) by unfold verb_Match.f; rw [if_pos (by omega)], show intaglioref17_Match.f K s t = some (matchS s t) from hK K (Nat.le_refl _)]
      simp only [Option.bind_some]
      rw [if_pos (by simp)]
      rfl
end Go.Proofs.YtbfbmgkgaokecaaDoor.PR
namespace Go.Proofs.YtbfbmgkgaokecaaDoor.Vb
open Go.RowKit
theorem VerbMatches_walk (a0 : ByteArray) (_ : a0.size ≤ 140737488351232) (a1 : ByteArray) (_ : a1.size ≤ 140737488351232) (w : World) (hG : Glob w) :
    Calls Tryd.prog 11 #[.string a0, .string a1] w fun e w' => e = .returned (.bool true) ∧ Below w.heap.size w w' := by
  obtain ⟨k, hk⟩ := PR.VerbMatches_true a0 a1
  exact PR.intagliolaw17_VerbMatches.calls k a0 a1 true w hG hk
end Go.Proofs.YtbfbmgkgaokecaaDoor.Vb
