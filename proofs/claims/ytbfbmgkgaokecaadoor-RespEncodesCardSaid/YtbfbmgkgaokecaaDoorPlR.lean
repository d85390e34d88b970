/- Layer 19: what the reference's parser tells is what PlV says. -/
import Derived.Test.YtbfbmgkgaokecaaDoorPlY
import Derived.Test.YtbfbmgkgaokecaaDoorPSf21
namespace Go.Proofs.YtbfbmgkgaokecaaDoor.PS
open Go.RowKit Go.Proofs.YtbfbmgkgaokecaaDoorW.PrintWords Go.Proofs.YtbfbmgkgaokecaaDoorW.PrintLast Go.Proofs.YtbfbmgkgaokecaaDoorW.PrintMore
set_option linter.unusedVariables false
set_option linter.unusedSimpArgs false

theorem bt_get (l : List UInt8) (i : Nat) (h : i < l.length) : bt (⟨l.toArray⟩ : ByteArray) (i : Int) = (l[i].toNat : Int) := by
  unfold bt
  rw [dif_pos (by rw [bsz, Int.toNat_natCast]; exact h)]
  rfl
def fb : List UInt8 → Nat → Int
  | [], _ => -1
  | c :: r, i => if c = 10 then (i : Int) else fb r (i + 1)
theorem fb_eq : ∀ (l : List UInt8) (i : Nat), fb l i = if Lib.indexByte l 10 < 0 then -1 else (i : Int) + Lib.indexByte l 10
  | [], i => by simp [fb, Lib.indexByte]
  | c :: r, i => by
    have h1 := indexByte_ge1 r 10
    simp only [fb, Lib.indexByte, beq_iff_eq, fb_eq r (i + 1)]
    by_cases hc : c = 10
    · simp [hc]
    · rw [if_neg hc, if_neg hc]
      by_cases h2 : Lib.indexByte r 10 = -1
      · rw [h2]; simp
      · rw [if_neg h2, if_neg (by omega), if_neg (by omega)]
        omega
theorem fb0 (l : List UInt8) : fb l 0 = Lib.indexByte l 10 := by
  have := indexByte_ge1 l 10
  rw [fb_eq]
  split <;> omega
theorem find_l0 (l : List UInt8) (hl : l.length ≤ 1000000) : ∀ (n i : Nat), i + n = l.length → Ev (fun k => intaglioref19_find.l0 k ⟨l.toArray⟩ (i : Int)) (fb (l.drop i) i)
  | 0, i, h => by
    have e : ((i : Int) < ((⟨l.toArray⟩ : ByteArray).size : Int)) = False := eq_false (by rw [bsz]; omega)
    rw [List.drop_of_length_le (by omega)]
    exact Ev.step (f := fun _ => some (-1)) (fun k => by simp only [intaglioref19_find.l0, e, if_false]) (Ev.now _)
  | n + 1, i, h => by
    have hi : i < l.length := by omega
    have e : ((i : Int) < ((⟨l.toArray⟩ : ByteArray).size : Int)) = True := eq_true (by rw [bsz]; omega)
    have e0 : ((0 : Int) ≤ (i : Int)) = True := eq_true (by omega)
    have ih := find_l0 l hl n (i + 1) (by omega)
    rw [List.drop_eq_getElem_cons hi]
    simp only [fb]
    by_cases hc : l[i] = 10
    · have e1 : ((l[i].toNat : Int) = 10) = True := eq_true (by rw [hc]; rfl)
      rw [if_pos hc]
      exact Ev.step (f := fun _ => some (i : Int)) (fun k => by simp only [intaglioref19_find.l0, e, e0, if_true, bt_get l i hi, e1]) (Ev.now _)
    · have e1 : ((l[i].toNat : Int) = 10) = False := eq_false (fun h => hc (UInt8.toNat_inj.mp (by have : (10 : UInt8).toNat = 10 := rfl; omega)))
      rw [if_neg hc]
      refine Ev.step (f := fun k => intaglioref19_find.l0 k ⟨l.toArray⟩ ((i + 1 : Nat) : Int)) (fun k => by simp only [intaglioref19_find.l0, e, e0, if_true, bt_get l i hi, e1, if_false, show wrap64 ((i : Int) + 1) = ((i + 1 : Nat) : Int) by rw [wI (by omega) (by omega)]; omega]) ih
theorem find_ev (l : List UInt8) (hl : l.length ≤ 1000000) : Ev (fun k => intaglioref19_find.f k ⟨l.toArray⟩) (Lib.indexByte l 10) := by
  have := find_l0 l hl l.length 0 (by omega)
  rw [List.drop_zero, fb0] at this
  exact this

/-- The reference's number. -/
def finI (s : ByteArray) (f : Nat) : Option Int → Int × Bool
  | none => (0, false)
  | some n => if f = 0 ∧ n = -9223372036854775808 then (0, false) else if Vb.txt (if f = 0 then -n else n) = s then (if f = 0 then -n else n, true) else (0, false)
theorem finI_eq (s : ByteArray) (h : s.size ≤ 20) (hs : s.size ≠ Vb.fromS s) : finI s (Vb.fromS s) (Vb.downS (s.data.toList.drop (Vb.fromS s)) 0) = (match Vb.intS s with | some n => (n, true) | none => (0, false)) := by
  rw [← Vb.rIntS_eq]
  unfold Vb.rIntS
  rw [if_neg (fun hh => hh.elim hs (fun h2 => by omega))]
  cases Vb.downS (s.data.toList.drop (Vb.fromS s)) 0 with
  | none => rfl
  | some n =>
    unfold finI
    dsimp only
    by_cases h1 : Vb.fromS s = 0 ∧ n = -9223372036854775808
    · rw [if_pos h1, if_pos h1]
    · rw [if_neg h1, if_neg h1]
      by_cases h2 : Vb.txt (if Vb.fromS s = 0 then -n else n) = s
      · rw [if_pos h2, if_pos h2]
      · rw [if_neg h2, if_neg h2]
theorem toList_iff (a b : ByteArray) : (a.toList = b.toList) = (a = b) := propext ⟨Vb.bytes_ext, fun h => by rw [h]⟩
theorem int_l0 (s : ByteArray) (f : Nat) (hf : f = 0 ∨ f = 1) (hs : s.size ≤ 1000000) : ∀ (n i : Nat) (m : Int), i + n = s.size → -9223372036854775808 ≤ m → m ≤ 0 →
    Ev (fun k => intaglioref17_Int.l0 k s (f : Int) m (i : Int)) (finI s f (Vb.downS (s.data.toList.drop i) m))
  | 0, i, m, h, h0, h1 => by
    have hlen : s.data.toList.length = s.size := Array.length_toList
    have e : ((i : Int) < (s.size : Int)) = False := eq_false (by omega)
    rw [List.drop_of_length_le (by omega), Vb.downS]
    rcases hf with rfl | rfl
    · have ez : (((0 : Nat) : Int) = 0) = True := eq_true rfl
      by_cases hm : m = -9223372036854775808
      · have : finI s 0 (some m) = (0, false) := by unfold finI; dsimp only; rw [if_pos ⟨rfl, hm⟩]
        rw [this]
        exact Ev.step (f := fun _ => some (0, false)) (fun k => by simp only [intaglioref17_Int.l0, e, ez, if_false, if_true, hm]) (Ev.now _)
      · have hfin : finI s 0 (some m) = if Vb.txt (-m) = s then (-m, true) else (0, false) := by unfold finI; dsimp only; rw [if_neg (fun h => hm h.2)]; simp
        rw [hfin]
        have ht := text_ev (-m) (by omega) (by omega)
        refine Ev.step (fun k => by simp only [intaglioref17_Int.l0, e, ez, if_false, if_true, hm, show wrap64 (-m) = -m from wL (by omega) (by omega)]; exact rfl) ?_
        refine Ev.bind ht ?_
        simp only [toList_iff]
        split
        · exact Ev.now _
        · exact Ev.now _
    · have ez : (((1 : Nat) : Int) = 0) = False := eq_false (by decide)
      have hfin : finI s 1 (some m) = if Vb.txt m = s then (m, true) else (0, false) := by unfold finI; dsimp only; rw [if_neg (fun h => absurd h.1 (by decide))]; simp
      rw [hfin]
      have ht := text_ev m (by omega) (by omega)
      refine Ev.step (fun k => by simp only [intaglioref17_Int.l0, e, ez, if_false]; exact rfl) ?_
      refine Ev.bind ht ?_
      simp only [toList_iff]
      split
      · exact Ev.now _
      · exact Ev.now _
  | n + 1, i, m, h, h0, h1 => by
    have hlen : s.data.toList.length = s.size := Array.length_toList
    have hi : i < s.data.toList.length := by omega
    have e : ((i : Int) < (s.size : Int)) = True := eq_true (by omega)
    have e0 : ((0 : Int) ≤ (i : Int)) = True := eq_true (by omega)
    obtain ⟨A, hA⟩ : ∃ A, s.data.toList[i] = A := ⟨_, rfl⟩
    have hb : bt s (i : Int) = (A.toNat : Int) := by
      have := bt_get s.data.toList i hi
      rw [bself, hA] at this
      exact this
    have a8 := A.toNat_lt
    have w1 : wrap64 (wrap64 (A.toNat : Int) - 48) = (A.toNat : Int) - 48 := by rw [show wrap64 (A.toNat : Int) = (A.toNat : Int) from wL (by omega) (by omega)]; exact wL (by omega) (by omega)
    rw [List.drop_eq_getElem_cons hi, hA]
    by_cases c1 : (A.toNat : Int) < 48
    · have d1 : ((A.toNat : Int) - 48 < 0) = True := eq_true (by omega)
      rw [Vb.down_neg c1]
      exact Ev.step (f := fun _ => some (0, false)) (fun k => by simp only [intaglioref17_Int.l0, e, e0, if_true, hb, w1, d1]) (Ev.now _)
    · have d1 : ((A.toNat : Int) - 48 < 0) = False := eq_false (by omega)
      by_cases c2 : 57 < (A.toNat : Int)
      · have d2 : ((A.toNat : Int) - 48 > 9) = True := eq_true (by omega)
        rw [Vb.down_big c2]
        exact Ev.step (f := fun _ => some (0, false)) (fun k => by simp only [intaglioref17_Int.l0, e, e0, if_true, hb, w1, d1, d2, if_false]) (Ev.now _)
      · have d2 : ((A.toNat : Int) - 48 > 9) = False := eq_false (by omega)
        have ht := Vb.tdiv_low A (by omega) (by omega)
        have w2 : wrap64 (Int.tdiv (wrap64 (-9223372036854775808 + ((A.toNat : Int) - 48))) 10) = -((9223372036854775808 - ((A.toNat : Int) - 48)) / 10) := by
          rw [show wrap64 (-9223372036854775808 + ((A.toNat : Int) - 48)) = -9223372036854775808 + ((A.toNat : Int) - 48) from wL (by omega) (by omega), ht]
          exact wL (by omega) (by omega)
        by_cases c3 : m < -((9223372036854775808 - ((A.toNat : Int) - 48)) / 10)
        · have d3 := eq_true c3
          rw [Vb.down_low (by omega) (by omega) c3]
          exact Ev.step (f := fun _ => some (0, false)) (fun k => by simp only [intaglioref17_Int.l0, e, e0, if_true, hb, w1, d1, d2, if_false, w2, d3]) (Ev.now _)
        · have d3 := eq_false c3
          have w3 : wrap64 (wrap64 (10 * m) - ((A.toNat : Int) - 48)) = 10 * m - ((A.toNat : Int) - 48) := by
            rw [show wrap64 (10 * m) = 10 * m from wL (by omega) (by omega)]; exact wL (by omega) (by omega)
          rw [Vb.down_next (by omega) (by omega) c3]
          have ih := int_l0 s f hf hs n (i + 1) (10 * m - ((A.toNat : Int) - 48)) (by omega) (by clear w1 w2 w3; omega) (by clear w1 w2 w3; omega)
          refine Ev.step (fun k => by simp only [intaglioref17_Int.l0, e, e0, if_true, hb, w1, d1, d2, if_false, w2, d3, w3, show wrap64 ((i : Int) + 1) = ((i + 1 : Nat) : Int) by rw [wI (by omega) (by omega)]; omega]) ih
theorem rint_ev (s : ByteArray) (h20 : s.size ≤ 20) : Ev (fun k => intaglioref17_Int.f k s) (match Vb.intS s with | some n => (n, true) | none => (0, false)) := by
  have hlen : s.data.toList.length = s.size := Array.length_toList
  have d20 : decide ((s.size : Int) > 20) = false := decide_eq_false (by omega)
  have tail : ∀ f : Nat, f = Vb.fromS s → (f = 0 ∨ f = 1) → f ≤ s.size → Ev (fun k => intaglioref17_Int.j1 k s (f : Int)) (match Vb.intS s with | some n => (n, true) | none => (0, false)) := by
    intro f hf h01 hle
    by_cases he : s.size = f
    · have e1 : ((s.size : Int) = (f : Int)) = True := eq_true (by omega)
      have hn : Vb.intS s = none := by rw [← Vb.rIntS_eq]; unfold Vb.rIntS; rw [if_pos (.inl (by rw [← hf]; exact he))]
      rw [hn]
      refine Ev.step (f := fun k => intaglioref17_Int.j2 k s (f : Int) true) (fun k => by simp only [intaglioref17_Int.j1, e1, if_true]) ?_
      exact Ev.step (f := fun _ => some (0, false)) (fun k => by simp only [intaglioref17_Int.j2, if_true]) (Ev.now _)
    · have e1 : ((s.size : Int) = (f : Int)) = False := eq_false (by omega)
      rw [← finI_eq s h20 (by rw [← hf]; exact he), ← hf]
      refine Ev.step (f := fun k => intaglioref17_Int.j2 k s (f : Int) false) (fun k => by simp only [intaglioref17_Int.j1, e1, if_false, d20]) ?_
      refine Ev.step (f := fun k => intaglioref17_Int.l0 k s (f : Int) 0 (f : Int)) (fun k => by simp only [intaglioref17_Int.j2, Bool.false_eq_true, if_false]) ?_
      exact int_l0 s f h01 (by omega) (s.size - f) f 0 (by omega) (by omega) (by omega)
  by_cases h0 : s.size = 0
  · have e1 : ((s.size : Int) > 0) = False := eq_false (by omega)
    have hnil : s.data.toList = [] := List.eq_nil_of_length_eq_zero (by omega)
    have hf : 0 = Vb.fromS s := by unfold Vb.fromS; rw [hnil]; rfl
    refine Ev.congr (f := fun k => intaglioref17_Int.j0 k s 0 false) (fun k => by unfold intaglioref17_Int.f; rw [if_neg (by omega)]) ?_
    refine Ev.step (f := fun k => intaglioref17_Int.j1 k s ((0 : Nat) : Int)) (fun k => by simp only [intaglioref17_Int.j0, Bool.false_eq_true, if_false]; rfl) ?_
    exact tail 0 hf (.inl rfl) (by omega)
  · have hp : 0 < s.data.toList.length := by omega
    obtain ⟨A, hA⟩ : ∃ A, s.data.toList[0] = A := ⟨_, rfl⟩
    have hb : bt s 0 = (A.toNat : Int) := by
      have := bt_get s.data.toList 0 hp
      rw [bself, hA] at this
      exact this
    have hh : s.data.toList.head? = some A := by rw [List.head?_eq_getElem?, List.getElem?_eq_getElem hp, hA]
    refine Ev.congr (f := fun k => intaglioref17_Int.j0 k s 0 ((A.toNat : Int) == 45)) (fun k => by unfold intaglioref17_Int.f; rw [if_pos (by omega), if_pos (by omega), hb]) ?_
    by_cases h45 : A = 45
    · have hf : 1 = Vb.fromS s := by unfold Vb.fromS; rw [hh, h45, if_pos rfl]
      have eb : ((A.toNat : Int) == 45) = true := by rw [h45]; rfl
      rw [eb]
      refine Ev.step (f := fun k => intaglioref17_Int.j1 k s ((1 : Nat) : Int)) (fun k => by simp only [intaglioref17_Int.j0, if_true]; rfl) ?_
      exact tail 1 hf (.inr rfl) (by omega)
    · have hf : 0 = Vb.fromS s := by unfold Vb.fromS; rw [hh, if_neg (fun h => h45 (Option.some.inj h))]
      have eb : ((A.toNat : Int) == 45) = false := beq_eq_false_iff_ne.mpr (fun h => h45 (UInt8.toNat_inj.mp (by have : (45 : UInt8).toNat = 45 := rfl; omega)))
      rw [eb]
      refine Ev.step (f := fun k => intaglioref17_Int.j1 k s ((0 : Nat) : Int)) (fun k => by simp only [intaglioref17_Int.j0, Bool.false_eq_true, if_false]; rfl) ?_
      exact tail 0 hf (.inl rfl) (by omega)
end Go.Proofs.YtbfbmgkgaokecaaDoor.PS
