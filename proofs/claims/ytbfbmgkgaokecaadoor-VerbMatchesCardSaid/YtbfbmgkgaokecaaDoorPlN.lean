/- The reference's patterns, plainly: the part with which a pattern begins, and the table. -/
import Derived.Test.YtbfbmgkgaokecaaDoorPlM
import Derived.Test.YtbfbmgkgaokecaaDoorPRf63
namespace Go.Proofs.YtbfbmgkgaokecaaDoor.PR
open Go.RowKit Go.Proofs.YtbfbmgkgaokecaaDoorW.PrintWords Go.Proofs.YtbfbmgkgaokecaaDoorW.PrintLast Go.Proofs.YtbfbmgkgaokecaaDoorW.PrintMore
open Vb

theorem w64' {i : Int} (h0 : -9223372036854775808 ≤ i) (h : i ≤ 9223372036854775807) : wrap64 i = i := by unfold wrap64; omega
theorem bt_of (s : ByteArray) (i : Nat) (h : i < s.size) : bt s (i : Int) = ((s.data.toList[i]'(by rw [Array.length_toList]; exact h)).toNat : Int) := by
  unfold bt
  rw [Int.toNat_natCast, dif_pos h]
  simp
  rfl

/-- Is a byte told between brackets, or was it told by now? -/
def inL : List UInt8 → UInt8 → Bool → Bool
  | [], _, b => b
  | [a], c, b => b || a == c
  | [a, d], c, b => inL [d] c (b || a == c)
  | a :: d :: e :: r, c, b => if d = 45 then inL r c (b || (decide (a ≤ c) && decide (c ≤ e))) else inL (d :: e :: r) c (b || a == c)
theorem fill_get {f : List Bool} (lo hi : Nat) (c : UInt8) : (fillTo f lo hi).getD c.toNat false = (f.getD c.toNat false || (decide (lo ≤ c.toNat) && decide (c.toNat < hi))) := by
  have hc := c.toNat_lt
  rw [List.getD_eq_getElem?_getD, List.getElem?_eq_getElem (by rw [fillTo_length]; omega)]
  simp [fillTo]
theorem u8_one (a c : UInt8) : (decide (a.toNat ≤ c.toNat) && decide (c.toNat < a.toNat + 1)) = (a == c) := by
  rw [Bool.eq_iff_iff]
  simp only [Bool.and_eq_true, decide_eq_true_eq, beq_iff_eq]
  constructor
  · rintro ⟨h1, h2⟩; exact UInt8.toNat_inj.1 (by omega)
  · rintro rfl; omega
theorem inL_cls : ∀ (l : List UInt8) (f : List Bool) (c : UInt8), (cls l f).getD c.toNat false = inL l c (f.getD c.toNat false)
  | [], f, c => rfl
  | [a], f, c => by rw [cls, fill_get, u8_one]; rfl
  | [a, d], f, c => by rw [cls, inL_cls [d], fill_get, u8_one]; rfl
  | a :: d :: e :: r, f, c => by
    rw [cls, inL]
    by_cases h : d = 45
    · rw [if_pos h, if_pos h, inL_cls r, fill_get]
      congr 2
      rw [Bool.eq_iff_iff]
      simp only [Bool.and_eq_true, decide_eq_true_eq, UInt8.le_iff_toNat_le]
      omega
    · rw [if_neg h, if_neg h, inL_cls (d :: e :: r), fill_get, u8_one]
theorem f0_get (c : UInt8) : f0.getD c.toNat false = false := by
  have := c.toNat_lt
  rw [List.getD_eq_getElem?_getD, List.getElem?_eq_getElem (by rw [f0_length]; omega), f0_at]; rfl
theorem class_get (l : List UInt8) (nt : Bool) (c : UInt8) : (classF l nt).getD c.toNat false = (inL l c false != nt) := by
  have hc := c.toNat_lt
  have h1 := inL_cls l f0 c
  rw [f0_get] at h1
  rw [← h1]
  unfold classF
  have hl : c.toNat < (cls l f0).length := by rw [cls_length l f0 f0_length]; omega
  rw [List.getD_eq_getElem?_getD, List.getD_eq_getElem?_getD, List.getElem?_map, List.getElem?_eq_getElem hl]; rfl

/-! the loop of 'in': what is left, and how much of it is passed over -/
theorem u8_le_int (a c : UInt8) : ((a.toNat : Int) ≤ (c.toNat : Int)) ↔ a ≤ c := by rw [UInt8.le_iff_toNat_le]; omega
theorem in_loop (s : ByteArray) (c : UInt8) (hs : s.size ≤ 1000000) (n : Nat) : ∀ (i : Nat) (b : Bool), i ≤ s.size → s.size - i = n →
    Ev (fun k => intaglioref17_in.l0 k s c.toNat b 0 i) (inL (s.data.toList.drop i) c b) := by
  have hl : s.data.toList.length = s.size := Array.length_toList
  induction n using Nat.strongRecOn with
  | _ n ih =>
  intro i b hi hn
  have one : ∀ j, j < s.size → s.data.toList.drop j = s.data.toList[j]! :: s.data.toList.drop (j + 1) := fun j hj => by
    rw [List.drop_eq_getElem_cons (by omega), getElem!_pos _ _ (by omega)]
  have btj : ∀ j, j < s.size → bt s (j : Int) = (s.data.toList[j]!.toNat : Int) := fun j hj => by rw [bt_of s j hj, getElem!_pos _ _ (by omega)]
  have w1 : i < s.size → wrap64 ((i : Int) + 1) = (i : Int) + 1 := fun _ => w64' (by omega) (by omega)
  have w2 : i < s.size → wrap64 ((i : Int) + 2) = (i : Int) + 2 := fun _ => w64' (by omega) (by omega)
  by_cases h0 : i < s.size
  · have e0 := one i h0
    have w1 := w1 h0
    have w2 := w2 h0
    by_cases h2 : i + 2 < s.size
    · have e1 := one (i + 1) (by omega)
      have e2 := one (i + 2) (by omega)
      rw [e0, e1, e2, inL]
      by_cases hd : s.data.toList[i + 1]! = 45
      · rw [if_pos hd]
        have hskip : ∀ b', Ev (fun k => intaglioref17_in.l0 k s c.toNat b' 2 ((i + 1 : Nat) : Int)) (inL (s.data.toList.drop (i + 3)) c b') := by
          intro b'
          refine Ev.step (f := fun k => intaglioref17_in.l0 k s c.toNat b' 1 ((i + 2 : Nat) : Int)) (fun k => ?_) (Ev.step (f := fun k => intaglioref17_in.l0 k s c.toNat b' 0 ((i + 3 : Nat) : Int)) (fun k => ?_) (ih (s.size - (i + 3)) (by omega) (i + 3) b' (by omega) rfl))
          · simp only [intaglioref17_in.l0]
            rw [if_pos (by omega), if_pos (by omega), show wrap64 ((2 : Int) - 1) = 1 by rw [w64' (by omega) (by omega)]; rfl, show wrap64 (((i + 1 : Nat) : Int) + 1) = ((i + 2 : Nat) : Int) by rw [w64' (by omega) (by omega)]; omega]
          · simp only [intaglioref17_in.l0]
            rw [if_pos (by omega), if_pos (by omega), show wrap64 ((1 : Int) - 1) = 0 by rw [w64' (by omega) (by omega)]; rfl, show wrap64 (((i + 2 : Nat) : Int) + 1) = ((i + 3 : Nat) : Int) by rw [w64' (by omega) (by omega)]; omega]
        have hb1 : bt s ((i : Int) + 1) = 45 := by
          have := btj (i + 1) (by omega)
          rw [hd] at this
          exact this
        cases b with
        | true =>
          rw [Bool.true_or]
          refine Ev.step (fun k => ?_) (hskip true)
          simp only [intaglioref17_in.l0]
          rw [w1, w2, if_pos (by omega), if_neg (by omega), if_pos (by omega), if_pos (by omega), if_pos (by omega), if_pos hb1, if_pos trivial]
          rfl
        | false =>
          rw [Bool.false_or]
          refine Ev.step (fun k => ?_) (hskip _)
          simp only [intaglioref17_in.l0]
          rw [w1, w2, if_pos (by omega), if_neg (by omega), if_pos (by omega), if_pos (by omega), if_pos (by omega), if_pos hb1, if_neg (by simp), if_pos (by omega), btj i h0]
          by_cases hle : s.data.toList[i]! ≤ c
          · rw [if_pos ((u8_le_int _ _).2 hle), if_pos (by omega), decide_eq_true hle, Bool.true_and]
            have := btj (i + 2) (by omega)
            rw [show ((i : Int) + 2) = ((i + 2 : Nat) : Int) by omega, this]
            congr 1
            exact decide_eq_decide.2 (u8_le_int _ _)
          · rw [if_neg (fun h => hle ((u8_le_int _ _).1 h)), decide_eq_false hle, Bool.false_and]
            rfl
      · rw [if_neg hd]
        have hb1 : ¬ bt s ((i : Int) + 1) = 45 := by
          have := btj (i + 1) (by omega)
          intro e
          have e3 : bt s ((i : Int) + 1) = (s.data.toList[i + 1]!.toNat : Int) := this
          rw [e] at e3
          exact hd (UInt8.toNat_inj.1 (by show _ = 45; omega))
        have hnext := ih (s.size - (i + 1)) (by omega) (i + 1) (b || s.data.toList[i]! == c) (by omega) rfl
        rw [e1, e2] at hnext
        cases b with
        | true =>
          refine Ev.step (fun k => ?_) hnext
          simp only [intaglioref17_in.l0]
          rw [w1, w2, if_pos (by omega), if_neg (by omega), if_pos (by omega), if_pos (by omega), if_pos (by omega), if_neg hb1, if_pos trivial, Bool.true_or]
          rfl
        | false =>
          refine Ev.step (fun k => ?_) hnext
          simp only [intaglioref17_in.l0]
          rw [w1, w2, if_pos (by omega), if_neg (by omega), if_pos (by omega), if_pos (by omega), if_pos (by omega), if_neg hb1, if_neg (by simp), if_pos (by omega), btj i h0, Bool.false_or]
          congr 1
          rw [Bool.eq_iff_iff, beq_iff_eq, beq_iff_eq, ← UInt8.toNat_inj]; omega
    · have hnext := ih (s.size - (i + 1)) (by omega) (i + 1) (b || s.data.toList[i]! == c) (by omega) rfl
      have hv : inL (s.data.toList.drop i) c b = inL (s.data.toList.drop (i + 1)) c (b || s.data.toList[i]! == c) := by
        rw [e0]
        by_cases h1 : i + 1 < s.size
        · rw [one (i + 1) h1, List.drop_eq_nil_of_le (by omega)]; rfl
        · rw [List.drop_eq_nil_of_le (show s.data.toList.length ≤ i + 1 by omega)]; rfl
      rw [hv]
      cases b with
      | true =>
        refine Ev.step (fun k => ?_) hnext
        simp only [intaglioref17_in.l0]
        rw [w1, w2, if_pos (by omega), if_neg (by omega), if_neg (by omega), if_pos trivial, Bool.true_or]
        rfl
      | false =>
        refine Ev.step (fun k => ?_) hnext
        simp only [intaglioref17_in.l0]
        rw [w1, w2, if_pos (by omega), if_neg (by omega), if_neg (by omega), if_neg (by simp), if_pos (by omega), btj i h0, Bool.false_or]
        congr 1
        rw [Bool.eq_iff_iff, beq_iff_eq, beq_iff_eq, ← UInt8.toNat_inj]; omega
  · rw [List.drop_eq_nil_of_le (by omega)]
    exact ⟨1, fun k hk => by
      obtain ⟨k, rfl⟩ : ∃ m, k = m + 1 := ⟨k - 1, by omega⟩
      simp only [intaglioref17_in.l0]
      rw [if_neg (by omega)]; rfl⟩
theorem in_ev (s : ByteArray) (c : UInt8) (hs : s.size ≤ 1000000) : Ev (fun k => intaglioref17_in.f k s c.toNat) (inL s.data.toList c false) := in_loop s c hs _ 0 false (by omega) rfl
end Go.Proofs.YtbfbmgkgaokecaaDoor.PR
