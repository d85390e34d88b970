/- Layer 19: a reply's bytes, its weight; what the reference's Encode and Weight tell. -/
import Derived.Test.YtbfbmgkgaokecaaDoorPlR
import Derived.Test.YtbfbmgkgaokecaaDoorPlB
import Derived.Test.YtbfbmgkgaokecaaDoorPSf24
import Derived.Test.YtbfbmgkgaokecaaDoorPSf26
import Derived.Test.YtbfbmgkgaokecaaDoorGvH
namespace Go.Proofs.YtbfbmgkgaokecaaDoor.PS
open Go.RowKit Go.Proofs.YtbfbmgkgaokecaaDoorW.PrintWords Go.Proofs.YtbfbmgkgaokecaaDoorW.PrintLast Go.Proofs.YtbfbmgkgaokecaaDoorW.PrintMore
set_option linter.unusedVariables false
set_option linter.unusedSimpArgs false

def arrH (m : Nat) : List UInt8 := 42 :: (Lib.itoa (m : Int) ++ [13, 10])
/-- The bytes of a reply of fewer than n floors. -/
def encL : Nat → S51 → List UInt8
  | 0, _ => []
  | n + 1, r =>
    if r.f0 = 1 then 43 :: (flatL r.f1.data.toList ++ [13, 10])
    else if r.f0 = 2 then 45 :: (flatL r.f1.data.toList ++ [13, 10])
    else if r.f0 = 3 then 58 :: (Lib.itoa r.f2 ++ [13, 10])
    else if r.f0 = 4 then bulkL r.f1.data.toList
    else if r.f0 = 5 then [36, 45, 49, 13, 10]
    else if r.f0 = 6 then arrH r.f3.length ++ r.f3.flatMap (encL n)
    else if r.f0 = 7 then [42, 45, 49, 13, 10]
    else []
/-- A reply that is small. -/
def s51ok : Nat → S51 → Prop
  | 0, _ => False
  | n + 1, r => (-9223372036854775808 ≤ r.f2 ∧ r.f2 ≤ 9223372036854775807) ∧ r.f1.size ≤ 3000 ∧ r.f3.length ≤ 60 ∧ (encL (n + 1) r).length ≤ 300000 ∧ ∀ c ∈ r.f3, s51ok n c
/-- A reply whose numbers are the type's, n floors down. -/
def wf51 : Nat → S51 → Prop
  | 0, _ => True
  | n + 1, r => (-9223372036854775808 ≤ r.f2 ∧ r.f2 ≤ 9223372036854775807) ∧ ∀ c ∈ r.f3, wf51 n c
def wtl (g : S51 → Int) : Int → List S51 → Int
  | acc, [] => acc
  | acc, c :: l => if acc < 10000 then wtl g (acc + g c) l else acc
def wt : Nat → S51 → Int
  | 0, _ => 10000
  | n + 1, r => if r.f3.length > 60 ∨ r.f1.size > 3000 then 10000 else wtl (wt n) (1 + (r.f1.size : Int)) r.f3

theorem wtl_bounds (g : S51 → Int) (M : Int) (hg : ∀ c, 1 ≤ g c ∧ g c ≤ M) : ∀ (l : List S51) (acc : Int), 1 ≤ acc → acc ≤ 9999 + M → 1 ≤ wtl g acc l ∧ wtl g acc l ≤ 9999 + M
  | [], acc, h0, h1 => ⟨h0, h1⟩
  | c :: l, acc, h0, h1 => by
    have := hg c
    unfold wtl
    split
    · exact wtl_bounds g M hg l _ (by omega) (by omega)
    · exact ⟨h0, h1⟩
theorem wt_bounds : ∀ (n : Nat) (r : S51), 1 ≤ wt n r ∧ wt n r ≤ 10000 * ((n : Int) + 1)
  | 0, r => by unfold wt; omega
  | n + 1, r => by
    unfold wt
    split
    · omega
    · have := wtl_bounds (wt n) (10000 * ((n : Int) + 1)) (wt_bounds n) r.f3 (1 + (r.f1.size : Int)) (by omega) (by omega)
      omega
def sumw (g : S51 → Int) : List S51 → Int
  | [] => 0
  | c :: l => g c + sumw g l
theorem sumw_nn (g : S51 → Int) (hg : ∀ c, 1 ≤ g c) : ∀ l, 0 ≤ sumw g l
  | [] => Int.le_refl _
  | c :: l => by
    have := sumw_nn g hg l
    have := hg c
    unfold sumw
    omega
theorem wtl_small (g : S51 → Int) (hg : ∀ c, 1 ≤ g c) : ∀ (l : List S51) (acc : Int), 1 ≤ acc → wtl g acc l < 10000 → wtl g acc l = acc + sumw g l ∧ ∀ c ∈ l, g c < 10000
  | [], acc, h0, h => ⟨(Int.add_zero _).symm, fun c hc => by cases hc⟩
  | c :: l, acc, h0, h => by
    have hc := hg c
    unfold wtl at h ⊢
    split
    · rename_i ha
      rw [if_pos ha] at h
      obtain ⟨i1, i2⟩ := wtl_small g hg l (acc + g c) (by omega) h
      have hn := sumw_nn g hg l
      refine ⟨by rw [i1]; show _ = acc + (g c + sumw g l); omega, fun d hd => ?_⟩
      rcases List.mem_cons.1 hd with rfl | hd
      · omega
      · exact i2 d hd
    · rename_i ha
      rw [if_neg ha] at h
      omega
theorem flatL_length (l : List UInt8) : (flatL l).length = l.length := List.length_map _
theorem itoa20 (n : Int) (h0 : -9223372036854775808 ≤ n) (h1 : n ≤ 9223372036854775807) : (Lib.itoa n).length ≤ 21 := by
  have hd : ∀ m : Nat, m ≤ 9223372036854775808 → (Lib.decDigits m).length ≤ 20 := fun m hm => Vb.dec_upto 19 m (by omega)
  rw [show Lib.itoa n = _ from rfl]
  unfold Lib.itoa
  split
  · rw [List.length_cons]
    have := hd n.natAbs (by omega)
    omega
  · have := hd n.toNat (by omega)
    omega
theorem flatMap_le (f : S51 → List UInt8) (g : S51 → Int) : ∀ l : List S51, (∀ c ∈ l, ((f c).length : Int) ≤ 30 * g c) → ((l.flatMap f).length : Int) ≤ 30 * sumw g l
  | [], h => by simp [sumw]
  | c :: l, h => by
    have h1 := h c List.mem_cons_self
    have h2 := flatMap_le f g l (fun d hd => h d (List.mem_cons_of_mem _ hd))
    rw [List.flatMap_cons, List.length_append]
    unfold sumw
    omega
theorem wt_small : ∀ (n : Nat) (r : S51), wf51 n r → wt n r < 10000 → s51ok n r ∧ ((encL n r).length : Int) ≤ 30 * wt n r
  | 0, r, _, h => by unfold wt at h; omega
  | n + 1, r, hw, h => by
    obtain ⟨hr, hc⟩ := hw
    unfold wt at h
    split at h
    · omega
    · rename_i hsm
      have hlen : r.f1.data.toList.length = r.f1.size := Array.length_toList
      obtain ⟨h1, h2⟩ := wtl_small (wt n) (fun c => (wt_bounds n c).1) r.f3 (1 + (r.f1.size : Int)) (by omega) h
      have ih := fun c hcm => wt_small n c (hc c hcm) (h2 c hcm)
      have hfl := flatMap_le (encL n) (wt n) r.f3 (fun c hcm => (ih c hcm).2)
      have hnn := sumw_nn (wt n) (fun c => (wt_bounds n c).1) r.f3
      have hi2 := itoa20 r.f2 hr.1 hr.2
      have hi3 := itoa20 (r.f3.length : Int) (by omega) (by omega)
      have hbl := bulkL_len r.f1 (by omega)
      have hE : ((encL (n + 1) r).length : Int) ≤ 30 * wt (n + 1) r := by
        have ew : wt (n + 1) r = 1 + (r.f1.size : Int) + sumw (wt n) r.f3 := by
          conv => lhs; unfold wt
          rw [if_neg hsm, h1]
        rw [ew]
        unfold encL
        split
        · simp only [List.length_cons, List.length_append, List.length_nil, flatL_length, hlen]; omega
        split
        · simp only [List.length_cons, List.length_append, List.length_nil, flatL_length, hlen]; omega
        split
        · simp only [List.length_cons, List.length_append, List.length_nil]; omega
        split
        · omega
        split
        · simp only [List.length_cons, List.length_nil]; omega
        split
        · unfold arrH
          simp only [List.length_cons, List.length_append, List.length_nil] at hfl ⊢; omega
        split
        · simp only [List.length_cons, List.length_nil]; omega
        · simp only [List.length_nil]; omega
      have hwt : wt (n + 1) r < 10000 := by unfold wt; rw [if_neg hsm]; exact h
      exact ⟨⟨hr, by omega, by omega, by omega, fun c hcm => (ih c hcm).1⟩, hE⟩
/-! the reference -/
theorem rd_get (l : List S51) (i : Nat) (h : i < l.length) : rd_T51 l (i : Int) = l[i] := by
  unfold rd_T51
  rw [Int.toNat_natCast, List.getD_eq_getElem?_getD, List.getElem?_eq_getElem h]
  rfl
theorem rweight_l0 (n : Nat) (hn : n ≤ 12) (r : S51) (hl : r.f3.length ≤ 60) (ih : ∀ c, Ev (fun k => intaglioref19_Weight.f k c.f0 c.f1 c.f2 c.f3 (13 - (n : Int))) (wt n c)) : ∀ (m i : Nat) (acc : Int), i + m = r.f3.length → 1 ≤ acc → acc ≤ 9999 + 10000 * ((n : Int) + 1) →
    Ev (fun k => intaglioref19_Weight.l0 k (13 - ((n : Int) + 1)) acc (i : Int) r.f0 r.f1 r.f2 r.f3) (wtl (wt n) acc (r.f3.drop i))
  | 0, i, acc, h, _, _ => by
    have e : ((i : Int) < (r.f3.length : Int)) = False := eq_false (by omega)
    rw [List.drop_of_length_le (by omega)]
    exact Ev.step (f := fun _ => some acc) (fun k => by simp only [intaglioref19_Weight.l0, e, if_false]) (Ev.now _)
  | m + 1, i, acc, h, h0, h1 => by
    have hil : i < r.f3.length := by omega
    have e : ((i : Int) < (r.f3.length : Int)) = True := eq_true (by omega)
    have e0 : ((0 : Int) ≤ (i : Int)) = True := eq_true (by omega)
    rw [List.drop_eq_getElem_cons hil]
    unfold wtl
    by_cases ha : acc < 10000
    · rw [if_pos ha]
      have ha' := eq_true ha
      have hb := wt_bounds n r.f3[i]
      refine Ev.step (fun k => by simp only [intaglioref19_Weight.l0, e, e0, ha', if_true, rd_get _ _ hil, show wrap64 (13 - ((n : Int) + 1) + 1) = 13 - (n : Int) by rw [wB (by omega) (by omega)]; omega]; exact rfl) ?_
      refine Ev.bind (ih r.f3[i]) ?_
      simp only [show wrap64 ((i : Int) + 1) = ((i + 1 : Nat) : Int) by rw [wB (by omega) (by omega)]; omega, show wrap64 (acc + wt n r.f3[i]) = acc + wt n r.f3[i] from wB (by omega) (by omega)]
      exact rweight_l0 n hn r hl ih m (i + 1) _ (by omega) (by omega) (by omega)
    · rw [if_neg ha]
      have ha' := eq_false ha
      exact Ev.step (f := fun _ => some acc) (fun k => by simp only [intaglioref19_Weight.l0, e, ha', if_true, if_false]) (Ev.now _)
theorem rweight_ev : ∀ (n : Nat) (r : S51), n ≤ 13 → Ev (fun k => intaglioref19_Weight.f k r.f0 r.f1 r.f2 r.f3 (13 - (n : Int))) (wt n r)
  | 0, r, _ => by
    have e : ((13 : Int) - ((0 : Nat) : Int) > 12) = True := eq_true (by omega)
    refine Ev.step (fun k => by simp only [intaglioref19_Weight.f, e, if_true]; exact rfl) ?_
    exact Ev.step (f := fun _ => some 10000) (fun k => by simp only [intaglioref19_Weight.j0, if_true]) (Ev.now _)
  | n + 1, r, hn => by
    have e : ((13 : Int) - ((n + 1 : Nat) : Int) > 12) = False := eq_false (by omega)
    unfold wt
    by_cases hl : r.f3.length > 60
    · have e2 : ((r.f3.length : Int) > 60) = True := eq_true (by omega)
      rw [if_pos (.inl hl)]
      refine Ev.step (fun k => by simp only [intaglioref19_Weight.f, e, e2, if_true, if_false]; exact rfl) ?_
      exact Ev.step (f := fun _ => some 10000) (fun k => by simp only [intaglioref19_Weight.j0, if_true]) (Ev.now _)
    · have e2 : ((r.f3.length : Int) > 60) = False := eq_false (by omega)
      by_cases hs : r.f1.size > 3000
      · have e3 : decide ((r.f1.size : Int) > 3000) = true := decide_eq_true (by omega)
        rw [if_pos (.inr hs)]
        refine Ev.step (fun k => by simp only [intaglioref19_Weight.f, e, e2, e3, if_false]; exact rfl) ?_
        exact Ev.step (f := fun _ => some 10000) (fun k => by simp only [intaglioref19_Weight.j0, if_true]) (Ev.now _)
      · have e3 : decide ((r.f1.size : Int) > 3000) = false := decide_eq_false (by omega)
        rw [if_neg (by omega)]
        refine Ev.step (fun k => by simp only [intaglioref19_Weight.f, e, e2, e3, if_false]; exact rfl) ?_
        refine Ev.step (fun k => by simp only [intaglioref19_Weight.j0, Bool.false_eq_true, if_false, show wrap64 (1 + (r.f1.size : Int)) = 1 + (r.f1.size : Int) from wB (by omega) (by omega)]; exact rfl) ?_
        have := rweight_l0 n (by omega) r (by omega) (fun c => rweight_ev n c (by omega)) r.f3.length 0 (1 + (r.f1.size : Int)) (by omega) (by omega) (by omega)
        simpa using this
theorem strOf_ints (l : List UInt8) : strOfNums (ints l) = ⟨l.toArray⟩ := str_ints l
theorem ints_snoc (l : List UInt8) (c : UInt8) : ints l ++ [(c.toNat : Int)] = ints (l ++ [c]) := by unfold ints; rw [List.map_append]; rfl
theorem rflat_l0 (s : ByteArray) (hs : s.size ≤ 3000) : ∀ (m i : Nat), i + m = s.size →
    Ev (fun k => intaglioref19_flat.l0 k s (ints (flatL (s.data.toList.take i))) (i : Int)) ⟨(flatL s.data.toList).toArray⟩
  | 0, i, h => by
    have hlen : s.data.toList.length = s.size := Array.length_toList
    have e : ((i : Int) < (s.size : Int)) = False := eq_false (by omega)
    exact Ev.step (f := fun _ => some ⟨(flatL s.data.toList).toArray⟩) (fun k => by
      simp only [intaglioref19_flat.l0, e, if_false]
      rw [List.take_of_length_le (by omega), strOf_ints]) (Ev.now _)
  | m + 1, i, h => by
    have hlen : s.data.toList.length = s.size := Array.length_toList
    have hil : i < s.size := by omega
    have e : ((i : Int) < (s.size : Int)) = True := eq_true (by omega)
    have e0 : ((0 : Int) ≤ (i : Int)) = True := eq_true (by omega)
    have hb : bt s (i : Int) = ((s.data.toList[i]'(by omega)).toNat : Int) := by have h9 := bt_get s.data.toList i (by omega); rw [bself] at h9; exact h9
    obtain ⟨c, hc⟩ : ∃ c, s.data.toList[i]'(by omega) = c := ⟨_, rfl⟩
    rw [hc] at hb
    have hsz : ((ints (flatL (s.data.toList.take i))).length < 140737488355328) = True := eq_true (by rw [ints_length, flatL_length, List.length_take]; omega)
    have hst : flatL (s.data.toList.take (i + 1)) = flatL (s.data.toList.take i) ++ [flat1 c] := by
      rw [List.take_succ_eq_append_getElem (by omega), hc]
      unfold flatL
      rw [List.map_append]
      rfl
    have ih := rflat_l0 s hs m (i + 1) (by omega)
    rw [hst, ← ints_snoc] at ih
    have hw : wrap64 ((i : Int) + 1) = ((i + 1 : Nat) : Int) := by rw [wB (by omega) (by omega)]; omega
    by_cases h13 : c = 13
    · subst h13
      have e1 : (bt s (i : Int) = 13) = True := eq_true (by rw [hb]; rfl)
      exact Ev.step (fun k => by simp only [intaglioref19_flat.l0, e, e0, e1, hsz, if_true, hw]; exact rfl) ih
    · have e1 : (bt s (i : Int) = 13) = False := eq_false (by rw [hb]; intro hh; exact h13 (UInt8.toNat_inj.1 (show c.toNat = 13 by omega)))
      by_cases h10 : c = 10
      · subst h10
        have e2 : (bt s (i : Int) = 10) = True := eq_true (by rw [hb]; rfl)
        exact Ev.step (fun k => by simp only [intaglioref19_flat.l0, e, e0, e1, e2, hsz, if_true, if_false, hw]; exact rfl) ih
      · have e2 : (bt s (i : Int) = 10) = False := eq_false (by rw [hb]; intro hh; exact h10 (UInt8.toNat_inj.1 (show c.toNat = 10 by omega)))
        have hf : flat1 c = c := by unfold flat1; rw [if_neg (by simp [h13, h10])]
        rw [hf, ← hb] at ih
        exact Ev.step (fun k => by simp only [intaglioref19_flat.l0, e, e0, e1, e2, hsz, if_true, if_false, hw]) ih
theorem rflat_ev (s : ByteArray) (hs : s.size ≤ 3000) : Ev (fun k => intaglioref19_flat.f k s) ⟨(flatL s.data.toList).toArray⟩ := rflat_l0 s hs s.size 0 (by omega)
theorem one_text (a : UInt8) (l : List UInt8) : ((⟨#[a]⟩ : ByteArray) ++ ⟨l.toArray⟩) ++ ⟨#[13, 10]⟩ = ⟨(a :: (l ++ [13, 10])).toArray⟩ := by
  show ((⟨[a].toArray⟩ : ByteArray) ++ ⟨l.toArray⟩) ++ ⟨[13, 10].toArray⟩ = _
  rw [bapp, bapp]
  simp
theorem enc_prefix (n : Nat) (r : S51) (i : Nat) (h : i < r.f3.length) (hz : (arrH r.f3.length ++ r.f3.flatMap (encL n)).length ≤ 300000) :
    arrH r.f3.length ++ (r.f3.take i).flatMap (encL n) ++ encL n r.f3[i] = arrH r.f3.length ++ (r.f3.take (i + 1)).flatMap (encL n) ∧ (arrH r.f3.length ++ (r.f3.take i).flatMap (encL n)).length + (encL n r.f3[i]).length ≤ 300000 := by
  have e : arrH r.f3.length ++ (r.f3.take i).flatMap (encL n) ++ encL n r.f3[i] = arrH r.f3.length ++ (r.f3.take (i + 1)).flatMap (encL n) := by
    rw [List.take_succ_eq_append_getElem h, List.flatMap_append, List.append_assoc]
    simp
  have e2 : r.f3.flatMap (encL n) = (r.f3.take (i + 1)).flatMap (encL n) ++ (r.f3.drop (i + 1)).flatMap (encL n) := by
    rw [← List.flatMap_append, List.take_append_drop]
  refine ⟨e, ?_⟩
  rw [← List.length_append, e]
  rw [e2, ← List.append_assoc, List.length_append] at hz
  omega
theorem rencode_l0 (n : Nat) (r : S51) (hl : r.f3.length ≤ 60) (hz : (arrH r.f3.length ++ r.f3.flatMap (encL n)).length ≤ 300000) (ih : ∀ c ∈ r.f3, Ev (fun k => intaglioref19_Encode.f k c.f0 c.f1 c.f2 c.f3) ⟨(encL n c).toArray⟩) : ∀ (m i : Nat), i + m = r.f3.length →
    Ev (fun k => intaglioref19_Encode.l0 k ⟨(arrH r.f3.length ++ (r.f3.take i).flatMap (encL n)).toArray⟩ (i : Int) r.f0 r.f1 r.f2 r.f3) ⟨(arrH r.f3.length ++ r.f3.flatMap (encL n)).toArray⟩
  | 0, i, h => by
    have e : ((i : Int) < (r.f3.length : Int)) = False := eq_false (by omega)
    rw [List.take_of_length_le (by omega)]
    exact Ev.step (f := fun _ => some ⟨(arrH r.f3.length ++ r.f3.flatMap (encL n)).toArray⟩) (fun k => by simp only [intaglioref19_Encode.l0, e, if_false]) (Ev.now _)
  | m + 1, i, h => by
    have hil : i < r.f3.length := by omega
    have e : ((i : Int) < (r.f3.length : Int)) = True := eq_true (by omega)
    have e0 : ((0 : Int) ≤ (i : Int)) = True := eq_true (by omega)
    obtain ⟨p1, p2⟩ := enc_prefix n r i hil hz
    have hsz : ((⟨(arrH r.f3.length ++ (r.f3.take i).flatMap (encL n)).toArray⟩ : ByteArray).size + (⟨(encL n r.f3[i]).toArray⟩ : ByteArray).size ≤ 9223372036854775807) = True := eq_true (by rw [bsz, bsz]; omega)
    have hn := rencode_l0 n r hl hz ih m (i + 1) (by omega)
    refine Ev.step (fun k => by simp only [intaglioref19_Encode.l0, e, e0, if_true, rd_get _ _ hil]; exact rfl) ?_
    refine Ev.bind (ih r.f3[i] (List.getElem_mem hil)) ?_
    simp only [hsz, if_true, bapp, p1, show wrap64 ((i : Int) + 1) = ((i + 1 : Nat) : Int) by rw [wB (by omega) (by omega)]; omega]
    exact hn
theorem rencode_ev : ∀ (n : Nat) (r : S51), s51ok n r → Ev (fun k => intaglioref19_Encode.f k r.f0 r.f1 r.f2 r.f3) ⟨(encL n r).toArray⟩
  | 0, r, h => h.elim
  | n + 1, r, h => by
    obtain ⟨hr, hs, hl, hz, hc⟩ := h
    have hlen : r.f1.data.toList.length = r.f1.size := Array.length_toList
    have hi2 := itoa20 r.f2 hr.1 hr.2
    have hi3 := itoa20 (r.f3.length : Int) (by omega) (by omega)
    have hbl := bulkL_len r.f1 (by omega)
    by_cases q1 : r.f0 = 1
    · have e : encL (n + 1) r = 43 :: (flatL r.f1.data.toList ++ [13, 10]) := by unfold encL; rw [if_pos q1]
      rw [e]
      have q1' := eq_true q1
      refine Ev.step (fun k => by simp only [intaglioref19_Encode.f, q1', if_true]; exact rfl) ?_
      refine Ev.bind (rflat_ev r.f1 hs) ?_
      have z1 : (1 + (⟨(flatL r.f1.data.toList).toArray⟩ : ByteArray).size ≤ 9223372036854775807) = True := eq_true (by rw [bsz, flatL_length]; omega)
      have z2 : (1 + (⟨(flatL r.f1.data.toList).toArray⟩ : ByteArray).size + 2 ≤ 9223372036854775807) = True := eq_true (by rw [bsz, flatL_length]; omega)
      simp only [z1, z2, if_true, one_text]
      exact Ev.now _
    have q1' := eq_false q1
    by_cases q2 : r.f0 = 2
    · have e : encL (n + 1) r = 45 :: (flatL r.f1.data.toList ++ [13, 10]) := by unfold encL; rw [if_neg q1, if_pos q2]
      rw [e]
      have q2' := eq_true q2
      refine Ev.step (fun k => by simp only [intaglioref19_Encode.f, q1', q2', if_true, if_false]; exact rfl) ?_
      refine Ev.bind (rflat_ev r.f1 hs) ?_
      have z1 : (1 + (⟨(flatL r.f1.data.toList).toArray⟩ : ByteArray).size ≤ 9223372036854775807) = True := eq_true (by rw [bsz, flatL_length]; omega)
      have z2 : (1 + (⟨(flatL r.f1.data.toList).toArray⟩ : ByteArray).size + 2 ≤ 9223372036854775807) = True := eq_true (by rw [bsz, flatL_length]; omega)
      simp only [z1, z2, if_true, one_text]
      exact Ev.now _
    have q2' := eq_false q2
    by_cases q3 : r.f0 = 3
    · have e : encL (n + 1) r = 58 :: (Lib.itoa r.f2 ++ [13, 10]) := by unfold encL; rw [if_neg q1, if_neg q2, if_pos q3]
      rw [e]
      have q3' := eq_true q3
      refine Ev.step (fun k => by simp only [intaglioref19_Encode.f, q1', q2', q3', if_true, if_false]; exact rfl) ?_
      refine Ev.bind (text_ev r.f2 hr.1 hr.2) ?_
      have z1 : (1 + (Vb.txt r.f2).size ≤ 9223372036854775807) = True := eq_true (by rw [txt_size]; omega)
      have z2 : (1 + (Vb.txt r.f2).size + 2 ≤ 9223372036854775807) = True := eq_true (by rw [txt_size]; omega)
      simp only [z1, z2, if_true]
      rw [show Vb.txt r.f2 = ⟨(Lib.itoa r.f2).toArray⟩ from rfl, one_text]
      exact Ev.now _
    have q3' := eq_false q3
    by_cases q4 : r.f0 = 4
    · have e : encL (n + 1) r = bulkL r.f1.data.toList := by unfold encL; rw [if_neg q1, if_neg q2, if_neg q3, if_pos q4]
      rw [e]
      have q4' := eq_true q4
      refine Ev.step (fun k => by simp only [intaglioref19_Encode.f, q1', q2', q3', q4', if_true, if_false]; exact rfl) ?_
      exact Ev.bind (rbulk_ev r.f1 (by omega)) (Ev.now _)
    have q4' := eq_false q4
    by_cases q5 : r.f0 = 5
    · have e : encL (n + 1) r = [36, 45, 49, 13, 10] := by unfold encL; rw [if_neg q1, if_neg q2, if_neg q3, if_neg q4, if_pos q5]
      rw [e]
      have q5' := eq_true q5
      exact Ev.step (f := fun _ => some ⟨[36, 45, 49, 13, 10].toArray⟩) (fun k => by simp only [intaglioref19_Encode.f, q1', q2', q3', q4', q5', if_true, if_false]) (Ev.now _)
    have q5' := eq_false q5
    by_cases q6 : r.f0 = 6
    · have e : encL (n + 1) r = arrH r.f3.length ++ r.f3.flatMap (encL n) := by unfold encL; rw [if_neg q1, if_neg q2, if_neg q3, if_neg q4, if_neg q5, if_pos q6]
      rw [e] at hz ⊢
      have q6' := eq_true q6
      refine Ev.step (fun k => by simp only [intaglioref19_Encode.f, q1', q2', q3', q4', q5', q6', if_true, if_false]; exact rfl) ?_
      refine Ev.bind (text_ev (r.f3.length : Int) (by omega) (by omega)) ?_
      have z1 : (1 + (Vb.txt (r.f3.length : Int)).size ≤ 9223372036854775807) = True := eq_true (by rw [txt_size]; omega)
      have z2 : (1 + (Vb.txt (r.f3.length : Int)).size + 2 ≤ 9223372036854775807) = True := eq_true (by rw [txt_size]; omega)
      simp only [z1, z2, if_true]
      rw [show Vb.txt (r.f3.length : Int) = ⟨(Lib.itoa (r.f3.length : Int)).toArray⟩ from rfl, one_text]
      have := rencode_l0 n r hl hz (fun c hcm => rencode_ev n c (hc c hcm)) r.f3.length 0 (by omega)
      rw [List.take_zero, List.flatMap_nil, List.append_nil] at this
      exact this
    have q6' := eq_false q6
    by_cases q7 : r.f0 = 7
    · have e : encL (n + 1) r = [42, 45, 49, 13, 10] := by unfold encL; rw [if_neg q1, if_neg q2, if_neg q3, if_neg q4, if_neg q5, if_neg q6, if_pos q7]
      rw [e]
      have q7' := eq_true q7
      exact Ev.step (f := fun _ => some ⟨[42, 45, 49, 13, 10].toArray⟩) (fun k => by simp only [intaglioref19_Encode.f, q1', q2', q3', q4', q5', q6', q7', if_true, if_false]) (Ev.now _)
    have q7' := eq_false q7
    have e : encL (n + 1) r = [] := by unfold encL; rw [if_neg q1, if_neg q2, if_neg q3, if_neg q4, if_neg q5, if_neg q6, if_neg q7]
    rw [e]
    exact Ev.step (f := fun _ => some ⟨#[]⟩) (fun k => by simp only [intaglioref19_Encode.f, q1', q2', q3', q4', q5', q6', q7', if_false]) (Ev.now _)
end Go.Proofs.YtbfbmgkgaokecaaDoor.PS
