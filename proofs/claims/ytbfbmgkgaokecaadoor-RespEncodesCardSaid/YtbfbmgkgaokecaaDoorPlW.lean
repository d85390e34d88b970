/- Layer 19: what the program's reader tells is what PlV says. -/
import Derived.Test.YtbfbmgkgaokecaaDoorPlV
import Derived.Test.YtbfbmgkgaokecaaDoorPSf52
namespace Go.Proofs.YtbfbmgkgaokecaaDoor.PS
open Go.RowKit Go.Proofs.YtbfbmgkgaokecaaDoorW.PrintWords Go.Proofs.YtbfbmgkgaokecaaDoorW.PrintLast Go.Proofs.YtbfbmgkgaokecaaDoorW.PrintMore
set_option linter.unusedVariables false
set_option linter.unusedSimpArgs false

/-- Bytes as numbers. -/
def ints (l : List UInt8) : List Int := l.map fun c => (c.toNat : Int)
theorem ints_length (l : List UInt8) : (ints l).length = l.length := List.length_map _
theorem ints_append (l t : List UInt8) : ints (l ++ t) = ints l ++ ints t := List.map_append
theorem ints_take (l : List UInt8) (n : Nat) : (ints l).take n = ints (l.take n) := (List.map_take).symm
theorem ints_drop (l : List UInt8) (n : Nat) : (ints l).drop n = ints (l.drop n) := (List.map_drop).symm
theorem bytesOf_ints (l : List UInt8) : Lib.bytesOf (ints l) = l := by
  unfold Lib.bytesOf ints
  rw [List.map_map]
  conv => rhs; rw [← List.map_id l]
  apply List.map_congr_left
  intro c _
  simp
theorem str_ints (l : List UInt8) : strOfNums (ints l) = ⟨l.toArray⟩ := by
  apply Vb.bytes_ext
  rw [Lib.strOfNums_toList, bytesOf_ints, Lib.toList_data]
theorem bsz (l : List UInt8) : (⟨l.toArray⟩ : ByteArray).size = l.length := by show l.toArray.size = _; simp
theorem btl (l : List UInt8) : (⟨l.toArray⟩ : ByteArray).toList = l := by rw [Lib.toList_data]
theorem bex (l : List UInt8) (a b : Nat) : (⟨l.toArray⟩ : ByteArray).extract a b = ⟨((l.drop a).take (b - a)).toArray⟩ := by
  apply Vb.bytes_ext
  rw [Lib.toList_data, Lib.toList_data, Lib.extract_data]
theorem wI {x : Int} (h0 : -1000000000000000 ≤ x) (h1 : x ≤ 1000000000000000) : wrap64 x = x := by unfold wrap64; omega
theorem bt0 (l : List UInt8) (c : UInt8) : (bt (⟨l.toArray⟩ : ByteArray) 0 = (c.toNat : Int) ∧ 0 < l.length) ↔ l.head? = some c := by
  cases l with
  | nil => simp
  | cons a l =>
    unfold bt
    rw [dif_pos (by rw [bsz]; simp)]
    have e : ∀ h, ((⟨(a :: l).toArray⟩ : ByteArray)[(0 : Int).toNat]'h) = a := fun _ => rfl
    rw [e]
    simp only [List.head?_cons, Option.some.injEq, List.length_cons]
    constructor
    · rintro ⟨h, _⟩
      exact UInt8.toNat_inj.mp (by omega)
    · rintro rfl
      exact ⟨rfl, by omega⟩

theorem cutSuffix_eq (t : List UInt8) (ht : t.length ≤ 1000000) : strings_CutSuffix.f ⟨t.toArray⟩ ⟨#[13, 10]⟩ = some (if 2 ≤ t.length ∧ t.drop (t.length - 2) = [13, 10] then (⟨(t.take (t.length - 2)).toArray⟩, true) else (⟨t.toArray⟩, false)) := by
  have h2 : ((⟨#[13, 10]⟩ : ByteArray).size : Int) = 2 := rfl
  have h3 : (⟨#[13, 10]⟩ : ByteArray).toList = [13, 10] := btl [13, 10]
  unfold strings_CutSuffix.f stringslite_CutSuffix.f stringslite_HasSuffix.f
  rw [h2, h3, bsz]
  by_cases hl : 2 ≤ t.length
  · have hw : wrap64 ((t.length : Int) - 2) = ((t.length - 2 : Nat) : Int) := by rw [wI (by omega) (by omega)]; omega
    have e1 : ((t.length : Int) ≥ 2) = True := eq_true (by omega)
    have e2 : ((0 : Int) ≤ ((t.length - 2 : Nat) : Int)) = True := eq_true (by omega)
    have e3 : (((t.length - 2 : Nat) : Int) ≤ (t.length : Int)) = True := eq_true (by omega)
    simp only [hw, e1, e2, e3, if_true, Option.bind_some, Int.toNat_natCast, bex, btl, bsz, List.drop_zero, Nat.sub_zero]
    have e4 : (t.drop (t.length - 2)).take (t.length - (t.length - 2)) = t.drop (t.length - 2) := List.take_of_length_le (by rw [List.length_drop]; omega)
    rw [e4]
    by_cases he : t.drop (t.length - 2) = [13, 10]
    · have hb : (t.drop (t.length - 2) == [13, 10]) = true := by rw [he]; rfl
      rw [hb, if_pos rfl, if_pos ⟨hl, he⟩]
      rfl
    · have hb : (t.drop (t.length - 2) == [13, 10]) = false := beq_eq_false_iff_ne.mpr he
      rw [hb, if_neg (by decide), if_neg (fun h => he h.2)]
      rfl
  · have e1 : ((t.length : Int) ≥ 2) = False := eq_false (by omega)
    have e2 : ¬ (2 ≤ t.length ∧ t.drop (t.length - 2) = [13, 10]) := fun h => hl h.1
    rw [if_neg e2]
    simp only [e1, if_false, Option.bind_some, Bool.false_eq_true]
theorem indexByte_get : ∀ (l : List UInt8) (c : UInt8), 0 ≤ Lib.indexByte l c → l[(Lib.indexByte l c).toNat]? = some c
  | [], _ => by simp [Lib.indexByte]
  | b :: l, c => by
    have ih := indexByte_get l c
    have := indexByte_ge1 l c
    simp only [Lib.indexByte, beq_iff_eq]
    split
    · rename_i h; intro _; simp [h]
    · split
      · intro h; omega
      · intro h
        have e : (Lib.indexByte l c + 1).toNat = (Lib.indexByte l c).toNat + 1 := by omega
        rw [e, List.getElem?_cons_succ]
        exact ih (by omega)
/-- The line's end: the last two bytes. -/
theorem line_end (l : List UInt8) (i : Nat) (h : l[i]? = some 10) : (2 ≤ (l.take (i + 1)).length ∧ (l.take (i + 1)).drop ((l.take (i + 1)).length - 2) = [13, 10]) ↔ 1 ≤ i ∧ l[i - 1]? = some 13 := by
  have hi : i < l.length := (List.getElem?_eq_some_iff.1 h).1
  have hlen : (l.take (i + 1)).length = i + 1 := by rw [List.length_take]; omega
  rw [hlen]
  cases i with
  | zero => constructor <;> (intro ⟨h, _⟩; omega)
  | succ i =>
    have e1 : i + 1 + 1 - 2 = i := by omega
    have e2 : i + 1 - 1 = i := by omega
    rw [e1, e2]
    have hg : (l.take (i + 1 + 1)).drop i = [l[i], l[i + 1]] := by
      rw [List.drop_take]
      have : l.drop i = l[i] :: l[i + 1] :: l.drop (i + 2) := by
        rw [List.drop_eq_getElem_cons (by omega), List.drop_eq_getElem_cons (by omega)]
      rw [this]
      have : i + 1 + 1 - i = 2 := by omega
      rw [this]
      rfl
    rw [hg]
    have h10 : l[i + 1] = 10 := by
      have := List.getElem?_eq_getElem hi
      rw [this] at h
      exact Option.some.inj h
    rw [h10, List.getElem?_eq_getElem (show i < l.length by omega)]
    constructor
    · rintro ⟨_, h⟩
      simp only [List.cons.injEq, and_true] at h
      exact ⟨by omega, by rw [h]⟩
    · rintro ⟨_, h⟩
      exact ⟨by omega, by rw [Option.some.inj h]⟩
theorem intS_nil : Vb.intS ⟨#[]⟩ = none := by rfl

theorem mn16 (n : Nat) : mn (n : Int) 16 = ((min n 16 : Nat) : Int) := by unfold mn; omega
theorem tail_eq (sg : UInt8) (most : Int) (l : List UInt8) (hl : l.length ≤ 900000000000000) (i : Nat) (hi : i < l.length) (h1 : 1 ≤ i) (h13 : l[i - 1]? = some 13) (hh : l.head? = some sg) (h11 : i ≤ 11) (k : Nat) (h2 : 2 ≤ i) :
    resp_count.j0 (k + 2) (ints l) most i (⟨(l.take (i - 1)).toArray⟩ : ByteArray) false = some ((cntAt sg most l i).1, ints (cntAt sg most l i).2.1, (cntAt sg most l i).2.2) := by
  have hsz : (⟨(l.take (i - 1)).toArray⟩ : ByteArray).size = i - 1 := by rw [bsz, List.length_take]; omega
  have e1 : ((1 : Int) ≤ ((i - 1 : Nat) : Int)) = True := eq_true (by omega)
  have ex : (⟨(l.take (i - 1)).toArray⟩ : ByteArray).extract 1 (i - 1) = ⟨((l.take (i - 1)).drop 1).toArray⟩ := by
    rw [bex]
    congr 2
    exact List.take_of_length_le (by rw [List.length_drop, List.length_take]; omega)
  have hs2 : (⟨((l.take (i - 1)).drop 1).toArray⟩ : ByteArray).size ≤ 140737488351232 := by rw [bsz, List.length_drop, List.length_take]; omega
  have hv : verb_Int.f ⟨((l.take (i - 1)).drop 1).toArray⟩ = some (match Vb.intS ⟨((l.take (i - 1)).drop 1).toArray⟩ with | some n => (n, true) | none => (0, false)) := by unfold verb_Int.f; rw [if_pos hs2]; rfl
  have hw : wrap64 ((i : Int) + 1) = ((i + 1 : Nat) : Int) := by rw [wI (by omega) (by omega)]; omega
  have e3 : ((0 : Int) ≤ ((i + 1 : Nat) : Int)) = True := eq_true (by omega)
  have e4 : (((i + 1 : Nat) : Int) ≤ (l.length : Int)) = True := eq_true (by omega)
  by_cases h3 : 3 ≤ i
  · have ec : cntAt sg most l i = match Vb.intS ⟨((l.take (i - 1)).drop 1).toArray⟩ with
        | none => (0, [], 3)
        | some x => if x < 0 then (0, [], 3) else if most < x then (0, [], 5) else (x, l.drop (i + 1), 0) := by
      unfold cntAt; rw [if_pos ⟨h3, h11, h13, hh⟩]; rfl
    rw [ec]
    unfold resp_count.j0
    simp only [Bool.false_eq_true, if_false, hsz, e1, if_true, ex, hv, Option.bind_some]
    cases hI : Vb.intS ⟨((l.take (i - 1)).drop 1).toArray⟩ with
    | none => simp only [Bool.false_eq_true, if_false]; unfold resp_count.j1; simp only [if_true]; rfl
    | some x =>
      simp only [if_true]
      unfold resp_count.j1
      by_cases hx : x < 0
      · simp only [hx, decide_true, if_true]; rfl
      · by_cases hm : most < x
        · have hm' : (x > most) = True := eq_true hm
          simp only [hx, decide_false, Bool.false_eq_true, if_false, hm, hm', if_true]; rfl
        · have hm' : (x > most) = False := eq_false hm
          simp only [hx, decide_false, Bool.false_eq_true, if_false, hm, hm', hw, e3, if_true, ints_length, e4, Int.toNat_natCast, ints_drop]
  · have hi2 : i = 2 := by omega
    subst hi2
    have ec : cntAt sg most l 2 = (0, [], 3) := by unfold cntAt; rw [if_neg (fun h => h3 h.1)]
    have hnil : (l.take (2 - 1)).drop 1 = [] := List.drop_eq_nil_of_le (by rw [List.length_take]; omega)
    rw [ec]
    unfold resp_count.j0
    simp only [Bool.false_eq_true, if_false, hsz, e1, if_true, ex, hv, Option.bind_some, hnil, intS_nil]
    unfold resp_count.j1
    simp only [if_true]
    rfl
theorem count_eq (sg : UInt8) (most : Int) (l : List UInt8) (hl : l.length ≤ 900000000000000) (k : Nat) : resp_count.f (k + 2) (ints l) sg.toNat most = some ((cnt sg most l).1, ints (cnt sg most l).2.1, (cnt sg most l).2.2) := by
  have hb : bytes_IndexByte.f ((ints l).take (min l.length 16)) 10 = some (Lib.indexByte (l.take 16) 10) := by
    unfold bytes_IndexByte.f
    rw [ints_take, bytesOf_ints]
    have : l.take (min l.length 16) = l.take 16 := by
      by_cases h : l.length ≤ 16
      · rw [Nat.min_eq_left h, List.take_length, List.take_of_length_le h]
      · rw [Nat.min_eq_right (by omega)]
    rw [this]
    rfl
  have e1 : ((0 : Int) ≤ ((min l.length 16 : Nat) : Int)) = True := eq_true (by omega)
  have e2 : (((min l.length 16 : Nat) : Int) ≤ (l.length : Int)) = True := eq_true (by omega)
  unfold resp_count.f
  simp only [ints_length, mn16, e1, e2, if_true, Int.toNat_natCast, hb, Option.bind_some]
  by_cases hn : Lib.indexByte (l.take 16) 10 < 0
  · have ec : cnt sg most l = (0, [], if 16 ≤ l.length then 3 else 4) := by unfold cnt; rw [if_pos hn]
    rw [if_pos hn, ec]
    by_cases h16 : 16 ≤ l.length
    · rw [if_pos (by omega), if_pos h16]; rfl
    · rw [if_neg (by omega), if_neg h16]; rfl
  · have ec : cnt sg most l = cntAt sg most l (Lib.indexByte (l.take 16) 10).toNat := by unfold cnt; rw [if_neg hn]
    rw [if_neg hn, ec]
    have hlt := indexByte_lt (l.take 16) 10
    have hget := indexByte_get (l.take 16) 10 (by omega)
    rw [List.length_take] at hlt
    obtain ⟨i, hi⟩ : ∃ i : Nat, Lib.indexByte (l.take 16) 10 = (i : Int) := ⟨(Lib.indexByte (l.take 16) 10).toNat, by omega⟩
    rw [hi] at hlt hget ⊢
    rw [Int.toNat_natCast] at hget ⊢
    have hil : i < l.length := by omega
    have hi16 : i < 16 := by omega
    have h10 : l[i]? = some 10 := by rw [List.getElem?_take_of_lt hi16] at hget; exact hget
    have hw : wrap64 ((i : Int) + 1) = ((i + 1 : Nat) : Int) := by rw [wI (by omega) (by omega)]; omega
    have e3 : ((0 : Int) ≤ ((i + 1 : Nat) : Int)) = True := eq_true (by omega)
    have e4 : (((i + 1 : Nat) : Int) ≤ (l.length : Int)) = True := eq_true (by omega)
    have hcs := cutSuffix_eq (l.take (i + 1)) (by rw [List.length_take]; omega)
    simp only [hw, e3, e4, if_true, Int.toNat_natCast, ints_take, str_ints, hcs, Option.bind_some]
    have hlen : (l.take (i + 1)).length = i + 1 := by rw [List.length_take]; omega
    have hend := line_end l i h10
    by_cases hE : 1 ≤ i ∧ l[i - 1]? = some 13
    · rw [if_pos (hend.2 hE)]
      have ht : (l.take (i + 1)).take ((l.take (i + 1)).length - 2) = l.take (i - 1) := by
        rw [hlen, List.take_take, Nat.min_eq_left (by omega)]
        congr 1
      rw [ht]
      simp only [if_true, btl]
      by_cases hi1 : i = 1
      · subst hi1
        have : cntAt sg most l 1 = (0, [], 3) := by unfold cntAt; rw [if_neg (fun h => absurd h.1 (by decide))]
        rw [this]
        simp only [Nat.sub_self, List.take_zero, if_true]
        unfold resp_count.j0
        simp only [if_true]; rfl
      · have hne : ¬ l.take (i - 1) = [] := by
          intro h
          have := congrArg List.length h
          rw [List.length_take, List.length_nil] at this
          omega
        have hsz : (⟨(l.take (i - 1)).toArray⟩ : ByteArray).size = i - 1 := by rw [bsz, List.length_take]; omega
        have e5 : ((0 : Int) < ((i - 1 : Nat) : Int)) = True := eq_true (by omega)
        simp only [hne, if_false, hsz, e5, if_true]
        have hhead : (l.take (i - 1)).head? = l.head? := by
          cases l with
          | nil => simp at hil
          | cons a l => cases h : i - 1 with
            | zero => omega
            | succ n => rfl
        have hb0 := bt0 (l.take (i - 1)) sg
        rw [hhead] at hb0
        by_cases hh : l.head? = some sg
        · rw [if_pos (hb0.2 hh).1]
          by_cases h11 : i ≤ 11
          · have : decide (((i - 1 : Nat) : Int) > 10) = false := decide_eq_false (by omega)
            rw [this]
            exact tail_eq sg most l hl i hil hE.1 hE.2 hh h11 k (by omega)
          · have : decide (((i - 1 : Nat) : Int) > 10) = true := decide_eq_true (by omega)
            rw [this]
            have ec : cntAt sg most l i = (0, [], 3) := by unfold cntAt; rw [if_neg (fun h => h11 h.2.1)]
            rw [ec]
            unfold resp_count.j0
            simp only [if_true]; rfl
        · rw [if_neg (fun h => hh (hb0.1 ⟨h, by rw [List.length_take]; omega⟩))]
          have ec : cntAt sg most l i = (0, [], 3) := by unfold cntAt; rw [if_neg (fun h => hh h.2.2.2)]
          rw [ec]
          unfold resp_count.j0
          simp only [if_true]; rfl
    · rw [if_neg (fun h => hE (hend.1 h))]
      have ec : cntAt sg most l i = (0, [], 3) := by unfold cntAt; rw [if_neg (fun h => hE ⟨by omega, h.2.2.1⟩)]
      rw [ec]
      simp only [Bool.false_eq_true, if_false]
      unfold resp_count.j0
      simp only [if_true]; rfl
theorem word_eq (l : List UInt8) (hl : l.length ≤ 900000000000000) (k : Nat) : resp_word.f (k + 2) (ints l) = some ((wrd l).1, ints (wrd l).2.1, (wrd l).2.2) := by
  have hc := count_eq 36 512 l hl k
  have h36 : ((36 : UInt8).toNat : Int) = 36 := rfl
  rw [h36] at hc
  unfold resp_word.f wrd
  rw [hc]
  simp only [Option.bind_some]
  by_cases h0 : (cnt 36 512 l).2.2 = 0
  · have hk := cnt_ok h0
    obtain ⟨n, hn⟩ : ∃ n : Nat, (cnt 36 512 l).1 = (n : Int) := ⟨_, (Int.toNat_of_nonneg hk.2.1).symm⟩
    obtain ⟨R, hR⟩ : ∃ R, (cnt 36 512 l).2.1 = R := ⟨_, rfl⟩
    rw [hn, hR] at hk ⊢
    have hw : wrap64 ((n : Int) + 2) = ((n + 2 : Nat) : Int) := by rw [wI (by omega) (by omega)]; omega
    simp only [h0, if_true, hw, ints_length, Int.toNat_natCast]
    by_cases hlt : R.length < n + 2
    · have e : (((R.length : Nat) : Int) < ((n + 2 : Nat) : Int)) = True := eq_true (by omega)
      simp only [e, if_true, hlt]
      rfl
    · have e : (((R.length : Nat) : Int) < ((n + 2 : Nat) : Int)) = False := eq_false (by omega)
      have e1 : ((0 : Int) ≤ (n : Int)) = True := eq_true (by omega)
      have e2 : ((n : Int) ≤ ((n + 2 : Nat) : Int)) = True := eq_true (by omega)
      have e3 : (((n + 2 : Nat) : Int) ≤ (R.length : Int)) = True := eq_true (by omega)
      have e4 : ((n : Int) ≤ (R.length : Int)) = True := eq_true (by omega)
      have e5 : ((0 : Int) ≤ ((n + 2 : Nat) : Int)) = True := eq_true (by omega)
      have e6 : (R.take (n + 2)).drop n = (R.drop n).take 2 := by rw [List.drop_take]; congr 1; omega
      simp only [e, if_false, hlt, e1, e2, e3, e4, e5, if_true, ints_take, ints_drop, str_ints, btl, e6]
      by_cases he : (R.drop n).take 2 = [13, 10]
      · simp only [he, if_true]
      · simp only [he, if_false]
        rfl
  · simp only [h0, if_false]
    rfl
theorem words_eq : ∀ (n : Nat) (l : List UInt8) (acc : List ByteArray) (i : Nat), i + n ≤ 1000 → acc.length ≤ i → l.length ≤ 900000000000000 → ∀ m : Nat, m = i + n → ∀ k : Nat,
    resp_command.l0 (k + n + 3) (ints l) acc (m : Int) (i : Int) = some ((wrds n l acc).1, ints (wrds n l acc).2.1, (wrds n l acc).2.2) := by
  intro n
  induction n with
  | zero =>
    intro l acc i h2 hacc hl m hm k
    have e : ((i : Int) < (m : Int)) = False := eq_false (by omega)
    rw [wrds]
    simp only [resp_command.l0, e, if_false]
  | succ n ih =>
    intro l acc i h2 hacc hl m hm k
    have e : ((i : Int) < (m : Int)) = True := eq_true (by omega)
    have hw := word_eq l hl (k + n + 1)
    have e2 : k + (n + 1) + 3 = (k + n + 1 + 2) + 1 := by omega
    rw [e2, wrds]
    simp only [resp_command.l0, e, if_true, hw, Option.bind_some]
    by_cases h0 : (wrd l).2.2 = 0
    · have hk := wrd_ok h0
      have e3 : (acc.length < 8796093022208) = True := eq_true (by omega)
      have ihh := ih (wrd l).2.1 (acc ++ [(wrd l).1]) (i + 1) (by omega) (by rw [List.length_append, List.length_singleton]; omega) (by omega) m (by omega) k
      simp only [h0, if_true, e3, show wrap64 ((i : Int) + 1) = ((i + 1 : Nat) : Int) by rw [wI (by omega) (by omega)]; omega]
      exact ihh
    · simp only [h0, if_false]
      rfl

end Go.Proofs.YtbfbmgkgaokecaaDoor.PS
