/- VerbPlain, plainly: escaped patterns describe their text alone. -/
import Derived.Test.YtbfbmgkgaokecaaDoorPlM
import Derived.Test.YtbfbmgkgaokecaaDoorPRf12
namespace Go.Proofs.YtbfbmgkgaokecaaDoor.PR
open Go.RowKit Go.Proofs.YtbfbmgkgaokecaaDoorW.PrintWords Go.Proofs.YtbfbmgkgaokecaaDoorW.PrintLast Go.Proofs.YtbfbmgkgaokecaaDoorW.PrintMore
open Vb

theorem w64 {i : Int} (h0 : -9223372036854775808 ≤ i) (h : i ≤ 9223372036854775807) : wrap64 i = i := by unfold wrap64; omega

/-- A text each of whose bytes stands behind a backslash. -/
def esc : List UInt8 → List UInt8
  | [] => []
  | c :: l => 92 :: c :: esc l
theorem esc_length : ∀ l, (esc l).length = 2 * l.length
  | [] => rfl
  | c :: l => by simp [esc, esc_length l]; omega
theorem esc_append : ∀ a b, esc (a ++ b) = esc a ++ esc b
  | [], b => rfl
  | c :: a, b => by simp [esc, esc_append a b]
def lits (l : List UInt8) : List (Int × List Bool) := l.map fun c => (2, justF c.toNat)
theorem parts_esc (r : List UInt8) : ∀ l, partsL (esc l ++ r) = lits l ++ partsL r
  | [] => rfl
  | c :: l => by
    show partsL (92 :: (c :: (esc l ++ r))) = _
    rw [partsL_cons]
    have h : onePart 92 (c :: (esc l ++ r)) = ((2, justF c.toNat), 2) := by
      simp [onePart]
    rw [h]
    simp only [List.drop_succ_cons, List.drop_zero]
    rw [parts_esc r l]
    rfl
theorem just_get (c d : UInt8) : (justF c.toNat).getD d.toNat false = decide (c = d) := by
  have hc := c.toNat_lt
  have hd := d.toNat_lt
  unfold justF
  rw [List.getD_eq_getElem?_getD, List.getElem?_set]
  by_cases e : c = d
  · subst e; rw [if_pos rfl, if_pos (by rw [f0_length]; omega)]; simp
  · have e2 : ¬ c.toNat = d.toNat := fun h => e (UInt8.toNat_inj.1 h)
    rw [if_neg e2, decide_eq_false e, List.getElem?_eq_getElem (by rw [f0_length]; omega), f0_at]; rfl
theorem MP_lits : ∀ (l t : List UInt8), MP (lits l) t ↔ t = l
  | [], t => Iff.rfl
  | c :: l, t => by
    constructor
    · rintro ⟨a, b, rfl, ⟨d, rfl, h⟩, h2⟩
      have h : (justF c.toNat).getD d.toNat false = true := h
      rw [just_get] at h
      rw [(MP_lits l b).1 h2, of_decide_eq_true h]; rfl
    · rintro rfl
      refine ⟨[c], l, rfl, ?_, (MP_lits l l).2 rfl⟩
      exact ⟨c, rfl, by show (justF c.toNat).getD c.toNat false = true; rw [just_get]; simp⟩
theorem MP_any (f : List Bool) (ps : List (Int × List Bool)) (t u : List UInt8) (h : MP ps u) : MP ((0, f) :: ps) (t ++ u) := ⟨t, u, rfl, trivial, h⟩
theorem parts_star : partsL [42] = [(0, f0)] := by rw [partsL_cons]; simp [onePart, partsL_nil]

def escB (l : List UInt8) : ByteArray := ⟨(esc l).toArray⟩
theorem escB_list (l : List UInt8) : (escB l).data.toList = esc l := by simp [escB]
theorem escB_size (l : List UInt8) : (escB l).size = 2 * l.length := by show (esc l).toArray.size = _; rw [List.size_toArray, esc_length]
theorem plain_iff (s t : ByteArray) : matchS (escB s.data.toList) t = (s.toList == t.toList) := by
  have h1 := match_iff (escB s.data.toList) t
  rw [escB_list] at h1
  have h2 := parts_esc [] s.data.toList
  rw [List.append_nil, partsL_nil, List.append_nil] at h2
  rw [h2, MP_lits] at h1
  have e : (t.data.toList = s.data.toList) ↔ (s.toList == t.toList) = true := by
    rw [beq_iff_eq, ByteArray.toList_eq, ByteArray.toList_eq]; exact eq_comm
  rw [e] at h1
  exact Bool.eq_iff_iff.2 h1
theorem app_list (a b : ByteArray) : (a ++ b).data.toList = a.data.toList ++ b.data.toList := by simp
theorem star_behind (s t : ByteArray) : matchS (escB s.data.toList ++ (⟨#[42]⟩ : ByteArray)) (s ++ t) = true := by
  rw [match_iff, app_list, app_list, escB_list]
  show MP (partsL (esc s.data.toList ++ [42])) _
  rw [parts_esc, parts_star, MP_snoc]
  exact ⟨_, _, rfl, (MP_lits _ _).2 rfl, trivial⟩
theorem star_ahead (s t : ByteArray) : matchS ((⟨#[42]⟩ : ByteArray) ++ escB s.data.toList) (t ++ s) = true := by
  rw [match_iff, app_list, app_list, escB_list]
  show MP (partsL (42 :: esc s.data.toList)) _
  have h : onePart 42 (esc s.data.toList) = ((0, f0), 1) := by simp [onePart]
  rw [partsL_cons, h]
  simp only [List.drop_succ_cons, List.drop_zero]
  have h2 := parts_esc [] s.data.toList
  rw [List.append_nil, partsL_nil, List.append_nil] at h2
  rw [h2]
  exact MP_any _ _ _ _ ((MP_lits _ _).2 rfl)
theorem esc_step (s : ByteArray) (i : Nat) (h : i < s.size) : escB (s.data.toList.take i) ++ ((⟨#[92]⟩ : ByteArray) ++ s.extract i (i + 1)) = escB (s.data.toList.take (i + 1)) := by
  have hl : i < s.data.toList.length := by rw [Array.length_toList]; exact h
  apply ByteArray.ext
  rw [List.take_succ_eq_append_getElem hl]
  apply Array.toList_inj.1
  have e2 : (s.extract i (i + 1)).data.toList = [s.data.toList[i]] := by
    rw [ByteArray.data_extract]
    simp only [Array.toList_extract]
    rw [List.extract_eq_take_drop, show i + 1 - i = 1 by omega, List.drop_eq_getElem_cons hl, List.take_succ_cons, List.take_zero]
  rw [app_list, app_list, e2, escB_list, escB_list, esc_append]
  rfl

theorem match_some {p s : ByteArray} (hp : p.size ≤ 100000) (hs : s.size ≤ 100000) : verb_Match.f p s = some (matchS p s) := by unfold verb_Match.f; rw [if_pos ⟨hp, hs⟩]

theorem plain_loop (s t : ByteArray) (hs : s.size ≤ 80) (ht : t.size ≤ 80) (d : Nat) : ∀ i : Nat, i ≤ s.size → s.size - i = d →
    Ev (fun k => intagliolaw17_VerbPlain.l0 k s t (escB (s.data.toList.take i)) (i : Int)) true := by
  have hl : s.data.toList.length = s.size := Array.length_toList
  induction d with
  | zero =>
    intro i hi hd
    have hi : i = s.size := by omega
    rw [hi, ← hl, List.take_length, hl]
    have hz := escB_size s.data.toList
    rw [hl] at hz
    refine ⟨1, fun k hk => ?_⟩
    obtain ⟨k, rfl⟩ : ∃ m, k = m + 1 := ⟨k - 1, by omega⟩
    simp only [intagliolaw17_VerbPlain.l0]
    rw [if_neg (by omega), match_some (by omega) (by omega), plain_iff]
    simp only [Option.bind_some]
    rw [if_pos (by simp), match_some (by omega) (by omega), plain_iff]
    simp only [Option.bind_some]
    have h1 : (escB s.data.toList ++ (⟨#[42]⟩ : ByteArray)).size ≤ 100000 := by rw [ByteArray.size_append, hz]; show 2 * s.size + 1 ≤ _; omega
    have h2 : ((⟨#[42]⟩ : ByteArray) ++ escB s.data.toList).size ≤ 100000 := by rw [ByteArray.size_append, hz]; show 1 + 2 * s.size ≤ _; omega
    have h3 : (s ++ t).size ≤ 100000 := by rw [ByteArray.size_append]; omega
    have h4 : (t ++ s).size ≤ 100000 := by rw [ByteArray.size_append]; omega
    rw [if_pos (by simp), if_pos (by omega), if_pos (by omega), match_some h1 h3, star_behind]
    simp only [Option.bind_some]
    rw [if_pos trivial, if_pos (by omega), if_pos (by omega), match_some h2 h4, star_ahead]
    rfl
  | succ d ih =>
    intro i hi hd
    have hlt : i < s.size := by omega
    refine Ev.step (fun k => ?_) (ih (i + 1) (by omega) (by omega))
    simp only [intagliolaw17_VerbPlain.l0]
    have hz := escB_size (s.data.toList.take i)
    rw [List.length_take, hl] at hz
    rw [w64 (by omega) (by omega), show (i : Int) + 1 = ((i + 1 : Nat) : Int) by omega, Int.toNat_natCast, Int.toNat_natCast,
      if_pos (by omega), if_pos (by omega), if_pos (by omega), if_pos (by omega), if_pos (by omega), if_pos (by omega), esc_step s i hlt]

theorem VerbPlain_true (s t : ByteArray) : ∃ k, intagliolaw17_VerbPlain.f k s t = some true := by
  unfold intagliolaw17_VerbPlain.f
  by_cases h : (s.size : Int) > 80
  · exact ⟨1, by rw [if_pos h]; rfl⟩
  · by_cases h2 : (t.size : Int) > 80
    · exact ⟨1, by rw [if_neg h, decide_eq_true h2]; rfl⟩
    · have := plain_loop s t (by omega) (by omega) s.size 0 (by omega) (by omega)
      obtain ⟨k, hk⟩ := this.rounds
      refine ⟨k + 1, ?_⟩
      rw [if_neg h, decide_eq_false h2]
      exact hk
end Go.Proofs.YtbfbmgkgaokecaaDoor.PR
