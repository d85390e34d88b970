/- verb.Upper: what it tells. -/
import Derived.Test.YtbfbmgkgaokecaaDoorBase
import Derived.Test.YtbfbmgkgaokecaaDoorRow
import Derived.Deep.QuietTactic
import Derived.BigQuiet
import Derived.Lib.Hide
import Derived.OwnWalk
set_option linter.unusedVariables false
set_option linter.unusedSimpArgs false
namespace Go.Proofs.YtbfbmgkgaokecaaDoor.Vb
open Go.RowKit

/-- A capital letter for a small one. -/
def up1 (c : UInt8) : UInt8 := if 97 ≤ c ∧ c ≤ 122 then c - 32 else c
def upL (l : List UInt8) : List UInt8 := l.map up1
def upS (s : ByteArray) : ByteArray := ⟨(upL s.data.toList).toArray⟩

/-- Behind k rounds: the first k are capital letters. -/
def upTo (l : List UInt8) (k : Nat) : List UInt8 := upL (l.take k) ++ l.drop k
theorem upTo_zero (l : List UInt8) : upTo l 0 = l := by simp [upTo, upL]
theorem upTo_all (l : List UInt8) (k : Nat) (h : l.length ≤ k) : upTo l k = upL l := by simp [upTo, List.take_of_length_le h, List.drop_eq_nil_of_le h]
theorem upTo_length (l : List UInt8) (k : Nat) : (upTo l k).length = l.length := by simp [upTo, upL]; omega
theorem upTo_at (l : List UInt8) (k : Nat) (h : k < l.length) : (upTo l k)[k]? = some l[k] := by
  simp [upTo, upL, List.getElem?_append, h, Nat.min_eq_left (Nat.le_of_lt h)]
theorem upTo_set (l : List UInt8) (k : Nat) (h : k < l.length) : (upTo l k).set k (up1 l[k]) = upTo l (k + 1) := by
  have e1 : l.drop k = l[k] :: l.drop (k + 1) := List.drop_eq_getElem_cons h
  have e2 : l.take (k + 1) = l.take k ++ [l[k]] := by rw [List.take_succ_eq_append_getElem h]
  have hl : (upL (l.take k)).length = k := by simp [upL]; omega
  unfold upTo
  rw [e1, e2, List.set_append_right _ _ (by omega), hl, Nat.sub_self, List.set_cons_zero]
  simp only [upL, List.map_append, List.append_assoc, List.map_cons, List.map_nil, List.cons_append, List.nil_append]

theorem up1_yes {c : UInt8} (h1 : 97 ≤ (c.toNat : Int)) (h2 : (c.toNat : Int) ≤ 122) : ((up1 c).toNat : Int) = (c.toNat : Int) - 97 + 65 := by
  have a1 : (97 : UInt8) ≤ c := by rw [UInt8.le_iff_toNat_le]; show 97 ≤ c.toNat; omega
  have a2 : c ≤ (122 : UInt8) := by rw [UInt8.le_iff_toNat_le]; show c.toNat ≤ 122; omega
  have a3 : (32 : UInt8) ≤ c := by rw [UInt8.le_iff_toNat_le]; show 32 ≤ c.toNat; omega
  unfold up1
  rw [if_pos ⟨a1, a2⟩, UInt8.toNat_sub_of_le _ _ a3]
  have : (32 : UInt8).toNat = 32 := rfl
  omega
theorem up1_no {c : UInt8} (h : ¬ (97 ≤ (c.toNat : Int) ∧ (c.toNat : Int) ≤ 122)) : up1 c = c := by
  unfold up1
  rw [if_neg]
  rintro ⟨h1, h2⟩
  rw [UInt8.le_iff_toNat_le] at h1 h2
  have h1 : 97 ≤ c.toNat := h1
  have h2 : c.toNat ≤ 122 := h2
  exact h ⟨by omega, by omega⟩
theorem upTo_keep {l : List UInt8} {k : Nat} (h : k < l.length) (hc : ¬ (97 ≤ (l[k].toNat : Int) ∧ (l[k].toNat : Int) ≤ 122)) : upTo l (k + 1) = upTo l k := by
  rw [← upTo_set l k h, up1_no hc]
  apply List.ext_getElem?
  intro j
  rw [List.getElem?_set]
  by_cases e : k = j
  · subst e; rw [upTo_at l k h]; simp [upTo_length, h]
  · simp [e]

set_option maxHeartbeats 400000 in
theorem Upper_calls (s : ByteArray) (hs : s.size ≤ 140737488351232) (w : World) :
    Calls Tryd.prog 31 #[.string s] w fun e w' => e = .returned (.string (upS s)) ∧ Below w.heap.size w w' := by
  have hlen : s.data.toList.length = s.size := Array.length_toList
  have hcv := Lib.run_convert_string_bytes (P := Tryd.prog) w 9 23 5 s Tryd.underlying9 Tryd.underlying23 Tryd.underlying5
  have hrow := BRow.of_bytes w s
  have hbel := below_bytes (B := w.heap.size) 5 s (Nat.le_refl w.heap.size)
  have HS : Hid (upS s = ⟨(upL s.data.toList).toArray⟩) := rfl
  generalize s.data.toList = l at *
  generalize Lib.bytesWorld w 5 s = w1 at *
  generalize grownCap w s.size 0 5 = cap at *
  go_enter Tryd.func31, Tryd.ntmps31
  go_wp2
  clear hcv
  have HL := Lib.hid hlen
  clear hlen
  go_loopw [10] (fun i wr => ∃ k : Nat, k ≤ s.size ∧ i = .int .i64 k ∧ BRow wr w.heap.size (upTo l k) ∧ Below w.heap.size w wr) (fun i _ => s.size - (intOf i).toNat)
  case atStart => exact ⟨0, Nat.zero_le _, rfl, by rw [upTo_zero]; exact hrow, hbel⟩
  case round =>
    obtain ⟨k, hk, rfl, hr, hb⟩ := hrel
    clear hrow hbel
    by_cases hlt : k < s.size
    · have hkl : k < l.length := by have := HL.out; omega
      have hc := hr.cell k (by rw [upTo_length]; exact hkl)
      have hf := hr.frozen k (by rw [upTo_length]; exact hkl)
      have hat : (upTo l k)[k]'(by rw [upTo_length]; exact hkl) = l[k] := by
        have := upTo_at l k hkl
        rw [List.getElem?_eq_getElem (by rw [upTo_length]; exact hkl)] at this
        exact Option.some.inj this
      rw [hat] at hc
      clear hat
      go_wp2
      · have a1 : 97 ≤ (l[k].toNat : Int) := by assumption
        have a2 : (l[k].toNat : Int) ≤ 122 := by assumption
        go_roundw
        case rel =>
          refine ⟨k + 1, by omega, by go_num, ?_, hb.setCell (Nat.le_refl _) _⟩
          have := hr.set k (by rw [upTo_length]; exact hkl) (up1 l[k]) _ (up1_yes a1 a2)
          rw [upTo_set l k hkl] at this
          exact this
        case measure => simp [intOf]; omega
      · have a2 : 122 < (l[k].toNat : Int) := by assumption
        go_roundw
        case rel => exact ⟨k + 1, by omega, by go_num, by rw [upTo_keep hkl (by omega)]; exact hr, hb⟩
        case measure => simp [intOf]; omega
      · have a1 : ¬ 97 ≤ (l[k].toNat : Int) := by assumption
        go_roundw
        case rel => exact ⟨k + 1, by omega, by go_num, by rw [upTo_keep hkl (by omega)]; exact hr, hb⟩
        case measure => simp [intOf]; omega
    · have hcv2 := hr.text (P := Tryd.prog) 23 9 Tryd.underlying23 Tryd.underlying5 Tryd.underlying9 s.size cap (by have := HL.out; rw [upTo_length]; omega)
      go_wp2
      go_ret
      exact ⟨by rw [HS.out, upTo_all l k (by have := HL.out; omega)]; rfl, hb⟩

end Go.Proofs.YtbfbmgkgaokecaaDoor.Vb
