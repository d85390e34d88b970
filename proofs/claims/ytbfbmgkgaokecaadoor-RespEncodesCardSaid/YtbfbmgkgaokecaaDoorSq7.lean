/- Several of this seat's texts in one (squash.py): Int GvJ PSf89. -/
import Derived.Test.YtbfbmgkgaokecaaDoorBase
import Derived.Test.YtbfbmgkgaokecaaDoorShelf
import Derived.Test.YtbfbmgkgaokecaaDoorSq8
import Derived.Deep.QuietTactic
import Derived.BigQuiet
import Derived.Deep.RegionWith
import Derived.Lib.Hide
import Derived.Test.YtbfbmgkgaokecaaDoorPS0
import Derived.Test.YtbfbmgkgaokecaaDoorSq10

section
/- verb.Text and verb.Int: what they tell. -/
set_option linter.unusedVariables false
set_option linter.unusedSimpArgs false
namespace Go.Proofs.YtbfbmgkgaokecaaDoor.Vb
open Go.RowKit

/-- A number's text. -/
def txt (n : Int) : ByteArray := ⟨(Lib.itoa n).toArray⟩

theorem below_grow {w : World} {B : Nat} (k : Nat) (os : Array Obj) (hB : B ≤ w.heap.size) : Below B w (Sort.grow (w.drewN k) os) := by
  refine ⟨rfl, rfl, rfl, ?_, ?_⟩
  · simp [Sort.grow, World.drewN]
  · intro i hi
    show (w.heap ++ os)[i]? = _
    rw [Array.getElem?_append_left (by omega)]

set_option maxHeartbeats 400000 in
theorem Text_calls (n : Int) (h0 : -9223372036854775808 ≤ n) (h1 : n ≤ 9223372036854775807) (w : World) (hN : Num w) :
    Calls Tryd.prog 35 #[.int .i64 n] w fun e w' => e = .returned (.string (txt n)) ∧ Below w.heap.size w w' := by
  go_enter Tryd.func35, Tryd.ntmps35
  go_wp2_with (go_at_call 61; refine (Tryd.strconv_Itoa n h0 h1 _ hN.tab).mono ?_; rintro e w' ⟨rfl, k, os, rfl⟩)
  go_ret
  exact ⟨rfl, below_grow k os (Nat.le_refl _)⟩

/-- The number of a text in its one form. -/
def intS (s : ByteArray) : Option Int :=
  match Lib.parseIntB 64 s.data.toList with
  | .ok v => if txt v = s then some v else none
  | _ => none

/-- ParseInt, its three roads in one. -/
theorem Parse_calls (s : ByteArray) (hs : s.size ≤ 140737488351232) (w : World) (hN : Num w) :
    Calls Tryd.prog 60 #[.string s, .int .i64 10, .int .i64 64] w fun e w' => ∃ v er, e = .returned (.tuple #[.int .i64 v, er]) ∧ Below w.heap.size w w' ∧
      ((Lib.parseIntB 64 s.data.toList = .ok v ∧ er = .nilIface) ∨ ((∀ u, Lib.parseIntB 64 s.data.toList ≠ .ok u) ∧ ∃ t p, er = .iface t p)) := by
  cases h : Lib.parseIntB 64 s.data.toList with
  | ok v =>
    refine (Tryd.strconv_ParseInt_10_at64_ok s (by omega) v h w).mono ?_
    rintro e w' ⟨rfl, hw⟩
    refine ⟨v, .nilIface, rfl, ?_, .inl ⟨rfl, rfl⟩⟩
    rcases hw with rfl | ⟨t, rfl⟩
    · exact Below.refl _ _
    · exact below_bytes _ _ (Nat.le_refl _)
  | range =>
    obtain ⟨t, p, hv⟩ := hN.ran
    refine (Tryd.strconv_ParseInt_10_at64_range_var s (by omega) h t p w hv).mono ?_
    rintro e w' ⟨N, rfl, _, _, hb⟩
    exact ⟨_, _, rfl, hb, .inr ⟨fun u hu => by simp at hu, _, _, rfl⟩⟩
  | _ =>
    obtain ⟨t, p, hv⟩ := hN.syn
    refine (Tryd.strconv_ParseInt_10_at64_syntax_var s (by omega) h t p w hv).mono ?_
    rintro e w' ⟨N, rfl, _, _, hb⟩
    exact ⟨_, _, rfl, hb, .inr ⟨fun u hu => by simp at hu, _, _, rfl⟩⟩

/-- Int's answer as the call tells it. -/
def intV (s : ByteArray) : Value := match intS s with | some n => .tuple #[.int .i64 n, .bool true] | none => .tuple #[.int .i64 0, .bool false]

theorem bytes_ext {a b : ByteArray} (h : a.toList = b.toList) : a = b := by
  rw [ByteArray.toList_eq, ByteArray.toList_eq] at h
  cases a with | mk a => cases b with | mk b =>
  congr 1
  exact Array.toList_inj.1 h

theorem txt_eq (v : Int) (s : ByteArray) : ((txt v).toList == s.toList) = decide (txt v = s) := by
  by_cases h : txt v = s
  · subst h; simp
  · rw [decide_eq_false h]
    apply Bool.eq_false_iff.2
    intro e
    exact h (bytes_ext (eq_of_beq e))

theorem int_range {s : ByteArray} {v : Int} (h : Lib.parseIntB 64 s.data.toList = .ok v) : -9223372036854775808 ≤ v ∧ v ≤ 9223372036854775807 := by
  have := Lib.parseIntB_bounds h
  simp at this
  omega

set_option maxHeartbeats 400000 in
theorem Int_calls (s : ByteArray) (hs : s.size ≤ 140737488351232) (w : World) (hN : Num w) :
    Calls Tryd.prog 33 #[.string s] w fun e w' => e = .returned (intV s) ∧ Below w.heap.size w w' := by
  go_enter Tryd.func33, Tryd.ntmps33
  go_wp2_with (go_at_call 60; refine (Parse_calls s hs _ hN).mono ?_; rintro e w1 ⟨v, er, rfl, hb, ⟨h1, rfl⟩ | ⟨h1, t, p, rfl⟩⟩)
  · have hr := int_range h1
    have H := Lib.hid h1; clear h1
    go_wp2_with fail
    refine (Text_calls v hr.1 hr.2 _ (hN.grown hb)).mono ?_
    rintro e w2 ⟨rfl, hb2⟩
    go_wp2_with fail
    · have ht : (!(txt v).toList == s.toList) = true := by assumption
      go_ret2
      refine ⟨?_, Below.comp hb hb2⟩
      rw [txt_eq] at ht
      have hne : ¬ txt v = s := by simpa using ht
      unfold intV intS
      rw [H.out]
      simp [hne]
    · have ht : (!(txt v).toList == s.toList) = false := by assumption
      go_ret2
      refine ⟨?_, Below.comp hb hb2⟩
      rw [txt_eq] at ht
      have hne : txt v = s := by simpa using ht
      unfold intV intS
      rw [H.out]
      simp [hne]
  · have H := Lib.hid h1; clear h1
    go_ret2
    refine ⟨?_, hb⟩
    unfold intV intS
    cases hp : Lib.parseIntB 64 s.data.toList with
    | ok u => exact absurd hp (H.out u)
    | _ => rfl

end Go.Proofs.YtbfbmgkgaokecaaDoor.Vb
end

section
/- What verb.Text and verb.Int tell, in the printed contracts' form (layer 19). -/
set_option linter.unusedVariables false
set_option linter.unusedSimpArgs false
namespace Go.Proofs.YtbfbmgkgaokecaaDoor.PS
open Go.RowKit Go.Proofs.YtbfbmgkgaokecaaDoorW.PrintWords Go.Proofs.YtbfbmgkgaokecaaDoorW.PrintLast Go.Proofs.YtbfbmgkgaokecaaDoorW.PrintMore

def verb_Text.f (a0 : Int) : Option ByteArray := if -9223372036854775808 ≤ a0 ∧ a0 ≤ 9223372036854775807 then some (Vb.txt a0) else none
theorem verb_Text.calls (a0 : Int) (r : ByteArray) (w : World) (hG : Vb.Num w) (h : verb_Text.f a0 = some r) :
    Calls Tryd.prog 35 #[.int .i64 a0] w fun e w' => e = .returned (.string r) ∧ Below w.heap.size w w' := by
  unfold verb_Text.f at h
  split at h
  · rename_i hh
    obtain rfl := Option.some.inj h
    exact Vb.Text_calls a0 hh.1 hh.2 w hG
  · cases h

def verb_Int.f (a0 : ByteArray) : Option (Int × Bool) := if a0.size ≤ 140737488351232 then some (match Vb.intS a0 with | some n => (n, true) | none => (0, false)) else none
theorem verb_Int.calls (a0 : ByteArray) (r1 : Int) (r2 : Bool) (w : World) (hG : Vb.Num w) (h : verb_Int.f a0 = some (r1, r2)) :
    Calls Tryd.prog 33 #[.string a0] w fun e w' => e = .returned (.tuple #[.int .i64 r1, .bool r2]) ∧ Below w.heap.size w w' := by
  unfold verb_Int.f at h
  split at h
  · rename_i hh
    have hc := Vb.Int_calls a0 hh w hG
    unfold Vb.intV at hc
    cases hi : Vb.intS a0 with
    | some n => rw [hi] at hc h; simp at h; obtain ⟨rfl, rfl⟩ := h; exact hc
    | none => rw [hi] at hc h; simp at h; obtain ⟨rfl, rfl⟩ := h; exact hc
  · cases h
end Go.Proofs.YtbfbmgkgaokecaaDoor.PS
end

section
/- Written by program out of the translation (a patched copy of the kit's print, called by a script of this session). Not trusted: Lean checks it. -/
namespace Go.Proofs.YtbfbmgkgaokecaaDoor.PS
open Go.RowKit Go.Proofs.YtbfbmgkgaokecaaDoorW.PrintWords Go.Proofs.YtbfbmgkgaokecaaDoorW.PrintLast Go.Proofs.YtbfbmgkgaokecaaDoorW.PrintMore
attribute [local go_sem] max2_int min2_int max_two min_two max_three min_three max_four min_four   -- for this text's walks alone
set_option linter.unusedVariables false
set_option linter.unusedSimpArgs false

/-! ### strings_CutSuffix: function 89 -/
def strings_CutSuffix.f (a0 : ByteArray) (a1 : ByteArray) : Option (ByteArray × Bool) := (stringslite_CutSuffix.f a0 a1).bind fun bt101 => (some (bt101.1, bt101.2))
set_option maxHeartbeats 8000000 in
set_option maxRecDepth 100000 in
theorem strings_CutSuffix.calls (a0 : ByteArray) (a1 : ByteArray) (r1 : ByteArray) (r2 : Bool) (w : World) (h : strings_CutSuffix.f a0 a1 = some (r1, r2)) :
    Calls Tryd.prog 89 #[.string a0, .string a1] w fun e w' => e = .returned (.tuple #[.string r1, .bool r2]) ∧ Drawn0 w w' := by
  have H : ((stringslite_CutSuffix.f a0 a1).bind fun bt101 => (some (bt101.1, bt101.2))) = some (r1, r2) := h
  clear h
  replace H := Option.bind_eq_some_iff.mp H
  obtain ⟨⟨t101, t102⟩, A30, H⟩ := H
  replace H : (some (t101, t102)) = some (r1, r2) := H
  have A3 := Aside0.mk A30
  clear A30
  simp only [Option.some.injEq, Prod.mk.injEq] at H
  obtain ⟨rfl, rfl⟩ := H
  go_enter Tryd.func89, Tryd.ntmps89
  go_wp2_with (first | ((with_reducible refine gate_callee (f := 101) rfl ?_); refine goesL_ (some 8) rfl rfl Tryd.func101 (by kernel_rfl) rfl #[.string a0, .string a1] rfl (by (try simp only [List.map_toArray, List.map_cons, List.map_nil]); first | done | rfl | (simp only [List.length_drop, List.length_take]; rfl)) ?_; (with_reducible refine (stringslite_CutSuffix.calls a0 a1 t101 t102 _ A3.out).mono ?_); rintro e w' ⟨rfl, ⟨nd, rfl⟩⟩; refine ⟨_, rfl, ?_⟩))
  go_ret2
  exact ⟨by first | rfl | (simp; done) | (simp [*]; done), by repeat (first | exact Drawn0.refl _ | apply Drawn0.step)⟩

end Go.Proofs.YtbfbmgkgaokecaaDoor.PS
end
