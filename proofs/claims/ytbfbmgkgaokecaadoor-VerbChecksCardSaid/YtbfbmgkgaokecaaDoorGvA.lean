/- What package verb's functions tell, in the printed contracts' form. -/
import Derived.Test.YtbfbmgkgaokecaaDoorAwake
import Derived.Test.YtbfbmgkgaokecaaDoorPR0
set_option linter.unusedVariables false
set_option linter.unusedSimpArgs false
namespace Go.Proofs.YtbfbmgkgaokecaaDoor.PR
open Go.RowKit Go.Proofs.YtbfbmgkgaokecaaDoorW.PrintWords Go.Proofs.YtbfbmgkgaokecaaDoorW.PrintLast Go.Proofs.YtbfbmgkgaokecaaDoorW.PrintMore

def verb_Text.f (a0 : Int) : Option ByteArray := if -9223372036854775808 ≤ a0 ∧ a0 ≤ 9223372036854775807 then some (Vb.txt a0) else none
theorem verb_Text.calls (a0 : Int) (r : ByteArray) (w : World) (hG : Vb.Glob w) (h : verb_Text.f a0 = some r) :
    Calls Tryd.prog 35 #[.int .i64 a0] w fun e w' => e = .returned (.string r) ∧ Below w.heap.size w w' := by
  unfold verb_Text.f at h
  split at h
  · rename_i hh
    obtain rfl := Option.some.inj h
    exact Vb.Text_calls a0 hh.1 hh.2 w hG.num
  · cases h

def verb_Int.f (a0 : ByteArray) : Option (Int × Bool) := if a0.size ≤ 140737488351232 then some (match Vb.intS a0 with | some n => (n, true) | none => (0, false)) else none
theorem verb_Int.calls (a0 : ByteArray) (r1 : Int) (r2 : Bool) (w : World) (hG : Vb.Glob w) (h : verb_Int.f a0 = some (r1, r2)) :
    Calls Tryd.prog 33 #[.string a0] w fun e w' => e = .returned (.tuple #[.int .i64 r1, .bool r2]) ∧ Below w.heap.size w w' := by
  unfold verb_Int.f at h
  split at h
  · rename_i hh
    have hc := Vb.Int_calls a0 hh w hG.num
    unfold Vb.intV at hc
    cases hi : Vb.intS a0 with
    | some n => rw [hi] at hc h; simp at h; obtain ⟨rfl, rfl⟩ := h; exact hc
    | none => rw [hi] at hc h; simp at h; obtain ⟨rfl, rfl⟩ := h; exact hc
  · cases h

def verb_Upper.f (a0 : ByteArray) : Option ByteArray := if a0.size ≤ 140737488351232 then some (Vb.upS a0) else none
theorem verb_Upper.calls (a0 : ByteArray) (r : ByteArray) (w : World) (h : verb_Upper.f a0 = some r) :
    Calls Tryd.prog 31 #[.string a0] w fun e w' => e = .returned (.string r) ∧ Below w.heap.size w w' := by
  unfold verb_Upper.f at h
  split at h
  · rename_i hh
    obtain rfl := Option.some.inj h
    exact Vb.Upper_calls a0 hh w
  · cases h

def spT (o : Option Vb.Sp) : Int × Int × Int × ByteArray × Int × Int × Bool × Bool × Bool × Bool :=
  match o with
  | some s => (s.first, s.last, s.step, s.name, s.min, s.max, s.writes, s.odd, s.even, true)
  | none => (0, 0, 0, Vb.e0, 0, 0, false, false, false, false)
def verb_Find.f (a0 : ByteArray) : Option (Int × Int × Int × ByteArray × Int × Int × Bool × Bool × Bool × Bool) := if a0.size ≤ 140737488351232 then some (spT (Vb.findS a0)) else none
theorem verb_Find.calls (a0 : ByteArray) (r1 : Int) (r2 : Int) (r3 : Int) (r4 : ByteArray) (r5 : Int) (r6 : Int) (r7 : Bool) (r8 : Bool) (r9 : Bool) (r10 : Bool) (w : World) (hG : Vb.Glob w) (h : verb_Find.f a0 = some (r1, r2, r3, r4, r5, r6, r7, r8, r9, r10)) :
    Calls Tryd.prog 28 #[.string a0] w fun e w' => e = .returned (.tuple #[.agg #[.int .i64 r1, .int .i64 r2, .int .i64 r3, .string r4, .int .i64 r5, .int .i64 r6, .bool r7, .bool r8, .bool r9], .bool r10]) ∧ Below w.heap.size w w' := by
  unfold verb_Find.f at h
  split at h
  · rename_i hh
    have hc := Vb.Find_calls a0 hh w hG.plc
    unfold spT at h
    cases hi : Vb.findS a0 with
    | some s => rw [hi] at hc h; simp at h; obtain ⟨rfl, rfl, rfl, rfl, rfl, rfl, rfl, rfl, rfl, rfl⟩ := h; exact hc
    | none => rw [hi] at hc h; simp at h; obtain ⟨rfl, rfl, rfl, rfl, rfl, rfl, rfl, rfl, rfl, rfl⟩ := h; exact hc
  · cases h

def verb_Match.f (a0 : ByteArray) (a1 : ByteArray) : Option Bool := if a0.size ≤ 100000 ∧ a1.size ≤ 100000 then some (Vb.matchS a0 a1) else none
theorem verb_Match.calls (a0 : ByteArray) (a1 : ByteArray) (r : Bool) (w : World) (h : verb_Match.f a0 a1 = some r) :
    Calls Tryd.prog 37 #[.string a0, .string a1] w fun e w' => e = .returned (.bool r) ∧ Below w.heap.size w w' := by
  unfold verb_Match.f at h
  split at h
  · rename_i hh
    obtain rfl := Option.some.inj h
    exact Vb.Match_calls a0 a1 hh.1 hh.2 w
  · cases h

def intagliolaw17_awake.f : Option Bool := some true
theorem intagliolaw17_awake.calls (r : Bool) (w : World) (hG : Vb.Glob w) (h : intagliolaw17_awake.f = some r) :
    Calls Tryd.prog 27 #[] w fun e w' => e = .returned (.bool r) ∧ Below w.heap.size w w' := by
  obtain rfl := Option.some.inj h
  exact Vb.awake_calls w hG

end Go.Proofs.YtbfbmgkgaokecaaDoor.PR
