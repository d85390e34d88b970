/- What verb.Text and verb.Int tell, in the printed contracts' form (layer 19). -/
import Derived.Test.YtbfbmgkgaokecaaDoorInt
import Derived.Test.YtbfbmgkgaokecaaDoorPS0
set_option linter.unusedVariables false
set_option linter.unusedSimpArgs false
namespace Go.Proofs.YtbfbmgkgaokecaaDoor.PS
open Go.RowKit Go.Proofs.YtbfbmgkgaokecaaDoorW.PrintWords Go.Proofs.YtbfbmgkgaokecaaDoorW.PrintLast Go.Proofs.YtbfbmgkgaokecaaDoorW.PrintMore

def verb_Text.f (a0 : Int) : Option ByteArray := if -9223372036854775808 ≤ a0 ∧ a0 ≤ 9223372036854775807 then some (Vb.txt a0) else none
theorem verb_Text.calls (a0 : Int) (r : ByteArray) (w : World) (hG : Vb.Num w) (h : verb_Text.f a0 = some r) :
    Calls Tryd.prog 35 #[.int .i64 a0] w fun e w' => e = .returned (.string r) ∧ Below w.heap.size w w' := by
  unfold verb_Text.f at h
  split at h
  · rename_i hh
    obtain rfl := Option.some.inj h
    exact Vb.Text_calls a0 hh.1 hh.2 w hG
  · cases h

def verb_Int.f (a0 : ByteArray) : Option (Int × Bool) := if a0.size ≤ 140737488351232 then some (match Vb.intS a0 with | some n => (n, true) | none => (0, false)) else none
theorem verb_Int.calls (a0 : ByteArray) (r1 : Int) (r2 : Bool) (w : World) (hG : Vb.Num w) (h : verb_Int.f a0 = some (r1, r2)) :
    Calls Tryd.prog 33 #[.string a0] w fun e w' => e = .returned (.tuple #[.int .i64 r1, .bool r2]) ∧ Below w.heap.size w w' := by
  unfold verb_Int.f at h
  split at h
  · rename_i hh
    have hc := Vb.Int_calls a0 hh w hG
    unfold Vb.intV at hc
    cases hi : Vb.intS a0 with
    | some n => rw [hi] at hc h; simp at h; obtain ⟨rfl, rfl⟩ := h; exact hc
    | none => rw [hi] at hc h; simp at h; obtain ⟨rfl, rfl⟩ := h; exact hc
  · cases h
end Go.Proofs.YtbfbmgkgaokecaaDoor.PS
