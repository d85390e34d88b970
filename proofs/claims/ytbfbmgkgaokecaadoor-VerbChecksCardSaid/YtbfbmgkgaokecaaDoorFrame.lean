/- What the rows of layer 17 have in common: the condition on the listed variables, at the door's own run and as the walks read it. -/
import Derived.Test.YtbfbmgkgaokecaaDoorLaid
import Derived.Test.YtbfbmgkgaokecaaDoorAwake
import Derived.Stop.Joined
set_option linter.unusedVariables false
set_option linter.unusedSimpArgs false
namespace Go.Proofs.YtbfbmgkgaokecaaDoor.Vb
open Go.ChangeShapes Go.WideShapes Go.ChangeAt Go.RowKit

def laid8 : List (String × DataW Unit) := [("math/bits.deBruijn32tab", Rows.laid_math_bits_deBruijn32tab), ("math/bits.deBruijn64tab", Rows.laid_math_bits_deBruijn64tab), ("internal/strconv.uint64pow10", Rows.laid_internal_strconv_uint64pow10), ("strconv.ErrRange", Rows.laid_strconv_ErrRange), ("strconv.ErrSyntax", Rows.laid_strconv_ErrSyntax), ("intaglio/verb.one", Rows.laid_intaglio_verb_one), ("intaglio/verb.two", Rows.laid_intaglio_verb_two), ("intaglio/verb.all", Rows.laid_intaglio_verb_all)]
theorem i64_of_wf {n : Int} (h : (Lit.int .i64 n).wf = true) : -9223372036854775808 ≤ n ∧ n ≤ 9223372036854775807 := by
  rw [Lit.wf, Bool.and_eq_true, decide_eq_true_eq, decide_eq_true_eq] at h
  exact h
theorem own : ownKnob Tryd.prog.godebug = none := by kernel_rfl
theorem door_met8 (os : Os) (args : Array Value) : laidMetH Tryd.prog laid8 ((World.doorLaid Tryd.prog 400 os).forCall (fun _ _ => 0) ⟨#[], args, []⟩).memory := by
  rw [MakeChecks.laidMetH_plain _ _ _ (by kernel_rfl)]
  exact laidMet_of_run' 8 (by kernel_rfl) (by kernel_rfl)
theorem glob_of {W : World} (h : laidMetH Tryd.prog laid8 W) : Glob W := by
  rw [MakeChecks.laidMetH_plain _ _ _ (by kernel_rfl)] at h
  have hn := num_of h
  obtain ⟨a0, a1, a2⟩ := place_of h.tail.tail.tail.tail.tail gOne tOne
  obtain ⟨b0, b1, b2⟩ := place_of h.tail.tail.tail.tail.tail.tail gTwo tTwo
  obtain ⟨c0, c1, c2⟩ := place_of h.tail.tail.tail.tail.tail.tail.tail gAll tAll
  exact ⟨hn, ⟨a0, a1, a2, c0, c1, c2, b0, b1, b2, hn.size⟩⟩
end Go.Proofs.YtbfbmgkgaokecaaDoor.Vb
