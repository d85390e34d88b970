/- The walk of the statement VerbPlain. -/
import Derived.Test.YtbfbmgkgaokecaaDoorPlP
namespace Go.Proofs.YtbfbmgkgaokecaaDoor.Vb
open Go.RowKit
theorem VerbPlain_walk (a0 : ByteArray) (_ : a0.size ≤ 140737488351232) (a1 : ByteArray) (_ : a1.size ≤ 140737488351232) (w : World) (hG : Glob w) :
    Calls Tryd.prog 12 #[.string a0, .string a1] w fun e w' => e = .returned (.bool true) ∧ Below w.heap.size w w' := by
  obtain ⟨k, hk⟩ := PR.VerbPlain_true a0 a1
  exact PR.intagliolaw17_VerbPlain.calls k a0 a1 true w hG hk
end Go.Proofs.YtbfbmgkgaokecaaDoor.Vb
