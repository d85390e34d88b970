/- The walk of the statement VerbSpecs. -/
import Derived.Test.YtbfbmgkgaokecaaDoorPlS
import Derived.Test.YtbfbmgkgaokecaaDoorPRf8
namespace Go.Proofs.YtbfbmgkgaokecaaDoor.PR
open Go.RowKit Go.Proofs.YtbfbmgkgaokecaaDoorW.PrintWords Go.Proofs.YtbfbmgkgaokecaaDoorW.PrintLast Go.Proofs.YtbfbmgkgaokecaaDoorW.PrintMore
open Vb
theorem same_refl (a b c : Int) (n : ByteArray) (d e : Int) (x y z : Bool) : intagliolaw17_same.f a b c n d e x y z n d e x a b c y z = some true := by
  unfold intagliolaw17_same.f
  simp
theorem VerbSpecs_true (s : ByteArray) : ∃ k, intagliolaw17_VerbSpecs.f k s = some true := by
  unfold intagliolaw17_VerbSpecs.f
  by_cases h : (s.size : Int) > 200
  · exact ⟨0, by rw [if_pos h]; rfl⟩
  · obtain ⟨K1, h1⟩ := find_ev s (by omega)
    obtain ⟨K2, h2⟩ := upper_ev s (by omega)
    have h1 := h1 (max K1 K2) (by omega)
    have h2 := h2 (max K1 K2) (by omega)
    refine ⟨max K1 K2, ?_⟩
    have hF : verb_Find.f s = some (spT (findS s)) := by unfold verb_Find.f; rw [if_pos (by omega)]
    have hU : verb_Upper.f s = some (upS s) := by unfold verb_Upper.f; rw [if_pos (by omega)]
    simp only at h1 h2
    rw [if_neg h, hF, h1, hU, h2, findS_U]
    cases findU (upS s).toList with
    | none =>
      simp only [Option.map_none, spT, convU, noRT, Option.bind_some]
      rw [show (⟨#[]⟩ : ByteArray) = e0 from rfl, same_refl]
      simp [intagliolaw17_awake.f]
    | some p =>
      simp only [Option.map_some, spT, convU, Sp.named, Option.bind_some]
      rw [same_refl]
      simp [intagliolaw17_awake.f]
end Go.Proofs.YtbfbmgkgaokecaaDoor.PR
namespace Go.Proofs.YtbfbmgkgaokecaaDoor.Vb
open Go.RowKit
theorem VerbSpecs_walk (a0 : ByteArray) (_ : a0.size ≤ 140737488351232) (w : World) (hG : Glob w) :
    Calls Tryd.prog 8 #[.string a0] w fun e w' => e = .returned (.bool true) ∧ Below w.heap.size w w' := by
  obtain ⟨k, hk⟩ := PR.VerbSpecs_true a0
  exact PR.intagliolaw17_VerbSpecs.calls k a0 true w hG hk
end Go.Proofs.YtbfbmgkgaokecaaDoor.Vb
