/- Layer 19: other inputs that came in: two small numbers in an array. -/
import Derived.Test.YtbfbmgkgaokecaaDoorFrameR
import Derived.OpenShut
set_option linter.unusedVariables false
set_option linter.unusedSimpArgs false
namespace Go.Proofs.YtbfbmgkgaokecaaDoor.PS
open Go.ChangeShapes Go.WideShapes Go.ChangeAt Go.RowKit

theorem okWide_arr {P : Program} {w : World} {r : Reach} {base : Nat} {t : TypeId} {v : Value} {n : Nat} {e : TypeId} (ht : P.underlying t = some (.array n e)) (h : Value.okWide P w r base t v) : ∃ cs, v = .agg cs ∧ cs.size = P.cellsOf t := by
  simp only [Value.okWide, ht] at h
  obtain ⟨cs, h1, h2, _⟩ := h
  exact ⟨cs, h1, h2⟩
theorem cells43 : Tryd.prog.cellsOf 43 = 2 := by kernel_rfl
theorem cells42 : Tryd.prog.cellsOf 42 = 1 := by kernel_rfl
theorem u16_wf {n : Int} (h : (Lit.int .u16 n).wf = true) : 0 ≤ n ∧ n ≤ 65535 := by
  rw [Lit.wf, Bool.and_eq_true, decide_eq_true_eq, decide_eq_true_eq] at h
  exact h
set_option maxRecDepth 100000 in
theorem cut_in {H : Type} {enc : TypeId × Value → H} {W : World} {base b0 fuel : Nat} {spare : Nat → Bool} {held : Bool} {v : Value} {x : DataW H × List MemPlace} (hv : Value.okWide Tryd.prog W .any b0 43 v) (hf : DataW.trod enc Tryd.prog W base spare held fuel 43 v.cells.toList = some x) :
    ∃ x y : Int, v = .agg #[.int .u16 x, .int .u16 y] ∧ (0 ≤ x ∧ x ≤ 65535) ∧ (0 ≤ y ∧ y ≤ 65535) := by
  obtain ⟨cs, rfl, hs⟩ := okWide_arr Tryd.underlying43 hv
  rw [cells43] at hs
  obtain ⟨l⟩ := cs
  match l, hs with
  | [c0, c1], _ =>
    obtain ⟨xs, m, _, _, _, hl, he⟩ := DataW.trod_array Tryd.underlying43 hf
    have h0 := he 0 (by decide)
    have h1 := he 1 (by decide)
    rw [cells42] at h0 h1
    match xs, hl with
    | [y0, y1], _ =>
      obtain ⟨n0, e0, _, w0⟩ := DataW.trod_int Tryd.underlying42 (h0 : DataW.trod enc Tryd.prog W base spare held m 42 [c0] = some y0)
      obtain ⟨n1, e1, _, w1⟩ := DataW.trod_int Tryd.underlying42 (h1 : DataW.trod enc Tryd.prog W base spare held m 42 [c1] = some y1)
      obtain rfl : c0 = _ := List.head_eq_of_cons_eq e0
      obtain rfl : c1 = _ := List.head_eq_of_cons_eq e1
      exact ⟨n0, n1, rfl, u16_wf w0, u16_wf w1⟩
end Go.Proofs.YtbfbmgkgaokecaaDoor.PS
