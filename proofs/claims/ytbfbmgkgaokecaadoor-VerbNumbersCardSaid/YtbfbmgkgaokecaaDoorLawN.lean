/- The walk of the statement VerbNumbers. -/
import Derived.Test.YtbfbmgkgaokecaaDoorNum
import Derived.Test.YtbfbmgkgaokecaaDoorAwake
namespace Go.Proofs.YtbfbmgkgaokecaaDoor.Vb
open Go.RowKit

set_option maxHeartbeats 1600000 in
set_option maxRecDepth 20000 in
theorem VerbNumbers_walk (n : Int) (h0 : -9223372036854775808 ≤ n) (h1 : n ≤ 9223372036854775807) (w : World) (hG : Glob w) :
    Calls Tryd.prog 10 #[.int .i64 n] w fun e w' => e = .returned (.bool true) ∧ Below w.heap.size w w' := by
  have hi : intV (txt n) = .tuple #[.int .i64 n, .bool true] := by unfold intV; rw [intS_txt n h0 h1]
  have hsz := txt_size n h0 h1
  have H0 := Lib.hid h0
  have H1 := Lib.hid h1
  clear h0 h1
  have ht := fun w => Text_calls n H0.out H1.out w
  have hr := rText_calls (2 * n.natAbs + 1) n (by omega) H0.out H1.out
  have HT := Lib.hid ht
  have HR := Lib.hid hr
  clear ht hr
  generalize txt n = t at *
  go_enter Tryd.func10, Tryd.ntmps10
  go_wp2_with fail
  refine (HT.out _ hG.num).mono ?_
  rintro e w1 ⟨rfl, b1⟩
  have g1 := hG.grown b1
  go_wp2_with fail
  refine (Int_calls t (by omega) _ g1.num).mono ?_
  rintro e w2 ⟨rfl, b2⟩
  rw [hi]
  have g2 := g1.grown b2
  have b2' := Below.comp b1 b2
  clear hi
  go_wp2_with fail
  refine (HR.out _).mono ?_
  rintro e w3 ⟨rfl, b3⟩
  have g3 := g2.grown b3
  have b3' := Below.comp b2' b3
  go_wp2_with fail
  refine (awake_calls _ g3).mono ?_
  rintro e w4 ⟨rfl, b4⟩
  go_wp2
  go_ret
  exact ⟨rfl, Below.comp b3' b4⟩
end Go.Proofs.YtbfbmgkgaokecaaDoor.Vb
