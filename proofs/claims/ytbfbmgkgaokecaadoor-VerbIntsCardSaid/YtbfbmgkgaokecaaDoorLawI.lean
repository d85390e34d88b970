/- The walk of the statement VerbInts. -/
import Derived.Test.YtbfbmgkgaokecaaDoorRInt2
import Derived.Test.YtbfbmgkgaokecaaDoorAwake
namespace Go.Proofs.YtbfbmgkgaokecaaDoor.Vb
open Go.RowKit

theorem intV_two (s : ByteArray) : ∃ (n : Int) (b : Bool), intV s = .tuple #[.int .i64 n, .bool b] := by
  unfold intV
  cases intS s with
  | some n => exact ⟨_, _, rfl⟩
  | none => exact ⟨_, _, rfl⟩

set_option maxHeartbeats 1600000 in
set_option maxRecDepth 20000 in
theorem VerbInts_walk (s : ByteArray) (hs : s.size ≤ 140737488351232) (w : World) (hG : Glob w) :
    Calls Tryd.prog 9 #[.string s] w fun e w' => e = .returned (.bool true) ∧ Below w.heap.size w w' := by
  by_cases hl : 200 < s.size
  · go_enter Tryd.func9, Tryd.ntmps9
    go_wp2_with fail
    refine (awake_calls _ hG).mono ?_
    rintro e w4 ⟨rfl, b4⟩
    go_wp2
    go_ret
    exact ⟨rfl, b4⟩
  · obtain ⟨n, b, hi⟩ := intV_two s
    have h1 := fun w hN => Int_calls s hs w hN
    have h2 := fun w => rInt_all s hs w
    rw [rIntV_eq] at h2
    rw [hi] at h1 h2
    have H1 := Lib.hid h1
    have H2 := Lib.hid h2
    clear h1 h2 hi
    go_enter Tryd.func9, Tryd.ntmps9
    go_wp2_with fail
    refine (H1.out _ hG.num).mono ?_
    rintro e w1 ⟨rfl, b1⟩
    have g1 := hG.grown b1
    go_wp2_with fail
    refine (H2.out _).mono ?_
    rintro e w2 ⟨rfl, b2⟩
    have g2 := g1.grown b2
    have b2' := Below.comp b1 b2
    go_wp2_with fail
    refine (awake_calls _ g2).mono ?_
    rintro e w4 ⟨rfl, b4⟩
    go_wp2
    go_ret
    exact ⟨rfl, Below.comp b2' b4⟩
end Go.Proofs.YtbfbmgkgaokecaaDoor.Vb
