/- Layer 19: what comes back is a cut of what came in. -/
import Derived.Test.YtbfbmgkgaokecaaDoorPS0
set_option linter.unusedVariables false
set_option linter.unusedSimpArgs false
namespace Go.Proofs.YtbfbmgkgaokecaaDoor.PS
open Go.RowKit Go.Proofs.YtbfbmgkgaokecaaDoorW.PrintWords Go.Proofs.YtbfbmgkgaokecaaDoorW.PrintLast Go.Proofs.YtbfbmgkgaokecaaDoorW.PrintMore

/-- v (its bytes: xs) is a cut of rt (rl), or nothing: where rt is a row of one's own, v is one. -/
def CutOf (rt : Value) (rl : List Int) (v : Value) (xs : List Int) : Prop := ∀ (W : World) (base : Nat) (ok : Nat → Prop), Kd.Q (Kd.int .u8) 5 W base ok rt rl → Kd.Q (Kd.int .u8) 5 W base ok v xs
theorem CutOf.refl (rt : Value) (rl : List Int) : CutOf rt rl rt rl := fun _ _ _ h => h
theorem CutOf.nil (rt : Value) (rl : List Int) : CutOf rt rl (.slice none 0 0) [] := fun _ _ _ _ => Kd.Q_nil _ _ _ _ _
theorem CutOf.drop {rt : Value} {rl : List Int} {A A1 : Option Addr} {n c c1 m : Nat} {xs ys : List Int} (h : CutOf rt rl (.slice A n c) xs) (hm : m ≤ xs.length) (hA : A1 = if c = m then A else A.map (·.add (m * 1))) (hc : c1 = c - m) (hy : ys = xs.drop m) :
    CutOf rt rl (.slice A1 ys.length c1) ys := fun W base ok hq => by
  have h1 := h W base ok hq
  have hn := (Kd.Q_reads' h1).1
  have h2 := Kd.Q_drop (k := m) h1 hm
  subst hA; subst hc; subst hy; subst hn
  rw [List.length_drop]
  exact h2

end Go.Proofs.YtbfbmgkgaokecaaDoor.PS
