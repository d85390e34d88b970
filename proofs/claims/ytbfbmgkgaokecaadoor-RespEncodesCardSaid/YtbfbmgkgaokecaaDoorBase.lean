/- What the package-level variables hold, and that it stays so where nothing old is written. -/
import Derived.Test.YtbfbmgkgaokecaaDoorProg
import Derived.WalkKit
import Derived.WalkSmall
import Derived.WalkSpells
import Derived.WalkLawsBesides
import Derived.KernelRfl
import Derived.Deep.Draws
import Derived.Lib.LaidTab
import Derived.Lib.ItoaNum
set_option linter.unusedVariables false
set_option linter.unusedSimpArgs false
namespace Go.Proofs.YtbfbmgkgaokecaaDoor.Vb
open Go.RowKit

theorem gOne : Tryd.prog.globalNamed "intaglio/verb.one" = some 0 := by kernel_rfl
theorem gAll : Tryd.prog.globalNamed "intaglio/verb.all" = some 1 := by kernel_rfl
theorem gTwo : Tryd.prog.globalNamed "intaglio/verb.two" = some 2 := by kernel_rfl
theorem gSyn : Tryd.prog.globalNamed "strconv.ErrSyntax" = some 3 := by kernel_rfl
theorem gRan : Tryd.prog.globalNamed "strconv.ErrRange" = some 4 := by kernel_rfl
theorem gTab : Tryd.prog.globalNamed "internal/strconv.uint64pow10" = some 6 := by kernel_rfl

/-- The numbers' variables of the library: the two errors, the table of powers. -/
structure Num (w : World) : Prop where
  syn : ∃ t p, w.var? Tryd.prog "strconv.ErrSyntax" = some #[.iface t p]
  ran : ∃ t p, w.var? Tryd.prog "strconv.ErrRange" = some #[.iface t p]
  tab : Lib.TabIs Tryd.prog w "internal/strconv.uint64pow10" .u64 Lib.pow10Tab
  size : 9 ≤ w.heap.size

/-- The places of package verb. -/
structure Plc (w : World) : Prop where
  one0 : w.cell? ⟨0, 0, none⟩ = some (.int .i64 1)
  one1 : w.cell? ⟨0, 1, none⟩ = some (.int .i64 1)
  one2 : w.cell? ⟨0, 2, none⟩ = some (.int .i64 1)
  all0 : w.cell? ⟨1, 0, none⟩ = some (.int .i64 1)
  all1 : w.cell? ⟨1, 1, none⟩ = some (.int .i64 (-1))
  all2 : w.cell? ⟨1, 2, none⟩ = some (.int .i64 1)
  two0 : w.cell? ⟨2, 0, none⟩ = some (.int .i64 1)
  two1 : w.cell? ⟨2, 1, none⟩ = some (.int .i64 2)
  two2 : w.cell? ⟨2, 2, none⟩ = some (.int .i64 1)
  size : 9 ≤ w.heap.size

theorem Num.below {w w' : World} (h : Num w) {B : Nat} (hB : 9 ≤ B) (b : Below B w w') : Num w' := by
  obtain ⟨⟨t, p, h1⟩, ⟨t2, p2, h2⟩, h3, h4⟩ := h
  exact ⟨⟨t, p, var?_below b gSyn (by omega) h1⟩, ⟨t2, p2, var?_below b gRan (by omega) h2⟩, var?_below b gTab (by omega) h3, Nat.le_trans h4 b.size⟩

theorem Num.grown {w w' : World} (h : Num w) (b : Below w.heap.size w w') : Num w' := h.below h.size b

theorem Plc.below {w w' : World} (h : Plc w) {B : Nat} (hB : 9 ≤ B) (b : Below B w w') : Plc w' := by
  obtain ⟨a0, a1, a2, b0, b1, b2, c0, c1, c2, hs⟩ := h
  refine ⟨?_, ?_, ?_, ?_, ?_, ?_, ?_, ?_, ?_, Nat.le_trans hs b.size⟩ <;> (rw [b.cell (by simp; omega)]; assumption)

theorem Plc.grown {w w' : World} (h : Plc w) (b : Below w.heap.size w w') : Plc w' := h.below h.size b

end Go.Proofs.YtbfbmgkgaokecaaDoor.Vb
