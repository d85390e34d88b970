/- A pattern's parts: verb.just, verb.class, verb.bracket, verb.parts. -/
import Derived.Test.YtbfbmgkgaokecaaDoorBase
import Derived.Test.YtbfbmgkgaokecaaDoorBig
import Derived.Test.YtbfbmgkgaokecaaDoorShelf
import Derived.Deep.QuietTactic
import Derived.BigQuiet
import Derived.Lib.Hide
import Derived.OwnWalk
import Derived.Deep.DeepCutAuto
import Derived.Deep.CutBlock
set_option linter.unusedVariables false
set_option linter.unusedSimpArgs false
namespace Go.Proofs.YtbfbmgkgaokecaaDoor.Vb
open Go.RowKit

/-- A part's cells: its kind, and which bytes it is. -/
def partL (k : Int) (f : List Bool) : List Value := .int .i64 k :: f.map .bool
def partC (k : Int) (f : List Bool) : Array Value := (partL k f).toArray
def f0 : List Bool := List.replicate 256 false

theorem partC_size (k : Int) {f : List Bool} (h : f.length = 256) : (partC k f).size = 257 := by simp [partC, partL, h]
theorem partC_one (k : Int) (f : List Bool) : ∀ v ∈ (partC k f).toList, v.oneCell' = true := by
  intro v hv
  simp only [partC, partL, List.mem_cons, List.mem_map] at hv
  rcases hv with rfl | ⟨b, _, rfl⟩ <;> rfl
theorem partC_kind (k : Int) (f : List Bool) : (partC k f)[0]? = some (.int .i64 k) := by simp [partC, partL]
theorem partC_at (k : Int) {f : List Bool} (j : Nat) (h : j < f.length) : (partC k f)[1 + j]? = some (.bool f[j]) := by
  have : 1 + j = j + 1 := by omega
  simp [partC, partL, this, h]
theorem partC_set (k : Int) (f : List Bool) (j : Nat) (b : Bool) : (partC k f).setIfInBounds (1 + j) (.bool b) = partC k (f.set j b) := by
  have : 1 + j = j + 1 := by omega
  simp [partC, partL, this, List.map_set]

theorem zero107 (w : World) : (zeroValue 107).run Tryd.prog w = .ok (.agg (partC 0 f0)) w := by kernel_rfl
theorem build107 (k : Int) (w : World) : (Instr.build 107 #[(0, .int .i64 k)]).run Tryd.prog w = .ok (.agg (partC k f0)) w := by kernel_rfl
theorem size107 : (Tryd.prog.info? 107).map (·.size) = some 257 := by kernel_rfl

theorem alloc107 (w : World) : (Instr.alloc 107 true (.tuple #[])).run Tryd.prog w = .ok (.pointer (some ⟨w.heap.size, 0, none⟩)) (w.alloc (.cells (partC 0 f0) 107)) :=
  run_alloc_big 107 _ w (zero107 w)

/-- The part that is one byte. -/
def justF (c : Nat) : List Bool := f0.set c true

theorem f0_length : f0.length = 256 := List.length_replicate
theorem f0_at (j : Nat) (h : j < f0.length) : f0[j] = false := List.getElem_replicate ..
theorem justF_length (c : Nat) : (justF c).length = 256 := (List.length_set ..).trans f0_length

/-- A part is stored whole into a variable of its own. -/
theorem store107 (k k' : Int) (f f' : List Bool) (hf : f.length = 256) (hf' : f'.length = 256) (g : Nat) (w : World) (h : ERow w g 107 (partC k f)) :
    (Instr.storeAt 107 (.pointer (some ⟨g, 0, none⟩)) (.agg (partC k' f'))).run Tryd.prog w = .ok () (w.setRow g (partC k' f')) :=
  run_store_big 107 g _ _ 107 w h (by rw [size107, partC_size _ hf']) (by rw [partC_size _ hf, partC_size _ hf']) (partC_one _ _)
theorem load107 (k : Int) (f : List Bool) (hf : f.length = 256) (g : Nat) (w : World) (h : ERow w g 107 (partC k f)) :
    (loadVar 107 ⟨g, 0, none⟩).run Tryd.prog w = .ok (.agg (partC k f)) w :=
  run_loadVar_row w g 107 107 _ (0, 0) _ h Tryd.underlying107 rfl (by rw [size107, partC_size _ hf])

theorem cells107 (k k' : Int) (f f' : List Bool) (hf : f.length = 256) (hf' : f'.length = 256) (g : Nat) (w : World) (h : ERow w g 107 (partC k f)) :
    (storeCells ⟨g, 0, none⟩ (partC k' f').toList).run Tryd.prog w = .ok () (w.setRow g (partC k' f')) :=
  run_store_cells g _ _ 107 w h (by rw [partC_size _ hf, partC_size _ hf']) (partC_one _ _)
theorem z107 : Tryd.zeroCells107 = partC 0 f0 := by kernel_rfl
theorem partC_set0 (k k' : Int) (f : List Bool) : (partC k f).setIfInBounds 0 (.int .i64 k') = partC k' f := by simp [partC, partL]
theorem z107_put (k : Int) : Tryd.zeroCells107.setIfInBounds 0 (.int .i64 k) = partC k f0 := by rw [z107, partC_set0]
theorem z107_set (k : Int) : Tryd.zeroCells107.toList.set 0 (.int .i64 k) = (partC k f0).toList := by rw [z107]; rfl

/-- The result of a function that tells one part. -/
theorem ret_part {fn : Func} {p : Tmp} (h : fn.results = #[.cell p 107]) {a : Act} {w : World} {g : Nat} {k : Int} {f : List Bool} {R : Ending → World → Prop} (hd : a.defers = [])
    (hp : a.tmps.getD p undef = .pointer (some ⟨g, 0, none⟩)) (hf : f.length = 256) (hr : ERow w g 107 (partC k f)) (hR : R (.returned (.agg (partC k f))) w) : bodyPost Tryd.prog fn R .ret a w :=
  bodyPost_ret (results_cell_row h a.tmps w g 107 _ (0, 0) _ hp hr Tryd.underlying107 rfl (by rw [size107, partC_size _ hf])) hd hR

/-- Two variables for parts are laid, the second one is given a kind. -/
theorem two107 (w : World) (k : Int) : ∃ w1, (storeCells ⟨w.heap.size + 1, 0, none⟩ (Tryd.zeroCells107.toList.set 0 (.int .i64 k))).run Tryd.prog ((w.alloc (.cells Tryd.zeroCells107 107)).alloc (.cells Tryd.zeroCells107 107)) = .ok () w1 ∧
    ERow w1 (w.heap.size + 1) 107 (partC k f0) ∧ ERow w1 w.heap.size 107 (partC 0 f0) ∧ Below w.heap.size w w1 ∧ w1.heap.size = w.heap.size + 2 := by
  have e1 : ERow ((w.alloc (.cells Tryd.zeroCells107 107)).alloc (.cells Tryd.zeroCells107 107)) (w.heap.size + 1) 107 (partC 0 f0) := by
    have := ERow.new (w.alloc (.cells Tryd.zeroCells107 107)) Tryd.zeroCells107 107
    rw [alloc_size, z107] at this
    rw [z107]; exact this
  have e0 : ERow ((w.alloc (.cells Tryd.zeroCells107 107)).alloc (.cells Tryd.zeroCells107 107)) w.heap.size 107 (partC 0 f0) := by
    have := (ERow.new w Tryd.zeroCells107 107).alloc (.cells Tryd.zeroCells107 107)
    rw [z107] at this
    rw [z107]; exact this
  have hst := cells107 0 k f0 f0 f0_length f0_length _ _ e1
  rw [← z107_set] at hst
  refine ⟨_, hst, e1.setRow _, e0.setRow_far (by omega) _, below_setRow (((Below.refl _ _).alloc (Nat.le_refl _) _).alloc (by rw [alloc_size]; omega) _) (by omega) _, ?_⟩
  rw [setRow_size, alloc_size, alloc_size]

/-- A part is told: loaded whole, stored whole into the result's variable. -/
theorem tell107 (w : World) (B g r : Nat) (k : Int) (f : List Bool) (k0 : Int) (hf : f.length = 256) (hr : ERow w r 107 (partC k0 f0)) (b : B ≤ r) {w0 : World} (hb : Below B w0 w) :
    ∃ w1, (storeCells ⟨r, 0, none⟩ (partC k f).toList).run Tryd.prog w = .ok () w1 ∧ ERow w1 r 107 (partC k f) ∧ Below B w0 w1 := by
  have hst := cells107 k0 k f0 f f0_length hf _ _ hr
  exact ⟨_, hst, hr.setRow _, below_setRow hb b _⟩

set_option maxRecDepth 20000 in
set_option maxHeartbeats 400000 in
theorem just_calls (c : Nat) (hc : c ≤ 255) (w : World) :
    Calls Tryd.prog 77 #[.int .u8 (c : Int)] w fun e w' => e = .returned (.agg (partC 2 (justF c))) ∧ Below w.heap.size w w' := by
  obtain ⟨w1, hst, e1, e0, hb, hz⟩ := two107 w 2
  have hat := (e1.cell (1 + c)).trans (partC_at 2 c (by rw [f0_length]; omega))
  rw [f0_at] at hat
  have hfr := e1.frozen (1 + c)
  have e2 := e1.set (1 + c) (.bool true)
  have e3 := e0.far (p := ⟨w.heap.size + 1, 1 + c, none⟩) (by simp) (.bool true)
  have hb2 := hb.setCell (p := ⟨w.heap.size + 1, 1 + c, none⟩) (by simp) (.bool true)
  rw [partC_set] at e2
  obtain ⟨w3, hst2, e4, hb3⟩ := tell107 _ w.heap.size (w.heap.size + 1) w.heap.size 2 (justF c) 0 (justF_length c) e3 (Nat.le_refl _) hb2
  have hsz : (Tryd.prog.info? 107).map (·.size) = some (partC 2 (justF c)).size := by rw [size107, partC_size _ (justF_length c)]
  have hsz2 := partC_size 2 (justF_length c)
  have E2 := Lib.hid e2
  have HZ := Lib.hid hsz
  have H4 := Lib.hid e4
  clear e2 e3 e1 e0 hb hz hsz e4
  go_enter Tryd.func77, Tryd.ntmps77
  go_upto_region 3 with (fail)
  go_wp2_with (refine wpList_load_row rfl 107 (.tmp 3) rfl (w.heap.size + 1) rfl 107 (partC 2 (justF c)) (0, 0) _ E2.out Tryd.underlying107 rfl HZ.out ?_)
  exact ret_part (g := w.heap.size) (k := 2) (f := justF c) rfl rfl rfl (justF_length c) H4.out ⟨rfl, hb3⟩
end Go.Proofs.YtbfbmgkgaokecaaDoor.Vb
