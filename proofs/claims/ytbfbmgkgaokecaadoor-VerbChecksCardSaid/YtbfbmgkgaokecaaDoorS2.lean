/- verb.middle: what it tells of each name, and of others. Written by gen_specs.py. -/
import Derived.Test.YtbfbmgkgaokecaaDoorTbl
import Derived.Deep.QuietTactic
import Derived.BigQuiet
import Derived.Lib.Hide
import Derived.OwnWalk
namespace Go.Proofs.YtbfbmgkgaokecaaDoor.Vb
open Go.RowKit
set_option linter.unusedSimpArgs false
set_option linter.unusedVariables false

set_option maxHeartbeats 4000000 in
set_option maxRecDepth 100000 in
theorem middle_at0 (w : World) (hP : Plc w) :
    Calls Tryd.prog 57 #[.string ⟨#[87, 65, 84, 67, 72]⟩] w fun e w' => e = .returned (spV (some ⟨1, (-1), 1, e0, 2, 40, false, false, false⟩)) ∧ Below w.heap.size w w' := by
  have hn : ∀ k o (O : Obj), k < 9 → (w.alloc O).cell? ⟨k, o, none⟩ = w.cell? ⟨k, o, none⟩ := fun k o O hk => World.cell?_alloc_old _ _ _ (by have := hP.size; simp; omega)
  have a0 : ∀ O : Obj, (w.alloc O).cell? ⟨0, 0, none⟩ = some (.int .i64 1) := fun O => (hn 0 0 O (by omega)).trans hP.one0
  have a1 : ∀ O : Obj, (w.alloc O).cell? ⟨0, 1, none⟩ = some (.int .i64 1) := fun O => (hn 0 1 O (by omega)).trans hP.one1
  have a2 : ∀ O : Obj, (w.alloc O).cell? ⟨0, 2, none⟩ = some (.int .i64 1) := fun O => (hn 0 2 O (by omega)).trans hP.one2
  have b0 : ∀ O : Obj, (w.alloc O).cell? ⟨1, 0, none⟩ = some (.int .i64 1) := fun O => (hn 1 0 O (by omega)).trans hP.all0
  have b1 : ∀ O : Obj, (w.alloc O).cell? ⟨1, 1, none⟩ = some (.int .i64 (-1)) := fun O => (hn 1 1 O (by omega)).trans hP.all1
  have b2 : ∀ O : Obj, (w.alloc O).cell? ⟨1, 2, none⟩ = some (.int .i64 1) := fun O => (hn 1 2 O (by omega)).trans hP.all2
  have c0 : ∀ O : Obj, (w.alloc O).cell? ⟨2, 0, none⟩ = some (.int .i64 1) := fun O => (hn 2 0 O (by omega)).trans hP.two0
  have c1 : ∀ O : Obj, (w.alloc O).cell? ⟨2, 1, none⟩ = some (.int .i64 2) := fun O => (hn 2 1 O (by omega)).trans hP.two1
  have c2 : ∀ O : Obj, (w.alloc O).cell? ⟨2, 2, none⟩ = some (.int .i64 1) := fun O => (hn 2 2 O (by omega)).trans hP.two2
  clear hn hP
  go_enter Tryd.func57, Tryd.ntmps57
  go_wp2
  refine bodyPost_ret (v := spV (some ⟨1, (-1), 1, e0, 2, 40, false, false, false⟩)) ?_ rfl ⟨rfl, ?_⟩
  · simp [spV, Sp.val, Sp.zero, e0, results, Tryd.results57, go_sem]
  · exact ((Below.refl _ _).alloc (Nat.le_refl _) _)

set_option maxHeartbeats 4000000 in
set_option maxRecDepth 100000 in
theorem middle_at1 (w : World) (hP : Plc w) :
    Calls Tryd.prog 57 #[.string ⟨#[69, 88, 73, 83, 84, 83]⟩] w fun e w' => e = .returned (spV (some ⟨1, (-1), 1, e0, 2, 40, false, false, false⟩)) ∧ Below w.heap.size w w' := by
  have hn : ∀ k o (O : Obj), k < 9 → (w.alloc O).cell? ⟨k, o, none⟩ = w.cell? ⟨k, o, none⟩ := fun k o O hk => World.cell?_alloc_old _ _ _ (by have := hP.size; simp; omega)
  have a0 : ∀ O : Obj, (w.alloc O).cell? ⟨0, 0, none⟩ = some (.int .i64 1) := fun O => (hn 0 0 O (by omega)).trans hP.one0
  have a1 : ∀ O : Obj, (w.alloc O).cell? ⟨0, 1, none⟩ = some (.int .i64 1) := fun O => (hn 0 1 O (by omega)).trans hP.one1
  have a2 : ∀ O : Obj, (w.alloc O).cell? ⟨0, 2, none⟩ = some (.int .i64 1) := fun O => (hn 0 2 O (by omega)).trans hP.one2
  have b0 : ∀ O : Obj, (w.alloc O).cell? ⟨1, 0, none⟩ = some (.int .i64 1) := fun O => (hn 1 0 O (by omega)).trans hP.all0
  have b1 : ∀ O : Obj, (w.alloc O).cell? ⟨1, 1, none⟩ = some (.int .i64 (-1)) := fun O => (hn 1 1 O (by omega)).trans hP.all1
  have b2 : ∀ O : Obj, (w.alloc O).cell? ⟨1, 2, none⟩ = some (.int .i64 1) := fun O => (hn 1 2 O (by omega)).trans hP.all2
  have c0 : ∀ O : Obj, (w.alloc O).cell? ⟨2, 0, none⟩ = some (.int .i64 1) := fun O => (hn 2 0 O (by omega)).trans hP.two0
  have c1 : ∀ O : Obj, (w.alloc O).cell? ⟨2, 1, none⟩ = some (.int .i64 2) := fun O => (hn 2 1 O (by omega)).trans hP.two1
  have c2 : ∀ O : Obj, (w.alloc O).cell? ⟨2, 2, none⟩ = some (.int .i64 1) := fun O => (hn 2 2 O (by omega)).trans hP.two2
  clear hn hP
  go_enter Tryd.func57, Tryd.ntmps57
  go_wp2
  refine bodyPost_ret (v := spV (some ⟨1, (-1), 1, e0, 2, 40, false, false, false⟩)) ?_ rfl ⟨rfl, ?_⟩
  · simp [spV, Sp.val, Sp.zero, e0, results, Tryd.results57, go_sem]
  · exact ((Below.refl _ _).alloc (Nat.le_refl _) _)

set_option maxHeartbeats 4000000 in
set_option maxRecDepth 100000 in
theorem middle_at2 (w : World) (hP : Plc w) :
    Calls Tryd.prog 57 #[.string ⟨#[77, 71, 69, 84]⟩] w fun e w' => e = .returned (spV (some ⟨1, (-1), 1, e0, 2, 40, false, false, false⟩)) ∧ Below w.heap.size w w' := by
  have hn : ∀ k o (O : Obj), k < 9 → (w.alloc O).cell? ⟨k, o, none⟩ = w.cell? ⟨k, o, none⟩ := fun k o O hk => World.cell?_alloc_old _ _ _ (by have := hP.size; simp; omega)
  have a0 : ∀ O : Obj, (w.alloc O).cell? ⟨0, 0, none⟩ = some (.int .i64 1) := fun O => (hn 0 0 O (by omega)).trans hP.one0
  have a1 : ∀ O : Obj, (w.alloc O).cell? ⟨0, 1, none⟩ = some (.int .i64 1) := fun O => (hn 0 1 O (by omega)).trans hP.one1
  have a2 : ∀ O : Obj, (w.alloc O).cell? ⟨0, 2, none⟩ = some (.int .i64 1) := fun O => (hn 0 2 O (by omega)).trans hP.one2
  have b0 : ∀ O : Obj, (w.alloc O).cell? ⟨1, 0, none⟩ = some (.int .i64 1) := fun O => (hn 1 0 O (by omega)).trans hP.all0
  have b1 : ∀ O : Obj, (w.alloc O).cell? ⟨1, 1, none⟩ = some (.int .i64 (-1)) := fun O => (hn 1 1 O (by omega)).trans hP.all1
  have b2 : ∀ O : Obj, (w.alloc O).cell? ⟨1, 2, none⟩ = some (.int .i64 1) := fun O => (hn 1 2 O (by omega)).trans hP.all2
  have c0 : ∀ O : Obj, (w.alloc O).cell? ⟨2, 0, none⟩ = some (.int .i64 1) := fun O => (hn 2 0 O (by omega)).trans hP.two0
  have c1 : ∀ O : Obj, (w.alloc O).cell? ⟨2, 1, none⟩ = some (.int .i64 2) := fun O => (hn 2 1 O (by omega)).trans hP.two1
  have c2 : ∀ O : Obj, (w.alloc O).cell? ⟨2, 2, none⟩ = some (.int .i64 1) := fun O => (hn 2 2 O (by omega)).trans hP.two2
  clear hn hP
  go_enter Tryd.func57, Tryd.ntmps57
  go_wp2
  refine bodyPost_ret (v := spV (some ⟨1, (-1), 1, e0, 2, 40, false, false, false⟩)) ?_ rfl ⟨rfl, ?_⟩
  · simp [spV, Sp.val, Sp.zero, e0, results, Tryd.results57, go_sem]
  · exact ((Below.refl _ _).alloc (Nat.le_refl _) _)

set_option maxHeartbeats 4000000 in
set_option maxRecDepth 100000 in
theorem middle_at3 (w : World) (hP : Plc w) :
    Calls Tryd.prog 57 #[.string ⟨#[83, 73, 78, 84, 69, 82]⟩] w fun e w' => e = .returned (spV (some ⟨1, (-1), 1, e0, 2, 40, false, false, false⟩)) ∧ Below w.heap.size w w' := by
  have hn : ∀ k o (O : Obj), k < 9 → (w.alloc O).cell? ⟨k, o, none⟩ = w.cell? ⟨k, o, none⟩ := fun k o O hk => World.cell?_alloc_old _ _ _ (by have := hP.size; simp; omega)
  have a0 : ∀ O : Obj, (w.alloc O).cell? ⟨0, 0, none⟩ = some (.int .i64 1) := fun O => (hn 0 0 O (by omega)).trans hP.one0
  have a1 : ∀ O : Obj, (w.alloc O).cell? ⟨0, 1, none⟩ = some (.int .i64 1) := fun O => (hn 0 1 O (by omega)).trans hP.one1
  have a2 : ∀ O : Obj, (w.alloc O).cell? ⟨0, 2, none⟩ = some (.int .i64 1) := fun O => (hn 0 2 O (by omega)).trans hP.one2
  have b0 : ∀ O : Obj, (w.alloc O).cell? ⟨1, 0, none⟩ = some (.int .i64 1) := fun O => (hn 1 0 O (by omega)).trans hP.all0
  have b1 : ∀ O : Obj, (w.alloc O).cell? ⟨1, 1, none⟩ = some (.int .i64 (-1)) := fun O => (hn 1 1 O (by omega)).trans hP.all1
  have b2 : ∀ O : Obj, (w.alloc O).cell? ⟨1, 2, none⟩ = some (.int .i64 1) := fun O => (hn 1 2 O (by omega)).trans hP.all2
  have c0 : ∀ O : Obj, (w.alloc O).cell? ⟨2, 0, none⟩ = some (.int .i64 1) := fun O => (hn 2 0 O (by omega)).trans hP.two0
  have c1 : ∀ O : Obj, (w.alloc O).cell? ⟨2, 1, none⟩ = some (.int .i64 2) := fun O => (hn 2 1 O (by omega)).trans hP.two1
  have c2 : ∀ O : Obj, (w.alloc O).cell? ⟨2, 2, none⟩ = some (.int .i64 1) := fun O => (hn 2 2 O (by omega)).trans hP.two2
  clear hn hP
  go_enter Tryd.func57, Tryd.ntmps57
  go_wp2
  refine bodyPost_ret (v := spV (some ⟨1, (-1), 1, e0, 2, 40, false, false, false⟩)) ?_ rfl ⟨rfl, ?_⟩
  · simp [spV, Sp.val, Sp.zero, e0, results, Tryd.results57, go_sem]
  · exact ((Below.refl _ _).alloc (Nat.le_refl _) _)

set_option maxHeartbeats 4000000 in
set_option maxRecDepth 100000 in
theorem middle_at4 (w : World) (hP : Plc w) :
    Calls Tryd.prog 57 #[.string ⟨#[83, 85, 78, 73, 79, 78]⟩] w fun e w' => e = .returned (spV (some ⟨1, (-1), 1, e0, 2, 40, false, false, false⟩)) ∧ Below w.heap.size w w' := by
  have hn : ∀ k o (O : Obj), k < 9 → (w.alloc O).cell? ⟨k, o, none⟩ = w.cell? ⟨k, o, none⟩ := fun k o O hk => World.cell?_alloc_old _ _ _ (by have := hP.size; simp; omega)
  have a0 : ∀ O : Obj, (w.alloc O).cell? ⟨0, 0, none⟩ = some (.int .i64 1) := fun O => (hn 0 0 O (by omega)).trans hP.one0
  have a1 : ∀ O : Obj, (w.alloc O).cell? ⟨0, 1, none⟩ = some (.int .i64 1) := fun O => (hn 0 1 O (by omega)).trans hP.one1
  have a2 : ∀ O : Obj, (w.alloc O).cell? ⟨0, 2, none⟩ = some (.int .i64 1) := fun O => (hn 0 2 O (by omega)).trans hP.one2
  have b0 : ∀ O : Obj, (w.alloc O).cell? ⟨1, 0, none⟩ = some (.int .i64 1) := fun O => (hn 1 0 O (by omega)).trans hP.all0
  have b1 : ∀ O : Obj, (w.alloc O).cell? ⟨1, 1, none⟩ = some (.int .i64 (-1)) := fun O => (hn 1 1 O (by omega)).trans hP.all1
  have b2 : ∀ O : Obj, (w.alloc O).cell? ⟨1, 2, none⟩ = some (.int .i64 1) := fun O => (hn 1 2 O (by omega)).trans hP.all2
  have c0 : ∀ O : Obj, (w.alloc O).cell? ⟨2, 0, none⟩ = some (.int .i64 1) := fun O => (hn 2 0 O (by omega)).trans hP.two0
  have c1 : ∀ O : Obj, (w.alloc O).cell? ⟨2, 1, none⟩ = some (.int .i64 2) := fun O => (hn 2 1 O (by omega)).trans hP.two1
  have c2 : ∀ O : Obj, (w.alloc O).cell? ⟨2, 2, none⟩ = some (.int .i64 1) := fun O => (hn 2 2 O (by omega)).trans hP.two2
  clear hn hP
  go_enter Tryd.func57, Tryd.ntmps57
  go_wp2
  refine bodyPost_ret (v := spV (some ⟨1, (-1), 1, e0, 2, 40, false, false, false⟩)) ?_ rfl ⟨rfl, ?_⟩
  · simp [spV, Sp.val, Sp.zero, e0, results, Tryd.results57, go_sem]
  · exact ((Below.refl _ _).alloc (Nat.le_refl _) _)

set_option maxHeartbeats 4000000 in
set_option maxRecDepth 100000 in
theorem middle_at5 (w : World) (hP : Plc w) :
    Calls Tryd.prog 57 #[.string ⟨#[83, 68, 73, 70, 70]⟩] w fun e w' => e = .returned (spV (some ⟨1, (-1), 1, e0, 2, 40, false, false, false⟩)) ∧ Below w.heap.size w w' := by
  have hn : ∀ k o (O : Obj), k < 9 → (w.alloc O).cell? ⟨k, o, none⟩ = w.cell? ⟨k, o, none⟩ := fun k o O hk => World.cell?_alloc_old _ _ _ (by have := hP.size; simp; omega)
  have a0 : ∀ O : Obj, (w.alloc O).cell? ⟨0, 0, none⟩ = some (.int .i64 1) := fun O => (hn 0 0 O (by omega)).trans hP.one0
  have a1 : ∀ O : Obj, (w.alloc O).cell? ⟨0, 1, none⟩ = some (.int .i64 1) := fun O => (hn 0 1 O (by omega)).trans hP.one1
  have a2 : ∀ O : Obj, (w.alloc O).cell? ⟨0, 2, none⟩ = some (.int .i64 1) := fun O => (hn 0 2 O (by omega)).trans hP.one2
  have b0 : ∀ O : Obj, (w.alloc O).cell? ⟨1, 0, none⟩ = some (.int .i64 1) := fun O => (hn 1 0 O (by omega)).trans hP.all0
  have b1 : ∀ O : Obj, (w.alloc O).cell? ⟨1, 1, none⟩ = some (.int .i64 (-1)) := fun O => (hn 1 1 O (by omega)).trans hP.all1
  have b2 : ∀ O : Obj, (w.alloc O).cell? ⟨1, 2, none⟩ = some (.int .i64 1) := fun O => (hn 1 2 O (by omega)).trans hP.all2
  have c0 : ∀ O : Obj, (w.alloc O).cell? ⟨2, 0, none⟩ = some (.int .i64 1) := fun O => (hn 2 0 O (by omega)).trans hP.two0
  have c1 : ∀ O : Obj, (w.alloc O).cell? ⟨2, 1, none⟩ = some (.int .i64 2) := fun O => (hn 2 1 O (by omega)).trans hP.two1
  have c2 : ∀ O : Obj, (w.alloc O).cell? ⟨2, 2, none⟩ = some (.int .i64 1) := fun O => (hn 2 2 O (by omega)).trans hP.two2
  clear hn hP
  go_enter Tryd.func57, Tryd.ntmps57
  go_wp2
  refine bodyPost_ret (v := spV (some ⟨1, (-1), 1, e0, 2, 40, false, false, false⟩)) ?_ rfl ⟨rfl, ?_⟩
  · simp [spV, Sp.val, Sp.zero, e0, results, Tryd.results57, go_sem]
  · exact ((Below.refl _ _).alloc (Nat.le_refl _) _)

set_option maxHeartbeats 4000000 in
set_option maxRecDepth 100000 in
theorem middle_at6 (w : World) (hP : Plc w) :
    Calls Tryd.prog 57 #[.string ⟨#[68, 69, 76]⟩] w fun e w' => e = .returned (spV (some ⟨1, (-1), 1, e0, 2, 40, true, false, false⟩)) ∧ Below w.heap.size w w' := by
  have hn : ∀ k o (O : Obj), k < 9 → (w.alloc O).cell? ⟨k, o, none⟩ = w.cell? ⟨k, o, none⟩ := fun k o O hk => World.cell?_alloc_old _ _ _ (by have := hP.size; simp; omega)
  have a0 : ∀ O : Obj, (w.alloc O).cell? ⟨0, 0, none⟩ = some (.int .i64 1) := fun O => (hn 0 0 O (by omega)).trans hP.one0
  have a1 : ∀ O : Obj, (w.alloc O).cell? ⟨0, 1, none⟩ = some (.int .i64 1) := fun O => (hn 0 1 O (by omega)).trans hP.one1
  have a2 : ∀ O : Obj, (w.alloc O).cell? ⟨0, 2, none⟩ = some (.int .i64 1) := fun O => (hn 0 2 O (by omega)).trans hP.one2
  have b0 : ∀ O : Obj, (w.alloc O).cell? ⟨1, 0, none⟩ = some (.int .i64 1) := fun O => (hn 1 0 O (by omega)).trans hP.all0
  have b1 : ∀ O : Obj, (w.alloc O).cell? ⟨1, 1, none⟩ = some (.int .i64 (-1)) := fun O => (hn 1 1 O (by omega)).trans hP.all1
  have b2 : ∀ O : Obj, (w.alloc O).cell? ⟨1, 2, none⟩ = some (.int .i64 1) := fun O => (hn 1 2 O (by omega)).trans hP.all2
  have c0 : ∀ O : Obj, (w.alloc O).cell? ⟨2, 0, none⟩ = some (.int .i64 1) := fun O => (hn 2 0 O (by omega)).trans hP.two0
  have c1 : ∀ O : Obj, (w.alloc O).cell? ⟨2, 1, none⟩ = some (.int .i64 2) := fun O => (hn 2 1 O (by omega)).trans hP.two1
  have c2 : ∀ O : Obj, (w.alloc O).cell? ⟨2, 2, none⟩ = some (.int .i64 1) := fun O => (hn 2 2 O (by omega)).trans hP.two2
  clear hn hP
  go_enter Tryd.func57, Tryd.ntmps57
  go_wp2
  refine bodyPost_ret (v := spV (some ⟨1, (-1), 1, e0, 2, 40, true, false, false⟩)) ?_ rfl ⟨rfl, ?_⟩
  · simp [spV, Sp.val, Sp.zero, e0, results, Tryd.results57, go_sem]
  · exact ((Below.refl _ _).alloc (Nat.le_refl _) _)

set_option maxHeartbeats 4000000 in
set_option maxRecDepth 100000 in
theorem middle_at7 (w : World) (hP : Plc w) :
    Calls Tryd.prog 57 #[.string ⟨#[83, 69, 84]⟩] w fun e w' => e = .returned (spV (some ⟨1, 1, 1, e0, 3, 7, true, false, false⟩)) ∧ Below w.heap.size w w' := by
  have hn : ∀ k o (O : Obj), k < 9 → (w.alloc O).cell? ⟨k, o, none⟩ = w.cell? ⟨k, o, none⟩ := fun k o O hk => World.cell?_alloc_old _ _ _ (by have := hP.size; simp; omega)
  have a0 : ∀ O : Obj, (w.alloc O).cell? ⟨0, 0, none⟩ = some (.int .i64 1) := fun O => (hn 0 0 O (by omega)).trans hP.one0
  have a1 : ∀ O : Obj, (w.alloc O).cell? ⟨0, 1, none⟩ = some (.int .i64 1) := fun O => (hn 0 1 O (by omega)).trans hP.one1
  have a2 : ∀ O : Obj, (w.alloc O).cell? ⟨0, 2, none⟩ = some (.int .i64 1) := fun O => (hn 0 2 O (by omega)).trans hP.one2
  have b0 : ∀ O : Obj, (w.alloc O).cell? ⟨1, 0, none⟩ = some (.int .i64 1) := fun O => (hn 1 0 O (by omega)).trans hP.all0
  have b1 : ∀ O : Obj, (w.alloc O).cell? ⟨1, 1, none⟩ = some (.int .i64 (-1)) := fun O => (hn 1 1 O (by omega)).trans hP.all1
  have b2 : ∀ O : Obj, (w.alloc O).cell? ⟨1, 2, none⟩ = some (.int .i64 1) := fun O => (hn 1 2 O (by omega)).trans hP.all2
  have c0 : ∀ O : Obj, (w.alloc O).cell? ⟨2, 0, none⟩ = some (.int .i64 1) := fun O => (hn 2 0 O (by omega)).trans hP.two0
  have c1 : ∀ O : Obj, (w.alloc O).cell? ⟨2, 1, none⟩ = some (.int .i64 2) := fun O => (hn 2 1 O (by omega)).trans hP.two1
  have c2 : ∀ O : Obj, (w.alloc O).cell? ⟨2, 2, none⟩ = some (.int .i64 1) := fun O => (hn 2 2 O (by omega)).trans hP.two2
  clear hn hP
  go_enter Tryd.func57, Tryd.ntmps57
  go_wp2
  refine bodyPost_ret (v := spV (some ⟨1, 1, 1, e0, 3, 7, true, false, false⟩)) ?_ rfl ⟨rfl, ?_⟩
  · simp [spV, Sp.val, Sp.zero, e0, results, Tryd.results57, go_sem]
  · exact ((Below.refl _ _).alloc (Nat.le_refl _) _)

set_option maxHeartbeats 4000000 in
set_option maxRecDepth 100000 in
theorem middle_at8 (w : World) (hP : Plc w) :
    Calls Tryd.prog 57 #[.string ⟨#[71, 69, 84, 83, 69, 84]⟩] w fun e w' => e = .returned (spV (some ⟨1, 1, 1, e0, 3, 3, true, false, false⟩)) ∧ Below w.heap.size w w' := by
  have hn : ∀ k o (O : Obj), k < 9 → (w.alloc O).cell? ⟨k, o, none⟩ = w.cell? ⟨k, o, none⟩ := fun k o O hk => World.cell?_alloc_old _ _ _ (by have := hP.size; simp; omega)
  have a0 : ∀ O : Obj, (w.alloc O).cell? ⟨0, 0, none⟩ = some (.int .i64 1) := fun O => (hn 0 0 O (by omega)).trans hP.one0
  have a1 : ∀ O : Obj, (w.alloc O).cell? ⟨0, 1, none⟩ = some (.int .i64 1) := fun O => (hn 0 1 O (by omega)).trans hP.one1
  have a2 : ∀ O : Obj, (w.alloc O).cell? ⟨0, 2, none⟩ = some (.int .i64 1) := fun O => (hn 0 2 O (by omega)).trans hP.one2
  have b0 : ∀ O : Obj, (w.alloc O).cell? ⟨1, 0, none⟩ = some (.int .i64 1) := fun O => (hn 1 0 O (by omega)).trans hP.all0
  have b1 : ∀ O : Obj, (w.alloc O).cell? ⟨1, 1, none⟩ = some (.int .i64 (-1)) := fun O => (hn 1 1 O (by omega)).trans hP.all1
  have b2 : ∀ O : Obj, (w.alloc O).cell? ⟨1, 2, none⟩ = some (.int .i64 1) := fun O => (hn 1 2 O (by omega)).trans hP.all2
  have c0 : ∀ O : Obj, (w.alloc O).cell? ⟨2, 0, none⟩ = some (.int .i64 1) := fun O => (hn 2 0 O (by omega)).trans hP.two0
  have c1 : ∀ O : Obj, (w.alloc O).cell? ⟨2, 1, none⟩ = some (.int .i64 2) := fun O => (hn 2 1 O (by omega)).trans hP.two1
  have c2 : ∀ O : Obj, (w.alloc O).cell? ⟨2, 2, none⟩ = some (.int .i64 1) := fun O => (hn 2 2 O (by omega)).trans hP.two2
  clear hn hP
  go_enter Tryd.func57, Tryd.ntmps57
  go_wp2
  refine bodyPost_ret (v := spV (some ⟨1, 1, 1, e0, 3, 3, true, false, false⟩)) ?_ rfl ⟨rfl, ?_⟩
  · simp [spV, Sp.val, Sp.zero, e0, results, Tryd.results57, go_sem]
  · exact ((Below.refl _ _).alloc (Nat.le_refl _) _)

set_option maxHeartbeats 4000000 in
set_option maxRecDepth 100000 in
theorem middle_at9 (w : World) (hP : Plc w) :
    Calls Tryd.prog 57 #[.string ⟨#[83, 69, 84, 78, 88]⟩] w fun e w' => e = .returned (spV (some ⟨1, 1, 1, e0, 3, 3, true, false, false⟩)) ∧ Below w.heap.size w w' := by
  have hn : ∀ k o (O : Obj), k < 9 → (w.alloc O).cell? ⟨k, o, none⟩ = w.cell? ⟨k, o, none⟩ := fun k o O hk => World.cell?_alloc_old _ _ _ (by have := hP.size; simp; omega)
  have a0 : ∀ O : Obj, (w.alloc O).cell? ⟨0, 0, none⟩ = some (.int .i64 1) := fun O => (hn 0 0 O (by omega)).trans hP.one0
  have a1 : ∀ O : Obj, (w.alloc O).cell? ⟨0, 1, none⟩ = some (.int .i64 1) := fun O => (hn 0 1 O (by omega)).trans hP.one1
  have a2 : ∀ O : Obj, (w.alloc O).cell? ⟨0, 2, none⟩ = some (.int .i64 1) := fun O => (hn 0 2 O (by omega)).trans hP.one2
  have b0 : ∀ O : Obj, (w.alloc O).cell? ⟨1, 0, none⟩ = some (.int .i64 1) := fun O => (hn 1 0 O (by omega)).trans hP.all0
  have b1 : ∀ O : Obj, (w.alloc O).cell? ⟨1, 1, none⟩ = some (.int .i64 (-1)) := fun O => (hn 1 1 O (by omega)).trans hP.all1
  have b2 : ∀ O : Obj, (w.alloc O).cell? ⟨1, 2, none⟩ = some (.int .i64 1) := fun O => (hn 1 2 O (by omega)).trans hP.all2
  have c0 : ∀ O : Obj, (w.alloc O).cell? ⟨2, 0, none⟩ = some (.int .i64 1) := fun O => (hn 2 0 O (by omega)).trans hP.two0
  have c1 : ∀ O : Obj, (w.alloc O).cell? ⟨2, 1, none⟩ = some (.int .i64 2) := fun O => (hn 2 1 O (by omega)).trans hP.two1
  have c2 : ∀ O : Obj, (w.alloc O).cell? ⟨2, 2, none⟩ = some (.int .i64 1) := fun O => (hn 2 2 O (by omega)).trans hP.two2
  clear hn hP
  go_enter Tryd.func57, Tryd.ntmps57
  go_wp2
  refine bodyPost_ret (v := spV (some ⟨1, 1, 1, e0, 3, 3, true, false, false⟩)) ?_ rfl ⟨rfl, ?_⟩
  · simp [spV, Sp.val, Sp.zero, e0, results, Tryd.results57, go_sem]
  · exact ((Below.refl _ _).alloc (Nat.le_refl _) _)

set_option maxHeartbeats 4000000 in
set_option maxRecDepth 100000 in
theorem middle_at10 (w : World) (hP : Plc w) :
    Calls Tryd.prog 57 #[.string ⟨#[65, 80, 80, 69, 78, 68]⟩] w fun e w' => e = .returned (spV (some ⟨1, 1, 1, e0, 3, 3, true, false, false⟩)) ∧ Below w.heap.size w w' := by
  have hn : ∀ k o (O : Obj), k < 9 → (w.alloc O).cell? ⟨k, o, none⟩ = w.cell? ⟨k, o, none⟩ := fun k o O hk => World.cell?_alloc_old _ _ _ (by have := hP.size; simp; omega)
  have a0 : ∀ O : Obj, (w.alloc O).cell? ⟨0, 0, none⟩ = some (.int .i64 1) := fun O => (hn 0 0 O (by omega)).trans hP.one0
  have a1 : ∀ O : Obj, (w.alloc O).cell? ⟨0, 1, none⟩ = some (.int .i64 1) := fun O => (hn 0 1 O (by omega)).trans hP.one1
  have a2 : ∀ O : Obj, (w.alloc O).cell? ⟨0, 2, none⟩ = some (.int .i64 1) := fun O => (hn 0 2 O (by omega)).trans hP.one2
  have b0 : ∀ O : Obj, (w.alloc O).cell? ⟨1, 0, none⟩ = some (.int .i64 1) := fun O => (hn 1 0 O (by omega)).trans hP.all0
  have b1 : ∀ O : Obj, (w.alloc O).cell? ⟨1, 1, none⟩ = some (.int .i64 (-1)) := fun O => (hn 1 1 O (by omega)).trans hP.all1
  have b2 : ∀ O : Obj, (w.alloc O).cell? ⟨1, 2, none⟩ = some (.int .i64 1) := fun O => (hn 1 2 O (by omega)).trans hP.all2
  have c0 : ∀ O : Obj, (w.alloc O).cell? ⟨2, 0, none⟩ = some (.int .i64 1) := fun O => (hn 2 0 O (by omega)).trans hP.two0
  have c1 : ∀ O : Obj, (w.alloc O).cell? ⟨2, 1, none⟩ = some (.int .i64 2) := fun O => (hn 2 1 O (by omega)).trans hP.two1
  have c2 : ∀ O : Obj, (w.alloc O).cell? ⟨2, 2, none⟩ = some (.int .i64 1) := fun O => (hn 2 2 O (by omega)).trans hP.two2
  clear hn hP
  go_enter Tryd.func57, Tryd.ntmps57
  go_wp2
  refine bodyPost_ret (v := spV (some ⟨1, 1, 1, e0, 3, 3, true, false, false⟩)) ?_ rfl ⟨rfl, ?_⟩
  · simp [spV, Sp.val, Sp.zero, e0, results, Tryd.results57, go_sem]
  · exact ((Below.refl _ _).alloc (Nat.le_refl _) _)

set_option maxHeartbeats 4000000 in
set_option maxRecDepth 100000 in
theorem middle_at11 (w : World) (hP : Plc w) :
    Calls Tryd.prog 57 #[.string ⟨#[73, 78, 67, 82, 66, 89]⟩] w fun e w' => e = .returned (spV (some ⟨1, 1, 1, e0, 3, 3, true, false, false⟩)) ∧ Below w.heap.size w w' := by
  have hn : ∀ k o (O : Obj), k < 9 → (w.alloc O).cell? ⟨k, o, none⟩ = w.cell? ⟨k, o, none⟩ := fun k o O hk => World.cell?_alloc_old _ _ _ (by have := hP.size; simp; omega)
  have a0 : ∀ O : Obj, (w.alloc O).cell? ⟨0, 0, none⟩ = some (.int .i64 1) := fun O => (hn 0 0 O (by omega)).trans hP.one0
  have a1 : ∀ O : Obj, (w.alloc O).cell? ⟨0, 1, none⟩ = some (.int .i64 1) := fun O => (hn 0 1 O (by omega)).trans hP.one1
  have a2 : ∀ O : Obj, (w.alloc O).cell? ⟨0, 2, none⟩ = some (.int .i64 1) := fun O => (hn 0 2 O (by omega)).trans hP.one2
  have b0 : ∀ O : Obj, (w.alloc O).cell? ⟨1, 0, none⟩ = some (.int .i64 1) := fun O => (hn 1 0 O (by omega)).trans hP.all0
  have b1 : ∀ O : Obj, (w.alloc O).cell? ⟨1, 1, none⟩ = some (.int .i64 (-1)) := fun O => (hn 1 1 O (by omega)).trans hP.all1
  have b2 : ∀ O : Obj, (w.alloc O).cell? ⟨1, 2, none⟩ = some (.int .i64 1) := fun O => (hn 1 2 O (by omega)).trans hP.all2
  have c0 : ∀ O : Obj, (w.alloc O).cell? ⟨2, 0, none⟩ = some (.int .i64 1) := fun O => (hn 2 0 O (by omega)).trans hP.two0
  have c1 : ∀ O : Obj, (w.alloc O).cell? ⟨2, 1, none⟩ = some (.int .i64 2) := fun O => (hn 2 1 O (by omega)).trans hP.two1
  have c2 : ∀ O : Obj, (w.alloc O).cell? ⟨2, 2, none⟩ = some (.int .i64 1) := fun O => (hn 2 2 O (by omega)).trans hP.two2
  clear hn hP
  go_enter Tryd.func57, Tryd.ntmps57
  go_wp2
  refine bodyPost_ret (v := spV (some ⟨1, 1, 1, e0, 3, 3, true, false, false⟩)) ?_ rfl ⟨rfl, ?_⟩
  · simp [spV, Sp.val, Sp.zero, e0, results, Tryd.results57, go_sem]
  · exact ((Below.refl _ _).alloc (Nat.le_refl _) _)

set_option maxHeartbeats 4000000 in
set_option maxRecDepth 100000 in
theorem middle_at12 (w : World) (hP : Plc w) :
    Calls Tryd.prog 57 #[.string ⟨#[68, 69, 67, 82, 66, 89]⟩] w fun e w' => e = .returned (spV (some ⟨1, 1, 1, e0, 3, 3, true, false, false⟩)) ∧ Below w.heap.size w w' := by
  have hn : ∀ k o (O : Obj), k < 9 → (w.alloc O).cell? ⟨k, o, none⟩ = w.cell? ⟨k, o, none⟩ := fun k o O hk => World.cell?_alloc_old _ _ _ (by have := hP.size; simp; omega)
  have a0 : ∀ O : Obj, (w.alloc O).cell? ⟨0, 0, none⟩ = some (.int .i64 1) := fun O => (hn 0 0 O (by omega)).trans hP.one0
  have a1 : ∀ O : Obj, (w.alloc O).cell? ⟨0, 1, none⟩ = some (.int .i64 1) := fun O => (hn 0 1 O (by omega)).trans hP.one1
  have a2 : ∀ O : Obj, (w.alloc O).cell? ⟨0, 2, none⟩ = some (.int .i64 1) := fun O => (hn 0 2 O (by omega)).trans hP.one2
  have b0 : ∀ O : Obj, (w.alloc O).cell? ⟨1, 0, none⟩ = some (.int .i64 1) := fun O => (hn 1 0 O (by omega)).trans hP.all0
  have b1 : ∀ O : Obj, (w.alloc O).cell? ⟨1, 1, none⟩ = some (.int .i64 (-1)) := fun O => (hn 1 1 O (by omega)).trans hP.all1
  have b2 : ∀ O : Obj, (w.alloc O).cell? ⟨1, 2, none⟩ = some (.int .i64 1) := fun O => (hn 1 2 O (by omega)).trans hP.all2
  have c0 : ∀ O : Obj, (w.alloc O).cell? ⟨2, 0, none⟩ = some (.int .i64 1) := fun O => (hn 2 0 O (by omega)).trans hP.two0
  have c1 : ∀ O : Obj, (w.alloc O).cell? ⟨2, 1, none⟩ = some (.int .i64 2) := fun O => (hn 2 1 O (by omega)).trans hP.two1
  have c2 : ∀ O : Obj, (w.alloc O).cell? ⟨2, 2, none⟩ = some (.int .i64 1) := fun O => (hn 2 2 O (by omega)).trans hP.two2
  clear hn hP
  go_enter Tryd.func57, Tryd.ntmps57
  go_wp2
  refine bodyPost_ret (v := spV (some ⟨1, 1, 1, e0, 3, 3, true, false, false⟩)) ?_ rfl ⟨rfl, ?_⟩
  · simp [spV, Sp.val, Sp.zero, e0, results, Tryd.results57, go_sem]
  · exact ((Below.refl _ _).alloc (Nat.le_refl _) _)

set_option maxHeartbeats 4000000 in
set_option maxRecDepth 100000 in
theorem middle_at13 (w : World) (hP : Plc w) :
    Calls Tryd.prog 57 #[.string ⟨#[69, 88, 80, 73, 82, 69]⟩] w fun e w' => e = .returned (spV (some ⟨1, 1, 1, e0, 3, 3, true, false, false⟩)) ∧ Below w.heap.size w w' := by
  have hn : ∀ k o (O : Obj), k < 9 → (w.alloc O).cell? ⟨k, o, none⟩ = w.cell? ⟨k, o, none⟩ := fun k o O hk => World.cell?_alloc_old _ _ _ (by have := hP.size; simp; omega)
  have a0 : ∀ O : Obj, (w.alloc O).cell? ⟨0, 0, none⟩ = some (.int .i64 1) := fun O => (hn 0 0 O (by omega)).trans hP.one0
  have a1 : ∀ O : Obj, (w.alloc O).cell? ⟨0, 1, none⟩ = some (.int .i64 1) := fun O => (hn 0 1 O (by omega)).trans hP.one1
  have a2 : ∀ O : Obj, (w.alloc O).cell? ⟨0, 2, none⟩ = some (.int .i64 1) := fun O => (hn 0 2 O (by omega)).trans hP.one2
  have b0 : ∀ O : Obj, (w.alloc O).cell? ⟨1, 0, none⟩ = some (.int .i64 1) := fun O => (hn 1 0 O (by omega)).trans hP.all0
  have b1 : ∀ O : Obj, (w.alloc O).cell? ⟨1, 1, none⟩ = some (.int .i64 (-1)) := fun O => (hn 1 1 O (by omega)).trans hP.all1
  have b2 : ∀ O : Obj, (w.alloc O).cell? ⟨1, 2, none⟩ = some (.int .i64 1) := fun O => (hn 1 2 O (by omega)).trans hP.all2
  have c0 : ∀ O : Obj, (w.alloc O).cell? ⟨2, 0, none⟩ = some (.int .i64 1) := fun O => (hn 2 0 O (by omega)).trans hP.two0
  have c1 : ∀ O : Obj, (w.alloc O).cell? ⟨2, 1, none⟩ = some (.int .i64 2) := fun O => (hn 2 1 O (by omega)).trans hP.two1
  have c2 : ∀ O : Obj, (w.alloc O).cell? ⟨2, 2, none⟩ = some (.int .i64 1) := fun O => (hn 2 2 O (by omega)).trans hP.two2
  clear hn hP
  go_enter Tryd.func57, Tryd.ntmps57
  go_wp2
  refine bodyPost_ret (v := spV (some ⟨1, 1, 1, e0, 3, 3, true, false, false⟩)) ?_ rfl ⟨rfl, ?_⟩
  · simp [spV, Sp.val, Sp.zero, e0, results, Tryd.results57, go_sem]
  · exact ((Below.refl _ _).alloc (Nat.le_refl _) _)

set_option maxHeartbeats 4000000 in
set_option maxRecDepth 100000 in
theorem middle_at14 (w : World) (hP : Plc w) :
    Calls Tryd.prog 57 #[.string ⟨#[80, 69, 88, 80, 73, 82, 69]⟩] w fun e w' => e = .returned (spV (some ⟨1, 1, 1, e0, 3, 3, true, false, false⟩)) ∧ Below w.heap.size w w' := by
  have hn : ∀ k o (O : Obj), k < 9 → (w.alloc O).cell? ⟨k, o, none⟩ = w.cell? ⟨k, o, none⟩ := fun k o O hk => World.cell?_alloc_old _ _ _ (by have := hP.size; simp; omega)
  have a0 : ∀ O : Obj, (w.alloc O).cell? ⟨0, 0, none⟩ = some (.int .i64 1) := fun O => (hn 0 0 O (by omega)).trans hP.one0
  have a1 : ∀ O : Obj, (w.alloc O).cell? ⟨0, 1, none⟩ = some (.int .i64 1) := fun O => (hn 0 1 O (by omega)).trans hP.one1
  have a2 : ∀ O : Obj, (w.alloc O).cell? ⟨0, 2, none⟩ = some (.int .i64 1) := fun O => (hn 0 2 O (by omega)).trans hP.one2
  have b0 : ∀ O : Obj, (w.alloc O).cell? ⟨1, 0, none⟩ = some (.int .i64 1) := fun O => (hn 1 0 O (by omega)).trans hP.all0
  have b1 : ∀ O : Obj, (w.alloc O).cell? ⟨1, 1, none⟩ = some (.int .i64 (-1)) := fun O => (hn 1 1 O (by omega)).trans hP.all1
  have b2 : ∀ O : Obj, (w.alloc O).cell? ⟨1, 2, none⟩ = some (.int .i64 1) := fun O => (hn 1 2 O (by omega)).trans hP.all2
  have c0 : ∀ O : Obj, (w.alloc O).cell? ⟨2, 0, none⟩ = some (.int .i64 1) := fun O => (hn 2 0 O (by omega)).trans hP.two0
  have c1 : ∀ O : Obj, (w.alloc O).cell? ⟨2, 1, none⟩ = some (.int .i64 2) := fun O => (hn 2 1 O (by omega)).trans hP.two1
  have c2 : ∀ O : Obj, (w.alloc O).cell? ⟨2, 2, none⟩ = some (.int .i64 1) := fun O => (hn 2 2 O (by omega)).trans hP.two2
  clear hn hP
  go_enter Tryd.func57, Tryd.ntmps57
  go_wp2
  refine bodyPost_ret (v := spV (some ⟨1, 1, 1, e0, 3, 3, true, false, false⟩)) ?_ rfl ⟨rfl, ?_⟩
  · simp [spV, Sp.val, Sp.zero, e0, results, Tryd.results57, go_sem]
  · exact ((Below.refl _ _).alloc (Nat.le_refl _) _)

set_option maxHeartbeats 4000000 in
set_option maxRecDepth 100000 in
theorem middle_at15 (w : World) (hP : Plc w) :
    Calls Tryd.prog 57 #[.string ⟨#[80, 69, 88, 80, 73, 82, 69, 65, 84]⟩] w fun e w' => e = .returned (spV (some ⟨1, 1, 1, e0, 3, 3, true, false, false⟩)) ∧ Below w.heap.size w w' := by
  have hn : ∀ k o (O : Obj), k < 9 → (w.alloc O).cell? ⟨k, o, none⟩ = w.cell? ⟨k, o, none⟩ := fun k o O hk => World.cell?_alloc_old _ _ _ (by have := hP.size; simp; omega)
  have a0 : ∀ O : Obj, (w.alloc O).cell? ⟨0, 0, none⟩ = some (.int .i64 1) := fun O => (hn 0 0 O (by omega)).trans hP.one0
  have a1 : ∀ O : Obj, (w.alloc O).cell? ⟨0, 1, none⟩ = some (.int .i64 1) := fun O => (hn 0 1 O (by omega)).trans hP.one1
  have a2 : ∀ O : Obj, (w.alloc O).cell? ⟨0, 2, none⟩ = some (.int .i64 1) := fun O => (hn 0 2 O (by omega)).trans hP.one2
  have b0 : ∀ O : Obj, (w.alloc O).cell? ⟨1, 0, none⟩ = some (.int .i64 1) := fun O => (hn 1 0 O (by omega)).trans hP.all0
  have b1 : ∀ O : Obj, (w.alloc O).cell? ⟨1, 1, none⟩ = some (.int .i64 (-1)) := fun O => (hn 1 1 O (by omega)).trans hP.all1
  have b2 : ∀ O : Obj, (w.alloc O).cell? ⟨1, 2, none⟩ = some (.int .i64 1) := fun O => (hn 1 2 O (by omega)).trans hP.all2
  have c0 : ∀ O : Obj, (w.alloc O).cell? ⟨2, 0, none⟩ = some (.int .i64 1) := fun O => (hn 2 0 O (by omega)).trans hP.two0
  have c1 : ∀ O : Obj, (w.alloc O).cell? ⟨2, 1, none⟩ = some (.int .i64 2) := fun O => (hn 2 1 O (by omega)).trans hP.two1
  have c2 : ∀ O : Obj, (w.alloc O).cell? ⟨2, 2, none⟩ = some (.int .i64 1) := fun O => (hn 2 2 O (by omega)).trans hP.two2
  clear hn hP
  go_enter Tryd.func57, Tryd.ntmps57
  go_wp2
  refine bodyPost_ret (v := spV (some ⟨1, 1, 1, e0, 3, 3, true, false, false⟩)) ?_ rfl ⟨rfl, ?_⟩
  · simp [spV, Sp.val, Sp.zero, e0, results, Tryd.results57, go_sem]
  · exact ((Below.refl _ _).alloc (Nat.le_refl _) _)

set_option maxHeartbeats 4000000 in
set_option maxRecDepth 100000 in
theorem middle_at16 (w : World) (hP : Plc w) :
    Calls Tryd.prog 57 #[.string ⟨#[82, 69, 78, 65, 77, 69]⟩] w fun e w' => e = .returned (spV (some ⟨1, 2, 1, e0, 3, 3, true, false, false⟩)) ∧ Below w.heap.size w w' := by
  have hn : ∀ k o (O : Obj), k < 9 → (w.alloc O).cell? ⟨k, o, none⟩ = w.cell? ⟨k, o, none⟩ := fun k o O hk => World.cell?_alloc_old _ _ _ (by have := hP.size; simp; omega)
  have a0 : ∀ O : Obj, (w.alloc O).cell? ⟨0, 0, none⟩ = some (.int .i64 1) := fun O => (hn 0 0 O (by omega)).trans hP.one0
  have a1 : ∀ O : Obj, (w.alloc O).cell? ⟨0, 1, none⟩ = some (.int .i64 1) := fun O => (hn 0 1 O (by omega)).trans hP.one1
  have a2 : ∀ O : Obj, (w.alloc O).cell? ⟨0, 2, none⟩ = some (.int .i64 1) := fun O => (hn 0 2 O (by omega)).trans hP.one2
  have b0 : ∀ O : Obj, (w.alloc O).cell? ⟨1, 0, none⟩ = some (.int .i64 1) := fun O => (hn 1 0 O (by omega)).trans hP.all0
  have b1 : ∀ O : Obj, (w.alloc O).cell? ⟨1, 1, none⟩ = some (.int .i64 (-1)) := fun O => (hn 1 1 O (by omega)).trans hP.all1
  have b2 : ∀ O : Obj, (w.alloc O).cell? ⟨1, 2, none⟩ = some (.int .i64 1) := fun O => (hn 1 2 O (by omega)).trans hP.all2
  have c0 : ∀ O : Obj, (w.alloc O).cell? ⟨2, 0, none⟩ = some (.int .i64 1) := fun O => (hn 2 0 O (by omega)).trans hP.two0
  have c1 : ∀ O : Obj, (w.alloc O).cell? ⟨2, 1, none⟩ = some (.int .i64 2) := fun O => (hn 2 1 O (by omega)).trans hP.two1
  have c2 : ∀ O : Obj, (w.alloc O).cell? ⟨2, 2, none⟩ = some (.int .i64 1) := fun O => (hn 2 2 O (by omega)).trans hP.two2
  clear hn hP
  go_enter Tryd.func57, Tryd.ntmps57
  go_wp2
  refine bodyPost_ret (v := spV (some ⟨1, 2, 1, e0, 3, 3, true, false, false⟩)) ?_ rfl ⟨rfl, ?_⟩
  · simp [spV, Sp.val, Sp.zero, e0, results, Tryd.results57, go_sem]
  · exact ((Below.refl _ _).alloc (Nat.le_refl _) _)

set_option maxHeartbeats 4000000 in
set_option maxRecDepth 100000 in
theorem middle_at17 (w : World) (hP : Plc w) :
    Calls Tryd.prog 57 #[.string ⟨#[82, 80, 79, 80, 76, 80, 85, 83, 72]⟩] w fun e w' => e = .returned (spV (some ⟨1, 2, 1, e0, 3, 3, true, false, false⟩)) ∧ Below w.heap.size w w' := by
  have hn : ∀ k o (O : Obj), k < 9 → (w.alloc O).cell? ⟨k, o, none⟩ = w.cell? ⟨k, o, none⟩ := fun k o O hk => World.cell?_alloc_old _ _ _ (by have := hP.size; simp; omega)
  have a0 : ∀ O : Obj, (w.alloc O).cell? ⟨0, 0, none⟩ = some (.int .i64 1) := fun O => (hn 0 0 O (by omega)).trans hP.one0
  have a1 : ∀ O : Obj, (w.alloc O).cell? ⟨0, 1, none⟩ = some (.int .i64 1) := fun O => (hn 0 1 O (by omega)).trans hP.one1
  have a2 : ∀ O : Obj, (w.alloc O).cell? ⟨0, 2, none⟩ = some (.int .i64 1) := fun O => (hn 0 2 O (by omega)).trans hP.one2
  have b0 : ∀ O : Obj, (w.alloc O).cell? ⟨1, 0, none⟩ = some (.int .i64 1) := fun O => (hn 1 0 O (by omega)).trans hP.all0
  have b1 : ∀ O : Obj, (w.alloc O).cell? ⟨1, 1, none⟩ = some (.int .i64 (-1)) := fun O => (hn 1 1 O (by omega)).trans hP.all1
  have b2 : ∀ O : Obj, (w.alloc O).cell? ⟨1, 2, none⟩ = some (.int .i64 1) := fun O => (hn 1 2 O (by omega)).trans hP.all2
  have c0 : ∀ O : Obj, (w.alloc O).cell? ⟨2, 0, none⟩ = some (.int .i64 1) := fun O => (hn 2 0 O (by omega)).trans hP.two0
  have c1 : ∀ O : Obj, (w.alloc O).cell? ⟨2, 1, none⟩ = some (.int .i64 2) := fun O => (hn 2 1 O (by omega)).trans hP.two1
  have c2 : ∀ O : Obj, (w.alloc O).cell? ⟨2, 2, none⟩ = some (.int .i64 1) := fun O => (hn 2 2 O (by omega)).trans hP.two2
  clear hn hP
  go_enter Tryd.func57, Tryd.ntmps57
  go_wp2
  refine bodyPost_ret (v := spV (some ⟨1, 2, 1, e0, 3, 3, true, false, false⟩)) ?_ rfl ⟨rfl, ?_⟩
  · simp [spV, Sp.val, Sp.zero, e0, results, Tryd.results57, go_sem]
  · exact ((Below.refl _ _).alloc (Nat.le_refl _) _)

set_option maxHeartbeats 4000000 in
set_option maxRecDepth 100000 in
theorem middle_at18 (w : World) (hP : Plc w) :
    Calls Tryd.prog 57 #[.string ⟨#[77, 83, 69, 84]⟩] w fun e w' => e = .returned (spV (some ⟨1, (-1), 2, e0, 3, 40, true, true, false⟩)) ∧ Below w.heap.size w w' := by
  have hn : ∀ k o (O : Obj), k < 9 → (w.alloc O).cell? ⟨k, o, none⟩ = w.cell? ⟨k, o, none⟩ := fun k o O hk => World.cell?_alloc_old _ _ _ (by have := hP.size; simp; omega)
  have a0 : ∀ O : Obj, (w.alloc O).cell? ⟨0, 0, none⟩ = some (.int .i64 1) := fun O => (hn 0 0 O (by omega)).trans hP.one0
  have a1 : ∀ O : Obj, (w.alloc O).cell? ⟨0, 1, none⟩ = some (.int .i64 1) := fun O => (hn 0 1 O (by omega)).trans hP.one1
  have a2 : ∀ O : Obj, (w.alloc O).cell? ⟨0, 2, none⟩ = some (.int .i64 1) := fun O => (hn 0 2 O (by omega)).trans hP.one2
  have b0 : ∀ O : Obj, (w.alloc O).cell? ⟨1, 0, none⟩ = some (.int .i64 1) := fun O => (hn 1 0 O (by omega)).trans hP.all0
  have b1 : ∀ O : Obj, (w.alloc O).cell? ⟨1, 1, none⟩ = some (.int .i64 (-1)) := fun O => (hn 1 1 O (by omega)).trans hP.all1
  have b2 : ∀ O : Obj, (w.alloc O).cell? ⟨1, 2, none⟩ = some (.int .i64 1) := fun O => (hn 1 2 O (by omega)).trans hP.all2
  have c0 : ∀ O : Obj, (w.alloc O).cell? ⟨2, 0, none⟩ = some (.int .i64 1) := fun O => (hn 2 0 O (by omega)).trans hP.two0
  have c1 : ∀ O : Obj, (w.alloc O).cell? ⟨2, 1, none⟩ = some (.int .i64 2) := fun O => (hn 2 1 O (by omega)).trans hP.two1
  have c2 : ∀ O : Obj, (w.alloc O).cell? ⟨2, 2, none⟩ = some (.int .i64 1) := fun O => (hn 2 2 O (by omega)).trans hP.two2
  clear hn hP
  go_enter Tryd.func57, Tryd.ntmps57
  go_wp2
  refine bodyPost_ret (v := spV (some ⟨1, (-1), 2, e0, 3, 40, true, true, false⟩)) ?_ rfl ⟨rfl, ?_⟩
  · simp [spV, Sp.val, Sp.zero, e0, results, Tryd.results57, go_sem]
  · exact ((Below.refl _ _).alloc (Nat.le_refl _) _)

set_option maxHeartbeats 4000000 in
set_option maxRecDepth 100000 in
theorem middle_at19 (w : World) (hP : Plc w) :
    Calls Tryd.prog 57 #[.string ⟨#[72, 71, 69, 84]⟩] w fun e w' => e = .returned (spV (some ⟨1, 1, 1, e0, 3, 3, false, false, false⟩)) ∧ Below w.heap.size w w' := by
  have hn : ∀ k o (O : Obj), k < 9 → (w.alloc O).cell? ⟨k, o, none⟩ = w.cell? ⟨k, o, none⟩ := fun k o O hk => World.cell?_alloc_old _ _ _ (by have := hP.size; simp; omega)
  have a0 : ∀ O : Obj, (w.alloc O).cell? ⟨0, 0, none⟩ = some (.int .i64 1) := fun O => (hn 0 0 O (by omega)).trans hP.one0
  have a1 : ∀ O : Obj, (w.alloc O).cell? ⟨0, 1, none⟩ = some (.int .i64 1) := fun O => (hn 0 1 O (by omega)).trans hP.one1
  have a2 : ∀ O : Obj, (w.alloc O).cell? ⟨0, 2, none⟩ = some (.int .i64 1) := fun O => (hn 0 2 O (by omega)).trans hP.one2
  have b0 : ∀ O : Obj, (w.alloc O).cell? ⟨1, 0, none⟩ = some (.int .i64 1) := fun O => (hn 1 0 O (by omega)).trans hP.all0
  have b1 : ∀ O : Obj, (w.alloc O).cell? ⟨1, 1, none⟩ = some (.int .i64 (-1)) := fun O => (hn 1 1 O (by omega)).trans hP.all1
  have b2 : ∀ O : Obj, (w.alloc O).cell? ⟨1, 2, none⟩ = some (.int .i64 1) := fun O => (hn 1 2 O (by omega)).trans hP.all2
  have c0 : ∀ O : Obj, (w.alloc O).cell? ⟨2, 0, none⟩ = some (.int .i64 1) := fun O => (hn 2 0 O (by omega)).trans hP.two0
  have c1 : ∀ O : Obj, (w.alloc O).cell? ⟨2, 1, none⟩ = some (.int .i64 2) := fun O => (hn 2 1 O (by omega)).trans hP.two1
  have c2 : ∀ O : Obj, (w.alloc O).cell? ⟨2, 2, none⟩ = some (.int .i64 1) := fun O => (hn 2 2 O (by omega)).trans hP.two2
  clear hn hP
  go_enter Tryd.func57, Tryd.ntmps57
  go_wp2
  refine bodyPost_ret (v := spV (some ⟨1, 1, 1, e0, 3, 3, false, false, false⟩)) ?_ rfl ⟨rfl, ?_⟩
  · simp [spV, Sp.val, Sp.zero, e0, results, Tryd.results57, go_sem]
  · exact ((Below.refl _ _).alloc (Nat.le_refl _) _)

set_option maxHeartbeats 4000000 in
set_option maxRecDepth 100000 in
theorem middle_at20 (w : World) (hP : Plc w) :
    Calls Tryd.prog 57 #[.string ⟨#[72, 69, 88, 73, 83, 84, 83]⟩] w fun e w' => e = .returned (spV (some ⟨1, 1, 1, e0, 3, 3, false, false, false⟩)) ∧ Below w.heap.size w w' := by
  have hn : ∀ k o (O : Obj), k < 9 → (w.alloc O).cell? ⟨k, o, none⟩ = w.cell? ⟨k, o, none⟩ := fun k o O hk => World.cell?_alloc_old _ _ _ (by have := hP.size; simp; omega)
  have a0 : ∀ O : Obj, (w.alloc O).cell? ⟨0, 0, none⟩ = some (.int .i64 1) := fun O => (hn 0 0 O (by omega)).trans hP.one0
  have a1 : ∀ O : Obj, (w.alloc O).cell? ⟨0, 1, none⟩ = some (.int .i64 1) := fun O => (hn 0 1 O (by omega)).trans hP.one1
  have a2 : ∀ O : Obj, (w.alloc O).cell? ⟨0, 2, none⟩ = some (.int .i64 1) := fun O => (hn 0 2 O (by omega)).trans hP.one2
  have b0 : ∀ O : Obj, (w.alloc O).cell? ⟨1, 0, none⟩ = some (.int .i64 1) := fun O => (hn 1 0 O (by omega)).trans hP.all0
  have b1 : ∀ O : Obj, (w.alloc O).cell? ⟨1, 1, none⟩ = some (.int .i64 (-1)) := fun O => (hn 1 1 O (by omega)).trans hP.all1
  have b2 : ∀ O : Obj, (w.alloc O).cell? ⟨1, 2, none⟩ = some (.int .i64 1) := fun O => (hn 1 2 O (by omega)).trans hP.all2
  have c0 : ∀ O : Obj, (w.alloc O).cell? ⟨2, 0, none⟩ = some (.int .i64 1) := fun O => (hn 2 0 O (by omega)).trans hP.two0
  have c1 : ∀ O : Obj, (w.alloc O).cell? ⟨2, 1, none⟩ = some (.int .i64 2) := fun O => (hn 2 1 O (by omega)).trans hP.two1
  have c2 : ∀ O : Obj, (w.alloc O).cell? ⟨2, 2, none⟩ = some (.int .i64 1) := fun O => (hn 2 2 O (by omega)).trans hP.two2
  clear hn hP
  go_enter Tryd.func57, Tryd.ntmps57
  go_wp2
  refine bodyPost_ret (v := spV (some ⟨1, 1, 1, e0, 3, 3, false, false, false⟩)) ?_ rfl ⟨rfl, ?_⟩
  · simp [spV, Sp.val, Sp.zero, e0, results, Tryd.results57, go_sem]
  · exact ((Below.refl _ _).alloc (Nat.le_refl _) _)

set_option maxHeartbeats 4000000 in
set_option maxRecDepth 100000 in
theorem middle_at21 (w : World) (hP : Plc w) :
    Calls Tryd.prog 57 #[.string ⟨#[76, 73, 78, 68, 69, 88]⟩] w fun e w' => e = .returned (spV (some ⟨1, 1, 1, e0, 3, 3, false, false, false⟩)) ∧ Below w.heap.size w w' := by
  have hn : ∀ k o (O : Obj), k < 9 → (w.alloc O).cell? ⟨k, o, none⟩ = w.cell? ⟨k, o, none⟩ := fun k o O hk => World.cell?_alloc_old _ _ _ (by have := hP.size; simp; omega)
  have a0 : ∀ O : Obj, (w.alloc O).cell? ⟨0, 0, none⟩ = some (.int .i64 1) := fun O => (hn 0 0 O (by omega)).trans hP.one0
  have a1 : ∀ O : Obj, (w.alloc O).cell? ⟨0, 1, none⟩ = some (.int .i64 1) := fun O => (hn 0 1 O (by omega)).trans hP.one1
  have a2 : ∀ O : Obj, (w.alloc O).cell? ⟨0, 2, none⟩ = some (.int .i64 1) := fun O => (hn 0 2 O (by omega)).trans hP.one2
  have b0 : ∀ O : Obj, (w.alloc O).cell? ⟨1, 0, none⟩ = some (.int .i64 1) := fun O => (hn 1 0 O (by omega)).trans hP.all0
  have b1 : ∀ O : Obj, (w.alloc O).cell? ⟨1, 1, none⟩ = some (.int .i64 (-1)) := fun O => (hn 1 1 O (by omega)).trans hP.all1
  have b2 : ∀ O : Obj, (w.alloc O).cell? ⟨1, 2, none⟩ = some (.int .i64 1) := fun O => (hn 1 2 O (by omega)).trans hP.all2
  have c0 : ∀ O : Obj, (w.alloc O).cell? ⟨2, 0, none⟩ = some (.int .i64 1) := fun O => (hn 2 0 O (by omega)).trans hP.two0
  have c1 : ∀ O : Obj, (w.alloc O).cell? ⟨2, 1, none⟩ = some (.int .i64 2) := fun O => (hn 2 1 O (by omega)).trans hP.two1
  have c2 : ∀ O : Obj, (w.alloc O).cell? ⟨2, 2, none⟩ = some (.int .i64 1) := fun O => (hn 2 2 O (by omega)).trans hP.two2
  clear hn hP
  go_enter Tryd.func57, Tryd.ntmps57
  go_wp2
  refine bodyPost_ret (v := spV (some ⟨1, 1, 1, e0, 3, 3, false, false, false⟩)) ?_ rfl ⟨rfl, ?_⟩
  · simp [spV, Sp.val, Sp.zero, e0, results, Tryd.results57, go_sem]
  · exact ((Below.refl _ _).alloc (Nat.le_refl _) _)

set_option maxHeartbeats 4000000 in
set_option maxRecDepth 100000 in
theorem middle_at22 (w : World) (hP : Plc w) :
    Calls Tryd.prog 57 #[.string ⟨#[83, 73, 83, 77, 69, 77, 66, 69, 82]⟩] w fun e w' => e = .returned (spV (some ⟨1, 1, 1, e0, 3, 3, false, false, false⟩)) ∧ Below w.heap.size w w' := by
  have hn : ∀ k o (O : Obj), k < 9 → (w.alloc O).cell? ⟨k, o, none⟩ = w.cell? ⟨k, o, none⟩ := fun k o O hk => World.cell?_alloc_old _ _ _ (by have := hP.size; simp; omega)
  have a0 : ∀ O : Obj, (w.alloc O).cell? ⟨0, 0, none⟩ = some (.int .i64 1) := fun O => (hn 0 0 O (by omega)).trans hP.one0
  have a1 : ∀ O : Obj, (w.alloc O).cell? ⟨0, 1, none⟩ = some (.int .i64 1) := fun O => (hn 0 1 O (by omega)).trans hP.one1
  have a2 : ∀ O : Obj, (w.alloc O).cell? ⟨0, 2, none⟩ = some (.int .i64 1) := fun O => (hn 0 2 O (by omega)).trans hP.one2
  have b0 : ∀ O : Obj, (w.alloc O).cell? ⟨1, 0, none⟩ = some (.int .i64 1) := fun O => (hn 1 0 O (by omega)).trans hP.all0
  have b1 : ∀ O : Obj, (w.alloc O).cell? ⟨1, 1, none⟩ = some (.int .i64 (-1)) := fun O => (hn 1 1 O (by omega)).trans hP.all1
  have b2 : ∀ O : Obj, (w.alloc O).cell? ⟨1, 2, none⟩ = some (.int .i64 1) := fun O => (hn 1 2 O (by omega)).trans hP.all2
  have c0 : ∀ O : Obj, (w.alloc O).cell? ⟨2, 0, none⟩ = some (.int .i64 1) := fun O => (hn 2 0 O (by omega)).trans hP.two0
  have c1 : ∀ O : Obj, (w.alloc O).cell? ⟨2, 1, none⟩ = some (.int .i64 2) := fun O => (hn 2 1 O (by omega)).trans hP.two1
  have c2 : ∀ O : Obj, (w.alloc O).cell? ⟨2, 2, none⟩ = some (.int .i64 1) := fun O => (hn 2 2 O (by omega)).trans hP.two2
  clear hn hP
  go_enter Tryd.func57, Tryd.ntmps57
  go_wp2
  refine bodyPost_ret (v := spV (some ⟨1, 1, 1, e0, 3, 3, false, false, false⟩)) ?_ rfl ⟨rfl, ?_⟩
  · simp [spV, Sp.val, Sp.zero, e0, results, Tryd.results57, go_sem]
  · exact ((Below.refl _ _).alloc (Nat.le_refl _) _)

set_option maxHeartbeats 4000000 in
set_option maxRecDepth 100000 in
theorem middle_at23 (w : World) (hP : Plc w) :
    Calls Tryd.prog 57 #[.string ⟨#[90, 83, 67, 79, 82, 69]⟩] w fun e w' => e = .returned (spV (some ⟨1, 1, 1, e0, 3, 3, false, false, false⟩)) ∧ Below w.heap.size w w' := by
  have hn : ∀ k o (O : Obj), k < 9 → (w.alloc O).cell? ⟨k, o, none⟩ = w.cell? ⟨k, o, none⟩ := fun k o O hk => World.cell?_alloc_old _ _ _ (by have := hP.size; simp; omega)
  have a0 : ∀ O : Obj, (w.alloc O).cell? ⟨0, 0, none⟩ = some (.int .i64 1) := fun O => (hn 0 0 O (by omega)).trans hP.one0
  have a1 : ∀ O : Obj, (w.alloc O).cell? ⟨0, 1, none⟩ = some (.int .i64 1) := fun O => (hn 0 1 O (by omega)).trans hP.one1
  have a2 : ∀ O : Obj, (w.alloc O).cell? ⟨0, 2, none⟩ = some (.int .i64 1) := fun O => (hn 0 2 O (by omega)).trans hP.one2
  have b0 : ∀ O : Obj, (w.alloc O).cell? ⟨1, 0, none⟩ = some (.int .i64 1) := fun O => (hn 1 0 O (by omega)).trans hP.all0
  have b1 : ∀ O : Obj, (w.alloc O).cell? ⟨1, 1, none⟩ = some (.int .i64 (-1)) := fun O => (hn 1 1 O (by omega)).trans hP.all1
  have b2 : ∀ O : Obj, (w.alloc O).cell? ⟨1, 2, none⟩ = some (.int .i64 1) := fun O => (hn 1 2 O (by omega)).trans hP.all2
  have c0 : ∀ O : Obj, (w.alloc O).cell? ⟨2, 0, none⟩ = some (.int .i64 1) := fun O => (hn 2 0 O (by omega)).trans hP.two0
  have c1 : ∀ O : Obj, (w.alloc O).cell? ⟨2, 1, none⟩ = some (.int .i64 2) := fun O => (hn 2 1 O (by omega)).trans hP.two1
  have c2 : ∀ O : Obj, (w.alloc O).cell? ⟨2, 2, none⟩ = some (.int .i64 1) := fun O => (hn 2 2 O (by omega)).trans hP.two2
  clear hn hP
  go_enter Tryd.func57, Tryd.ntmps57
  go_wp2
  refine bodyPost_ret (v := spV (some ⟨1, 1, 1, e0, 3, 3, false, false, false⟩)) ?_ rfl ⟨rfl, ?_⟩
  · simp [spV, Sp.val, Sp.zero, e0, results, Tryd.results57, go_sem]
  · exact ((Below.refl _ _).alloc (Nat.le_refl _) _)

set_option maxHeartbeats 4000000 in
set_option maxRecDepth 100000 in
theorem middle_at24 (w : World) (hP : Plc w) :
    Calls Tryd.prog 57 #[.string ⟨#[90, 82, 65, 78, 75]⟩] w fun e w' => e = .returned (spV (some ⟨1, 1, 1, e0, 3, 3, false, false, false⟩)) ∧ Below w.heap.size w w' := by
  have hn : ∀ k o (O : Obj), k < 9 → (w.alloc O).cell? ⟨k, o, none⟩ = w.cell? ⟨k, o, none⟩ := fun k o O hk => World.cell?_alloc_old _ _ _ (by have := hP.size; simp; omega)
  have a0 : ∀ O : Obj, (w.alloc O).cell? ⟨0, 0, none⟩ = some (.int .i64 1) := fun O => (hn 0 0 O (by omega)).trans hP.one0
  have a1 : ∀ O : Obj, (w.alloc O).cell? ⟨0, 1, none⟩ = some (.int .i64 1) := fun O => (hn 0 1 O (by omega)).trans hP.one1
  have a2 : ∀ O : Obj, (w.alloc O).cell? ⟨0, 2, none⟩ = some (.int .i64 1) := fun O => (hn 0 2 O (by omega)).trans hP.one2
  have b0 : ∀ O : Obj, (w.alloc O).cell? ⟨1, 0, none⟩ = some (.int .i64 1) := fun O => (hn 1 0 O (by omega)).trans hP.all0
  have b1 : ∀ O : Obj, (w.alloc O).cell? ⟨1, 1, none⟩ = some (.int .i64 (-1)) := fun O => (hn 1 1 O (by omega)).trans hP.all1
  have b2 : ∀ O : Obj, (w.alloc O).cell? ⟨1, 2, none⟩ = some (.int .i64 1) := fun O => (hn 1 2 O (by omega)).trans hP.all2
  have c0 : ∀ O : Obj, (w.alloc O).cell? ⟨2, 0, none⟩ = some (.int .i64 1) := fun O => (hn 2 0 O (by omega)).trans hP.two0
  have c1 : ∀ O : Obj, (w.alloc O).cell? ⟨2, 1, none⟩ = some (.int .i64 2) := fun O => (hn 2 1 O (by omega)).trans hP.two1
  have c2 : ∀ O : Obj, (w.alloc O).cell? ⟨2, 2, none⟩ = some (.int .i64 1) := fun O => (hn 2 2 O (by omega)).trans hP.two2
  clear hn hP
  go_enter Tryd.func57, Tryd.ntmps57
  go_wp2
  refine bodyPost_ret (v := spV (some ⟨1, 1, 1, e0, 3, 3, false, false, false⟩)) ?_ rfl ⟨rfl, ?_⟩
  · simp [spV, Sp.val, Sp.zero, e0, results, Tryd.results57, go_sem]
  · exact ((Below.refl _ _).alloc (Nat.le_refl _) _)

set_option maxHeartbeats 4000000 in
set_option maxRecDepth 100000 in
theorem middle_at25 (w : World) (hP : Plc w) :
    Calls Tryd.prog 57 #[.string ⟨#[90, 82, 69, 86, 82, 65, 78, 75]⟩] w fun e w' => e = .returned (spV (some ⟨1, 1, 1, e0, 3, 3, false, false, false⟩)) ∧ Below w.heap.size w w' := by
  have hn : ∀ k o (O : Obj), k < 9 → (w.alloc O).cell? ⟨k, o, none⟩ = w.cell? ⟨k, o, none⟩ := fun k o O hk => World.cell?_alloc_old _ _ _ (by have := hP.size; simp; omega)
  have a0 : ∀ O : Obj, (w.alloc O).cell? ⟨0, 0, none⟩ = some (.int .i64 1) := fun O => (hn 0 0 O (by omega)).trans hP.one0
  have a1 : ∀ O : Obj, (w.alloc O).cell? ⟨0, 1, none⟩ = some (.int .i64 1) := fun O => (hn 0 1 O (by omega)).trans hP.one1
  have a2 : ∀ O : Obj, (w.alloc O).cell? ⟨0, 2, none⟩ = some (.int .i64 1) := fun O => (hn 0 2 O (by omega)).trans hP.one2
  have b0 : ∀ O : Obj, (w.alloc O).cell? ⟨1, 0, none⟩ = some (.int .i64 1) := fun O => (hn 1 0 O (by omega)).trans hP.all0
  have b1 : ∀ O : Obj, (w.alloc O).cell? ⟨1, 1, none⟩ = some (.int .i64 (-1)) := fun O => (hn 1 1 O (by omega)).trans hP.all1
  have b2 : ∀ O : Obj, (w.alloc O).cell? ⟨1, 2, none⟩ = some (.int .i64 1) := fun O => (hn 1 2 O (by omega)).trans hP.all2
  have c0 : ∀ O : Obj, (w.alloc O).cell? ⟨2, 0, none⟩ = some (.int .i64 1) := fun O => (hn 2 0 O (by omega)).trans hP.two0
  have c1 : ∀ O : Obj, (w.alloc O).cell? ⟨2, 1, none⟩ = some (.int .i64 2) := fun O => (hn 2 1 O (by omega)).trans hP.two1
  have c2 : ∀ O : Obj, (w.alloc O).cell? ⟨2, 2, none⟩ = some (.int .i64 1) := fun O => (hn 2 2 O (by omega)).trans hP.two2
  clear hn hP
  go_enter Tryd.func57, Tryd.ntmps57
  go_wp2
  refine bodyPost_ret (v := spV (some ⟨1, 1, 1, e0, 3, 3, false, false, false⟩)) ?_ rfl ⟨rfl, ?_⟩
  · simp [spV, Sp.val, Sp.zero, e0, results, Tryd.results57, go_sem]
  · exact ((Below.refl _ _).alloc (Nat.le_refl _) _)

set_option maxHeartbeats 4000000 in
set_option maxRecDepth 100000 in
theorem middle_at26 (w : World) (hP : Plc w) :
    Calls Tryd.prog 57 #[.string ⟨#[72, 77, 71, 69, 84]⟩] w fun e w' => e = .returned (spV (some ⟨1, 1, 1, e0, 3, 40, false, false, false⟩)) ∧ Below w.heap.size w w' := by
  have hn : ∀ k o (O : Obj), k < 9 → (w.alloc O).cell? ⟨k, o, none⟩ = w.cell? ⟨k, o, none⟩ := fun k o O hk => World.cell?_alloc_old _ _ _ (by have := hP.size; simp; omega)
  have a0 : ∀ O : Obj, (w.alloc O).cell? ⟨0, 0, none⟩ = some (.int .i64 1) := fun O => (hn 0 0 O (by omega)).trans hP.one0
  have a1 : ∀ O : Obj, (w.alloc O).cell? ⟨0, 1, none⟩ = some (.int .i64 1) := fun O => (hn 0 1 O (by omega)).trans hP.one1
  have a2 : ∀ O : Obj, (w.alloc O).cell? ⟨0, 2, none⟩ = some (.int .i64 1) := fun O => (hn 0 2 O (by omega)).trans hP.one2
  have b0 : ∀ O : Obj, (w.alloc O).cell? ⟨1, 0, none⟩ = some (.int .i64 1) := fun O => (hn 1 0 O (by omega)).trans hP.all0
  have b1 : ∀ O : Obj, (w.alloc O).cell? ⟨1, 1, none⟩ = some (.int .i64 (-1)) := fun O => (hn 1 1 O (by omega)).trans hP.all1
  have b2 : ∀ O : Obj, (w.alloc O).cell? ⟨1, 2, none⟩ = some (.int .i64 1) := fun O => (hn 1 2 O (by omega)).trans hP.all2
  have c0 : ∀ O : Obj, (w.alloc O).cell? ⟨2, 0, none⟩ = some (.int .i64 1) := fun O => (hn 2 0 O (by omega)).trans hP.two0
  have c1 : ∀ O : Obj, (w.alloc O).cell? ⟨2, 1, none⟩ = some (.int .i64 2) := fun O => (hn 2 1 O (by omega)).trans hP.two1
  have c2 : ∀ O : Obj, (w.alloc O).cell? ⟨2, 2, none⟩ = some (.int .i64 1) := fun O => (hn 2 2 O (by omega)).trans hP.two2
  clear hn hP
  go_enter Tryd.func57, Tryd.ntmps57
  go_wp2
  refine bodyPost_ret (v := spV (some ⟨1, 1, 1, e0, 3, 40, false, false, false⟩)) ?_ rfl ⟨rfl, ?_⟩
  · simp [spV, Sp.val, Sp.zero, e0, results, Tryd.results57, go_sem]
  · exact ((Below.refl _ _).alloc (Nat.le_refl _) _)

set_option maxHeartbeats 4000000 in
set_option maxRecDepth 100000 in
theorem middle_at27 (w : World) (hP : Plc w) :
    Calls Tryd.prog 57 #[.string ⟨#[72, 68, 69, 76]⟩] w fun e w' => e = .returned (spV (some ⟨1, 1, 1, e0, 3, 40, true, false, false⟩)) ∧ Below w.heap.size w w' := by
  have hn : ∀ k o (O : Obj), k < 9 → (w.alloc O).cell? ⟨k, o, none⟩ = w.cell? ⟨k, o, none⟩ := fun k o O hk => World.cell?_alloc_old _ _ _ (by have := hP.size; simp; omega)
  have a0 : ∀ O : Obj, (w.alloc O).cell? ⟨0, 0, none⟩ = some (.int .i64 1) := fun O => (hn 0 0 O (by omega)).trans hP.one0
  have a1 : ∀ O : Obj, (w.alloc O).cell? ⟨0, 1, none⟩ = some (.int .i64 1) := fun O => (hn 0 1 O (by omega)).trans hP.one1
  have a2 : ∀ O : Obj, (w.alloc O).cell? ⟨0, 2, none⟩ = some (.int .i64 1) := fun O => (hn 0 2 O (by omega)).trans hP.one2
  have b0 : ∀ O : Obj, (w.alloc O).cell? ⟨1, 0, none⟩ = some (.int .i64 1) := fun O => (hn 1 0 O (by omega)).trans hP.all0
  have b1 : ∀ O : Obj, (w.alloc O).cell? ⟨1, 1, none⟩ = some (.int .i64 (-1)) := fun O => (hn 1 1 O (by omega)).trans hP.all1
  have b2 : ∀ O : Obj, (w.alloc O).cell? ⟨1, 2, none⟩ = some (.int .i64 1) := fun O => (hn 1 2 O (by omega)).trans hP.all2
  have c0 : ∀ O : Obj, (w.alloc O).cell? ⟨2, 0, none⟩ = some (.int .i64 1) := fun O => (hn 2 0 O (by omega)).trans hP.two0
  have c1 : ∀ O : Obj, (w.alloc O).cell? ⟨2, 1, none⟩ = some (.int .i64 2) := fun O => (hn 2 1 O (by omega)).trans hP.two1
  have c2 : ∀ O : Obj, (w.alloc O).cell? ⟨2, 2, none⟩ = some (.int .i64 1) := fun O => (hn 2 2 O (by omega)).trans hP.two2
  clear hn hP
  go_enter Tryd.func57, Tryd.ntmps57
  go_wp2
  refine bodyPost_ret (v := spV (some ⟨1, 1, 1, e0, 3, 40, true, false, false⟩)) ?_ rfl ⟨rfl, ?_⟩
  · simp [spV, Sp.val, Sp.zero, e0, results, Tryd.results57, go_sem]
  · exact ((Below.refl _ _).alloc (Nat.le_refl _) _)

set_option maxHeartbeats 4000000 in
set_option maxRecDepth 100000 in
theorem middle_at28 (w : World) (hP : Plc w) :
    Calls Tryd.prog 57 #[.string ⟨#[76, 80, 85, 83, 72]⟩] w fun e w' => e = .returned (spV (some ⟨1, 1, 1, e0, 3, 40, true, false, false⟩)) ∧ Below w.heap.size w w' := by
  have hn : ∀ k o (O : Obj), k < 9 → (w.alloc O).cell? ⟨k, o, none⟩ = w.cell? ⟨k, o, none⟩ := fun k o O hk => World.cell?_alloc_old _ _ _ (by have := hP.size; simp; omega)
  have a0 : ∀ O : Obj, (w.alloc O).cell? ⟨0, 0, none⟩ = some (.int .i64 1) := fun O => (hn 0 0 O (by omega)).trans hP.one0
  have a1 : ∀ O : Obj, (w.alloc O).cell? ⟨0, 1, none⟩ = some (.int .i64 1) := fun O => (hn 0 1 O (by omega)).trans hP.one1
  have a2 : ∀ O : Obj, (w.alloc O).cell? ⟨0, 2, none⟩ = some (.int .i64 1) := fun O => (hn 0 2 O (by omega)).trans hP.one2
  have b0 : ∀ O : Obj, (w.alloc O).cell? ⟨1, 0, none⟩ = some (.int .i64 1) := fun O => (hn 1 0 O (by omega)).trans hP.all0
  have b1 : ∀ O : Obj, (w.alloc O).cell? ⟨1, 1, none⟩ = some (.int .i64 (-1)) := fun O => (hn 1 1 O (by omega)).trans hP.all1
  have b2 : ∀ O : Obj, (w.alloc O).cell? ⟨1, 2, none⟩ = some (.int .i64 1) := fun O => (hn 1 2 O (by omega)).trans hP.all2
  have c0 : ∀ O : Obj, (w.alloc O).cell? ⟨2, 0, none⟩ = some (.int .i64 1) := fun O => (hn 2 0 O (by omega)).trans hP.two0
  have c1 : ∀ O : Obj, (w.alloc O).cell? ⟨2, 1, none⟩ = some (.int .i64 2) := fun O => (hn 2 1 O (by omega)).trans hP.two1
  have c2 : ∀ O : Obj, (w.alloc O).cell? ⟨2, 2, none⟩ = some (.int .i64 1) := fun O => (hn 2 2 O (by omega)).trans hP.two2
  clear hn hP
  go_enter Tryd.func57, Tryd.ntmps57
  go_wp2
  refine bodyPost_ret (v := spV (some ⟨1, 1, 1, e0, 3, 40, true, false, false⟩)) ?_ rfl ⟨rfl, ?_⟩
  · simp [spV, Sp.val, Sp.zero, e0, results, Tryd.results57, go_sem]
  · exact ((Below.refl _ _).alloc (Nat.le_refl _) _)

set_option maxHeartbeats 4000000 in
set_option maxRecDepth 100000 in
theorem middle_at29 (w : World) (hP : Plc w) :
    Calls Tryd.prog 57 #[.string ⟨#[82, 80, 85, 83, 72]⟩] w fun e w' => e = .returned (spV (some ⟨1, 1, 1, e0, 3, 40, true, false, false⟩)) ∧ Below w.heap.size w w' := by
  have hn : ∀ k o (O : Obj), k < 9 → (w.alloc O).cell? ⟨k, o, none⟩ = w.cell? ⟨k, o, none⟩ := fun k o O hk => World.cell?_alloc_old _ _ _ (by have := hP.size; simp; omega)
  have a0 : ∀ O : Obj, (w.alloc O).cell? ⟨0, 0, none⟩ = some (.int .i64 1) := fun O => (hn 0 0 O (by omega)).trans hP.one0
  have a1 : ∀ O : Obj, (w.alloc O).cell? ⟨0, 1, none⟩ = some (.int .i64 1) := fun O => (hn 0 1 O (by omega)).trans hP.one1
  have a2 : ∀ O : Obj, (w.alloc O).cell? ⟨0, 2, none⟩ = some (.int .i64 1) := fun O => (hn 0 2 O (by omega)).trans hP.one2
  have b0 : ∀ O : Obj, (w.alloc O).cell? ⟨1, 0, none⟩ = some (.int .i64 1) := fun O => (hn 1 0 O (by omega)).trans hP.all0
  have b1 : ∀ O : Obj, (w.alloc O).cell? ⟨1, 1, none⟩ = some (.int .i64 (-1)) := fun O => (hn 1 1 O (by omega)).trans hP.all1
  have b2 : ∀ O : Obj, (w.alloc O).cell? ⟨1, 2, none⟩ = some (.int .i64 1) := fun O => (hn 1 2 O (by omega)).trans hP.all2
  have c0 : ∀ O : Obj, (w.alloc O).cell? ⟨2, 0, none⟩ = some (.int .i64 1) := fun O => (hn 2 0 O (by omega)).trans hP.two0
  have c1 : ∀ O : Obj, (w.alloc O).cell? ⟨2, 1, none⟩ = some (.int .i64 2) := fun O => (hn 2 1 O (by omega)).trans hP.two1
  have c2 : ∀ O : Obj, (w.alloc O).cell? ⟨2, 2, none⟩ = some (.int .i64 1) := fun O => (hn 2 2 O (by omega)).trans hP.two2
  clear hn hP
  go_enter Tryd.func57, Tryd.ntmps57
  go_wp2
  refine bodyPost_ret (v := spV (some ⟨1, 1, 1, e0, 3, 40, true, false, false⟩)) ?_ rfl ⟨rfl, ?_⟩
  · simp [spV, Sp.val, Sp.zero, e0, results, Tryd.results57, go_sem]
  · exact ((Below.refl _ _).alloc (Nat.le_refl _) _)

set_option maxHeartbeats 4000000 in
set_option maxRecDepth 100000 in
theorem middle_at30 (w : World) (hP : Plc w) :
    Calls Tryd.prog 57 #[.string ⟨#[83, 65, 68, 68]⟩] w fun e w' => e = .returned (spV (some ⟨1, 1, 1, e0, 3, 40, true, false, false⟩)) ∧ Below w.heap.size w w' := by
  have hn : ∀ k o (O : Obj), k < 9 → (w.alloc O).cell? ⟨k, o, none⟩ = w.cell? ⟨k, o, none⟩ := fun k o O hk => World.cell?_alloc_old _ _ _ (by have := hP.size; simp; omega)
  have a0 : ∀ O : Obj, (w.alloc O).cell? ⟨0, 0, none⟩ = some (.int .i64 1) := fun O => (hn 0 0 O (by omega)).trans hP.one0
  have a1 : ∀ O : Obj, (w.alloc O).cell? ⟨0, 1, none⟩ = some (.int .i64 1) := fun O => (hn 0 1 O (by omega)).trans hP.one1
  have a2 : ∀ O : Obj, (w.alloc O).cell? ⟨0, 2, none⟩ = some (.int .i64 1) := fun O => (hn 0 2 O (by omega)).trans hP.one2
  have b0 : ∀ O : Obj, (w.alloc O).cell? ⟨1, 0, none⟩ = some (.int .i64 1) := fun O => (hn 1 0 O (by omega)).trans hP.all0
  have b1 : ∀ O : Obj, (w.alloc O).cell? ⟨1, 1, none⟩ = some (.int .i64 (-1)) := fun O => (hn 1 1 O (by omega)).trans hP.all1
  have b2 : ∀ O : Obj, (w.alloc O).cell? ⟨1, 2, none⟩ = some (.int .i64 1) := fun O => (hn 1 2 O (by omega)).trans hP.all2
  have c0 : ∀ O : Obj, (w.alloc O).cell? ⟨2, 0, none⟩ = some (.int .i64 1) := fun O => (hn 2 0 O (by omega)).trans hP.two0
  have c1 : ∀ O : Obj, (w.alloc O).cell? ⟨2, 1, none⟩ = some (.int .i64 2) := fun O => (hn 2 1 O (by omega)).trans hP.two1
  have c2 : ∀ O : Obj, (w.alloc O).cell? ⟨2, 2, none⟩ = some (.int .i64 1) := fun O => (hn 2 2 O (by omega)).trans hP.two2
  clear hn hP
  go_enter Tryd.func57, Tryd.ntmps57
  go_wp2
  refine bodyPost_ret (v := spV (some ⟨1, 1, 1, e0, 3, 40, true, false, false⟩)) ?_ rfl ⟨rfl, ?_⟩
  · simp [spV, Sp.val, Sp.zero, e0, results, Tryd.results57, go_sem]
  · exact ((Below.refl _ _).alloc (Nat.le_refl _) _)

set_option maxHeartbeats 4000000 in
set_option maxRecDepth 100000 in
theorem middle_at31 (w : World) (hP : Plc w) :
    Calls Tryd.prog 57 #[.string ⟨#[83, 82, 69, 77]⟩] w fun e w' => e = .returned (spV (some ⟨1, 1, 1, e0, 3, 40, true, false, false⟩)) ∧ Below w.heap.size w w' := by
  have hn : ∀ k o (O : Obj), k < 9 → (w.alloc O).cell? ⟨k, o, none⟩ = w.cell? ⟨k, o, none⟩ := fun k o O hk => World.cell?_alloc_old _ _ _ (by have := hP.size; simp; omega)
  have a0 : ∀ O : Obj, (w.alloc O).cell? ⟨0, 0, none⟩ = some (.int .i64 1) := fun O => (hn 0 0 O (by omega)).trans hP.one0
  have a1 : ∀ O : Obj, (w.alloc O).cell? ⟨0, 1, none⟩ = some (.int .i64 1) := fun O => (hn 0 1 O (by omega)).trans hP.one1
  have a2 : ∀ O : Obj, (w.alloc O).cell? ⟨0, 2, none⟩ = some (.int .i64 1) := fun O => (hn 0 2 O (by omega)).trans hP.one2
  have b0 : ∀ O : Obj, (w.alloc O).cell? ⟨1, 0, none⟩ = some (.int .i64 1) := fun O => (hn 1 0 O (by omega)).trans hP.all0
  have b1 : ∀ O : Obj, (w.alloc O).cell? ⟨1, 1, none⟩ = some (.int .i64 (-1)) := fun O => (hn 1 1 O (by omega)).trans hP.all1
  have b2 : ∀ O : Obj, (w.alloc O).cell? ⟨1, 2, none⟩ = some (.int .i64 1) := fun O => (hn 1 2 O (by omega)).trans hP.all2
  have c0 : ∀ O : Obj, (w.alloc O).cell? ⟨2, 0, none⟩ = some (.int .i64 1) := fun O => (hn 2 0 O (by omega)).trans hP.two0
  have c1 : ∀ O : Obj, (w.alloc O).cell? ⟨2, 1, none⟩ = some (.int .i64 2) := fun O => (hn 2 1 O (by omega)).trans hP.two1
  have c2 : ∀ O : Obj, (w.alloc O).cell? ⟨2, 2, none⟩ = some (.int .i64 1) := fun O => (hn 2 2 O (by omega)).trans hP.two2
  clear hn hP
  go_enter Tryd.func57, Tryd.ntmps57
  go_wp2
  refine bodyPost_ret (v := spV (some ⟨1, 1, 1, e0, 3, 40, true, false, false⟩)) ?_ rfl ⟨rfl, ?_⟩
  · simp [spV, Sp.val, Sp.zero, e0, results, Tryd.results57, go_sem]
  · exact ((Below.refl _ _).alloc (Nat.le_refl _) _)

set_option maxHeartbeats 4000000 in
set_option maxRecDepth 100000 in
theorem middle_at32 (w : World) (hP : Plc w) :
    Calls Tryd.prog 57 #[.string ⟨#[90, 82, 69, 77]⟩] w fun e w' => e = .returned (spV (some ⟨1, 1, 1, e0, 3, 40, true, false, false⟩)) ∧ Below w.heap.size w w' := by
  have hn : ∀ k o (O : Obj), k < 9 → (w.alloc O).cell? ⟨k, o, none⟩ = w.cell? ⟨k, o, none⟩ := fun k o O hk => World.cell?_alloc_old _ _ _ (by have := hP.size; simp; omega)
  have a0 : ∀ O : Obj, (w.alloc O).cell? ⟨0, 0, none⟩ = some (.int .i64 1) := fun O => (hn 0 0 O (by omega)).trans hP.one0
  have a1 : ∀ O : Obj, (w.alloc O).cell? ⟨0, 1, none⟩ = some (.int .i64 1) := fun O => (hn 0 1 O (by omega)).trans hP.one1
  have a2 : ∀ O : Obj, (w.alloc O).cell? ⟨0, 2, none⟩ = some (.int .i64 1) := fun O => (hn 0 2 O (by omega)).trans hP.one2
  have b0 : ∀ O : Obj, (w.alloc O).cell? ⟨1, 0, none⟩ = some (.int .i64 1) := fun O => (hn 1 0 O (by omega)).trans hP.all0
  have b1 : ∀ O : Obj, (w.alloc O).cell? ⟨1, 1, none⟩ = some (.int .i64 (-1)) := fun O => (hn 1 1 O (by omega)).trans hP.all1
  have b2 : ∀ O : Obj, (w.alloc O).cell? ⟨1, 2, none⟩ = some (.int .i64 1) := fun O => (hn 1 2 O (by omega)).trans hP.all2
  have c0 : ∀ O : Obj, (w.alloc O).cell? ⟨2, 0, none⟩ = some (.int .i64 1) := fun O => (hn 2 0 O (by omega)).trans hP.two0
  have c1 : ∀ O : Obj, (w.alloc O).cell? ⟨2, 1, none⟩ = some (.int .i64 2) := fun O => (hn 2 1 O (by omega)).trans hP.two1
  have c2 : ∀ O : Obj, (w.alloc O).cell? ⟨2, 2, none⟩ = some (.int .i64 1) := fun O => (hn 2 2 O (by omega)).trans hP.two2
  clear hn hP
  go_enter Tryd.func57, Tryd.ntmps57
  go_wp2
  refine bodyPost_ret (v := spV (some ⟨1, 1, 1, e0, 3, 40, true, false, false⟩)) ?_ rfl ⟨rfl, ?_⟩
  · simp [spV, Sp.val, Sp.zero, e0, results, Tryd.results57, go_sem]
  · exact ((Below.refl _ _).alloc (Nat.le_refl _) _)

set_option maxHeartbeats 4000000 in
set_option maxRecDepth 100000 in
theorem middle_no (s : ByteArray) (w : World) (hP : Plc w)
    (h0 : (s.toList == [87, 65, 84, 67, 72]) = false)
    (h1 : (s.toList == [69, 88, 73, 83, 84, 83]) = false)
    (h2 : (s.toList == [77, 71, 69, 84]) = false)
    (h3 : (s.toList == [83, 73, 78, 84, 69, 82]) = false)
    (h4 : (s.toList == [83, 85, 78, 73, 79, 78]) = false)
    (h5 : (s.toList == [83, 68, 73, 70, 70]) = false)
    (h6 : (s.toList == [68, 69, 76]) = false)
    (h7 : (s.toList == [83, 69, 84]) = false)
    (h8 : (s.toList == [71, 69, 84, 83, 69, 84]) = false)
    (h9 : (s.toList == [83, 69, 84, 78, 88]) = false)
    (h10 : (s.toList == [65, 80, 80, 69, 78, 68]) = false)
    (h11 : (s.toList == [73, 78, 67, 82, 66, 89]) = false)
    (h12 : (s.toList == [68, 69, 67, 82, 66, 89]) = false)
    (h13 : (s.toList == [69, 88, 80, 73, 82, 69]) = false)
    (h14 : (s.toList == [80, 69, 88, 80, 73, 82, 69]) = false)
    (h15 : (s.toList == [80, 69, 88, 80, 73, 82, 69, 65, 84]) = false)
    (h16 : (s.toList == [82, 69, 78, 65, 77, 69]) = false)
    (h17 : (s.toList == [82, 80, 79, 80, 76, 80, 85, 83, 72]) = false)
    (h18 : (s.toList == [77, 83, 69, 84]) = false)
    (h19 : (s.toList == [72, 71, 69, 84]) = false)
    (h20 : (s.toList == [72, 69, 88, 73, 83, 84, 83]) = false)
    (h21 : (s.toList == [76, 73, 78, 68, 69, 88]) = false)
    (h22 : (s.toList == [83, 73, 83, 77, 69, 77, 66, 69, 82]) = false)
    (h23 : (s.toList == [90, 83, 67, 79, 82, 69]) = false)
    (h24 : (s.toList == [90, 82, 65, 78, 75]) = false)
    (h25 : (s.toList == [90, 82, 69, 86, 82, 65, 78, 75]) = false)
    (h26 : (s.toList == [72, 77, 71, 69, 84]) = false)
    (h27 : (s.toList == [72, 68, 69, 76]) = false)
    (h28 : (s.toList == [76, 80, 85, 83, 72]) = false)
    (h29 : (s.toList == [82, 80, 85, 83, 72]) = false)
    (h30 : (s.toList == [83, 65, 68, 68]) = false)
    (h31 : (s.toList == [83, 82, 69, 77]) = false)
    (h32 : (s.toList == [90, 82, 69, 77]) = false)
    : Calls Tryd.prog 57 #[.string s] w fun e w' => e = .returned (spV none) ∧ Below w.heap.size w w' := by
  clear hP
  go_enter Tryd.func57, Tryd.ntmps57
  go_wp2
  refine bodyPost_ret (v := spV none) ?_ rfl ⟨rfl, ?_⟩
  · simp [spV, Sp.val, Sp.zero, e0, results, Tryd.results57, go_sem]
  · exact ((Below.refl _ _).alloc (Nat.le_refl _) _)

end Go.Proofs.YtbfbmgkgaokecaaDoor.Vb
