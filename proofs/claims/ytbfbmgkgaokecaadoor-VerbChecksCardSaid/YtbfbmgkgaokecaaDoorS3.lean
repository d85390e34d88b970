/- verb.wide: what it tells of each name, and of others. Written by gen_specs.py. -/
import Derived.Test.YtbfbmgkgaokecaaDoorTbl
import Derived.Deep.QuietTactic
import Derived.BigQuiet
import Derived.Lib.Hide
import Derived.OwnWalk
namespace Go.Proofs.YtbfbmgkgaokecaaDoor.Vb
open Go.RowKit
set_option linter.unusedSimpArgs false
set_option linter.unusedVariables false

set_option maxHeartbeats 4000000 in
set_option maxRecDepth 100000 in
theorem wide_at0 (w : World) (hP : Plc w) :
    Calls Tryd.prog 58 #[.string ⟨#[71, 69, 84, 82, 65, 78, 71, 69]⟩] w fun e w' => e = .returned (spV (some ⟨1, 1, 1, e0, 4, 4, false, false, false⟩)) ∧ Below w.heap.size w w' := by
  have hn : ∀ k o (O : Obj), k < 9 → (w.alloc O).cell? ⟨k, o, none⟩ = w.cell? ⟨k, o, none⟩ := fun k o O hk => World.cell?_alloc_old _ _ _ (by have := hP.size; simp; omega)
  have a0 : ∀ O : Obj, (w.alloc O).cell? ⟨0, 0, none⟩ = some (.int .i64 1) := fun O => (hn 0 0 O (by omega)).trans hP.one0
  have a1 : ∀ O : Obj, (w.alloc O).cell? ⟨0, 1, none⟩ = some (.int .i64 1) := fun O => (hn 0 1 O (by omega)).trans hP.one1
  have a2 : ∀ O : Obj, (w.alloc O).cell? ⟨0, 2, none⟩ = some (.int .i64 1) := fun O => (hn 0 2 O (by omega)).trans hP.one2
  have b0 : ∀ O : Obj, (w.alloc O).cell? ⟨1, 0, none⟩ = some (.int .i64 1) := fun O => (hn 1 0 O (by omega)).trans hP.all0
  have b1 : ∀ O : Obj, (w.alloc O).cell? ⟨1, 1, none⟩ = some (.int .i64 (-1)) := fun O => (hn 1 1 O (by omega)).trans hP.all1
  have b2 : ∀ O : Obj, (w.alloc O).cell? ⟨1, 2, none⟩ = some (.int .i64 1) := fun O => (hn 1 2 O (by omega)).trans hP.all2
  have c0 : ∀ O : Obj, (w.alloc O).cell? ⟨2, 0, none⟩ = some (.int .i64 1) := fun O => (hn 2 0 O (by omega)).trans hP.two0
  have c1 : ∀ O : Obj, (w.alloc O).cell? ⟨2, 1, none⟩ = some (.int .i64 2) := fun O => (hn 2 1 O (by omega)).trans hP.two1
  have c2 : ∀ O : Obj, (w.alloc O).cell? ⟨2, 2, none⟩ = some (.int .i64 1) := fun O => (hn 2 2 O (by omega)).trans hP.two2
  clear hn hP
  go_enter Tryd.func58, Tryd.ntmps58
  go_wp2
  refine bodyPost_ret (v := spV (some ⟨1, 1, 1, e0, 4, 4, false, false, false⟩)) ?_ rfl ⟨rfl, ?_⟩
  · simp [spV, Sp.val, Sp.zero, e0, results, Tryd.results58, go_sem]
  · exact ((Below.refl _ _).alloc (Nat.le_refl _) _)

set_option maxHeartbeats 4000000 in
set_option maxRecDepth 100000 in
theorem wide_at1 (w : World) (hP : Plc w) :
    Calls Tryd.prog 58 #[.string ⟨#[76, 82, 65, 78, 71, 69]⟩] w fun e w' => e = .returned (spV (some ⟨1, 1, 1, e0, 4, 4, false, false, false⟩)) ∧ Below w.heap.size w w' := by
  have hn : ∀ k o (O : Obj), k < 9 → (w.alloc O).cell? ⟨k, o, none⟩ = w.cell? ⟨k, o, none⟩ := fun k o O hk => World.cell?_alloc_old _ _ _ (by have := hP.size; simp; omega)
  have a0 : ∀ O : Obj, (w.alloc O).cell? ⟨0, 0, none⟩ = some (.int .i64 1) := fun O => (hn 0 0 O (by omega)).trans hP.one0
  have a1 : ∀ O : Obj, (w.alloc O).cell? ⟨0, 1, none⟩ = some (.int .i64 1) := fun O => (hn 0 1 O (by omega)).trans hP.one1
  have a2 : ∀ O : Obj, (w.alloc O).cell? ⟨0, 2, none⟩ = some (.int .i64 1) := fun O => (hn 0 2 O (by omega)).trans hP.one2
  have b0 : ∀ O : Obj, (w.alloc O).cell? ⟨1, 0, none⟩ = some (.int .i64 1) := fun O => (hn 1 0 O (by omega)).trans hP.all0
  have b1 : ∀ O : Obj, (w.alloc O).cell? ⟨1, 1, none⟩ = some (.int .i64 (-1)) := fun O => (hn 1 1 O (by omega)).trans hP.all1
  have b2 : ∀ O : Obj, (w.alloc O).cell? ⟨1, 2, none⟩ = some (.int .i64 1) := fun O => (hn 1 2 O (by omega)).trans hP.all2
  have c0 : ∀ O : Obj, (w.alloc O).cell? ⟨2, 0, none⟩ = some (.int .i64 1) := fun O => (hn 2 0 O (by omega)).trans hP.two0
  have c1 : ∀ O : Obj, (w.alloc O).cell? ⟨2, 1, none⟩ = some (.int .i64 2) := fun O => (hn 2 1 O (by omega)).trans hP.two1
  have c2 : ∀ O : Obj, (w.alloc O).cell? ⟨2, 2, none⟩ = some (.int .i64 1) := fun O => (hn 2 2 O (by omega)).trans hP.two2
  clear hn hP
  go_enter Tryd.func58, Tryd.ntmps58
  go_wp2
  refine bodyPost_ret (v := spV (some ⟨1, 1, 1, e0, 4, 4, false, false, false⟩)) ?_ rfl ⟨rfl, ?_⟩
  · simp [spV, Sp.val, Sp.zero, e0, results, Tryd.results58, go_sem]
  · exact ((Below.refl _ _).alloc (Nat.le_refl _) _)

set_option maxHeartbeats 4000000 in
set_option maxRecDepth 100000 in
theorem wide_at2 (w : World) (hP : Plc w) :
    Calls Tryd.prog 58 #[.string ⟨#[90, 82, 69, 86, 82, 65, 78, 71, 69]⟩] w fun e w' => e = .returned (spV (some ⟨1, 1, 1, e0, 4, 4, false, false, false⟩)) ∧ Below w.heap.size w w' := by
  have hn : ∀ k o (O : Obj), k < 9 → (w.alloc O).cell? ⟨k, o, none⟩ = w.cell? ⟨k, o, none⟩ := fun k o O hk => World.cell?_alloc_old _ _ _ (by have := hP.size; simp; omega)
  have a0 : ∀ O : Obj, (w.alloc O).cell? ⟨0, 0, none⟩ = some (.int .i64 1) := fun O => (hn 0 0 O (by omega)).trans hP.one0
  have a1 : ∀ O : Obj, (w.alloc O).cell? ⟨0, 1, none⟩ = some (.int .i64 1) := fun O => (hn 0 1 O (by omega)).trans hP.one1
  have a2 : ∀ O : Obj, (w.alloc O).cell? ⟨0, 2, none⟩ = some (.int .i64 1) := fun O => (hn 0 2 O (by omega)).trans hP.one2
  have b0 : ∀ O : Obj, (w.alloc O).cell? ⟨1, 0, none⟩ = some (.int .i64 1) := fun O => (hn 1 0 O (by omega)).trans hP.all0
  have b1 : ∀ O : Obj, (w.alloc O).cell? ⟨1, 1, none⟩ = some (.int .i64 (-1)) := fun O => (hn 1 1 O (by omega)).trans hP.all1
  have b2 : ∀ O : Obj, (w.alloc O).cell? ⟨1, 2, none⟩ = some (.int .i64 1) := fun O => (hn 1 2 O (by omega)).trans hP.all2
  have c0 : ∀ O : Obj, (w.alloc O).cell? ⟨2, 0, none⟩ = some (.int .i64 1) := fun O => (hn 2 0 O (by omega)).trans hP.two0
  have c1 : ∀ O : Obj, (w.alloc O).cell? ⟨2, 1, none⟩ = some (.int .i64 2) := fun O => (hn 2 1 O (by omega)).trans hP.two1
  have c2 : ∀ O : Obj, (w.alloc O).cell? ⟨2, 2, none⟩ = some (.int .i64 1) := fun O => (hn 2 2 O (by omega)).trans hP.two2
  clear hn hP
  go_enter Tryd.func58, Tryd.ntmps58
  go_wp2
  refine bodyPost_ret (v := spV (some ⟨1, 1, 1, e0, 4, 4, false, false, false⟩)) ?_ rfl ⟨rfl, ?_⟩
  · simp [spV, Sp.val, Sp.zero, e0, results, Tryd.results58, go_sem]
  · exact ((Below.refl _ _).alloc (Nat.le_refl _) _)

set_option maxHeartbeats 4000000 in
set_option maxRecDepth 100000 in
theorem wide_at3 (w : World) (hP : Plc w) :
    Calls Tryd.prog 58 #[.string ⟨#[90, 82, 65, 78, 71, 69, 66, 89, 83, 67, 79, 82, 69]⟩] w fun e w' => e = .returned (spV (some ⟨1, 1, 1, e0, 4, 4, false, false, false⟩)) ∧ Below w.heap.size w w' := by
  have hn : ∀ k o (O : Obj), k < 9 → (w.alloc O).cell? ⟨k, o, none⟩ = w.cell? ⟨k, o, none⟩ := fun k o O hk => World.cell?_alloc_old _ _ _ (by have := hP.size; simp; omega)
  have a0 : ∀ O : Obj, (w.alloc O).cell? ⟨0, 0, none⟩ = some (.int .i64 1) := fun O => (hn 0 0 O (by omega)).trans hP.one0
  have a1 : ∀ O : Obj, (w.alloc O).cell? ⟨0, 1, none⟩ = some (.int .i64 1) := fun O => (hn 0 1 O (by omega)).trans hP.one1
  have a2 : ∀ O : Obj, (w.alloc O).cell? ⟨0, 2, none⟩ = some (.int .i64 1) := fun O => (hn 0 2 O (by omega)).trans hP.one2
  have b0 : ∀ O : Obj, (w.alloc O).cell? ⟨1, 0, none⟩ = some (.int .i64 1) := fun O => (hn 1 0 O (by omega)).trans hP.all0
  have b1 : ∀ O : Obj, (w.alloc O).cell? ⟨1, 1, none⟩ = some (.int .i64 (-1)) := fun O => (hn 1 1 O (by omega)).trans hP.all1
  have b2 : ∀ O : Obj, (w.alloc O).cell? ⟨1, 2, none⟩ = some (.int .i64 1) := fun O => (hn 1 2 O (by omega)).trans hP.all2
  have c0 : ∀ O : Obj, (w.alloc O).cell? ⟨2, 0, none⟩ = some (.int .i64 1) := fun O => (hn 2 0 O (by omega)).trans hP.two0
  have c1 : ∀ O : Obj, (w.alloc O).cell? ⟨2, 1, none⟩ = some (.int .i64 2) := fun O => (hn 2 1 O (by omega)).trans hP.two1
  have c2 : ∀ O : Obj, (w.alloc O).cell? ⟨2, 2, none⟩ = some (.int .i64 1) := fun O => (hn 2 2 O (by omega)).trans hP.two2
  clear hn hP
  go_enter Tryd.func58, Tryd.ntmps58
  go_wp2
  refine bodyPost_ret (v := spV (some ⟨1, 1, 1, e0, 4, 4, false, false, false⟩)) ?_ rfl ⟨rfl, ?_⟩
  · simp [spV, Sp.val, Sp.zero, e0, results, Tryd.results58, go_sem]
  · exact ((Below.refl _ _).alloc (Nat.le_refl _) _)

set_option maxHeartbeats 4000000 in
set_option maxRecDepth 100000 in
theorem wide_at4 (w : World) (hP : Plc w) :
    Calls Tryd.prog 58 #[.string ⟨#[90, 67, 79, 85, 78, 84]⟩] w fun e w' => e = .returned (spV (some ⟨1, 1, 1, e0, 4, 4, false, false, false⟩)) ∧ Below w.heap.size w w' := by
  have hn : ∀ k o (O : Obj), k < 9 → (w.alloc O).cell? ⟨k, o, none⟩ = w.cell? ⟨k, o, none⟩ := fun k o O hk => World.cell?_alloc_old _ _ _ (by have := hP.size; simp; omega)
  have a0 : ∀ O : Obj, (w.alloc O).cell? ⟨0, 0, none⟩ = some (.int .i64 1) := fun O => (hn 0 0 O (by omega)).trans hP.one0
  have a1 : ∀ O : Obj, (w.alloc O).cell? ⟨0, 1, none⟩ = some (.int .i64 1) := fun O => (hn 0 1 O (by omega)).trans hP.one1
  have a2 : ∀ O : Obj, (w.alloc O).cell? ⟨0, 2, none⟩ = some (.int .i64 1) := fun O => (hn 0 2 O (by omega)).trans hP.one2
  have b0 : ∀ O : Obj, (w.alloc O).cell? ⟨1, 0, none⟩ = some (.int .i64 1) := fun O => (hn 1 0 O (by omega)).trans hP.all0
  have b1 : ∀ O : Obj, (w.alloc O).cell? ⟨1, 1, none⟩ = some (.int .i64 (-1)) := fun O => (hn 1 1 O (by omega)).trans hP.all1
  have b2 : ∀ O : Obj, (w.alloc O).cell? ⟨1, 2, none⟩ = some (.int .i64 1) := fun O => (hn 1 2 O (by omega)).trans hP.all2
  have c0 : ∀ O : Obj, (w.alloc O).cell? ⟨2, 0, none⟩ = some (.int .i64 1) := fun O => (hn 2 0 O (by omega)).trans hP.two0
  have c1 : ∀ O : Obj, (w.alloc O).cell? ⟨2, 1, none⟩ = some (.int .i64 2) := fun O => (hn 2 1 O (by omega)).trans hP.two1
  have c2 : ∀ O : Obj, (w.alloc O).cell? ⟨2, 2, none⟩ = some (.int .i64 1) := fun O => (hn 2 2 O (by omega)).trans hP.two2
  clear hn hP
  go_enter Tryd.func58, Tryd.ntmps58
  go_wp2
  refine bodyPost_ret (v := spV (some ⟨1, 1, 1, e0, 4, 4, false, false, false⟩)) ?_ rfl ⟨rfl, ?_⟩
  · simp [spV, Sp.val, Sp.zero, e0, results, Tryd.results58, go_sem]
  · exact ((Below.refl _ _).alloc (Nat.le_refl _) _)

set_option maxHeartbeats 4000000 in
set_option maxRecDepth 100000 in
theorem wide_at5 (w : World) (hP : Plc w) :
    Calls Tryd.prog 58 #[.string ⟨#[83, 69, 84, 82, 65, 78, 71, 69]⟩] w fun e w' => e = .returned (spV (some ⟨1, 1, 1, e0, 4, 4, true, false, false⟩)) ∧ Below w.heap.size w w' := by
  have hn : ∀ k o (O : Obj), k < 9 → (w.alloc O).cell? ⟨k, o, none⟩ = w.cell? ⟨k, o, none⟩ := fun k o O hk => World.cell?_alloc_old _ _ _ (by have := hP.size; simp; omega)
  have a0 : ∀ O : Obj, (w.alloc O).cell? ⟨0, 0, none⟩ = some (.int .i64 1) := fun O => (hn 0 0 O (by omega)).trans hP.one0
  have a1 : ∀ O : Obj, (w.alloc O).cell? ⟨0, 1, none⟩ = some (.int .i64 1) := fun O => (hn 0 1 O (by omega)).trans hP.one1
  have a2 : ∀ O : Obj, (w.alloc O).cell? ⟨0, 2, none⟩ = some (.int .i64 1) := fun O => (hn 0 2 O (by omega)).trans hP.one2
  have b0 : ∀ O : Obj, (w.alloc O).cell? ⟨1, 0, none⟩ = some (.int .i64 1) := fun O => (hn 1 0 O (by omega)).trans hP.all0
  have b1 : ∀ O : Obj, (w.alloc O).cell? ⟨1, 1, none⟩ = some (.int .i64 (-1)) := fun O => (hn 1 1 O (by omega)).trans hP.all1
  have b2 : ∀ O : Obj, (w.alloc O).cell? ⟨1, 2, none⟩ = some (.int .i64 1) := fun O => (hn 1 2 O (by omega)).trans hP.all2
  have c0 : ∀ O : Obj, (w.alloc O).cell? ⟨2, 0, none⟩ = some (.int .i64 1) := fun O => (hn 2 0 O (by omega)).trans hP.two0
  have c1 : ∀ O : Obj, (w.alloc O).cell? ⟨2, 1, none⟩ = some (.int .i64 2) := fun O => (hn 2 1 O (by omega)).trans hP.two1
  have c2 : ∀ O : Obj, (w.alloc O).cell? ⟨2, 2, none⟩ = some (.int .i64 1) := fun O => (hn 2 2 O (by omega)).trans hP.two2
  clear hn hP
  go_enter Tryd.func58, Tryd.ntmps58
  go_wp2
  refine bodyPost_ret (v := spV (some ⟨1, 1, 1, e0, 4, 4, true, false, false⟩)) ?_ rfl ⟨rfl, ?_⟩
  · simp [spV, Sp.val, Sp.zero, e0, results, Tryd.results58, go_sem]
  · exact ((Below.refl _ _).alloc (Nat.le_refl _) _)

set_option maxHeartbeats 4000000 in
set_option maxRecDepth 100000 in
theorem wide_at6 (w : World) (hP : Plc w) :
    Calls Tryd.prog 58 #[.string ⟨#[72, 83, 69, 84, 78, 88]⟩] w fun e w' => e = .returned (spV (some ⟨1, 1, 1, e0, 4, 4, true, false, false⟩)) ∧ Below w.heap.size w w' := by
  have hn : ∀ k o (O : Obj), k < 9 → (w.alloc O).cell? ⟨k, o, none⟩ = w.cell? ⟨k, o, none⟩ := fun k o O hk => World.cell?_alloc_old _ _ _ (by have := hP.size; simp; omega)
  have a0 : ∀ O : Obj, (w.alloc O).cell? ⟨0, 0, none⟩ = some (.int .i64 1) := fun O => (hn 0 0 O (by omega)).trans hP.one0
  have a1 : ∀ O : Obj, (w.alloc O).cell? ⟨0, 1, none⟩ = some (.int .i64 1) := fun O => (hn 0 1 O (by omega)).trans hP.one1
  have a2 : ∀ O : Obj, (w.alloc O).cell? ⟨0, 2, none⟩ = some (.int .i64 1) := fun O => (hn 0 2 O (by omega)).trans hP.one2
  have b0 : ∀ O : Obj, (w.alloc O).cell? ⟨1, 0, none⟩ = some (.int .i64 1) := fun O => (hn 1 0 O (by omega)).trans hP.all0
  have b1 : ∀ O : Obj, (w.alloc O).cell? ⟨1, 1, none⟩ = some (.int .i64 (-1)) := fun O => (hn 1 1 O (by omega)).trans hP.all1
  have b2 : ∀ O : Obj, (w.alloc O).cell? ⟨1, 2, none⟩ = some (.int .i64 1) := fun O => (hn 1 2 O (by omega)).trans hP.all2
  have c0 : ∀ O : Obj, (w.alloc O).cell? ⟨2, 0, none⟩ = some (.int .i64 1) := fun O => (hn 2 0 O (by omega)).trans hP.two0
  have c1 : ∀ O : Obj, (w.alloc O).cell? ⟨2, 1, none⟩ = some (.int .i64 2) := fun O => (hn 2 1 O (by omega)).trans hP.two1
  have c2 : ∀ O : Obj, (w.alloc O).cell? ⟨2, 2, none⟩ = some (.int .i64 1) := fun O => (hn 2 2 O (by omega)).trans hP.two2
  clear hn hP
  go_enter Tryd.func58, Tryd.ntmps58
  go_wp2
  refine bodyPost_ret (v := spV (some ⟨1, 1, 1, e0, 4, 4, true, false, false⟩)) ?_ rfl ⟨rfl, ?_⟩
  · simp [spV, Sp.val, Sp.zero, e0, results, Tryd.results58, go_sem]
  · exact ((Below.refl _ _).alloc (Nat.le_refl _) _)

set_option maxHeartbeats 4000000 in
set_option maxRecDepth 100000 in
theorem wide_at7 (w : World) (hP : Plc w) :
    Calls Tryd.prog 58 #[.string ⟨#[72, 73, 78, 67, 82, 66, 89]⟩] w fun e w' => e = .returned (spV (some ⟨1, 1, 1, e0, 4, 4, true, false, false⟩)) ∧ Below w.heap.size w w' := by
  have hn : ∀ k o (O : Obj), k < 9 → (w.alloc O).cell? ⟨k, o, none⟩ = w.cell? ⟨k, o, none⟩ := fun k o O hk => World.cell?_alloc_old _ _ _ (by have := hP.size; simp; omega)
  have a0 : ∀ O : Obj, (w.alloc O).cell? ⟨0, 0, none⟩ = some (.int .i64 1) := fun O => (hn 0 0 O (by omega)).trans hP.one0
  have a1 : ∀ O : Obj, (w.alloc O).cell? ⟨0, 1, none⟩ = some (.int .i64 1) := fun O => (hn 0 1 O (by omega)).trans hP.one1
  have a2 : ∀ O : Obj, (w.alloc O).cell? ⟨0, 2, none⟩ = some (.int .i64 1) := fun O => (hn 0 2 O (by omega)).trans hP.one2
  have b0 : ∀ O : Obj, (w.alloc O).cell? ⟨1, 0, none⟩ = some (.int .i64 1) := fun O => (hn 1 0 O (by omega)).trans hP.all0
  have b1 : ∀ O : Obj, (w.alloc O).cell? ⟨1, 1, none⟩ = some (.int .i64 (-1)) := fun O => (hn 1 1 O (by omega)).trans hP.all1
  have b2 : ∀ O : Obj, (w.alloc O).cell? ⟨1, 2, none⟩ = some (.int .i64 1) := fun O => (hn 1 2 O (by omega)).trans hP.all2
  have c0 : ∀ O : Obj, (w.alloc O).cell? ⟨2, 0, none⟩ = some (.int .i64 1) := fun O => (hn 2 0 O (by omega)).trans hP.two0
  have c1 : ∀ O : Obj, (w.alloc O).cell? ⟨2, 1, none⟩ = some (.int .i64 2) := fun O => (hn 2 1 O (by omega)).trans hP.two1
  have c2 : ∀ O : Obj, (w.alloc O).cell? ⟨2, 2, none⟩ = some (.int .i64 1) := fun O => (hn 2 2 O (by omega)).trans hP.two2
  clear hn hP
  go_enter Tryd.func58, Tryd.ntmps58
  go_wp2
  refine bodyPost_ret (v := spV (some ⟨1, 1, 1, e0, 4, 4, true, false, false⟩)) ?_ rfl ⟨rfl, ?_⟩
  · simp [spV, Sp.val, Sp.zero, e0, results, Tryd.results58, go_sem]
  · exact ((Below.refl _ _).alloc (Nat.le_refl _) _)

set_option maxHeartbeats 4000000 in
set_option maxRecDepth 100000 in
theorem wide_at8 (w : World) (hP : Plc w) :
    Calls Tryd.prog 58 #[.string ⟨#[76, 83, 69, 84]⟩] w fun e w' => e = .returned (spV (some ⟨1, 1, 1, e0, 4, 4, true, false, false⟩)) ∧ Below w.heap.size w w' := by
  have hn : ∀ k o (O : Obj), k < 9 → (w.alloc O).cell? ⟨k, o, none⟩ = w.cell? ⟨k, o, none⟩ := fun k o O hk => World.cell?_alloc_old _ _ _ (by have := hP.size; simp; omega)
  have a0 : ∀ O : Obj, (w.alloc O).cell? ⟨0, 0, none⟩ = some (.int .i64 1) := fun O => (hn 0 0 O (by omega)).trans hP.one0
  have a1 : ∀ O : Obj, (w.alloc O).cell? ⟨0, 1, none⟩ = some (.int .i64 1) := fun O => (hn 0 1 O (by omega)).trans hP.one1
  have a2 : ∀ O : Obj, (w.alloc O).cell? ⟨0, 2, none⟩ = some (.int .i64 1) := fun O => (hn 0 2 O (by omega)).trans hP.one2
  have b0 : ∀ O : Obj, (w.alloc O).cell? ⟨1, 0, none⟩ = some (.int .i64 1) := fun O => (hn 1 0 O (by omega)).trans hP.all0
  have b1 : ∀ O : Obj, (w.alloc O).cell? ⟨1, 1, none⟩ = some (.int .i64 (-1)) := fun O => (hn 1 1 O (by omega)).trans hP.all1
  have b2 : ∀ O : Obj, (w.alloc O).cell? ⟨1, 2, none⟩ = some (.int .i64 1) := fun O => (hn 1 2 O (by omega)).trans hP.all2
  have c0 : ∀ O : Obj, (w.alloc O).cell? ⟨2, 0, none⟩ = some (.int .i64 1) := fun O => (hn 2 0 O (by omega)).trans hP.two0
  have c1 : ∀ O : Obj, (w.alloc O).cell? ⟨2, 1, none⟩ = some (.int .i64 2) := fun O => (hn 2 1 O (by omega)).trans hP.two1
  have c2 : ∀ O : Obj, (w.alloc O).cell? ⟨2, 2, none⟩ = some (.int .i64 1) := fun O => (hn 2 2 O (by omega)).trans hP.two2
  clear hn hP
  go_enter Tryd.func58, Tryd.ntmps58
  go_wp2
  refine bodyPost_ret (v := spV (some ⟨1, 1, 1, e0, 4, 4, true, false, false⟩)) ?_ rfl ⟨rfl, ?_⟩
  · simp [spV, Sp.val, Sp.zero, e0, results, Tryd.results58, go_sem]
  · exact ((Below.refl _ _).alloc (Nat.le_refl _) _)

set_option maxHeartbeats 4000000 in
set_option maxRecDepth 100000 in
theorem wide_at9 (w : World) (hP : Plc w) :
    Calls Tryd.prog 58 #[.string ⟨#[76, 84, 82, 73, 77]⟩] w fun e w' => e = .returned (spV (some ⟨1, 1, 1, e0, 4, 4, true, false, false⟩)) ∧ Below w.heap.size w w' := by
  have hn : ∀ k o (O : Obj), k < 9 → (w.alloc O).cell? ⟨k, o, none⟩ = w.cell? ⟨k, o, none⟩ := fun k o O hk => World.cell?_alloc_old _ _ _ (by have := hP.size; simp; omega)
  have a0 : ∀ O : Obj, (w.alloc O).cell? ⟨0, 0, none⟩ = some (.int .i64 1) := fun O => (hn 0 0 O (by omega)).trans hP.one0
  have a1 : ∀ O : Obj, (w.alloc O).cell? ⟨0, 1, none⟩ = some (.int .i64 1) := fun O => (hn 0 1 O (by omega)).trans hP.one1
  have a2 : ∀ O : Obj, (w.alloc O).cell? ⟨0, 2, none⟩ = some (.int .i64 1) := fun O => (hn 0 2 O (by omega)).trans hP.one2
  have b0 : ∀ O : Obj, (w.alloc O).cell? ⟨1, 0, none⟩ = some (.int .i64 1) := fun O => (hn 1 0 O (by omega)).trans hP.all0
  have b1 : ∀ O : Obj, (w.alloc O).cell? ⟨1, 1, none⟩ = some (.int .i64 (-1)) := fun O => (hn 1 1 O (by omega)).trans hP.all1
  have b2 : ∀ O : Obj, (w.alloc O).cell? ⟨1, 2, none⟩ = some (.int .i64 1) := fun O => (hn 1 2 O (by omega)).trans hP.all2
  have c0 : ∀ O : Obj, (w.alloc O).cell? ⟨2, 0, none⟩ = some (.int .i64 1) := fun O => (hn 2 0 O (by omega)).trans hP.two0
  have c1 : ∀ O : Obj, (w.alloc O).cell? ⟨2, 1, none⟩ = some (.int .i64 2) := fun O => (hn 2 1 O (by omega)).trans hP.two1
  have c2 : ∀ O : Obj, (w.alloc O).cell? ⟨2, 2, none⟩ = some (.int .i64 1) := fun O => (hn 2 2 O (by omega)).trans hP.two2
  clear hn hP
  go_enter Tryd.func58, Tryd.ntmps58
  go_wp2
  refine bodyPost_ret (v := spV (some ⟨1, 1, 1, e0, 4, 4, true, false, false⟩)) ?_ rfl ⟨rfl, ?_⟩
  · simp [spV, Sp.val, Sp.zero, e0, results, Tryd.results58, go_sem]
  · exact ((Below.refl _ _).alloc (Nat.le_refl _) _)

set_option maxHeartbeats 4000000 in
set_option maxRecDepth 100000 in
theorem wide_at10 (w : World) (hP : Plc w) :
    Calls Tryd.prog 58 #[.string ⟨#[76, 82, 69, 77]⟩] w fun e w' => e = .returned (spV (some ⟨1, 1, 1, e0, 4, 4, true, false, false⟩)) ∧ Below w.heap.size w w' := by
  have hn : ∀ k o (O : Obj), k < 9 → (w.alloc O).cell? ⟨k, o, none⟩ = w.cell? ⟨k, o, none⟩ := fun k o O hk => World.cell?_alloc_old _ _ _ (by have := hP.size; simp; omega)
  have a0 : ∀ O : Obj, (w.alloc O).cell? ⟨0, 0, none⟩ = some (.int .i64 1) := fun O => (hn 0 0 O (by omega)).trans hP.one0
  have a1 : ∀ O : Obj, (w.alloc O).cell? ⟨0, 1, none⟩ = some (.int .i64 1) := fun O => (hn 0 1 O (by omega)).trans hP.one1
  have a2 : ∀ O : Obj, (w.alloc O).cell? ⟨0, 2, none⟩ = some (.int .i64 1) := fun O => (hn 0 2 O (by omega)).trans hP.one2
  have b0 : ∀ O : Obj, (w.alloc O).cell? ⟨1, 0, none⟩ = some (.int .i64 1) := fun O => (hn 1 0 O (by omega)).trans hP.all0
  have b1 : ∀ O : Obj, (w.alloc O).cell? ⟨1, 1, none⟩ = some (.int .i64 (-1)) := fun O => (hn 1 1 O (by omega)).trans hP.all1
  have b2 : ∀ O : Obj, (w.alloc O).cell? ⟨1, 2, none⟩ = some (.int .i64 1) := fun O => (hn 1 2 O (by omega)).trans hP.all2
  have c0 : ∀ O : Obj, (w.alloc O).cell? ⟨2, 0, none⟩ = some (.int .i64 1) := fun O => (hn 2 0 O (by omega)).trans hP.two0
  have c1 : ∀ O : Obj, (w.alloc O).cell? ⟨2, 1, none⟩ = some (.int .i64 2) := fun O => (hn 2 1 O (by omega)).trans hP.two1
  have c2 : ∀ O : Obj, (w.alloc O).cell? ⟨2, 2, none⟩ = some (.int .i64 1) := fun O => (hn 2 2 O (by omega)).trans hP.two2
  clear hn hP
  go_enter Tryd.func58, Tryd.ntmps58
  go_wp2
  refine bodyPost_ret (v := spV (some ⟨1, 1, 1, e0, 4, 4, true, false, false⟩)) ?_ rfl ⟨rfl, ?_⟩
  · simp [spV, Sp.val, Sp.zero, e0, results, Tryd.results58, go_sem]
  · exact ((Below.refl _ _).alloc (Nat.le_refl _) _)

set_option maxHeartbeats 4000000 in
set_option maxRecDepth 100000 in
theorem wide_at11 (w : World) (hP : Plc w) :
    Calls Tryd.prog 58 #[.string ⟨#[90, 73, 78, 67, 82, 66, 89]⟩] w fun e w' => e = .returned (spV (some ⟨1, 1, 1, e0, 4, 4, true, false, false⟩)) ∧ Below w.heap.size w w' := by
  have hn : ∀ k o (O : Obj), k < 9 → (w.alloc O).cell? ⟨k, o, none⟩ = w.cell? ⟨k, o, none⟩ := fun k o O hk => World.cell?_alloc_old _ _ _ (by have := hP.size; simp; omega)
  have a0 : ∀ O : Obj, (w.alloc O).cell? ⟨0, 0, none⟩ = some (.int .i64 1) := fun O => (hn 0 0 O (by omega)).trans hP.one0
  have a1 : ∀ O : Obj, (w.alloc O).cell? ⟨0, 1, none⟩ = some (.int .i64 1) := fun O => (hn 0 1 O (by omega)).trans hP.one1
  have a2 : ∀ O : Obj, (w.alloc O).cell? ⟨0, 2, none⟩ = some (.int .i64 1) := fun O => (hn 0 2 O (by omega)).trans hP.one2
  have b0 : ∀ O : Obj, (w.alloc O).cell? ⟨1, 0, none⟩ = some (.int .i64 1) := fun O => (hn 1 0 O (by omega)).trans hP.all0
  have b1 : ∀ O : Obj, (w.alloc O).cell? ⟨1, 1, none⟩ = some (.int .i64 (-1)) := fun O => (hn 1 1 O (by omega)).trans hP.all1
  have b2 : ∀ O : Obj, (w.alloc O).cell? ⟨1, 2, none⟩ = some (.int .i64 1) := fun O => (hn 1 2 O (by omega)).trans hP.all2
  have c0 : ∀ O : Obj, (w.alloc O).cell? ⟨2, 0, none⟩ = some (.int .i64 1) := fun O => (hn 2 0 O (by omega)).trans hP.two0
  have c1 : ∀ O : Obj, (w.alloc O).cell? ⟨2, 1, none⟩ = some (.int .i64 2) := fun O => (hn 2 1 O (by omega)).trans hP.two1
  have c2 : ∀ O : Obj, (w.alloc O).cell? ⟨2, 2, none⟩ = some (.int .i64 1) := fun O => (hn 2 2 O (by omega)).trans hP.two2
  clear hn hP
  go_enter Tryd.func58, Tryd.ntmps58
  go_wp2
  refine bodyPost_ret (v := spV (some ⟨1, 1, 1, e0, 4, 4, true, false, false⟩)) ?_ rfl ⟨rfl, ?_⟩
  · simp [spV, Sp.val, Sp.zero, e0, results, Tryd.results58, go_sem]
  · exact ((Below.refl _ _).alloc (Nat.le_refl _) _)

set_option maxHeartbeats 4000000 in
set_option maxRecDepth 100000 in
theorem wide_at12 (w : World) (hP : Plc w) :
    Calls Tryd.prog 58 #[.string ⟨#[90, 82, 69, 77, 82, 65, 78, 71, 69, 66, 89, 83, 67, 79, 82, 69]⟩] w fun e w' => e = .returned (spV (some ⟨1, 1, 1, e0, 4, 4, true, false, false⟩)) ∧ Below w.heap.size w w' := by
  have hn : ∀ k o (O : Obj), k < 9 → (w.alloc O).cell? ⟨k, o, none⟩ = w.cell? ⟨k, o, none⟩ := fun k o O hk => World.cell?_alloc_old _ _ _ (by have := hP.size; simp; omega)
  have a0 : ∀ O : Obj, (w.alloc O).cell? ⟨0, 0, none⟩ = some (.int .i64 1) := fun O => (hn 0 0 O (by omega)).trans hP.one0
  have a1 : ∀ O : Obj, (w.alloc O).cell? ⟨0, 1, none⟩ = some (.int .i64 1) := fun O => (hn 0 1 O (by omega)).trans hP.one1
  have a2 : ∀ O : Obj, (w.alloc O).cell? ⟨0, 2, none⟩ = some (.int .i64 1) := fun O => (hn 0 2 O (by omega)).trans hP.one2
  have b0 : ∀ O : Obj, (w.alloc O).cell? ⟨1, 0, none⟩ = some (.int .i64 1) := fun O => (hn 1 0 O (by omega)).trans hP.all0
  have b1 : ∀ O : Obj, (w.alloc O).cell? ⟨1, 1, none⟩ = some (.int .i64 (-1)) := fun O => (hn 1 1 O (by omega)).trans hP.all1
  have b2 : ∀ O : Obj, (w.alloc O).cell? ⟨1, 2, none⟩ = some (.int .i64 1) := fun O => (hn 1 2 O (by omega)).trans hP.all2
  have c0 : ∀ O : Obj, (w.alloc O).cell? ⟨2, 0, none⟩ = some (.int .i64 1) := fun O => (hn 2 0 O (by omega)).trans hP.two0
  have c1 : ∀ O : Obj, (w.alloc O).cell? ⟨2, 1, none⟩ = some (.int .i64 2) := fun O => (hn 2 1 O (by omega)).trans hP.two1
  have c2 : ∀ O : Obj, (w.alloc O).cell? ⟨2, 2, none⟩ = some (.int .i64 1) := fun O => (hn 2 2 O (by omega)).trans hP.two2
  clear hn hP
  go_enter Tryd.func58, Tryd.ntmps58
  go_wp2
  refine bodyPost_ret (v := spV (some ⟨1, 1, 1, e0, 4, 4, true, false, false⟩)) ?_ rfl ⟨rfl, ?_⟩
  · simp [spV, Sp.val, Sp.zero, e0, results, Tryd.results58, go_sem]
  · exact ((Below.refl _ _).alloc (Nat.le_refl _) _)

set_option maxHeartbeats 4000000 in
set_option maxRecDepth 100000 in
theorem wide_at13 (w : World) (hP : Plc w) :
    Calls Tryd.prog 58 #[.string ⟨#[83, 77, 79, 86, 69]⟩] w fun e w' => e = .returned (spV (some ⟨1, 2, 1, e0, 4, 4, true, false, false⟩)) ∧ Below w.heap.size w w' := by
  have hn : ∀ k o (O : Obj), k < 9 → (w.alloc O).cell? ⟨k, o, none⟩ = w.cell? ⟨k, o, none⟩ := fun k o O hk => World.cell?_alloc_old _ _ _ (by have := hP.size; simp; omega)
  have a0 : ∀ O : Obj, (w.alloc O).cell? ⟨0, 0, none⟩ = some (.int .i64 1) := fun O => (hn 0 0 O (by omega)).trans hP.one0
  have a1 : ∀ O : Obj, (w.alloc O).cell? ⟨0, 1, none⟩ = some (.int .i64 1) := fun O => (hn 0 1 O (by omega)).trans hP.one1
  have a2 : ∀ O : Obj, (w.alloc O).cell? ⟨0, 2, none⟩ = some (.int .i64 1) := fun O => (hn 0 2 O (by omega)).trans hP.one2
  have b0 : ∀ O : Obj, (w.alloc O).cell? ⟨1, 0, none⟩ = some (.int .i64 1) := fun O => (hn 1 0 O (by omega)).trans hP.all0
  have b1 : ∀ O : Obj, (w.alloc O).cell? ⟨1, 1, none⟩ = some (.int .i64 (-1)) := fun O => (hn 1 1 O (by omega)).trans hP.all1
  have b2 : ∀ O : Obj, (w.alloc O).cell? ⟨1, 2, none⟩ = some (.int .i64 1) := fun O => (hn 1 2 O (by omega)).trans hP.all2
  have c0 : ∀ O : Obj, (w.alloc O).cell? ⟨2, 0, none⟩ = some (.int .i64 1) := fun O => (hn 2 0 O (by omega)).trans hP.two0
  have c1 : ∀ O : Obj, (w.alloc O).cell? ⟨2, 1, none⟩ = some (.int .i64 2) := fun O => (hn 2 1 O (by omega)).trans hP.two1
  have c2 : ∀ O : Obj, (w.alloc O).cell? ⟨2, 2, none⟩ = some (.int .i64 1) := fun O => (hn 2 2 O (by omega)).trans hP.two2
  clear hn hP
  go_enter Tryd.func58, Tryd.ntmps58
  go_wp2
  refine bodyPost_ret (v := spV (some ⟨1, 2, 1, e0, 4, 4, true, false, false⟩)) ?_ rfl ⟨rfl, ?_⟩
  · simp [spV, Sp.val, Sp.zero, e0, results, Tryd.results58, go_sem]
  · exact ((Below.refl _ _).alloc (Nat.le_refl _) _)

set_option maxHeartbeats 4000000 in
set_option maxRecDepth 100000 in
theorem wide_at14 (w : World) (hP : Plc w) :
    Calls Tryd.prog 58 #[.string ⟨#[90, 82, 65, 78, 71, 69]⟩] w fun e w' => e = .returned (spV (some ⟨1, 1, 1, e0, 4, 5, false, false, false⟩)) ∧ Below w.heap.size w w' := by
  have hn : ∀ k o (O : Obj), k < 9 → (w.alloc O).cell? ⟨k, o, none⟩ = w.cell? ⟨k, o, none⟩ := fun k o O hk => World.cell?_alloc_old _ _ _ (by have := hP.size; simp; omega)
  have a0 : ∀ O : Obj, (w.alloc O).cell? ⟨0, 0, none⟩ = some (.int .i64 1) := fun O => (hn 0 0 O (by omega)).trans hP.one0
  have a1 : ∀ O : Obj, (w.alloc O).cell? ⟨0, 1, none⟩ = some (.int .i64 1) := fun O => (hn 0 1 O (by omega)).trans hP.one1
  have a2 : ∀ O : Obj, (w.alloc O).cell? ⟨0, 2, none⟩ = some (.int .i64 1) := fun O => (hn 0 2 O (by omega)).trans hP.one2
  have b0 : ∀ O : Obj, (w.alloc O).cell? ⟨1, 0, none⟩ = some (.int .i64 1) := fun O => (hn 1 0 O (by omega)).trans hP.all0
  have b1 : ∀ O : Obj, (w.alloc O).cell? ⟨1, 1, none⟩ = some (.int .i64 (-1)) := fun O => (hn 1 1 O (by omega)).trans hP.all1
  have b2 : ∀ O : Obj, (w.alloc O).cell? ⟨1, 2, none⟩ = some (.int .i64 1) := fun O => (hn 1 2 O (by omega)).trans hP.all2
  have c0 : ∀ O : Obj, (w.alloc O).cell? ⟨2, 0, none⟩ = some (.int .i64 1) := fun O => (hn 2 0 O (by omega)).trans hP.two0
  have c1 : ∀ O : Obj, (w.alloc O).cell? ⟨2, 1, none⟩ = some (.int .i64 2) := fun O => (hn 2 1 O (by omega)).trans hP.two1
  have c2 : ∀ O : Obj, (w.alloc O).cell? ⟨2, 2, none⟩ = some (.int .i64 1) := fun O => (hn 2 2 O (by omega)).trans hP.two2
  clear hn hP
  go_enter Tryd.func58, Tryd.ntmps58
  go_wp2
  refine bodyPost_ret (v := spV (some ⟨1, 1, 1, e0, 4, 5, false, false, false⟩)) ?_ rfl ⟨rfl, ?_⟩
  · simp [spV, Sp.val, Sp.zero, e0, results, Tryd.results58, go_sem]
  · exact ((Below.refl _ _).alloc (Nat.le_refl _) _)

set_option maxHeartbeats 4000000 in
set_option maxRecDepth 100000 in
theorem wide_at15 (w : World) (hP : Plc w) :
    Calls Tryd.prog 58 #[.string ⟨#[72, 83, 69, 84]⟩] w fun e w' => e = .returned (spV (some ⟨1, 1, 1, e0, 4, 40, true, false, true⟩)) ∧ Below w.heap.size w w' := by
  have hn : ∀ k o (O : Obj), k < 9 → (w.alloc O).cell? ⟨k, o, none⟩ = w.cell? ⟨k, o, none⟩ := fun k o O hk => World.cell?_alloc_old _ _ _ (by have := hP.size; simp; omega)
  have a0 : ∀ O : Obj, (w.alloc O).cell? ⟨0, 0, none⟩ = some (.int .i64 1) := fun O => (hn 0 0 O (by omega)).trans hP.one0
  have a1 : ∀ O : Obj, (w.alloc O).cell? ⟨0, 1, none⟩ = some (.int .i64 1) := fun O => (hn 0 1 O (by omega)).trans hP.one1
  have a2 : ∀ O : Obj, (w.alloc O).cell? ⟨0, 2, none⟩ = some (.int .i64 1) := fun O => (hn 0 2 O (by omega)).trans hP.one2
  have b0 : ∀ O : Obj, (w.alloc O).cell? ⟨1, 0, none⟩ = some (.int .i64 1) := fun O => (hn 1 0 O (by omega)).trans hP.all0
  have b1 : ∀ O : Obj, (w.alloc O).cell? ⟨1, 1, none⟩ = some (.int .i64 (-1)) := fun O => (hn 1 1 O (by omega)).trans hP.all1
  have b2 : ∀ O : Obj, (w.alloc O).cell? ⟨1, 2, none⟩ = some (.int .i64 1) := fun O => (hn 1 2 O (by omega)).trans hP.all2
  have c0 : ∀ O : Obj, (w.alloc O).cell? ⟨2, 0, none⟩ = some (.int .i64 1) := fun O => (hn 2 0 O (by omega)).trans hP.two0
  have c1 : ∀ O : Obj, (w.alloc O).cell? ⟨2, 1, none⟩ = some (.int .i64 2) := fun O => (hn 2 1 O (by omega)).trans hP.two1
  have c2 : ∀ O : Obj, (w.alloc O).cell? ⟨2, 2, none⟩ = some (.int .i64 1) := fun O => (hn 2 2 O (by omega)).trans hP.two2
  clear hn hP
  go_enter Tryd.func58, Tryd.ntmps58
  go_wp2
  refine bodyPost_ret (v := spV (some ⟨1, 1, 1, e0, 4, 40, true, false, true⟩)) ?_ rfl ⟨rfl, ?_⟩
  · simp [spV, Sp.val, Sp.zero, e0, results, Tryd.results58, go_sem]
  · exact ((Below.refl _ _).alloc (Nat.le_refl _) _)

set_option maxHeartbeats 4000000 in
set_option maxRecDepth 100000 in
theorem wide_at16 (w : World) (hP : Plc w) :
    Calls Tryd.prog 58 #[.string ⟨#[90, 65, 68, 68]⟩] w fun e w' => e = .returned (spV (some ⟨1, 1, 1, e0, 4, 40, true, false, true⟩)) ∧ Below w.heap.size w w' := by
  have hn : ∀ k o (O : Obj), k < 9 → (w.alloc O).cell? ⟨k, o, none⟩ = w.cell? ⟨k, o, none⟩ := fun k o O hk => World.cell?_alloc_old _ _ _ (by have := hP.size; simp; omega)
  have a0 : ∀ O : Obj, (w.alloc O).cell? ⟨0, 0, none⟩ = some (.int .i64 1) := fun O => (hn 0 0 O (by omega)).trans hP.one0
  have a1 : ∀ O : Obj, (w.alloc O).cell? ⟨0, 1, none⟩ = some (.int .i64 1) := fun O => (hn 0 1 O (by omega)).trans hP.one1
  have a2 : ∀ O : Obj, (w.alloc O).cell? ⟨0, 2, none⟩ = some (.int .i64 1) := fun O => (hn 0 2 O (by omega)).trans hP.one2
  have b0 : ∀ O : Obj, (w.alloc O).cell? ⟨1, 0, none⟩ = some (.int .i64 1) := fun O => (hn 1 0 O (by omega)).trans hP.all0
  have b1 : ∀ O : Obj, (w.alloc O).cell? ⟨1, 1, none⟩ = some (.int .i64 (-1)) := fun O => (hn 1 1 O (by omega)).trans hP.all1
  have b2 : ∀ O : Obj, (w.alloc O).cell? ⟨1, 2, none⟩ = some (.int .i64 1) := fun O => (hn 1 2 O (by omega)).trans hP.all2
  have c0 : ∀ O : Obj, (w.alloc O).cell? ⟨2, 0, none⟩ = some (.int .i64 1) := fun O => (hn 2 0 O (by omega)).trans hP.two0
  have c1 : ∀ O : Obj, (w.alloc O).cell? ⟨2, 1, none⟩ = some (.int .i64 2) := fun O => (hn 2 1 O (by omega)).trans hP.two1
  have c2 : ∀ O : Obj, (w.alloc O).cell? ⟨2, 2, none⟩ = some (.int .i64 1) := fun O => (hn 2 2 O (by omega)).trans hP.two2
  clear hn hP
  go_enter Tryd.func58, Tryd.ntmps58
  go_wp2
  refine bodyPost_ret (v := spV (some ⟨1, 1, 1, e0, 4, 40, true, false, true⟩)) ?_ rfl ⟨rfl, ?_⟩
  · simp [spV, Sp.val, Sp.zero, e0, results, Tryd.results58, go_sem]
  · exact ((Below.refl _ _).alloc (Nat.le_refl _) _)

set_option maxHeartbeats 4000000 in
set_option maxRecDepth 100000 in
theorem wide_no (s : ByteArray) (w : World) (hP : Plc w)
    (h0 : (s.toList == [71, 69, 84, 82, 65, 78, 71, 69]) = false)
    (h1 : (s.toList == [76, 82, 65, 78, 71, 69]) = false)
    (h2 : (s.toList == [90, 82, 69, 86, 82, 65, 78, 71, 69]) = false)
    (h3 : (s.toList == [90, 82, 65, 78, 71, 69, 66, 89, 83, 67, 79, 82, 69]) = false)
    (h4 : (s.toList == [90, 67, 79, 85, 78, 84]) = false)
    (h5 : (s.toList == [83, 69, 84, 82, 65, 78, 71, 69]) = false)
    (h6 : (s.toList == [72, 83, 69, 84, 78, 88]) = false)
    (h7 : (s.toList == [72, 73, 78, 67, 82, 66, 89]) = false)
    (h8 : (s.toList == [76, 83, 69, 84]) = false)
    (h9 : (s.toList == [76, 84, 82, 73, 77]) = false)
    (h10 : (s.toList == [76, 82, 69, 77]) = false)
    (h11 : (s.toList == [90, 73, 78, 67, 82, 66, 89]) = false)
    (h12 : (s.toList == [90, 82, 69, 77, 82, 65, 78, 71, 69, 66, 89, 83, 67, 79, 82, 69]) = false)
    (h13 : (s.toList == [83, 77, 79, 86, 69]) = false)
    (h14 : (s.toList == [90, 82, 65, 78, 71, 69]) = false)
    (h15 : (s.toList == [72, 83, 69, 84]) = false)
    (h16 : (s.toList == [90, 65, 68, 68]) = false)
    : Calls Tryd.prog 58 #[.string s] w fun e w' => e = .returned (spV none) ∧ Below w.heap.size w w' := by
  clear hP
  go_enter Tryd.func58, Tryd.ntmps58
  go_wp2
  refine bodyPost_ret (v := spV none) ?_ rfl ⟨rfl, ?_⟩
  · simp [spV, Sp.val, Sp.zero, e0, results, Tryd.results58, go_sem]
  · exact ((Below.refl _ _).alloc (Nat.le_refl _) _)

end Go.Proofs.YtbfbmgkgaokecaaDoor.Vb
