/- verb.short: what it tells of each name, and of others. Written by gen_specs.py. -/
import Derived.Test.YtbfbmgkgaokecaaDoorTbl
import Derived.Deep.QuietTactic
import Derived.BigQuiet
import Derived.Lib.Hide
import Derived.OwnWalk
namespace Go.Proofs.YtbfbmgkgaokecaaDoor.Vb
open Go.RowKit
set_option linter.unusedSimpArgs false
set_option linter.unusedVariables false

set_option maxHeartbeats 4000000 in
set_option maxRecDepth 100000 in
theorem short_at0 (w : World) (hP : Plc w) :
    Calls Tryd.prog 56 #[.string ⟨#[80, 73, 78, 71]⟩] w fun e w' => e = .returned (spV (some ⟨0, 0, 0, e0, 1, 2, false, false, false⟩)) ∧ Below w.heap.size w w' := by
  have hn : ∀ k o (O : Obj), k < 9 → (w.alloc O).cell? ⟨k, o, none⟩ = w.cell? ⟨k, o, none⟩ := fun k o O hk => World.cell?_alloc_old _ _ _ (by have := hP.size; simp; omega)
  have a0 : ∀ O : Obj, (w.alloc O).cell? ⟨0, 0, none⟩ = some (.int .i64 1) := fun O => (hn 0 0 O (by omega)).trans hP.one0
  have a1 : ∀ O : Obj, (w.alloc O).cell? ⟨0, 1, none⟩ = some (.int .i64 1) := fun O => (hn 0 1 O (by omega)).trans hP.one1
  have a2 : ∀ O : Obj, (w.alloc O).cell? ⟨0, 2, none⟩ = some (.int .i64 1) := fun O => (hn 0 2 O (by omega)).trans hP.one2
  have b0 : ∀ O : Obj, (w.alloc O).cell? ⟨1, 0, none⟩ = some (.int .i64 1) := fun O => (hn 1 0 O (by omega)).trans hP.all0
  have b1 : ∀ O : Obj, (w.alloc O).cell? ⟨1, 1, none⟩ = some (.int .i64 (-1)) := fun O => (hn 1 1 O (by omega)).trans hP.all1
  have b2 : ∀ O : Obj, (w.alloc O).cell? ⟨1, 2, none⟩ = some (.int .i64 1) := fun O => (hn 1 2 O (by omega)).trans hP.all2
  have c0 : ∀ O : Obj, (w.alloc O).cell? ⟨2, 0, none⟩ = some (.int .i64 1) := fun O => (hn 2 0 O (by omega)).trans hP.two0
  have c1 : ∀ O : Obj, (w.alloc O).cell? ⟨2, 1, none⟩ = some (.int .i64 2) := fun O => (hn 2 1 O (by omega)).trans hP.two1
  have c2 : ∀ O : Obj, (w.alloc O).cell? ⟨2, 2, none⟩ = some (.int .i64 1) := fun O => (hn 2 2 O (by omega)).trans hP.two2
  clear hn hP
  go_enter Tryd.func56, Tryd.ntmps56
  go_wp2
  refine bodyPost_ret (v := spV (some ⟨0, 0, 0, e0, 1, 2, false, false, false⟩)) ?_ rfl ⟨rfl, ?_⟩
  · simp [spV, Sp.val, Sp.zero, e0, results, Tryd.results56, go_sem]
  · exact ((Below.refl _ _).alloc (Nat.le_refl _) _)

set_option maxHeartbeats 4000000 in
set_option maxRecDepth 100000 in
theorem short_at1 (w : World) (hP : Plc w) :
    Calls Tryd.prog 56 #[.string ⟨#[69, 67, 72, 79]⟩] w fun e w' => e = .returned (spV (some ⟨0, 0, 0, e0, 2, 2, false, false, false⟩)) ∧ Below w.heap.size w w' := by
  have hn : ∀ k o (O : Obj), k < 9 → (w.alloc O).cell? ⟨k, o, none⟩ = w.cell? ⟨k, o, none⟩ := fun k o O hk => World.cell?_alloc_old _ _ _ (by have := hP.size; simp; omega)
  have a0 : ∀ O : Obj, (w.alloc O).cell? ⟨0, 0, none⟩ = some (.int .i64 1) := fun O => (hn 0 0 O (by omega)).trans hP.one0
  have a1 : ∀ O : Obj, (w.alloc O).cell? ⟨0, 1, none⟩ = some (.int .i64 1) := fun O => (hn 0 1 O (by omega)).trans hP.one1
  have a2 : ∀ O : Obj, (w.alloc O).cell? ⟨0, 2, none⟩ = some (.int .i64 1) := fun O => (hn 0 2 O (by omega)).trans hP.one2
  have b0 : ∀ O : Obj, (w.alloc O).cell? ⟨1, 0, none⟩ = some (.int .i64 1) := fun O => (hn 1 0 O (by omega)).trans hP.all0
  have b1 : ∀ O : Obj, (w.alloc O).cell? ⟨1, 1, none⟩ = some (.int .i64 (-1)) := fun O => (hn 1 1 O (by omega)).trans hP.all1
  have b2 : ∀ O : Obj, (w.alloc O).cell? ⟨1, 2, none⟩ = some (.int .i64 1) := fun O => (hn 1 2 O (by omega)).trans hP.all2
  have c0 : ∀ O : Obj, (w.alloc O).cell? ⟨2, 0, none⟩ = some (.int .i64 1) := fun O => (hn 2 0 O (by omega)).trans hP.two0
  have c1 : ∀ O : Obj, (w.alloc O).cell? ⟨2, 1, none⟩ = some (.int .i64 2) := fun O => (hn 2 1 O (by omega)).trans hP.two1
  have c2 : ∀ O : Obj, (w.alloc O).cell? ⟨2, 2, none⟩ = some (.int .i64 1) := fun O => (hn 2 2 O (by omega)).trans hP.two2
  clear hn hP
  go_enter Tryd.func56, Tryd.ntmps56
  go_wp2
  refine bodyPost_ret (v := spV (some ⟨0, 0, 0, e0, 2, 2, false, false, false⟩)) ?_ rfl ⟨rfl, ?_⟩
  · simp [spV, Sp.val, Sp.zero, e0, results, Tryd.results56, go_sem]
  · exact ((Below.refl _ _).alloc (Nat.le_refl _) _)

set_option maxHeartbeats 4000000 in
set_option maxRecDepth 100000 in
theorem short_at2 (w : World) (hP : Plc w) :
    Calls Tryd.prog 56 #[.string ⟨#[75, 69, 89, 83]⟩] w fun e w' => e = .returned (spV (some ⟨0, 0, 0, e0, 2, 2, false, false, false⟩)) ∧ Below w.heap.size w w' := by
  have hn : ∀ k o (O : Obj), k < 9 → (w.alloc O).cell? ⟨k, o, none⟩ = w.cell? ⟨k, o, none⟩ := fun k o O hk => World.cell?_alloc_old _ _ _ (by have := hP.size; simp; omega)
  have a0 : ∀ O : Obj, (w.alloc O).cell? ⟨0, 0, none⟩ = some (.int .i64 1) := fun O => (hn 0 0 O (by omega)).trans hP.one0
  have a1 : ∀ O : Obj, (w.alloc O).cell? ⟨0, 1, none⟩ = some (.int .i64 1) := fun O => (hn 0 1 O (by omega)).trans hP.one1
  have a2 : ∀ O : Obj, (w.alloc O).cell? ⟨0, 2, none⟩ = some (.int .i64 1) := fun O => (hn 0 2 O (by omega)).trans hP.one2
  have b0 : ∀ O : Obj, (w.alloc O).cell? ⟨1, 0, none⟩ = some (.int .i64 1) := fun O => (hn 1 0 O (by omega)).trans hP.all0
  have b1 : ∀ O : Obj, (w.alloc O).cell? ⟨1, 1, none⟩ = some (.int .i64 (-1)) := fun O => (hn 1 1 O (by omega)).trans hP.all1
  have b2 : ∀ O : Obj, (w.alloc O).cell? ⟨1, 2, none⟩ = some (.int .i64 1) := fun O => (hn 1 2 O (by omega)).trans hP.all2
  have c0 : ∀ O : Obj, (w.alloc O).cell? ⟨2, 0, none⟩ = some (.int .i64 1) := fun O => (hn 2 0 O (by omega)).trans hP.two0
  have c1 : ∀ O : Obj, (w.alloc O).cell? ⟨2, 1, none⟩ = some (.int .i64 2) := fun O => (hn 2 1 O (by omega)).trans hP.two1
  have c2 : ∀ O : Obj, (w.alloc O).cell? ⟨2, 2, none⟩ = some (.int .i64 1) := fun O => (hn 2 2 O (by omega)).trans hP.two2
  clear hn hP
  go_enter Tryd.func56, Tryd.ntmps56
  go_wp2
  refine bodyPost_ret (v := spV (some ⟨0, 0, 0, e0, 2, 2, false, false, false⟩)) ?_ rfl ⟨rfl, ?_⟩
  · simp [spV, Sp.val, Sp.zero, e0, results, Tryd.results56, go_sem]
  · exact ((Below.refl _ _).alloc (Nat.le_refl _) _)

set_option maxHeartbeats 4000000 in
set_option maxRecDepth 100000 in
theorem short_at3 (w : World) (hP : Plc w) :
    Calls Tryd.prog 56 #[.string ⟨#[68, 66, 83, 73, 90, 69]⟩] w fun e w' => e = .returned (spV (some ⟨0, 0, 0, e0, 1, 1, false, false, false⟩)) ∧ Below w.heap.size w w' := by
  have hn : ∀ k o (O : Obj), k < 9 → (w.alloc O).cell? ⟨k, o, none⟩ = w.cell? ⟨k, o, none⟩ := fun k o O hk => World.cell?_alloc_old _ _ _ (by have := hP.size; simp; omega)
  have a0 : ∀ O : Obj, (w.alloc O).cell? ⟨0, 0, none⟩ = some (.int .i64 1) := fun O => (hn 0 0 O (by omega)).trans hP.one0
  have a1 : ∀ O : Obj, (w.alloc O).cell? ⟨0, 1, none⟩ = some (.int .i64 1) := fun O => (hn 0 1 O (by omega)).trans hP.one1
  have a2 : ∀ O : Obj, (w.alloc O).cell? ⟨0, 2, none⟩ = some (.int .i64 1) := fun O => (hn 0 2 O (by omega)).trans hP.one2
  have b0 : ∀ O : Obj, (w.alloc O).cell? ⟨1, 0, none⟩ = some (.int .i64 1) := fun O => (hn 1 0 O (by omega)).trans hP.all0
  have b1 : ∀ O : Obj, (w.alloc O).cell? ⟨1, 1, none⟩ = some (.int .i64 (-1)) := fun O => (hn 1 1 O (by omega)).trans hP.all1
  have b2 : ∀ O : Obj, (w.alloc O).cell? ⟨1, 2, none⟩ = some (.int .i64 1) := fun O => (hn 1 2 O (by omega)).trans hP.all2
  have c0 : ∀ O : Obj, (w.alloc O).cell? ⟨2, 0, none⟩ = some (.int .i64 1) := fun O => (hn 2 0 O (by omega)).trans hP.two0
  have c1 : ∀ O : Obj, (w.alloc O).cell? ⟨2, 1, none⟩ = some (.int .i64 2) := fun O => (hn 2 1 O (by omega)).trans hP.two1
  have c2 : ∀ O : Obj, (w.alloc O).cell? ⟨2, 2, none⟩ = some (.int .i64 1) := fun O => (hn 2 2 O (by omega)).trans hP.two2
  clear hn hP
  go_enter Tryd.func56, Tryd.ntmps56
  go_wp2
  refine bodyPost_ret (v := spV (some ⟨0, 0, 0, e0, 1, 1, false, false, false⟩)) ?_ rfl ⟨rfl, ?_⟩
  · simp [spV, Sp.val, Sp.zero, e0, results, Tryd.results56, go_sem]
  · exact ((Below.refl _ _).alloc (Nat.le_refl _) _)

set_option maxHeartbeats 4000000 in
set_option maxRecDepth 100000 in
theorem short_at4 (w : World) (hP : Plc w) :
    Calls Tryd.prog 56 #[.string ⟨#[77, 85, 76, 84, 73]⟩] w fun e w' => e = .returned (spV (some ⟨0, 0, 0, e0, 1, 1, false, false, false⟩)) ∧ Below w.heap.size w w' := by
  have hn : ∀ k o (O : Obj), k < 9 → (w.alloc O).cell? ⟨k, o, none⟩ = w.cell? ⟨k, o, none⟩ := fun k o O hk => World.cell?_alloc_old _ _ _ (by have := hP.size; simp; omega)
  have a0 : ∀ O : Obj, (w.alloc O).cell? ⟨0, 0, none⟩ = some (.int .i64 1) := fun O => (hn 0 0 O (by omega)).trans hP.one0
  have a1 : ∀ O : Obj, (w.alloc O).cell? ⟨0, 1, none⟩ = some (.int .i64 1) := fun O => (hn 0 1 O (by omega)).trans hP.one1
  have a2 : ∀ O : Obj, (w.alloc O).cell? ⟨0, 2, none⟩ = some (.int .i64 1) := fun O => (hn 0 2 O (by omega)).trans hP.one2
  have b0 : ∀ O : Obj, (w.alloc O).cell? ⟨1, 0, none⟩ = some (.int .i64 1) := fun O => (hn 1 0 O (by omega)).trans hP.all0
  have b1 : ∀ O : Obj, (w.alloc O).cell? ⟨1, 1, none⟩ = some (.int .i64 (-1)) := fun O => (hn 1 1 O (by omega)).trans hP.all1
  have b2 : ∀ O : Obj, (w.alloc O).cell? ⟨1, 2, none⟩ = some (.int .i64 1) := fun O => (hn 1 2 O (by omega)).trans hP.all2
  have c0 : ∀ O : Obj, (w.alloc O).cell? ⟨2, 0, none⟩ = some (.int .i64 1) := fun O => (hn 2 0 O (by omega)).trans hP.two0
  have c1 : ∀ O : Obj, (w.alloc O).cell? ⟨2, 1, none⟩ = some (.int .i64 2) := fun O => (hn 2 1 O (by omega)).trans hP.two1
  have c2 : ∀ O : Obj, (w.alloc O).cell? ⟨2, 2, none⟩ = some (.int .i64 1) := fun O => (hn 2 2 O (by omega)).trans hP.two2
  clear hn hP
  go_enter Tryd.func56, Tryd.ntmps56
  go_wp2
  refine bodyPost_ret (v := spV (some ⟨0, 0, 0, e0, 1, 1, false, false, false⟩)) ?_ rfl ⟨rfl, ?_⟩
  · simp [spV, Sp.val, Sp.zero, e0, results, Tryd.results56, go_sem]
  · exact ((Below.refl _ _).alloc (Nat.le_refl _) _)

set_option maxHeartbeats 4000000 in
set_option maxRecDepth 100000 in
theorem short_at5 (w : World) (hP : Plc w) :
    Calls Tryd.prog 56 #[.string ⟨#[69, 88, 69, 67]⟩] w fun e w' => e = .returned (spV (some ⟨0, 0, 0, e0, 1, 1, false, false, false⟩)) ∧ Below w.heap.size w w' := by
  have hn : ∀ k o (O : Obj), k < 9 → (w.alloc O).cell? ⟨k, o, none⟩ = w.cell? ⟨k, o, none⟩ := fun k o O hk => World.cell?_alloc_old _ _ _ (by have := hP.size; simp; omega)
  have a0 : ∀ O : Obj, (w.alloc O).cell? ⟨0, 0, none⟩ = some (.int .i64 1) := fun O => (hn 0 0 O (by omega)).trans hP.one0
  have a1 : ∀ O : Obj, (w.alloc O).cell? ⟨0, 1, none⟩ = some (.int .i64 1) := fun O => (hn 0 1 O (by omega)).trans hP.one1
  have a2 : ∀ O : Obj, (w.alloc O).cell? ⟨0, 2, none⟩ = some (.int .i64 1) := fun O => (hn 0 2 O (by omega)).trans hP.one2
  have b0 : ∀ O : Obj, (w.alloc O).cell? ⟨1, 0, none⟩ = some (.int .i64 1) := fun O => (hn 1 0 O (by omega)).trans hP.all0
  have b1 : ∀ O : Obj, (w.alloc O).cell? ⟨1, 1, none⟩ = some (.int .i64 (-1)) := fun O => (hn 1 1 O (by omega)).trans hP.all1
  have b2 : ∀ O : Obj, (w.alloc O).cell? ⟨1, 2, none⟩ = some (.int .i64 1) := fun O => (hn 1 2 O (by omega)).trans hP.all2
  have c0 : ∀ O : Obj, (w.alloc O).cell? ⟨2, 0, none⟩ = some (.int .i64 1) := fun O => (hn 2 0 O (by omega)).trans hP.two0
  have c1 : ∀ O : Obj, (w.alloc O).cell? ⟨2, 1, none⟩ = some (.int .i64 2) := fun O => (hn 2 1 O (by omega)).trans hP.two1
  have c2 : ∀ O : Obj, (w.alloc O).cell? ⟨2, 2, none⟩ = some (.int .i64 1) := fun O => (hn 2 2 O (by omega)).trans hP.two2
  clear hn hP
  go_enter Tryd.func56, Tryd.ntmps56
  go_wp2
  refine bodyPost_ret (v := spV (some ⟨0, 0, 0, e0, 1, 1, false, false, false⟩)) ?_ rfl ⟨rfl, ?_⟩
  · simp [spV, Sp.val, Sp.zero, e0, results, Tryd.results56, go_sem]
  · exact ((Below.refl _ _).alloc (Nat.le_refl _) _)

set_option maxHeartbeats 4000000 in
set_option maxRecDepth 100000 in
theorem short_at6 (w : World) (hP : Plc w) :
    Calls Tryd.prog 56 #[.string ⟨#[68, 73, 83, 67, 65, 82, 68]⟩] w fun e w' => e = .returned (spV (some ⟨0, 0, 0, e0, 1, 1, false, false, false⟩)) ∧ Below w.heap.size w w' := by
  have hn : ∀ k o (O : Obj), k < 9 → (w.alloc O).cell? ⟨k, o, none⟩ = w.cell? ⟨k, o, none⟩ := fun k o O hk => World.cell?_alloc_old _ _ _ (by have := hP.size; simp; omega)
  have a0 : ∀ O : Obj, (w.alloc O).cell? ⟨0, 0, none⟩ = some (.int .i64 1) := fun O => (hn 0 0 O (by omega)).trans hP.one0
  have a1 : ∀ O : Obj, (w.alloc O).cell? ⟨0, 1, none⟩ = some (.int .i64 1) := fun O => (hn 0 1 O (by omega)).trans hP.one1
  have a2 : ∀ O : Obj, (w.alloc O).cell? ⟨0, 2, none⟩ = some (.int .i64 1) := fun O => (hn 0 2 O (by omega)).trans hP.one2
  have b0 : ∀ O : Obj, (w.alloc O).cell? ⟨1, 0, none⟩ = some (.int .i64 1) := fun O => (hn 1 0 O (by omega)).trans hP.all0
  have b1 : ∀ O : Obj, (w.alloc O).cell? ⟨1, 1, none⟩ = some (.int .i64 (-1)) := fun O => (hn 1 1 O (by omega)).trans hP.all1
  have b2 : ∀ O : Obj, (w.alloc O).cell? ⟨1, 2, none⟩ = some (.int .i64 1) := fun O => (hn 1 2 O (by omega)).trans hP.all2
  have c0 : ∀ O : Obj, (w.alloc O).cell? ⟨2, 0, none⟩ = some (.int .i64 1) := fun O => (hn 2 0 O (by omega)).trans hP.two0
  have c1 : ∀ O : Obj, (w.alloc O).cell? ⟨2, 1, none⟩ = some (.int .i64 2) := fun O => (hn 2 1 O (by omega)).trans hP.two1
  have c2 : ∀ O : Obj, (w.alloc O).cell? ⟨2, 2, none⟩ = some (.int .i64 1) := fun O => (hn 2 2 O (by omega)).trans hP.two2
  clear hn hP
  go_enter Tryd.func56, Tryd.ntmps56
  go_wp2
  refine bodyPost_ret (v := spV (some ⟨0, 0, 0, e0, 1, 1, false, false, false⟩)) ?_ rfl ⟨rfl, ?_⟩
  · simp [spV, Sp.val, Sp.zero, e0, results, Tryd.results56, go_sem]
  · exact ((Below.refl _ _).alloc (Nat.le_refl _) _)

set_option maxHeartbeats 4000000 in
set_option maxRecDepth 100000 in
theorem short_at7 (w : World) (hP : Plc w) :
    Calls Tryd.prog 56 #[.string ⟨#[85, 78, 87, 65, 84, 67, 72]⟩] w fun e w' => e = .returned (spV (some ⟨0, 0, 0, e0, 1, 1, false, false, false⟩)) ∧ Below w.heap.size w w' := by
  have hn : ∀ k o (O : Obj), k < 9 → (w.alloc O).cell? ⟨k, o, none⟩ = w.cell? ⟨k, o, none⟩ := fun k o O hk => World.cell?_alloc_old _ _ _ (by have := hP.size; simp; omega)
  have a0 : ∀ O : Obj, (w.alloc O).cell? ⟨0, 0, none⟩ = some (.int .i64 1) := fun O => (hn 0 0 O (by omega)).trans hP.one0
  have a1 : ∀ O : Obj, (w.alloc O).cell? ⟨0, 1, none⟩ = some (.int .i64 1) := fun O => (hn 0 1 O (by omega)).trans hP.one1
  have a2 : ∀ O : Obj, (w.alloc O).cell? ⟨0, 2, none⟩ = some (.int .i64 1) := fun O => (hn 0 2 O (by omega)).trans hP.one2
  have b0 : ∀ O : Obj, (w.alloc O).cell? ⟨1, 0, none⟩ = some (.int .i64 1) := fun O => (hn 1 0 O (by omega)).trans hP.all0
  have b1 : ∀ O : Obj, (w.alloc O).cell? ⟨1, 1, none⟩ = some (.int .i64 (-1)) := fun O => (hn 1 1 O (by omega)).trans hP.all1
  have b2 : ∀ O : Obj, (w.alloc O).cell? ⟨1, 2, none⟩ = some (.int .i64 1) := fun O => (hn 1 2 O (by omega)).trans hP.all2
  have c0 : ∀ O : Obj, (w.alloc O).cell? ⟨2, 0, none⟩ = some (.int .i64 1) := fun O => (hn 2 0 O (by omega)).trans hP.two0
  have c1 : ∀ O : Obj, (w.alloc O).cell? ⟨2, 1, none⟩ = some (.int .i64 2) := fun O => (hn 2 1 O (by omega)).trans hP.two1
  have c2 : ∀ O : Obj, (w.alloc O).cell? ⟨2, 2, none⟩ = some (.int .i64 1) := fun O => (hn 2 2 O (by omega)).trans hP.two2
  clear hn hP
  go_enter Tryd.func56, Tryd.ntmps56
  go_wp2
  refine bodyPost_ret (v := spV (some ⟨0, 0, 0, e0, 1, 1, false, false, false⟩)) ?_ rfl ⟨rfl, ?_⟩
  · simp [spV, Sp.val, Sp.zero, e0, results, Tryd.results56, go_sem]
  · exact ((Below.refl _ _).alloc (Nat.le_refl _) _)

set_option maxHeartbeats 4000000 in
set_option maxRecDepth 100000 in
theorem short_at8 (w : World) (hP : Plc w) :
    Calls Tryd.prog 56 #[.string ⟨#[70, 76, 85, 83, 72, 65, 76, 76]⟩] w fun e w' => e = .returned (spV (some ⟨0, 0, 0, e0, 1, 1, true, false, false⟩)) ∧ Below w.heap.size w w' := by
  have hn : ∀ k o (O : Obj), k < 9 → (w.alloc O).cell? ⟨k, o, none⟩ = w.cell? ⟨k, o, none⟩ := fun k o O hk => World.cell?_alloc_old _ _ _ (by have := hP.size; simp; omega)
  have a0 : ∀ O : Obj, (w.alloc O).cell? ⟨0, 0, none⟩ = some (.int .i64 1) := fun O => (hn 0 0 O (by omega)).trans hP.one0
  have a1 : ∀ O : Obj, (w.alloc O).cell? ⟨0, 1, none⟩ = some (.int .i64 1) := fun O => (hn 0 1 O (by omega)).trans hP.one1
  have a2 : ∀ O : Obj, (w.alloc O).cell? ⟨0, 2, none⟩ = some (.int .i64 1) := fun O => (hn 0 2 O (by omega)).trans hP.one2
  have b0 : ∀ O : Obj, (w.alloc O).cell? ⟨1, 0, none⟩ = some (.int .i64 1) := fun O => (hn 1 0 O (by omega)).trans hP.all0
  have b1 : ∀ O : Obj, (w.alloc O).cell? ⟨1, 1, none⟩ = some (.int .i64 (-1)) := fun O => (hn 1 1 O (by omega)).trans hP.all1
  have b2 : ∀ O : Obj, (w.alloc O).cell? ⟨1, 2, none⟩ = some (.int .i64 1) := fun O => (hn 1 2 O (by omega)).trans hP.all2
  have c0 : ∀ O : Obj, (w.alloc O).cell? ⟨2, 0, none⟩ = some (.int .i64 1) := fun O => (hn 2 0 O (by omega)).trans hP.two0
  have c1 : ∀ O : Obj, (w.alloc O).cell? ⟨2, 1, none⟩ = some (.int .i64 2) := fun O => (hn 2 1 O (by omega)).trans hP.two1
  have c2 : ∀ O : Obj, (w.alloc O).cell? ⟨2, 2, none⟩ = some (.int .i64 1) := fun O => (hn 2 2 O (by omega)).trans hP.two2
  clear hn hP
  go_enter Tryd.func56, Tryd.ntmps56
  go_wp2
  refine bodyPost_ret (v := spV (some ⟨0, 0, 0, e0, 1, 1, true, false, false⟩)) ?_ rfl ⟨rfl, ?_⟩
  · simp [spV, Sp.val, Sp.zero, e0, results, Tryd.results56, go_sem]
  · exact ((Below.refl _ _).alloc (Nat.le_refl _) _)

set_option maxHeartbeats 4000000 in
set_option maxRecDepth 100000 in
theorem short_at9 (w : World) (hP : Plc w) :
    Calls Tryd.prog 56 #[.string ⟨#[71, 69, 84]⟩] w fun e w' => e = .returned (spV (some ⟨1, 1, 1, e0, 2, 2, false, false, false⟩)) ∧ Below w.heap.size w w' := by
  have hn : ∀ k o (O : Obj), k < 9 → (w.alloc O).cell? ⟨k, o, none⟩ = w.cell? ⟨k, o, none⟩ := fun k o O hk => World.cell?_alloc_old _ _ _ (by have := hP.size; simp; omega)
  have a0 : ∀ O : Obj, (w.alloc O).cell? ⟨0, 0, none⟩ = some (.int .i64 1) := fun O => (hn 0 0 O (by omega)).trans hP.one0
  have a1 : ∀ O : Obj, (w.alloc O).cell? ⟨0, 1, none⟩ = some (.int .i64 1) := fun O => (hn 0 1 O (by omega)).trans hP.one1
  have a2 : ∀ O : Obj, (w.alloc O).cell? ⟨0, 2, none⟩ = some (.int .i64 1) := fun O => (hn 0 2 O (by omega)).trans hP.one2
  have b0 : ∀ O : Obj, (w.alloc O).cell? ⟨1, 0, none⟩ = some (.int .i64 1) := fun O => (hn 1 0 O (by omega)).trans hP.all0
  have b1 : ∀ O : Obj, (w.alloc O).cell? ⟨1, 1, none⟩ = some (.int .i64 (-1)) := fun O => (hn 1 1 O (by omega)).trans hP.all1
  have b2 : ∀ O : Obj, (w.alloc O).cell? ⟨1, 2, none⟩ = some (.int .i64 1) := fun O => (hn 1 2 O (by omega)).trans hP.all2
  have c0 : ∀ O : Obj, (w.alloc O).cell? ⟨2, 0, none⟩ = some (.int .i64 1) := fun O => (hn 2 0 O (by omega)).trans hP.two0
  have c1 : ∀ O : Obj, (w.alloc O).cell? ⟨2, 1, none⟩ = some (.int .i64 2) := fun O => (hn 2 1 O (by omega)).trans hP.two1
  have c2 : ∀ O : Obj, (w.alloc O).cell? ⟨2, 2, none⟩ = some (.int .i64 1) := fun O => (hn 2 2 O (by omega)).trans hP.two2
  clear hn hP
  go_enter Tryd.func56, Tryd.ntmps56
  go_wp2
  refine bodyPost_ret (v := spV (some ⟨1, 1, 1, e0, 2, 2, false, false, false⟩)) ?_ rfl ⟨rfl, ?_⟩
  · simp [spV, Sp.val, Sp.zero, e0, results, Tryd.results56, go_sem]
  · exact ((Below.refl _ _).alloc (Nat.le_refl _) _)

set_option maxHeartbeats 4000000 in
set_option maxRecDepth 100000 in
theorem short_at10 (w : World) (hP : Plc w) :
    Calls Tryd.prog 56 #[.string ⟨#[83, 84, 82, 76, 69, 78]⟩] w fun e w' => e = .returned (spV (some ⟨1, 1, 1, e0, 2, 2, false, false, false⟩)) ∧ Below w.heap.size w w' := by
  have hn : ∀ k o (O : Obj), k < 9 → (w.alloc O).cell? ⟨k, o, none⟩ = w.cell? ⟨k, o, none⟩ := fun k o O hk => World.cell?_alloc_old _ _ _ (by have := hP.size; simp; omega)
  have a0 : ∀ O : Obj, (w.alloc O).cell? ⟨0, 0, none⟩ = some (.int .i64 1) := fun O => (hn 0 0 O (by omega)).trans hP.one0
  have a1 : ∀ O : Obj, (w.alloc O).cell? ⟨0, 1, none⟩ = some (.int .i64 1) := fun O => (hn 0 1 O (by omega)).trans hP.one1
  have a2 : ∀ O : Obj, (w.alloc O).cell? ⟨0, 2, none⟩ = some (.int .i64 1) := fun O => (hn 0 2 O (by omega)).trans hP.one2
  have b0 : ∀ O : Obj, (w.alloc O).cell? ⟨1, 0, none⟩ = some (.int .i64 1) := fun O => (hn 1 0 O (by omega)).trans hP.all0
  have b1 : ∀ O : Obj, (w.alloc O).cell? ⟨1, 1, none⟩ = some (.int .i64 (-1)) := fun O => (hn 1 1 O (by omega)).trans hP.all1
  have b2 : ∀ O : Obj, (w.alloc O).cell? ⟨1, 2, none⟩ = some (.int .i64 1) := fun O => (hn 1 2 O (by omega)).trans hP.all2
  have c0 : ∀ O : Obj, (w.alloc O).cell? ⟨2, 0, none⟩ = some (.int .i64 1) := fun O => (hn 2 0 O (by omega)).trans hP.two0
  have c1 : ∀ O : Obj, (w.alloc O).cell? ⟨2, 1, none⟩ = some (.int .i64 2) := fun O => (hn 2 1 O (by omega)).trans hP.two1
  have c2 : ∀ O : Obj, (w.alloc O).cell? ⟨2, 2, none⟩ = some (.int .i64 1) := fun O => (hn 2 2 O (by omega)).trans hP.two2
  clear hn hP
  go_enter Tryd.func56, Tryd.ntmps56
  go_wp2
  refine bodyPost_ret (v := spV (some ⟨1, 1, 1, e0, 2, 2, false, false, false⟩)) ?_ rfl ⟨rfl, ?_⟩
  · simp [spV, Sp.val, Sp.zero, e0, results, Tryd.results56, go_sem]
  · exact ((Below.refl _ _).alloc (Nat.le_refl _) _)

set_option maxHeartbeats 4000000 in
set_option maxRecDepth 100000 in
theorem short_at11 (w : World) (hP : Plc w) :
    Calls Tryd.prog 56 #[.string ⟨#[84, 89, 80, 69]⟩] w fun e w' => e = .returned (spV (some ⟨1, 1, 1, e0, 2, 2, false, false, false⟩)) ∧ Below w.heap.size w w' := by
  have hn : ∀ k o (O : Obj), k < 9 → (w.alloc O).cell? ⟨k, o, none⟩ = w.cell? ⟨k, o, none⟩ := fun k o O hk => World.cell?_alloc_old _ _ _ (by have := hP.size; simp; omega)
  have a0 : ∀ O : Obj, (w.alloc O).cell? ⟨0, 0, none⟩ = some (.int .i64 1) := fun O => (hn 0 0 O (by omega)).trans hP.one0
  have a1 : ∀ O : Obj, (w.alloc O).cell? ⟨0, 1, none⟩ = some (.int .i64 1) := fun O => (hn 0 1 O (by omega)).trans hP.one1
  have a2 : ∀ O : Obj, (w.alloc O).cell? ⟨0, 2, none⟩ = some (.int .i64 1) := fun O => (hn 0 2 O (by omega)).trans hP.one2
  have b0 : ∀ O : Obj, (w.alloc O).cell? ⟨1, 0, none⟩ = some (.int .i64 1) := fun O => (hn 1 0 O (by omega)).trans hP.all0
  have b1 : ∀ O : Obj, (w.alloc O).cell? ⟨1, 1, none⟩ = some (.int .i64 (-1)) := fun O => (hn 1 1 O (by omega)).trans hP.all1
  have b2 : ∀ O : Obj, (w.alloc O).cell? ⟨1, 2, none⟩ = some (.int .i64 1) := fun O => (hn 1 2 O (by omega)).trans hP.all2
  have c0 : ∀ O : Obj, (w.alloc O).cell? ⟨2, 0, none⟩ = some (.int .i64 1) := fun O => (hn 2 0 O (by omega)).trans hP.two0
  have c1 : ∀ O : Obj, (w.alloc O).cell? ⟨2, 1, none⟩ = some (.int .i64 2) := fun O => (hn 2 1 O (by omega)).trans hP.two1
  have c2 : ∀ O : Obj, (w.alloc O).cell? ⟨2, 2, none⟩ = some (.int .i64 1) := fun O => (hn 2 2 O (by omega)).trans hP.two2
  clear hn hP
  go_enter Tryd.func56, Tryd.ntmps56
  go_wp2
  refine bodyPost_ret (v := spV (some ⟨1, 1, 1, e0, 2, 2, false, false, false⟩)) ?_ rfl ⟨rfl, ?_⟩
  · simp [spV, Sp.val, Sp.zero, e0, results, Tryd.results56, go_sem]
  · exact ((Below.refl _ _).alloc (Nat.le_refl _) _)

set_option maxHeartbeats 4000000 in
set_option maxRecDepth 100000 in
theorem short_at12 (w : World) (hP : Plc w) :
    Calls Tryd.prog 56 #[.string ⟨#[84, 84, 76]⟩] w fun e w' => e = .returned (spV (some ⟨1, 1, 1, e0, 2, 2, false, false, false⟩)) ∧ Below w.heap.size w w' := by
  have hn : ∀ k o (O : Obj), k < 9 → (w.alloc O).cell? ⟨k, o, none⟩ = w.cell? ⟨k, o, none⟩ := fun k o O hk => World.cell?_alloc_old _ _ _ (by have := hP.size; simp; omega)
  have a0 : ∀ O : Obj, (w.alloc O).cell? ⟨0, 0, none⟩ = some (.int .i64 1) := fun O => (hn 0 0 O (by omega)).trans hP.one0
  have a1 : ∀ O : Obj, (w.alloc O).cell? ⟨0, 1, none⟩ = some (.int .i64 1) := fun O => (hn 0 1 O (by omega)).trans hP.one1
  have a2 : ∀ O : Obj, (w.alloc O).cell? ⟨0, 2, none⟩ = some (.int .i64 1) := fun O => (hn 0 2 O (by omega)).trans hP.one2
  have b0 : ∀ O : Obj, (w.alloc O).cell? ⟨1, 0, none⟩ = some (.int .i64 1) := fun O => (hn 1 0 O (by omega)).trans hP.all0
  have b1 : ∀ O : Obj, (w.alloc O).cell? ⟨1, 1, none⟩ = some (.int .i64 (-1)) := fun O => (hn 1 1 O (by omega)).trans hP.all1
  have b2 : ∀ O : Obj, (w.alloc O).cell? ⟨1, 2, none⟩ = some (.int .i64 1) := fun O => (hn 1 2 O (by omega)).trans hP.all2
  have c0 : ∀ O : Obj, (w.alloc O).cell? ⟨2, 0, none⟩ = some (.int .i64 1) := fun O => (hn 2 0 O (by omega)).trans hP.two0
  have c1 : ∀ O : Obj, (w.alloc O).cell? ⟨2, 1, none⟩ = some (.int .i64 2) := fun O => (hn 2 1 O (by omega)).trans hP.two1
  have c2 : ∀ O : Obj, (w.alloc O).cell? ⟨2, 2, none⟩ = some (.int .i64 1) := fun O => (hn 2 2 O (by omega)).trans hP.two2
  clear hn hP
  go_enter Tryd.func56, Tryd.ntmps56
  go_wp2
  refine bodyPost_ret (v := spV (some ⟨1, 1, 1, e0, 2, 2, false, false, false⟩)) ?_ rfl ⟨rfl, ?_⟩
  · simp [spV, Sp.val, Sp.zero, e0, results, Tryd.results56, go_sem]
  · exact ((Below.refl _ _).alloc (Nat.le_refl _) _)

set_option maxHeartbeats 4000000 in
set_option maxRecDepth 100000 in
theorem short_at13 (w : World) (hP : Plc w) :
    Calls Tryd.prog 56 #[.string ⟨#[80, 84, 84, 76]⟩] w fun e w' => e = .returned (spV (some ⟨1, 1, 1, e0, 2, 2, false, false, false⟩)) ∧ Below w.heap.size w w' := by
  have hn : ∀ k o (O : Obj), k < 9 → (w.alloc O).cell? ⟨k, o, none⟩ = w.cell? ⟨k, o, none⟩ := fun k o O hk => World.cell?_alloc_old _ _ _ (by have := hP.size; simp; omega)
  have a0 : ∀ O : Obj, (w.alloc O).cell? ⟨0, 0, none⟩ = some (.int .i64 1) := fun O => (hn 0 0 O (by omega)).trans hP.one0
  have a1 : ∀ O : Obj, (w.alloc O).cell? ⟨0, 1, none⟩ = some (.int .i64 1) := fun O => (hn 0 1 O (by omega)).trans hP.one1
  have a2 : ∀ O : Obj, (w.alloc O).cell? ⟨0, 2, none⟩ = some (.int .i64 1) := fun O => (hn 0 2 O (by omega)).trans hP.one2
  have b0 : ∀ O : Obj, (w.alloc O).cell? ⟨1, 0, none⟩ = some (.int .i64 1) := fun O => (hn 1 0 O (by omega)).trans hP.all0
  have b1 : ∀ O : Obj, (w.alloc O).cell? ⟨1, 1, none⟩ = some (.int .i64 (-1)) := fun O => (hn 1 1 O (by omega)).trans hP.all1
  have b2 : ∀ O : Obj, (w.alloc O).cell? ⟨1, 2, none⟩ = some (.int .i64 1) := fun O => (hn 1 2 O (by omega)).trans hP.all2
  have c0 : ∀ O : Obj, (w.alloc O).cell? ⟨2, 0, none⟩ = some (.int .i64 1) := fun O => (hn 2 0 O (by omega)).trans hP.two0
  have c1 : ∀ O : Obj, (w.alloc O).cell? ⟨2, 1, none⟩ = some (.int .i64 2) := fun O => (hn 2 1 O (by omega)).trans hP.two1
  have c2 : ∀ O : Obj, (w.alloc O).cell? ⟨2, 2, none⟩ = some (.int .i64 1) := fun O => (hn 2 2 O (by omega)).trans hP.two2
  clear hn hP
  go_enter Tryd.func56, Tryd.ntmps56
  go_wp2
  refine bodyPost_ret (v := spV (some ⟨1, 1, 1, e0, 2, 2, false, false, false⟩)) ?_ rfl ⟨rfl, ?_⟩
  · simp [spV, Sp.val, Sp.zero, e0, results, Tryd.results56, go_sem]
  · exact ((Below.refl _ _).alloc (Nat.le_refl _) _)

set_option maxHeartbeats 4000000 in
set_option maxRecDepth 100000 in
theorem short_at14 (w : World) (hP : Plc w) :
    Calls Tryd.prog 56 #[.string ⟨#[72, 76, 69, 78]⟩] w fun e w' => e = .returned (spV (some ⟨1, 1, 1, e0, 2, 2, false, false, false⟩)) ∧ Below w.heap.size w w' := by
  have hn : ∀ k o (O : Obj), k < 9 → (w.alloc O).cell? ⟨k, o, none⟩ = w.cell? ⟨k, o, none⟩ := fun k o O hk => World.cell?_alloc_old _ _ _ (by have := hP.size; simp; omega)
  have a0 : ∀ O : Obj, (w.alloc O).cell? ⟨0, 0, none⟩ = some (.int .i64 1) := fun O => (hn 0 0 O (by omega)).trans hP.one0
  have a1 : ∀ O : Obj, (w.alloc O).cell? ⟨0, 1, none⟩ = some (.int .i64 1) := fun O => (hn 0 1 O (by omega)).trans hP.one1
  have a2 : ∀ O : Obj, (w.alloc O).cell? ⟨0, 2, none⟩ = some (.int .i64 1) := fun O => (hn 0 2 O (by omega)).trans hP.one2
  have b0 : ∀ O : Obj, (w.alloc O).cell? ⟨1, 0, none⟩ = some (.int .i64 1) := fun O => (hn 1 0 O (by omega)).trans hP.all0
  have b1 : ∀ O : Obj, (w.alloc O).cell? ⟨1, 1, none⟩ = some (.int .i64 (-1)) := fun O => (hn 1 1 O (by omega)).trans hP.all1
  have b2 : ∀ O : Obj, (w.alloc O).cell? ⟨1, 2, none⟩ = some (.int .i64 1) := fun O => (hn 1 2 O (by omega)).trans hP.all2
  have c0 : ∀ O : Obj, (w.alloc O).cell? ⟨2, 0, none⟩ = some (.int .i64 1) := fun O => (hn 2 0 O (by omega)).trans hP.two0
  have c1 : ∀ O : Obj, (w.alloc O).cell? ⟨2, 1, none⟩ = some (.int .i64 2) := fun O => (hn 2 1 O (by omega)).trans hP.two1
  have c2 : ∀ O : Obj, (w.alloc O).cell? ⟨2, 2, none⟩ = some (.int .i64 1) := fun O => (hn 2 2 O (by omega)).trans hP.two2
  clear hn hP
  go_enter Tryd.func56, Tryd.ntmps56
  go_wp2
  refine bodyPost_ret (v := spV (some ⟨1, 1, 1, e0, 2, 2, false, false, false⟩)) ?_ rfl ⟨rfl, ?_⟩
  · simp [spV, Sp.val, Sp.zero, e0, results, Tryd.results56, go_sem]
  · exact ((Below.refl _ _).alloc (Nat.le_refl _) _)

set_option maxHeartbeats 4000000 in
set_option maxRecDepth 100000 in
theorem short_at15 (w : World) (hP : Plc w) :
    Calls Tryd.prog 56 #[.string ⟨#[72, 71, 69, 84, 65, 76, 76]⟩] w fun e w' => e = .returned (spV (some ⟨1, 1, 1, e0, 2, 2, false, false, false⟩)) ∧ Below w.heap.size w w' := by
  have hn : ∀ k o (O : Obj), k < 9 → (w.alloc O).cell? ⟨k, o, none⟩ = w.cell? ⟨k, o, none⟩ := fun k o O hk => World.cell?_alloc_old _ _ _ (by have := hP.size; simp; omega)
  have a0 : ∀ O : Obj, (w.alloc O).cell? ⟨0, 0, none⟩ = some (.int .i64 1) := fun O => (hn 0 0 O (by omega)).trans hP.one0
  have a1 : ∀ O : Obj, (w.alloc O).cell? ⟨0, 1, none⟩ = some (.int .i64 1) := fun O => (hn 0 1 O (by omega)).trans hP.one1
  have a2 : ∀ O : Obj, (w.alloc O).cell? ⟨0, 2, none⟩ = some (.int .i64 1) := fun O => (hn 0 2 O (by omega)).trans hP.one2
  have b0 : ∀ O : Obj, (w.alloc O).cell? ⟨1, 0, none⟩ = some (.int .i64 1) := fun O => (hn 1 0 O (by omega)).trans hP.all0
  have b1 : ∀ O : Obj, (w.alloc O).cell? ⟨1, 1, none⟩ = some (.int .i64 (-1)) := fun O => (hn 1 1 O (by omega)).trans hP.all1
  have b2 : ∀ O : Obj, (w.alloc O).cell? ⟨1, 2, none⟩ = some (.int .i64 1) := fun O => (hn 1 2 O (by omega)).trans hP.all2
  have c0 : ∀ O : Obj, (w.alloc O).cell? ⟨2, 0, none⟩ = some (.int .i64 1) := fun O => (hn 2 0 O (by omega)).trans hP.two0
  have c1 : ∀ O : Obj, (w.alloc O).cell? ⟨2, 1, none⟩ = some (.int .i64 2) := fun O => (hn 2 1 O (by omega)).trans hP.two1
  have c2 : ∀ O : Obj, (w.alloc O).cell? ⟨2, 2, none⟩ = some (.int .i64 1) := fun O => (hn 2 2 O (by omega)).trans hP.two2
  clear hn hP
  go_enter Tryd.func56, Tryd.ntmps56
  go_wp2
  refine bodyPost_ret (v := spV (some ⟨1, 1, 1, e0, 2, 2, false, false, false⟩)) ?_ rfl ⟨rfl, ?_⟩
  · simp [spV, Sp.val, Sp.zero, e0, results, Tryd.results56, go_sem]
  · exact ((Below.refl _ _).alloc (Nat.le_refl _) _)

set_option maxHeartbeats 4000000 in
set_option maxRecDepth 100000 in
theorem short_at16 (w : World) (hP : Plc w) :
    Calls Tryd.prog 56 #[.string ⟨#[72, 75, 69, 89, 83]⟩] w fun e w' => e = .returned (spV (some ⟨1, 1, 1, e0, 2, 2, false, false, false⟩)) ∧ Below w.heap.size w w' := by
  have hn : ∀ k o (O : Obj), k < 9 → (w.alloc O).cell? ⟨k, o, none⟩ = w.cell? ⟨k, o, none⟩ := fun k o O hk => World.cell?_alloc_old _ _ _ (by have := hP.size; simp; omega)
  have a0 : ∀ O : Obj, (w.alloc O).cell? ⟨0, 0, none⟩ = some (.int .i64 1) := fun O => (hn 0 0 O (by omega)).trans hP.one0
  have a1 : ∀ O : Obj, (w.alloc O).cell? ⟨0, 1, none⟩ = some (.int .i64 1) := fun O => (hn 0 1 O (by omega)).trans hP.one1
  have a2 : ∀ O : Obj, (w.alloc O).cell? ⟨0, 2, none⟩ = some (.int .i64 1) := fun O => (hn 0 2 O (by omega)).trans hP.one2
  have b0 : ∀ O : Obj, (w.alloc O).cell? ⟨1, 0, none⟩ = some (.int .i64 1) := fun O => (hn 1 0 O (by omega)).trans hP.all0
  have b1 : ∀ O : Obj, (w.alloc O).cell? ⟨1, 1, none⟩ = some (.int .i64 (-1)) := fun O => (hn 1 1 O (by omega)).trans hP.all1
  have b2 : ∀ O : Obj, (w.alloc O).cell? ⟨1, 2, none⟩ = some (.int .i64 1) := fun O => (hn 1 2 O (by omega)).trans hP.all2
  have c0 : ∀ O : Obj, (w.alloc O).cell? ⟨2, 0, none⟩ = some (.int .i64 1) := fun O => (hn 2 0 O (by omega)).trans hP.two0
  have c1 : ∀ O : Obj, (w.alloc O).cell? ⟨2, 1, none⟩ = some (.int .i64 2) := fun O => (hn 2 1 O (by omega)).trans hP.two1
  have c2 : ∀ O : Obj, (w.alloc O).cell? ⟨2, 2, none⟩ = some (.int .i64 1) := fun O => (hn 2 2 O (by omega)).trans hP.two2
  clear hn hP
  go_enter Tryd.func56, Tryd.ntmps56
  go_wp2
  refine bodyPost_ret (v := spV (some ⟨1, 1, 1, e0, 2, 2, false, false, false⟩)) ?_ rfl ⟨rfl, ?_⟩
  · simp [spV, Sp.val, Sp.zero, e0, results, Tryd.results56, go_sem]
  · exact ((Below.refl _ _).alloc (Nat.le_refl _) _)

set_option maxHeartbeats 4000000 in
set_option maxRecDepth 100000 in
theorem short_at17 (w : World) (hP : Plc w) :
    Calls Tryd.prog 56 #[.string ⟨#[72, 86, 65, 76, 83]⟩] w fun e w' => e = .returned (spV (some ⟨1, 1, 1, e0, 2, 2, false, false, false⟩)) ∧ Below w.heap.size w w' := by
  have hn : ∀ k o (O : Obj), k < 9 → (w.alloc O).cell? ⟨k, o, none⟩ = w.cell? ⟨k, o, none⟩ := fun k o O hk => World.cell?_alloc_old _ _ _ (by have := hP.size; simp; omega)
  have a0 : ∀ O : Obj, (w.alloc O).cell? ⟨0, 0, none⟩ = some (.int .i64 1) := fun O => (hn 0 0 O (by omega)).trans hP.one0
  have a1 : ∀ O : Obj, (w.alloc O).cell? ⟨0, 1, none⟩ = some (.int .i64 1) := fun O => (hn 0 1 O (by omega)).trans hP.one1
  have a2 : ∀ O : Obj, (w.alloc O).cell? ⟨0, 2, none⟩ = some (.int .i64 1) := fun O => (hn 0 2 O (by omega)).trans hP.one2
  have b0 : ∀ O : Obj, (w.alloc O).cell? ⟨1, 0, none⟩ = some (.int .i64 1) := fun O => (hn 1 0 O (by omega)).trans hP.all0
  have b1 : ∀ O : Obj, (w.alloc O).cell? ⟨1, 1, none⟩ = some (.int .i64 (-1)) := fun O => (hn 1 1 O (by omega)).trans hP.all1
  have b2 : ∀ O : Obj, (w.alloc O).cell? ⟨1, 2, none⟩ = some (.int .i64 1) := fun O => (hn 1 2 O (by omega)).trans hP.all2
  have c0 : ∀ O : Obj, (w.alloc O).cell? ⟨2, 0, none⟩ = some (.int .i64 1) := fun O => (hn 2 0 O (by omega)).trans hP.two0
  have c1 : ∀ O : Obj, (w.alloc O).cell? ⟨2, 1, none⟩ = some (.int .i64 2) := fun O => (hn 2 1 O (by omega)).trans hP.two1
  have c2 : ∀ O : Obj, (w.alloc O).cell? ⟨2, 2, none⟩ = some (.int .i64 1) := fun O => (hn 2 2 O (by omega)).trans hP.two2
  clear hn hP
  go_enter Tryd.func56, Tryd.ntmps56
  go_wp2
  refine bodyPost_ret (v := spV (some ⟨1, 1, 1, e0, 2, 2, false, false, false⟩)) ?_ rfl ⟨rfl, ?_⟩
  · simp [spV, Sp.val, Sp.zero, e0, results, Tryd.results56, go_sem]
  · exact ((Below.refl _ _).alloc (Nat.le_refl _) _)

set_option maxHeartbeats 4000000 in
set_option maxRecDepth 100000 in
theorem short_at18 (w : World) (hP : Plc w) :
    Calls Tryd.prog 56 #[.string ⟨#[76, 76, 69, 78]⟩] w fun e w' => e = .returned (spV (some ⟨1, 1, 1, e0, 2, 2, false, false, false⟩)) ∧ Below w.heap.size w w' := by
  have hn : ∀ k o (O : Obj), k < 9 → (w.alloc O).cell? ⟨k, o, none⟩ = w.cell? ⟨k, o, none⟩ := fun k o O hk => World.cell?_alloc_old _ _ _ (by have := hP.size; simp; omega)
  have a0 : ∀ O : Obj, (w.alloc O).cell? ⟨0, 0, none⟩ = some (.int .i64 1) := fun O => (hn 0 0 O (by omega)).trans hP.one0
  have a1 : ∀ O : Obj, (w.alloc O).cell? ⟨0, 1, none⟩ = some (.int .i64 1) := fun O => (hn 0 1 O (by omega)).trans hP.one1
  have a2 : ∀ O : Obj, (w.alloc O).cell? ⟨0, 2, none⟩ = some (.int .i64 1) := fun O => (hn 0 2 O (by omega)).trans hP.one2
  have b0 : ∀ O : Obj, (w.alloc O).cell? ⟨1, 0, none⟩ = some (.int .i64 1) := fun O => (hn 1 0 O (by omega)).trans hP.all0
  have b1 : ∀ O : Obj, (w.alloc O).cell? ⟨1, 1, none⟩ = some (.int .i64 (-1)) := fun O => (hn 1 1 O (by omega)).trans hP.all1
  have b2 : ∀ O : Obj, (w.alloc O).cell? ⟨1, 2, none⟩ = some (.int .i64 1) := fun O => (hn 1 2 O (by omega)).trans hP.all2
  have c0 : ∀ O : Obj, (w.alloc O).cell? ⟨2, 0, none⟩ = some (.int .i64 1) := fun O => (hn 2 0 O (by omega)).trans hP.two0
  have c1 : ∀ O : Obj, (w.alloc O).cell? ⟨2, 1, none⟩ = some (.int .i64 2) := fun O => (hn 2 1 O (by omega)).trans hP.two1
  have c2 : ∀ O : Obj, (w.alloc O).cell? ⟨2, 2, none⟩ = some (.int .i64 1) := fun O => (hn 2 2 O (by omega)).trans hP.two2
  clear hn hP
  go_enter Tryd.func56, Tryd.ntmps56
  go_wp2
  refine bodyPost_ret (v := spV (some ⟨1, 1, 1, e0, 2, 2, false, false, false⟩)) ?_ rfl ⟨rfl, ?_⟩
  · simp [spV, Sp.val, Sp.zero, e0, results, Tryd.results56, go_sem]
  · exact ((Below.refl _ _).alloc (Nat.le_refl _) _)

set_option maxHeartbeats 4000000 in
set_option maxRecDepth 100000 in
theorem short_at19 (w : World) (hP : Plc w) :
    Calls Tryd.prog 56 #[.string ⟨#[83, 67, 65, 82, 68]⟩] w fun e w' => e = .returned (spV (some ⟨1, 1, 1, e0, 2, 2, false, false, false⟩)) ∧ Below w.heap.size w w' := by
  have hn : ∀ k o (O : Obj), k < 9 → (w.alloc O).cell? ⟨k, o, none⟩ = w.cell? ⟨k, o, none⟩ := fun k o O hk => World.cell?_alloc_old _ _ _ (by have := hP.size; simp; omega)
  have a0 : ∀ O : Obj, (w.alloc O).cell? ⟨0, 0, none⟩ = some (.int .i64 1) := fun O => (hn 0 0 O (by omega)).trans hP.one0
  have a1 : ∀ O : Obj, (w.alloc O).cell? ⟨0, 1, none⟩ = some (.int .i64 1) := fun O => (hn 0 1 O (by omega)).trans hP.one1
  have a2 : ∀ O : Obj, (w.alloc O).cell? ⟨0, 2, none⟩ = some (.int .i64 1) := fun O => (hn 0 2 O (by omega)).trans hP.one2
  have b0 : ∀ O : Obj, (w.alloc O).cell? ⟨1, 0, none⟩ = some (.int .i64 1) := fun O => (hn 1 0 O (by omega)).trans hP.all0
  have b1 : ∀ O : Obj, (w.alloc O).cell? ⟨1, 1, none⟩ = some (.int .i64 (-1)) := fun O => (hn 1 1 O (by omega)).trans hP.all1
  have b2 : ∀ O : Obj, (w.alloc O).cell? ⟨1, 2, none⟩ = some (.int .i64 1) := fun O => (hn 1 2 O (by omega)).trans hP.all2
  have c0 : ∀ O : Obj, (w.alloc O).cell? ⟨2, 0, none⟩ = some (.int .i64 1) := fun O => (hn 2 0 O (by omega)).trans hP.two0
  have c1 : ∀ O : Obj, (w.alloc O).cell? ⟨2, 1, none⟩ = some (.int .i64 2) := fun O => (hn 2 1 O (by omega)).trans hP.two1
  have c2 : ∀ O : Obj, (w.alloc O).cell? ⟨2, 2, none⟩ = some (.int .i64 1) := fun O => (hn 2 2 O (by omega)).trans hP.two2
  clear hn hP
  go_enter Tryd.func56, Tryd.ntmps56
  go_wp2
  refine bodyPost_ret (v := spV (some ⟨1, 1, 1, e0, 2, 2, false, false, false⟩)) ?_ rfl ⟨rfl, ?_⟩
  · simp [spV, Sp.val, Sp.zero, e0, results, Tryd.results56, go_sem]
  · exact ((Below.refl _ _).alloc (Nat.le_refl _) _)

set_option maxHeartbeats 4000000 in
set_option maxRecDepth 100000 in
theorem short_at20 (w : World) (hP : Plc w) :
    Calls Tryd.prog 56 #[.string ⟨#[83, 77, 69, 77, 66, 69, 82, 83]⟩] w fun e w' => e = .returned (spV (some ⟨1, 1, 1, e0, 2, 2, false, false, false⟩)) ∧ Below w.heap.size w w' := by
  have hn : ∀ k o (O : Obj), k < 9 → (w.alloc O).cell? ⟨k, o, none⟩ = w.cell? ⟨k, o, none⟩ := fun k o O hk => World.cell?_alloc_old _ _ _ (by have := hP.size; simp; omega)
  have a0 : ∀ O : Obj, (w.alloc O).cell? ⟨0, 0, none⟩ = some (.int .i64 1) := fun O => (hn 0 0 O (by omega)).trans hP.one0
  have a1 : ∀ O : Obj, (w.alloc O).cell? ⟨0, 1, none⟩ = some (.int .i64 1) := fun O => (hn 0 1 O (by omega)).trans hP.one1
  have a2 : ∀ O : Obj, (w.alloc O).cell? ⟨0, 2, none⟩ = some (.int .i64 1) := fun O => (hn 0 2 O (by omega)).trans hP.one2
  have b0 : ∀ O : Obj, (w.alloc O).cell? ⟨1, 0, none⟩ = some (.int .i64 1) := fun O => (hn 1 0 O (by omega)).trans hP.all0
  have b1 : ∀ O : Obj, (w.alloc O).cell? ⟨1, 1, none⟩ = some (.int .i64 (-1)) := fun O => (hn 1 1 O (by omega)).trans hP.all1
  have b2 : ∀ O : Obj, (w.alloc O).cell? ⟨1, 2, none⟩ = some (.int .i64 1) := fun O => (hn 1 2 O (by omega)).trans hP.all2
  have c0 : ∀ O : Obj, (w.alloc O).cell? ⟨2, 0, none⟩ = some (.int .i64 1) := fun O => (hn 2 0 O (by omega)).trans hP.two0
  have c1 : ∀ O : Obj, (w.alloc O).cell? ⟨2, 1, none⟩ = some (.int .i64 2) := fun O => (hn 2 1 O (by omega)).trans hP.two1
  have c2 : ∀ O : Obj, (w.alloc O).cell? ⟨2, 2, none⟩ = some (.int .i64 1) := fun O => (hn 2 2 O (by omega)).trans hP.two2
  clear hn hP
  go_enter Tryd.func56, Tryd.ntmps56
  go_wp2
  refine bodyPost_ret (v := spV (some ⟨1, 1, 1, e0, 2, 2, false, false, false⟩)) ?_ rfl ⟨rfl, ?_⟩
  · simp [spV, Sp.val, Sp.zero, e0, results, Tryd.results56, go_sem]
  · exact ((Below.refl _ _).alloc (Nat.le_refl _) _)

set_option maxHeartbeats 4000000 in
set_option maxRecDepth 100000 in
theorem short_at21 (w : World) (hP : Plc w) :
    Calls Tryd.prog 56 #[.string ⟨#[83, 82, 65, 78, 68, 77, 69, 77, 66, 69, 82]⟩] w fun e w' => e = .returned (spV (some ⟨1, 1, 1, e0, 2, 2, false, false, false⟩)) ∧ Below w.heap.size w w' := by
  have hn : ∀ k o (O : Obj), k < 9 → (w.alloc O).cell? ⟨k, o, none⟩ = w.cell? ⟨k, o, none⟩ := fun k o O hk => World.cell?_alloc_old _ _ _ (by have := hP.size; simp; omega)
  have a0 : ∀ O : Obj, (w.alloc O).cell? ⟨0, 0, none⟩ = some (.int .i64 1) := fun O => (hn 0 0 O (by omega)).trans hP.one0
  have a1 : ∀ O : Obj, (w.alloc O).cell? ⟨0, 1, none⟩ = some (.int .i64 1) := fun O => (hn 0 1 O (by omega)).trans hP.one1
  have a2 : ∀ O : Obj, (w.alloc O).cell? ⟨0, 2, none⟩ = some (.int .i64 1) := fun O => (hn 0 2 O (by omega)).trans hP.one2
  have b0 : ∀ O : Obj, (w.alloc O).cell? ⟨1, 0, none⟩ = some (.int .i64 1) := fun O => (hn 1 0 O (by omega)).trans hP.all0
  have b1 : ∀ O : Obj, (w.alloc O).cell? ⟨1, 1, none⟩ = some (.int .i64 (-1)) := fun O => (hn 1 1 O (by omega)).trans hP.all1
  have b2 : ∀ O : Obj, (w.alloc O).cell? ⟨1, 2, none⟩ = some (.int .i64 1) := fun O => (hn 1 2 O (by omega)).trans hP.all2
  have c0 : ∀ O : Obj, (w.alloc O).cell? ⟨2, 0, none⟩ = some (.int .i64 1) := fun O => (hn 2 0 O (by omega)).trans hP.two0
  have c1 : ∀ O : Obj, (w.alloc O).cell? ⟨2, 1, none⟩ = some (.int .i64 2) := fun O => (hn 2 1 O (by omega)).trans hP.two1
  have c2 : ∀ O : Obj, (w.alloc O).cell? ⟨2, 2, none⟩ = some (.int .i64 1) := fun O => (hn 2 2 O (by omega)).trans hP.two2
  clear hn hP
  go_enter Tryd.func56, Tryd.ntmps56
  go_wp2
  refine bodyPost_ret (v := spV (some ⟨1, 1, 1, e0, 2, 2, false, false, false⟩)) ?_ rfl ⟨rfl, ?_⟩
  · simp [spV, Sp.val, Sp.zero, e0, results, Tryd.results56, go_sem]
  · exact ((Below.refl _ _).alloc (Nat.le_refl _) _)

set_option maxHeartbeats 4000000 in
set_option maxRecDepth 100000 in
theorem short_at22 (w : World) (hP : Plc w) :
    Calls Tryd.prog 56 #[.string ⟨#[90, 67, 65, 82, 68]⟩] w fun e w' => e = .returned (spV (some ⟨1, 1, 1, e0, 2, 2, false, false, false⟩)) ∧ Below w.heap.size w w' := by
  have hn : ∀ k o (O : Obj), k < 9 → (w.alloc O).cell? ⟨k, o, none⟩ = w.cell? ⟨k, o, none⟩ := fun k o O hk => World.cell?_alloc_old _ _ _ (by have := hP.size; simp; omega)
  have a0 : ∀ O : Obj, (w.alloc O).cell? ⟨0, 0, none⟩ = some (.int .i64 1) := fun O => (hn 0 0 O (by omega)).trans hP.one0
  have a1 : ∀ O : Obj, (w.alloc O).cell? ⟨0, 1, none⟩ = some (.int .i64 1) := fun O => (hn 0 1 O (by omega)).trans hP.one1
  have a2 : ∀ O : Obj, (w.alloc O).cell? ⟨0, 2, none⟩ = some (.int .i64 1) := fun O => (hn 0 2 O (by omega)).trans hP.one2
  have b0 : ∀ O : Obj, (w.alloc O).cell? ⟨1, 0, none⟩ = some (.int .i64 1) := fun O => (hn 1 0 O (by omega)).trans hP.all0
  have b1 : ∀ O : Obj, (w.alloc O).cell? ⟨1, 1, none⟩ = some (.int .i64 (-1)) := fun O => (hn 1 1 O (by omega)).trans hP.all1
  have b2 : ∀ O : Obj, (w.alloc O).cell? ⟨1, 2, none⟩ = some (.int .i64 1) := fun O => (hn 1 2 O (by omega)).trans hP.all2
  have c0 : ∀ O : Obj, (w.alloc O).cell? ⟨2, 0, none⟩ = some (.int .i64 1) := fun O => (hn 2 0 O (by omega)).trans hP.two0
  have c1 : ∀ O : Obj, (w.alloc O).cell? ⟨2, 1, none⟩ = some (.int .i64 2) := fun O => (hn 2 1 O (by omega)).trans hP.two1
  have c2 : ∀ O : Obj, (w.alloc O).cell? ⟨2, 2, none⟩ = some (.int .i64 1) := fun O => (hn 2 2 O (by omega)).trans hP.two2
  clear hn hP
  go_enter Tryd.func56, Tryd.ntmps56
  go_wp2
  refine bodyPost_ret (v := spV (some ⟨1, 1, 1, e0, 2, 2, false, false, false⟩)) ?_ rfl ⟨rfl, ?_⟩
  · simp [spV, Sp.val, Sp.zero, e0, results, Tryd.results56, go_sem]
  · exact ((Below.refl _ _).alloc (Nat.le_refl _) _)

set_option maxHeartbeats 4000000 in
set_option maxRecDepth 100000 in
theorem short_at23 (w : World) (hP : Plc w) :
    Calls Tryd.prog 56 #[.string ⟨#[73, 78, 67, 82]⟩] w fun e w' => e = .returned (spV (some ⟨1, 1, 1, e0, 2, 2, true, false, false⟩)) ∧ Below w.heap.size w w' := by
  have hn : ∀ k o (O : Obj), k < 9 → (w.alloc O).cell? ⟨k, o, none⟩ = w.cell? ⟨k, o, none⟩ := fun k o O hk => World.cell?_alloc_old _ _ _ (by have := hP.size; simp; omega)
  have a0 : ∀ O : Obj, (w.alloc O).cell? ⟨0, 0, none⟩ = some (.int .i64 1) := fun O => (hn 0 0 O (by omega)).trans hP.one0
  have a1 : ∀ O : Obj, (w.alloc O).cell? ⟨0, 1, none⟩ = some (.int .i64 1) := fun O => (hn 0 1 O (by omega)).trans hP.one1
  have a2 : ∀ O : Obj, (w.alloc O).cell? ⟨0, 2, none⟩ = some (.int .i64 1) := fun O => (hn 0 2 O (by omega)).trans hP.one2
  have b0 : ∀ O : Obj, (w.alloc O).cell? ⟨1, 0, none⟩ = some (.int .i64 1) := fun O => (hn 1 0 O (by omega)).trans hP.all0
  have b1 : ∀ O : Obj, (w.alloc O).cell? ⟨1, 1, none⟩ = some (.int .i64 (-1)) := fun O => (hn 1 1 O (by omega)).trans hP.all1
  have b2 : ∀ O : Obj, (w.alloc O).cell? ⟨1, 2, none⟩ = some (.int .i64 1) := fun O => (hn 1 2 O (by omega)).trans hP.all2
  have c0 : ∀ O : Obj, (w.alloc O).cell? ⟨2, 0, none⟩ = some (.int .i64 1) := fun O => (hn 2 0 O (by omega)).trans hP.two0
  have c1 : ∀ O : Obj, (w.alloc O).cell? ⟨2, 1, none⟩ = some (.int .i64 2) := fun O => (hn 2 1 O (by omega)).trans hP.two1
  have c2 : ∀ O : Obj, (w.alloc O).cell? ⟨2, 2, none⟩ = some (.int .i64 1) := fun O => (hn 2 2 O (by omega)).trans hP.two2
  clear hn hP
  go_enter Tryd.func56, Tryd.ntmps56
  go_wp2
  refine bodyPost_ret (v := spV (some ⟨1, 1, 1, e0, 2, 2, true, false, false⟩)) ?_ rfl ⟨rfl, ?_⟩
  · simp [spV, Sp.val, Sp.zero, e0, results, Tryd.results56, go_sem]
  · exact ((Below.refl _ _).alloc (Nat.le_refl _) _)

set_option maxHeartbeats 4000000 in
set_option maxRecDepth 100000 in
theorem short_at24 (w : World) (hP : Plc w) :
    Calls Tryd.prog 56 #[.string ⟨#[68, 69, 67, 82]⟩] w fun e w' => e = .returned (spV (some ⟨1, 1, 1, e0, 2, 2, true, false, false⟩)) ∧ Below w.heap.size w w' := by
  have hn : ∀ k o (O : Obj), k < 9 → (w.alloc O).cell? ⟨k, o, none⟩ = w.cell? ⟨k, o, none⟩ := fun k o O hk => World.cell?_alloc_old _ _ _ (by have := hP.size; simp; omega)
  have a0 : ∀ O : Obj, (w.alloc O).cell? ⟨0, 0, none⟩ = some (.int .i64 1) := fun O => (hn 0 0 O (by omega)).trans hP.one0
  have a1 : ∀ O : Obj, (w.alloc O).cell? ⟨0, 1, none⟩ = some (.int .i64 1) := fun O => (hn 0 1 O (by omega)).trans hP.one1
  have a2 : ∀ O : Obj, (w.alloc O).cell? ⟨0, 2, none⟩ = some (.int .i64 1) := fun O => (hn 0 2 O (by omega)).trans hP.one2
  have b0 : ∀ O : Obj, (w.alloc O).cell? ⟨1, 0, none⟩ = some (.int .i64 1) := fun O => (hn 1 0 O (by omega)).trans hP.all0
  have b1 : ∀ O : Obj, (w.alloc O).cell? ⟨1, 1, none⟩ = some (.int .i64 (-1)) := fun O => (hn 1 1 O (by omega)).trans hP.all1
  have b2 : ∀ O : Obj, (w.alloc O).cell? ⟨1, 2, none⟩ = some (.int .i64 1) := fun O => (hn 1 2 O (by omega)).trans hP.all2
  have c0 : ∀ O : Obj, (w.alloc O).cell? ⟨2, 0, none⟩ = some (.int .i64 1) := fun O => (hn 2 0 O (by omega)).trans hP.two0
  have c1 : ∀ O : Obj, (w.alloc O).cell? ⟨2, 1, none⟩ = some (.int .i64 2) := fun O => (hn 2 1 O (by omega)).trans hP.two1
  have c2 : ∀ O : Obj, (w.alloc O).cell? ⟨2, 2, none⟩ = some (.int .i64 1) := fun O => (hn 2 2 O (by omega)).trans hP.two2
  clear hn hP
  go_enter Tryd.func56, Tryd.ntmps56
  go_wp2
  refine bodyPost_ret (v := spV (some ⟨1, 1, 1, e0, 2, 2, true, false, false⟩)) ?_ rfl ⟨rfl, ?_⟩
  · simp [spV, Sp.val, Sp.zero, e0, results, Tryd.results56, go_sem]
  · exact ((Below.refl _ _).alloc (Nat.le_refl _) _)

set_option maxHeartbeats 4000000 in
set_option maxRecDepth 100000 in
theorem short_at25 (w : World) (hP : Plc w) :
    Calls Tryd.prog 56 #[.string ⟨#[80, 69, 82, 83, 73, 83, 84]⟩] w fun e w' => e = .returned (spV (some ⟨1, 1, 1, e0, 2, 2, true, false, false⟩)) ∧ Below w.heap.size w w' := by
  have hn : ∀ k o (O : Obj), k < 9 → (w.alloc O).cell? ⟨k, o, none⟩ = w.cell? ⟨k, o, none⟩ := fun k o O hk => World.cell?_alloc_old _ _ _ (by have := hP.size; simp; omega)
  have a0 : ∀ O : Obj, (w.alloc O).cell? ⟨0, 0, none⟩ = some (.int .i64 1) := fun O => (hn 0 0 O (by omega)).trans hP.one0
  have a1 : ∀ O : Obj, (w.alloc O).cell? ⟨0, 1, none⟩ = some (.int .i64 1) := fun O => (hn 0 1 O (by omega)).trans hP.one1
  have a2 : ∀ O : Obj, (w.alloc O).cell? ⟨0, 2, none⟩ = some (.int .i64 1) := fun O => (hn 0 2 O (by omega)).trans hP.one2
  have b0 : ∀ O : Obj, (w.alloc O).cell? ⟨1, 0, none⟩ = some (.int .i64 1) := fun O => (hn 1 0 O (by omega)).trans hP.all0
  have b1 : ∀ O : Obj, (w.alloc O).cell? ⟨1, 1, none⟩ = some (.int .i64 (-1)) := fun O => (hn 1 1 O (by omega)).trans hP.all1
  have b2 : ∀ O : Obj, (w.alloc O).cell? ⟨1, 2, none⟩ = some (.int .i64 1) := fun O => (hn 1 2 O (by omega)).trans hP.all2
  have c0 : ∀ O : Obj, (w.alloc O).cell? ⟨2, 0, none⟩ = some (.int .i64 1) := fun O => (hn 2 0 O (by omega)).trans hP.two0
  have c1 : ∀ O : Obj, (w.alloc O).cell? ⟨2, 1, none⟩ = some (.int .i64 2) := fun O => (hn 2 1 O (by omega)).trans hP.two1
  have c2 : ∀ O : Obj, (w.alloc O).cell? ⟨2, 2, none⟩ = some (.int .i64 1) := fun O => (hn 2 2 O (by omega)).trans hP.two2
  clear hn hP
  go_enter Tryd.func56, Tryd.ntmps56
  go_wp2
  refine bodyPost_ret (v := spV (some ⟨1, 1, 1, e0, 2, 2, true, false, false⟩)) ?_ rfl ⟨rfl, ?_⟩
  · simp [spV, Sp.val, Sp.zero, e0, results, Tryd.results56, go_sem]
  · exact ((Below.refl _ _).alloc (Nat.le_refl _) _)

set_option maxHeartbeats 4000000 in
set_option maxRecDepth 100000 in
theorem short_at26 (w : World) (hP : Plc w) :
    Calls Tryd.prog 56 #[.string ⟨#[76, 80, 79, 80]⟩] w fun e w' => e = .returned (spV (some ⟨1, 1, 1, e0, 2, 2, true, false, false⟩)) ∧ Below w.heap.size w w' := by
  have hn : ∀ k o (O : Obj), k < 9 → (w.alloc O).cell? ⟨k, o, none⟩ = w.cell? ⟨k, o, none⟩ := fun k o O hk => World.cell?_alloc_old _ _ _ (by have := hP.size; simp; omega)
  have a0 : ∀ O : Obj, (w.alloc O).cell? ⟨0, 0, none⟩ = some (.int .i64 1) := fun O => (hn 0 0 O (by omega)).trans hP.one0
  have a1 : ∀ O : Obj, (w.alloc O).cell? ⟨0, 1, none⟩ = some (.int .i64 1) := fun O => (hn 0 1 O (by omega)).trans hP.one1
  have a2 : ∀ O : Obj, (w.alloc O).cell? ⟨0, 2, none⟩ = some (.int .i64 1) := fun O => (hn 0 2 O (by omega)).trans hP.one2
  have b0 : ∀ O : Obj, (w.alloc O).cell? ⟨1, 0, none⟩ = some (.int .i64 1) := fun O => (hn 1 0 O (by omega)).trans hP.all0
  have b1 : ∀ O : Obj, (w.alloc O).cell? ⟨1, 1, none⟩ = some (.int .i64 (-1)) := fun O => (hn 1 1 O (by omega)).trans hP.all1
  have b2 : ∀ O : Obj, (w.alloc O).cell? ⟨1, 2, none⟩ = some (.int .i64 1) := fun O => (hn 1 2 O (by omega)).trans hP.all2
  have c0 : ∀ O : Obj, (w.alloc O).cell? ⟨2, 0, none⟩ = some (.int .i64 1) := fun O => (hn 2 0 O (by omega)).trans hP.two0
  have c1 : ∀ O : Obj, (w.alloc O).cell? ⟨2, 1, none⟩ = some (.int .i64 2) := fun O => (hn 2 1 O (by omega)).trans hP.two1
  have c2 : ∀ O : Obj, (w.alloc O).cell? ⟨2, 2, none⟩ = some (.int .i64 1) := fun O => (hn 2 2 O (by omega)).trans hP.two2
  clear hn hP
  go_enter Tryd.func56, Tryd.ntmps56
  go_wp2
  refine bodyPost_ret (v := spV (some ⟨1, 1, 1, e0, 2, 2, true, false, false⟩)) ?_ rfl ⟨rfl, ?_⟩
  · simp [spV, Sp.val, Sp.zero, e0, results, Tryd.results56, go_sem]
  · exact ((Below.refl _ _).alloc (Nat.le_refl _) _)

set_option maxHeartbeats 4000000 in
set_option maxRecDepth 100000 in
theorem short_at27 (w : World) (hP : Plc w) :
    Calls Tryd.prog 56 #[.string ⟨#[82, 80, 79, 80]⟩] w fun e w' => e = .returned (spV (some ⟨1, 1, 1, e0, 2, 2, true, false, false⟩)) ∧ Below w.heap.size w w' := by
  have hn : ∀ k o (O : Obj), k < 9 → (w.alloc O).cell? ⟨k, o, none⟩ = w.cell? ⟨k, o, none⟩ := fun k o O hk => World.cell?_alloc_old _ _ _ (by have := hP.size; simp; omega)
  have a0 : ∀ O : Obj, (w.alloc O).cell? ⟨0, 0, none⟩ = some (.int .i64 1) := fun O => (hn 0 0 O (by omega)).trans hP.one0
  have a1 : ∀ O : Obj, (w.alloc O).cell? ⟨0, 1, none⟩ = some (.int .i64 1) := fun O => (hn 0 1 O (by omega)).trans hP.one1
  have a2 : ∀ O : Obj, (w.alloc O).cell? ⟨0, 2, none⟩ = some (.int .i64 1) := fun O => (hn 0 2 O (by omega)).trans hP.one2
  have b0 : ∀ O : Obj, (w.alloc O).cell? ⟨1, 0, none⟩ = some (.int .i64 1) := fun O => (hn 1 0 O (by omega)).trans hP.all0
  have b1 : ∀ O : Obj, (w.alloc O).cell? ⟨1, 1, none⟩ = some (.int .i64 (-1)) := fun O => (hn 1 1 O (by omega)).trans hP.all1
  have b2 : ∀ O : Obj, (w.alloc O).cell? ⟨1, 2, none⟩ = some (.int .i64 1) := fun O => (hn 1 2 O (by omega)).trans hP.all2
  have c0 : ∀ O : Obj, (w.alloc O).cell? ⟨2, 0, none⟩ = some (.int .i64 1) := fun O => (hn 2 0 O (by omega)).trans hP.two0
  have c1 : ∀ O : Obj, (w.alloc O).cell? ⟨2, 1, none⟩ = some (.int .i64 2) := fun O => (hn 2 1 O (by omega)).trans hP.two1
  have c2 : ∀ O : Obj, (w.alloc O).cell? ⟨2, 2, none⟩ = some (.int .i64 1) := fun O => (hn 2 2 O (by omega)).trans hP.two2
  clear hn hP
  go_enter Tryd.func56, Tryd.ntmps56
  go_wp2
  refine bodyPost_ret (v := spV (some ⟨1, 1, 1, e0, 2, 2, true, false, false⟩)) ?_ rfl ⟨rfl, ?_⟩
  · simp [spV, Sp.val, Sp.zero, e0, results, Tryd.results56, go_sem]
  · exact ((Below.refl _ _).alloc (Nat.le_refl _) _)

set_option maxHeartbeats 4000000 in
set_option maxRecDepth 100000 in
theorem short_at28 (w : World) (hP : Plc w) :
    Calls Tryd.prog 56 #[.string ⟨#[83, 80, 79, 80]⟩] w fun e w' => e = .returned (spV (some ⟨1, 1, 1, e0, 2, 2, true, false, false⟩)) ∧ Below w.heap.size w w' := by
  have hn : ∀ k o (O : Obj), k < 9 → (w.alloc O).cell? ⟨k, o, none⟩ = w.cell? ⟨k, o, none⟩ := fun k o O hk => World.cell?_alloc_old _ _ _ (by have := hP.size; simp; omega)
  have a0 : ∀ O : Obj, (w.alloc O).cell? ⟨0, 0, none⟩ = some (.int .i64 1) := fun O => (hn 0 0 O (by omega)).trans hP.one0
  have a1 : ∀ O : Obj, (w.alloc O).cell? ⟨0, 1, none⟩ = some (.int .i64 1) := fun O => (hn 0 1 O (by omega)).trans hP.one1
  have a2 : ∀ O : Obj, (w.alloc O).cell? ⟨0, 2, none⟩ = some (.int .i64 1) := fun O => (hn 0 2 O (by omega)).trans hP.one2
  have b0 : ∀ O : Obj, (w.alloc O).cell? ⟨1, 0, none⟩ = some (.int .i64 1) := fun O => (hn 1 0 O (by omega)).trans hP.all0
  have b1 : ∀ O : Obj, (w.alloc O).cell? ⟨1, 1, none⟩ = some (.int .i64 (-1)) := fun O => (hn 1 1 O (by omega)).trans hP.all1
  have b2 : ∀ O : Obj, (w.alloc O).cell? ⟨1, 2, none⟩ = some (.int .i64 1) := fun O => (hn 1 2 O (by omega)).trans hP.all2
  have c0 : ∀ O : Obj, (w.alloc O).cell? ⟨2, 0, none⟩ = some (.int .i64 1) := fun O => (hn 2 0 O (by omega)).trans hP.two0
  have c1 : ∀ O : Obj, (w.alloc O).cell? ⟨2, 1, none⟩ = some (.int .i64 2) := fun O => (hn 2 1 O (by omega)).trans hP.two1
  have c2 : ∀ O : Obj, (w.alloc O).cell? ⟨2, 2, none⟩ = some (.int .i64 1) := fun O => (hn 2 2 O (by omega)).trans hP.two2
  clear hn hP
  go_enter Tryd.func56, Tryd.ntmps56
  go_wp2
  refine bodyPost_ret (v := spV (some ⟨1, 1, 1, e0, 2, 2, true, false, false⟩)) ?_ rfl ⟨rfl, ?_⟩
  · simp [spV, Sp.val, Sp.zero, e0, results, Tryd.results56, go_sem]
  · exact ((Below.refl _ _).alloc (Nat.le_refl _) _)

set_option maxHeartbeats 4000000 in
set_option maxRecDepth 100000 in
theorem short_no (s : ByteArray) (w : World) (hP : Plc w)
    (h0 : (s.toList == [80, 73, 78, 71]) = false)
    (h1 : (s.toList == [69, 67, 72, 79]) = false)
    (h2 : (s.toList == [75, 69, 89, 83]) = false)
    (h3 : (s.toList == [68, 66, 83, 73, 90, 69]) = false)
    (h4 : (s.toList == [77, 85, 76, 84, 73]) = false)
    (h5 : (s.toList == [69, 88, 69, 67]) = false)
    (h6 : (s.toList == [68, 73, 83, 67, 65, 82, 68]) = false)
    (h7 : (s.toList == [85, 78, 87, 65, 84, 67, 72]) = false)
    (h8 : (s.toList == [70, 76, 85, 83, 72, 65, 76, 76]) = false)
    (h9 : (s.toList == [71, 69, 84]) = false)
    (h10 : (s.toList == [83, 84, 82, 76, 69, 78]) = false)
    (h11 : (s.toList == [84, 89, 80, 69]) = false)
    (h12 : (s.toList == [84, 84, 76]) = false)
    (h13 : (s.toList == [80, 84, 84, 76]) = false)
    (h14 : (s.toList == [72, 76, 69, 78]) = false)
    (h15 : (s.toList == [72, 71, 69, 84, 65, 76, 76]) = false)
    (h16 : (s.toList == [72, 75, 69, 89, 83]) = false)
    (h17 : (s.toList == [72, 86, 65, 76, 83]) = false)
    (h18 : (s.toList == [76, 76, 69, 78]) = false)
    (h19 : (s.toList == [83, 67, 65, 82, 68]) = false)
    (h20 : (s.toList == [83, 77, 69, 77, 66, 69, 82, 83]) = false)
    (h21 : (s.toList == [83, 82, 65, 78, 68, 77, 69, 77, 66, 69, 82]) = false)
    (h22 : (s.toList == [90, 67, 65, 82, 68]) = false)
    (h23 : (s.toList == [73, 78, 67, 82]) = false)
    (h24 : (s.toList == [68, 69, 67, 82]) = false)
    (h25 : (s.toList == [80, 69, 82, 83, 73, 83, 84]) = false)
    (h26 : (s.toList == [76, 80, 79, 80]) = false)
    (h27 : (s.toList == [82, 80, 79, 80]) = false)
    (h28 : (s.toList == [83, 80, 79, 80]) = false)
    : Calls Tryd.prog 56 #[.string s] w fun e w' => e = .returned (spV none) ∧ Below w.heap.size w w' := by
  clear hP
  go_enter Tryd.func56, Tryd.ntmps56
  go_wp2
  refine bodyPost_ret (v := spV none) ?_ rfl ⟨rfl, ?_⟩
  · simp [spV, Sp.val, Sp.zero, e0, results, Tryd.results56, go_sem]
  · exact ((Below.refl _ _).alloc (Nat.le_refl _) _)

end Go.Proofs.YtbfbmgkgaokecaaDoor.Vb
