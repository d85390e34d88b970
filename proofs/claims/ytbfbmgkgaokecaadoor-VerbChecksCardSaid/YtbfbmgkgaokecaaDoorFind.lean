/- verb.Find: what it tells. -/
import Derived.Test.YtbfbmgkgaokecaaDoorS4
import Derived.Test.YtbfbmgkgaokecaaDoorUp
import Derived.Test.YtbfbmgkgaokecaaDoorBig
set_option linter.unusedVariables false
set_option linter.unusedSimpArgs false
namespace Go.Proofs.YtbfbmgkgaokecaaDoor.Vb
open Go.RowKit

def Sp.named (n : ByteArray) (s : Sp) : Sp := { s with name := n }
/-- The spec of a command's name, in whatever letters. -/
def findS (s : ByteArray) : Option Sp :=
  match shortS (upS s).toList with
  | some p => some (p.named (upS s))
  | none => match middleS (upS s).toList with
    | some p => some (p.named (upS s))
    | none => match wideS (upS s).toList with
      | some p => some (p.named (upS s))
      | none => none

theorem pickName {t : List (List UInt8 × Sp)} {l : List UInt8} {p : Sp} (h : pick t l = some p) : ∃ q ∈ t, q.2 = p := by
  unfold pick at h
  cases hf : t.find? (fun r => r.1 == l) with
  | none => rw [hf] at h; cases h
  | some q => rw [hf] at h; exact ⟨q, List.mem_of_find?_eq_some hf, Option.some.inj h⟩

def z59 : Array Value := #[.int .i64 0, .int .i64 0, .int .i64 0, .string ⟨#[]⟩, .int .i64 0, .int .i64 0, .bool false, .bool false, .bool false]
/-- A spec's cells, or none's. -/
def spA (o : Option Sp) : Array Value := match o.getD Sp.zero with
  | ⟨a1, a2, a3, a4, a5, a6, a7, a8, a9⟩ => #[.int .i64 a1, .int .i64 a2, .int .i64 a3, .string a4, .int .i64 a5, .int .i64 a6, .bool a7, .bool a8, .bool a9]
theorem spV_eq (o : Option Sp) : spV o = .tuple #[.agg (spA o), .bool o.isSome] := by cases o <;> rfl
theorem spA_size (o : Option Sp) : (spA o).size = 9 := rfl
theorem spA_one (o : Option Sp) : ∀ v ∈ (spA o).toList, v.oneCell' = true := by
  intro v hv
  simp only [spA, List.mem_cons, List.not_mem_nil, or_false] at hv
  rcases hv with rfl | rfl | rfl | rfl | rfl | rfl | rfl | rfl | rfl <;> rfl
theorem spA_name (s : Sp) : (spA (some s))[3]? = some (.string s.name) := rfl
theorem spA_set (s : Sp) (n : ByteArray) : (spA (some s)).setIfInBounds 3 (.string n) = spA (some (s.named n)) := by cases s; simp [spA, Sp.named]
/-- Nine cells stored over nine. -/
theorem put59 (w : World) (g : Nat) (cur cs : Array Value) (h : ERow w g 59 cur) (hc : cur.size = 9) (hs : cs.size = 9) (h1 : ∀ v ∈ cs.toList, v.oneCell' = true) :
    ∃ w1, (storeCells ⟨g, 0, none⟩ cs.toList).run Tryd.prog w = .ok () w1 ∧ ERow w1 g 59 cs ∧ Below g w w1 :=
  ⟨_, run_store_cells g cur cs 59 w h (by rw [hs, hc]) h1, h.setRow _, below_setRow (Below.refl _ _) (Nat.le_refl _) _⟩

/-- The results of Find: a spec in memory, and a bool. -/
theorem ret_find {a : Act} {w : World} {g : Nat} {cs : Array Value} {b : Bool} {v : Value} {R : Ending → World → Prop} (hd : a.defers = [])
    (hp : a.tmps.getD 2 undef = .pointer (some ⟨g, 0, none⟩)) (hn : a.tmps.getD 3 undef = .bool b) (hr : ERow w g 59 cs) (hs : cs.size = 9) (hv : v = .tuple #[.agg cs, .bool b]) (hR : R (.returned v) w) : bodyPost Tryd.prog Tryd.f28 R .ret a w := by
  subst hv
  have hl := run_loadVar_row (P := Tryd.prog) w g 59 59 _ (0, 0) _ hr Tryd.underlying59 rfl (by rw [hs]; kernel_rfl)
  have hp' : a.tmps[2]?.getD undef = .pointer (some ⟨g, 0, none⟩) := by simpa using hp
  have hn' : a.tmps[3]?.getD undef = .bool b := by simpa using hn
  exact bodyPost_ret (v := .tuple #[.agg cs, .bool b]) (by simp [results, Tryd.results28, hp', hn', asAddr, hl]) hd hR

/-- A switch's contract, its spec's cells left closed. -/
theorem sp_calls {f : Nat} {g : List UInt8 → Option Sp} (h : ∀ (s : ByteArray) (w : World), Plc w → Calls Tryd.prog f #[.string s] w fun e w' => e = .returned (spV (g s.toList)) ∧ Below w.heap.size w w')
    (s : ByteArray) (w : World) (hP : Plc w) : Calls Tryd.prog f #[.string s] w fun e w' => e = .returned (.tuple #[.agg (spA (g s.toList)), .bool (g s.toList).isSome]) ∧ Below w.heap.size w w' :=
  (h s w hP).mono fun _ _ ⟨he, hb⟩ => ⟨he.trans (by rw [spV_eq]), hb⟩

set_option maxHeartbeats 1600000 in
set_option maxRecDepth 20000 in
theorem Find_calls (s : ByteArray) (hs : s.size ≤ 140737488351232) (w : World) (hP : Plc w) :
    Calls Tryd.prog 28 #[.string s] w fun e w' => e = .returned (spV (findS s)) ∧ Below w.heap.size w w' := by
  have HF : Hid (findS s = findS s) := rfl
  unfold Hid at HF
  conv at HF => rhs; unfold findS
  have HF0 := Lib.hid HF
  clear HF
  go_enter Tryd.func28, Tryd.ntmps28
  go_wp2_with fail
  refine (Upper_calls s hs _).mono ?_
  rintro e w1 ⟨rfl, b1⟩
  have b1' := Below.comp' ((Below.refl w.heap.size w).alloc (Nat.le_refl _) _) b1
  have p1 := hP.below hP.size b1'
  have e0 : ERow w1 w.heap.size 59 z59 := (ERow.new w z59 59).grown b1
  generalize hU : upS s = U at *
  clear hU b1
  go_wp2_with fail
  refine (sp_calls (g := shortS) short_calls U _ p1).mono ?_
  rintro e w2 ⟨rfl, b2⟩
  have b2' := Below.comp' b1' b2 b1'.size
  have e2 := e0.grown b2
  have hlt := e2.lt
  have e3 := ERow.new w2 z59 59
  have e2a := e2.alloc (.cells z59 59)
  have b3 := b2'.alloc b2'.size (.cells z59 59)
  obtain ⟨w3, hst3, r3, bb3⟩ := put59 _ w2.heap.size z59 (spA (shortS U.toList)) e3 rfl (spA_size _) (spA_one _)
  unfold z59 at hst3
  have B : Hid (Below w.heap.size w w3) := b3.trans (bb3.mono b2'.size)
  have RR : Hid (ERow w3 w.heap.size 59 z59) := e2a.below hlt bb3
  have R4 := Lib.hid r3
  have hps := spA_size (shortS U.toList)
  have hw3 : w2.heap.size < w3.heap.size := r3.lt
  clear e0 e2 e3 e2a b3 r3 bb3 b1' b2 p1
  cases h1 : shortS U.toList with
  | some sp =>
    have HF2 := HF0.out
    simp only [h1] at HF2
    have HF := Lib.hid HF2
    rw [h1] at hst3 hps R4
    clear HF2 h1
    simp only [Option.isSome_some]
    have hn3 := (R4.out.cell 3).trans (spA_name sp)
    have hf3 := R4.out.frozen 3
    have r4 : ERow (w3.setCell ⟨w2.heap.size, 3, none⟩ (.string U)) w2.heap.size 59 (spA (some (Sp.named U sp))) := by
      have := R4.out.set 3 (.string U)
      rw [spA_set] at this; exact this
    have rr : ERow (w3.setCell ⟨w2.heap.size, 3, none⟩ (.string U)) w.heap.size 59 z59 := RR.out.far (by show _ ≠ w2.heap.size; omega) _
    have bb : Below w.heap.size w (w3.setCell ⟨w2.heap.size, 3, none⟩ (.string U)) := B.out.setCell (by show _ ≤ w2.heap.size; omega) _
    obtain ⟨w9, hst9, r9, b9⟩ := put59 _ w.heap.size z59 (spA (some (Sp.named U sp))) rr rfl (spA_size _) (spA_one _)
    have b10 := Lib.hid (bb.trans (b9.mono (Nat.le_refl _)))
    have hps9 := spA_size (some (Sp.named U sp))
    have R9 := Lib.hid r9
    have R8 := Lib.hid r4
    clear r4 rr bb r9 b9
    generalize hPP : spA (some (Sp.named U sp)) = PP at *
    have HPP := Lib.hid hPP
    clear hPP
    go_wp2_with (refine wpList_load_row rfl 59 (.tmp 4) rfl w2.heap.size rfl 59 PP (0, 0) _ R8.out Tryd.underlying59 rfl (by rw [hps9]; kernel_rfl) ?_)
    exact ret_find (g := w.heap.size) (b := true) (cs := PP) (v := spV (some (Sp.named U sp))) rfl rfl rfl R9.out hps9 (by rw [spV_eq, HPP.out]; rfl) ⟨by rw [HF.out], b10.out⟩
  | none =>
    have HF2 := HF0.out
    simp only [h1] at HF2
    have HF := Lib.hid HF2
    rw [h1] at hst3 hps R4
    clear HF2 h1 HF0
    simp only [Option.isSome_none]
    generalize hP0 : spA none = P0 at hst3 hps R4 ⊢
    have HP0 := Lib.hid hP0
    clear hP0
    go_wp2_with fail
    have p4 := hP.below hP.size B.out
    refine (sp_calls (g := middleS) middle_calls U _ p4).mono ?_
    rintro e w4 ⟨rfl, b4⟩
    have B4 := Below.comp' B.out b4 B.out.size
    have rr4 := RR.out.grown b4
    have r4 := R4.out.grown b4
    obtain ⟨w5, hst5, r5, bb5⟩ := put59 _ w2.heap.size P0 (spA (middleS U.toList)) r4 hps (spA_size _) (spA_one _)
    have B5 : Below w.heap.size w w5 := B4.trans (bb5.mono b2'.size)
    have rr5 : ERow w5 w.heap.size 59 z59 := rr4.below hlt bb5
    clear hst3 B RR R4 hps p4 b4 rr4 r4 bb5 B4 hw3
    have B := Lib.hid B5
    have RR := Lib.hid rr5
    have R4 := Lib.hid r5
    have hps := spA_size (middleS U.toList)
    clear B5 rr5 r5
    cases h1 : middleS U.toList with
    | some sp =>
      have HF2 := HF.out
      simp only [h1] at HF2
      have HF := Lib.hid HF2
      rw [h1] at hst5 hps R4
      clear HF2 h1
      simp only [Option.isSome_some]
      have hn3 := (R4.out.cell 3).trans (spA_name sp)
      have hf3 := R4.out.frozen 3
      have r4 : ERow (w5.setCell ⟨w2.heap.size, 3, none⟩ (.string U)) w2.heap.size 59 (spA (some (Sp.named U sp))) := by
        have := R4.out.set 3 (.string U)
        rw [spA_set] at this; exact this
      have rr : ERow (w5.setCell ⟨w2.heap.size, 3, none⟩ (.string U)) w.heap.size 59 z59 := RR.out.far (by show _ ≠ w2.heap.size; omega) _
      have bb : Below w.heap.size w (w5.setCell ⟨w2.heap.size, 3, none⟩ (.string U)) := B.out.setCell (by show _ ≤ w2.heap.size; omega) _
      obtain ⟨w9, hst9, r9, b9⟩ := put59 _ w.heap.size z59 (spA (some (Sp.named U sp))) rr rfl (spA_size _) (spA_one _)
      have b10 := Lib.hid (bb.trans (b9.mono (Nat.le_refl _)))
      have hps9 := spA_size (some (Sp.named U sp))
      have R9 := Lib.hid r9
      have R8 := Lib.hid r4
      clear r4 rr bb r9 b9
      generalize hPP : spA (some (Sp.named U sp)) = PP at *
      have HPP := Lib.hid hPP
      clear hPP
      go_wp2_with (refine wpList_load_row rfl 59 (.tmp 4) rfl w2.heap.size rfl 59 PP (0, 0) _ R8.out Tryd.underlying59 rfl (by rw [hps9]; kernel_rfl) ?_)
      exact ret_find (g := w.heap.size) (b := true) (cs := PP) (v := spV (some (Sp.named U sp))) rfl rfl rfl R9.out hps9 (by rw [spV_eq, HPP.out]; rfl) ⟨by rw [HF.out], b10.out⟩
    | none =>
      have HF2 := HF.out
      simp only [h1] at HF2
      have HF := Lib.hid HF2
      rw [h1, HP0.out] at hst5 hps R4
      clear HF2 h1
      rw [HP0.out]
      simp only [Option.isSome_none]
      go_wp2_with fail
      have p6 := hP.below hP.size B.out
      refine (sp_calls (g := wideS) wide_calls U _ p6).mono ?_
      rintro e w6 ⟨rfl, b6⟩
      have B6 := Below.comp' B.out b6 B.out.size
      have rr6 := RR.out.grown b6
      have r6 := R4.out.grown b6
      obtain ⟨w7, hst7, r7, bb7⟩ := put59 _ w2.heap.size P0 (spA (wideS U.toList)) r6 hps (spA_size _) (spA_one _)
      have B7 : Below w.heap.size w w7 := B6.trans (bb7.mono b2'.size)
      have rr7 : ERow w7 w.heap.size 59 z59 := rr6.below hlt bb7
      clear hst5 B RR R4 hps p6 b6 rr6 r6 bb7 B6
      have B := Lib.hid B7
      have RR := Lib.hid rr7
      have R4 := Lib.hid r7
      have hps := spA_size (wideS U.toList)
      clear B7 rr7 r7
      cases h1 : wideS U.toList with
      | some sp =>
        have HF2 := HF.out
        simp only [h1] at HF2
        have HF := Lib.hid HF2
        rw [h1] at hst7 hps R4
        clear HF2 h1
        simp only [Option.isSome_some]
        have hn3 := (R4.out.cell 3).trans (spA_name sp)
        have hf3 := R4.out.frozen 3
        have r4 : ERow (w7.setCell ⟨w2.heap.size, 3, none⟩ (.string U)) w2.heap.size 59 (spA (some (Sp.named U sp))) := by
          have := R4.out.set 3 (.string U)
          rw [spA_set] at this; exact this
        have rr : ERow (w7.setCell ⟨w2.heap.size, 3, none⟩ (.string U)) w.heap.size 59 z59 := RR.out.far (by show _ ≠ w2.heap.size; omega) _
        have bb : Below w.heap.size w (w7.setCell ⟨w2.heap.size, 3, none⟩ (.string U)) := B.out.setCell (by show _ ≤ w2.heap.size; omega) _
        obtain ⟨w9, hst9, r9, b9⟩ := put59 _ w.heap.size z59 (spA (some (Sp.named U sp))) rr rfl (spA_size _) (spA_one _)
        have b10 := Lib.hid (bb.trans (b9.mono (Nat.le_refl _)))
        have hps9 := spA_size (some (Sp.named U sp))
        have R9 := Lib.hid r9
        have R8 := Lib.hid r4
        clear r4 rr bb r9 b9
        generalize hPP : spA (some (Sp.named U sp)) = PP at *
        have HPP := Lib.hid hPP
        clear hPP
        go_wp2_with (refine wpList_load_row rfl 59 (.tmp 4) rfl w2.heap.size rfl 59 PP (0, 0) _ R8.out Tryd.underlying59 rfl (by rw [hps9]; kernel_rfl) ?_)
        exact ret_find (g := w.heap.size) (b := true) (cs := PP) (v := spV (some (Sp.named U sp))) rfl rfl rfl R9.out hps9 (by rw [spV_eq, HPP.out]; rfl) ⟨by rw [HF.out], b10.out⟩
      | none =>
        have HF2 := HF.out
        simp only [h1] at HF2
        have HF := Lib.hid HF2
        rw [h1] at hst7 hps R4
        clear HF2 h1
        simp only [Option.isSome_none]
        obtain ⟨w9, hst9, r9, b9⟩ := put59 _ w.heap.size z59 (spA none) RR.out rfl (spA_size _) (spA_one _)
        have b10 := Lib.hid (B.out.trans (b9.mono (Nat.le_refl _)))
        have hps9 := spA_size none
        have R9 := Lib.hid r9
        clear r9 b9
        generalize hPP : spA none = PP at *
        have HPP := Lib.hid hPP
        clear hPP
        go_wp2_with (refine wpList_load_row rfl 59 (.tmp 4) rfl w2.heap.size rfl 59 PP (0, 0) _ R4.out Tryd.underlying59 rfl (by rw [hps9]; kernel_rfl) ?_)
        exact ret_find (g := w.heap.size) (b := false) (cs := PP) (v := spV none) rfl rfl rfl R9.out hps9 (by rw [spV_eq, HPP.out]; rfl) ⟨by rw [HF.out], b10.out⟩
end Go.Proofs.YtbfbmgkgaokecaaDoor.Vb
