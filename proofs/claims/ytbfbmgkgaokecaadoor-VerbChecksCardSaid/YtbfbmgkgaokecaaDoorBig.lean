/- Big structs: laid, stored, loaded as a whole, without writing their cells out. -/
import Derived.Test.YtbfbmgkgaokecaaDoorRow
import Derived.Laws.Rows
import Derived.Laws.CopyRow
set_option linter.unusedVariables false
set_option linter.unusedSimpArgs false
namespace Go.Proofs.YtbfbmgkgaokecaaDoor.Vb
open Go.RowKit

theorem alloc_size (w : World) (o : Obj) : (w.alloc o).heap.size = w.heap.size + 1 := Array.size_push _
theorem Below.comp' {B : Nat} {w w1 w2 : World} (h : Below B w w1) (k : Below w1.heap.size w1 w2) (hB : B ≤ w1.heap.size := by first | omega | (simp; done) | exact Nat.le_refl _ | (rw [alloc_size]; omega)) : Below B w w2 := h.trans (k.mono hB)

/-- A block's cells, all of them, none frozen. -/
def ERow (w : World) (b : Nat) (e : TypeId) (cs : Array Value) : Prop := w.heap[b]? = some (.cells cs e (0, 0))

namespace ERow
variable {w w' : World} {b : Nat} {e : TypeId} {cs : Array Value}
theorem lt (h : ERow w b e cs) : b < w.heap.size := (Array.getElem?_eq_some_iff.1 h).1
theorem cell (h : ERow w b e cs) (j : Nat) : w.cell? ⟨b, j, none⟩ = cs[j]? := by
  unfold ERow at h
  simp [World.cell?, h]
theorem frozen (h : ERow w b e cs) (j : Nat) : w.frozen? ⟨b, j, none⟩ = false := by
  unfold ERow at h
  simp [World.frozen?, h]
theorem of_block (h : ERow w b e cs) (hb : w'.heap[b]? = w.heap[b]?) : ERow w' b e cs := hb.trans h
theorem below {B : Nat} (h : ERow w b e cs) (hb : b < B) (k : Below B w w') : ERow w' b e cs := h.of_block (k.block b hb)
theorem grown (h : ERow w b e cs) (k : Below w.heap.size w w') : ERow w' b e cs := h.below h.lt k
theorem alloc (h : ERow w b e cs) (o : Obj) : ERow (w.alloc o) b e cs := h.of_block (Below.heap_alloc _ _ _ h.lt)
theorem new (w : World) (cs : Array Value) (e : TypeId) : ERow (w.alloc (.cells cs e)) w.heap.size e cs := heap_alloc_new w _
theorem far (h : ERow w b e cs) {p : Addr} (hp : b ≠ p.block) (u : Value) : ERow (w.setCell p u) b e cs := h.of_block (Below.heap_setCell _ _ _ _ hp)
theorem set (h : ERow w b e cs) (i : Nat) (u : Value) : ERow (w.setCell ⟨b, i, none⟩ u) b e (cs.setIfInBounds i u) := by
  unfold ERow at h ⊢
  simp only [World.setCell]
  rw [Array.getElem?_modify]
  simp [h]
theorem drewN (h : ERow w b e cs) (n : Nat) : ERow (w.drewN n) b e cs := h
end ERow

section
variable {P : Program}

theorem run_alloc_big (T : TypeId) (Z : Value) (w : World) (hz : (zeroValue T).run P w = .ok Z w) :
    (Instr.alloc T true (.tuple #[])).run P w = .ok (.pointer (some ⟨w.heap.size, 0, none⟩)) (w.alloc (.cells Z.cells T)) := by
  unfold Instr.alloc
  rw [Sem.run_bind, hz]
  simp [newVar, newRow, Sem.run_bind, Result.andThen]

theorem run_store_big (T : TypeId) (g : Nat) (cur cs : Array Value) (t : TypeId) (w : World) (hg : w.heap[g]? = some (.cells cur t (0, 0)))
    (hs : (P.info? T).map (·.size) = some cs.size) (hc : cs.size = cur.size) (ho : ∀ v ∈ cs.toList, v.oneCell' = true) :
    (Instr.storeAt T (.pointer (some ⟨g, 0, none⟩)) (.agg cs)).run P w = .ok () (w.setRow g cs) := by
  have h1 := run_storeCells_at (P := P) g 0 t cs.toList 0 cur w hg (by simp [hc]) ho
  have e : (cur.toList.take (0 + 0) ++ cs.toList ++ cur.toList.drop (0 + 0 + cs.toList.length)).toArray = cs := by
    rw [List.drop_eq_nil_of_le (by simp; omega)]
    simp
  rw [e] at h1
  cases hq : P.info? T with
  | none => simp [hq] at hs
  | some i =>
    have hs' : i.size = cs.size := by simpa [hq] using hs
    simp [Instr.storeAt, Instr.sureAddr, storeVar, Sem.run_bind, sizeOf, typeInfo, hq, hs', Value.cells, h1]

theorem run_store_cells (g : Nat) (cur cs : Array Value) (t : TypeId) (w : World) (hg : w.heap[g]? = some (.cells cur t (0, 0))) (hc : cs.size = cur.size) (ho : ∀ v ∈ cs.toList, v.oneCell' = true) :
    (storeCells ⟨g, 0, none⟩ cs.toList).run P w = .ok () (w.setRow g cs) := by
  have h1 := run_storeCells_at (P := P) g 0 t cs.toList 0 cur w hg (by simp [hc]) ho
  have e : (cur.toList.take (0 + 0) ++ cs.toList ++ cur.toList.drop (0 + 0 + cs.toList.length)).toArray = cs := by
    rw [List.drop_eq_nil_of_le (by simp; omega)]
    simp
  rw [e] at h1
  exact h1

theorem setRow_alloc (w : World) (A cs : Array Value) (e : TypeId) : (w.alloc (.cells A e)).setRow w.heap.size cs = w.alloc (.cells cs e) := by
  simp only [World.setRow, World.alloc]
  congr 1
  apply Array.ext_getElem?
  intro j
  rw [Array.getElem?_modify]
  simp only [Array.getElem?_push]
  by_cases h : w.heap.size = j
  · subst h; simp
  · rw [if_neg h, if_neg (by omega), if_neg (by omega)]

theorem below_setRow {B : Nat} {w w1 : World} (h : Below B w w1) {g : Nat} (hg : B ≤ g) (cs : Array Value) : Below B w (w1.setRow g cs) := by
  refine h.trans ⟨rfl, rfl, rfl, by simp [World.setRow], fun k hk => ?_⟩
  simp only [World.setRow]
  rw [Array.getElem?_modify, if_neg (by omega)]

theorem ERow.setRow {w : World} {b : Nat} {e : TypeId} {cs : Array Value} (h : ERow w b e cs) (cs' : Array Value) : ERow (w.setRow b cs') b e cs' := by
  unfold ERow at h ⊢
  simp only [World.setRow]
  rw [Array.getElem?_modify]
  simp [h]
theorem ERow.setRow_far {w : World} {b g : Nat} {e : TypeId} {cs : Array Value} (h : ERow w b e cs) (hg : b ≠ g) (cs' : Array Value) : ERow (w.setRow g cs') b e cs := by
  refine h.of_block ?_
  simp only [World.setRow]
  rw [Array.getElem?_modify, if_neg (by omega)]

theorem setRow_size (w : World) (g : Nat) (cs : Array Value) : (w.setRow g cs).heap.size = w.heap.size := by simp [World.setRow]
theorem setCell_size (w : World) (p : Addr) (v : Value) : (w.setCell p v).heap.size = w.heap.size := by simp [World.setCell]

theorem wp_store_row {o : Oper} {a : Act} {w : World} {K : Act → World → Prop} {Q : Exit → Act → World → Prop} (ty : TypeId) (x v : Operand) (ho : o.op = .store ty x v)
    (g : Nat) (cs : Array Value) (hx : a.eval x = .pointer (some ⟨g, 0, none⟩)) (hv : a.eval v = .agg cs) (t : TypeId) (cur : Array Value) (hg : w.heap[g]? = some (.cells cur t (0, 0)))
    (hs : (P.info? ty).map (·.size) = some cs.size) (hc : cs.size = cur.size) (h1 : ∀ v ∈ cs.toList, v.oneCell' = true)
    (h : K (a.put o.dst undef) (w.setRow g cs)) : o.wp P a w K Q := by
  unfold Oper.wp execOp
  simp only [ho, hx, hv, Sem.run_bind, run_store_big ty g cur cs t w hg hs hc h1, Result.andThen_ok, Sem.run_pure]
  exact h

/-- A whole struct stored into a variable of its own. -/
theorem wpList_store_row {ops : Array Oper} {rest : List Oper} {o : Oper} {a : Act} {w : World} {Q : Exit → Act → World → Prop} (hgd : o.guard = none) (ty : TypeId) (x v : Operand) (ho : o.op = .store ty x v)
    (g : Nat) (cs : Array Value) (hx : a.eval x = .pointer (some ⟨g, 0, none⟩)) (hv : a.eval v = .agg cs) (t : TypeId) (cur : Array Value) (hg : w.heap[g]? = some (.cells cur t (0, 0)))
    (hs : (P.info? ty).map (·.size) = some cs.size) (hc : cs.size = cur.size) (h1 : ∀ v ∈ cs.toList, v.oneCell' = true)
    (h : ∀ w1, w1 = w.setRow g cs → wpList P ops Q rest (a.put o.dst undef) w1) : wpList P ops Q (o :: rest) a w :=
  wpList_plain hgd fun _ hK => wp_store_row ty x v ho g cs hx hv t cur hg hs hc h1 (hK _ _ (h _ rfl))

theorem zip_fold : ∀ (l : List Value) (s : Nat) (Z : Array Value) (j : Nat), s + l.length ≤ Z.size →
    ((l.zipIdx s).foldl (fun (cs : Array Value) p => cs.setIfInBounds p.2 p.1) Z)[j]? = if s ≤ j ∧ j < s + l.length then l[j - s]? else Z[j]?
  | [], s, Z, j, _ => by simp; omega
  | v :: l, s, Z, j, h => by
    simp only [List.length_cons] at h
    rw [List.zipIdx_cons, List.foldl_cons, zip_fold l (s + 1) _ j (by simp; omega)]
    simp only [List.length_cons]
    by_cases h1 : s + 1 ≤ j ∧ j < s + 1 + l.length
    · rw [if_pos h1, if_pos (by omega), show j - s = (j - (s + 1)) + 1 by omega, List.getElem?_cons_succ]
    · rw [if_neg h1, Array.getElem?_setIfInBounds]
      by_cases h2 : s = j
      · subst h2
        rw [if_pos rfl, if_pos (by omega), if_pos (by omega), Nat.sub_self]; rfl
      · rw [if_neg h2, if_neg (by omega)]

theorem fill_whole (Z v : Array Value) (h : v.size = Z.size) (off : Nat) (ho : off = 0) : v.zipIdx.foldl (fun cs (c, j) => cs.setIfInBounds (off + j) c) Z = v := by
  subst ho
  apply Array.ext_getElem?
  intro j
  have := zip_fold v.toList 0 Z j (by simp [h])
  rw [← Array.foldl_toList, Array.toList_zipIdx]
  simp only [Nat.zero_add] at this ⊢
  rw [this]
  by_cases hj : j < v.size
  · rw [if_pos (by simpa using hj)]; simp
  · rw [if_neg (by simpa using hj), Array.getElem?_eq_none (by omega), Array.getElem?_eq_none (by omega)]

/-- A slice of one struct. -/
theorem run_buildSlice_one (t e : TypeId) (cs z : Array Value) (n : Nat) (w : World) (ht : P.underlying t = some (.slice e)) (hs : (P.info? e).map (·.size) = some n) (hn : 0 < n) (hb : n ≤ 16777216)
    (hz : (zeroValue e).run P w = .ok (.agg z) w) (hc : cs.size = n) :
    (Instr.buildSlice t 1 #[(0, .agg cs)]).run P w = .ok (.slice (some ⟨w.heap.size, 0, none⟩) 1 1) (w.alloc (.cells cs e)) := by
  cases hq : P.info? e with
  | none => simp [hq] at hs
  | some i =>
    have hs' : i.size = n := by simpa [hq] using hs
    have hf : Array.foldl (fun (a : Array Value) (x : Value × Nat) => a.setIfInBounds x.2 x.1) (Array.map (fun x => (z[x % z.size]!)) (Array.range n)) cs.zipIdx 0 cs.size = cs := by
      have := fill_whole (Array.map (fun x => (z[x % z.size]!)) (Array.range n)) cs (by simp [hc]) 0 rfl
      simpa using this
    have hcn : ¬ (¬ cs.size = n ∨ n < cs.size) := by omega
    simp [Instr.buildSlice, Sem.run_bind, run_underlying ht, sizeOf, typeInfo, hq, hs', hz, Instr.fill, Value.cells, newRow, Result.andThen]
    rw [if_neg (by omega), if_neg (by omega), if_neg hcn, hf]
    simp

theorem wp_slice_one {o : Oper} {a : Act} {w : World} {K : Act → World → Prop} {Q : Exit → Act → World → Prop} (t e : TypeId) (x : Operand) (ho : o.op = .buildSlice t 1 #[(0, x)])
    (cs z : Array Value) (n : Nat) (hx : a.eval x = .agg cs) (ht : P.underlying t = some (.slice e)) (hs : (P.info? e).map (·.size) = some n) (hn : 0 < n) (hb : n ≤ 16777216)
    (hz : (zeroValue e).run P w = .ok (.agg z) w) (hc : cs.size = n)
    (h : K (a.put o.dst (.slice (some ⟨w.heap.size, 0, none⟩) 1 1)) (w.alloc (.cells cs e))) : o.wp P a w K Q := by
  unfold Oper.wp execOp
  simp only [ho, List.map_toArray, List.map_cons, List.map_nil, hx, Sem.run_bind, run_buildSlice_one t e cs z n w ht hs hn hb hz hc, Result.andThen_ok, Sem.run_pure]
  exact h

/-- A slice of one struct is made. -/
theorem wpList_slice_one {ops : Array Oper} {rest : List Oper} {o : Oper} {a : Act} {w : World} {Q : Exit → Act → World → Prop} (hgd : o.guard = none) (t e : TypeId) (x : Operand) (ho : o.op = .buildSlice t 1 #[(0, x)])
    (cs z : Array Value) (n : Nat) (hx : a.eval x = .agg cs) (ht : P.underlying t = some (.slice e)) (hs : (P.info? e).map (·.size) = some n) (hn : 0 < n) (hb : n ≤ 16777216)
    (hz : (zeroValue e).run P w = .ok (.agg z) w) (hc : cs.size = n)
    (h : wpList P ops Q rest (a.put o.dst (.slice (some ⟨w.heap.size, 0, none⟩) 1 1)) (w.alloc (.cells cs e))) : wpList P ops Q (o :: rest) a w :=
  wpList_plain hgd fun _ hK => wp_slice_one t e x ho cs z n hx ht hs hn hb hz hc (hK _ _ h)

theorem wp_move {o : Oper} {a : Act} {w : World} {K : Act → World → Prop} {Q : Exit → Act → World → Prop} (x : Operand) (ho : o.op = .move x ∨ o.op = .assign x) (h : K (a.put o.dst (a.eval x)) w) : o.wp P a w K Q := by
  unfold Oper.wp execOp
  rcases ho with ho | ho <;> (simp only [ho, Sem.run_bind, Result.andThen_ok, Sem.run_pure]; exact h)
/-- A copy. -/
theorem wpList_move {ops : Array Oper} {rest : List Oper} {o : Oper} {a : Act} {w : World} {Q : Exit → Act → World → Prop} (hgd : o.guard = none) (x : Operand) (ho : o.op = .move x ∨ o.op = .assign x)
    (h : wpList P ops Q rest (a.put o.dst (a.eval x)) w) : wpList P ops Q (o :: rest) a w :=
  wpList_plain hgd fun _ hK => wp_move x ho (hK _ _ h)

theorem run_loadVar_seg (w : World) (ad : Addr) (ty : TypeId) (cs : Array Value) (d : TypeDesc) (hc : ∀ j v, cs.toList[j]? = some v → w.cell? (ad.add j) = some v)
    (hu : P.underlying ty = some d) (hd : (match d with | .struct _ | .array _ _ => true | _ => false) = true) (hi : (P.info? ty).map (·.size) = some cs.size) :
    (loadVar ty ad).run P w = .ok (.agg cs) w := by
  have hl : (loadCells ad cs.toList.length).run P w = .ok cs.toList.toArray w := run_loadCells_list (P := P) w ad cs.toList hc
  cases hq : P.info? ty with
  | none => simp [hq] at hi
  | some i =>
    have hs : i.size = cs.size := by simpa [hq] using hi
    have hagg : (isAgg ty).run P w = .ok true w := by
      unfold isAgg
      rw [Sem.run_bind, run_underlying hu w]
      cases d <;> simp_all
    simp only [Array.length_toList, Array.toArray_toList] at hl
    simp [loadVar, Sem.run_bind, hagg, sizeOf, typeInfo, hq, hs, hl]

theorem wp_load_seg {o : Oper} {a : Act} {w : World} {K : Act → World → Prop} {Q : Exit → Act → World → Prop} (ty : TypeId) (x : Operand) (ho : o.op = .load ty x)
    (ad : Addr) (cs : Array Value) (d : TypeDesc) (hx : a.eval x = .pointer (some ad)) (hc : ∀ j v, cs.toList[j]? = some v → w.cell? (ad.add j) = some v)
    (hu : P.underlying ty = some d) (hd : (match d with | .struct _ | .array _ _ => true | _ => false) = true) (hi : (P.info? ty).map (·.size) = some cs.size)
    (h : K (a.put o.dst (.agg cs)) w) : o.wp P a w K Q := by
  unfold Oper.wp execOp
  simp only [ho, hx, Instr.loadAt, Instr.sureAddr, Sem.run_bind, Sem.run_pure, Result.andThen_ok, run_loadVar_seg w ad ty cs d hc hu hd hi]
  exact h
/-- A whole struct loaded out of the middle of a block. -/
theorem wpList_load_seg {ops : Array Oper} {rest : List Oper} {o : Oper} {a : Act} {w : World} {Q : Exit → Act → World → Prop} (hgd : o.guard = none) (ty : TypeId) (x : Operand) (ho : o.op = .load ty x)
    (ad : Addr) (cs : Array Value) (d : TypeDesc) (hx : a.eval x = .pointer (some ad)) (hc : ∀ j v, cs.toList[j]? = some v → w.cell? (ad.add j) = some v)
    (hu : P.underlying ty = some d) (hd : (match d with | .struct _ | .array _ _ => true | _ => false) = true) (hi : (P.info? ty).map (·.size) = some cs.size)
    (h : wpList P ops Q rest (a.put o.dst (.agg cs)) w) : wpList P ops Q (o :: rest) a w :=
  wpList_plain hgd fun _ hK => wp_load_seg ty x ho ad cs d hx hc hu hd hi (hK _ _ h)
end
end Go.Proofs.YtbfbmgkgaokecaaDoor.Vb
