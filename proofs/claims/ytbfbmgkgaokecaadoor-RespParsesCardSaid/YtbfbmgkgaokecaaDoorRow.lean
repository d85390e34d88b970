/- Rows of cells in a block: read, written, and left alone. -/
import Derived.WalkKit
import Derived.Below
import Derived.Deep.Draws
import Derived.Lib.ConvBytes
import Derived.Laws.BytesArg
set_option linter.unusedVariables false
set_option linter.unusedSimpArgs false
namespace Go.Proofs.YtbfbmgkgaokecaaDoor.Vb
open Go.RowKit

/-- Block b begins with these cells; they may be written. -/
def VRow (w : World) (b : Nat) (e : TypeId) (xs : List Value) : Prop :=
  ∃ cs lo hi, w.heap[b]? = some (.cells cs e (lo, hi)) ∧ (∀ j, j < xs.length → cs[j]? = xs[j]?) ∧ (xs.length ≤ lo ∨ hi = 0)

namespace VRow
variable {w w' : World} {b : Nat} {e : TypeId} {xs : List Value}

theorem lt (h : VRow w b e xs) : b < w.heap.size := by
  obtain ⟨cs, lo, hi, hb, _⟩ := h
  exact (Array.getElem?_eq_some_iff.1 hb).1

theorem cell (h : VRow w b e xs) (j : Nat) (hj : j < xs.length) : w.cell? ⟨b, j, none⟩ = some (xs[j]) := by
  obtain ⟨cs, lo, hi, hb, hc, _⟩ := h
  simp [World.cell?, hb, hc j hj, List.getElem?_eq_getElem hj]

theorem frozen (h : VRow w b e xs) (j : Nat) (hj : j < xs.length) : w.frozen? ⟨b, j, none⟩ = false := by
  obtain ⟨cs, lo, hi, hb, _, hf⟩ := h
  simp only [World.frozen?, hb]
  rcases hf with hf | hf
  · have : ¬ lo ≤ j := by omega
    simp [this]
  · simp [hf]

theorem of_block (h : VRow w b e xs) (hb : w'.heap[b]? = w.heap[b]?) : VRow w' b e xs := by
  obtain ⟨cs, lo, hi, h1, h2⟩ := h
  exact ⟨cs, lo, hi, hb.trans h1, h2⟩

theorem below {B : Nat} (h : VRow w b e xs) (hb : b < B) (k : Below B w w') : VRow w' b e xs := h.of_block (k.block b hb)

theorem grown (h : VRow w b e xs) (k : Below w.heap.size w w') : VRow w' b e xs := h.below h.lt k

theorem alloc (h : VRow w b e xs) (o : Obj) : VRow (w.alloc o) b e xs := h.of_block (Below.heap_alloc _ _ _ h.lt)

theorem drewN (h : VRow w b e xs) (n : Nat) : VRow (w.drewN n) b e xs := h
theorem drew (h : VRow w b e xs) : VRow w.drew b e xs := h

theorem far (h : VRow w b e xs) {p : Addr} (hp : b ≠ p.block) (u : Value) : VRow (w.setCell p u) b e xs := h.of_block (Below.heap_setCell _ _ _ _ hp)

theorem set (h : VRow w b e xs) (i : Nat) (hi : i < xs.length) (u : Value) : VRow (w.setCell ⟨b, i, none⟩ u) b e (xs.set i u) := by
  obtain ⟨cs, lo, hi', hb, hc, hf⟩ := h
  refine ⟨cs.setIfInBounds i u, lo, hi', ?_, ?_, by simpa using hf⟩
  · simp only [World.setCell]
    rw [Array.getElem?_modify]
    simp [hb]
  · intro j hj
    have hj' : j < xs.length := by simpa using hj
    have hsz : i < cs.size := by
      have := hc i hi
      rw [List.getElem?_eq_getElem hi] at this
      exact (Array.getElem?_eq_some_iff.1 this).1
    rw [Array.getElem?_setIfInBounds, List.getElem?_set]
    by_cases hij : i = j
    · subst hij; simp [hi, hsz]
    · simp [hij, hc j hj']

end VRow

/-- A block's cells are these bytes. -/
def BRow (w : World) (b : Nat) (l : List UInt8) : Prop := VRow w b 5 (l.map fun c => .int .u8 (c.toNat : Int))

namespace BRow
variable {w w' : World} {b : Nat} {l : List UInt8}

theorem cell (h : BRow w b l) (j : Nat) (hj : j < l.length) : w.cell? ⟨b, j, none⟩ = some (.int .u8 (l[j].toNat : Int)) := by
  have := VRow.cell h j (by simpa using hj)
  simpa using this
theorem frozen (h : BRow w b l) (j : Nat) (hj : j < l.length) : w.frozen? ⟨b, j, none⟩ = false := VRow.frozen h j (by simpa using hj)
theorem set (h : BRow w b l) (i : Nat) (hi : i < l.length) (c : UInt8) (n : Int) (hn : (c.toNat : Int) = n) : BRow (w.setCell ⟨b, i, none⟩ (.int .u8 n)) b (l.set i c) := by
  subst hn
  have := VRow.set h i (by simpa using hi) (.int .u8 (c.toNat : Int))
  unfold BRow
  rw [List.map_set]
  exact this

theorem of_bytes (w : World) (s : ByteArray) : BRow (Lib.bytesWorld w 5 s) w.heap.size s.data.toList := by
  refine ⟨_, _, _, Lib.bytesWorld_at_new w 5 s, ?_, ?_⟩
  · intro j hj
    have hj' : j < s.data.size := by simpa using hj
    have hj2 : ¬ s.size ≤ j := by show ¬ s.data.size ≤ j; omega
    simp [Lib.bytesCells, Array.getElem?_append, hj', hj2]
  · left
    simp [Lib.bytesCells]

end BRow

theorem strOf_map (l : List UInt8) : strOfNums (l.map fun c => (c.toNat : Int)) = ⟨l.toArray⟩ := by
  unfold strOfNums
  congr 1
  simp [Function.comp_def]

/-- The bytes of a row, as a text. -/
theorem BRow.text {P : Program} {w : World} {b : Nat} {l : List UInt8} (h : BRow w b l) (src dst : TypeId) (hs : P.underlying src = some (.slice 5)) (he : P.underlying 5 = some (.int .u8)) (hd : P.underlying dst = some .string) (n cap : Nat) (hn : n = l.length) :
    (convert src dst (.slice (some ⟨b, 0, none⟩) n cap)).run P w = .ok (.string ⟨l.toArray⟩) w := by
  have := run_convert_bytes_arg (P := P) w src 5 hs he b 0 n cap (l.map fun c => (c.toNat : Int)) (by simp [hn]) (fun i hi => by
    rw [Nat.zero_add, h.cell i (by omega)]
    simp [List.getD, List.getElem?_eq_getElem (show i < l.length by omega)]) dst hd
  rw [this, strOf_map]

theorem below_bytes {w : World} {B : Nat} (e : TypeId) (t : ByteArray) (hB : B ≤ w.heap.size) : Below B w (Lib.bytesWorld w e t) := by
  refine ⟨rfl, rfl, rfl, ?_, ?_⟩
  · rw [Lib.bytesWorld_size]; omega
  · intro i hi
    exact Lib.bytesWorld_at_old w e t i (by omega)

theorem Below.comp {w w1 w2 : World} (h : Below w.heap.size w w1) (k : Below w1.heap.size w1 w2) : Below w.heap.size w w2 := h.trans (k.mono h.size)

end Go.Proofs.YtbfbmgkgaokecaaDoor.Vb
