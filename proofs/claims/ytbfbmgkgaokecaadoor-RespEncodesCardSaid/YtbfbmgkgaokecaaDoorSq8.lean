/- Several of this seat's texts in one (squash.py): Row PSf23 PSkL10 GvZ. -/
import Derived.WalkKit
import Derived.Below
import Derived.Deep.Draws
import Derived.Lib.ConvBytes
import Derived.Laws.BytesArg
import Derived.Test.YtbfbmgkgaokecaaDoorPS0
import Derived.Test.YtbfbmgkgaokecaaDoorPSf18

section
/- Rows of cells in a block: read, written, and left alone. -/
set_option linter.unusedVariables false
set_option linter.unusedSimpArgs false
namespace Go.Proofs.YtbfbmgkgaokecaaDoor.Vb
open Go.RowKit

/-- Block b begins with these cells; they may be written. -/
def VRow (w : World) (b : Nat) (e : TypeId) (xs : List Value) : Prop :=
  ∃ cs lo hi, w.heap[b]? = some (.cells cs e (lo, hi)) ∧ (∀ j, j < xs.length → cs[j]? = xs[j]?) ∧ (xs.length ≤ lo ∨ hi = 0)

namespace VRow
variable {w w' : World} {b : Nat} {e : TypeId} {xs : List Value}

theorem lt (h : VRow w b e xs) : b < w.heap.size := by
  obtain ⟨cs, lo, hi, hb, _⟩ := h
  exact (Array.getElem?_eq_some_iff.1 hb).1

theorem cell (h : VRow w b e xs) (j : Nat) (hj : j < xs.length) : w.cell? ⟨b, j, none⟩ = some (xs[j]) := by
  obtain ⟨cs, lo, hi, hb, hc, _⟩ := h
  simp [World.cell?, hb, hc j hj, List.getElem?_eq_getElem hj]

theorem frozen (h : VRow w b e xs) (j : Nat) (hj : j < xs.length) : w.frozen? ⟨b, j, none⟩ = false := by
  obtain ⟨cs, lo, hi, hb, _, hf⟩ := h
  simp only [World.frozen?, hb]
  rcases hf with hf | hf
  · have : ¬ lo ≤ j := by omega
    simp [this]
  · simp [hf]

theorem of_block (h : VRow w b e xs) (hb : w'.heap[b]? = w.heap[b]?) : VRow w' b e xs := by
  obtain ⟨cs, lo, hi, h1, h2⟩ := h
  exact ⟨cs, lo, hi, hb.trans h1, h2⟩

theorem below {B : Nat} (h : VRow w b e xs) (hb : b < B) (k : Below B w w') : VRow w' b e xs := h.of_block (k.block b hb)

theorem grown (h : VRow w b e xs) (k : Below w.heap.size w w') : VRow w' b e xs := h.below h.lt k

theorem alloc (h : VRow w b e xs) (o : Obj) : VRow (w.alloc o) b e xs := h.of_block (Below.heap_alloc _ _ _ h.lt)

theorem drewN (h : VRow w b e xs) (n : Nat) : VRow (w.drewN n) b e xs := h
theorem drew (h : VRow w b e xs) : VRow w.drew b e xs := h

theorem far (h : VRow w b e xs) {p : Addr} (hp : b ≠ p.block) (u : Value) : VRow (w.setCell p u) b e xs := h.of_block (Below.heap_setCell _ _ _ _ hp)

theorem set (h : VRow w b e xs) (i : Nat) (hi : i < xs.length) (u : Value) : VRow (w.setCell ⟨b, i, none⟩ u) b e (xs.set i u) := by
  obtain ⟨cs, lo, hi', hb, hc, hf⟩ := h
  refine ⟨cs.setIfInBounds i u, lo, hi', ?_, ?_, by simpa using hf⟩
  · simp only [World.setCell]
    rw [Array.getElem?_modify]
    simp [hb]
  · intro j hj
    have hj' : j < xs.length := by simpa using hj
    have hsz : i < cs.size := by
      have := hc i hi
      rw [List.getElem?_eq_getElem hi] at this
      exact (Array.getElem?_eq_some_iff.1 this).1
    rw [Array.getElem?_setIfInBounds, List.getElem?_set]
    by_cases hij : i = j
    · subst hij; simp [hi, hsz]
    · simp [hij, hc j hj']

end VRow

/-- A block's cells are these bytes. -/
def BRow (w : World) (b : Nat) (l : List UInt8) : Prop := VRow w b 5 (l.map fun c => .int .u8 (c.toNat : Int))

namespace BRow
variable {w w' : World} {b : Nat} {l : List UInt8}

theorem cell (h : BRow w b l) (j : Nat) (hj : j < l.length) : w.cell? ⟨b, j, none⟩ = some (.int .u8 (l[j].toNat : Int)) := by
  have := VRow.cell h j (by simpa using hj)
  simpa using this
theorem frozen (h : BRow w b l) (j : Nat) (hj : j < l.length) : w.frozen? ⟨b, j, none⟩ = false := VRow.frozen h j (by simpa using hj)
theorem set (h : BRow w b l) (i : Nat) (hi : i < l.length) (c : UInt8) (n : Int) (hn : (c.toNat : Int) = n) : BRow (w.setCell ⟨b, i, none⟩ (.int .u8 n)) b (l.set i c) := by
  subst hn
  have := VRow.set h i (by simpa using hi) (.int .u8 (c.toNat : Int))
  unfold BRow
  rw [List.map_set]
  exact this

theorem of_bytes (w : World) (s : ByteArray) : BRow (Lib.bytesWorld w 5 s) w.heap.size s.data.toList := by
  refine ⟨_, _, _, Lib.bytesWorld_at_new w 5 s, ?_, ?_⟩
  · intro j hj
    have hj' : j < s.data.size := by simpa using hj
    have hj2 : ¬ s.size ≤ j := by show ¬ s.data.size ≤ j; omega
    simp [Lib.bytesCells, Array.getElem?_append, hj', hj2]
  · left
    simp [Lib.bytesCells]

end BRow

theorem strOf_map (l : List UInt8) : strOfNums (l.map fun c => (c.toNat : Int)) = ⟨l.toArray⟩ := by
  unfold strOfNums
  congr 1
  simp [Function.comp_def]

/-- The bytes of a row, as a text. -/
theorem BRow.text {P : Program} {w : World} {b : Nat} {l : List UInt8} (h : BRow w b l) (src dst : TypeId) (hs : P.underlying src = some (.slice 5)) (he : P.underlying 5 = some (.int .u8)) (hd : P.underlying dst = some .string) (n cap : Nat) (hn : n = l.length) :
    (convert src dst (.slice (some ⟨b, 0, none⟩) n cap)).run P w = .ok (.string ⟨l.toArray⟩) w := by
  have := run_convert_bytes_arg (P := P) w src 5 hs he b 0 n cap (l.map fun c => (c.toNat : Int)) (by simp [hn]) (fun i hi => by
    rw [Nat.zero_add, h.cell i (by omega)]
    simp [List.getD, List.getElem?_eq_getElem (show i < l.length by omega)]) dst hd
  rw [this, strOf_map]

theorem below_bytes {w : World} {B : Nat} (e : TypeId) (t : ByteArray) (hB : B ≤ w.heap.size) : Below B w (Lib.bytesWorld w e t) := by
  refine ⟨rfl, rfl, rfl, ?_, ?_⟩
  · rw [Lib.bytesWorld_size]; omega
  · intro i hi
    exact Lib.bytesWorld_at_old w e t i (by omega)

theorem Below.comp {w w1 w2 : World} (h : Below w.heap.size w w1) (k : Below w1.heap.size w1 w2) : Below w.heap.size w w2 := h.trans (k.mono h.size)

end Go.Proofs.YtbfbmgkgaokecaaDoor.Vb
end

section
/- Written by program out of the translation (a patched copy of the kit's print, called by a script of this session). Not trusted: Lean checks it. -/
namespace Go.Proofs.YtbfbmgkgaokecaaDoor.PS
open Go.RowKit Go.Proofs.YtbfbmgkgaokecaaDoorW.PrintWords Go.Proofs.YtbfbmgkgaokecaaDoorW.PrintLast Go.Proofs.YtbfbmgkgaokecaaDoorW.PrintMore
attribute [local go_sem] max2_int min2_int max_two min_two max_three min_three max_four min_four   -- for this text's walks alone
set_option linter.unusedVariables false
set_option linter.unusedSimpArgs false

/-! ### resp_Parser_Left: function 23 -/
def resp_Parser_Left.f (s0_0 : List Int) (s0_1 : Int) (s0_2 : Bool) : Option (Int × Int × Bool) := some ((s0_0.length : Int), s0_1, s0_2)
set_option maxHeartbeats 8000000 in
set_option maxRecDepth 100000 in
theorem resp_Parser_Left.calls (g : Nat) (s0_0 : List Int) (s0_1 : Int) (s0_2 : Bool) (r1 : Int) (r2 : Int) (r3 : Bool) (w0 w : World) (hI : IsS46 w0 w g s0_0 s0_1 s0_2) (hB : Below w0.heap.size w0 w) (h : resp_Parser_Left.f s0_0 s0_1 s0_2 = some (r1, r2, r3)) :
    Calls Tryd.prog 23 #[.pointer (some ⟨g, 0, none⟩)] w fun e w' => e = .returned (.int .i64 r1) ∧ IsS46 w0 w' g s0_0 r2 r3 ∧ Below w0.heap.size w0 w' ∧ KeepBut w w' g none := by
  have HI0 := Aside0.mk hI
  have HK := Aside0.mk (KeepBut.refl w g none)
  have HL := Aside0.mk hB.size
  clear hI
  have HW0 := Aside0.mk hB.size
  have HB := Aside0.mk hB
  clear hB
  have H : (some ((s0_0.length : Int), s0_1, s0_2)) = some (r1, r2, r3) := h
  clear h
  simp only [Option.some.injEq, Prod.mk.injEq] at H
  obtain ⟨rfl, rfl, rfl⟩ := H
  obtain ⟨ASz2_0, cSz2_0, HGz2, hgz2, HSz2_0⟩ := HI0.out
  have hcz2_0 := cellS46_0 HGz2
  have hcz2_1 := cellS46_1 HGz2
  have hcz2_2 := cellS46_2 HGz2
  have hfz2_1 := blk_frozen HGz2 1
  have hfz2_2 := blk_frozen HGz2 2
  clear HGz2 hgz2
  go_enter Tryd.func23, Tryd.ntmps23
  go_wp2
  go_ret
  exact ⟨by first | rfl | (simp [errW_none, errW_some] <;> rfl) | (simp [*, errW_none, errW_some] <;> rfl), by repeat (first | (with_reducible first | exact HI0.out | apply IsS46.alloc | apply IsS46.drewN | apply IsS46.drew | apply IsS46.set_1 | apply IsS46.set_2) | exact HI0.out), by repeat (first | (with_reducible first | exact HB.out | apply below_alloc | apply pw_below_drewN | apply below_drew1 | refine below_set ?_ (IsS46.ge HI0.out)) | exact HB.out), by repeat (first | (with_reducible first | exact HK.out | apply KeepBut.set_ | apply keep_drewN | apply keep_drew | apply keep_alloc) | exact HK.out)⟩

end Go.Proofs.YtbfbmgkgaokecaaDoor.PS
end

section
/- Written by program out of the translation: a kind of values. -/
namespace Go.Proofs.YtbfbmgkgaokecaaDoor.PS
open Go.RowKit Go.Proofs.YtbfbmgkgaokecaaDoorW.PrintWords Go.Proofs.YtbfbmgkgaokecaaDoorW.PrintLast Go.Proofs.YtbfbmgkgaokecaaDoorW.PrintMore
attribute [local go_sem] max2_int min2_int max_two min_two max_three min_three max_four min_four   -- for this text's walks alone
set_option linter.unusedVariables false
set_option linter.unusedSimpArgs false

def rd_L10 (xs : List (List ByteArray)) (i : Int) : (List ByteArray) := xs.getD i.toNat ([] : List ByteArray)
theorem at_L10 {w : World} {A : Option Addr} {n : Nat} {xs : List (List ByteArray)} (h : Kd.C (Kd.slice 9 Kd.string) w A n xs) (i : Int) (h0 : 0 ≤ i) (h1 : i < n) : ∃ ad A0 c0, A = some ad ∧ w.cell? (ad.add i.toNat) = some (.slice A0 (rd_L10 xs i).length c0) ∧ (rd_L10 xs i).length ≤ c0 ∧ Kd.string.C w A0 (rd_L10 xs i).length (rd_L10 xs i) := by
  obtain ⟨ad, c, e, _, hK, hc0⟩ := Kd.C_get h ([] : List ByteArray) i h0 h1
  have hc : ∀ j u, c[j]? = some u → w.cell? (ad.add (i.toNat * 1 + j)) = some u := hc0
  obtain ⟨A0, c0, rfl, l0, g0⟩ := hK
  exact ⟨ad, A0, c0, e, by have hq := hc 0 _ rfl; rwa [Nat.mul_one, Nat.add_zero] at hq, l0, g0⟩


end Go.Proofs.YtbfbmgkgaokecaaDoor.PS
end

section
/- Layer 19: what comes back is a cut of what came in. -/
set_option linter.unusedVariables false
set_option linter.unusedSimpArgs false
namespace Go.Proofs.YtbfbmgkgaokecaaDoor.PS
open Go.RowKit Go.Proofs.YtbfbmgkgaokecaaDoorW.PrintWords Go.Proofs.YtbfbmgkgaokecaaDoorW.PrintLast Go.Proofs.YtbfbmgkgaokecaaDoorW.PrintMore

/-- v (its bytes: xs) is a cut of rt (rl), or nothing: where rt is a row of one's own, v is one. -/
def CutOf (rt : Value) (rl : List Int) (v : Value) (xs : List Int) : Prop := ∀ (W : World) (base : Nat) (ok : Nat → Prop), Kd.Q (Kd.int .u8) 5 W base ok rt rl → Kd.Q (Kd.int .u8) 5 W base ok v xs
theorem CutOf.refl (rt : Value) (rl : List Int) : CutOf rt rl rt rl := fun _ _ _ h => h
theorem CutOf.nil (rt : Value) (rl : List Int) : CutOf rt rl (.slice none 0 0) [] := fun _ _ _ _ => Kd.Q_nil _ _ _ _ _
theorem CutOf.drop {rt : Value} {rl : List Int} {A A1 : Option Addr} {n c c1 m : Nat} {xs ys : List Int} (h : CutOf rt rl (.slice A n c) xs) (hm : m ≤ xs.length) (hA : A1 = if c = m then A else A.map (·.add (m * 1))) (hc : c1 = c - m) (hy : ys = xs.drop m) :
    CutOf rt rl (.slice A1 ys.length c1) ys := fun W base ok hq => by
  have h1 := h W base ok hq
  have hn := (Kd.Q_reads' h1).1
  have h2 := Kd.Q_drop (k := m) h1 hm
  subst hA; subst hc; subst hy; subst hn
  rw [List.length_drop]
  exact h2

end Go.Proofs.YtbfbmgkgaokecaaDoor.PS
end
