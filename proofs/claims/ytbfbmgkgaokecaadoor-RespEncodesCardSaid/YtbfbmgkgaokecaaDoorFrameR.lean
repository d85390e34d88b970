/- What the rows of layer 19 have in common: the condition on the listed variables, at the door's own run and as the walks read it; bytes that came in. -/
import Derived.Test.YtbfbmgkgaokecaaDoorSq6
import Derived.Test.YtbfbmgkgaokecaaDoorPlW
import Derived.Stop.Joined
import Derived.ChangeSlices
import Derived.SliceStrings
set_option linter.unusedVariables false
set_option linter.unusedSimpArgs false
namespace Go.Proofs.YtbfbmgkgaokecaaDoor.PS
open Go.ChangeShapes Go.WideShapes Go.ChangeAt Go.RowKit

def laid5 : List (String × DataW Unit) := [("math/bits.deBruijn32tab", Rows.laid_math_bits_deBruijn32tab), ("math/bits.deBruijn64tab", Rows.laid_math_bits_deBruijn64tab), ("internal/strconv.uint64pow10", Rows.laid_internal_strconv_uint64pow10), ("strconv.ErrRange", Rows.laid_strconv_ErrRange), ("strconv.ErrSyntax", Rows.laid_strconv_ErrSyntax)]
theorem own : ownKnob Tryd.prog.godebug = none := by kernel_rfl
theorem door_met5 (os : Os) (args : Array Value) : laidMetH Tryd.prog laid5 ((World.doorLaid Tryd.prog 400 os).forCall (fun _ _ => 0) ⟨#[], args, []⟩).memory := by
  rw [MakeChecks.laidMetH_plain _ _ _ (by kernel_rfl)]
  exact laidMet_of_run' 5 (by kernel_rfl) (by kernel_rfl)
theorem num_of5 {W : World} (h : laidMetH Tryd.prog laid5 W) : Vb.Num W := by
  rw [MakeChecks.laidMetH_plain _ _ _ (by kernel_rfl)] at h
  exact Vb.num_of h
theorem bytes_of_cells {W : World} {x : Addr} {len : Nat} {zs : List Int} (hl : len ≤ zs.length) (hm : len ≤ 9223372036854775807) (h : ∀ i, i < zs.length → W.cell? (x.add i) = some (.int .u8 (zs.getD i 0))) (hw : ∀ n ∈ zs, (Lit.int .u8 n).wf = true) :
    ∃ L : List UInt8, len = L.length ∧ Go.Proofs.YtbfbmgkgaokecaaDoorW.PrintWords.Kd.C (Go.Proofs.YtbfbmgkgaokecaaDoorW.PrintWords.Kd.int .u8) W (some x) L.length (ints L) := by
  have hz : ints ((zs.take len).map fun n => UInt8.ofNat n.toNat) = zs.take len := by
    unfold ints
    rw [List.map_map]
    conv => rhs; rw [← List.map_id (zs.take len)]
    apply List.map_congr_left
    intro n hn
    have hwn := hw n (List.mem_of_mem_take hn)
    have hb : 0 ≤ n ∧ n ≤ 255 := by
      rw [Lit.wf, Bool.and_eq_true, decide_eq_true_eq, decide_eq_true_eq] at hwn
      exact hwn
    show ((UInt8.ofNat n.toNat).toNat : Int) = n
    rw [UInt8.toNat_ofNat']
    omega
  have hlen : ((zs.take len).map fun n => UInt8.ofNat n.toNat).length = len := by rw [List.length_map, List.length_take]; omega
  refine ⟨(zs.take len).map fun n => UInt8.ofNat n.toNat, hlen.symm, ?_⟩
  rw [hz, hlen]
  refine ⟨by rw [List.length_take]; omega, hm, fun _ => ⟨x, rfl, fun j p hj => ⟨[.int .u8 p], rfl, rfl, fun i u hu => ?_⟩⟩⟩
  obtain ⟨hjl, hp⟩ := List.getElem?_eq_some_iff.1 hj
  match i, hu with
  | 0, hu =>
    obtain rfl := Option.some.inj hu
    have hj2 : j < zs.length := by rw [List.length_take] at hjl; omega
    have := h j hj2
    rw [List.getD_eq_getElem?_getD, List.getElem?_eq_getElem hj2] at this
    show W.cell? (x.add (j * 1 + 0)) = _
    rw [show j * 1 + 0 = j by omega, this]
    rw [List.getElem_take] at hp
    rw [← hp]; rfl
theorem bytes_in {H : Type} {enc : TypeId × Value → H} {W : World} {base fuel len cap : Nat} {spare : Nat → Bool} {held : Bool} {a0 : Option Addr} {x : DataW H × List MemPlace} (hf : DataW.trod enc Tryd.prog W base spare held fuel 23 [.slice a0 len cap] = some x) :
    ∃ L : List UInt8, len = L.length ∧ Go.Proofs.YtbfbmgkgaokecaaDoorW.PrintWords.Kd.C (Go.Proofs.YtbfbmgkgaokecaaDoorW.PrintWords.Kd.int .u8) W a0 L.length (ints L) ∧ L.length ≤ cap := by
  rcases open_ints Tryd.underlying23 Tryd.underlying5 (by kernel_rfl) hf with ⟨hcs, _⟩ | ⟨x, l, c, zs, hcs, _, hl, hm, hz, _, hcell, hwz⟩
  · simp at hcs
    obtain ⟨rfl, rfl, rfl⟩ := hcs
    exact ⟨[], rfl, ⟨rfl, by decide, fun h => absurd h (by decide)⟩, Nat.le_refl _⟩
  · simp at hcs
    obtain ⟨rfl, rfl, rfl⟩ := hcs
    have hz : len ≤ zs.length := by rw [hz]; split <;> omega
    obtain ⟨L, h1, h2⟩ := bytes_of_cells (x := x) hz (by unfold maxLen at hm; omega) hcell hwz
    exact ⟨L, h1, h2, by omega⟩
theorem strs_of_cells {w : World} {x : Addr} {len : Nat} {zs : List ByteArray} (h : ∀ i, i < zs.length → w.cell? (x.add i) = some (.string (zs.getD i ByteArray.empty))) (hl : len ≤ zs.length) (hm : len ≤ 9223372036854775807) :
    (zs.take len).length = len ∧ Go.Proofs.YtbfbmgkgaokecaaDoorW.PrintWords.Kd.C Go.Proofs.YtbfbmgkgaokecaaDoorW.PrintWords.Kd.string w (some x) (zs.take len).length (zs.take len) := by
  have hlen : (zs.take len).length = len := by rw [List.length_take]; omega
  refine ⟨hlen, rfl, by omega, fun _ => ⟨x, rfl, fun j p hj => ⟨[.string p], rfl, rfl, fun i u hu => ?_⟩⟩⟩
  obtain ⟨hjl, hp⟩ := List.getElem?_eq_some_iff.1 hj
  match i, hu with
  | 0, hu =>
    obtain rfl := Option.some.inj hu
    have hj2 : j < zs.length := by omega
    have := h j hj2
    rw [List.getD_eq_getElem?_getD, List.getElem?_eq_getElem hj2] at this
    show w.cell? (x.add (j * 1 + 0)) = _
    rw [show j * 1 + 0 = j by omega, this]
    rw [List.getElem_take] at hp
    rw [← hp]; rfl
theorem weightsAll_mem {H : Type} {P : Program} {e : TypeId} {d : DataW H} {n : Nat} : ∀ {l : List (DataW H)}, d ∈ l → n ∈ d.weights P e → n ∈ DataW.weightsAll P e l
  | [], h, _ => by cases h
  | x :: l, h, hn => by
    rw [DataW.weightsAll]
    rcases List.mem_cons.1 h with rfl | h
    · exact List.mem_append_left _ hn
    · exact List.mem_append_right _ (weightsAll_mem h hn)
theorem strs_in {H : Type} {enc : TypeId × Value → H} {W : World} {base fuel len cap : Nat} {spare : Nat → Bool} {held : Bool} {a0 : Option Addr} {d : DataW H} {ps : List MemPlace} (hf : DataW.trod enc Tryd.prog W base spare held fuel 22 [.slice a0 len cap] = some (d, ps))
    (hs : ∀ n ∈ d.weights Tryd.prog 22, n ≤ reachBytes) :
    ∃ l : List ByteArray, len = l.length ∧ Go.Proofs.YtbfbmgkgaokecaaDoorW.PrintWords.Kd.C Go.Proofs.YtbfbmgkgaokecaaDoorW.PrintWords.Kd.string W a0 l.length l ∧ l.length ≤ cap ∧ ∀ a ∈ l, a.size ≤ 140737488351232 := by
  rcases open_strings Tryd.underlying22 Tryd.underlying9 (by kernel_rfl) hf with ⟨hcs, _⟩ | ⟨x, l, c, zs, hcs, _, hl, hm, hz, hx, hcell, hwz⟩
  · simp at hcs
    obtain ⟨rfl, rfl, rfl⟩ := hcs
    exact ⟨[], rfl, ⟨rfl, by decide, fun h => absurd h (by decide)⟩, Nat.le_refl _, fun a ha => by cases ha⟩
  · simp at hcs
    obtain ⟨rfl, rfl, rfl⟩ := hcs
    have hz : len ≤ zs.length := by rw [hz]; split <;> omega
    obtain ⟨hlen, hC⟩ := strs_of_cells (x := x) hcell hz (by unfold maxLen at hm; omega)
    refine ⟨zs.take len, hlen.symm, hC, by omega, fun a ha => ?_⟩
    obtain rfl : d = _ := congrArg Prod.fst hx
    have := hs a.data.toList.length (by
      rw [DataW.weights, Tryd.underlying22]
      refine List.mem_cons_of_mem _ (List.mem_append_left _ (weightsAll_mem (d := .lit (.string a.data.toList)) ?_ ?_))
      · unfold strs
        exact List.mem_map.2 ⟨a, ha, rfl⟩
      · simp [DataW.weights])
    rw [Array.length_toList] at this
    exact this
end Go.Proofs.YtbfbmgkgaokecaaDoor.PS
