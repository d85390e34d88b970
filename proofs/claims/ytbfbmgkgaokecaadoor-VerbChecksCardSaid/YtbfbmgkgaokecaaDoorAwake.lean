/- The example of layer 17's statements is true. -/
import Derived.Test.YtbfbmgkgaokecaaDoorFind
import Derived.Test.YtbfbmgkgaokecaaDoorMatch
set_option linter.unusedVariables false
set_option linter.unusedSimpArgs false
namespace Go.Proofs.YtbfbmgkgaokecaaDoor.Vb
open Go.RowKit

/-- A pattern's parts, with rounds. -/
def partsN : Nat → List UInt8 → List (Int × List Bool)
  | 0, _ => []
  | _ + 1, [] => []
  | n + 1, c :: rest => (onePart c rest).1 :: partsN n ((c :: rest).drop (onePart c rest).2)
theorem partsN_eq : ∀ (n : Nat) (l : List UInt8), l.length ≤ n → partsN n l = partsL l
  | 0, [], _ => by simp [partsN, partsL]
  | n + 1, [], _ => by simp [partsN, partsL]
  | 0, c :: r, h => by simp at h
  | n + 1, c :: r, h => by
    rw [partsL_cons, partsN, partsN_eq n]
    have := onePart_pos c r
    simp only [List.length_drop, List.length_cons] at h ⊢
    omega
theorem ex_match : matchS ⟨#[104, 91, 97, 45, 99, 93, 63, 42]⟩ ⟨#[104, 98, 120]⟩ = true := by
  have e : partsL (⟨#[104, 91, 97, 45, 99, 93, 63, 42]⟩ : ByteArray).data.toList = partsN 8 [104, 91, 97, 45, 99, 93, 63, 42] := (partsN_eq 8 _ (by decide)).symm
  have e2 : (atBehind [104, 98, 120] (partsN 8 [104, 91, 97, 45, 99, 93, 63, 42])).getD 3 false = true := by kernel_rfl
  unfold matchS
  rw [e]
  exact e2
theorem ex_find : findS ⟨#[103, 101, 116]⟩ = some ⟨1, 1, 1, ⟨#[71, 69, 84]⟩, 2, 2, false, false, false⟩ := by kernel_rfl
theorem ex_int : intV ⟨#[48, 48, 55]⟩ = .tuple #[.int .i64 0, .bool false] := by kernel_rfl

/-- All variables that layer 17 reads. -/
structure Glob (w : World) : Prop where
  num : Num w
  plc : Plc w
theorem Glob.grown {w w' : World} (h : Glob w) (b : Below w.heap.size w w') : Glob w' := ⟨h.num.grown b, h.plc.grown b⟩

set_option maxHeartbeats 1600000 in
set_option maxRecDepth 20000 in
theorem awake_calls (w : World) (hG : Glob w) :
    Calls Tryd.prog 27 #[] w fun e w' => e = .returned (.bool true) ∧ Below w.heap.size w w' := by
  go_enter Tryd.func27, Tryd.ntmps27
  go_wp2_with fail
  refine (Int_calls ⟨#[48, 48, 55]⟩ (by decide) _ hG.num).mono ?_
  rintro e w1 ⟨rfl, b1⟩
  rw [ex_int]
  have g1 := hG.grown b1
  go_wp2_with fail
  refine (Find_calls ⟨#[103, 101, 116]⟩ (by decide) _ g1.plc).mono ?_
  rintro e w2 ⟨rfl, b2⟩
  rw [ex_find]
  have b2' := Below.comp b1 b2
  unfold spV Sp.val
  go_wp2_with fail
  refine (Match_calls ⟨#[104, 91, 97, 45, 99, 93, 63, 42]⟩ ⟨#[104, 98, 120]⟩ (by decide) (by decide) _).mono ?_
  rintro e w3 ⟨rfl, b3⟩
  rw [ex_match]
  have r3 := (ERow.new w2 #[.int .i64 1, .int .i64 1, .int .i64 1, .string ⟨#[71, 69, 84]⟩, .int .i64 2, .int .i64 2, .bool false, .bool false, .bool false] 59).grown b3
  have h3 : w3.cell? ⟨w2.heap.size, 3, none⟩ = some (.string ⟨#[71, 69, 84]⟩) := r3.cell 3
  have h5 : w3.cell? ⟨w2.heap.size, 5, none⟩ = some (.int .i64 2) := r3.cell 5
  have h6 : w3.cell? ⟨w2.heap.size, 6, none⟩ = some (.bool false) := r3.cell 6
  have b3' := Below.comp' (b2'.alloc b2'.size _) b3 (by rw [alloc_size]; have := b2'.size; omega)
  clear r3 b3 b2 b1 g1
  go_wp2
  go_ret
  exact ⟨rfl, b3'⟩

end Go.Proofs.YtbfbmgkgaokecaaDoor.Vb
