/- Layer 19: Command 16, by hand. -/
import Derived.Test.YtbfbmgkgaokecaaDoorGvR
namespace Go.Proofs.YtbfbmgkgaokecaaDoor.PS
open Go.RowKit Go.Proofs.YtbfbmgkgaokecaaDoorW.PrintWords Go.Proofs.YtbfbmgkgaokecaaDoorW.PrintLast Go.Proofs.YtbfbmgkgaokecaaDoorW.PrintMore
set_option linter.unusedVariables false
set_option linter.unusedSimpArgs false

def bulkL (t : List UInt8) : List UInt8 := 36 :: (Lib.itoa t.length ++ [13, 10] ++ t ++ [13, 10])
def cmdHead (l : List ByteArray) : List UInt8 := 42 :: (Lib.itoa l.length ++ [13, 10])
def cmdL (l : List ByteArray) : List UInt8 := cmdHead l ++ l.flatMap (fun a => bulkL a.data.toList)
theorem wB {x : Int} (h0 : -1000000000000000 ≤ x) (h1 : x ≤ 1000000000000000) : wrap64 x = x := by unfold wrap64; omega
theorem txt_size (n : Int) : (Vb.txt n).size = (Lib.itoa n).length := by unfold Vb.txt; exact bsz _
theorem bapp (a b : List UInt8) : (⟨a.toArray⟩ : ByteArray) ++ ⟨b.toArray⟩ = ⟨(a ++ b).toArray⟩ := by
  apply Vb.bytes_ext; simp [ByteArray.toList_eq]
theorem bself (a : ByteArray) : (⟨a.data.toList.toArray⟩ : ByteArray) = a := by apply Vb.bytes_ext; rw [btl, ← Lib.toList_data]
theorem bulk_eq (a : ByteArray) (h : (bulkL a.data.toList).length ≤ 9000000000000000000) : resp_bulk.f a = some ⟨(bulkL a.data.toList).toArray⟩ := by
  have hlen : a.data.toList.length = a.size := Array.length_toList
  unfold bulkL at h
  simp only [List.length_cons, List.length_append, List.length_nil, hlen] at h
  have hs := txt_size (a.size : Int)
  unfold resp_bulk.f verb_Text.f
  rw [if_pos ⟨by omega, by omega⟩]
  simp only [Option.bind_some, hs]
  rw [if_pos (by omega), if_pos (by omega), if_pos (by omega), if_pos (by omega)]
  congr 1

theorem builder_below {B b : Nat} {bs : List Value} {w w1 : World} (h : Lib.IsBuilder 88 5 B b bs w) (hb : Below w.heap.size w w1) : Lib.IsBuilder 88 5 B b bs w1 := by
  have key : ∀ p, Lib.BuilderAt 88 5 B b p bs w → Lib.BuilderAt 88 5 B b p bs w1 := by
    rintro p ⟨h1, v, h2, h3, h4⟩
    exact ⟨h1, v, (hb.block b (blk_lt h2)).trans h2, pw_own_below h3 hb, h4⟩
  exact h.imp (key _) (key _)
theorem strCells_arr (l : List UInt8) : Lib.strCells ⟨l.toArray⟩ = Lib.byteCells l := rfl
theorem head_eq {l : List ByteArray} {T : ByteArray} (h : Vb.txt (l.length : Int) = T) : ((⟨#[42]⟩ : ByteArray) ++ T) ++ (⟨#[13, 10]⟩ : ByteArray) = ⟨(cmdHead l).toArray⟩ := by
  rw [← h]
  show ((⟨[42].toArray⟩ : ByteArray) ++ ⟨(Lib.itoa l.length).toArray⟩) ++ ⟨[13, 10].toArray⟩ = _
  rw [bapp, bapp]
  unfold cmdHead
  simp
theorem head_size {l : List ByteArray} {T : ByteArray} (h : Vb.txt (l.length : Int) = T) (hi : (Lib.itoa (l.length : Int)).length ≤ 140737488355325) : ([] : List Value).length + (((⟨#[42]⟩ : ByteArray) ++ T) ++ (⟨#[13, 10]⟩ : ByteArray)).size ≤ 140737488355328 := by
  rw [head_eq h, bsz]
  unfold cmdHead
  simp only [List.length_cons, List.length_append, List.length_nil]
  omega
theorem head_cells {l : List ByteArray} {T : ByteArray} (h : Vb.txt (l.length : Int) = T) : [] ++ Lib.strCells (((⟨#[42]⟩ : ByteArray) ++ T) ++ (⟨#[13, 10]⟩ : ByteArray)) = Lib.byteCells (cmdHead l ++ (l.take 0).flatMap (fun a => bulkL a.data.toList)) := by
  rw [head_eq h, strCells_arr]
  simp
theorem cmd_step (l : List ByteArray) (i : Nat) (h : i < l.length) (hz : (cmdL l).length ≤ 140737488355328) :
    cmdHead l ++ (l.take i).flatMap (fun a => bulkL a.data.toList) ++ bulkL l[i].data.toList = cmdHead l ++ (l.take (i + 1)).flatMap (fun a => bulkL a.data.toList) ∧ (bulkL l[i].data.toList).length ≤ 140737488355328 ∧
    (cmdHead l ++ (l.take i).flatMap (fun a => bulkL a.data.toList)).length + (bulkL l[i].data.toList).length ≤ 140737488355328 := by
  have e : cmdHead l ++ (l.take i).flatMap (fun a => bulkL a.data.toList) ++ bulkL l[i].data.toList = cmdHead l ++ (l.take (i + 1)).flatMap (fun a => bulkL a.data.toList) := by
    rw [List.take_succ_eq_append_getElem h, List.flatMap_append, List.append_assoc]
    simp
  have e2 : cmdL l = cmdHead l ++ (l.take (i + 1)).flatMap (fun a => bulkL a.data.toList) ++ (l.drop (i + 1)).flatMap (fun a => bulkL a.data.toList) := by
    unfold cmdL
    rw [List.append_assoc, ← List.flatMap_append, List.take_append_drop]
  rw [e2, ← e, List.length_append, List.length_append] at hz
  exact ⟨e, by omega, by omega⟩

set_option maxHeartbeats 8000000 in
set_option maxRecDepth 100000 in
theorem resp_Command.calls (A0 : Option Addr) (c0 : Nat) (l0 : List ByteArray) (w : World) (hG : Vb.Num w) (hr0 : Kd.C Kd.string w A0 l0.length l0) (hc0 : l0.length ≤ c0) (hz : (cmdL l0).length ≤ 140737488355328) :
    Calls Tryd.prog 16 #[.slice A0 l0.length c0] w fun e w' => ∃ v, e = .returned v ∧ Bv w' w.heap.size v (cmdL l0) ∧ Below w.heap.size w w' := by
  have HR0 := Aside0.mk hr0
  have HC0 := Aside0.mk hc0
  have HG := Aside0.mk hG
  have HZ := Aside0.mk hz
  clear hr0 hc0 hG
  have hlen0 : l0.length ≤ 140737488355328 := by
    have : ∀ l : List ByteArray, l.length ≤ (l.flatMap (fun a => bulkL a.data.toList)).length := by
      intro l
      induction l with
      | nil => simp
      | cons a l ih => simp [bulkL] at ih ⊢; omega
    have := this l0
    unfold cmdL cmdHead at hz
    simp only [List.length_cons, List.length_append] at hz
    omega
  have hitoa : (Lib.itoa (l0.length : Int)).length ≤ 140737488355325 := by unfold cmdL cmdHead at hz; simp only [List.length_cons, List.length_append] at hz; omega
  have hs := txt_size (l0.length : Int)
  obtain ⟨T, hT⟩ : ∃ T, Vb.txt (l0.length : Int) = T := ⟨_, rfl⟩
  rw [hT] at hs
  have hq1 : 1 + T.size ≤ 9223372036854775807 := by omega
  have hq2 : 1 + T.size + 2 ≤ 9223372036854775807 := by omega
  have HT := Aside0.mk (show verb_Text.f (l0.length : Int) = some T by unfold verb_Text.f; rw [if_pos ⟨by omega, by omega⟩, hT])
  have HT2 := Aside0.mk hT
  have HS := Aside0.mk hs
  have HI := Aside0.mk hitoa
  have HL := Aside0.mk hlen0
  clear hT hs hz hitoa hlen0
  have c3b0 := eq_true hq1
  have c3b1 : decide (1 + T.size ≤ 9223372036854775807) = true := decide_eq_true hq1
  have c3b2 : (9223372036854775807 < 1 + T.size) = False := eq_false (Nat.not_lt.2 hq1)
  have c4b0 := eq_true hq2
  have c4b1 : decide (1 + T.size + 2 ≤ 9223372036854775807) = true := decide_eq_true hq2
  have c4b2 : (9223372036854775807 < 1 + T.size + 2) = False := eq_false (Nat.not_lt.2 hq2)
  clear hq1 hq2
  go_enter Tryd.func16, Tryd.ntmps16
  go_wp2_with fail
  refine (verb_Text.calls _ T _ (Vb.Num.grown HG.out ((Below.refl _ _).alloc (Nat.le_refl _) _)) HT.out).mono ?_
  rintro e w1 ⟨rfl, hb1⟩
  have HB1 := Aside0.mk (builder_below (Lib.fresh_isBuilder 88 5 w) hb1)
  have HW1 := Aside0.mk (below_then ((Below.refl w.heap.size w).alloc (Nat.le_refl _) (.cells #[.pointer none, .slice none 0 0] 88)) (by simp) hb1)
  clear hb1
  go_wp2_with fail
  refine (writeString w.heap.size w.heap.size _ _ _ HB1.out (head_size HT2.out HI.out) HW1.out.size).mono ?_
  rintro e w2 ⟨rfl, h2, hb2⟩
  have HB2 := Aside0.mk (show Lib.IsBuilder 88 5 w.heap.size w.heap.size (Lib.byteCells (cmdHead l0 ++ (l0.take 0).flatMap (fun a => bulkL a.data.toList))) w2 by rw [head_cells HT2.out] at h2; exact .inr h2)
  have HW2 := Aside0.mk (HW1.out.trans hb2)
  clear h2 hb2 HB1 HW1 c3b0 c3b1 c3b2 c4b0 c4b1 c4b2
  go_wp2_with fail
  go_loopg [14] l0.length (fun gn v14 w' => ∃ i : Nat, v14 = .int .i64 (i : Int) ∧ Aside0 (i + gn = l0.length) ∧ Aside0 (Lib.IsBuilder 88 5 w.heap.size w.heap.size (Lib.byteCells (cmdHead l0 ++ (l0.take i).flatMap (fun a => bulkL a.data.toList))) w') ∧ Aside0 (Below w.heap.size w w'))
  case atStart => exact ⟨0, rfl, ⟨by omega⟩, HB2, HW2⟩
  case round =>
    clear HB2 HW2
    obtain ⟨i, rfl, HI2, HB, HW⟩ := hrel
    cases gk with
    | zero =>
      have c6b0 : decide (i < l0.length) = false := decide_eq_false (by have := HI2.out; omega)
      go_wp2_with fail
      refine (Tryd.Builder_String_any _ _ _ _ HB.out HW.out.size).mono ?_
      rintro e w5 ⟨rfl, hb5⟩
      have HW5 := Aside0.mk (HW.out.trans hb5)
      have he : cmdHead l0 ++ (l0.take i).flatMap (fun a => bulkL a.data.toList) = cmdL l0 := by
        rw [List.take_of_length_le (by have := HI2.out; omega)]; rfl
      rw [he]
      have HV := Aside0.mk (Bv_conv w5 ⟨(cmdL l0).toArray⟩ (by rw [bsz]; have := HZ.out; omega))
      clear hb5 HB HW he
      go_wp2_with fail
      rw [Lib.run_convert_string_bytes _ _ _ _ _ Tryd.underlying9 Tryd.underlying23 Tryd.underlying5]
      go_wp2
      go_ret
      exact ⟨_, rfl, Bv_lower HV.out HW5.out.size, below_then HW5.out HW5.out.size (bytesWorld_below _ _)⟩
    | succ g =>
      have c6b0 : decide (i < l0.length) = true := decide_eq_true (by have := HI2.out; omega)
      have q103 : (i < l0.length) = True := eq_true (by have := HI2.out; omega)
      have q102 : ((i : Int) < (l0.length : Int)) = True := eq_true (by have := HI2.out; omega)
      have p102 : ((0 : Int) ≤ (i : Int)) = True := eq_true (by omega)
      obtain ⟨ad102, e102, hx102_0⟩ := Kd.at_string HR0.out (i : Int) (by omega) (by have := HI2.out; omega)
      cases e102
      replace hx102_0 := (HW.out.cell (World.block_lt_of_cell? w _ hx102_0)).trans hx102_0
      have hil : i < l0.length := by have := HI2.out; omega
      have HN := Aside0.mk (Vb.Num.grown HG.out HW.out)
      have hA : rdOf ByteArray.empty l0 (i : Int) = l0[i] := by unfold rdOf; rw [Int.toNat_natCast, List.getD_eq_getElem?_getD, List.getElem?_eq_getElem hil]; rfl
      obtain ⟨a, ha⟩ : ∃ a, rdOf ByteArray.empty l0 (i : Int) = a := ⟨_, rfl⟩
      rw [ha] at hx102_0 hA
      rw [Int.toNat_natCast] at hx102_0
      have HS2 := Aside0.mk (cmd_step l0 i hil HZ.out)
      rw [← hA] at HS2
      clear ha hA hil
      go_wp2_with fail
      refine (resp_bulk.calls a _ _ HN.out (bulk_eq a (by have := HS2.out.2.1; omega))).mono ?_
      rintro e w3 ⟨rfl, hb3⟩
      have HB3 := Aside0.mk (builder_below HB.out hb3)
      have HW3 := Aside0.mk (below_then HW.out HW.out.size hb3)
      clear hb3
      go_wp2_with fail
      refine (writeString w.heap.size w.heap.size _ _ _ HB3.out (by rw [Lib.byteCells_length, bsz]; have := HS2.out.2.2; omega) HW3.out.size).mono ?_
      rintro e w4 ⟨rfl, h4, hb4⟩
      have HB4 := Aside0.mk (show Lib.IsBuilder 88 5 w.heap.size w.heap.size (Lib.byteCells (cmdHead l0 ++ (l0.take (i + 1)).flatMap (fun a => bulkL a.data.toList))) w4 by
        rw [strCells_arr, ← Lib.byteCells_append, HS2.out.1] at h4; exact .inr h4)
      have HW4 := Aside0.mk (HW3.out.trans hb4)
      clear h4 hb4 HB HW HB3 HW3
      go_wp2_with fail
      go_roundg g
      case measure => exact Nat.lt_succ_self _
      case rel => exact ⟨i + 1, by rw [wB (by omega) (by have := HI2.out; have := HL.out; omega)]; rfl, ⟨by have := HI2.out; omega⟩, HB4, HW4⟩

end Go.Proofs.YtbfbmgkgaokecaaDoor.PS
