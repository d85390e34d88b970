/- Layer 19: Encode 25 (the program's), by hand. Written by a program of this session (genE.py). -/
import Derived.Test.YtbfbmgkgaokecaaDoorPlE
import Derived.BigQuiet
import Derived.Lib.SlBytesConst
namespace Go.Proofs.YtbfbmgkgaokecaaDoor.PS
open Go.RowKit Go.Proofs.YtbfbmgkgaokecaaDoorW.PrintWords Go.Proofs.YtbfbmgkgaokecaaDoorW.PrintLast Go.Proofs.YtbfbmgkgaokecaaDoorW.PrintMore
set_option linter.unusedVariables false
set_option linter.unusedSimpArgs false

theorem Bv_done {w W : World} {base : Nat} {A : Option Addr} {n c : Nat} {L : List UInt8} (h : Bv W base (.slice A n c) L) (hb : Below w.heap.size w W) :
    ∃ A2 c2, Ending.returned (.slice A n c) = Ending.returned (.slice A2 L.length c2) ∧ L.length ≤ c2 ∧ Kd.C (Kd.int .u8) W A2 L.length (ints L) ∧ Below w.heap.size w W := by
  obtain ⟨rfl, h2, h3⟩ := Bv_C h
  exact ⟨A, c, rfl, h2, h3, hb⟩
theorem conv_done {w w2 : World} {s : ByteArray} {n : Nat} {L : List UInt8} (hn : s.size = n) (hs : s = ⟨L.toArray⟩) (hl : L.length ≤ 300000) (hb : Below w.heap.size w w2) :
    ∃ A2 c2, Ending.returned (.slice (some ⟨w2.heap.size, 0, none⟩) n (grownCap w2 n 0 5)) = Ending.returned (.slice A2 L.length c2) ∧ L.length ≤ c2 ∧ Kd.C (Kd.int .u8) (Lib.bytesWorld w2 5 s) A2 L.length (ints L) ∧ Below w.heap.size w (Lib.bytesWorld w2 5 s) := by
  subst hn
  have h := Bv_conv w2 s (by rw [hs, bsz]; omega)
  have e : s.data.toList = L := by rw [hs]
  rw [e] at h
  exact Bv_done h (below_then hb hb.size (bytesWorld_below _ _))
theorem lit_done {w W : World} {g : Nat} {cur : Array Value} {fr : Nat × Nat} {L : List UInt8} (hg : W.heap[g]? = some (.cells cur 5 fr)) (hfr : fr.1 = L.length) (hs : cur.toList = bcells L) (hl : L.length ≤ 300000) (hb : Below w.heap.size w W) :
    ∃ A2 c2, Ending.returned (.slice (some ⟨g, 0, none⟩) L.length L.length) = Ending.returned (.slice A2 L.length c2) ∧ L.length ≤ c2 ∧ Kd.C (Kd.int .u8) W A2 L.length (ints L) ∧ Below w.heap.size w W := by
  have hz : cur.size = L.length := by rw [← Array.length_toList, hs, bcells_length]
  exact Bv_done (base := 0) ⟨g, L.length, cur, fr, rfl, Nat.zero_le _, hg, .inr (by omega), Nat.le_refl _, by unfold maxLen; omega, hz, by rw [hs, List.take_of_length_le (by rw [bcells_length]; omega)]⟩ hb
theorem nil_done {w W : World} (hb : Below w.heap.size w W) :
    ∃ A2 c2, Ending.returned (.slice none 0 0) = Ending.returned (.slice A2 ([] : List UInt8).length c2) ∧ ([] : List UInt8).length ≤ c2 ∧ Kd.C (Kd.int .u8) W A2 ([] : List UInt8).length (ints []) ∧ Below w.heap.size w W :=
  ⟨none, 0, rfl, Nat.le_refl _, ⟨rfl, by decide, fun h => absurd h (by decide)⟩, hb⟩

set_option maxHeartbeats 8000000 in
set_option maxRecDepth 100000 in
theorem enc_1 (n : Nat) (a0 : Int) (a1 : ByteArray) (a2 : Int) (l : List S51) (A : Option Addr) (c : Nat) (w : World) (h : s51ok (n + 1) ⟨a0, a1, a2, l⟩) (hG : Vb.Num w) (hr : Kd.C k51 w A l.length l) (hc : l.length ≤ c) (q : a0 = 1)
    : Calls Tryd.prog 25 #[.agg #[.int .i64 a0, .string a1, .int .i64 a2, .slice A l.length c]] w fun e w' => ∃ A2 c2, e = .returned (.slice A2 (encL (n + 1) ⟨a0, a1, a2, l⟩).length c2) ∧ (encL (n + 1) ⟨a0, a1, a2, l⟩).length ≤ c2 ∧ Kd.C (Kd.int .u8) w' A2 (encL (n + 1) ⟨a0, a1, a2, l⟩).length (ints (encL (n + 1) ⟨a0, a1, a2, l⟩)) ∧ Below w.heap.size w w' := by
  obtain ⟨hr2, hs, hl, hz, hch⟩ := h
  dsimp only at hr2 hs hl hch
  have b1 : (a0 == 1) = true := beq_iff_eq.mpr q
  have b2 : (a0 == 2) = false := beq_eq_false_iff_ne.mpr (by omega)
  have b3 : (a0 == 3) = false := beq_eq_false_iff_ne.mpr (by omega)
  have b4 : (a0 == 4) = false := beq_eq_false_iff_ne.mpr (by omega)
  have b5 : (a0 == 5) = false := beq_eq_false_iff_ne.mpr (by omega)
  have b7 : (a0 == 7) = false := beq_eq_false_iff_ne.mpr (by omega)
  have b6 : (a0 == 6) = false := beq_eq_false_iff_ne.mpr (by omega)
  have eL : encL (n + 1) ⟨a0, a1, a2, l⟩ = 43 :: (flatL a1.data.toList ++ [13, 10]) := by unfold encL; subst q; simp
  rw [eL] at hz ⊢
  have HG := Aside0.mk hG
  have HS := Aside0.mk hs
  have HL := Aside0.mk hl
  have HZ := Aside0.mk hz
  have HR2 := Aside0.mk hr2
  have HCH := Aside0.mk hch
  have HR := Aside0.mk hr
  have HC := Aside0.mk hc
  clear hG hs hl hz hr2 hch hr hc eL q
  obtain ⟨T, hT⟩ : ∃ T, (⟨(flatL a1.data.toList).toArray⟩ : ByteArray) = T := ⟨_, rfl⟩
  have hTs : T.size ≤ 3000 := by rw [← hT, bsz, flatL_length]; have := HS.out; have : a1.data.toList.length = a1.size := Array.length_toList; omega
  have HT := Aside0.mk hT
  have c3b0 : (1 + T.size ≤ 9223372036854775807) = True := eq_true (by omega)
  have c3b1 : decide (1 + T.size ≤ 9223372036854775807) = true := decide_eq_true (by omega)
  have c3b2 : (9223372036854775807 < 1 + T.size) = False := eq_false (by omega)
  have c4b0 : (1 + T.size + 2 ≤ 9223372036854775807) = True := eq_true (by omega)
  have c4b1 : decide (1 + T.size + 2 ≤ 9223372036854775807) = true := decide_eq_true (by omega)
  have c4b2 : (9223372036854775807 < 1 + T.size + 2) = False := eq_false (by omega)
  clear hT hTs
  go_enter Tryd.func25, Tryd.ntmps25
  go_wp2_with (first | ((with_reducible refine gate_dst (N := 1) rfl ?_); refine box_event ?hg (N := 1) ?hd (cs := #[.int .i64 a0, .string a1, .int .i64 a2, .slice A l.length c]) (t := 51) ?hr ?_; (case hd => rfl); (case hg => rfl); (case hr => first | (go_simp; done) | (go_simp; rfl)); intro gb hg w1 hbox hb; have HB := Aside0.mk hb; have BK := Aside0.mk hbox; have GE := Aside0.mk (show w.heap.size ≤ gb by rw [hg]; exact Nat.le_refl _); clear hb hbox hg; have hz0 : w1.cell? ⟨gb, 0, none⟩ = some (.int .i64 a0) := (blk_cell BK.out 0).trans rfl; have hz1 : w1.cell? ⟨gb, 1, none⟩ = some (.string a1) := (blk_cell BK.out 1).trans rfl; have hz2 : w1.cell? ⟨gb, 2, none⟩ = some (.int .i64 a2) := (blk_cell BK.out 2).trans rfl; have hz3 : w1.cell? ⟨gb, 3, none⟩ = some (.slice A l.length c) := (blk_cell BK.out 3).trans rfl))
  refine (flat_calls a1 (by have := HS.out; omega) _).mono ?_
  rintro e w2 ⟨rfl, hb2⟩
  rw [HT.out]
  have HB2 := Aside0.mk (below_then HB.out HB.out.size hb2)
  clear hb2
  go_wp2_with fail
  rw [Lib.run_convert_string_bytes _ _ _ _ _ Tryd.underlying9 Tryd.underlying23 Tryd.underlying5]
  go_wp2
  go_ret
  exact conv_done (s := ((⟨#[43]⟩ : ByteArray) ++ T) ++ ⟨#[13, 10]⟩) (L := 43 :: (flatL a1.data.toList ++ [13, 10])) (by rw [ByteArray.size_append, ByteArray.size_append]; rfl) (by rw [← HT.out]; exact one_text 43 _) HZ.out HB2.out

set_option maxHeartbeats 8000000 in
set_option maxRecDepth 100000 in
theorem enc_2 (n : Nat) (a0 : Int) (a1 : ByteArray) (a2 : Int) (l : List S51) (A : Option Addr) (c : Nat) (w : World) (h : s51ok (n + 1) ⟨a0, a1, a2, l⟩) (hG : Vb.Num w) (hr : Kd.C k51 w A l.length l) (hc : l.length ≤ c) (q : a0 = 2)
    : Calls Tryd.prog 25 #[.agg #[.int .i64 a0, .string a1, .int .i64 a2, .slice A l.length c]] w fun e w' => ∃ A2 c2, e = .returned (.slice A2 (encL (n + 1) ⟨a0, a1, a2, l⟩).length c2) ∧ (encL (n + 1) ⟨a0, a1, a2, l⟩).length ≤ c2 ∧ Kd.C (Kd.int .u8) w' A2 (encL (n + 1) ⟨a0, a1, a2, l⟩).length (ints (encL (n + 1) ⟨a0, a1, a2, l⟩)) ∧ Below w.heap.size w w' := by
  obtain ⟨hr2, hs, hl, hz, hch⟩ := h
  dsimp only at hr2 hs hl hch
  have b1 : (a0 == 1) = false := beq_eq_false_iff_ne.mpr (by omega)
  have b2 : (a0 == 2) = true := beq_iff_eq.mpr q
  have b3 : (a0 == 3) = false := beq_eq_false_iff_ne.mpr (by omega)
  have b4 : (a0 == 4) = false := beq_eq_false_iff_ne.mpr (by omega)
  have b5 : (a0 == 5) = false := beq_eq_false_iff_ne.mpr (by omega)
  have b7 : (a0 == 7) = false := beq_eq_false_iff_ne.mpr (by omega)
  have b6 : (a0 == 6) = false := beq_eq_false_iff_ne.mpr (by omega)
  have eL : encL (n + 1) ⟨a0, a1, a2, l⟩ = 45 :: (flatL a1.data.toList ++ [13, 10]) := by unfold encL; subst q; simp
  rw [eL] at hz ⊢
  have HG := Aside0.mk hG
  have HS := Aside0.mk hs
  have HL := Aside0.mk hl
  have HZ := Aside0.mk hz
  have HR2 := Aside0.mk hr2
  have HCH := Aside0.mk hch
  have HR := Aside0.mk hr
  have HC := Aside0.mk hc
  clear hG hs hl hz hr2 hch hr hc eL q
  obtain ⟨T, hT⟩ : ∃ T, (⟨(flatL a1.data.toList).toArray⟩ : ByteArray) = T := ⟨_, rfl⟩
  have hTs : T.size ≤ 3000 := by rw [← hT, bsz, flatL_length]; have := HS.out; have : a1.data.toList.length = a1.size := Array.length_toList; omega
  have HT := Aside0.mk hT
  have c3b0 : (1 + T.size ≤ 9223372036854775807) = True := eq_true (by omega)
  have c3b1 : decide (1 + T.size ≤ 9223372036854775807) = true := decide_eq_true (by omega)
  have c3b2 : (9223372036854775807 < 1 + T.size) = False := eq_false (by omega)
  have c4b0 : (1 + T.size + 2 ≤ 9223372036854775807) = True := eq_true (by omega)
  have c4b1 : decide (1 + T.size + 2 ≤ 9223372036854775807) = true := decide_eq_true (by omega)
  have c4b2 : (9223372036854775807 < 1 + T.size + 2) = False := eq_false (by omega)
  clear hT hTs
  go_enter Tryd.func25, Tryd.ntmps25
  go_wp2_with (first | ((with_reducible refine gate_dst (N := 1) rfl ?_); refine box_event ?hg (N := 1) ?hd (cs := #[.int .i64 a0, .string a1, .int .i64 a2, .slice A l.length c]) (t := 51) ?hr ?_; (case hd => rfl); (case hg => rfl); (case hr => first | (go_simp; done) | (go_simp; rfl)); intro gb hg w1 hbox hb; have HB := Aside0.mk hb; have BK := Aside0.mk hbox; have GE := Aside0.mk (show w.heap.size ≤ gb by rw [hg]; exact Nat.le_refl _); clear hb hbox hg; have hz0 : w1.cell? ⟨gb, 0, none⟩ = some (.int .i64 a0) := (blk_cell BK.out 0).trans rfl; have hz1 : w1.cell? ⟨gb, 1, none⟩ = some (.string a1) := (blk_cell BK.out 1).trans rfl; have hz2 : w1.cell? ⟨gb, 2, none⟩ = some (.int .i64 a2) := (blk_cell BK.out 2).trans rfl; have hz3 : w1.cell? ⟨gb, 3, none⟩ = some (.slice A l.length c) := (blk_cell BK.out 3).trans rfl))
  refine (flat_calls a1 (by have := HS.out; omega) _).mono ?_
  rintro e w2 ⟨rfl, hb2⟩
  rw [HT.out]
  have HB2 := Aside0.mk (below_then HB.out HB.out.size hb2)
  clear hb2
  go_wp2_with fail
  rw [Lib.run_convert_string_bytes _ _ _ _ _ Tryd.underlying9 Tryd.underlying23 Tryd.underlying5]
  go_wp2
  go_ret
  exact conv_done (s := ((⟨#[45]⟩ : ByteArray) ++ T) ++ ⟨#[13, 10]⟩) (L := 45 :: (flatL a1.data.toList ++ [13, 10])) (by rw [ByteArray.size_append, ByteArray.size_append]; rfl) (by rw [← HT.out]; exact one_text 45 _) HZ.out HB2.out

set_option maxHeartbeats 8000000 in
set_option maxRecDepth 100000 in
theorem enc_3 (n : Nat) (a0 : Int) (a1 : ByteArray) (a2 : Int) (l : List S51) (A : Option Addr) (c : Nat) (w : World) (h : s51ok (n + 1) ⟨a0, a1, a2, l⟩) (hG : Vb.Num w) (hr : Kd.C k51 w A l.length l) (hc : l.length ≤ c) (q : a0 = 3)
    : Calls Tryd.prog 25 #[.agg #[.int .i64 a0, .string a1, .int .i64 a2, .slice A l.length c]] w fun e w' => ∃ A2 c2, e = .returned (.slice A2 (encL (n + 1) ⟨a0, a1, a2, l⟩).length c2) ∧ (encL (n + 1) ⟨a0, a1, a2, l⟩).length ≤ c2 ∧ Kd.C (Kd.int .u8) w' A2 (encL (n + 1) ⟨a0, a1, a2, l⟩).length (ints (encL (n + 1) ⟨a0, a1, a2, l⟩)) ∧ Below w.heap.size w w' := by
  obtain ⟨hr2, hs, hl, hz, hch⟩ := h
  dsimp only at hr2 hs hl hch
  have b1 : (a0 == 1) = false := beq_eq_false_iff_ne.mpr (by omega)
  have b2 : (a0 == 2) = false := beq_eq_false_iff_ne.mpr (by omega)
  have b3 : (a0 == 3) = true := beq_iff_eq.mpr q
  have b4 : (a0 == 4) = false := beq_eq_false_iff_ne.mpr (by omega)
  have b5 : (a0 == 5) = false := beq_eq_false_iff_ne.mpr (by omega)
  have b7 : (a0 == 7) = false := beq_eq_false_iff_ne.mpr (by omega)
  have b6 : (a0 == 6) = false := beq_eq_false_iff_ne.mpr (by omega)
  have eL : encL (n + 1) ⟨a0, a1, a2, l⟩ = 58 :: (Lib.itoa a2 ++ [13, 10]) := by unfold encL; subst q; simp
  rw [eL] at hz ⊢
  have HG := Aside0.mk hG
  have HS := Aside0.mk hs
  have HL := Aside0.mk hl
  have HZ := Aside0.mk hz
  have HR2 := Aside0.mk hr2
  have HCH := Aside0.mk hch
  have HR := Aside0.mk hr
  have HC := Aside0.mk hc
  clear hG hs hl hz hr2 hch hr hc eL q
  obtain ⟨T, hT⟩ : ∃ T, (Vb.txt a2 : ByteArray) = T := ⟨_, rfl⟩
  have hTs : T.size ≤ 3000 := by rw [← hT, txt_size]; have := itoa20 a2 HR2.out.1 HR2.out.2; omega
  have HT := Aside0.mk hT
  have c3b0 : (1 + T.size ≤ 9223372036854775807) = True := eq_true (by omega)
  have c3b1 : decide (1 + T.size ≤ 9223372036854775807) = true := decide_eq_true (by omega)
  have c3b2 : (9223372036854775807 < 1 + T.size) = False := eq_false (by omega)
  have c4b0 : (1 + T.size + 2 ≤ 9223372036854775807) = True := eq_true (by omega)
  have c4b1 : decide (1 + T.size + 2 ≤ 9223372036854775807) = true := decide_eq_true (by omega)
  have c4b2 : (9223372036854775807 < 1 + T.size + 2) = False := eq_false (by omega)
  clear hT hTs
  go_enter Tryd.func25, Tryd.ntmps25
  go_wp2_with (first | ((with_reducible refine gate_dst (N := 1) rfl ?_); refine box_event ?hg (N := 1) ?hd (cs := #[.int .i64 a0, .string a1, .int .i64 a2, .slice A l.length c]) (t := 51) ?hr ?_; (case hd => rfl); (case hg => rfl); (case hr => first | (go_simp; done) | (go_simp; rfl)); intro gb hg w1 hbox hb; have HB := Aside0.mk hb; have BK := Aside0.mk hbox; have GE := Aside0.mk (show w.heap.size ≤ gb by rw [hg]; exact Nat.le_refl _); clear hb hbox hg; have hz0 : w1.cell? ⟨gb, 0, none⟩ = some (.int .i64 a0) := (blk_cell BK.out 0).trans rfl; have hz1 : w1.cell? ⟨gb, 1, none⟩ = some (.string a1) := (blk_cell BK.out 1).trans rfl; have hz2 : w1.cell? ⟨gb, 2, none⟩ = some (.int .i64 a2) := (blk_cell BK.out 2).trans rfl; have hz3 : w1.cell? ⟨gb, 3, none⟩ = some (.slice A l.length c) := (blk_cell BK.out 3).trans rfl))
  refine (verb_Text.calls a2 T _ (Vb.Num.grown HG.out HB.out) (by unfold verb_Text.f; rw [if_pos HR2.out, HT.out])).mono ?_
  rintro e w2 ⟨rfl, hb2⟩
  have HB2 := Aside0.mk (below_then HB.out HB.out.size hb2)
  clear hb2
  go_wp2_with fail
  rw [Lib.run_convert_string_bytes _ _ _ _ _ Tryd.underlying9 Tryd.underlying23 Tryd.underlying5]
  go_wp2
  go_ret
  exact conv_done (s := ((⟨#[58]⟩ : ByteArray) ++ T) ++ ⟨#[13, 10]⟩) (L := 58 :: (Lib.itoa a2 ++ [13, 10])) (by rw [ByteArray.size_append, ByteArray.size_append]; rfl) (by rw [← HT.out]; exact one_text 58 _) HZ.out HB2.out

set_option maxHeartbeats 8000000 in
set_option maxRecDepth 100000 in
theorem enc_4 (n : Nat) (a0 : Int) (a1 : ByteArray) (a2 : Int) (l : List S51) (A : Option Addr) (c : Nat) (w : World) (h : s51ok (n + 1) ⟨a0, a1, a2, l⟩) (hG : Vb.Num w) (hr : Kd.C k51 w A l.length l) (hc : l.length ≤ c) (q : a0 = 4)
    : Calls Tryd.prog 25 #[.agg #[.int .i64 a0, .string a1, .int .i64 a2, .slice A l.length c]] w fun e w' => ∃ A2 c2, e = .returned (.slice A2 (encL (n + 1) ⟨a0, a1, a2, l⟩).length c2) ∧ (encL (n + 1) ⟨a0, a1, a2, l⟩).length ≤ c2 ∧ Kd.C (Kd.int .u8) w' A2 (encL (n + 1) ⟨a0, a1, a2, l⟩).length (ints (encL (n + 1) ⟨a0, a1, a2, l⟩)) ∧ Below w.heap.size w w' := by
  obtain ⟨hr2, hs, hl, hz, hch⟩ := h
  dsimp only at hr2 hs hl hch
  have b1 : (a0 == 1) = false := beq_eq_false_iff_ne.mpr (by omega)
  have b2 : (a0 == 2) = false := beq_eq_false_iff_ne.mpr (by omega)
  have b3 : (a0 == 3) = false := beq_eq_false_iff_ne.mpr (by omega)
  have b4 : (a0 == 4) = true := beq_iff_eq.mpr q
  have b5 : (a0 == 5) = false := beq_eq_false_iff_ne.mpr (by omega)
  have b7 : (a0 == 7) = false := beq_eq_false_iff_ne.mpr (by omega)
  have b6 : (a0 == 6) = false := beq_eq_false_iff_ne.mpr (by omega)
  have eL : encL (n + 1) ⟨a0, a1, a2, l⟩ = bulkL a1.data.toList := by unfold encL; subst q; simp
  rw [eL] at hz ⊢
  have HG := Aside0.mk hG
  have HS := Aside0.mk hs
  have HL := Aside0.mk hl
  have HZ := Aside0.mk hz
  have HR2 := Aside0.mk hr2
  have HCH := Aside0.mk hch
  have HR := Aside0.mk hr
  have HC := Aside0.mk hc
  clear hG hs hl hz hr2 hch hr hc eL q
  go_enter Tryd.func25, Tryd.ntmps25
  go_wp2_with (first | ((with_reducible refine gate_dst (N := 1) rfl ?_); refine box_event ?hg (N := 1) ?hd (cs := #[.int .i64 a0, .string a1, .int .i64 a2, .slice A l.length c]) (t := 51) ?hr ?_; (case hd => rfl); (case hg => rfl); (case hr => first | (go_simp; done) | (go_simp; rfl)); intro gb hg w1 hbox hb; have HB := Aside0.mk hb; have BK := Aside0.mk hbox; have GE := Aside0.mk (show w.heap.size ≤ gb by rw [hg]; exact Nat.le_refl _); clear hb hbox hg; have hz0 : w1.cell? ⟨gb, 0, none⟩ = some (.int .i64 a0) := (blk_cell BK.out 0).trans rfl; have hz1 : w1.cell? ⟨gb, 1, none⟩ = some (.string a1) := (blk_cell BK.out 1).trans rfl; have hz2 : w1.cell? ⟨gb, 2, none⟩ = some (.int .i64 a2) := (blk_cell BK.out 2).trans rfl; have hz3 : w1.cell? ⟨gb, 3, none⟩ = some (.slice A l.length c) := (blk_cell BK.out 3).trans rfl))
  refine (resp_bulk.calls a1 _ _ (Vb.Num.grown HG.out HB.out) (bulk_eq a1 (by have := HZ.out; omega))).mono ?_
  rintro e w2 ⟨rfl, hb2⟩
  have HB2 := Aside0.mk (below_then HB.out HB.out.size hb2)
  clear hb2
  go_wp2_with fail
  rw [Lib.run_convert_string_bytes _ _ _ _ _ Tryd.underlying9 Tryd.underlying23 Tryd.underlying5]
  go_wp2
  go_ret
  exact conv_done (L := bulkL a1.data.toList) (bsz _) rfl HZ.out HB2.out

set_option maxHeartbeats 8000000 in
set_option maxRecDepth 100000 in
theorem enc_5 (n : Nat) (a0 : Int) (a1 : ByteArray) (a2 : Int) (l : List S51) (A : Option Addr) (c : Nat) (w : World) (h : s51ok (n + 1) ⟨a0, a1, a2, l⟩) (hG : Vb.Num w) (hr : Kd.C k51 w A l.length l) (hc : l.length ≤ c) (q : a0 = 5)
    : Calls Tryd.prog 25 #[.agg #[.int .i64 a0, .string a1, .int .i64 a2, .slice A l.length c]] w fun e w' => ∃ A2 c2, e = .returned (.slice A2 (encL (n + 1) ⟨a0, a1, a2, l⟩).length c2) ∧ (encL (n + 1) ⟨a0, a1, a2, l⟩).length ≤ c2 ∧ Kd.C (Kd.int .u8) w' A2 (encL (n + 1) ⟨a0, a1, a2, l⟩).length (ints (encL (n + 1) ⟨a0, a1, a2, l⟩)) ∧ Below w.heap.size w w' := by
  obtain ⟨hr2, hs, hl, hz, hch⟩ := h
  dsimp only at hr2 hs hl hch
  have b1 : (a0 == 1) = false := beq_eq_false_iff_ne.mpr (by omega)
  have b2 : (a0 == 2) = false := beq_eq_false_iff_ne.mpr (by omega)
  have b3 : (a0 == 3) = false := beq_eq_false_iff_ne.mpr (by omega)
  have b4 : (a0 == 4) = false := beq_eq_false_iff_ne.mpr (by omega)
  have b5 : (a0 == 5) = true := beq_iff_eq.mpr q
  have b7 : (a0 == 7) = false := beq_eq_false_iff_ne.mpr (by omega)
  have b6 : (a0 == 6) = false := beq_eq_false_iff_ne.mpr (by omega)
  have eL : encL (n + 1) ⟨a0, a1, a2, l⟩ = [36, 45, 49, 13, 10] := by unfold encL; subst q; simp
  rw [eL] at hz ⊢
  have HG := Aside0.mk hG
  have HS := Aside0.mk hs
  have HL := Aside0.mk hl
  have HZ := Aside0.mk hz
  have HR2 := Aside0.mk hr2
  have HCH := Aside0.mk hch
  have HR := Aside0.mk hr
  have HC := Aside0.mk hc
  clear hG hs hl hz hr2 hch hr hc eL q
  go_enter Tryd.func25, Tryd.ntmps25
  go_wp2_with (first | ((with_reducible refine gate_dst (N := 1) rfl ?_); refine box_event ?hg (N := 1) ?hd (cs := #[.int .i64 a0, .string a1, .int .i64 a2, .slice A l.length c]) (t := 51) ?hr ?_; (case hd => rfl); (case hg => rfl); (case hr => first | (go_simp; done) | (go_simp; rfl)); intro gb hg w1 hbox hb; have HB := Aside0.mk hb; have BK := Aside0.mk hbox; have GE := Aside0.mk (show w.heap.size ≤ gb by rw [hg]; exact Nat.le_refl _); clear hb hbox hg; have hz0 : w1.cell? ⟨gb, 0, none⟩ = some (.int .i64 a0) := (blk_cell BK.out 0).trans rfl; have hz1 : w1.cell? ⟨gb, 1, none⟩ = some (.string a1) := (blk_cell BK.out 1).trans rfl; have hz2 : w1.cell? ⟨gb, 2, none⟩ = some (.int .i64 a2) := (blk_cell BK.out 2).trans rfl; have hz3 : w1.cell? ⟨gb, 3, none⟩ = some (.slice A l.length c) := (blk_cell BK.out 3).trans rfl))
  go_wp2_with fail
  rw [Lib.run_convert_bytes_const _ 23 5 _ _ _ Tryd.underlying23 Tryd.underlying5]
  go_wp2
  go_ret
  exact lit_done (L := [36, 45, 49, 13, 10]) (blk_new w1 _) rfl rfl (by decide) (below_alloc HB.out _)

set_option maxHeartbeats 8000000 in
set_option maxRecDepth 100000 in
theorem enc_7 (n : Nat) (a0 : Int) (a1 : ByteArray) (a2 : Int) (l : List S51) (A : Option Addr) (c : Nat) (w : World) (h : s51ok (n + 1) ⟨a0, a1, a2, l⟩) (hG : Vb.Num w) (hr : Kd.C k51 w A l.length l) (hc : l.length ≤ c) (q : a0 = 7)
    : Calls Tryd.prog 25 #[.agg #[.int .i64 a0, .string a1, .int .i64 a2, .slice A l.length c]] w fun e w' => ∃ A2 c2, e = .returned (.slice A2 (encL (n + 1) ⟨a0, a1, a2, l⟩).length c2) ∧ (encL (n + 1) ⟨a0, a1, a2, l⟩).length ≤ c2 ∧ Kd.C (Kd.int .u8) w' A2 (encL (n + 1) ⟨a0, a1, a2, l⟩).length (ints (encL (n + 1) ⟨a0, a1, a2, l⟩)) ∧ Below w.heap.size w w' := by
  obtain ⟨hr2, hs, hl, hz, hch⟩ := h
  dsimp only at hr2 hs hl hch
  have b1 : (a0 == 1) = false := beq_eq_false_iff_ne.mpr (by omega)
  have b2 : (a0 == 2) = false := beq_eq_false_iff_ne.mpr (by omega)
  have b3 : (a0 == 3) = false := beq_eq_false_iff_ne.mpr (by omega)
  have b4 : (a0 == 4) = false := beq_eq_false_iff_ne.mpr (by omega)
  have b5 : (a0 == 5) = false := beq_eq_false_iff_ne.mpr (by omega)
  have b7 : (a0 == 7) = true := beq_iff_eq.mpr q
  have b6 : (a0 == 6) = false := beq_eq_false_iff_ne.mpr (by omega)
  have eL : encL (n + 1) ⟨a0, a1, a2, l⟩ = [42, 45, 49, 13, 10] := by unfold encL; subst q; simp
  rw [eL] at hz ⊢
  have HG := Aside0.mk hG
  have HS := Aside0.mk hs
  have HL := Aside0.mk hl
  have HZ := Aside0.mk hz
  have HR2 := Aside0.mk hr2
  have HCH := Aside0.mk hch
  have HR := Aside0.mk hr
  have HC := Aside0.mk hc
  clear hG hs hl hz hr2 hch hr hc eL q
  go_enter Tryd.func25, Tryd.ntmps25
  go_wp2_with (first | ((with_reducible refine gate_dst (N := 1) rfl ?_); refine box_event ?hg (N := 1) ?hd (cs := #[.int .i64 a0, .string a1, .int .i64 a2, .slice A l.length c]) (t := 51) ?hr ?_; (case hd => rfl); (case hg => rfl); (case hr => first | (go_simp; done) | (go_simp; rfl)); intro gb hg w1 hbox hb; have HB := Aside0.mk hb; have BK := Aside0.mk hbox; have GE := Aside0.mk (show w.heap.size ≤ gb by rw [hg]; exact Nat.le_refl _); clear hb hbox hg; have hz0 : w1.cell? ⟨gb, 0, none⟩ = some (.int .i64 a0) := (blk_cell BK.out 0).trans rfl; have hz1 : w1.cell? ⟨gb, 1, none⟩ = some (.string a1) := (blk_cell BK.out 1).trans rfl; have hz2 : w1.cell? ⟨gb, 2, none⟩ = some (.int .i64 a2) := (blk_cell BK.out 2).trans rfl; have hz3 : w1.cell? ⟨gb, 3, none⟩ = some (.slice A l.length c) := (blk_cell BK.out 3).trans rfl))
  go_wp2_with fail
  rw [Lib.run_convert_bytes_const _ 23 5 _ _ _ Tryd.underlying23 Tryd.underlying5]
  go_wp2
  go_ret
  exact lit_done (L := [42, 45, 49, 13, 10]) (blk_new w1 _) rfl rfl (by decide) (below_alloc HB.out _)

set_option maxHeartbeats 8000000 in
set_option maxRecDepth 100000 in
theorem enc_6 (n : Nat) (a0 : Int) (a1 : ByteArray) (a2 : Int) (l : List S51) (A : Option Addr) (c : Nat) (w : World) (h : s51ok (n + 1) ⟨a0, a1, a2, l⟩) (hG : Vb.Num w) (hr : Kd.C k51 w A l.length l) (hc : l.length ≤ c) (q : a0 = 6)
    (ih : ∀ (r : S51) (A : Option Addr) (c : Nat) (w : World), s51ok n r → Vb.Num w → Kd.C k51 w A r.f3.length r.f3 → r.f3.length ≤ c → Calls Tryd.prog 25 #[.agg #[.int .i64 r.f0, .string r.f1, .int .i64 r.f2, .slice A r.f3.length c]] w fun e w' => ∃ A2 c2, e = .returned (.slice A2 (encL n r).length c2) ∧ (encL n r).length ≤ c2 ∧ Kd.C (Kd.int .u8) w' A2 (encL n r).length (ints (encL n r)) ∧ Below w.heap.size w w')
    : Calls Tryd.prog 25 #[.agg #[.int .i64 a0, .string a1, .int .i64 a2, .slice A l.length c]] w fun e w' => ∃ A2 c2, e = .returned (.slice A2 (encL (n + 1) ⟨a0, a1, a2, l⟩).length c2) ∧ (encL (n + 1) ⟨a0, a1, a2, l⟩).length ≤ c2 ∧ Kd.C (Kd.int .u8) w' A2 (encL (n + 1) ⟨a0, a1, a2, l⟩).length (ints (encL (n + 1) ⟨a0, a1, a2, l⟩)) ∧ Below w.heap.size w w' := by
  obtain ⟨hr2, hs, hl, hz, hch⟩ := h
  dsimp only at hr2 hs hl hch
  have b1 : (a0 == 1) = false := beq_eq_false_iff_ne.mpr (by omega)
  have b2 : (a0 == 2) = false := beq_eq_false_iff_ne.mpr (by omega)
  have b3 : (a0 == 3) = false := beq_eq_false_iff_ne.mpr (by omega)
  have b4 : (a0 == 4) = false := beq_eq_false_iff_ne.mpr (by omega)
  have b5 : (a0 == 5) = false := beq_eq_false_iff_ne.mpr (by omega)
  have b7 : (a0 == 7) = false := beq_eq_false_iff_ne.mpr (by omega)
  have b6 : (a0 == 6) = true := beq_iff_eq.mpr q
  have eL : encL (n + 1) ⟨a0, a1, a2, l⟩ = arrH l.length ++ l.flatMap (encL n) := by unfold encL; subst q; simp
  rw [eL] at hz ⊢
  have HG := Aside0.mk hG
  have HS := Aside0.mk hs
  have HL := Aside0.mk hl
  have HZ := Aside0.mk hz
  have HR2 := Aside0.mk hr2
  have HCH := Aside0.mk hch
  have HR := Aside0.mk hr
  have HC := Aside0.mk hc
  clear hG hs hl hz hr2 hch hr hc eL q
  obtain ⟨T, hT⟩ : ∃ T, (Vb.txt (l.length : Int) : ByteArray) = T := ⟨_, rfl⟩
  have hTs : T.size ≤ 3000 := by rw [← hT, txt_size]; have := itoa20 (l.length : Int) (by omega) (by have := HL.out; omega); omega
  have HT := Aside0.mk hT
  have c3b0 : (1 + T.size ≤ 9223372036854775807) = True := eq_true (by omega)
  have c3b1 : decide (1 + T.size ≤ 9223372036854775807) = true := decide_eq_true (by omega)
  have c3b2 : (9223372036854775807 < 1 + T.size) = False := eq_false (by omega)
  have c4b0 : (1 + T.size + 2 ≤ 9223372036854775807) = True := eq_true (by omega)
  have c4b1 : decide (1 + T.size + 2 ≤ 9223372036854775807) = true := decide_eq_true (by omega)
  have c4b2 : (9223372036854775807 < 1 + T.size + 2) = False := eq_false (by omega)
  clear hT hTs
  go_enter Tryd.func25, Tryd.ntmps25
  go_wp2_with (first | ((with_reducible refine gate_dst (N := 1) rfl ?_); refine box_event ?hg (N := 1) ?hd (cs := #[.int .i64 a0, .string a1, .int .i64 a2, .slice A l.length c]) (t := 51) ?hr ?_; (case hd => rfl); (case hg => rfl); (case hr => first | (go_simp; done) | (go_simp; rfl)); intro gb hg w1 hbox hb; have HB := Aside0.mk hb; have BK := Aside0.mk hbox; have GE := Aside0.mk (show w.heap.size ≤ gb by rw [hg]; exact Nat.le_refl _); clear hb hbox hg; have hz0 : w1.cell? ⟨gb, 0, none⟩ = some (.int .i64 a0) := (blk_cell BK.out 0).trans rfl; have hz1 : w1.cell? ⟨gb, 1, none⟩ = some (.string a1) := (blk_cell BK.out 1).trans rfl; have hz2 : w1.cell? ⟨gb, 2, none⟩ = some (.int .i64 a2) := (blk_cell BK.out 2).trans rfl; have hz3 : w1.cell? ⟨gb, 3, none⟩ = some (.slice A l.length c) := (blk_cell BK.out 3).trans rfl))
  refine (verb_Text.calls (l.length : Int) T _ (Vb.Num.grown HG.out HB.out) (by unfold verb_Text.f; rw [if_pos ⟨by omega, by have := HL.out; omega⟩, HT.out])).mono ?_
  rintro e w2 ⟨rfl, hb2⟩
  obtain ⟨S, hS⟩ : ∃ S, ((⟨#[42]⟩ : ByteArray) ++ T) ++ (⟨#[13, 10]⟩ : ByteArray) = S := ⟨_, rfl⟩
  have hS2 : S = ⟨(arrH l.length).toArray⟩ := by rw [← hS, ← HT.out]; exact one_text 42 _
  have hSz : S.size = (arrH l.length).length := by rw [hS2, bsz]
  have hv := Bv_conv w2 S (by rw [hSz]; have := HZ.out; rw [List.length_append] at this; omega)
  have hcv := Lib.run_convert_string_bytes (P := Tryd.prog) w2 9 23 5 S Tryd.underlying9 Tryd.underlying23 Tryd.underlying5
  obtain ⟨cap, hcap⟩ : ∃ cap, grownCap w2 S.size 0 5 = cap := ⟨_, rfl⟩
  obtain ⟨W0, hW0⟩ : ∃ W0, Lib.bytesWorld w2 5 S = W0 := ⟨_, rfl⟩
  have HB0 := Aside0.mk (show Below w1.heap.size w1 W0 by rw [← hW0]; exact below_then hb2 hb2.size (bytesWorld_below w2 S))
  obtain ⟨ad, had⟩ : ∃ ad : Addr, (⟨w2.heap.size, 0, none⟩ : Addr) = ad := ⟨_, rfl⟩
  have eS : S.data.toList = arrH l.length := by rw [hS2]
  rw [hcap, hW0, had, hSz] at hv hcv
  rw [eS] at hv
  obtain ⟨v3, hv3⟩ : ∃ v, Value.slice (some ad) (arrH l.length).length cap = v := ⟨_, rfl⟩
  rw [hv3] at hv hcv
  have HV := Aside0.mk (show Bv W0 w1.heap.size v3 (arrH l.length ++ (l.take 0).flatMap (encL n)) by rw [List.take_zero, List.flatMap_nil, List.append_nil]; exact Bv_lower hv hb2.size)
  have HGB := Aside0.mk (blk_lt BK.out)
  have hy := HB0.out.block gb HGB.out
  have hx3 : W0.cell? ⟨gb, 3, none⟩ = some (.slice A l.length c) := (blk_cell (hy.trans BK.out) 3).trans rfl
  clear hv had hW0 hcap hS2 hSz eS hv3 hb2 hy
  go_wp2_with fail
  clear hS
  go_loopg [3, 58] l.length (fun gn v3' v58 W' => ∃ i : Nat, v58 = .int .i64 (i : Int) ∧ Aside0 (i + gn = l.length) ∧ Aside0 (Bv W' w1.heap.size v3' (arrH l.length ++ (l.take i).flatMap (encL n))) ∧ Aside0 (Below w1.heap.size w1 W'))
  case atStart => exact ⟨0, rfl, ⟨by omega⟩, HV, HB0⟩
  case round =>
    clear HV HB0 hx3
    obtain ⟨i, rfl, HI, HV, HBr⟩ := hrel
    cases gk with
    | zero =>
      have x1 : decide (i < l.length) = false := decide_eq_false (by have := HI.out; omega)
      have x2 : (i < l.length) = False := eq_false (by have := HI.out; omega)
      have hv := HV.out
      rw [List.take_of_length_le (by have := HI.out; omega)] at hv
      obtain ⟨A2, c2, hA2⟩ := Bv_slice hv
      subst hA2
      have HV2 := Aside0.mk hv
      clear hv HV
      go_wp2_with fail
      go_ret
      exact Bv_done HV2.out (below_then HB.out HB.out.size HBr.out)
    | succ gk =>
      have hil : i < l.length := by have := HI.out; omega
      have x1 : decide (i < l.length) = true := decide_eq_true hil
      have x2 : (i < l.length) = True := eq_true hil
      have x3 : ((i : Int) < (l.length : Int)) = True := eq_true (by omega)
      have x4 : ((0 : Int) ≤ (i : Int)) = True := eq_true (by omega)
      obtain ⟨ad3, A3, c3, e3, hy0, hy1, hy2, hy3, hl3, hi3⟩ := at_T51 HR.out (i : Int) (by omega) (by omega)
      subst e3
      rw [rd_get l i hil, Int.toNat_natCast] at hy0 hy1 hy2 hy3
      rw [rd_get l i hil] at hl3 hi3
      have HBw := Aside0.mk (below_then HB.out HB.out.size HBr.out)
      replace hy0 := (HBw.out.cell (World.block_lt_of_cell? w _ hy0)).trans hy0
      replace hy1 := (HBw.out.cell (World.block_lt_of_cell? w _ hy1)).trans hy1
      replace hy2 := (HBw.out.cell (World.block_lt_of_cell? w _ hy2)).trans hy2
      replace hy3 := (HBw.out.cell (World.block_lt_of_cell? w _ hy3)).trans hy3
      have HCC := Aside0.mk (HCH.out l[i] (List.getElem_mem hil))
      have hpr : arrH l.length ++ (l.take i).flatMap (encL n) ++ encL n l[i] = arrH l.length ++ (l.take (i + 1)).flatMap (encL n) ∧ (arrH l.length ++ (l.take i).flatMap (encL n)).length + (encL n l[i]).length ≤ 300000 := enc_prefix n ⟨a0, a1, a2, l⟩ i hil HZ.out
      obtain ⟨x, hx⟩ : ∃ x, l[i] = x := ⟨_, rfl⟩
      rw [hx] at hy0 hy1 hy2 hy3 hl3 hi3 HCC hpr
      have HPR := Aside0.mk hpr
      have HL3 := Aside0.mk hl3
      have HI3 := Aside0.mk hi3
      have HIL := Aside0.mk hil
      clear hx hl3 hi3 hpr hil
      go_wp2_with fail
      refine (ih x A3 c3 (wr.alloc (Obj.cells #[.int .i64 x.f0, .string x.f1, .int .i64 x.f2, .slice A3 x.f3.length c3] 51)) HCC.out (Vb.Num.grown HG.out (below_alloc HBw.out _)) (Kd.C_below HI3.out (below_alloc HBw.out _)) HL3.out).mono ?_
      rintro e w4 ⟨A5, c5, rfl, hl5, hC5, hb5⟩
      have hbx : Below wr.heap.size wr w4 := below_then (below_alloc (Below.refl wr.heap.size wr) _) (below_alloc (Below.refl wr.heap.size wr) (Obj.cells #[.int .i64 x.f0, .string x.f1, .int .i64 x.f2, .slice A3 x.f3.length c3] 51)).size hb5
      have HV4 := Aside0.mk (Bv_below HV.out hbx)
      have HB4 := Aside0.mk (below_then HBr.out HBr.out.size hbx)
      have HC5 := Aside0.mk hC5
      clear hl5 hC5 hb5 hbx HV hy0 hy1 hy2 hy3
      go_wp2_with (first | ((with_reducible refine gate_builtin (b := .append) (xs := #[.tmp 62, .tmp 64]) rfl ?_); at_builtin; refine Bv_append_row w1.heap.size rfl (.tmp 62) (.tmp 64) rfl u3 _ (encL n x) A5 c5 rfl rfl HV4.out ?aR ?aB ?aL ?_; (case aR => exact HC5.out); (case aB => exact HB4.out.size); (case aL => have := HPR.out.2; omega); intro v6 w6 h6 hb6 hk6; rw [HPR.out.1] at h6; have HV6 := Aside0.mk h6; have HB6 := Aside0.mk (HB4.out.trans hb6); clear h6 hb6 hk6))
      go_roundg gk
      case rel => exact ⟨i + 1, by rw [wH (by omega) (by have := HIL.out; have := HL.out; omega)]; rfl, ⟨by have := HI.out; omega⟩, HV6, HB6⟩
      case measure => exact Nat.lt_succ_self _

set_option maxHeartbeats 8000000 in
set_option maxRecDepth 100000 in
theorem enc_0 (n : Nat) (a0 : Int) (a1 : ByteArray) (a2 : Int) (l : List S51) (A : Option Addr) (c : Nat) (w : World) (h : s51ok (n + 1) ⟨a0, a1, a2, l⟩) (hG : Vb.Num w) (hr : Kd.C k51 w A l.length l) (hc : l.length ≤ c) (q1 : ¬ a0 = 1) (q2 : ¬ a0 = 2) (q3 : ¬ a0 = 3) (q4 : ¬ a0 = 4) (q5 : ¬ a0 = 5) (q7 : ¬ a0 = 7) (q6 : ¬ a0 = 6)
    : Calls Tryd.prog 25 #[.agg #[.int .i64 a0, .string a1, .int .i64 a2, .slice A l.length c]] w fun e w' => ∃ A2 c2, e = .returned (.slice A2 (encL (n + 1) ⟨a0, a1, a2, l⟩).length c2) ∧ (encL (n + 1) ⟨a0, a1, a2, l⟩).length ≤ c2 ∧ Kd.C (Kd.int .u8) w' A2 (encL (n + 1) ⟨a0, a1, a2, l⟩).length (ints (encL (n + 1) ⟨a0, a1, a2, l⟩)) ∧ Below w.heap.size w w' := by
  obtain ⟨hr2, hs, hl, hz, hch⟩ := h
  dsimp only at hr2 hs hl hch
  have b1 : (a0 == 1) = false := beq_eq_false_iff_ne.mpr q1
  have b2 : (a0 == 2) = false := beq_eq_false_iff_ne.mpr q2
  have b3 : (a0 == 3) = false := beq_eq_false_iff_ne.mpr q3
  have b4 : (a0 == 4) = false := beq_eq_false_iff_ne.mpr q4
  have b5 : (a0 == 5) = false := beq_eq_false_iff_ne.mpr q5
  have b7 : (a0 == 7) = false := beq_eq_false_iff_ne.mpr q7
  have b6 : (a0 == 6) = false := beq_eq_false_iff_ne.mpr q6
  have eL : encL (n + 1) ⟨a0, a1, a2, l⟩ = [] := by unfold encL; simp [q1, q2, q3, q4, q5, q7, q6]
  rw [eL] at hz ⊢
  have HG := Aside0.mk hG
  have HS := Aside0.mk hs
  have HL := Aside0.mk hl
  have HZ := Aside0.mk hz
  have HR2 := Aside0.mk hr2
  have HCH := Aside0.mk hch
  have HR := Aside0.mk hr
  have HC := Aside0.mk hc
  clear hG hs hl hz hr2 hch hr hc eL q1 q2 q3 q4 q5 q7 q6
  go_enter Tryd.func25, Tryd.ntmps25
  go_wp2_with (first | ((with_reducible refine gate_dst (N := 1) rfl ?_); refine box_event ?hg (N := 1) ?hd (cs := #[.int .i64 a0, .string a1, .int .i64 a2, .slice A l.length c]) (t := 51) ?hr ?_; (case hd => rfl); (case hg => rfl); (case hr => first | (go_simp; done) | (go_simp; rfl)); intro gb hg w1 hbox hb; have HB := Aside0.mk hb; have BK := Aside0.mk hbox; have GE := Aside0.mk (show w.heap.size ≤ gb by rw [hg]; exact Nat.le_refl _); clear hb hbox hg; have hz0 : w1.cell? ⟨gb, 0, none⟩ = some (.int .i64 a0) := (blk_cell BK.out 0).trans rfl; have hz1 : w1.cell? ⟨gb, 1, none⟩ = some (.string a1) := (blk_cell BK.out 1).trans rfl; have hz2 : w1.cell? ⟨gb, 2, none⟩ = some (.int .i64 a2) := (blk_cell BK.out 2).trans rfl; have hz3 : w1.cell? ⟨gb, 3, none⟩ = some (.slice A l.length c) := (blk_cell BK.out 3).trans rfl))
  go_wp2_with fail
  go_ret
  exact nil_done HB.out

theorem resp_Encode.calls : ∀ (n : Nat) (r : S51) (A : Option Addr) (c : Nat) (w : World), s51ok n r → Vb.Num w → Kd.C k51 w A r.f3.length r.f3 → r.f3.length ≤ c → Calls Tryd.prog 25 #[.agg #[.int .i64 r.f0, .string r.f1, .int .i64 r.f2, .slice A r.f3.length c]] w fun e w' => ∃ A2 c2, e = .returned (.slice A2 (encL n r).length c2) ∧ (encL n r).length ≤ c2 ∧ Kd.C (Kd.int .u8) w' A2 (encL n r).length (ints (encL n r)) ∧ Below w.heap.size w w'
  | 0, r, A, c, w, h, _, _, _ => h.elim
  | n + 1, ⟨a0, a1, a2, l⟩, A, c, w, h, hG, hr, hc => by
    dsimp only at hr hc ⊢
    by_cases q1 : a0 = 1
    · exact enc_1 n a0 a1 a2 l A c w h hG hr hc q1
    by_cases q2 : a0 = 2
    · exact enc_2 n a0 a1 a2 l A c w h hG hr hc q2
    by_cases q3 : a0 = 3
    · exact enc_3 n a0 a1 a2 l A c w h hG hr hc q3
    by_cases q4 : a0 = 4
    · exact enc_4 n a0 a1 a2 l A c w h hG hr hc q4
    by_cases q5 : a0 = 5
    · exact enc_5 n a0 a1 a2 l A c w h hG hr hc q5
    by_cases q7 : a0 = 7
    · exact enc_7 n a0 a1 a2 l A c w h hG hr hc q7
    by_cases q6 : a0 = 6
    · exact enc_6 n a0 a1 a2 l A c w h hG hr hc q6 (resp_Encode.calls n)
    exact enc_0 n a0 a1 a2 l A c w h hG hr hc q1 q2 q3 q4 q5 q7 q6
end Go.Proofs.YtbfbmgkgaokecaaDoor.PS
