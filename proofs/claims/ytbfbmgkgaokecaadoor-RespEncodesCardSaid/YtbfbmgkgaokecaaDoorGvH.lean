/- Layer 19: flat 54, by hand. -/
import Derived.Test.YtbfbmgkgaokecaaDoorGvR
namespace Go.Proofs.YtbfbmgkgaokecaaDoor.PS
open Go.RowKit Go.Proofs.YtbfbmgkgaokecaaDoorW.PrintWords Go.Proofs.YtbfbmgkgaokecaaDoorW.PrintLast Go.Proofs.YtbfbmgkgaokecaaDoorW.PrintMore
set_option linter.unusedVariables false
set_option linter.unusedSimpArgs false

theorem Bv_get {W : World} {base g n cap : Nat} {l : List UInt8} (h : Bv W base (.slice (some ⟨g, 0, none⟩) n cap) l) (j : Nat) (hj : j < l.length) : W.cell? ⟨g, j, none⟩ = some (.int .u8 (l[j].toNat : Int)) ∧ W.frozen? ⟨g, j, none⟩ = false := by
  obtain ⟨g', cap', cur, fr, hv, hb, hg, hfr, hl, hm, hs, ht⟩ := h
  injection hv with h1 h2 h3
  injection h1 with h1
  injection h1 with h1
  subst h1; subst h3
  refine ⟨?_, Bv_frozen hg hfr j (by omega)⟩
  rw [cell_of_row W g j cur 5 fr hg, ← Array.getElem?_toList]
  have e : (cur.toList.take l.length)[j]? = (bcells l)[j]? := by rw [ht]
  rw [List.getElem?_take_of_lt hj] at e
  rw [e]
  unfold bcells
  rw [List.getElem?_map, List.getElem?_eq_getElem hj]
  rfl
theorem Bv_set {W : World} {base g n cap : Nat} {l : List UInt8} (h : Bv W base (.slice (some ⟨g, 0, none⟩) n cap) l) (j : Nat) (hj : j < l.length) (x : UInt8) : Bv (W.setCell ⟨g, j, none⟩ (.int .u8 (x.toNat : Int))) base (.slice (some ⟨g, 0, none⟩) n cap) (l.set j x) := by
  obtain ⟨g', cap', cur, fr, hv, hb, hg, hfr, hl, hm, hs, ht⟩ := h
  have hv' := hv
  injection hv with h1 h2 h3
  injection h1 with h1
  injection h1 with h1
  subst h1; subst h3
  refine ⟨g, cap, cur.setIfInBounds j (.int .u8 (x.toNat : Int)), fr, by rw [List.length_set]; exact hv', hb, by simp [World.setCell, Array.getElem?_modify, hg], by rw [Array.size_setIfInBounds]; exact hfr, by rw [List.length_set]; exact hl, hm, by rw [Array.size_setIfInBounds]; exact hs, ?_⟩
  rw [Array.toList_setIfInBounds, List.length_set, List.take_set, ht]
  unfold bcells
  rw [List.map_set]
def flat1 (c : UInt8) : UInt8 := if c = 13 ∨ c = 10 then 32 else c
def flatL (l : List UInt8) : List UInt8 := l.map flat1
theorem flat_at (l : List UInt8) (i : Nat) (h : i < l.length) : (flatL (l.take i) ++ l.drop i)[i]'(by unfold flatL; rw [List.length_append, List.length_map, List.length_take, List.length_drop]; omega) = l[i] := by
  have hl : (flatL (l.take i)).length = i := by unfold flatL; rw [List.length_map, List.length_take]; omega
  rw [List.getElem_append_right (by omega)]
  simp only [hl, Nat.sub_self, List.getElem_drop, Nat.add_zero]
theorem flat_step (l : List UInt8) (i : Nat) (h : i < l.length) : (flatL (l.take i) ++ l.drop i).set i (flat1 l[i]) = flatL (l.take (i + 1)) ++ l.drop (i + 1) := by
  have hl : (flatL (l.take i)).length = i := by unfold flatL; rw [List.length_map, List.length_take]; omega
  rw [List.set_append_right _ _ (by omega), hl, Nat.sub_self, List.drop_eq_getElem_cons h, List.set_cons_zero, List.take_succ_eq_append_getElem h]
  unfold flatL
  rw [List.map_append, List.append_assoc]
  rfl
theorem flat_same (l : List UInt8) (i : Nat) (h : i < l.length) (hc : ¬ (l[i] = 13 ∨ l[i] = 10)) : flatL (l.take i) ++ l.drop i = flatL (l.take (i + 1)) ++ l.drop (i + 1) := by
  rw [List.drop_eq_getElem_cons h, List.take_succ_eq_append_getElem h]
  unfold flatL
  rw [List.map_append, List.append_assoc]
  have : flat1 l[i] = l[i] := by unfold flat1; rw [if_neg hc]
  simp [this]
theorem wH {x : Int} (h0 : -1000000000000000 ≤ x) (h1 : x ≤ 1000000000000000) : wrap64 x = x := by unfold wrap64; omega
theorem conv_str {W : World} {base : Nat} {A : Option Addr} {n c : Nat} {l : List UInt8} (h : Bv W base (.slice A n c) l) : Sem.run Tryd.prog (convert 23 9 (Value.slice A n c)) W = Result.ok (Value.string ⟨l.toArray⟩) W := by
  obtain ⟨rfl, _, h3⟩ := Bv_C h
  have := Kd.C_string (P := Tryd.prog) (A := A) (c := c) Tryd.underlying23 Tryd.underlying5 Tryd.underlying9 h3
  rw [str_ints] at this
  exact this
theorem flat_len (l : List UInt8) (i : Nat) : (flatL (l.take i) ++ l.drop i).length = l.length := by
  unfold flatL
  rw [List.length_append, List.length_map, List.length_take, List.length_drop]
  omega
set_option maxHeartbeats 8000000 in
set_option maxRecDepth 100000 in
theorem flat_calls (t : ByteArray) (ht : t.size ≤ 1000000) (w : World) : Calls Tryd.prog 54 #[.string t] w fun e w' => e = .returned (.string ⟨(flatL t.data.toList).toArray⟩) ∧ Below w.heap.size w w' := by
  have hlen : t.data.toList.length = t.size := Array.length_toList
  have hv := Bv_conv w t (by omega)
  have hcv := Lib.run_convert_string_bytes (P := Tryd.prog) w 9 23 5 t Tryd.underlying9 Tryd.underlying23 Tryd.underlying5
  obtain ⟨l, hl⟩ : ∃ l, t.data.toList = l := ⟨_, rfl⟩
  rw [hl] at hv hlen ⊢
  obtain ⟨cap, hcap⟩ : ∃ cap, grownCap w t.size 0 5 = cap := ⟨_, rfl⟩
  obtain ⟨W0, hW0⟩ : ∃ W0, Lib.bytesWorld w 5 t = W0 := ⟨_, rfl⟩
  have HB := Aside0.mk (show Below w.heap.size w W0 by rw [← hW0]; exact bytesWorld_below w t)
  obtain ⟨ad, had⟩ : ∃ ad : Addr, (⟨w.heap.size, 0, none⟩ : Addr) = ad := ⟨_, rfl⟩
  rw [hcap, hW0, had, ← hlen] at hv hcv
  have HV := Aside0.mk (show Bv W0 w.heap.size (.slice (some ad) l.length cap) (flatL (l.take 0) ++ l.drop 0) by simpa [flatL] using hv)
  have HAD := Aside0.mk had
  have HLM := Aside0.mk (show l.length ≤ 1000000 by omega)
  clear ht hl hlen hcap hW0 hv had
  go_enter Tryd.func54, Tryd.ntmps54
  go_wp2_with fail
  go_loopg [10] l.length (fun gn v10 W' => ∃ i : Nat, v10 = .int .i64 (i : Int) ∧ Aside0 (i + gn = l.length) ∧ Aside0 (Bv W' w.heap.size (.slice (some ad) l.length cap) (flatL (l.take i) ++ l.drop i)) ∧ Aside0 (Below w.heap.size w W'))
  case atStart => exact ⟨0, rfl, ⟨by omega⟩, HV, HB⟩
  case round =>
    clear HV HB
    obtain ⟨i, rfl, HI, HV, HB⟩ := hrel
    cases gk with
    | zero =>
      have x1 : decide (i < l.length) = false := decide_eq_false (by have := HI.out; omega)
      have x2 : (i < l.length) = False := eq_false (by have := HI.out; omega)
      have hc := conv_str HV.out
      rw [List.take_of_length_le (by have := HI.out; omega), List.drop_of_length_le (by have := HI.out; omega), List.append_nil] at hc
      go_wp2_with fail
      go_ret
      exact ⟨rfl, HB.out⟩
    | succ gk =>
      have hil : i < l.length := by have := HI.out; omega
      have x1 : decide (i < l.length) = true := decide_eq_true hil
      have x2 : (i < l.length) = True := eq_true hil
      have x3 : ((i : Int) < (l.length : Int)) = True := eq_true (by omega)
      have x4 : ((0 : Int) ≤ (i : Int)) = True := eq_true (by omega)
      have hadd : ad.add i = ⟨w.heap.size, i, none⟩ := by rw [← HAD.out, add_at, Nat.zero_add]
      have hv := HV.out
      rw [← HAD.out] at hv
      obtain ⟨hcell, hfz⟩ := Bv_get hv i (by rw [flat_len]; exact hil)
      rw [flat_at l i hil, ← hadd] at hcell
      rw [← hadd] at hfz
      have hset := Bv_set hv i (by rw [flat_len]; exact hil) 32
      rw [← hadd, HAD.out] at hset
      have hst := flat_step l i hil
      have hsm := flat_same l i hil
      obtain ⟨ch, hch⟩ : ∃ ch, l[i] = ch := ⟨_, rfl⟩
      rw [hch] at hcell hst hsm
      have hw : wrap64 ((i : Int) + 1) = ((i + 1 : Nat) : Int) := by rw [wH (by omega) (by have := HLM.out; omega)]; rfl
      have HW := Aside0.mk hw
      have HIL := Aside0.mk hil
      have HBK := Aside0.mk hadd
      clear hv hadd hw hch hil
      by_cases q13 : ch = 13
      · subst q13
        rw [show flat1 13 = 32 from rfl] at hst
        rw [hst] at hset
        have HSET := Aside0.mk hset
        replace hcell : wr.cell? (ad.add i) = some (.int .u8 13) := hcell
        clear hset hst hsm
        go_wp2_with fail
        rw [HW.out]
        go_roundg gk
        case rel => exact ⟨i + 1, rfl, ⟨by have := HI.out; omega⟩, HSET, ⟨by rw [HBK.out]; exact below_set HB.out (Nat.le_refl _)⟩⟩
        case measure => exact Nat.lt_succ_self _
      · by_cases q10 : ch = 10
        · subst q10
          rw [show flat1 10 = 32 from rfl] at hst
          rw [hst] at hset
          have HSET := Aside0.mk hset
          replace hcell : wr.cell? (ad.add i) = some (.int .u8 10) := hcell
          clear hset hst hsm
          go_wp2_with fail
          rw [HW.out]
          go_roundg gk
          case rel => exact ⟨i + 1, rfl, ⟨by have := HI.out; omega⟩, HSET, ⟨by rw [HBK.out]; exact below_set HB.out (Nat.le_refl _)⟩⟩
          case measure => exact Nat.lt_succ_self _
        · have HSM := Aside0.mk (hsm (by simp [q13, q10]))
          have b13 : ((ch.toNat : Int) == 13) = false := beq_eq_false_iff_ne.mpr (fun hh => q13 (UInt8.toNat_inj.1 (show ch.toNat = 13 by omega)))
          have b10 : ((ch.toNat : Int) == 10) = false := beq_eq_false_iff_ne.mpr (fun hh => q10 (UInt8.toNat_inj.1 (show ch.toNat = 10 by omega)))
          rw [HSM.out] at HV
          clear hset hst hsm q13 q10
          go_wp2_with fail
          rw [HW.out]
          go_roundg gk
          case rel => exact ⟨i + 1, rfl, ⟨by have := HI.out; omega⟩, HV, HB⟩
          case measure => exact Nat.lt_succ_self _
end Go.Proofs.YtbfbmgkgaokecaaDoor.PS
