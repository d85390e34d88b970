/- verb.class: the bytes between brackets. -/
import Derived.Test.YtbfbmgkgaokecaaDoorPart
import Derived.Deep.LoopGhost
import Derived.RegionTactic
set_option linter.unusedVariables false
set_option linter.unusedSimpArgs false
namespace Go.Proofs.YtbfbmgkgaokecaaDoor.Vb
open Go.RowKit

/-- What is told of a byte, told too of those from lo on and below hi. -/
def fillTo (f : List Bool) (lo hi : Nat) : List Bool := (List.range 256).map fun x => f.getD x false || (decide (lo ≤ x) && decide (x < hi))
/-- The bytes between brackets, one by one, or from one to another one. -/
def cls : List UInt8 → List Bool → List Bool
  | [], f => f
  | [a], f => fillTo f a.toNat (a.toNat + 1)
  | [a, b], f => cls [b] (fillTo f a.toNat (a.toNat + 1))
  | a :: b :: c :: rest, f => if b = 45 then cls rest (fillTo f a.toNat (c.toNat + 1)) else cls (b :: c :: rest) (fillTo f a.toNat (a.toNat + 1))
def notTo (f : List Bool) (not : Bool) (k : Nat) : List Bool := (f.take k).map (fun b => b != not) ++ f.drop k
def classF (l : List UInt8) (not : Bool) : List Bool := (cls l f0).map fun b => b != not

theorem fillTo_length (f : List Bool) (lo hi : Nat) : (fillTo f lo hi).length = 256 := by rw [fillTo, List.length_map, List.length_range]
theorem fillTo_same {f : List Bool} (h : f.length = 256) (lo hi : Nat) (hh : hi ≤ lo) : fillTo f lo hi = f := by
  apply List.ext_getElem
  · rw [fillTo_length, h]
  · intro j h1 h2
    simp only [fillTo, List.getElem_map, List.getElem_range]
    have : ¬ (lo ≤ j ∧ j < hi) := by omega
    have e : (decide (lo ≤ j) && decide (j < hi)) = false := by simpa using this
    rw [e, Bool.or_false, List.getD_eq_getElem?_getD, List.getElem?_eq_getElem h2]; rfl
theorem fillTo_set {f : List Bool} (lo k : Nat) (h0 : lo ≤ k) (hk : k < 256) : (fillTo f lo k).set k true = fillTo f lo (k + 1) := by
  apply List.ext_getElem
  · rw [List.length_set, fillTo_length, fillTo_length]
  · intro j h1 h2
    rw [List.getElem_set]
    simp only [fillTo, List.getElem_map, List.getElem_range]
    by_cases e : k = j
    · subst e; simp [h0]
    · rw [if_neg e]
      congr 1
      have : (j < k + 1) ↔ (j < k) := by omega
      simp [this]
theorem cls_length : ∀ (l : List UInt8) (f : List Bool), f.length = 256 → (cls l f).length = 256
  | [], f, h => h
  | [a], f, h => fillTo_length ..
  | [a, b], f, h => cls_length [b] _ (fillTo_length ..)
  | a :: b :: c :: rest, f, h => by
    rw [cls]
    split
    · exact cls_length rest _ (fillTo_length ..)
    · exact cls_length (b :: c :: rest) _ (fillTo_length ..)
theorem classF_length (l : List UInt8) (not : Bool) : (classF l not).length = 256 := (List.length_map ..).trans (cls_length l f0 f0_length)
theorem cls_one (a : UInt8) (rest : List UInt8) (f : List Bool) (h : ∀ b c r, rest = b :: c :: r → b ≠ 45) : cls (a :: rest) f = cls rest (fillTo f a.toNat (a.toNat + 1)) := by
  match rest, h with
  | [], _ => rfl
  | [b], _ => rfl
  | b :: c :: r, h => rw [cls, if_neg (h b c r rfl)]
theorem cls_three (a c : UInt8) (rest : List UInt8) (f : List Bool) : cls (a :: 45 :: c :: rest) f = cls rest (fillTo f a.toNat (c.toNat + 1)) := by rw [cls, if_pos rfl]

theorem below_drewN' {B : Nat} {w w1 : World} (h : Below B w w1) (n : Nat) : Below B w (w1.drewN n) := ⟨h.os, h.tape, h.output, h.size, h.block⟩
theorem notTo_zero (f : List Bool) (nt : Bool) : notTo f nt 0 = f := by simp [notTo]
theorem notTo_length (f : List Bool) (nt : Bool) (k : Nat) : (notTo f nt k).length = f.length := by simp [notTo]; omega
theorem notTo_all {f : List Bool} (nt : Bool) {k : Nat} (h : f.length ≤ k) : notTo f nt k = f.map fun b => b != nt := by simp only [notTo, List.take_of_length_le h, List.drop_eq_nil_of_le h, List.append_nil]
theorem notTo_at {f : List Bool} (nt : Bool) {k : Nat} (h : k < f.length) : (notTo f nt k)[k]'(by rw [notTo_length]; exact h) = f[k] := by
  have hl : ((f.take k).map (fun b => b != nt)).length = k := by simp; omega
  have e : (notTo f nt k)[k]? = some f[k] := by
    simp only [notTo]
    rw [List.getElem?_append_right (by omega), hl, Nat.sub_self, List.getElem?_drop, Nat.add_zero, List.getElem?_eq_getElem h]
  rw [List.getElem?_eq_getElem (by rw [notTo_length]; exact h)] at e
  exact Option.some.inj e
theorem notTo_set {f : List Bool} (nt : Bool) {k : Nat} (h : k < f.length) : (notTo f nt k).set k (f[k] != nt) = notTo f nt (k + 1) := by
  have hl : ((f.take k).map (fun b => b != nt)).length = k := by simp; omega
  have e1 : f.drop k = f[k] :: f.drop (k + 1) := List.drop_eq_getElem_cons h
  have e2 : f.take (k + 1) = f.take k ++ [f[k]] := by rw [List.take_succ_eq_append_getElem h]
  unfold notTo
  rw [e1, e2, List.set_append_right _ _ (by omega), hl, Nat.sub_self, List.set_cons_zero]
  simp only [List.map_append, List.append_assoc, List.map_cons, List.map_nil, List.cons_append, List.nil_append]
theorem drop_byte {s : ByteArray} {k : Nat} {A : UInt8} (h : k < s.size) (hA : s[k] = A) : s.data.toList.drop k = A :: s.data.toList.drop (k + 1) := by
  have hl : k < s.data.toList.length := by rw [Array.length_toList]; exact h
  rw [List.drop_eq_getElem_cons hl]
  congr 1
theorem wrap_u8 (A : UInt8) : wrap64 (A.toNat : Int) = (A.toNat : Int) := by have := A.toNat_lt; unfold wrap64; omega

set_option maxRecDepth 20000 in
set_option maxHeartbeats 800000 in
theorem class_calls (s : ByteArray) (hs : s.size ≤ 140737488351232) (nt : Bool) (w : World) :
    Calls Tryd.prog 98 #[.string s, .bool nt] w fun e w' => e = .returned (.agg (partC 2 (classF s.data.toList nt))) ∧ Below w.heap.size w w' := by
  obtain ⟨w1, hst, e1, e0, hb, hz⟩ := two107 w 2
  have hlen : s.data.toList.length = s.size := Array.length_toList
  have HS := Lib.hid hz
  clear hz
  have HL := Lib.hid hlen
  clear hlen
  go_enter Tryd.func98, Tryd.ntmps98
  go_wp2
  clear hst
  go_loopw [6] (fun i wr => ∃ (k : Nat) (f : List Bool), k ≤ s.size ∧ i = .int .i64 k ∧ f.length = 256 ∧ ERow wr (w.heap.size + 1) 107 (partC 2 f) ∧ ERow wr w.heap.size 107 (partC 0 f0) ∧ Below w.heap.size w wr ∧ Hid (cls (s.data.toList.drop k) f = cls s.data.toList f0)) (fun i _ => s.size - (intOf i).toNat)
  case atStart => exact ⟨0, f0, Nat.zero_le _, rfl, f0_length, e1, e0, hb, rfl⟩
  case round =>
    obtain ⟨k, f, hk, rfl, hf, r1, r0, rb, HC⟩ := hrel
    have HF := Lib.hid hf
    clear e1 e0 hb hf
    by_cases hlt : k < s.size
    · obtain ⟨A, hA⟩ : ∃ A, s[k] = A := ⟨_, rfl⟩
      have hdr : s.data.toList.drop k = A :: s.data.toList.drop (k + 1) := drop_byte hlt hA
      have hwA := wrap_u8 A
      have hA1 : (A.toNat : Int) ≤ 255 := by have := A.toNat_lt; omega
      by_cases h2 : k + 2 < s.size
      · obtain ⟨B, hB⟩ : ∃ B, s[k + 1] = B := ⟨_, rfl⟩
        have hdr1 := drop_byte (show k + 1 < s.size by omega) hB
        obtain ⟨C, hC⟩ : ∃ C, s[k + 2] = C := ⟨_, rfl⟩
        have hdr2 := drop_byte h2 hC
        by_cases h45 : ((B.toNat : Int) == 45) = true
        · have hwC := wrap_u8 C
          have hC1 : (C.toNat : Int) ≤ 255 := by have := C.toNat_lt; omega
          have HD : Hid (cls (s.data.toList.drop (k + 3)) (fillTo f A.toNat (C.toNat + 1)) = cls s.data.toList f0) := by
            unfold Hid
            rw [← HC.out, hdr, hdr1, hdr2, show B = 45 from UInt8.toNat_inj.1 (by have := eq_of_beq h45; simp; omega), cls_three]
          clear hdr hdr1 hdr2
          go_wp2
          go_quiet (fail)
          go_wp2
          go_loopw [9] (fun v wq => ∃ c : Nat, A.toNat ≤ c ∧ (c ≤ C.toNat + 1 ∨ c = A.toNat) ∧ v = .int .i64 c ∧ ERow wq (w.heap.size + 1) 107 (partC 2 (fillTo f A.toNat c)) ∧ ERow wq w.heap.size 107 (partC 0 f0) ∧ Below w.heap.size w wq) (fun v _ => 257 - (intOf v).toNat)
          case atStart => exact ⟨A.toNat, Nat.le_refl _, .inr rfl, rfl, by rw [fillTo_same HF.out _ _ (Nat.le_refl _)]; exact r1, r0, below_drewN' rb _⟩
          case round =>
            obtain ⟨c, hc0, hc9, rfl, q1, q0, qb⟩ := hrel
            clear r1 r0 rb
            by_cases hcl : c ≤ C.toNat
            · have hcell := (q1.cell (1 + c)).trans (partC_at 2 c (by rw [fillTo_length]; omega))
              generalize (fillTo f A.toNat c)[c]'(by rw [fillTo_length]; omega) = old at hcell
              have hfr := q1.frozen (1 + c)
              go_wp2
              go_roundw
              case rel =>
                refine ⟨c + 1, by omega, .inl (by omega), by go_num, ?_, q0.far (by simp) _, qb.setCell (by simp) _⟩
                have := q1.set (1 + c) (.bool true)
                rw [partC_set, fillTo_set _ _ hc0 (by omega)] at this
                exact this
              case measure => simp [intOf]; omega
            · go_wp2
              go_roundw
              case rel =>
                refine ⟨k + 3, fillTo f A.toNat c, by omega, by go_num, fillTo_length .., q1, q0, qb, ?_⟩
                have e : fillTo f A.toNat c = fillTo f A.toNat (C.toNat + 1) := by
                  rcases hc9 with h | h
                  · rw [show c = C.toNat + 1 by omega]
                  · rw [h, fillTo_same HF.out _ _ (Nat.le_refl _), fillTo_same HF.out _ _ (by omega)]
                rw [e]
                exact HD
              case measure => simp [intOf]; omega
        · have h45 : ((B.toNat : Int) == 45) = false := by simpa using h45
          have HD : Hid (cls (s.data.toList.drop (k + 1)) (fillTo f A.toNat (A.toNat + 1)) = cls s.data.toList f0) := by
            unfold Hid
            rw [← HC.out, hdr, cls_one]
            intro b c r e
            rw [hdr1] at e
            injection e with e1 _
            rintro rfl
            subst e1
            simp at h45
          clear hdr hdr1 hdr2 hC
          go_wp2
          go_quiet (fail)
          go_wp2
          go_loopw [9] (fun v wq => ∃ c : Nat, A.toNat ≤ c ∧ (c ≤ A.toNat + 1 ∨ c = A.toNat) ∧ v = .int .i64 c ∧ ERow wq (w.heap.size + 1) 107 (partC 2 (fillTo f A.toNat c)) ∧ ERow wq w.heap.size 107 (partC 0 f0) ∧ Below w.heap.size w wq) (fun v _ => 257 - (intOf v).toNat)
          case atStart => exact ⟨A.toNat, Nat.le_refl _, .inr rfl, rfl, by rw [fillTo_same HF.out _ _ (Nat.le_refl _)]; exact r1, r0, below_drewN' rb _⟩
          case round =>
            obtain ⟨c, hc0, hc9, rfl, q1, q0, qb⟩ := hrel
            clear r1 r0 rb
            by_cases hcl : c ≤ A.toNat
            · have hcell := (q1.cell (1 + c)).trans (partC_at 2 c (by rw [fillTo_length]; omega))
              generalize (fillTo f A.toNat c)[c]'(by rw [fillTo_length]; omega) = old at hcell
              have hfr := q1.frozen (1 + c)
              go_wp2
              go_roundw
              case rel =>
                refine ⟨c + 1, by omega, .inl (by omega), by go_num, ?_, q0.far (by simp) _, qb.setCell (by simp) _⟩
                have := q1.set (1 + c) (.bool true)
                rw [partC_set, fillTo_set _ _ hc0 (by omega)] at this
                exact this
              case measure => simp [intOf]; omega
            · go_wp2
              go_roundw
              case rel =>
                refine ⟨k + 1, fillTo f A.toNat c, by omega, by go_num, fillTo_length .., q1, q0, qb, ?_⟩
                have e : fillTo f A.toNat c = fillTo f A.toNat (A.toNat + 1) := by
                  rcases hc9 with h | h
                  · rw [show c = A.toNat + 1 by omega]
                  · rw [h, fillTo_same HF.out _ _ (Nat.le_refl _), fillTo_same HF.out _ _ (by omega)]
                rw [e]
                exact HD
              case measure => simp [intOf]; omega
      · have HD : Hid (cls (s.data.toList.drop (k + 1)) (fillTo f A.toNat (A.toNat + 1)) = cls s.data.toList f0) := by
          unfold Hid
          rw [← HC.out, hdr, cls_one]
          intro b c r e
          have := congrArg List.length e
          rw [List.length_drop, HL.out] at this
          simp at this
          omega
        clear hdr
        go_wp2
        go_quiet (fail)
        go_wp2
        go_loopw [9] (fun v wq => ∃ c : Nat, A.toNat ≤ c ∧ (c ≤ A.toNat + 1 ∨ c = A.toNat) ∧ v = .int .i64 c ∧ ERow wq (w.heap.size + 1) 107 (partC 2 (fillTo f A.toNat c)) ∧ ERow wq w.heap.size 107 (partC 0 f0) ∧ Below w.heap.size w wq) (fun v _ => 257 - (intOf v).toNat)
        case atStart => exact ⟨A.toNat, Nat.le_refl _, .inr rfl, rfl, by rw [fillTo_same HF.out _ _ (Nat.le_refl _)]; exact r1, r0, below_drewN' rb _⟩
        case round =>
          obtain ⟨c, hc0, hc9, rfl, q1, q0, qb⟩ := hrel
          clear r1 r0 rb
          by_cases hcl : c ≤ A.toNat
          · have hcell := (q1.cell (1 + c)).trans (partC_at 2 c (by rw [fillTo_length]; omega))
            generalize (fillTo f A.toNat c)[c]'(by rw [fillTo_length]; omega) = old at hcell
            have hfr := q1.frozen (1 + c)
            go_wp2
            go_roundw
            case rel =>
              refine ⟨c + 1, by omega, .inl (by omega), by go_num, ?_, q0.far (by simp) _, qb.setCell (by simp) _⟩
              have := q1.set (1 + c) (.bool true)
              rw [partC_set, fillTo_set _ _ hc0 (by omega)] at this
              exact this
            case measure => simp [intOf]; omega
          · go_wp2
            go_roundw
            case rel =>
              refine ⟨k + 1, fillTo f A.toNat c, by omega, by go_num, fillTo_length .., q1, q0, qb, ?_⟩
              have e : fillTo f A.toNat c = fillTo f A.toNat (A.toNat + 1) := by
                rcases hc9 with h | h
                · rw [show c = A.toNat + 1 by omega]
                · rw [h, fillTo_same HF.out _ _ (Nat.le_refl _), fillTo_same HF.out _ _ (by omega)]
              rw [e]
              exact HD
            case measure => simp [intOf]; omega
    · have hk9 : k = s.size := by omega
      have HC2 : Hid (f = cls s.data.toList f0) := by
        unfold Hid
        rw [← HC.out, List.drop_eq_nil_of_le (by rw [HL.out]; omega)]; rfl
      clear hk9 HC
      go_wp2
      go_loopw [53] (fun v wq => ∃ c : Nat, c ≤ 256 ∧ v = .int .i64 c ∧ ERow wq (w.heap.size + 1) 107 (partC 2 (notTo f nt c)) ∧ ERow wq w.heap.size 107 (partC 0 f0) ∧ Below w.heap.size w wq) (fun v _ => 256 - (intOf v).toNat)
      case atStart => exact ⟨0, Nat.zero_le _, rfl, by rw [notTo_zero]; exact r1, r0, rb⟩
      case round =>
        obtain ⟨c, hc9, rfl, q1, q0, qb⟩ := hrel
        clear r1 r0 rb
        by_cases hcl : c < 256
        · have hcf : c < f.length := by have := HF.out; omega
          have hcell := (q1.cell (1 + c)).trans (partC_at 2 c (by rw [notTo_length]; exact hcf))
          rw [notTo_at nt hcf] at hcell
          have hfr := q1.frozen (1 + c)
          generalize hold : f[c] = old at hcell
          have HO := Lib.hid hold
          clear hold
          go_wp2
          go_roundw
          case rel =>
            refine ⟨c + 1, by omega, by go_num, ?_, q0.far (by simp) _, qb.setCell (by simp) _⟩
            have := q1.set (1 + c) (.bool (old != nt))
            rw [partC_set] at this
            have e := notTo_set nt hcf
            rw [HO.out] at e
            rw [e] at this
            exact this
          case measure => simp [intOf]; omega
        · have hfin : notTo f nt c = classF s.data.toList nt := by
            rw [notTo_all nt (by have := HF.out; omega), HC2.out]; rfl
          rw [hfin] at q1
          have hsz2 := partC_size 2 (classF_length s.data.toList nt)
          have hszi : (Tryd.prog.info? 107).map (·.size) = some (partC 2 (classF s.data.toList nt)).size := by rw [size107, hsz2]
          obtain ⟨w3, hst2, e4, hb3⟩ := tell107 _ w.heap.size (w.heap.size + 1) w.heap.size 2 (classF s.data.toList nt) 0 (classF_length _ _) q0 (Nat.le_refl _) qb
          have HZ := Lib.hid hszi
          have H4 := Lib.hid e4
          have Q1 := Lib.hid q1
          clear hfin hszi e4 q1 q0 qb
          go_upto_region 18 with (fail)
          go_wp2_with (refine wpList_load_row rfl 107 (.tmp 5) rfl (w.heap.size + 1) rfl 107 (partC 2 (classF s.data.toList nt)) (0, 0) _ Q1.out Tryd.underlying107 rfl HZ.out ?_)
          exact ret_part (g := w.heap.size) (k := 2) (f := classF s.data.toList nt) rfl rfl rfl (classF_length _ _) H4.out ⟨rfl, hb3⟩
end Go.Proofs.YtbfbmgkgaokecaaDoor.Vb
