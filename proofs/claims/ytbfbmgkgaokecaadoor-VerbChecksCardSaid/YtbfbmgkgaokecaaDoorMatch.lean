/- verb.Match: whether a pattern describes a text. -/
import Derived.Test.YtbfbmgkgaokecaaDoorParts
import Derived.Laws.MakeOwn
set_option linter.unusedVariables false
set_option linter.unusedSimpArgs false
namespace Go.Proofs.YtbfbmgkgaokecaaDoor.Vb
open Go.RowKit

/-- Does what came by now, and a part, describe the first i bytes? -/
def nxAt (k : Int) (f : List Bool) (s : List UInt8) (at_ : List Bool) : Nat → Bool
  | 0 => k == 0 && at_.getD 0 false
  | i + 1 => if k = 0 then at_.getD (i + 1) false || nxAt k f s at_ i else if k = 1 then at_.getD i false else f.getD (s.getD i 0).toNat false && at_.getD i false
def nxTo (k : Int) (f : List Bool) (s : List UInt8) (at_ : List Bool) (i : Nat) : List Bool := (List.range (s.length + 1)).map fun j => decide (j < i) && nxAt k f s at_ j
def nxL (s : List UInt8) (at_ : List Bool) (p : Int × List Bool) : List Bool := (List.range (s.length + 1)).map (nxAt p.1 p.2 s at_)
def atStart (n : Nat) : List Bool := true :: List.replicate n false
def atBehind (s : List UInt8) (pl : List (Int × List Bool)) : List Bool := pl.foldl (nxL s) (atStart s.length)
def matchS (p s : ByteArray) : Bool := (atBehind s.data.toList (partsL p.data.toList)).getD s.size false

def b2 (b : Bool) : Int := if b then 1 else 0
def atC (l : List Bool) : Array Value := (l.map fun b => Value.int .i64 (b2 b)).toArray
theorem atC_at {l : List Bool} {j : Nat} (h : j < l.length) : (atC l)[j]? = some (.int .i64 (b2 l[j])) := by simp [atC, h]
theorem atC_set (l : List Bool) (j : Nat) (b : Bool) : (atC l).setIfInBounds j (.int .i64 (b2 b)) = atC (l.set j b) := by simp [atC, List.map_set]
theorem made_atC (n : Nat) : madeCells #[.int .i64 0] n = atC (List.replicate n false) := by
  apply Array.ext_getElem?
  intro j
  simp [madeCells, atC, b2, Array.getElem?_map, Array.getElem?_range, List.getElem?_replicate]
  by_cases h : j < n <;> simp [h, Nat.mod_one]
theorem nxTo_length (k : Int) (f : List Bool) (s : List UInt8) (at_ : List Bool) (i : Nat) : (nxTo k f s at_ i).length = s.length + 1 := by simp [nxTo]
theorem nxL_length (s : List UInt8) (at_ : List Bool) (p : Int × List Bool) : (nxL s at_ p).length = s.length + 1 := by simp [nxL]
theorem nxTo_zero (k : Int) (f : List Bool) (s : List UInt8) (at_ : List Bool) : nxTo k f s at_ 0 = List.replicate (s.length + 1) false := by
  apply List.ext_getElem
  · simp [nxTo]
  · intro j h1 h2; simp [nxTo]
theorem nxTo_all (k : Int) (f : List Bool) (s : List UInt8) (at_ : List Bool) (i : Nat) (h : s.length + 1 ≤ i) : nxTo k f s at_ i = nxL s at_ (k, f) := by
  apply List.ext_getElem
  · simp [nxTo, nxL]
  · intro j h1 h2
    rw [nxTo_length] at h1
    have : j < i := by omega
    simp [nxTo, nxL, this]
theorem nxTo_set (k : Int) (f : List Bool) (s : List UInt8) (at_ : List Bool) (i : Nat) (h : i < s.length + 1) : (nxTo k f s at_ i).set i (nxAt k f s at_ i) = nxTo k f s at_ (i + 1) := by
  apply List.ext_getElem
  · simp [nxTo]
  · intro j h1 h2
    rw [List.getElem_set]
    simp only [nxTo, List.getElem_map, List.getElem_range]
    by_cases e : i = j
    · subst e; simp
    · rw [if_neg e]
      have : (j < i + 1) ↔ (j < i) := by omega
      simp [this]
theorem nxTo_keep (k : Int) (f : List Bool) (s : List UInt8) (at_ : List Bool) (i : Nat) (h : i < s.length + 1) (hn : nxAt k f s at_ i = false) : nxTo k f s at_ (i + 1) = nxTo k f s at_ i := by
  rw [← nxTo_set k f s at_ i h, hn]
  apply List.ext_getElem
  · simp [nxTo]
  · intro j h1 h2
    rw [List.getElem_set]
    by_cases e : i = j
    · subst e; simp [nxTo]
    · rw [if_neg e]
theorem nxTo_back (k : Int) (f : List Bool) (s : List UInt8) (at_ : List Bool) (i : Nat) (h : i < s.length) : (nxTo k f s at_ (i + 1))[i]'(by rw [nxTo_length]; omega) = nxAt k f s at_ i := by simp [nxTo]
theorem partsL_kind : ∀ (n : Nat) (l : List UInt8), l.length ≤ n → ∀ p ∈ partsL l, (p.1 = 0 ∨ p.1 = 1 ∨ p.1 = 2) ∧ p.2.length = 256
  | _, [], _, p, h => by simp [partsL] at h
  | 0, c :: r, hl, p, h => by simp at hl
  | n + 1, c :: r, hl, p, h => by
    rw [partsL_cons] at h
    rcases List.mem_cons.1 h with rfl | h
    · refine ⟨?_, onePart_length _ _⟩
      unfold onePart
      split
      · simp
      · split
        · simp
        · split
          · simp
          · split
            · split <;> simp
            · simp
    · refine partsL_kind n _ ?_ p h
      have := onePart_pos c r
      simp only [List.length_drop, List.length_cons] at hl ⊢
      omega
theorem info3 : (Tryd.prog.info? 3).map (fun i => (i.zero, i.size, i.bytes)) = some (some (.int .i64 0), 1, 8) := by kernel_rfl

theorem nx0_yes {f : List Bool} {s : List UInt8} {at_ : List Bool} : ∀ {i : Nat}, at_.getD i false = true → nxAt 0 f s at_ i = true
  | 0, h => by rw [nxAt, h]; rfl
  | i + 1, h => by rw [nxAt, if_pos rfl, h]; rfl
theorem nx0_zero {f : List Bool} {s : List UInt8} {at_ : List Bool} (h : at_.getD 0 false = false) : nxAt 0 f s at_ 0 = false := by rw [nxAt, h]; rfl
theorem nx0_on {f : List Bool} {s : List UInt8} {at_ : List Bool} {m : Nat} (h : nxAt 0 f s at_ m = true) : nxAt 0 f s at_ (m + 1) = true := by rw [nxAt, if_pos rfl, h, Bool.or_true]
theorem nx0_no {f : List Bool} {s : List UInt8} {at_ : List Bool} {m : Nat} (h1 : at_.getD (m + 1) false = false) (h : nxAt 0 f s at_ m = false) : nxAt 0 f s at_ (m + 1) = false := by rw [nxAt, if_pos rfl, h, h1]; rfl
theorem nx1_at {f : List Bool} {s : List UInt8} {at_ : List Bool} {m : Nat} {b : Bool} (h : at_.getD m false = b) : nxAt 1 f s at_ (m + 1) = b := by rw [nxAt, if_neg (by decide), if_pos rfl, h]
theorem nx2_at {f : List Bool} {s : List UInt8} {at_ : List Bool} {m : Nat} {b : Bool} {c : UInt8} (h : at_.getD m false = b) (hs : s.getD m 0 = c) (hf : f.getD c.toNat false = true) : nxAt 2 f s at_ (m + 1) = b := by rw [nxAt, if_neg (by decide), if_neg (by decide), hs, hf, h]; rfl
theorem nx2_no {f : List Bool} {s : List UInt8} {at_ : List Bool} {m : Nat} {c : UInt8} (hs : s.getD m 0 = c) (hf : f.getD c.toNat false = false) : nxAt 2 f s at_ (m + 1) = false := by rw [nxAt, if_neg (by decide), if_neg (by decide), hs, hf]; rfl
theorem pcells_at : ∀ (pl : List (Int × List Bool)) (_ : ∀ q ∈ pl, q.2.length = 256) (j : Nat) (hj : j < pl.length) (i : Nat) (u : Value), (partL pl[j].1 pl[j].2)[i]? = some u → (pcells pl)[j * 257 + i]? = some u
  | q :: r, h, 0, _, i, u, hu => by
    have hi : i < (partL q.1 q.2).length := (List.getElem?_eq_some_iff.1 hu).1
    simp only [pcells, List.flatMap_cons, Nat.zero_mul, Nat.zero_add]
    rw [List.getElem?_append_left hi]; exact hu
  | q :: r, h, j + 1, hj, i, u, hu => by
    have hq := h q (by simp)
    have hl : (partL q.1 q.2).length = 257 := by simp [partL, hq]
    simp only [pcells, List.flatMap_cons]
    rw [List.getElem?_append_right (by omega), hl, show (j + 1) * 257 + i - 257 = j * 257 + i by omega]
    exact pcells_at r (fun q hq => h q (by simp [hq])) j (by simpa using hj) i u hu
theorem partsL_le : ∀ (n : Nat) (l : List UInt8), l.length ≤ n → (partsL l).length ≤ l.length
  | _, [], _ => by simp [partsL]
  | 0, c :: r, hl => by simp at hl
  | n + 1, c :: r, hl => by
    rw [partsL_cons, List.length_cons]
    have h1 := onePart_pos c r
    have h2 := onePart_le c r
    have := partsL_le n ((c :: r).drop (onePart c r).2) (by simp only [List.length_drop, List.length_cons] at hl ⊢; omega)
    simp only [List.length_drop, List.length_cons] at this h2 ⊢
    omega
theorem own_slice {w : World} {base : Nat} {e : TypeId} {size n : Nat} {v : Value} {xs : List Value} (h : w.ownsRow base e size v n xs) :
    ∃ A c, v = .slice A n c ∧ (0 < n → ∃ g, A = some ⟨g, 0, none⟩ ∧ base ≤ g ∧ g < w.heap.size ∧ n ≤ c ∧ ∀ j u, xs[j]? = some u → w.cell? ⟨g, j, none⟩ = some u) := by
  obtain ⟨hl, ⟨rfl, rfl⟩ | ⟨g, cap, cur, rfl, hg, hb, hnc, hcm, hcs, hx⟩⟩ := h
  · exact ⟨none, 0, rfl, fun h => absurd h (by omega)⟩
  · refine ⟨_, cap, rfl, fun _ => ⟨g, rfl, hg, (Array.getElem?_eq_some_iff.1 hb).1, hnc, ?_⟩⟩
    intro j u hu
    simp only [World.cell?, hb]
    rw [← hx] at hu
    rw [List.getElem?_take] at hu
    split at hu
    · simpa using hu
    · cases hu

set_option maxRecDepth 20000 in
set_option maxHeartbeats 4000000 in
theorem Match_calls (p s : ByteArray) (hp : p.size ≤ 100000) (hs : s.size ≤ 100000) (w : World) :
    Calls Tryd.prog 37 #[.string p, .string s] w fun e w' => e = .returned (.bool (matchS p s)) ∧ Below w.heap.size w w' := by
  have hlen : s.data.toList.length = s.size := Array.length_toList
  have HL := Lib.hid hlen
  clear hlen
  obtain ⟨i3, hi, hz0, hz1, hz2⟩ := info_parts info3
  have hmk : ∀ W : World, (Instr.makeSlice 102 (.int .i64 ((s.size : Int) + 1)) (.int .i64 ((s.size : Int) + 1))).run Tryd.prog W = .ok (.slice (some ⟨W.heap.size, 0, none⟩) (s.size + 1) (s.size + 1)) (W.alloc (.cells (atC (List.replicate (s.size + 1) false)) 3)) := by
    intro W
    have := run_make (P := Tryd.prog) W 102 3 i3 _ Tryd.underlying102 hi hz0 .i64 .i64 ((s.size : Int) + 1) ((s.size : Int) + 1) (by omega) (by omega) (by rw [hz2]; omega) (by omega)
    rw [hz1, Nat.mul_one, show ((s.size : Int) + 1).toNat = s.size + 1 by omega, show (Value.int IntKind.i64 0).cells = #[.int .i64 0] from rfl, made_atC] at this
    exact this
  have hsetup : ERow ((w.alloc (.cells (atC (List.replicate (s.size + 1) false)) 3)).setCell ⟨w.heap.size, 0, none⟩ (.int .i64 1)) w.heap.size 3 (atC (atStart s.size)) := by
    have := (ERow.new w (atC (List.replicate (s.size + 1) false)) 3).set 0 (.int .i64 (b2 true))
    rw [atC_set] at this
    exact this
  clear hi hz0 hz1 hz2
  have c00 : (atC (List.replicate (s.size + 1) false))[0]? = some (.int .i64 0) := atC_at (by simp)
  generalize hA : atC (List.replicate (s.size + 1) false) = A0 at *
  have HA := Lib.hid hA
  clear hA
  have HS := Lib.hid hsetup
  clear hsetup
  go_enter Tryd.func37, Tryd.ntmps37
  have hA1 : A0.setIfInBounds 0 (.int .i64 1) = atC (atStart s.size) := by
    have := atC_set (List.replicate (s.size + 1) false) 0 true
    rw [HA.out] at this; exact this
  have HS1 := ERow.new w (A0.setIfInBounds 0 (.int .i64 1)) 3
  have hb1 : Below w.heap.size w (w.alloc (.cells (A0.setIfInBounds 0 (.int .i64 1)) 3)) := (Below.refl _ _).alloc (Nat.le_refl _) _
  rw [hA1] at HS1
  have HA1 := Lib.hid hA1
  clear hA1
  go_wp2_with fail
  rw [HA1.out]
  have hz1 := alloc_size w (.cells (atC (atStart s.size)) 3)
  rw [HA1.out] at hb1
  generalize w.alloc (.cells (atC (atStart s.size)) 3) = w1 at *
  refine (parts_calls p hp _).mono ?_
  rintro e wB ⟨v, rfl, hown, hbB⟩
  have hR0 := HS1.grown hbB
  have hbW := Below.comp' hb1 hbB (by omega)
  have hwB : w.heap.size < wB.heap.size := by have := hbB.size; omega
  have hnpl : (partsL p.data.toList).length ≤ p.size := by
    have := partsL_le p.data.toList.length _ (Nat.le_refl _)
    rw [show p.data.toList.length = p.size from Array.length_toList] at this
    exact this
  have hkind := partsL_kind p.data.toList.length _ (Nat.le_refl _)
  have hfin : matchS p s = (atBehind s.data.toList (partsL p.data.toList)).getD s.size false := rfl
  have HFIN := Lib.hid hfin
  clear hfin
  obtain ⟨A, c, rfl, hcells⟩ := own_slice hown
  clear hown hz1 HS1 hb1 hbB
  generalize partsL p.data.toList = pl at *
  go_wp2_with fail
  go_loopw [5, 19] (fun av iv wr => ∃ (j : Nat) (g : Nat) (at_ : List Bool), j ≤ pl.length ∧ iv = .int .i64 j ∧ av = .slice (some ⟨g, 0, none⟩) (s.size + 1) (s.size + 1) ∧ ERow wr g 3 (atC at_) ∧ w.heap.size ≤ g ∧ Hid (at_ = atBehind s.data.toList (pl.take j)) ∧ at_.length = s.size + 1 ∧ Below wB.heap.size wB wr) (fun _ iv _ => pl.length - (intOf iv).toNat)
  case atStart => exact ⟨0, w.heap.size, _, Nat.zero_le _, rfl, rfl, hR0, Nat.le_refl _, by unfold Hid; rw [List.take_zero]; simp [atBehind, HL.out], by simp [atStart], Below.refl _ _⟩
  case round =>
    obtain ⟨j, g, at_, hj, rfl, rfl, hR, hg, HAT, hal, hb⟩ := hrel
    have HALL := Lib.hid hal
    clear hR0 hal
    by_cases hlt : j < pl.length
    · obtain ⟨gv, rfl, hgv1, hgv2, hpc, hcs⟩ := hcells (by omega)
      have HCS := Lib.hid hcs
      have hkf := hkind pl[j] (List.getElem_mem hlt)
      have HK := Lib.hid hkind
      clear hcs hcells hkind
      obtain ⟨⟨k, f⟩, hpj⟩ : ∃ q, q = pl[j] := ⟨_, rfl⟩
      rw [← hpj] at hkf
      obtain ⟨hk012, hfl⟩ := hkf
      have HFL := Lib.hid (show f.length = 256 from hfl)
      have hk012 : k = 0 ∨ k = 1 ∨ k = 2 := hk012
      have HPJ := Lib.hid hpj
      clear hpj hfl
      obtain ⟨PC, hPC⟩ : ∃ PC, PC = partC k f := ⟨_, rfl⟩
      have HPS : Hid (PC.size = 257) := by unfold Hid; rw [hPC]; exact partC_size _ HFL.out
      have HSEG : Hid (∀ i u, PC.toList[i]? = some u → wr.cell? ((⟨gv, j * 257, none⟩ : Addr).add i) = some u) := by
        intro i u hu
        have ha : (⟨gv, j * 257, none⟩ : Addr).add i = ⟨gv, j * 257 + i, none⟩ := by unfold Addr.add; split <;> simp_all
        rw [ha, hb.cell (by simpa using hgv2)]
        refine HCS.out _ _ ?_
        rw [hPC] at hu
        exact pcells_at pl (fun q hq => (HK.out q hq).2) j hlt i u (by rw [← HPJ.out]; simpa [partC] using hu)
      have HPC := Lib.hid hPC
      clear hPC
      obtain ⟨wo, rfl⟩ : ∃ wo : World, wo = wr := ⟨_, rfl⟩
      obtain ⟨w3, hst3, r3, b3, z3⟩ := fresh107 wo k f HFL.out
      rw [← HPC.out] at hst3
      have hps := HPS.out
      have HZ3 := Lib.hid z3
      have b4 : Below wo.heap.size wo (w3.alloc (.cells A0 3)) := b3.alloc b3.size _
      have e0 : ERow (w3.alloc (.cells A0 3)) w3.heap.size 3 (atC (nxTo k f s.data.toList at_ 0)) := by
        rw [nxTo_zero, HL.out, HA.out]; exact ERow.new w3 A0 3
      have e1 : ERow (w3.alloc (.cells A0 3)) wo.heap.size 107 (partC k f) := r3.alloc _
      have e2 : ERow (w3.alloc (.cells A0 3)) g 3 (atC at_) := (hR.grown b3).alloc _
      have hgl := hR.lt
      clear r3 b3 z3 hR
      go_upto_region 5 with (fail)
      go_wp2_with (refine wpList_load_seg rfl 107 (.tmp 21) rfl ⟨gv, j * 257, none⟩ PC _ rfl HSEG.out Tryd.underlying107 rfl (by rw [size107, HPS.out]) ?_)
      clear hst3 hps hmk
      have hgn : w3.heap.size = wo.heap.size + 1 := HZ3.out
      have HGN : wo.heap.size < w3.heap.size := by omega
      clear hgn
      go_loopw [29] (fun iv wq => ∃ i : Nat, i ≤ s.size + 1 ∧ iv = .int .i64 i ∧ ERow wq w3.heap.size 3 (atC (nxTo k f s.data.toList at_ i)) ∧ ERow wq wo.heap.size 107 (partC k f) ∧ ERow wq g 3 (atC at_) ∧ Below wo.heap.size wo wq) (fun iv _ => s.size + 1 - (intOf iv).toNat)
      case atStart => exact ⟨0, Nat.zero_le _, rfl, e0, e1, e2, b4⟩
      case round =>
        obtain ⟨i, hi, rfl, q0, q1, q2, qb⟩ := hrel
        clear e0 e1 e2 b4
        by_cases hil : i < s.size + 1
        · have hck := (q1.cell 0).trans (partC_kind k f)
          have hfr := q0.frozen i
          have hci := (q2.cell i).trans (atC_at (by rw [HALL.out]; omega))
          have hcn := (q0.cell i).trans (atC_at (by rw [nxTo_length, HL.out]; omega))
          rcases hk012 with rfl | rfl | rfl
          · generalize hai : at_[i]'(by rw [HALL.out]; omega) = a at hci
            have HAI : Hid (at_.getD i false = a) := by unfold Hid; rw [← hai, List.getD_eq_getElem?_getD, List.getElem?_eq_getElem (by rw [HALL.out]; omega)]; rfl
            clear hai
            cases a with
            | true =>
              have hci : wr.cell? ⟨g, i, none⟩ = some (.int .i64 1) := hci
              go_wp2
              go_roundw
              case rel =>
                refine ⟨i + 1, by omega, by go_num, ?_, q1.far (by show _ ≠ w3.heap.size; omega) _, q2.far (by show _ ≠ w3.heap.size; omega) _, qb.setCell (by show _ ≤ w3.heap.size; omega) _⟩
                have := q0.set (i) (.int .i64 (b2 true))
                have e2 := nxTo_set 0 f s.data.toList at_ (i) (by rw [HL.out]; omega)
                rw [nx0_yes HAI.out] at e2
                rw [atC_set, e2] at this
                exact this
              case measure => first | (simp [intOf]; done) | (simp [intOf]; omega)
            | false =>
              have hci : wr.cell? ⟨g, i, none⟩ = some (.int .i64 0) := hci
              cases i with
              | zero =>
                go_wp2
                go_roundw
                case rel => exact ⟨0 + 1, by omega, by go_num, by rw [nxTo_keep _ _ _ _ _ (by rw [HL.out]; omega) (nx0_zero HAI.out)]; exact q0, q1, q2, qb⟩
                case measure => first | (simp [intOf]; done) | (simp [intOf]; omega)
              | succ m =>
                have hcm := (q0.cell m).trans (atC_at (by rw [nxTo_length, HL.out]; omega))
                rw [nxTo_back 0 f s.data.toList at_ m (by rw [HL.out]; omega)] at hcm
                generalize hbm : nxAt 0 f s.data.toList at_ m = b at hcm
                have HBM := Lib.hid hbm
                clear hbm
                cases b with
                | true =>
                  have hcm : wr.cell? ⟨w3.heap.size, m, none⟩ = some (.int .i64 1) := hcm
                  go_wp2
                  go_roundw
                  case rel =>
                    refine ⟨m + 1 + 1, by omega, by go_num, ?_, q1.far (by show _ ≠ w3.heap.size; omega) _, q2.far (by show _ ≠ w3.heap.size; omega) _, qb.setCell (by show _ ≤ w3.heap.size; omega) _⟩
                    have := q0.set (m + 1) (.int .i64 (b2 true))
                    have e2 := nxTo_set 0 f s.data.toList at_ (m + 1) (by rw [HL.out]; omega)
                    rw [nx0_on HBM.out] at e2
                    rw [atC_set, e2] at this
                    exact this
                  case measure => first | (simp [intOf]; done) | (simp [intOf]; omega)
                | false =>
                  have hcm : wr.cell? ⟨w3.heap.size, m, none⟩ = some (.int .i64 0) := hcm
                  go_wp2
                  go_roundw
                  case rel => exact ⟨(m + 1) + 1, by omega, by go_num, by rw [nxTo_keep _ _ _ _ _ (by rw [HL.out]; omega) (nx0_no HAI.out HBM.out)]; exact q0, q1, q2, qb⟩
                  case measure => first | (simp [intOf]; done) | (simp [intOf]; omega)
          · cases i with
            | zero =>
              go_wp2
              go_roundw
              case rel => exact ⟨0 + 1, by omega, by go_num, by rw [nxTo_keep _ _ _ _ _ (by rw [HL.out]; omega) (rfl)]; exact q0, q1, q2, qb⟩
              case measure => first | (simp [intOf]; done) | (simp [intOf]; omega)
            | succ m =>
              have hcm := (q2.cell m).trans (atC_at (by rw [HALL.out]; omega))
              generalize hbm : at_[m]'(by rw [HALL.out]; omega) = b at hcm
              have HBM : Hid (at_.getD m false = b) := by unfold Hid; rw [← hbm, List.getD_eq_getElem?_getD, List.getElem?_eq_getElem (by rw [HALL.out]; omega)]; rfl
              clear hbm
              go_wp2
              go_roundw
              case rel =>
                refine ⟨m + 1 + 1, by omega, by go_num, ?_, q1.far (by show _ ≠ w3.heap.size; omega) _, q2.far (by show _ ≠ w3.heap.size; omega) _, qb.setCell (by show _ ≤ w3.heap.size; omega) _⟩
                have := q0.set (m + 1) (.int .i64 (b2 b))
                have e2 := nxTo_set 1 f s.data.toList at_ (m + 1) (by rw [HL.out]; omega)
                rw [nx1_at HBM.out] at e2
                rw [atC_set, e2] at this
                exact this
              case measure => first | (simp [intOf]; done) | (simp [intOf]; omega)
          · cases i with
            | zero =>
              go_wp2
              go_roundw
              case rel => exact ⟨0 + 1, by omega, by go_num, by rw [nxTo_keep _ _ _ _ _ (by rw [HL.out]; omega) (rfl)]; exact q0, q1, q2, qb⟩
              case measure => first | (simp [intOf]; done) | (simp [intOf]; omega)
            | succ m =>
              have hcm := (q2.cell m).trans (atC_at (by rw [HALL.out]; omega))
              generalize hbm : at_[m]'(by rw [HALL.out]; omega) = b at hcm
              have HBM : Hid (at_.getD m false = b) := by unfold Hid; rw [← hbm, List.getD_eq_getElem?_getD, List.getElem?_eq_getElem (by rw [HALL.out]; omega)]; rfl
              clear hbm
              obtain ⟨sb, hsb⟩ : ∃ sb, s[m]'(by omega) = sb := ⟨_, rfl⟩
              have HSB : Hid (s.data.toList.getD m 0 = sb) := by
                unfold Hid
                rw [List.getD_eq_getElem?_getD, List.getElem?_eq_getElem (by rw [HL.out]; omega)]
                exact hsb
              have hsl := sb.toNat_lt
              have hfb := (q1.cell (1 + sb.toNat)).trans (partC_at 2 sb.toNat (by rw [HFL.out]; omega))
              generalize hfv : f[sb.toNat]'(by rw [HFL.out]; omega) = fb at hfb
              have HFB : Hid (f.getD sb.toNat false = fb) := by unfold Hid; rw [← hfv, List.getD_eq_getElem?_getD, List.getElem?_eq_getElem (by rw [HFL.out]; omega)]; rfl
              clear hfv
              cases fb with
              | true =>
                go_wp2
                go_roundw
                case rel =>
                  refine ⟨m + 1 + 1, by omega, by go_num, ?_, q1.far (by show _ ≠ w3.heap.size; omega) _, q2.far (by show _ ≠ w3.heap.size; omega) _, qb.setCell (by show _ ≤ w3.heap.size; omega) _⟩
                  have := q0.set (m + 1) (.int .i64 (b2 b))
                  have e2 := nxTo_set 2 f s.data.toList at_ (m + 1) (by rw [HL.out]; omega)
                  rw [nx2_at HBM.out HSB.out HFB.out] at e2
                  rw [atC_set, e2] at this
                  exact this
                case measure => first | (simp [intOf]; done) | (simp [intOf]; omega)
              | false =>
                go_wp2
                go_roundw
                case rel => exact ⟨(m + 1) + 1, by omega, by go_num, by rw [nxTo_keep _ _ _ _ _ (by rw [HL.out]; omega) (nx2_no HSB.out HFB.out)]; exact q0, q1, q2, qb⟩
                case measure => first | (simp [intOf]; done) | (simp [intOf]; omega)
        · have hie : i = s.size + 1 := by omega
          rw [nxTo_all _ _ _ _ _ (by rw [HL.out]; omega)] at q0
          have HAT2 : Hid (nxL s.data.toList at_ (k, f) = atBehind s.data.toList (pl.take (j + 1))) := by
            unfold Hid
            rw [List.take_succ_eq_append_getElem hlt, atBehind, List.foldl_append, ← atBehind, ← HAT.out, ← HPJ.out]; rfl
          clear hie
          go_wp2
          go_roundw
          case rel => exact ⟨j + 1, w3.heap.size, _, by omega, by go_num, rfl, q0, by have := hb.size; omega, HAT2, by rw [nxL_length, HL.out], Below.comp' hb qb hb.size⟩
          case measure => simp [intOf]; omega
    · have hcz := (hR.cell s.size).trans (atC_at (by rw [HALL.out]; omega))
      generalize hxx : at_[s.size]'(by rw [HALL.out]; omega) = x at hcz
      have HX : Hid (matchS p s = x) := by
        unfold Hid
        rw [HFIN.out, ← hxx, ← List.take_of_length_le (show pl.length ≤ j by omega), ← HAT.out, List.getD_eq_getElem?_getD, List.getElem?_eq_getElem (by rw [HALL.out]; omega)]; rfl
      clear hxx
      cases x with
      | true =>
        have hcz : wr.cell? ⟨g, s.size, none⟩ = some (.int .i64 1) := hcz
        go_wp2
        go_ret
        exact ⟨by rw [HX.out]; rfl, Below.comp' hbW hb (by omega)⟩
      | false =>
        have hcz : wr.cell? ⟨g, s.size, none⟩ = some (.int .i64 0) := hcz
        go_wp2
        go_ret
        exact ⟨by rw [HX.out]; rfl, Below.comp' hbW hb (by omega)⟩
end Go.Proofs.YtbfbmgkgaokecaaDoor.Vb
