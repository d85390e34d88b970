/- Layer 19: a reply that came in. -/
import Derived.Test.YtbfbmgkgaokecaaDoorFrameR2
import Derived.Test.YtbfbmgkgaokecaaDoorPlE
import Derived.Deep.Slices
set_option linter.unusedVariables false
set_option linter.unusedSimpArgs false
namespace Go.Proofs.YtbfbmgkgaokecaaDoor.PS
open Go.ChangeShapes Go.WideShapes Go.ChangeAt Go.RowKit
open Go.Proofs.YtbfbmgkgaokecaaDoorW.PrintWords (Kd)

instance : Inhabited S51 := ⟨z51⟩
theorem cells51 : Tryd.prog.cellsOf 51 = 4 := by kernel_rfl
theorem cells3 : Tryd.prog.cellsOf 3 = 1 := by kernel_rfl
theorem cells9 : Tryd.prog.cellsOf 9 = 1 := by kernel_rfl
theorem cells49 : Tryd.prog.cellsOf 49 = 1 := by kernel_rfl
theorem i64_wf {n : Int} (h : (Lit.int .i64 n).wf = true) : -9223372036854775808 ≤ n ∧ n ≤ 9223372036854775807 := by
  rw [Lit.wf, Bool.and_eq_true, decide_eq_true_eq, decide_eq_true_eq] at h
  exact h
/-- What stands in the cells of a reply that came in. -/
def ReplyAt (W : World) (r : S51) (cs : List Value) : Prop :=
  (∃ (A : Option Addr) (c : Nat), cs = [.int .i64 r.f0, .string r.f1, .int .i64 r.f2, .slice A r.f3.length c] ∧ r.f3.length ≤ c ∧ Kd.C k51 W A r.f3.length r.f3) ∧ ∀ n, wf51 n r
set_option maxRecDepth 100000 in
theorem reply_cells {H : Type} {enc : TypeId × Value → H} {W : World} {base : Nat} {spare : Nat → Bool} {held : Bool} : ∀ (fuel : Nat) (cs : List Value) (x : DataW H × List MemPlace), DataW.trod enc Tryd.prog W base spare held fuel 51 cs = some x → ∃ r : S51, ReplyAt W r cs := by
  intro fuel
  induction fuel using Nat.strongRecOn with
  | _ fuel ih =>
  intro cs x h
  obtain ⟨xs, n, rfl, _, hl, hxl, hf⟩ := DataW.trod_struct Tryd.underlying51 h
  rw [cells51] at hl
  match cs, hl, hf with
  | [c0, c1, c2, c3], _, hf =>
    match xs, hxl, hf with
    | [y0, y1, y2, y3], _, hf =>
      have h0 : DataW.trod enc Tryd.prog W base spare held n 3 ((List.drop 0 [c0, c1, c2, c3]).take (Tryd.prog.cellsOf 3)) = some y0 := hf 0 _ rfl
      have h1 : DataW.trod enc Tryd.prog W base spare held n 9 ((List.drop 1 [c0, c1, c2, c3]).take (Tryd.prog.cellsOf 9)) = some y1 := hf 1 _ rfl
      have h2 : DataW.trod enc Tryd.prog W base spare held n 3 ((List.drop 2 [c0, c1, c2, c3]).take (Tryd.prog.cellsOf 3)) = some y2 := hf 2 _ rfl
      have h3 : DataW.trod enc Tryd.prog W base spare held n 49 ((List.drop 3 [c0, c1, c2, c3]).take (Tryd.prog.cellsOf 49)) = some y3 := hf 3 _ rfl
      rw [cells3] at h0 h2
      rw [cells9] at h1
      rw [cells49] at h3
      obtain ⟨n0, e0, _, w0⟩ := DataW.trod_int Tryd.underlying3 (h0 : DataW.trod enc Tryd.prog W base spare held n 3 [c0] = some y0)
      obtain ⟨s1, e1, _, _⟩ := DataW.trod_string Tryd.underlying9 (h1 : DataW.trod enc Tryd.prog W base spare held n 9 [c1] = some y1)
      obtain ⟨n2, e2, _, w2⟩ := DataW.trod_int Tryd.underlying3 (h2 : DataW.trod enc Tryd.prog W base spare held n 3 [c2] = some y2)
      obtain rfl : c0 = _ := List.head_eq_of_cons_eq e0
      obtain rfl : c1 = _ := List.head_eq_of_cons_eq e1
      obtain rfl : c2 = _ := List.head_eq_of_cons_eq e2
      replace h3 : DataW.trod enc Tryd.prog W base spare held n 49 [c3] = some y3 := h3
      rcases DataW.trod_slice Tryd.underlying49 h3 with ⟨hcs, _⟩ | ⟨a, len, cap, elems, rest, m, rfl, hcs, _, hb, hle, hm, hlen, hel, _, _⟩
      · obtain rfl := List.head_eq_of_cons_eq hcs
        refine ⟨⟨n0, s1, n2, []⟩, ⟨none, 0, rfl, Nat.le_refl _, Kd.C_nil k51 W⟩, fun k => ?_⟩
        cases k with
        | zero => trivial
        | succ k => exact ⟨i64_wf w2, fun c hc => by cases hc⟩
      · obtain rfl := List.head_eq_of_cons_eq hcs
        rw [cells51] at hel
        have each : ∀ i, i < len → ∃ Y : S51, ∃ cs', W.cells? base (a.add (i * 4)) 4 = some cs' ∧ ReplyAt W Y cs' := by
          intro i hi
          have hq := hel i hi
          rw [List.getElem?_eq_getElem (by omega)] at hq
          obtain ⟨cs', hc, ht⟩ := Option.bind_eq_some_iff.1 hq
          obtain ⟨Y, hY⟩ := ih m (by omega) cs' _ ht
          exact ⟨Y, cs', hc, hY⟩
        obtain ⟨Y, hY⟩ := Go.Deep.choose_lt each
        have hl2 : ((List.range len).map Y).length = len := by rw [List.length_map, List.length_range]
        refine ⟨⟨n0, s1, n2, (List.range len).map Y⟩, ⟨some a, cap, by dsimp only; rw [hl2], by dsimp only; omega, ?_⟩, fun k => ?_⟩
        · dsimp only
          rw [hl2]
          refine ⟨hl2, by unfold maxLen at hm; omega, fun _ => ⟨a, rfl, fun j p hj => ?_⟩⟩
          obtain ⟨hjl, hp⟩ := List.getElem?_eq_some_iff.1 hj
          have hjn : j < len := by rw [hl2] at hjl; exact hjl
          rw [List.getElem_map, List.getElem_range] at hp
          obtain ⟨cs', hc, ⟨A3, c3, he, hl3, hC3⟩, _⟩ := hY j hjn
          subst hp
          subst he
          obtain ⟨_, _, hcell⟩ := World.cells?_some hc
          refine ⟨_, rfl, k51_mk W (Y j) hl3 hC3, fun i u hu => ?_⟩
          have hi : i < 4 := (List.getElem?_eq_some_iff.1 hu).1
          have h9 := hcell i hi
          rw [hu] at h9
          show W.cell? (a.add (j * 4 + i)) = _
          rw [← Go.Deep.add_add]
          exact h9
        · cases k with
          | zero => trivial
          | succ k =>
            refine ⟨i64_wf w2, fun c hc => ?_⟩
            obtain ⟨i, hi, rfl⟩ := List.mem_map.1 hc
            obtain ⟨_, _, _, hw⟩ := hY i (List.mem_range.1 hi)
            exact hw k
theorem okWide_struct {P : Program} {w : World} {r : Reach} {base : Nat} {t : TypeId} {v : Value} {fs : Array Field} (ht : P.underlying t = some (.struct fs)) (h : Value.okWide P w r base t v) : ∃ cs, v = .agg cs := by
  simp only [Value.okWide, ht] at h
  obtain ⟨cs, h1, _⟩ := h
  exact ⟨cs, h1⟩
set_option maxRecDepth 100000 in
theorem reply_in {H : Type} {enc : TypeId × Value → H} {W : World} {base b0 fuel : Nat} {spare : Nat → Bool} {held : Bool} {v : Value} {x : DataW H × List MemPlace} (hv : Value.okWide Tryd.prog W .any b0 51 v) (hf : DataW.trod enc Tryd.prog W base spare held fuel 51 v.cells.toList = some x) :
    ∃ (r : S51) (A : Option Addr) (c : Nat), v = .agg #[.int .i64 r.f0, .string r.f1, .int .i64 r.f2, .slice A r.f3.length c] ∧ Kd.C k51 W A r.f3.length r.f3 ∧ r.f3.length ≤ c ∧ ∀ n, wf51 n r := by
  obtain ⟨cs, rfl⟩ := okWide_struct Tryd.underlying51 hv
  obtain ⟨r, ⟨A, c, he, hl, hC⟩, hw⟩ := reply_cells fuel _ _ hf
  refine ⟨r, A, c, ?_, hC, hl, hw⟩
  have he' : cs.toList = _ := he
  congr 1
  apply Array.ext'
  rw [he']
end Go.Proofs.YtbfbmgkgaokecaaDoor.PS
