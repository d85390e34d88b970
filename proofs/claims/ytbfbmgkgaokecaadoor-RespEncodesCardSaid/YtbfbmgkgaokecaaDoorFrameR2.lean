/- Layer 19: other inputs that came in: two small numbers in an array. -/
import Derived.Test.YtbfbmgkgaokecaaDoorFrameR
import Derived.OpenShut
import Derived.Deep.Slices
set_option linter.unusedVariables false
set_option linter.unusedSimpArgs false
namespace Go.Proofs.YtbfbmgkgaokecaaDoor.PS
open Go.ChangeShapes Go.WideShapes Go.ChangeAt Go.RowKit

theorem okWide_arr {P : Program} {w : World} {r : Reach} {base : Nat} {t : TypeId} {v : Value} {n : Nat} {e : TypeId} (ht : P.underlying t = some (.array n e)) (h : Value.okWide P w r base t v) : ∃ cs, v = .agg cs ∧ cs.size = P.cellsOf t := by
  simp only [Value.okWide, ht] at h
  obtain ⟨cs, h1, h2, _⟩ := h
  exact ⟨cs, h1, h2⟩
theorem cells43 : Tryd.prog.cellsOf 43 = 2 := by kernel_rfl
theorem cells42 : Tryd.prog.cellsOf 42 = 1 := by kernel_rfl
theorem u16_wf {n : Int} (h : (Lit.int .u16 n).wf = true) : 0 ≤ n ∧ n ≤ 65535 := by
  rw [Lit.wf, Bool.and_eq_true, decide_eq_true_eq, decide_eq_true_eq] at h
  exact h
set_option maxRecDepth 100000 in
theorem cut_in {H : Type} {enc : TypeId × Value → H} {W : World} {base b0 fuel : Nat} {spare : Nat → Bool} {held : Bool} {v : Value} {x : DataW H × List MemPlace} (hv : Value.okWide Tryd.prog W .any b0 43 v) (hf : DataW.trod enc Tryd.prog W base spare held fuel 43 v.cells.toList = some x) :
    ∃ x y : Int, v = .agg #[.int .u16 x, .int .u16 y] ∧ (0 ≤ x ∧ x ≤ 65535) ∧ (0 ≤ y ∧ y ≤ 65535) := by
  obtain ⟨cs, rfl, hs⟩ := okWide_arr Tryd.underlying43 hv
  rw [cells43] at hs
  obtain ⟨l⟩ := cs
  match l, hs with
  | [c0, c1], _ =>
    obtain ⟨xs, m, _, _, _, hl, he⟩ := DataW.trod_array Tryd.underlying43 hf
    have h0 := he 0 (by decide)
    have h1 := he 1 (by decide)
    rw [cells42] at h0 h1
    match xs, hl with
    | [y0, y1], _ =>
      obtain ⟨n0, e0, _, w0⟩ := DataW.trod_int Tryd.underlying42 (h0 : DataW.trod enc Tryd.prog W base spare held m 42 [c0] = some y0)
      obtain ⟨n1, e1, _, w1⟩ := DataW.trod_int Tryd.underlying42 (h1 : DataW.trod enc Tryd.prog W base spare held m 42 [c1] = some y1)
      obtain rfl : c0 = _ := List.head_eq_of_cons_eq e0
      obtain rfl : c1 = _ := List.head_eq_of_cons_eq e1
      exact ⟨n0, n1, rfl, u16_wf w0, u16_wf w1⟩
open Go.Proofs.YtbfbmgkgaokecaaDoorW.PrintWords (Kd)
theorem bytes_in2 {H : Type} {enc : TypeId × Value → H} {W : World} {base fuel : Nat} {spare : Nat → Bool} {held : Bool} {v : Value} {d : DataW H} {ps : List MemPlace} (hf : DataW.trod enc Tryd.prog W base spare held fuel 23 [v] = some (d, ps)) :
    ∃ (a : Option Addr) (cap : Nat) (L : List UInt8), v = .slice a L.length cap ∧ Kd.C (Kd.int .u8) W a L.length (ints L) ∧ L.length ≤ cap ∧ ((∀ n ∈ d.weights Tryd.prog 23, n ≤ reachBytes) → L.length ≤ 140737488351232) := by
  rcases open_ints Tryd.underlying23 Tryd.underlying5 (by kernel_rfl) hf with ⟨hcs, _⟩ | ⟨x, l, c, zs, hcs, _, hl, hm, hz, hx, hcell, hwz⟩
  · obtain rfl := List.head_eq_of_cons_eq hcs
    exact ⟨none, 0, [], rfl, ⟨rfl, by decide, fun h => absurd h (by decide)⟩, Nat.le_refl _, fun _ => Nat.zero_le _⟩
  · obtain rfl := List.head_eq_of_cons_eq hcs
    have hz' : l ≤ zs.length := by rw [hz]; split <;> omega
    obtain ⟨L, h1, h2⟩ := bytes_of_cells (x := x) hz' (by unfold maxLen at hm; omega) hcell hwz
    subst h1
    refine ⟨some x, c, L, rfl, h2, hl, fun hs => ?_⟩
    obtain rfl : d = _ := congrArg Prod.fst hx
    have h0 := hs (((lits (H := H) .u8 (zs.take L.length)).length + (lits (H := H) .u8 (zs.drop L.length)).length) * Tryd.prog.bytesOf 5) (by
      rw [DataW.weights, Tryd.underlying23]
      exact List.mem_cons_self)
    have e1 : Tryd.prog.bytesOf 5 = 1 := by kernel_rfl
    have e2 : (lits (H := H) .u8 (zs.take L.length)).length + (lits (H := H) .u8 (zs.drop L.length)).length = zs.length := by
      simp [lits]
      omega
    rw [e1, e2, Nat.mul_one] at h0
    exact Nat.le_trans hz' h0
theorem pieces_in {H : Type} {enc : TypeId × Value → H} {W : World} {base fuel len cap : Nat} {spare : Nat → Bool} {held : Bool} {a0 : Option Addr} {d : DataW H} {ps : List MemPlace} (hf : DataW.trod enc Tryd.prog W base spare held fuel 35 [.slice a0 len cap] = some (d, ps))
    (hs : ∀ n ∈ d.weights Tryd.prog 35, n ≤ reachBytes) :
    ∃ l : List (List UInt8), len = l.length ∧ Kd.C (Kd.slice 5 (Kd.int .u8)) W a0 l.length (l.map ints) ∧ l.length ≤ cap ∧ ∀ p ∈ l, p.length ≤ 140737488351232 := by
  rcases Go.Deep.open_slice1 Tryd.underlying35 (by kernel_rfl) hf with ⟨hcs, _⟩ | ⟨x, l, c, m, n, V, D, Pl, hcs, _, hl, hm, hmm, hx, hall⟩
  · simp at hcs
    obtain ⟨rfl, rfl, rfl⟩ := hcs
    exact ⟨[], rfl, ⟨rfl, by decide, fun h => absurd h (by decide)⟩, Nat.le_refl _, fun a ha => by cases ha⟩
  · simp at hcs
    obtain ⟨rfl, rfl, rfl⟩ := hcs
    have hml : len ≤ m := by rw [hmm]; split <;> omega
    obtain rfl : d = _ := congrArg Prod.fst hx
    have each : ∀ i, i < len → ∃ L : List UInt8, ∃ (a : Option Addr) (cap : Nat), W.cell? (x.add i) = some (.slice a L.length cap) ∧ Kd.C (Kd.int .u8) W a L.length (ints L) ∧ L.length ≤ cap ∧ L.length ≤ 140737488351232 := by
      intro i hi
      obtain ⟨hc, ht⟩ := hall i (by omega)
      obtain ⟨a, cap, L, hv, h1, h2, h3⟩ := bytes_in2 ht
      rw [hv] at hc
      refine ⟨L, a, cap, hc, h1, h2, h3 fun k hk => hs k ?_⟩
      rw [DataW.weights, Tryd.underlying35]
      exact List.mem_cons_of_mem _ (List.mem_append_left _ (weightsAll_mem (d := D i) (List.mem_map.2 ⟨i, List.mem_range.2 hi, rfl⟩) hk))
    obtain ⟨Y, hY⟩ := Go.Deep.choose_lt each
    have hl2 : ((List.range len).map Y).length = len := by rw [List.length_map, List.length_range]
    refine ⟨(List.range len).map Y, hl2.symm, ?_, by omega, fun p hp => ?_⟩
    · rw [hl2]
      refine ⟨by rw [List.length_map, hl2], by unfold maxLen at hm; omega, fun _ => ⟨x, rfl, fun j p hj => ?_⟩⟩
      obtain ⟨hjl, hp⟩ := List.getElem?_eq_some_iff.1 hj
      have hjn : j < len := by rw [List.length_map, hl2] at hjl; exact hjl
      rw [List.getElem_map, List.getElem_map, List.getElem_range] at hp
      obtain ⟨a, cp, h1, h2, h3, _⟩ := hY j hjn
      subst hp
      refine ⟨[.slice a (Y j).length cp], rfl, ⟨a, cp, by rw [ints_length], by rw [ints_length]; exact h3, by rw [ints_length]; exact h2⟩, fun i u hu => ?_⟩
      match i, hu with
      | 0, hu =>
        obtain rfl := Option.some.inj hu
        show W.cell? (x.add (j * 1 + 0)) = _
        rw [show j * 1 + 0 = j by omega]
        exact h1
    · obtain ⟨i, hi, rfl⟩ := List.mem_map.1 hp
      obtain ⟨a, cp, h1, h2, h3, h4⟩ := hY i (List.mem_range.1 hi)
      exact h4
end Go.Proofs.YtbfbmgkgaokecaaDoor.PS
