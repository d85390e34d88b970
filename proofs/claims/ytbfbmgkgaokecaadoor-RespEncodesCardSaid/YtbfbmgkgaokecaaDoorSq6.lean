/- Several of this seat's texts in one (squash.py): PlX Laid. -/
import Derived.Test.YtbfbmgkgaokecaaDoorPlW
import Derived.Test.YtbfbmgkgaokecaaDoorSq12
import Derived.Test.YtbfbmgkgaokecaaDoorRows
import Derived.Test.YtbfbmgkgaokecaaDoorBase
import Derived.WalkKit
import Derived.ProofKit
import Derived.OpenShut
import Derived.LaidMore
import Derived.Stop.LaidErr
import Derived.Deep.Strs

section
/- Layer 19: what Feed tells is what PlV says. -/
namespace Go.Proofs.YtbfbmgkgaokecaaDoor.PS
open Go.RowKit Go.Proofs.YtbfbmgkgaokecaaDoorW.PrintWords Go.Proofs.YtbfbmgkgaokecaaDoorW.PrintLast Go.Proofs.YtbfbmgkgaokecaaDoorW.PrintMore
set_option linter.unusedVariables false
set_option linter.unusedSimpArgs false

theorem command_eq (l : List UInt8) (hl : l.length ≤ 900000000000000) (k : Nat) : resp_command.f (k + 50) (ints l) = some ((cmd l).1, ints (cmd l).2.1, (cmd l).2.2) := by
  have hc := count_eq 42 40 l hl (k + 48)
  have h42 : ((42 : UInt8).toNat : Int) = 42 := rfl
  rw [h42] at hc
  unfold resp_command.f cmd
  rw [hc]
  simp only [Option.bind_some]
  by_cases h0 : (cnt 42 40 l).2.2 = 0
  · have hk := cnt_ok h0
    obtain ⟨n, hn⟩ : ∃ n : Nat, (cnt 42 40 l).1 = (n : Int) := ⟨_, (Int.toNat_of_nonneg hk.2.1).symm⟩
    simp only [h0, if_true, hn, Int.toNat_natCast]
    rw [hn] at hk
    have := words_eq n (cnt 42 40 l).2.1 [] 0 (by omega) (Nat.le_refl _) (by omega) n (by omega) (k + 47 - n)
    have e : k + 47 - n + n + 3 = k + 50 := by omega
    rw [e] at this
    exact this
  · simp only [h0, if_false]
    rfl
theorem feed_l0 : ∀ (j : Nat) (l : List UInt8) (out : List (List ByteArray)), l.length < j → l.length ≤ 900000000000 → out.length + l.length ≤ 900000000000 →
    resp_Parser_Feed.l0 (50 + j) (ints l) out = some ((prs j l out).1, (prs j l out).2.1, ints (prs j l out).2.2, (prs j l out).2.1)
  | 0, _, _, h, _, _ => absurd h (by omega)
  | j + 1, l, out, hj, hl, ho => by
    have hc := command_eq l (by omega) j
    have e : j + 50 = 50 + j := by omega
    rw [e] at hc
    rw [show 50 + (j + 1) = (50 + j) + 1 by omega, prs]
    simp only [resp_Parser_Feed.l0, hc, Option.bind_some]
    by_cases h4 : (cmd l).2.2 = 4
    · simp only [h4, if_true]
    · by_cases h0 : (cmd l).2.2 = 0
      · have hk := cmd_ok h0
        have e3 : (out.length < 1000000000000) = True := eq_true (by omega)
        have e4 : ((0 : Int) = 4) = False := eq_false (by decide)
        simp only [h0, e4, if_false, if_true, e3]
        exact feed_l0 j _ _ (by omega) (by omega) (by
          split
          · rw [List.length_append, List.length_singleton]; omega
          · omega)
      · simp only [h4, h0, if_false]
        rfl
theorem feed_eq (l b : List UInt8) (hl : l.length + b.length ≤ 900000000000) : resp_Parser_Feed.f (50 + ((l ++ b).length + 1)) (ints l) (ints b) = some ((parse (l ++ b)).1, (parse (l ++ b)).2.1, ints (parse (l ++ b)).2.2, (parse (l ++ b)).2.1) := by
  unfold resp_Parser_Feed.f parse
  rw [← ints_append]
  exact feed_l0 _ _ _ (by omega) (by rw [List.length_append]; omega) (by rw [List.length_append, List.length_nil]; omega)
/-- A fault at once: whatever the length. -/
theorem feed_err (b : List UInt8) (hl : b.length ≤ 900000000000000) (h4 : (cmd b).2.2 ≠ 4) (h0 : (cmd b).2.2 ≠ 0) : resp_Parser_Feed.f 51 (ints []) (ints b) = some ([], (cmd b).2.2, ints [], (cmd b).2.2) := by
  have hc := command_eq b hl 0
  rw [Nat.zero_add] at hc
  have key : ∀ k, resp_command.f k (ints b) = some ((cmd b).1, ints (cmd b).2.1, (cmd b).2.2) → resp_Parser_Feed.l0 (k + 1) (ints b) [] = some ([], (cmd b).2.2, ints [], (cmd b).2.2) := by
    intro k hk
    simp only [resp_Parser_Feed.l0, hk, Option.bind_some, h4, h0, if_false]
    rfl
  exact key 50 hc
end Go.Proofs.YtbfbmgkgaokecaaDoor.PS
end

section
/- What the rows' listed variables give the walks. -/
set_option linter.unusedVariables false
set_option linter.unusedSimpArgs false
namespace Go.Proofs.YtbfbmgkgaokecaaDoor.Vb
open Go.ChangeShapes Go.WideShapes Go.ChangeAt Go.RowKit

theorem gD64 : Tryd.prog.globalNamed "math/bits.deBruijn64tab" = some 8 := by kernel_rfl

theorem rowErr : ∀ u, Tryd.prog.typeName? 3 u = some "*errors.errorString" → u = 159 := fun u hu =>
  typeName_ptr_named (nm := "errors.errorString") (tp := 159) (by kernel_rfl) (by kernel_rfl) (by decide) u hu
theorem tSyn : (Tryd.prog.globals[3]?).map (·.type) = some 90 := by kernel_rfl
theorem tRan : (Tryd.prog.globals[4]?).map (·.type) = some 90 := by kernel_rfl
theorem tTab : (Tryd.prog.globals[6]?).map (·.type) = some 164 := by kernel_rfl
theorem tOne : (Tryd.prog.globals[0]?).map (·.type) = some 57 := by kernel_rfl
theorem tAll : (Tryd.prog.globals[1]?).map (·.type) = some 57 := by kernel_rfl
theorem tTwo : (Tryd.prog.globals[2]?).map (·.type) = some 57 := by kernel_rfl
theorem c161 : Tryd.prog.cellsOf 161 = 1 := by kernel_rfl
theorem c9 : Tryd.prog.cellsOf 9 = 1 := by kernel_rfl
theorem c3 : Tryd.prog.cellsOf 3 = 1 := by kernel_rfl
theorem c57 : Tryd.prog.cellsOf 57 = 3 := by kernel_rfl
theorem c141 : Tryd.prog.cellsOf 141 = 1 := by kernel_rfl
theorem c164 : Tryd.prog.cellsOf 164 = 20 := by kernel_rfl
theorem tabEq : (Rows.laid_internal_strconv_uint64pow10 : DataW Unit) = Lib.tabData .u64 Lib.pow10Tab := by kernel_rfl

set_option maxRecDepth 100000 in
theorem num_of {r : List (String × DataW Unit)} {W : World} (h : laidMet Tryd.prog (("math/bits.deBruijn32tab", Rows.laid_math_bits_deBruijn32tab) :: ("math/bits.deBruijn64tab", Rows.laid_math_bits_deBruijn64tab) :: ("internal/strconv.uint64pow10", Rows.laid_internal_strconv_uint64pow10) :: ("strconv.ErrRange", Rows.laid_strconv_ErrRange) :: ("strconv.ErrSyntax", Rows.laid_strconv_ErrSyntax) :: r) W) : Num W := by
  have h2 := h.tail
  have h3 := h2.tail
  have h4 := h3.tail
  have h5 := h4.tail
  obtain ⟨a, s, e1, _⟩ := laid_sentinel h5 gSyn tSyn Tryd.underlying90 rowErr Tryd.underlying159 Tryd.underlying161 rfl rfl Tryd.underlying9 c161 c9
  obtain ⟨a', s', e2, _⟩ := laid_sentinel h4 gRan tRan Tryd.underlying90 rowErr Tryd.underlying159 Tryd.underlying161 rfl rfl Tryd.underlying9 c161 c9
  rw [tabEq] at h3
  have e3 := Lib.tabIs_of_head gTab tTab Tryd.underlying164 Tryd.underlying141 c141 c164 h3
  refine ⟨⟨_, _, e1⟩, ⟨_, _, e2⟩, e3, ?_⟩
  obtain ⟨ps, ⟨g0, t0, cs0, f0, p0, q0, hg0, ht0, hv0, hd0, _, _⟩, _⟩ := h2
  obtain rfl := Option.some.inj (gD64.symm.trans hg0)
  unfold World.var? at hv0
  rw [gD64] at hv0
  rcases Nat.lt_or_ge 8 W.heap.size with h8 | h8
  · omega
  · simp [Array.getElem?_eq_none h8] at hv0

set_option maxRecDepth 100000 in
/-- A place of package verb, as its variable's cells. -/
theorem place_of {n : String} {g : Nat} {a b c : Int} {r : List (String × DataW Unit)} {W : World} (h : laidMet Tryd.prog ((n, .agg [.lit (.int .i64 a), .lit (.int .i64 b), .lit (.int .i64 c)]) :: r) W)
    (hg : Tryd.prog.globalNamed n = some g) (ht : (Tryd.prog.globals[g]?).map (·.type) = some 57) :
    W.cell? ⟨g, 0, none⟩ = some (.int .i64 a) ∧ W.cell? ⟨g, 1, none⟩ = some (.int .i64 b) ∧ W.cell? ⟨g, 2, none⟩ = some (.int .i64 c) := by
  obtain ⟨ps, ⟨g0, t0, cs0, f0, p0, q0, hg0, ht0, hv0, hd0, _, _⟩, _⟩ := h
  obtain rfl := Option.some.inj (hg.symm.trans hg0)
  obtain rfl := Option.some.inj (ht.symm.trans ht0)
  obtain ⟨y0, y1, y2, m, e, hl, k0, k1, k2⟩ := Deep.trod_struct3 Tryd.underlying57 hd0
  have cells := World.var?_cell hg0 hv0
  obtain ⟨l⟩ := cs0
  rw [c57] at hl
  match l, hl with
  | [x0, x1, x2], _ =>
    simp only [c3, List.drop_zero, List.drop_succ_cons, List.take_succ_cons, List.take_zero, List.take_one] at k0 k1 k2
    obtain ⟨i0, f0, d0, _⟩ := DataW.trod_int Tryd.underlying3 k0
    obtain ⟨i1, f1, d1, _⟩ := DataW.trod_int Tryd.underlying3 k1
    obtain ⟨i2, f2, d2, _⟩ := DataW.trod_int Tryd.underlying3 k2
    simp only [List.cons.injEq, and_true] at f0 f1 f2
    subst f0 f1 f2
    rw [d0, d1, d2] at e
    simp at e
    obtain ⟨⟨rfl, rfl, rfl⟩, _⟩ := e
    exact ⟨by simpa using cells 0, by simpa using cells 1, by simpa using cells 2⟩

end Go.Proofs.YtbfbmgkgaokecaaDoor.Vb
end
