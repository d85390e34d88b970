/- Layer 19: what Feed tells is what PlV says. -/
import Derived.Test.YtbfbmgkgaokecaaDoorPlW
import Derived.Test.YtbfbmgkgaokecaaDoorGvL
namespace Go.Proofs.YtbfbmgkgaokecaaDoor.PS
open Go.RowKit Go.Proofs.YtbfbmgkgaokecaaDoorW.PrintWords Go.Proofs.YtbfbmgkgaokecaaDoorW.PrintLast Go.Proofs.YtbfbmgkgaokecaaDoorW.PrintMore
set_option linter.unusedVariables false
set_option linter.unusedSimpArgs false

theorem command_eq (l : List UInt8) (hl : l.length ≤ 900000000000000) (k : Nat) : resp_command.f (k + 50) (ints l) = some ((cmd l).1, ints (cmd l).2.1, (cmd l).2.2) := by
  have hc := count_eq 42 40 l hl (k + 48)
  have h42 : ((42 : UInt8).toNat : Int) = 42 := rfl
  rw [h42] at hc
  unfold resp_command.f cmd
  rw [hc]
  simp only [Option.bind_some]
  by_cases h0 : (cnt 42 40 l).2.2 = 0
  · have hk := cnt_ok h0
    obtain ⟨n, hn⟩ : ∃ n : Nat, (cnt 42 40 l).1 = (n : Int) := ⟨_, (Int.toNat_of_nonneg hk.2.1).symm⟩
    simp only [h0, if_true, hn, Int.toNat_natCast]
    rw [hn] at hk
    have := words_eq n (cnt 42 40 l).2.1 [] 0 (by omega) (Nat.le_refl _) (by omega) n (by omega) (k + 47 - n)
    have e : k + 47 - n + n + 3 = k + 50 := by omega
    rw [e] at this
    exact this
  · simp only [h0, if_false]
    rfl
theorem feed_l0 : ∀ (j : Nat) (l : List UInt8) (out : List (List ByteArray)), l.length < j → l.length ≤ 900000000000 → out.length + l.length ≤ 900000000000 →
    resp_Parser_Feed.l0 (50 + j) (ints l) out = some ((prs j l out).1, (prs j l out).2.1, ints (prs j l out).2.2, (prs j l out).2.1)
  | 0, _, _, h, _, _ => absurd h (by omega)
  | j + 1, l, out, hj, hl, ho => by
    have hc := command_eq l (by omega) j
    have e : j + 50 = 50 + j := by omega
    rw [e] at hc
    rw [show 50 + (j + 1) = (50 + j) + 1 by omega, prs]
    simp only [resp_Parser_Feed.l0, hc, Option.bind_some]
    by_cases h4 : (cmd l).2.2 = 4
    · simp only [h4, if_true]
    · by_cases h0 : (cmd l).2.2 = 0
      · have hk := cmd_ok h0
        have e3 : (out.length < 1000000000000) = True := eq_true (by omega)
        have e4 : ((0 : Int) = 4) = False := eq_false (by decide)
        simp only [h0, e4, if_false, if_true, e3]
        exact feed_l0 j _ _ (by omega) (by omega) (by
          split
          · rw [List.length_append, List.length_singleton]; omega
          · omega)
      · simp only [h4, h0, if_false]
        rfl
theorem feed_eq (l b : List UInt8) (hl : l.length + b.length ≤ 900000000000) : resp_Parser_Feed.f (50 + ((l ++ b).length + 1)) (ints l) (ints b) = some ((parse (l ++ b)).1, (parse (l ++ b)).2.1, ints (parse (l ++ b)).2.2, (parse (l ++ b)).2.1) := by
  unfold resp_Parser_Feed.f parse
  rw [← ints_append]
  exact feed_l0 _ _ _ (by omega) (by rw [List.length_append]; omega) (by rw [List.length_append, List.length_nil]; omega)
/-- A fault at once: whatever the length. -/
theorem feed_err (b : List UInt8) (hl : b.length ≤ 900000000000000) (h4 : (cmd b).2.2 ≠ 4) (h0 : (cmd b).2.2 ≠ 0) : resp_Parser_Feed.f 51 (ints []) (ints b) = some ([], (cmd b).2.2, ints [], (cmd b).2.2) := by
  have hc := command_eq b hl 0
  rw [Nat.zero_add] at hc
  have key : ∀ k, resp_command.f k (ints b) = some ((cmd b).1, ints (cmd b).2.1, (cmd b).2.2) → resp_Parser_Feed.l0 (k + 1) (ints b) [] = some ([], (cmd b).2.2, ints [], (cmd b).2.2) := by
    intro k hk
    simp only [resp_Parser_Feed.l0, hk, Option.bind_some, h4, h0, if_false]
    rfl
  exact key 50 hc
end Go.Proofs.YtbfbmgkgaokecaaDoor.PS
