/- A number's text is parsed as it. -/
import Derived.Test.YtbfbmgkgaokecaaDoorRText
import Derived.Lib.ParseIntBTie
import Derived.Lib.ItoaLen
set_option linter.unusedVariables false
set_option linter.unusedSimpArgs false
namespace Go.Proofs.YtbfbmgkgaokecaaDoor.Vb
open Go.RowKit

theorem dig_nat {d : Nat} (h : d < 10) : (UInt8.ofNat (48 + d)).toNat = 48 + d := by
  show (48 + d) % 256 = 48 + d
  omega
theorem parse_dec : ∀ (u : Nat) (_ : u < 18446744073709551616) (r : List UInt8), Lib.parseUint10 0 (Lib.decDigits u ++ r) = Lib.parseUint10 u r
  | u, hu, r => by
    by_cases h : u < 10
    · rw [dec_small h, List.singleton_append, Lib.parseUint10, dig_nat h, if_pos (by omega), if_neg (by omega), if_neg (by omega)]
      congr 1; omega
    · rw [dec_more h, List.append_assoc, parse_dec (u / 10) (by omega), List.singleton_append, Lib.parseUint10, dig_nat (by omega), if_pos (by omega), if_neg (by omega), if_neg (by omega)]
      congr 1; omega
termination_by u => u
theorem dec_head (u : Nat) : ∃ c r, Lib.decDigits u = c :: r ∧ 48 ≤ c.toNat ∧ c.toNat ≤ 57 := by
  induction u using Nat.strongRecOn with
  | _ u ih =>
  by_cases h : u < 10
  · exact ⟨_, [], dec_small h, by rw [dig_nat h]; omega, by rw [dig_nat h]; omega⟩
  · obtain ⟨c, r, e, h1, h2⟩ := ih (u / 10) (by omega)
    exact ⟨c, _, by rw [dec_more h, e, List.cons_append], h1, h2⟩
theorem parse_txt (n : Int) (h0 : -9223372036854775808 ≤ n) (h1 : n ≤ 9223372036854775807) : Lib.parseIntB 64 (Lib.itoa n) = .ok n := by
  rw [Lib.parseIntB_64]
  unfold Lib.itoa
  by_cases hn : n < 0
  · obtain ⟨c, r, e, c1, c2⟩ := dec_head n.natAbs
    have hp := parse_dec n.natAbs (by omega) []
    rw [List.append_nil] at hp
    rw [if_pos hn]
    simp only [Lib.atoiAll, Lib.parseMag]
    rw [if_pos (Or.inr (by decide)), if_neg (by rw [e]; simp), hp]
    simp only [Lib.parseUint10]
    rw [if_neg (by simp), if_neg (by omega), if_pos (by decide)]
    congr 1; omega
  · obtain ⟨c, r, e, c1, c2⟩ := dec_head n.toNat
    have hp := parse_dec n.toNat (by omega) []
    rw [List.append_nil, e] at hp
    rw [if_neg hn, e]
    simp only [Lib.atoiAll, Lib.parseMag]
    rw [if_neg (show ¬ (c.toNat = 43 ∨ c.toNat = 45) by omega), if_neg (by simp), hp]
    simp only [Lib.parseUint10]
    rw [if_neg (by omega), if_neg (by omega), if_neg (by omega)]
    congr 1; omega
theorem intS_txt (n : Int) (h0 : -9223372036854775808 ≤ n) (h1 : n ≤ 9223372036854775807) : intS (txt n) = some n := by
  unfold intS
  have e : (txt n).data.toList = Lib.itoa n := rfl
  rw [e, parse_txt n h0 h1]
  simp
theorem txt_size (n : Int) (h0 : -9223372036854775808 ≤ n) (h1 : n ≤ 9223372036854775807) : (txt n).size ≤ 21 := Lib.itoa_length_le n h0 h1

end Go.Proofs.YtbfbmgkgaokecaaDoor.Vb
