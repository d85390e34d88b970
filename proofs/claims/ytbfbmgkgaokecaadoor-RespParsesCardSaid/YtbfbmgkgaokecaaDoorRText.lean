/- The reference's number as a text. -/
import Derived.Test.YtbfbmgkgaokecaaDoorSq7
import Derived.Laws.Rows
set_option linter.unusedVariables false
set_option linter.unusedSimpArgs false
namespace Go.Proofs.YtbfbmgkgaokecaaDoor.Vb
open Go.RowKit

theorem dec_small {u : Nat} (h : u < 10) : Lib.decDigits u = [UInt8.ofNat (48 + u)] := by rw [Lib.decDigits]; simp [h]
theorem dec_more {u : Nat} (h : ¬ u < 10) : Lib.decDigits u = Lib.decDigits (u / 10) ++ [UInt8.ofNat (48 + u % 10)] := by rw [Lib.decDigits]; simp [h]
theorem dec_len : ∀ (u : Nat), (Lib.decDigits u).length ≤ u + 1
  | u => by
    by_cases h : u < 10
    · rw [dec_small h]; simp
    · rw [dec_more h]
      have := dec_len (u / 10)
      simp
      omega
termination_by u => u
theorem txt_app (a b : List UInt8) : (⟨a.toArray⟩ : ByteArray) ++ ⟨b.toArray⟩ = ⟨(a ++ b).toArray⟩ := by
  apply bytes_ext; simp [ByteArray.toList_eq]

theorem txt_room {a b : Int} (ha : a.natAbs ≤ 922337203685477581) (hb : b.natAbs ≤ 9) : (txt a).size + (txt b).size ≤ 9223372036854775807 := by
  have h1 := dec_len a.natAbs
  have h2 := dec_len b.natAbs
  have key : ∀ n : Int, (txt n).size ≤ (Lib.decDigits n.natAbs).length + 1 := by
    intro n
    show (Lib.itoa n).toArray.size ≤ _
    unfold Lib.itoa
    split
    · simp
    · rw [show n.toNat = n.natAbs by omega]; simp
  have h3 := key a
  have h4 := key b
  omega
set_option maxHeartbeats 1600000 in
theorem rText_calls : ∀ (m : Nat) (n : Int) (_ : 2 * n.natAbs ≤ m ∧ (n < 0 → 2 * n.natAbs + 1 ≤ m)) (_ : -9223372036854775808 ≤ n) (_ : n ≤ 9223372036854775807) (w : World),
    Calls Tryd.prog 36 #[.int .i64 n] w fun e w' => e = .returned (.string (txt n)) ∧ Below w.heap.size w w' := by
  intro m
  induction m using Nat.strongRecOn with
  | _ m ih =>
  intro n hm h0 h1 w
  have H0 := Lib.hid h0
  have H1 := Lib.hid h1
  have IH := Lib.hid ih
  clear h0 h1 ih
  by_cases hp : 0 ≤ n
  · by_cases h10 : n < 10
    · obtain ⟨u, rfl⟩ := Int.eq_ofNat_of_zero_le hp
      have hrow : BRow (w.alloc (.cells #[.int .u8 (48 + (u : Int))] 5)) w.heap.size [UInt8.ofNat (48 + u)] := by
        refine ⟨_, 0, 0, heap_alloc_new w _, ?_, .inr rfl⟩
        intro j hj
        have : j = 0 := by simpa using hj
        subst this
        have : u < 10 := by omega
        simp
        omega
      have hcv := hrow.text (P := Tryd.prog) 23 9 Tryd.underlying23 Tryd.underlying5 Tryd.underlying9 1 1 rfl
      clear hrow
      go_enter Tryd.func36, Tryd.ntmps36
      go_wp2
      go_ret
      refine ⟨?_, (Below.refl _ _).alloc (Nat.le_refl _) _⟩
      unfold txt Lib.itoa
      rw [if_neg (by omega), Int.toNat_natCast, dec_small (by omega), show UInt8.ofNat (48 + u) = 48 + UInt8.ofNat u by simp]
      rfl
    · obtain ⟨u, rfl⟩ := Int.eq_ofNat_of_zero_le hp
      have hu : 10 ≤ u := by omega
      go_enter Tryd.func36, Tryd.ntmps36
      go_wp2_with fail
      rw [show wrap64 ((u : Int) / 10) = ((u / 10 : Nat) : Int) by have := H1.out; unfold wrap64; omega]
      refine (IH.out (2 * ((u / 10))) (by omega) ((u / 10 : Nat) : Int) (by omega) (by have := H0.out; omega) (by have := H1.out; omega) _).mono ?_
      rintro e w1 ⟨rfl, b1⟩
      obtain ⟨t1, ht1⟩ : ∃ t, txt ((u / 10 : Nat) : Int) = t := ⟨_, rfl⟩
      rw [ht1]
      have Ht1 := Lib.hid ht1
      clear ht1
      go_wp2_with fail
      rw [show ((u : Int) % 10) = ((u % 10 : Nat) : Int) by omega]
      refine (IH.out (2 * ((u % 10))) (by omega) ((u % 10 : Nat) : Int) (by omega) (by have := H0.out; omega) (by have := H1.out; omega) _).mono ?_
      rintro e w2 ⟨rfl, b2⟩
      obtain ⟨t2, ht2⟩ : ∃ t, txt ((u % 10 : Nat) : Int) = t := ⟨_, rfl⟩
      rw [ht2]
      have Ht2 := Lib.hid ht2
      clear ht2
      have hsz : t1.size + t2.size ≤ 9223372036854775807 := by rw [← Ht1.out, ← Ht2.out]; exact txt_room (by have := H1.out; omega) (by omega)
      go_wp2
      go_ret
      refine ⟨?_, Below.comp b1 b2⟩
      have e : txt (u : Int) = t1 ++ t2 := by
        rw [← Ht1.out, ← Ht2.out]
        unfold txt Lib.itoa
        rw [if_neg (by omega), if_neg (by omega), if_neg (by omega), Int.toNat_natCast, Int.toNat_natCast, Int.toNat_natCast, dec_more (by omega), dec_small (show u % 10 < 10 by omega), txt_app]
      rw [e]; rfl
  · by_cases h10 : -10 < n
    · obtain ⟨u, rfl⟩ : ∃ u : Nat, n = -(u : Int) := ⟨n.natAbs, by omega⟩
      go_enter Tryd.func36, Tryd.ntmps36
      go_wp2_with fail
      refine (IH.out (2 * (u)) (by omega) (u : Int) (by omega) (by have := H0.out; omega) (by have := H1.out; omega) _).mono ?_
      rintro e w1 ⟨rfl, b1⟩
      obtain ⟨t1, ht1⟩ : ∃ t, txt (u : Int) = t := ⟨_, rfl⟩
      rw [ht1]
      have Ht1 := Lib.hid ht1
      clear ht1
      have hsz : 1 + t1.size ≤ 9223372036854775807 := by
        have := txt_room (a := 0) (b := (u : Int)) (by omega) (by omega)
        rw [Ht1.out] at this
        have h0 : (txt 0).size = 1 := by unfold txt Lib.itoa; rw [if_neg (by omega), dec_small (by decide)]; rfl
        omega
      go_wp2
      go_ret
      refine ⟨?_, b1⟩
      have e : txt (-(u : Int)) = (⟨#[45]⟩ : ByteArray) ++ t1 := by
        rw [← Ht1.out]
        unfold txt Lib.itoa
        rw [if_pos (by omega), if_neg (by omega), Int.toNat_natCast, show (-(u : Int)).natAbs = u by omega]
        exact (txt_app [45] _).symm
      rw [e]; rfl
    · obtain ⟨u, rfl⟩ : ∃ u : Nat, n = -(u : Int) := ⟨n.natAbs, by omega⟩
      have hu : 10 ≤ u := by omega
      go_enter Tryd.func36, Tryd.ntmps36
      go_wp2_with fail
      rw [show wrap64 (-((u : Int) / 10)) = -((u / 10 : Nat) : Int) by have := H0.out; unfold wrap64; omega]
      refine (IH.out (2 * ((u / 10) + 1)) (by omega) (-((u / 10 : Nat) : Int)) (by omega) (by have := H0.out; omega) (by have := H1.out; omega) _).mono ?_
      rintro e w1 ⟨rfl, b1⟩
      obtain ⟨t1, ht1⟩ : ∃ t, txt (-((u / 10 : Nat) : Int)) = t := ⟨_, rfl⟩
      rw [ht1]
      have Ht1 := Lib.hid ht1
      clear ht1
      go_wp2_with fail
      rw [show ((u : Int) % 10) = ((u % 10 : Nat) : Int) by omega]
      refine (IH.out (2 * ((u % 10))) (by omega) ((u % 10 : Nat) : Int) (by omega) (by have := H0.out; omega) (by have := H1.out; omega) _).mono ?_
      rintro e w2 ⟨rfl, b2⟩
      obtain ⟨t2, ht2⟩ : ∃ t, txt ((u % 10 : Nat) : Int) = t := ⟨_, rfl⟩
      rw [ht2]
      have Ht2 := Lib.hid ht2
      clear ht2
      have hsz : t1.size + t2.size ≤ 9223372036854775807 := by rw [← Ht1.out, ← Ht2.out]; exact txt_room (by have := H0.out; omega) (by omega)
      go_wp2
      go_ret
      refine ⟨?_, Below.comp b1 b2⟩
      have e : txt (-(u : Int)) = t1 ++ t2 := by
        rw [← Ht1.out, ← Ht2.out]
        unfold txt Lib.itoa
        rw [if_pos (by omega), if_pos (by omega), if_neg (by omega), Int.toNat_natCast, show (-(u : Int)).natAbs = u by omega, show (-((u / 10 : Nat) : Int)).natAbs = u / 10 by omega, dec_more (by omega), dec_small (show u % 10 < 10 by omega), txt_app]
        rfl
      rw [e]; rfl
end Go.Proofs.YtbfbmgkgaokecaaDoor.Vb
