/- Several of this seat's texts in one (squash.py): RText Num GvL. -/
import Derived.Test.YtbfbmgkgaokecaaDoorSq7
import Derived.Laws.Rows
import Derived.Lib.ParseIntBTie
import Derived.Lib.ItoaLen
import Derived.Test.YtbfbmgkgaokecaaDoorGvF

section
/- The reference's number as a text. -/
set_option linter.unusedVariables false
set_option linter.unusedSimpArgs false
namespace Go.Proofs.YtbfbmgkgaokecaaDoor.Vb
open Go.RowKit

theorem dec_small {u : Nat} (h : u < 10) : Lib.decDigits u = [UInt8.ofNat (48 + u)] := by rw [Lib.decDigits]; simp [h]
theorem dec_more {u : Nat} (h : ¬ u < 10) : Lib.decDigits u = Lib.decDigits (u / 10) ++ [UInt8.ofNat (48 + u % 10)] := by rw [Lib.decDigits]; simp [h]
theorem dec_len : ∀ (u : Nat), (Lib.decDigits u).length ≤ u + 1
  | u => by
    by_cases h : u < 10
    · rw [dec_small h]; simp
    · rw [dec_more h]
      have := dec_len (u / 10)
      simp
      omega
termination_by u => u
theorem txt_app (a b : List UInt8) : (⟨a.toArray⟩ : ByteArray) ++ ⟨b.toArray⟩ = ⟨(a ++ b).toArray⟩ := by
  apply bytes_ext; simp [ByteArray.toList_eq]

theorem txt_room {a b : Int} (ha : a.natAbs ≤ 922337203685477581) (hb : b.natAbs ≤ 9) : (txt a).size + (txt b).size ≤ 9223372036854775807 := by
  have h1 := dec_len a.natAbs
  have h2 := dec_len b.natAbs
  have key : ∀ n : Int, (txt n).size ≤ (Lib.decDigits n.natAbs).length + 1 := by
    intro n
    show (Lib.itoa n).toArray.size ≤ _
    unfold Lib.itoa
    split
    · simp
    · rw [show n.toNat = n.natAbs by omega]; simp
  have h3 := key a
  have h4 := key b
  omega
set_option maxHeartbeats 1600000 in
theorem rText_calls : ∀ (m : Nat) (n : Int) (_ : 2 * n.natAbs ≤ m ∧ (n < 0 → 2 * n.natAbs + 1 ≤ m)) (_ : -9223372036854775808 ≤ n) (_ : n ≤ 9223372036854775807) (w : World),
    Calls Tryd.prog 36 #[.int .i64 n] w fun e w' => e = .returned (.string (txt n)) ∧ Below w.heap.size w w' := by
  intro m
  induction m using Nat.strongRecOn with
  | _ m ih =>
  intro n hm h0 h1 w
  have H0 := Lib.hid h0
  have H1 := Lib.hid h1
  have IH := Lib.hid ih
  clear h0 h1 ih
  by_cases hp : 0 ≤ n
  · by_cases h10 : n < 10
    · obtain ⟨u, rfl⟩ := Int.eq_ofNat_of_zero_le hp
      have hrow : BRow (w.alloc (.cells #[.int .u8 (48 + (u : Int))] 5)) w.heap.size [UInt8.ofNat (48 + u)] := by
        refine ⟨_, 0, 0, heap_alloc_new w _, ?_, .inr rfl⟩
        intro j hj
        have : j = 0 := by simpa using hj
        subst this
        have : u < 10 := by omega
        simp
        omega
      have hcv := hrow.text (P := Tryd.prog) 23 9 Tryd.underlying23 Tryd.underlying5 Tryd.underlying9 1 1 rfl
      clear hrow
      go_enter Tryd.func36, Tryd.ntmps36
      go_wp2
      go_ret
      refine ⟨?_, (Below.refl _ _).alloc (Nat.le_refl _) _⟩
      unfold txt Lib.itoa
      rw [if_neg (by omega), Int.toNat_natCast, dec_small (by omega), show UInt8.ofNat (48 + u) = 48 + UInt8.ofNat u by simp]
      rfl
    · obtain ⟨u, rfl⟩ := Int.eq_ofNat_of_zero_le hp
      have hu : 10 ≤ u := by omega
      go_enter Tryd.func36, Tryd.ntmps36
      go_wp2_with fail
      rw [show wrap64 ((u : Int) / 10) = ((u / 10 : Nat) : Int) by have := H1.out; unfold wrap64; omega]
      refine (IH.out (2 * ((u / 10))) (by omega) ((u / 10 : Nat) : Int) (by omega) (by have := H0.out; omega) (by have := H1.out; omega) _).mono ?_
      rintro e w1 ⟨rfl, b1⟩
      obtain ⟨t1, ht1⟩ : ∃ t, txt ((u / 10 : Nat) : Int) = t := ⟨_, rfl⟩
      rw [ht1]
      have Ht1 := Lib.hid ht1
      clear ht1
      go_wp2_with fail
      rw [show ((u : Int) % 10) = ((u % 10 : Nat) : Int) by omega]
      refine (IH.out (2 * ((u % 10))) (by omega) ((u % 10 : Nat) : Int) (by omega) (by have := H0.out; omega) (by have := H1.out; omega) _).mono ?_
      rintro e w2 ⟨rfl, b2⟩
      obtain ⟨t2, ht2⟩ : ∃ t, txt ((u % 10 : Nat) : Int) = t := ⟨_, rfl⟩
      rw [ht2]
      have Ht2 := Lib.hid ht2
      clear ht2
      have hsz : t1.size + t2.size ≤ 9223372036854775807 := by rw [← Ht1.out, ← Ht2.out]; exact txt_room (by have := H1.out; omega) (by omega)
      go_wp2
      go_ret
      refine ⟨?_, Below.comp b1 b2⟩
      have e : txt (u : Int) = t1 ++ t2 := by
        rw [← Ht1.out, ← Ht2.out]
        unfold txt Lib.itoa
        rw [if_neg (by omega), if_neg (by omega), if_neg (by omega), Int.toNat_natCast, Int.toNat_natCast, Int.toNat_natCast, dec_more (by omega), dec_small (show u % 10 < 10 by omega), txt_app]
      rw [e]; rfl
  · by_cases h10 : -10 < n
    · obtain ⟨u, rfl⟩ : ∃ u : Nat, n = -(u : Int) := ⟨n.natAbs, by omega⟩
      go_enter Tryd.func36, Tryd.ntmps36
      go_wp2_with fail
      refine (IH.out (2 * (u)) (by omega) (u : Int) (by omega) (by have := H0.out; omega) (by have := H1.out; omega) _).mono ?_
      rintro e w1 ⟨rfl, b1⟩
      obtain ⟨t1, ht1⟩ : ∃ t, txt (u : Int) = t := ⟨_, rfl⟩
      rw [ht1]
      have Ht1 := Lib.hid ht1
      clear ht1
      have hsz : 1 + t1.size ≤ 9223372036854775807 := by
        have := txt_room (a := 0) (b := (u : Int)) (by omega) (by omega)
        rw [Ht1.out] at this
        have h0 : (txt 0).size = 1 := by unfold txt Lib.itoa; rw [if_neg (by omega), dec_small (by decide)]; rfl
        omega
      go_wp2
      go_ret
      refine ⟨?_, b1⟩
      have e : txt (-(u : Int)) = (⟨#[45]⟩ : ByteArray) ++ t1 := by
        rw [← Ht1.out]
        unfold txt Lib.itoa
        rw [if_pos (by omega), if_neg (by omega), Int.toNat_natCast, show (-(u : Int)).natAbs = u by omega]
        exact (txt_app [45] _).symm
      rw [e]; rfl
    · obtain ⟨u, rfl⟩ : ∃ u : Nat, n = -(u : Int) := ⟨n.natAbs, by omega⟩
      have hu : 10 ≤ u := by omega
      go_enter Tryd.func36, Tryd.ntmps36
      go_wp2_with fail
      rw [show wrap64 (-((u : Int) / 10)) = -((u / 10 : Nat) : Int) by have := H0.out; unfold wrap64; omega]
      refine (IH.out (2 * ((u / 10) + 1)) (by omega) (-((u / 10 : Nat) : Int)) (by omega) (by have := H0.out; omega) (by have := H1.out; omega) _).mono ?_
      rintro e w1 ⟨rfl, b1⟩
      obtain ⟨t1, ht1⟩ : ∃ t, txt (-((u / 10 : Nat) : Int)) = t := ⟨_, rfl⟩
      rw [ht1]
      have Ht1 := Lib.hid ht1
      clear ht1
      go_wp2_with fail
      rw [show ((u : Int) % 10) = ((u % 10 : Nat) : Int) by omega]
      refine (IH.out (2 * ((u % 10))) (by omega) ((u % 10 : Nat) : Int) (by omega) (by have := H0.out; omega) (by have := H1.out; omega) _).mono ?_
      rintro e w2 ⟨rfl, b2⟩
      obtain ⟨t2, ht2⟩ : ∃ t, txt ((u % 10 : Nat) : Int) = t := ⟨_, rfl⟩
      rw [ht2]
      have Ht2 := Lib.hid ht2
      clear ht2
      have hsz : t1.size + t2.size ≤ 9223372036854775807 := by rw [← Ht1.out, ← Ht2.out]; exact txt_room (by have := H0.out; omega) (by omega)
      go_wp2
      go_ret
      refine ⟨?_, Below.comp b1 b2⟩
      have e : txt (-(u : Int)) = t1 ++ t2 := by
        rw [← Ht1.out, ← Ht2.out]
        unfold txt Lib.itoa
        rw [if_pos (by omega), if_pos (by omega), if_neg (by omega), Int.toNat_natCast, show (-(u : Int)).natAbs = u by omega, show (-((u / 10 : Nat) : Int)).natAbs = u / 10 by omega, dec_more (by omega), dec_small (show u % 10 < 10 by omega), txt_app]
        rfl
      rw [e]; rfl
end Go.Proofs.YtbfbmgkgaokecaaDoor.Vb
end

section
/- A number's text is parsed as it. -/
set_option linter.unusedVariables false
set_option linter.unusedSimpArgs false
namespace Go.Proofs.YtbfbmgkgaokecaaDoor.Vb
open Go.RowKit

theorem dig_nat {d : Nat} (h : d < 10) : (UInt8.ofNat (48 + d)).toNat = 48 + d := by
  show (48 + d) % 256 = 48 + d
  omega
theorem parse_dec : ∀ (u : Nat) (_ : u < 18446744073709551616) (r : List UInt8), Lib.parseUint10 0 (Lib.decDigits u ++ r) = Lib.parseUint10 u r
  | u, hu, r => by
    by_cases h : u < 10
    · rw [dec_small h, List.singleton_append, Lib.parseUint10, dig_nat h, if_pos (by omega), if_neg (by omega), if_neg (by omega)]
      congr 1; omega
    · rw [dec_more h, List.append_assoc, parse_dec (u / 10) (by omega), List.singleton_append, Lib.parseUint10, dig_nat (by omega), if_pos (by omega), if_neg (by omega), if_neg (by omega)]
      congr 1; omega
termination_by u => u
theorem dec_head (u : Nat) : ∃ c r, Lib.decDigits u = c :: r ∧ 48 ≤ c.toNat ∧ c.toNat ≤ 57 := by
  induction u using Nat.strongRecOn with
  | _ u ih =>
  by_cases h : u < 10
  · exact ⟨_, [], dec_small h, by rw [dig_nat h]; omega, by rw [dig_nat h]; omega⟩
  · obtain ⟨c, r, e, h1, h2⟩ := ih (u / 10) (by omega)
    exact ⟨c, _, by rw [dec_more h, e, List.cons_append], h1, h2⟩
theorem parse_txt (n : Int) (h0 : -9223372036854775808 ≤ n) (h1 : n ≤ 9223372036854775807) : Lib.parseIntB 64 (Lib.itoa n) = .ok n := by
  rw [Lib.parseIntB_64]
  unfold Lib.itoa
  by_cases hn : n < 0
  · obtain ⟨c, r, e, c1, c2⟩ := dec_head n.natAbs
    have hp := parse_dec n.natAbs (by omega) []
    rw [List.append_nil] at hp
    rw [if_pos hn]
    simp only [Lib.atoiAll, Lib.parseMag]
    rw [if_pos (Or.inr (by decide)), if_neg (by rw [e]; simp), hp]
    simp only [Lib.parseUint10]
    rw [if_neg (by simp), if_neg (by omega), if_pos (by decide)]
    congr 1; omega
  · obtain ⟨c, r, e, c1, c2⟩ := dec_head n.toNat
    have hp := parse_dec n.toNat (by omega) []
    rw [List.append_nil, e] at hp
    rw [if_neg hn, e]
    simp only [Lib.atoiAll, Lib.parseMag]
    rw [if_neg (show ¬ (c.toNat = 43 ∨ c.toNat = 45) by omega), if_neg (by simp), hp]
    simp only [Lib.parseUint10]
    rw [if_neg (by omega), if_neg (by omega), if_neg (by omega)]
    congr 1; omega
theorem intS_txt (n : Int) (h0 : -9223372036854775808 ≤ n) (h1 : n ≤ 9223372036854775807) : intS (txt n) = some n := by
  unfold intS
  have e : (txt n).data.toList = Lib.itoa n := rfl
  rw [e, parse_txt n h0 h1]
  simp
theorem txt_size (n : Int) (h0 : -9223372036854775808 ≤ n) (h1 : n ≤ 9223372036854775807) : (txt n).size ≤ 21 := Lib.itoa_length_le n h0 h1

end Go.Proofs.YtbfbmgkgaokecaaDoor.Vb
end

section
/- Layer 19: New 18, Left 23, Feed 19 of nobody, by hand. -/
namespace Go.Proofs.YtbfbmgkgaokecaaDoor.PS
open Go.RowKit Go.Proofs.YtbfbmgkgaokecaaDoorW.PrintWords Go.Proofs.YtbfbmgkgaokecaaDoorW.PrintLast Go.Proofs.YtbfbmgkgaokecaaDoorW.PrintMore
set_option linter.unusedVariables false
set_option linter.unusedSimpArgs false

set_option maxHeartbeats 8000000 in
set_option maxRecDepth 100000 in
theorem resp_New.callsP (w : World) : Calls Tryd.prog 18 #[] w fun e w' => ∃ g : Nat, e = .returned (.pointer (some ⟨g, 0, none⟩)) ∧ w'.heap[g]? = some (.cells #[.slice none 0 0, .int .i64 0, .bool true] 46 (0, 0)) ∧ w.heap.size ≤ g ∧ Below w.heap.size w w' := by
  have hu46 := Tryd.underlying46
  have HB := Aside0.mk (Below.refl w.heap.size w)
  go_enter Tryd.func18, Tryd.ntmps18
  go_wp2_with (first | ((with_reducible refine gate_dst (N := 2) rfl ?_); refine box_event ?hg (N := 2) ?hd (cs := #[.slice none 0 0, .int .i64 0, .bool true]) (t := 46) ?hr ?_; (case hd => rfl); (case hg => rfl); (case hr => first | (go_simp; done) | (go_simp; rfl)); intro gb101 hg w1 hbox hb; have n0_ := Aside0.mk (below_step HB.out hb); have n2_ := Aside0.mk (hbox); have n3_ := Aside0.mk ((by rw [hg]; exact (below_size (by repeat (first | (with_reducible first | exact HB.out | apply below_alloc | apply pw_below_drewN | apply below_drew1) | exact HB.out))) : w.heap.size ≤ gb101)); clear HB; have HB := n0_; have BK101 := n2_; have GW101 := n3_; clear n0_ n2_ n3_; clear hb hbox hg))
  go_ret
  exact ⟨_, rfl, by (with_reducible repeat (first | refine blk_drewN ?_ _ | refine blk_drew ?_ | refine blk_alloc ?_ _)); exact BK101.out, GW101.out, by repeat (first | (with_reducible first | exact HB.out | apply below_alloc | apply pw_below_drewN | apply below_drew1 | refine below_set ?_ GW101.out) | exact HB.out)⟩

set_option maxHeartbeats 8000000 in
set_option maxRecDepth 100000 in
theorem resp_Parser_Left.callsP (base g : Nat) (ok : Nat → Prop) (hd : List Int) (e : Int) (m : Bool) (w : World) (hP : IsP w base g ok hd e m) : Calls Tryd.prog 23 #[.pointer (some ⟨g, 0, none⟩)] w fun r w' => r = .returned (.int .i64 hd.length) ∧ w' = w := by
  obtain ⟨v, hg, hb, hQ⟩ := hP
  obtain ⟨A, c, ev, _⟩ := Kd.Q_slice hQ
  subst ev
  have hcz2_0 : w.cell? ⟨g, 0, none⟩ = some (.slice A hd.length c) := (blk_cell hg 0).trans rfl
  clear hg hQ
  have hu46 := Tryd.underlying46
  go_enter Tryd.func23, Tryd.ntmps23
  go_wp2
  go_ret
  exact ⟨rfl, rfl⟩

set_option maxHeartbeats 8000000 in
set_option maxRecDepth 100000 in
theorem resp_Parser_Left.callsNil (w : World) : Calls Tryd.prog 23 #[.pointer none] w fun r w' => r = .returned (.int .i64 0) ∧ w' = w := by
  go_enter Tryd.func23, Tryd.ntmps23
  go_wp2
  go_ret
  exact ⟨rfl, rfl⟩

set_option maxHeartbeats 8000000 in
set_option maxRecDepth 100000 in
theorem resp_Parser_Feed.callsNil (b : Value) (w : World) : Calls Tryd.prog 19 #[.pointer none, b] w fun r w' => r = .returned (.tuple #[.slice none 0 0, .int .i64 2]) ∧ w' = w := by
  go_enter Tryd.func19, Tryd.ntmps19
  go_wp2
  go_ret2
  exact ⟨rfl, rfl⟩

end Go.Proofs.YtbfbmgkgaokecaaDoor.PS
end
