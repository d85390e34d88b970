/- Layer 19: what the reference tells, plainly: numbers' texts, a command's bytes. -/
import Derived.Test.YtbfbmgkgaokecaaDoorPlZ
import Derived.Test.YtbfbmgkgaokecaaDoorPSf17
import Derived.Test.YtbfbmgkgaokecaaDoorPSf20
namespace Go.Proofs.YtbfbmgkgaokecaaDoor.PS
open Go.RowKit Go.Proofs.YtbfbmgkgaokecaaDoorW.PrintWords Go.Proofs.YtbfbmgkgaokecaaDoorW.PrintLast Go.Proofs.YtbfbmgkgaokecaaDoorW.PrintMore
set_option linter.unusedVariables false
set_option linter.unusedSimpArgs false

theorem ev_call {α β : Type} {g : Nat → Option β} {h : Nat → Option α} {F : Nat → α → Option β} {a : α} {r : β} (hs : ∀ k, g k = (h k).bind (F k)) (hh : Ev h a) (hF : Ev (fun k => F k a) r) : Ev g r :=
  Ev.congr hs (Ev.bind hh hF)
theorem wL {x : Int} (h0 : -9223372036854775808 ≤ x) (h1 : x ≤ 9223372036854775807) : wrap64 x = x := by unfold wrap64; omega
theorem txt_small (n : Nat) (h : n < 10) : strOfNums [wrap64 (48 + (n : Int)) % 256] = Vb.txt (n : Int) := by
  apply Vb.bytes_ext
  rw [Lib.strOfNums_toList, Lib.toList_data]
  unfold Vb.txt
  rw [itoa_nat, Vb.dec_small h]
  have e : wrap64 (48 + (n : Int)) % 256 = ((48 + n : Nat) : Int) := by rw [wL (by omega) (by omega)]; omega
  rw [e]
  show [UInt8.ofNat (((48 + n : Nat) : Int)).toNat] = [UInt8.ofNat (48 + n)]
  rw [Int.toNat_natCast]
theorem txt_big (n : Nat) (h : 10 ≤ n) : Vb.txt ((n / 10 : Nat) : Int) ++ Vb.txt ((n % 10 : Nat) : Int) = Vb.txt (n : Int) := by
  unfold Vb.txt
  rw [bapp, itoa_nat, itoa_nat, itoa_nat, Vb.dec_more (by omega : ¬ n < 10), Vb.dec_small (by omega : n % 10 < 10)]
theorem txt_minus (n : Nat) (h : 1 ≤ n) : (⟨#[45]⟩ : ByteArray) ++ Vb.txt (n : Int) = Vb.txt (-(n : Int)) := by
  have e : Lib.itoa (-(n : Int)) = 45 :: Lib.decDigits n := by unfold Lib.itoa; rw [if_pos (by omega)]; simp
  unfold Vb.txt
  rw [e, itoa_nat]
  exact bapp [45] _
theorem txt_minus10 (n : Nat) (h : 10 ≤ n) : Vb.txt (-((n / 10 : Nat) : Int)) ++ Vb.txt ((n % 10 : Nat) : Int) = Vb.txt (-(n : Int)) := by
  have e : ∀ m : Nat, 1 ≤ m → Lib.itoa (-(m : Int)) = 45 :: Lib.decDigits m := fun m hm => by unfold Lib.itoa; rw [if_pos (by omega)]; simp
  unfold Vb.txt
  rw [bapp, e n (by omega), e (n / 10) (by omega), itoa_nat, Vb.dec_more (by omega : ¬ n < 10), Vb.dec_small (by omega : n % 10 < 10)]
  rfl
theorem dec_size : ∀ (n : Nat), (Lib.decDigits n).length ≤ n + 1 := Vb.dec_len
theorem txt_le (n : Int) : (Vb.txt n).size ≤ n.natAbs + 2 := by
  rw [txt_size]
  unfold Lib.itoa
  have := dec_size n.natAbs
  split
  · simp; omega
  · have e : n.toNat = n.natAbs := by omega
    rw [e]; omega
/-- The reference's text of a number. -/
theorem rtext_ev : ∀ (m : Nat) (n : Int), (2 * n.natAbs ≤ m ∧ (n < 0 → 2 * n.natAbs + 1 ≤ m)) → (-9223372036854775808 ≤ n ∧ n ≤ 9223372036854775807) → Ev (fun k => intaglioref17_Text.f k n) (Vb.txt n) := by
  intro m
  induction m using Nat.strongRecOn with
  | _ m ih =>
  intro n hm h0
  by_cases hp : 0 ≤ n
  · obtain ⟨u, rfl⟩ := Int.eq_ofNat_of_zero_le hp
    have e1 : ((u : Int) ≥ 0) = True := eq_true (by omega)
    by_cases h10 : u < 10
    · have e2 : decide ((u : Int) < 10) = true := decide_eq_true (by omega)
      refine Ev.step (f := fun k => intaglioref17_Text.j0 k (u : Int) true) (fun k => by simp only [intaglioref17_Text.f, e1, if_true, e2]) ?_
      refine Ev.step (f := fun _ => some (Vb.txt (u : Int))) (fun k => by simp only [intaglioref17_Text.j0, if_true, txt_small u h10]) (Ev.now _)
    · have e2 : decide ((u : Int) < 10) = false := decide_eq_false (by omega)
      have e3 : Int.tdiv (u : Int) 10 = ((u / 10 : Nat) : Int) := rfl
      have e4 : Int.tmod (u : Int) 10 = ((u % 10 : Nat) : Int) := rfl
      have ha := ih (2 * (u / 10)) (by omega) ((u / 10 : Nat) : Int) (by omega) (by omega)
      have hb := ih (2 * (u % 10)) (by omega) ((u % 10 : Nat) : Int) (by omega) (by omega)
      have hsz : (Vb.txt ((u / 10 : Nat) : Int)).size + (Vb.txt ((u % 10 : Nat) : Int)).size ≤ 9223372036854775807 := by
        have := txt_le ((u / 10 : Nat) : Int)
        have := txt_le ((u % 10 : Nat) : Int)
        omega
      refine Ev.step (f := fun k => intaglioref17_Text.j0 k (u : Int) false) (fun k => by simp only [intaglioref17_Text.f, e1, if_true, e2]) ?_
      refine Ev.step (fun k => by simp only [intaglioref17_Text.j0, Bool.false_eq_true, if_false, e1, if_true, e3, e4, show wrap64 ((u / 10 : Nat) : Int) = ((u / 10 : Nat) : Int) from wL (by omega) (by omega)]; exact rfl) ?_
      exact Ev.bind ha (Ev.bind hb (by simp only [hsz, if_true, txt_big u (by omega)]; exact Ev.now _))
  · obtain ⟨u, rfl⟩ : ∃ u : Nat, n = -(u : Int) := ⟨n.natAbs, by omega⟩
    have e1 : (-(u : Int) ≥ 0) = False := eq_false (by omega)
    refine Ev.step (f := fun k => intaglioref17_Text.j0 k (-(u : Int)) false) (fun k => by simp only [intaglioref17_Text.f, e1, if_false]) ?_
    by_cases h10 : u < 10
    · have e2 : (-(u : Int) > -10) = True := eq_true (by omega)
      have ha := ih (2 * u) (by omega) (u : Int) (by omega) (by omega)
      have hsz : 1 + (Vb.txt (u : Int)).size ≤ 9223372036854775807 := by
        have := txt_le (u : Int)
        omega
      refine Ev.step (fun k => by simp only [intaglioref17_Text.j0, Bool.false_eq_true, if_false, e1, e2, if_true, Int.neg_neg, show wrap64 (u : Int) = (u : Int) from wL (by omega) (by omega)]; exact rfl) ?_
      exact Ev.bind ha (by simp only [hsz, if_true, txt_minus u (by omega)]; exact Ev.now _)
    · have e2 : (-(u : Int) > -10) = False := eq_false (by omega)
      have e3 : Int.tdiv (-(u : Int)) 10 = -((u / 10 : Nat) : Int) := by rw [Int.neg_tdiv]; rfl
      have e4 : Int.tmod (-(u : Int)) 10 = -((u % 10 : Nat) : Int) := by rw [Int.neg_tmod]; rfl
      have ha := ih (2 * (u / 10) + 1) (by omega) (-((u / 10 : Nat) : Int)) (by omega) (by omega)
      have hb := ih (2 * (u % 10)) (by omega) ((u % 10 : Nat) : Int) (by omega) (by omega)
      have hsz : (Vb.txt (-((u / 10 : Nat) : Int))).size + (Vb.txt ((u % 10 : Nat) : Int)).size ≤ 9223372036854775807 := by
        have := txt_le (-((u / 10 : Nat) : Int))
        have := txt_le ((u % 10 : Nat) : Int)
        omega
      refine Ev.step (fun k => by simp only [intaglioref17_Text.j0, Bool.false_eq_true, if_false, e1, e2, e3, e4, Int.neg_neg, show wrap64 (-((u / 10 : Nat) : Int)) = -((u / 10 : Nat) : Int) from wL (by omega) (by omega), show wrap64 ((u % 10 : Nat) : Int) = ((u % 10 : Nat) : Int) from wL (by omega) (by omega)]; exact rfl) ?_
      exact Ev.bind ha (Ev.bind hb (by simp only [hsz, if_true, txt_minus10 u (by omega)]; exact Ev.now _))
theorem text_ev (n : Int) (h0 : -9223372036854775808 ≤ n) (h1 : n ≤ 9223372036854775807) : Ev (fun k => intaglioref17_Text.f k n) (Vb.txt n) := rtext_ev (2 * n.natAbs + 1) n (by omega) ⟨h0, h1⟩
/-- A text of the reference's. -/
theorem rbulk_ev (a : ByteArray) (h : (bulkL a.data.toList).length ≤ 9000000000000000000) : Ev (fun k => intaglioref19_bulk.f k a) ⟨(bulkL a.data.toList).toArray⟩ := by
  have hb := bulk_eq a h
  have hlen : a.data.toList.length = a.size := Array.length_toList
  have hle : a.size ≤ 9000000000000000000 := by
    unfold bulkL at h
    simp only [List.length_cons, List.length_append, List.length_nil, hlen] at h
    omega
  unfold resp_bulk.f verb_Text.f at hb
  rw [if_pos ⟨by omega, by omega⟩] at hb
  simp only [Option.bind_some] at hb
  exact ev_call (fun k => by unfold intaglioref19_bulk.f; exact rfl) (text_ev (a.size : Int) (by omega) (by omega)) (by simp only [hb]; exact Ev.now _)
theorem rcommand_l0 (l : List ByteArray) (hz : (cmdL l).length ≤ 140737488355328) (hl : l.length ≤ 1000000) : ∀ (n i : Nat), i + n = l.length →
    Ev (fun k => intaglioref19_Command.l0 k l ⟨(cmdHead l ++ (l.take i).flatMap (fun a => bulkL a.data.toList)).toArray⟩ (i : Int)) ⟨(cmdL l).toArray⟩
  | 0, i, h => by
    have e : ((i : Int) < (l.length : Int)) = False := eq_false (by omega)
    refine Ev.step (f := fun _ => some ⟨(cmdL l).toArray⟩) (fun k => by
      simp only [intaglioref19_Command.l0, e, if_false]
      rw [List.take_of_length_le (by omega)]
      rfl) (Ev.now _)
  | n + 1, i, h => by
    have hil : i < l.length := by omega
    have e : ((i : Int) < (l.length : Int)) = True := eq_true (by omega)
    have e0 : ((0 : Int) ≤ (i : Int)) = True := eq_true (by omega)
    obtain ⟨s1, s2, s3⟩ := cmd_step l i hil hz
    have hA : rdOf ByteArray.empty l (i : Int) = l[i] := by unfold rdOf; rw [Int.toNat_natCast, List.getD_eq_getElem?_getD, List.getElem?_eq_getElem hil]; rfl
    have hsz : (⟨(cmdHead l ++ (l.take i).flatMap (fun a => bulkL a.data.toList)).toArray⟩ : ByteArray).size + (⟨(bulkL l[i].data.toList).toArray⟩ : ByteArray).size ≤ 9223372036854775807 := by rw [bsz, bsz]; omega
    have ih := rcommand_l0 l hz hl n (i + 1) (by omega)
    refine Ev.step (fun k => by simp only [intaglioref19_Command.l0, e, e0, if_true, hA]; exact rfl) ?_
    refine Ev.bind (rbulk_ev l[i] (by omega)) ?_
    simp only [hsz, if_true, bapp, s1, show wrap64 ((i : Int) + 1) = ((i + 1 : Nat) : Int) by rw [wB (by omega) (by omega)]; omega]
    exact ih
theorem rcommand_ev (l : List ByteArray) (hz : (cmdL l).length ≤ 140737488355328) (hl : l.length ≤ 1000000) : Ev (fun k => intaglioref19_Command.f k l) ⟨(cmdL l).toArray⟩ := by
  have hh := head_eq (l := l) rfl
  have hs := txt_le (l.length : Int)
  have e1 : 1 + (Vb.txt (l.length : Int)).size ≤ 9223372036854775807 := by omega
  have e2 : 1 + (Vb.txt (l.length : Int)).size + 2 ≤ 9223372036854775807 := by omega
  refine ev_call (fun k => by unfold intaglioref19_Command.f; exact rfl) (text_ev (l.length : Int) (by omega) (by omega)) ?_
  simp only [e1, e2, if_true, hh]
  have := rcommand_l0 l hz hl l.length 0 (by omega)
  simpa using this
theorem same_ev (l : List ByteArray) (hn : l.length ≤ 1000000) : ∀ (n i : Nat), i + n = l.length → Ev (fun k => intaglioref17_Same.l0 k l l (i : Int)) true
  | 0, i, h => by
    have e : ((i : Int) < (l.length : Int)) = False := eq_false (by omega)
    exact Ev.step (f := fun _ => some true) (fun k => by simp only [intaglioref17_Same.l0, e, if_false]) (Ev.now _)
  | n + 1, i, h => by
    have e : ((i : Int) < (l.length : Int)) = True := eq_true (by omega)
    have e0 : ((0 : Int) ≤ (i : Int)) = True := eq_true (by omega)
    have ih := same_ev l hn n (i + 1) (by omega)
    exact Ev.step (f := fun k => intaglioref17_Same.l0 k l l ((i + 1 : Nat) : Int)) (fun k => by simp only [intaglioref17_Same.l0, e, e0, if_true, show wrap64 ((i : Int) + 1) = ((i + 1 : Nat) : Int) by rw [wI (by omega) (by omega)]; omega]) ih
theorem same_refl (l : List ByteArray) (hn : l.length ≤ 1000000) : Ev (fun k => intaglioref17_Same.f k l l) true :=
  Ev.congr (fun k => by unfold intaglioref17_Same.f; rw [if_pos rfl]; rfl) (same_ev l hn l.length 0 (by omega))
end Go.Proofs.YtbfbmgkgaokecaaDoor.PS
