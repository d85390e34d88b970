/- Layer 19: what the reference's parser tells is what PlV says: commands, all. -/
import Derived.Test.YtbfbmgkgaokecaaDoorPlR2
namespace Go.Proofs.YtbfbmgkgaokecaaDoor.PS
open Go.RowKit Go.Proofs.YtbfbmgkgaokecaaDoorW.PrintWords Go.Proofs.YtbfbmgkgaokecaaDoorW.PrintLast Go.Proofs.YtbfbmgkgaokecaaDoorW.PrintMore
set_option linter.unusedVariables false
set_option linter.unusedSimpArgs false

/-- A command's answer, in the reference's words. -/
def toC (x : List ByteArray × List UInt8 × Int) : List (List ByteArray) × Int × Int := if x.2.2 = 0 then ([x.1], 0, (x.2.1.length : Int)) else ([], x.2.2, 0)
theorem rl0_err (x0 : ByteArray) (x3 e : Int) (he : e ≠ 0) (acc : List ByteArray) (i : Int) : Ev (fun k => intaglioref19_command.l0 k x0 x3 e acc i) ([], e, 0) := by
  have d1 : (e == 0) = false := beq_eq_false_iff_ne.mpr he
  have d2 := eq_false he
  have h1 : Ev (fun k => intaglioref19_command.j1 k x0 x3 e acc i false) ([], e, 0) := Ev.step (f := fun _ => some ([], e, 0)) (fun k => by simp only [intaglioref19_command.j1, Bool.false_eq_true, if_false, d2]) (Ev.now _)
  by_cases hi : i < x3
  · have d3 := eq_true hi
    exact Ev.step (f := fun k => intaglioref19_command.j1 k x0 x3 e acc i false) (fun k => by simp only [intaglioref19_command.l0, d3, if_true, d1]) h1
  · have d3 := eq_false hi
    exact Ev.step (f := fun k => intaglioref19_command.j1 k x0 x3 e acc i false) (fun k => by simp only [intaglioref19_command.l0, d3, if_false]) h1
theorem rl0_words : ∀ (n : Nat) (l : List UInt8) (acc : List ByteArray) (i m : Nat), m = i + n → m ≤ 1000 → acc.length ≤ i → l.length ≤ 1000000 →
    Ev (fun k => intaglioref19_command.l0 k ⟨l.toArray⟩ (m : Int) 0 acc (i : Int)) (toC (wrds n l acc)) := by
  intro n
  induction n with
  | zero =>
    intro l acc i m hm h1 h2 hl
    have d1 : ((i : Int) < (m : Int)) = False := eq_false (by omega)
    rw [wrds]
    refine Ev.step (f := fun k => intaglioref19_command.j1 k ⟨l.toArray⟩ (m : Int) 0 acc (i : Int) false) (fun k => by simp only [intaglioref19_command.l0, d1, if_false]) ?_
    exact Ev.step (f := fun _ => some ([acc], 0, (l.length : Int))) (fun k => by simp only [intaglioref19_command.j1, Bool.false_eq_true, if_false, if_true, bsz]) (Ev.now _)
  | succ n ih =>
    intro l acc i m hm h1 h2 hl
    have d1 : ((i : Int) < (m : Int)) = True := eq_true (by omega)
    have d0 : ((0 : Int) == 0) = true := rfl
    have Wi : Aside0 (wrap64 ((i : Int) + 1) = ((i + 1 : Nat) : Int)) := ⟨by rw [wI (by omega) (by omega)]; omega⟩
    have hc := rcnt_ev 36 512 l hl
    refine Ev.step (f := fun k => intaglioref19_command.j1 k ⟨l.toArray⟩ (m : Int) 0 acc (i : Int) true) (fun k => by simp only [intaglioref19_command.l0, d1, if_true, d0]) ?_
    refine Ev.step (fun k => by simp only [intaglioref19_command.j1, if_true]; exact rfl) ?_
    refine Ev.bind hc ?_
    have e3 : (3 : Int) ≠ 0 := by decide
    have e4 : (4 : Int) ≠ 0 := by decide
    have z3 : ((3 : Int) = 0) = False := eq_false e3
    have z4 : ((4 : Int) = 0) = False := eq_false e4
    by_cases h0 : (cnt 36 512 l).2.2 = 0
    · have hk := cnt_ok h0
      obtain ⟨n', hn⟩ : ∃ n' : Nat, (cnt 36 512 l).1 = (n' : Int) := ⟨_, (Int.toNat_of_nonneg hk.2.1).symm⟩
      obtain ⟨R, hR⟩ : ∃ R, (cnt 36 512 l).2.1 = R := ⟨_, rfl⟩
      rw [hn, hR] at hk
      have ew : wrd l = if R.length < n' + 2 then (⟨#[]⟩, [], 4) else if (R.drop n').take 2 = [13, 10] then (⟨(R.take n').toArray⟩, R.drop (n' + 2), 0) else (⟨#[]⟩, [], 3) := by
        unfold wrd; rw [if_pos h0, hn, hR, Int.toNat_natCast]
      have W2 : Aside0 (wrap64 ((n' : Int) + 2) = ((n' + 2 : Nat) : Int)) := ⟨by rw [wI (by omega) (by omega)]; omega⟩
      simp only [toB, h0, hn, hR, if_true, W2.out, bsz]
      by_cases hlt : R.length < n' + 2
      · have d2 : decide ((R.length : Int) < ((n' + 2 : Nat) : Int)) = true := decide_eq_true (by omega)
        rw [if_pos hlt] at ew
        have er : toC (wrds (n + 1) l acc) = ([], 4, 0) := by rw [wrds, ew]; rfl
        rw [er]
        simp only [d2]
        refine Ev.step (f := fun k => intaglioref19_command.j3 k ⟨R.toArray⟩ (m : Int) 4 acc (i : Int) (n' : Int)) (fun k => by simp only [intaglioref19_command.j2, if_true]) ?_
        refine Ev.step (f := fun k => intaglioref19_command.j4 k ⟨R.toArray⟩ (m : Int) 4 acc (i : Int) (n' : Int) false) (fun k => by simp only [intaglioref19_command.j3, z4, if_false]) ?_
        refine Ev.step (f := fun k => intaglioref19_command.l0 k ⟨R.toArray⟩ (m : Int) 4 acc ((i + 1 : Nat) : Int)) (fun k => by simp only [intaglioref19_command.j4, Bool.false_eq_true, if_false, z4, Wi.out]) ?_
        exact rl0_err _ _ _ e4 _ _
      · have d2 : decide ((R.length : Int) < ((n' + 2 : Nat) : Int)) = false := decide_eq_false (by omega)
        rw [if_neg hlt] at ew
        have b1 : ((0 : Int) ≤ (n' : Int)) = True := eq_true (by omega)
        have b2 : ((n' : Int) ≤ ((n' + 2 : Nat) : Int)) = True := eq_true (by omega)
        have b3 : (((n' + 2 : Nat) : Int) ≤ (R.length : Int)) = True := eq_true (by omega)
        have b4 : ((n' : Int) ≤ (R.length : Int)) = True := eq_true (by omega)
        have b5 : ((0 : Int) ≤ ((n' + 2 : Nat) : Int)) = True := eq_true (by omega)
        have b6 : (acc.length < 8796093022208) = True := eq_true (by omega)
        have x1 : (⟨R.toArray⟩ : ByteArray).extract n' (n' + 2) = ⟨((R.drop n').take 2).toArray⟩ := by rw [bex]; congr 3; omega
        have x2 : (⟨R.toArray⟩ : ByteArray).extract 0 n' = ⟨(R.take n').toArray⟩ := by rw [bex, List.drop_zero, Nat.sub_zero]
        have x3 : (⟨R.toArray⟩ : ByteArray).extract (n' + 2) R.length = ⟨(R.drop (n' + 2)).toArray⟩ := by
          rw [bex]
          congr 2
          exact List.take_of_length_le (by rw [List.length_drop]; omega)
        simp only [d2]
        refine Ev.step (f := fun k => intaglioref19_command.j3 k ⟨R.toArray⟩ (m : Int) 0 acc (i : Int) (n' : Int)) (fun k => by simp only [intaglioref19_command.j2, Bool.false_eq_true, if_false]) ?_
        by_cases he : (R.drop n').take 2 = [13, 10]
        · have d3 : ((R.drop n').take 2 != [13, 10]) = false := by rw [he]; rfl
          rw [if_pos he] at ew
          have er : wrds (n + 1) l acc = wrds n (R.drop (n' + 2)) (acc ++ [⟨(R.take n').toArray⟩]) := by rw [wrds, ew]; rfl
          rw [er]
          refine Ev.step (f := fun k => intaglioref19_command.j4 k ⟨R.toArray⟩ (m : Int) 0 acc (i : Int) (n' : Int) false) (fun k => by simp only [intaglioref19_command.j3, if_true, b1, W2.out, b2, b3, bsz, Int.toNat_natCast, x1, btl, d3]) ?_
          refine Ev.step (f := fun k => intaglioref19_command.l0 k ⟨(R.drop (n' + 2)).toArray⟩ (m : Int) 0 (acc ++ [⟨(R.take n').toArray⟩]) ((i + 1 : Nat) : Int)) (fun k => by simp only [intaglioref19_command.j4, Bool.false_eq_true, if_false, if_true, b1, W2.out, b3, b4, b5, b6, bsz, Int.toNat_natCast, x2, x3, Wi.out]) ?_
          exact ih _ _ (i + 1) m (by omega) h1 (by rw [List.length_append, List.length_singleton]; omega) (by rw [List.length_drop]; omega)
        · have d3 : ((R.drop n').take 2 != [13, 10]) = true := bne_iff_ne.mpr he
          rw [if_neg he] at ew
          have er : toC (wrds (n + 1) l acc) = ([], 3, 0) := by rw [wrds, ew]; rfl
          rw [er]
          refine Ev.step (f := fun k => intaglioref19_command.j4 k ⟨R.toArray⟩ (m : Int) 0 acc (i : Int) (n' : Int) true) (fun k => by simp only [intaglioref19_command.j3, if_true, b1, W2.out, b2, b3, bsz, Int.toNat_natCast, x1, btl, d3]) ?_
          refine Ev.step (f := fun k => intaglioref19_command.l0 k ⟨R.toArray⟩ (m : Int) 3 acc ((i + 1 : Nat) : Int)) (fun k => by simp only [intaglioref19_command.j4, if_true, z3, show ((3 : Nat) = 0) = False from eq_false (by decide), if_false, Wi.out]) ?_
          exact rl0_err _ _ _ e3 _ _
    · have ew : wrd l = (⟨#[]⟩, [], (cnt 36 512 l).2.2) := by unfold wrd; rw [if_neg h0]
      have z0 := eq_false h0
      have er : toC (wrds (n + 1) l acc) = ([], (cnt 36 512 l).2.2, 0) := by rw [wrds, ew]; dsimp only; rw [if_neg h0]; unfold toC; dsimp only; rw [if_neg h0]
      rw [er]
      simp only [toB, z0, if_false]
      refine Ev.step (f := fun k => intaglioref19_command.j3 k ⟨(cnt 36 512 l).2.1.toArray⟩ (m : Int) (cnt 36 512 l).2.2 acc (i : Int) (cnt 36 512 l).1) (fun k => by simp only [intaglioref19_command.j2, Bool.false_eq_true, if_false]) ?_
      refine Ev.step (f := fun k => intaglioref19_command.j4 k ⟨(cnt 36 512 l).2.1.toArray⟩ (m : Int) (cnt 36 512 l).2.2 acc (i : Int) (cnt 36 512 l).1 false) (fun k => by simp only [intaglioref19_command.j3, z0, if_false]) ?_
      refine Ev.step (f := fun k => intaglioref19_command.l0 k ⟨(cnt 36 512 l).2.1.toArray⟩ (m : Int) (cnt 36 512 l).2.2 acc ((i + 1 : Nat) : Int)) (fun k => by simp only [intaglioref19_command.j4, Bool.false_eq_true, if_false, z0, Wi.out]) ?_
      exact rl0_err _ _ _ h0 _ _
theorem rcmd_ev (l : List UInt8) (hl : l.length ≤ 1000000) : Ev (fun k => intaglioref19_command.f k ⟨l.toArray⟩) (toC (cmd l)) := by
  refine ev_call (fun k => by unfold intaglioref19_command.f; exact rfl) (rcnt_ev 42 40 l hl) ?_
  by_cases h0 : (cnt 42 40 l).2.2 = 0
  · have hk := cnt_ok h0
    obtain ⟨n', hn⟩ : ∃ n' : Nat, (cnt 42 40 l).1 = (n' : Int) := ⟨_, (Int.toNat_of_nonneg hk.2.1).symm⟩
    have ec : cmd l = wrds n' (cnt 42 40 l).2.1 [] := by unfold cmd; rw [if_pos h0, hn, Int.toNat_natCast]
    rw [hn] at hk
    rw [ec]
    simp only [toB, h0, hn]
    exact rl0_words n' _ [] 0 n' (by omega) (by omega) (Nat.le_refl _) (by omega)
  · have ec : cmd l = ([], [], (cnt 42 40 l).2.2) := by unfold cmd; rw [if_neg h0]
    have er : toC (cmd l) = ([], (cnt 42 40 l).2.2, 0) := by rw [ec]; unfold toC; dsimp only; rw [if_neg h0]
    rw [er]
    simp only [toB]
    exact rl0_err _ _ _ h0 _ _
theorem cnt_suffix (sg : UInt8) (most : Int) (l : List UInt8) (h : (cnt sg most l).2.2 = 0) : ∃ p, p ++ (cnt sg most l).2.1 = l := by
  revert h
  unfold cnt
  split
  · dsimp only
    split
    · intro h; exact absurd h (by decide)
    · intro h; exact absurd h (by decide)
  · intro h
    rw [(cntAt_ok h).2.1]
    exact ⟨_, List.take_append_drop _ l⟩
theorem wrd_suffix (l : List UInt8) (h : (wrd l).2.2 = 0) : ∃ p, p ++ (wrd l).2.1 = l := by
  revert h
  unfold wrd
  split
  · rename_i h0
    obtain ⟨p, hp⟩ := cnt_suffix 36 512 l h0
    split
    · intro h; exact absurd h (by decide)
    · split
      · intro _
        dsimp only
        refine ⟨p ++ (cnt 36 512 l).2.1.take ((cnt 36 512 l).1.toNat + 2), ?_⟩
        rw [List.append_assoc, List.take_append_drop, hp]
      · intro h; exact absurd h (by decide)
  · rename_i h0
    intro h; exact absurd h h0
theorem wrds_suffix : ∀ (n : Nat) (l : List UInt8) (acc : List ByteArray), (wrds n l acc).2.2 = 0 → ∃ p, p ++ (wrds n l acc).2.1 = l
  | 0, l, acc, _ => ⟨[], rfl⟩
  | n + 1, l, acc, h => by
    rw [wrds] at h ⊢
    by_cases h0 : (wrd l).2.2 = 0
    · rw [if_pos h0] at h ⊢
      obtain ⟨p, hp⟩ := wrds_suffix n _ _ h
      obtain ⟨q, hq⟩ := wrd_suffix l h0
      exact ⟨q ++ p, by rw [List.append_assoc, hp, hq]⟩
    · rw [if_neg h0] at h
      exact absurd h h0
theorem cmd_suffix (l : List UInt8) (h : (cmd l).2.2 = 0) : ∃ p, p ++ (cmd l).2.1 = l := by
  revert h
  unfold cmd
  split
  · rename_i h0
    intro h
    obtain ⟨p, hp⟩ := wrds_suffix _ _ _ h
    obtain ⟨q, hq⟩ := cnt_suffix 42 40 l h0
    exact ⟨q ++ p, by rw [List.append_assoc, hp, hq]⟩
  · rename_i h0
    intro h
    exact absurd h h0
/-- All, in the reference's words. -/
def toP (x : List (List ByteArray) × Int × List UInt8) : List (List ByteArray) × Int × Int := (x.1, x.2.1, (x.2.2.length : Int))
theorem rparse_l0 (L : List UInt8) (hL : L.length ≤ 1000000) : ∀ (k i : Nat) (acc : List (List ByteArray)), i ≤ L.length → (L.drop i).length < k → acc.length ≤ i →
    Ev (fun n => intaglioref19_Parse.l0 n ⟨L.toArray⟩ (i : Int) acc 0 0) (toP (prs k (L.drop i) acc))
  | 0, _, _, _, h, _ => absurd h (by omega)
  | k + 1, i, acc, hi, hk, ha => by
    have hc := rcmd_ev (L.drop i) (by rw [List.length_drop]; omega)
    have d1 : ((i : Int) ≤ (L.length : Int)) = True := eq_true (by omega)
    have d2 : ((0 : Int) ≤ (i : Int)) = True := eq_true (by omega)
    have ex : (⟨L.toArray⟩ : ByteArray).extract i L.length = ⟨(L.drop i).toArray⟩ := by
      rw [bex]
      congr 2
      exact List.take_of_length_le (by rw [List.length_drop]; omega)
    rw [List.length_drop] at hk
    refine Ev.step (fun n => by simp only [intaglioref19_Parse.l0, bsz, d1, d2, if_true, Int.toNat_natCast, ex]; exact rfl) ?_
    refine Ev.bind hc ?_
    rw [prs]
    by_cases h4 : (cmd (L.drop i)).2.2 = 4
    · have z : (cmd (L.drop i)).2.2 ≠ 0 := by rw [h4]; decide
      have et : toC (cmd (L.drop i)) = ([], 4, 0) := by unfold toC; rw [if_neg z, h4]
      rw [et, if_pos h4]
      simp only [if_true]
      have : toP (acc, 0, L.drop i) = (acc, 0, wrap64 ((L.length : Int) - (i : Int))) := by
        unfold toP
        dsimp only
        rw [List.length_drop, wI (by omega) (by omega)]
        congr 2
        omega
      rw [this]
      exact Ev.now _
    · by_cases h0 : (cmd (L.drop i)).2.2 = 0
      · have hok := cmd_ok h0
        rw [List.length_drop] at hok
        have et : toC (cmd (L.drop i)) = ([(cmd (L.drop i)).1], 0, ((cmd (L.drop i)).2.1.length : Int)) := by unfold toC; rw [if_pos h0]
        obtain ⟨R, hR⟩ : ∃ R, (cmd (L.drop i)).2.1 = R := ⟨_, rfl⟩
        obtain ⟨C, hC⟩ : ∃ C, (cmd (L.drop i)).1 = C := ⟨_, rfl⟩
        have hsuf : R = L.drop (L.length - R.length) := by
          have hd := cmd_suffix (L.drop i) h0
          rw [hR] at hd
          obtain ⟨p, hp⟩ := hd
          have hp2 : L = (L.take i ++ p) ++ R := by rw [List.append_assoc, hp, List.take_append_drop]
          have hlen := congrArg List.length hp2
          rw [List.length_append] at hlen
          have : L.length - R.length = (L.take i ++ p).length := by omega
          rw [this]
          have hdl := List.drop_left' (l₁ := L.take i ++ p) (l₂ := R) rfl
          rw [← hp2] at hdl
          exact hdl.symm
        rw [et, if_neg h4, if_pos h0, hR, hC]
        rw [hR] at hok
        have z1 : ((0 : Int) = 4) = False := eq_false (by decide)
        have z2 : ((0 : Int) < (([C] : List (List ByteArray)).length : Int)) = True := eq_true (by simp)
        have hrd : rd_L10 [C] 0 = C := rfl
        have Wz : Aside0 (wrap64 (wrap64 (wrap64 ((L.length : Int) - (R.length : Int)) - 1) + 1) = ((L.length - R.length : Nat) : Int)) := ⟨by
          rw [show wrap64 ((L.length : Int) - (R.length : Int)) = (L.length : Int) - (R.length : Int) from wI (by omega) (by omega), show wrap64 ((L.length : Int) - (R.length : Int) - 1) = (L.length : Int) - (R.length : Int) - 1 from wI (by omega) (by omega), wI (by omega) (by omega)]
          omega⟩
        have hdr : (L.drop (L.length - R.length)).length = R.length := by rw [← hsuf]
        by_cases hc0 : 0 < C.length
        · have z3 : ((C.length : Int) > 0) = True := eq_true (by omega)
          have z4 : (acc.length < 5864062014805) = True := eq_true (by omega)
          rw [if_pos hc0]
          simp only [z1, if_false, if_true, z2, hrd, z3, z4, Wz.out]
          have ih := rparse_l0 L hL k (L.length - R.length) (acc ++ [C]) (by omega) (by rw [hdr]; omega) (by rw [List.length_append, List.length_singleton]; omega)
          rw [← hsuf] at ih
          exact ih
        · have z3 : ((C.length : Int) > 0) = False := eq_false (by omega)
          rw [if_neg hc0]
          simp only [z1, if_false, if_true, z2, hrd, z3, Wz.out]
          have ih := rparse_l0 L hL k (L.length - R.length) acc (by omega) (by rw [hdr]; omega) (by omega)
          rw [← hsuf] at ih
          exact ih
      · have et : toC (cmd (L.drop i)) = ([], (cmd (L.drop i)).2.2, 0) := by unfold toC; rw [if_neg h0]
        have z0 := eq_false h0
        have z4 := eq_false h4
        rw [et, if_neg h4, if_neg h0]
        simp only [z0, z4, if_false]
        exact Ev.now _
theorem rparse_ev (L : List UInt8) (hL : L.length ≤ 1000000) : Ev (fun n => intaglioref19_Parse.f n ⟨L.toArray⟩) ((parse L).1, (parse L).2.1, ((parse L).2.2.length : Int)) := by
  have := rparse_l0 L hL (L.length + 1) 0 [] (Nat.zero_le _) (by rw [List.drop_zero]; omega) (Nat.le_refl _)
  rw [List.drop_zero] at this
  exact this
end Go.Proofs.YtbfbmgkgaokecaaDoor.PS
