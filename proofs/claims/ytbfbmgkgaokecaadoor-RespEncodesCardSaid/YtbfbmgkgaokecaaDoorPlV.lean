/- Layer 19: what a parser tells, plainly: the answer, and that more bytes do not change what was told. -/
import Derived.Test.YtbfbmgkgaokecaaDoorSq7
import Derived.Lib.Bytealg
namespace Go.Proofs.YtbfbmgkgaokecaaDoor.PS
set_option linter.unusedVariables false
set_option linter.unusedSimpArgs false

/-- The number of a line (sg: its sign) with which bytes begin, what stands behind it, the error. -/
def cntAt (sg : UInt8) (most : Int) (l : List UInt8) (i : Nat) : Int × List UInt8 × Int :=
  if 3 ≤ i ∧ i ≤ 11 ∧ l[i - 1]? = some 13 ∧ l.head? = some sg then
    match Vb.intS ⟨((l.take (i - 1)).drop 1).toArray⟩ with
    | none => (0, [], 3)
    | some x => if x < 0 then (0, [], 3) else if most < x then (0, [], 5) else (x, l.drop (i + 1), 0)
  else (0, [], 3)
def cnt (sg : UInt8) (most : Int) (l : List UInt8) : Int × List UInt8 × Int :=
  if Lib.indexByte (l.take 16) 10 < 0 then (0, [], if 16 ≤ l.length then 3 else 4) else cntAt sg most l (Lib.indexByte (l.take 16) 10).toNat
/-- A word. -/
def wrd (l : List UInt8) : ByteArray × List UInt8 × Int :=
  if (cnt 36 512 l).2.2 = 0 then
    if (cnt 36 512 l).2.1.length < (cnt 36 512 l).1.toNat + 2 then (⟨#[]⟩, [], 4)
    else if ((cnt 36 512 l).2.1.drop (cnt 36 512 l).1.toNat).take 2 = [13, 10] then (⟨((cnt 36 512 l).2.1.take (cnt 36 512 l).1.toNat).toArray⟩, (cnt 36 512 l).2.1.drop ((cnt 36 512 l).1.toNat + 2), 0)
    else (⟨#[]⟩, [], 3)
  else (⟨#[]⟩, [], (cnt 36 512 l).2.2)
def wrds : Nat → List UInt8 → List ByteArray → List ByteArray × List UInt8 × Int
  | 0, l, acc => (acc, l, 0)
  | n + 1, l, acc => if (wrd l).2.2 = 0 then wrds n (wrd l).2.1 (acc ++ [(wrd l).1]) else ([], [], (wrd l).2.2)
/-- A command. -/
def cmd (l : List UInt8) : List ByteArray × List UInt8 × Int :=
  if (cnt 42 40 l).2.2 = 0 then wrds (cnt 42 40 l).1.toNat (cnt 42 40 l).2.1 [] else ([], [], (cnt 42 40 l).2.2)
/-- All whole commands, the fault, what is left. -/
def prs : Nat → List UInt8 → List (List ByteArray) → List (List ByteArray) × Int × List UInt8
  | 0, l, acc => (acc, 0, l)
  | k + 1, l, acc => if (cmd l).2.2 = 4 then (acc, 0, l) else if (cmd l).2.2 = 0 then prs k (cmd l).2.1 (if 0 < (cmd l).1.length then acc ++ [(cmd l).1] else acc) else (acc, (cmd l).2.2, [])
def parse (l : List UInt8) : List (List ByteArray) × Int × List UInt8 := prs (l.length + 1) l []

/-- The error is one of five. -/
theorem cntAt_err (sg : UInt8) (most : Int) (l : List UInt8) (i : Nat) : (cntAt sg most l i).2.2 = 0 ∨ (cntAt sg most l i).2.2 = 3 ∨ (cntAt sg most l i).2.2 = 5 := by
  unfold cntAt
  split
  · split
    · exact .inr (.inl rfl)
    · split
      · exact .inr (.inl rfl)
      · split
        · exact .inr (.inr rfl)
        · exact .inl rfl
  · exact .inr (.inl rfl)
theorem cntAt_ok {sg : UInt8} {most : Int} {l : List UInt8} {i : Nat} (h : (cntAt sg most l i).2.2 = 0) : 3 ≤ i ∧ (cntAt sg most l i).2.1 = l.drop (i + 1) ∧ 0 ≤ (cntAt sg most l i).1 ∧ (cntAt sg most l i).1 ≤ most := by
  revert h
  unfold cntAt
  split
  · rename_i hc
    split
    · intro h; exact absurd h (by decide)
    · split
      · intro h; exact absurd h (by decide)
      · split
        · intro h; exact absurd h (by decide)
        · intro _; exact ⟨hc.1, rfl, by omega, by omega⟩
  · intro h; exact absurd h (by decide)
theorem cntAt_app (sg : UInt8) (most : Int) (l t : List UInt8) (i : Nat) (hi : i < l.length) : cntAt sg most (l ++ t) i = ((cntAt sg most l i).1, if (cntAt sg most l i).2.2 = 0 then (cntAt sg most l i).2.1 ++ t else [], (cntAt sg most l i).2.2) := by
  have h1 : (l ++ t)[i - 1]? = l[i - 1]? := List.getElem?_append_left (by omega)
  have h2 : (l ++ t).head? = l.head? := by
    cases l with
    | nil => simp at hi
    | cons a l => rfl
  have h3 : (l ++ t).take (i - 1) = l.take (i - 1) := by rw [List.take_append_of_le_length (by omega)]
  have h4 : (l ++ t).drop (i + 1) = l.drop (i + 1) ++ t := by rw [List.drop_append_of_le_length (by omega)]
  unfold cntAt
  rw [h1, h2, h3, h4]
  split
  · split
    · simp
    · split
      · simp
      · split
        · simp
        · simp
  · simp
theorem indexByte_lt : ∀ (l : List UInt8) (c : UInt8), Lib.indexByte l c < l.length
  | [], _ => by simp [Lib.indexByte]
  | b :: l, c => by
    have := indexByte_lt l c
    simp only [Lib.indexByte, List.length_cons]
    split
    · omega
    · split
      · omega
      · omega
theorem indexByte_ge1 : ∀ (l : List UInt8) (c : UInt8), -1 ≤ Lib.indexByte l c
  | [], _ => by simp [Lib.indexByte]
  | b :: l, c => by
    have := indexByte_ge1 l c
    simp only [Lib.indexByte]
    split
    · omega
    · split
      · omega
      · omega
theorem indexByte_app : ∀ (l t : List UInt8) (c : UInt8), 0 ≤ Lib.indexByte l c → Lib.indexByte (l ++ t) c = Lib.indexByte l c
  | [], _, _ => by simp [Lib.indexByte]
  | b :: l, t, c => by
    have ih := indexByte_app l t c
    have := indexByte_ge1 l c
    simp only [Lib.indexByte, List.cons_append, beq_iff_eq]
    split
    · intro _; rfl
    · split
      · intro h; omega
      · intro h
        have e := ih (by omega)
        rw [e, if_neg (by omega)]
theorem cnt_err (sg : UInt8) (most : Int) (l : List UInt8) : (cnt sg most l).2.2 = 0 ∨ (cnt sg most l).2.2 = 3 ∨ (cnt sg most l).2.2 = 4 ∨ (cnt sg most l).2.2 = 5 := by
  unfold cnt
  split
  · dsimp only
    split
    · exact .inr (.inl rfl)
    · exact .inr (.inr (.inl rfl))
  · rcases cntAt_err sg most l (Lib.indexByte (l.take 16) 10).toNat with h | h | h
    · exact .inl h
    · exact .inr (.inl h)
    · exact .inr (.inr (.inr h))
theorem cnt_ok {sg : UInt8} {most : Int} {l : List UInt8} (h : (cnt sg most l).2.2 = 0) : (cnt sg most l).2.1.length + 4 ≤ l.length ∧ 0 ≤ (cnt sg most l).1 ∧ (cnt sg most l).1 ≤ most := by
  revert h
  unfold cnt
  split
  · dsimp only
    split
    · intro h; exact absurd h (by decide)
    · intro h; exact absurd h (by decide)
  · intro h
    obtain ⟨h1, h2, h3, h4⟩ := cntAt_ok h
    have := indexByte_lt (l.take 16) 10
    rw [List.length_take] at this
    rw [h2, List.length_drop]
    exact ⟨by omega, h3, h4⟩
theorem cnt_app (sg : UInt8) (most : Int) (l t : List UInt8) (h : (cnt sg most l).2.2 ≠ 4) : cnt sg most (l ++ t) = ((cnt sg most l).1, if (cnt sg most l).2.2 = 0 then (cnt sg most l).2.1 ++ t else [], (cnt sg most l).2.2) := by
  revert h
  by_cases hn : Lib.indexByte (l.take 16) 10 < 0
  · have e : cnt sg most l = (0, [], if 16 ≤ l.length then 3 else 4) := by unfold cnt; rw [if_pos hn]
    rw [e]
    by_cases hl : 16 ≤ l.length
    · rw [if_pos hl]
      intro _
      have e2 : (l ++ t).take 16 = l.take 16 := by rw [List.take_append_of_le_length hl]
      unfold cnt
      rw [e2, if_pos hn, if_pos (by rw [List.length_append]; omega)]
      simp
    · rw [if_neg hl]
      intro h
      exact absurd rfl h
  · intro _
    have hlt := indexByte_lt (l.take 16) 10
    rw [List.length_take] at hlt
    have e : cnt sg most l = cntAt sg most l (Lib.indexByte (l.take 16) 10).toNat := by unfold cnt; rw [if_neg hn]
    have e2 : Lib.indexByte ((l ++ t).take 16) 10 = Lib.indexByte (l.take 16) 10 := by
      rw [List.take_append]
      exact indexByte_app _ _ _ (by omega)
    have e3 : cnt sg most (l ++ t) = cntAt sg most (l ++ t) (Lib.indexByte (l.take 16) 10).toNat := by unfold cnt; rw [e2, if_neg hn]
    rw [e3, e]
    exact cntAt_app sg most l t _ (by omega)
theorem wrd_err (l : List UInt8) : (wrd l).2.2 = 0 ∨ (wrd l).2.2 = 3 ∨ (wrd l).2.2 = 4 ∨ (wrd l).2.2 = 5 := by
  unfold wrd
  split
  · split
    · exact .inr (.inr (.inl rfl))
    · split
      · exact .inl rfl
      · exact .inr (.inl rfl)
  · exact cnt_err 36 512 l
theorem wrd_ok {l : List UInt8} (h : (wrd l).2.2 = 0) : (wrd l).2.1.length + 6 ≤ l.length := by
  revert h
  unfold wrd
  split
  · rename_i h0
    have := cnt_ok h0
    split
    · intro h; exact absurd h (by decide)
    · split
      · intro _
        dsimp only
        rw [List.length_drop]; omega
      · intro h; exact absurd h (by decide)
  · rename_i h0
    intro h; exact absurd h h0
theorem wrd_app (l t : List UInt8) (h : (wrd l).2.2 ≠ 4) : wrd (l ++ t) = ((wrd l).1, if (wrd l).2.2 = 0 then (wrd l).2.1 ++ t else [], (wrd l).2.2) := by
  by_cases h4 : (cnt 36 512 l).2.2 = 4
  · exact absurd (by unfold wrd; rw [if_neg (by rw [h4]; decide)]; exact h4) h
  · have e := cnt_app 36 512 l t h4
    by_cases h0 : (cnt 36 512 l).2.2 = 0
    · have hk := cnt_ok h0
      rw [if_pos h0] at e
      have ew : wrd l = if (cnt 36 512 l).2.1.length < (cnt 36 512 l).1.toNat + 2 then (⟨#[]⟩, [], 4)
        else if ((cnt 36 512 l).2.1.drop (cnt 36 512 l).1.toNat).take 2 = [13, 10] then (⟨((cnt 36 512 l).2.1.take (cnt 36 512 l).1.toNat).toArray⟩, (cnt 36 512 l).2.1.drop ((cnt 36 512 l).1.toNat + 2), 0)
        else (⟨#[]⟩, [], 3) := by unfold wrd; rw [if_pos h0]
      by_cases hl : (cnt 36 512 l).2.1.length < (cnt 36 512 l).1.toNat + 2
      · rw [if_pos hl] at ew
        rw [ew] at h
        exact absurd rfl h
      · rw [if_neg hl] at ew
        have e1 : (((cnt 36 512 l).2.1 ++ t).drop (cnt 36 512 l).1.toNat).take 2 = ((cnt 36 512 l).2.1.drop (cnt 36 512 l).1.toNat).take 2 := by
          rw [List.drop_append_of_le_length (by omega), List.take_append_of_le_length (by rw [List.length_drop]; omega)]
        have e2 : ((cnt 36 512 l).2.1 ++ t).take (cnt 36 512 l).1.toNat = (cnt 36 512 l).2.1.take (cnt 36 512 l).1.toNat := by rw [List.take_append_of_le_length (by omega)]
        have e3 : ((cnt 36 512 l).2.1 ++ t).drop ((cnt 36 512 l).1.toNat + 2) = (cnt 36 512 l).2.1.drop ((cnt 36 512 l).1.toNat + 2) ++ t := by rw [List.drop_append_of_le_length (by omega)]
        have ea : wrd (l ++ t) = if ((cnt 36 512 l).2.1.drop (cnt 36 512 l).1.toNat).take 2 = [13, 10] then (⟨((cnt 36 512 l).2.1.take (cnt 36 512 l).1.toNat).toArray⟩, (cnt 36 512 l).2.1.drop ((cnt 36 512 l).1.toNat + 2) ++ t, 0)
            else (⟨#[]⟩, [], 3) := by
          unfold wrd
          rw [e]
          dsimp only
          rw [if_pos h0, if_neg (by rw [List.length_append]; omega), e1, e2, e3]
        rw [ea, ew]
        split
        · rw [if_pos rfl]
        · rw [if_neg (by decide)]
    · rw [if_neg h0] at e
      have ew : wrd l = (⟨#[]⟩, [], (cnt 36 512 l).2.2) := by unfold wrd; rw [if_neg h0]
      have ea : wrd (l ++ t) = (⟨#[]⟩, [], (cnt 36 512 l).2.2) := by unfold wrd; rw [e]; dsimp only; rw [if_neg h0]
      rw [ea, ew]
      dsimp only
      rw [if_neg h0]
theorem wrds_ok : ∀ (n : Nat) (l : List UInt8) (acc : List ByteArray), (wrds n l acc).2.2 = 0 → (wrds n l acc).2.1.length ≤ l.length ∧ (wrds n l acc).1.length = acc.length + n
  | 0, l, acc, _ => ⟨Nat.le_refl _, rfl⟩
  | n + 1, l, acc, h => by
    rw [wrds] at h ⊢
    by_cases h0 : (wrd l).2.2 = 0
    · rw [if_pos h0] at h ⊢
      have := wrds_ok n _ _ h
      have h2 := wrd_ok h0
      rw [List.length_append, List.length_singleton] at this
      omega
    · rw [if_neg h0] at h
      exact absurd h h0
theorem wrds_app (t : List UInt8) : ∀ (n : Nat) (l : List UInt8) (acc : List ByteArray), (wrds n l acc).2.2 ≠ 4 → wrds n (l ++ t) acc = ((wrds n l acc).1, if (wrds n l acc).2.2 = 0 then (wrds n l acc).2.1 ++ t else [], (wrds n l acc).2.2)
  | 0, l, acc, _ => by rw [wrds, wrds]; rfl
  | n + 1, l, acc, h => by
    rw [wrds] at h
    rw [wrds, wrds]
    by_cases h0 : (wrd l).2.2 = 0
    · have e := wrd_app l t (by rw [h0]; decide)
      rw [if_pos h0] at h
      rw [e]
      dsimp only
      rw [if_pos h0, if_pos h0, if_pos h0]
      exact wrds_app t n _ _ h
    · rw [if_neg h0] at h
      have e := wrd_app l t h
      rw [e]
      dsimp only
      rw [if_neg h0, if_neg h0]
      dsimp only
      rw [if_neg h0]
theorem cmd_ok {l : List UInt8} (h : (cmd l).2.2 = 0) : (cmd l).2.1.length + 4 ≤ l.length := by
  revert h
  unfold cmd
  split
  · rename_i h0
    intro h
    have := wrds_ok _ _ _ h
    have := cnt_ok h0
    omega
  · rename_i h0
    intro h
    exact absurd h h0
theorem cmd_app (l t : List UInt8) (h : (cmd l).2.2 ≠ 4) : cmd (l ++ t) = ((cmd l).1, if (cmd l).2.2 = 0 then (cmd l).2.1 ++ t else [], (cmd l).2.2) := by
  by_cases h4 : (cnt 42 40 l).2.2 = 4
  · exact absurd (by unfold cmd; rw [if_neg (by rw [h4]; decide)]; exact h4) h
  · have e := cnt_app 42 40 l t h4
    by_cases h0 : (cnt 42 40 l).2.2 = 0
    · have ew : cmd l = wrds (cnt 42 40 l).1.toNat (cnt 42 40 l).2.1 [] := by unfold cmd; rw [if_pos h0]
      rw [ew] at h ⊢
      rw [if_pos h0] at e
      have := wrds_app t _ _ _ h
      rw [← this]
      unfold cmd
      rw [e]
      dsimp only
      rw [if_pos h0]
    · have ew : cmd l = ([], [], (cnt 42 40 l).2.2) := by unfold cmd; rw [if_neg h0]
      rw [ew]
      unfold cmd
      rw [e]
      dsimp only
      rw [if_neg h0, if_neg h0]
theorem cmd_nil : (cmd []).2.2 = 4 := by decide
/-- More rounds than there are bytes make no difference. -/
theorem prs_rounds : ∀ (k j : Nat) (l : List UInt8) (acc : List (List ByteArray)), l.length < k → l.length < j → prs k l acc = prs j l acc
  | 0, _, _, _, h, _ => absurd h (by omega)
  | _ + 1, 0, _, _, _, h => absurd h (by omega)
  | k + 1, j + 1, l, acc, hk, hj => by
    rw [prs, prs]
    by_cases h4 : (cmd l).2.2 = 4
    · rw [if_pos h4, if_pos h4]
    · rw [if_neg h4, if_neg h4]
      by_cases h0 : (cmd l).2.2 = 0
      · rw [if_pos h0, if_pos h0]
        have := cmd_ok h0
        exact prs_rounds k j _ _ (by omega) (by omega)
      · rw [if_neg h0, if_neg h0]
theorem prs_acc : ∀ (k : Nat) (l : List UInt8) (a b : List (List ByteArray)), prs k l (a ++ b) = (a ++ (prs k l b).1, (prs k l b).2)
  | 0, _, _, _ => rfl
  | k + 1, l, a, b => by
    rw [prs, prs]
    by_cases h4 : (cmd l).2.2 = 4
    · rw [if_pos h4, if_pos h4]
    · rw [if_neg h4, if_neg h4]
      by_cases h0 : (cmd l).2.2 = 0
      · rw [if_pos h0, if_pos h0]
        by_cases hc : 0 < (cmd l).1.length
        · rw [if_pos hc, if_pos hc, List.append_assoc]
          exact prs_acc k _ a _
        · rw [if_neg hc, if_neg hc]
          exact prs_acc k _ a b
      · rw [if_neg h0, if_neg h0]
/-- More bytes: what was told stays told; a fault stays; else it goes on from what was left. -/
theorem prs_more (t : List UInt8) : ∀ (k : Nat) (l : List UInt8) (acc : List (List ByteArray)), l.length < k → ∀ j, l.length + t.length < j → prs j (l ++ t) acc =
    if (prs k l acc).2.1 = 0 then prs j ((prs k l acc).2.2 ++ t) (prs k l acc).1 else ((prs k l acc).1, (prs k l acc).2.1, [])
  | 0, _, _, h, _, _ => absurd h (by omega)
  | _ + 1, _, _, _, 0, h => absurd h (by omega)
  | k + 1, l, acc, hk, j + 1, hj => by
    rw [prs]
    by_cases h4 : (cmd l).2.2 = 4
    · have e : prs (k + 1) l acc = (acc, 0, l) := by rw [prs, if_pos h4]
      rw [e]
      dsimp only
      rw [if_pos rfl, prs]
    · have e := cmd_app l t h4
      by_cases h0 : (cmd l).2.2 = 0
      · have e1 : prs (k + 1) l acc = prs k (cmd l).2.1 (if 0 < (cmd l).1.length then acc ++ [(cmd l).1] else acc) := by rw [prs, if_neg h4, if_pos h0]
        have hl := cmd_ok h0
        have ih := prs_more t k (cmd l).2.1 (if 0 < (cmd l).1.length then acc ++ [(cmd l).1] else acc) (by omega) j (by omega)
        rw [e]
        dsimp only
        rw [if_neg h4, if_pos h0, if_pos h0, e1, ih]
        by_cases hz : (prs k (cmd l).2.1 (if 0 < (cmd l).1.length then acc ++ [(cmd l).1] else acc)).2.1 = 0
        · rw [if_pos hz, if_pos hz]
          have hle : ∀ (k : Nat) (l : List UInt8) (acc : List (List ByteArray)), (prs k l acc).2.2.length ≤ l.length := by
            intro k
            induction k with
            | zero => intro l acc; exact Nat.le_refl _
            | succ k ih =>
              intro l acc
              rw [prs]
              by_cases h4 : (cmd l).2.2 = 4
              · rw [if_pos h4]; exact Nat.le_refl _
              · rw [if_neg h4]
                by_cases h0 : (cmd l).2.2 = 0
                · rw [if_pos h0]
                  have := cmd_ok h0
                  have := ih (cmd l).2.1 (if 0 < (cmd l).1.length then acc ++ [(cmd l).1] else acc)
                  omega
                · rw [if_neg h0]; exact Nat.zero_le _
          have := hle k (cmd l).2.1 (if 0 < (cmd l).1.length then acc ++ [(cmd l).1] else acc)
          exact prs_rounds _ _ _ _ (by rw [List.length_append]; omega) (by rw [List.length_append]; omega)
        · rw [if_neg hz, if_neg hz]
      · have e1 : prs (k + 1) l acc = (acc, (cmd l).2.2, []) := by rw [prs, if_neg h4, if_neg h0]
        rw [e, e1]
        dsimp only
        rw [if_neg h4, if_neg h0, if_neg h0]
theorem prs_left : ∀ (k : Nat) (l : List UInt8) (acc : List (List ByteArray)), (prs k l acc).2.2.length ≤ l.length
  | 0, l, acc => Nat.le_refl _
  | k + 1, l, acc => by
    rw [prs]
    by_cases h4 : (cmd l).2.2 = 4
    · rw [if_pos h4]; exact Nat.le_refl _
    · rw [if_neg h4]
      by_cases h0 : (cmd l).2.2 = 0
      · rw [if_pos h0]
        have := cmd_ok h0
        have := prs_left k (cmd l).2.1 (if 0 < (cmd l).1.length then acc ++ [(cmd l).1] else acc)
        omega
      · rw [if_neg h0]; exact Nat.zero_le _
theorem parse_more (l t : List UInt8) : parse (l ++ t) = if (parse l).2.1 = 0 then ((parse l).1 ++ (parse ((parse l).2.2 ++ t)).1, (parse ((parse l).2.2 ++ t)).2) else ((parse l).1, (parse l).2.1, []) := by
  have h := prs_more t (l.length + 1) l [] (by omega) ((l ++ t).length + 1) (by rw [List.length_append]; omega)
  unfold parse
  rw [h]
  by_cases hz : (prs (l.length + 1) l []).2.1 = 0
  · rw [if_pos hz, if_pos hz]
    have hle := prs_left (l.length + 1) l []
    have e := prs_acc ((l ++ t).length + 1) ((prs (l.length + 1) l []).2.2 ++ t) (prs (l.length + 1) l []).1 []
    rw [List.append_nil] at e
    rw [e, prs_rounds ((l ++ t).length + 1) (((prs (l.length + 1) l []).2.2 ++ t).length + 1) _ _ (by rw [List.length_append, List.length_append]; omega) (by omega)]
  · rw [if_neg hz, if_neg hz]

end Go.Proofs.YtbfbmgkgaokecaaDoor.PS
