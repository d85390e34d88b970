/- Layer 19: rows of commands put together. -/
import Derived.Test.YtbfbmgkgaokecaaDoorGvU
import Derived.Test.YtbfbmgkgaokecaaDoorPSf22
import Derived.Test.YtbfbmgkgaokecaaDoorPlY
namespace Go.Proofs.YtbfbmgkgaokecaaDoor.PS
open Go.RowKit Go.Proofs.YtbfbmgkgaokecaaDoorW.PrintWords Go.Proofs.YtbfbmgkgaokecaaDoorW.PrintLast Go.Proofs.YtbfbmgkgaokecaaDoorW.PrintMore
set_option linter.unusedVariables false
set_option linter.unusedSimpArgs false

theorem own_form {W : World} {base : Nat} {v : Value} {n : Nat} {inner : List Value} (h : W.ownsRow base 22 1 v n inner) : ∃ A c, v = .slice A n c ∧ (A = none → n = 0) ∧ inner.length = n ∧ ∀ ad, A = some ad → ∀ j u, inner[j]? = some u → W.cell? (ad.add j) = some u := by
  have hl : inner.length = n := by have := h.1; omega
  rcases h.2 with ⟨rfl, rfl⟩ | ⟨g, cap, cur, rfl, hb, hg, hn, hm, hs, ht⟩
  · exact ⟨none, 0, rfl, fun _ => rfl, hl, fun _ h => by cases h⟩
  · refine ⟨_, cap, rfl, (fun h => by cases h), hl, fun ad had j u hj => ?_⟩
    obtain rfl := Option.some.inj had
    rw [add_at, Nat.zero_add, cell_of_row W g j cur 22 (0, 0) hg, ← Array.getElem?_toList]
    rw [← ht, List.getElem?_take] at hj
    split at hj
    · exact hj
    · cases hj
/-- A row of commands in a world, and the very cells. -/
theorem R_cells {W : World} {base : Nat} {ok : Nat → Prop} {v : Value} {xs : List (List ByteArray)} (h : Kd.R (Kd.slice 9 Kd.string) 22 W base ok v xs) : ∃ inner : List Value, W.ownsRow base 22 1 v xs.length inner ∧ Reps ((Kd.slice 9 Kd.string).K W) 1 xs inner := by
  obtain ⟨_, inner, ho, hr⟩ := h
  exact ⟨inner, ho, hr.imp_ (fun _ _ hp => (Kd.slice 9 Kd.string).K_of_M hp)⟩
theorem C_of_own {w W : World} {base : Nat} {v : Value} {inner : List Value} {xs : List (List ByteArray)} (ho : W.ownsRow base 22 1 v xs.length inner) (hr : Reps ((Kd.slice 9 Kd.string).K w) 1 xs inner) (hb : Below w.heap.size w W) :
    ∃ A c, v = .slice A xs.length c ∧ xs.length ≤ c ∧ Kd.C (Kd.slice 9 Kd.string) W A xs.length xs :=
  OwnRow.reads (R := (Kd.slice 9 Kd.string).K W) (e := 22) (size := 1) (base := base) ⟨inner, ho, hr.imp_ (fun _ _ hp => (Kd.slice 9 Kd.string).K_below hb hp)⟩
theorem reps_one {w : World} {xs : List (List ByteArray)} {inner : List Value} (hr : Reps ((Kd.slice 9 Kd.string).K w) 1 xs inner) : ∀ u ∈ inner, u.oneCell' = true := by
  intro u hu
  obtain ⟨q, hq, rfl⟩ := List.mem_iff_getElem.1 hu
  have hql : q < xs.length := by have := hr.1; omega
  have hc := hr.2 q _ (List.getElem?_eq_getElem hql)
  refine (Kd.slice 9 Kd.string).K_one hc _ ?_
  rw [List.mem_iff_getElem?]
  refine ⟨0, ?_⟩
  simp only [Nat.mul_one, List.getElem?_take, List.getElem?_drop]
  simp
theorem infoC22 : (Tryd.prog.info? 22).map (fun i => (i.zero, i.size, i.bytes)) = some (some (.slice none 0 0), 1, 24) := by kernel_rfl
theorem run_cmds_append {W : World} {base : Nat} {v : Value} {n m c : Nat} {xs news : List Value} {A : Option Addr} {ty : TypeId} (hown : W.ownsRow base 22 1 v n xs) (hl : news.length = m) (hA : A = none → m = 0) (hnews : ∀ ad, A = some ad → ∀ j u, news[j]? = some u → W.cell? (ad.add j) = some u) (h1 : ∀ u ∈ news, u.oneCell' = true) (hb : base ≤ W.heap.size) (hbd : n + m ≤ 1000000) :
    ∃ v1 w1, (Builtin.append_ #[27, 27] ty #[v, .slice A m c]).run Tryd.prog W = .ok v1 w1 ∧ w1.ownsRow base 22 1 v1 (n + m) (xs ++ news) ∧ Below base W w1 := by
  obtain ⟨i0, hi, hz0, hz1, hz2⟩ := info_parts infoC22
  rcases Nat.eq_zero_or_pos m with h0 | h0
  · subst h0
    obtain rfl : news = [] := List.eq_nil_of_length_eq_zero hl
    refine ⟨v, W, ?_, by rw [List.append_nil]; exact hown, Below.refl _ _⟩
    rcases hown.2 with ⟨rfl, rfl⟩ | ⟨g, cap, cur, rfl, _, _, hn, _⟩
    · cases A <;> simp [Builtin.append_, run_underlying Tryd.underlying27, sizeOf, typeInfo, hi, Builtin.lenOf, Builtin.firstCells, storeCells, loadCells, loadCellsFrom]
    · cases A <;> simp [Builtin.append_, run_underlying Tryd.underlying27, sizeOf, typeInfo, hi, Builtin.lenOf, Builtin.firstCells, hn, storeCells, loadCells, loadCellsFrom]
  · cases A with
    | none => exact absurd (hA rfl) (by omega)
    | some ad =>
      obtain ⟨v', w', hr, h2, h3, _, _⟩ := run_append_own_at (P := Tryd.prog) W base 27 ty 22 i0 (.slice none 0 0) 1 24 Tryd.underlying27 hi hz0 hz1 hz2 rfl (by decide) v n xs hown ad m c news (by omega) (hnews ad rfl) h1 (by unfold maxLen; omega) (by omega) hb
      refine ⟨v', w', hr, h2, ⟨h3.os, h3.tape, h3.output, h3.size, fun k hk => h3.block k (by omega) (fun he => ?_)⟩⟩
      rcases hown.2 with ⟨rfl, _⟩ | ⟨g, cap, cur, rfl, hbg, _⟩
      · simp [Value.ownBlock] at he
      · have : g = k := by simpa [Value.ownBlock] using he.symm
        omega
section
variable {ops : Array Oper} {rest : List Oper} {o : Oper} {a : Act} {Q' : Exit → Act → World → Prop}
theorem cmds_append_row {W : World} (base : Nat) (hgd : o.guard = none) (s x : Operand) (ho : o.op = .call { callee := .builtin .append, args := #[s, x], argTypes := #[27, 27] })
    (v : Value) (n m c : Nat) (xs news : List Value) (A : Option Addr) (hs : a.eval s = v) (hx : a.eval x = .slice A m c) (hown : W.ownsRow base 22 1 v n xs) (hl : news.length = m) (hA : A = none → m = 0)
    (hnews : ∀ ad, A = some ad → ∀ j u, news[j]? = some u → W.cell? (ad.add j) = some u) (h1 : ∀ u ∈ news, u.oneCell' = true) (hb : base ≤ W.heap.size) (hbd : n + m ≤ 1000000)
    (h : ∀ v1 w1, w1.ownsRow base 22 1 v1 (n + m) (xs ++ news) → Below base W w1 → wpList Tryd.prog ops Q' rest (a.put o.dst v1) w1) :
    wpList Tryd.prog ops Q' (o :: rest) a W := by
  obtain ⟨v1, w1, hr, h2, h3⟩ := run_cmds_append (ty := o.type) (c := c) hown hl hA hnews h1 hb hbd
  refine wpList_plain hgd fun K hK => ?_
  unfold Oper.wp execOp
  simp only [ho, resolve, invoke, builtin, Sem.run_bind, Sem.run_pure, Result.andThen_ok, List.map_toArray, List.map_cons, List.map_nil, hs, hx, hr]
  exact hK _ _ (h v1 w1 h2 h3)
end
theorem prs_count : ∀ (k : Nat) (l : List UInt8) (acc : List (List ByteArray)), (prs k l acc).1.length ≤ acc.length + l.length
  | 0, l, acc => Nat.le_add_right _ _
  | k + 1, l, acc => by
    rw [prs]
    by_cases h4 : (cmd l).2.2 = 4
    · rw [if_pos h4]; exact Nat.le_add_right _ _
    · rw [if_neg h4]
      by_cases h0 : (cmd l).2.2 = 0
      · rw [if_pos h0]
        have h1 := cmd_ok h0
        have h2 := prs_count k (cmd l).2.1 (if 0 < (cmd l).1.length then acc ++ [(cmd l).1] else acc)
        have h3 : (if 0 < (cmd l).1.length then acc ++ [(cmd l).1] else acc).length ≤ acc.length + 1 := by
          split
          · simp
          · omega
        omega
      · rw [if_neg h0]; exact Nat.le_add_right _ _
theorem parse_count (l : List UInt8) : (parse l).1.length ≤ l.length := by
  have := prs_count (l.length + 1) l []
  rw [List.length_nil] at this
  unfold parse
  omega
theorem own0 (w : World) : (w.alloc (.cells #[] 22)).ownsRow w.heap.size 22 1 (.slice (some ⟨w.heap.size, 0, none⟩) 0 0) 0 [] :=
  ⟨rfl, .inr ⟨w.heap.size, 0, #[], rfl, Nat.le_refl _, heap_alloc_new w _, Nat.le_refl _, Nat.zero_le _, rfl, rfl⟩⟩
theorem cell_later {w W : World} (hb : Below w.heap.size w W) {a : Addr} {u : Value} (h : w.cell? a = some u) : W.cell? a = some u := (hb.cell (World.block_lt_of_cell? w _ h)).trans h
theorem prs_small : ∀ (k : Nat) (l : List UInt8) (acc : List (List ByteArray)), (∀ c ∈ acc, c.length ≤ 40) → ∀ c ∈ (prs k l acc).1, c.length ≤ 40
  | 0, l, acc, h => h
  | k + 1, l, acc, h => by
    rw [prs]
    by_cases h4 : (cmd l).2.2 = 4
    · rw [if_pos h4]; exact h
    · rw [if_neg h4]
      by_cases h0 : (cmd l).2.2 = 0
      · rw [if_pos h0]
        refine prs_small k _ _ (fun c hc => ?_)
        have h40 : (cmd l).1.length ≤ 40 := by
          by_cases hc0 : (cnt 42 40 l).2.2 = 0
          · have e : cmd l = wrds (cnt 42 40 l).1.toNat (cnt 42 40 l).2.1 [] := by unfold cmd; rw [if_pos hc0]
            rw [e] at h0 ⊢
            have := (wrds_ok _ _ _ h0).2
            have hk := cnt_ok hc0
            rw [List.length_nil] at this
            omega
          · have e : cmd l = ([], [], (cnt 42 40 l).2.2) := by unfold cmd; rw [if_neg hc0]
            rw [e]; exact Nat.zero_le _
        split at hc
        · rcases List.mem_append.1 hc with hc | hc
          · exact h c hc
          · rw [List.mem_singleton.1 hc]; exact h40
        · exact h c hc
      · rw [if_neg h0]; exact h
theorem parse_small (l : List UInt8) : ∀ c ∈ (parse l).1, c.length ≤ 40 := prs_small _ l [] (fun c hc => by cases hc)
theorem sameC_l0 (X : List (List ByteArray)) (hX : X.length ≤ 1000000) (h40 : ∀ c ∈ X, c.length ≤ 40) : ∀ (n i : Nat), i + n = X.length → Ev (fun k => intaglioref19_SameCommands.l0 k X X (i : Int)) true
  | 0, i, h => by
    have e : ((i : Int) < (X.length : Int)) = False := eq_false (by omega)
    exact Ev.step (f := fun _ => some true) (fun k => by simp only [intaglioref19_SameCommands.l0, e, if_false]) (Ev.now _)
  | n + 1, i, h => by
    have hi : i < X.length := by omega
    have e : ((i : Int) < (X.length : Int)) = True := eq_true (by omega)
    have e0 : ((0 : Int) ≤ (i : Int)) = True := eq_true (by omega)
    have hr : rd_L10 X (i : Int) = X[i] := by unfold rd_L10; rw [Int.toNat_natCast, List.getD_eq_getElem?_getD, List.getElem?_eq_getElem hi]; rfl
    have ih := sameC_l0 X hX h40 n (i + 1) (by omega)
    refine Ev.step (fun k => by simp only [intaglioref19_SameCommands.l0, e, e0, if_true, hr]; exact rfl) ?_
    refine Ev.bind (same_refl X[i] (by have := h40 _ (List.getElem_mem hi); omega)) ?_
    simp only [if_true, show wrap64 ((i : Int) + 1) = ((i + 1 : Nat) : Int) by rw [wI (by omega) (by omega)]; omega]
    exact ih
theorem sameC_refl (X : List (List ByteArray)) (hX : X.length ≤ 1000000) (h40 : ∀ c ∈ X, c.length ≤ 40) : Ev (fun k => intaglioref19_SameCommands.f k X X) true :=
  Ev.congr (fun k => by unfold intaglioref19_SameCommands.f; rw [if_pos rfl]; rfl) (sameC_l0 X hX h40 X.length 0 (by omega))
end Go.Proofs.YtbfbmgkgaokecaaDoor.PS
