/- Layer 19: bytes that are read, put behind a row that may begin inside its block. -/
import Derived.Test.YtbfbmgkgaokecaaDoorSq8
import Derived.Test.YtbfbmgkgaokecaaDoorBase
namespace Go.Proofs.YtbfbmgkgaokecaaDoor.PS
open Go.RowKit Go.Proofs.YtbfbmgkgaokecaaDoorW.PrintWords Go.Proofs.YtbfbmgkgaokecaaDoorW.PrintLast Go.Proofs.YtbfbmgkgaokecaaDoorW.PrintMore
set_option linter.unusedVariables false
set_option linter.unusedSimpArgs false

theorem growBy_le (N : Nat) : ∀ r c, Builtin.growBy N r c ≤ max c (N + (N + 768) / 4)
  | 0, c => Nat.le_max_left _ _
  | r + 1, c => by
    rw [Builtin.growBy]
    split
    · exact Nat.le_max_left _ _
    · have := growBy_le N r (c + (c + 768) / 4)
      omega
theorem next_fits {need old : Nat} (h : old < need) (hn : need ≤ 150000000000000) : Builtin.nextslicecap need old ≤ 281474976710656 := by
  unfold Builtin.nextslicecap
  split
  · omega
  · split
    · omega
    · have := growBy_le need 4 old
      omega
theorem grows15 {P : Program} (w : World) (t ty e : TypeId) (i : TypeInfo) (z : Value) (ht : P.underlying t = some (.slice e)) (hi : P.info? e = some i) (hz : i.zero = some z) (hsize : i.size = 1) (hby : i.bytes = 1) (hzs : z.cells.size = 1)
    (b : Addr) (n cap : Nat) (olds : List Value) (hlo : olds.length = n) (holds : ∀ j u, olds[j]? = some u → w.cell? (b.add j) = some u)
    (a : Addr) (m c : Nat) (news : List Value) (hl : news.length = m) (hnews : ∀ j u, news[j]? = some u → w.cell? (a.add j) = some u)
    (hg : cap < n + m) (h15 : n + m ≤ 150000000000000) :
    ∃ v' w', (Builtin.append_ #[t, t] ty #[.slice (some b) n cap, .slice (some a) m c]).run P w = .ok v' w' ∧ w'.ownsRow w.heap.size e 1 v' (n + m) (olds ++ news) ∧ w.grownBy w' none := by
  have hlen : (olds ++ news).length = (n + m) * 1 := by rw [List.length_append, hlo, hl, Nat.mul_one]
  have hge := grownCap_ge w (n + m) cap e
  have hcm : grownCap w (n + m) cap e ≤ maxLen := grownCap_le_maxLen w (n + m) cap e (by unfold maxLen; omega)
  have hr := run_append_grow (P := P) w t ty e i z ht hi hz b n cap olds (by rw [hsize, Nat.mul_one]; exact hlo) holds a m c news (by rw [hsize, Nat.mul_one]; exact hl) hnews hg (by omega) (by rw [hby, Nat.mul_one]; exact next_fits hg h15)
  refine ⟨_, _, hr, ⟨hlen, .inr ⟨w.heap.size, _, _, rfl, Nat.le_refl _, heap_alloc_new w.drew _, hge, hcm, ?_, ?_⟩⟩, ⟨rfl, rfl, rfl, by simp, fun k hk _ => heap_alloc_old w.drew _ hk⟩⟩
  · simp only [Array.size_append, List.size_toArray, size_zeroCells, hzs, hlo, hl]
    omega
  · simp only [Array.toList_append, List.append_assoc]
    rw [← List.append_assoc, ← hlen]
    exact List.take_left
theorem nil15 {P : Program} (w : World) (t ty e : TypeId) (i : TypeInfo) (z : Value) (ht : P.underlying t = some (.slice e)) (hi : P.info? e = some i) (hz : i.zero = some z) (hsize : i.size = 1) (hby : i.bytes = 1) (hzs : z.cells.size = 1)
    (a : Addr) (m c : Nat) (news : List Value) (hl : news.length = m) (hnews : ∀ j u, news[j]? = some u → w.cell? (a.add j) = some u) (h0 : 0 < m) (h15 : m ≤ 150000000000000) :
    ∃ v' w', (Builtin.append_ #[t, t] ty #[.slice none 0 0, .slice (some a) m c]).run P w = .ok v' w' ∧ w'.ownsRow w.heap.size e 1 v' m news ∧ w.grownBy w' none := by
  have hge := grownCap_ge w m 0 e
  have hcm : grownCap w m 0 e ≤ maxLen := grownCap_le_maxLen w m 0 e (by unfold maxLen; omega)
  have hr := run_append_nil (P := P) w t ty e i z ht hi hz a m c news (by rw [hsize, Nat.mul_one]; exact hl) hnews h0 (by omega) (by rw [hby, Nat.mul_one]; omega)
  refine ⟨_, _, hr, ⟨by omega, .inr ⟨w.heap.size, _, _, rfl, Nat.le_refl _, heap_alloc_new w.drew _, hge, hcm, ?_, ?_⟩⟩, ⟨rfl, rfl, rfl, by simp, fun k hk _ => heap_alloc_old w.drew _ hk⟩⟩
  · simp only [Array.size_append, List.size_toArray, size_zeroCells, hzs, hl]
    omega
  · rw [Array.toList_append, Nat.mul_one]
    exact List.take_left' hl
theorem q_append15 {P : Program} (w : World) (base : Nat) (t ty e : TypeId) (i : TypeInfo) (z : Value) (ht : P.underlying t = some (.slice e)) (hi : P.info? e = some i) (hz : i.zero = some z) (hsize : i.size = 1) (hby : i.bytes = 1) (hzs : z.cells.size = 1)
    (v : Value) (n : Nat) (xs : List Value) (hown : QRow w base e 1 v n xs)
    (a : Addr) (m c : Nat) (news : List Value) (hl : news.length = m) (hnews : ∀ j u, news[j]? = some u → w.cell? (a.add j) = some u) (h1 : ∀ u ∈ news, u.oneCell' = true) (hm : 0 < m)
    (h15 : n + m ≤ 150000000000000) (hbase : base ≤ w.heap.size) :
    ∃ v' w', (Builtin.append_ #[t, t] ty #[v, .slice (some a) m c]).run P w = .ok v' w' ∧ QRow w' base e 1 v' (n + m) (xs ++ news) ∧ w.grownBy w' v.ownBlock ∧ (v'.ownBlock = v.ownBlock ∨ ∃ b, v'.ownBlock = some b ∧ w.heap.size ≤ b) := by
  have hxl : xs.length = n := by have := hown.1; omega
  have grows : ∀ (b : Addr) (cap : Nat), cap < n + m → (∀ j u, xs[j]? = some u → w.cell? (b.add j) = some u) → v = .slice (some b) n cap →
      ∃ v' w', (Builtin.append_ #[t, t] ty #[v, .slice (some a) m c]).run P w = .ok v' w' ∧ QRow w' base e 1 v' (n + m) (xs ++ news) ∧ w.grownBy w' v.ownBlock ∧ (v'.ownBlock = v.ownBlock ∨ ∃ b, v'.ownBlock = some b ∧ w.heap.size ≤ b) := by
    intro b cap hcap hcells hv
    obtain ⟨v', w', hr, ho, hg⟩ := grows15 (P := P) w t ty e i z ht hi hz hsize hby hzs b n cap xs hxl hcells a m c news hl hnews hcap h15
    refine ⟨v', w', by rw [hv]; exact hr, q_lower (q_of_own ho) hbase, ⟨hg.os, hg.tape, hg.output, hg.size, fun k hk _ => hg.block k hk (by simp)⟩, ?_⟩
    obtain ⟨g', cap', he, hb, _⟩ := ho.form (by omega)
    exact .inr ⟨g', by rw [he]; simp [Value.ownBlock], hb⟩
  rcases hown.2 with ⟨h0, A, hv, hA⟩ | ⟨g, off, cap, cur, hv, hbg, hg, hnc, hcm, hcs, htake⟩
  · have hx : xs = [] := List.eq_nil_of_length_eq_zero (by rw [hxl, h0])
    cases A with
    | none =>
      obtain ⟨v', w', hr, ho, hg⟩ := nil15 (P := P) w t ty e i z ht hi hz hsize hby hzs a m c news hl hnews hm (by omega)
      refine ⟨v', w', by rw [hv]; exact hr, by rw [hx, h0, Nat.zero_add, List.nil_append]; exact q_lower (q_of_own ho) hbase, ⟨hg.os, hg.tape, hg.output, hg.size, fun k hk _ => hg.block k hk (by simp)⟩, ?_⟩
      obtain ⟨g', cap', he, hb, _⟩ := ho.form (by omega)
      exact .inr ⟨g', by rw [he]; simp [Value.ownBlock], hb⟩
    | some b => exact grows b 0 (by omega) (fun j u hu => by rw [hx] at hu; simp at hu) (by rw [hv, h0])
  · by_cases hroom : n + m ≤ cap
    · have hfit : off * 1 + n * 1 + news.length ≤ cur.size := by omega
      have hr := run_append_room_cells (P := P) (w := w) t ty e i ht hi g (off * 1) n cap a m c news (by rw [hsize, Nat.mul_one]; exact hl) hnews h1 hroom
        (fun j hj => by rw [cell_of_row w g _ cur e (0, 0) hg, hsize]; simp; omega) (fun j _ => blk_frozen hg _)
      rw [hsize] at hr
      obtain ⟨cur', h3, h4, h5⟩ := setCells_row news (off * 1 + n * 1) w cur hg hfit
      obtain ⟨s1, s2, s3, s4⟩ := setCells_same g news (off * 1 + n * 1) w
      refine ⟨_, _, by rw [hv]; exact hr, ⟨by rw [List.length_append, hxl, hl, Nat.mul_one], .inr ⟨g, off, cap, cur', rfl, hbg, h3, hroom, hcm, by rw [h4, hcs], ?_⟩⟩,
        ⟨s1, s2, s3, by rw [s4]; exact Nat.le_refl _, fun k _ hk => setCells_far news _ k (fun he => hk (by rw [hv, he]; simp [Value.ownBlock]))⟩, .inl (by rw [hv]; rfl)⟩
      rw [h5, List.append_assoc, List.drop_append_of_le_length (by rw [List.length_take, Array.length_toList]; omega), List.drop_take]
      rw [show off * 1 + n * 1 - off * 1 = n * 1 by omega, htake]
      rw [← List.append_assoc]
      exact List.take_left' (by rw [List.length_append, hxl, hl, Nat.mul_one])
    · refine grows ⟨g, off * 1, none⟩ cap (by omega) (fun j u hu => ?_) hv
      rw [add_at, cell_of_row w g _ cur e (0, 0) hg]
      rw [← htake, List.getElem?_take] at hu
      split at hu
      · rw [List.getElem?_drop] at hu
        rw [← Array.getElem?_toList]
        exact hu
      · cases hu
theorem Q_run_row {P : Program} {W : World} (base : Nat) (t ty e : TypeId) (ht : P.underlying t = some (.slice e)) (hinfo : (P.info? e).map (fun i => (i.zero, i.size, i.bytes)) = some (some (.int .u8 0), 1, 1))
    (v : Value) (xs ys : List Int) (A : Option Addr) (m c : Nat) (ok : Nat → Prop) (HO : Kd.Q (Kd.int .u8) e W base ok v xs) (HR : Kd.C (Kd.int .u8) W A m ys) (hfresh : ∀ k, W.heap.size ≤ k → ok k)
    (hbase : base ≤ W.heap.size) (hl : xs.length + m ≤ 150000000000000) :
    ∃ v1 w1, (Builtin.append_ #[t, t] ty #[v, .slice A m c]).run P W = .ok v1 w1 ∧ Kd.Q (Kd.int .u8) e w1 base ok v1 (xs ++ ys) ∧ W.grownBy w1 v.ownBlock ∧ (v1.ownBlock = v.ownBlock ∨ ∃ b, v1.ownBlock = some b ∧ W.heap.size ≤ b) := by
  obtain ⟨i0, hi, hzz⟩ := Option.map_eq_some_iff.1 hinfo
  simp only [Prod.mk.injEq] at hzz
  obtain ⟨hz0, hz1, hz2⟩ := hzz
  have hm : ys.length = m := HR.1
  rcases Nat.eq_zero_or_pos m with h0 | h0
  · subst h0
    obtain rfl : ys = [] := List.eq_nil_of_length_eq_zero hm
    refine ⟨v, W, ?_, by rw [List.append_nil]; exact HO, World.grownBy.refl W _, .inl rfl⟩
    obtain ⟨_, inner, hq, _⟩ := HO
    rcases hq.2 with ⟨hn, A0, rfl, _⟩ | ⟨g, off, cap, cur, rfl, _, _, hnc, _⟩
    · cases A0 <;> cases A <;> simp [Builtin.append_, run_underlying ht, sizeOf, typeInfo, hi, Builtin.lenOf, Builtin.firstCells, storeCells, loadCells, loadCellsFrom]
    · cases A <;> simp [Builtin.append_, run_underlying ht, sizeOf, typeInfo, hi, Builtin.lenOf, Builtin.firstCells, hnc, storeCells, loadCells, loadCellsFrom]
  · obtain ⟨ad, hA, _⟩ := HR.2.2 h0
    subst hA
    obtain ⟨news, hnr, hnc⟩ := ReadsRow.inner_ HR
    obtain ⟨hok, inner, hq, hr⟩ := HO
    have hone : ∀ u ∈ news, u.oneCell' = true := by
      intro u hu
      obtain ⟨q, hq, rfl⟩ := List.mem_iff_getElem.1 hu
      have hql : q < ys.length := by
        have := hnr.1
        simp only [show (Kd.int .u8).sz = 1 from rfl, Nat.mul_one] at this
        omega
      have hc := hnr.2 q _ (List.getElem?_eq_getElem hql)
      refine (Kd.int .u8).K_one hc _ ?_
      rw [List.mem_iff_getElem?]
      refine ⟨0, ?_⟩
      simp only [show (Kd.int .u8).sz = 1 from rfl, Nat.mul_one, List.getElem?_take, List.getElem?_drop]
      simp
    obtain ⟨v1, w1, hrun, hq1, hg1, hat⟩ := q_append15 (P := P) W base t ty e i0 (.int .u8 0) ht hi hz0 hz1 hz2 rfl v xs.length inner hq ad m c news (by have := hnr.1; rw [hm] at this; simpa [show (Kd.int .u8).sz = 1 from rfl] using this) hnc hone h0 (by omega) hbase
    refine ⟨v1, w1, hrun, ⟨fun k hk => ?_, inner ++ news, by rw [List.length_append, hm]; exact hq1, ?_⟩, hg1, hat⟩
    · rcases hat with hat | ⟨b, hb, hle⟩
      · exact hok k (hat ▸ hk)
      · rw [hb] at hk
        injection hk with hk
        exact hfresh k (by omega)
    · exact Kd.reps_append (hr.imp_ (fun _ _ hp => hp)) (hnr.imp_ (fun _ _ hp => hp))

section
variable {P : Program} {ops : Array Oper} {rest : List Oper} {o : Oper} {a : Act} {Q' : Exit → Act → World → Prop}
theorem Q_append_row {W : World} (base : Nat) (hgd : o.guard = none) (s x : Operand) (t e : TypeId)
    (ho : o.op = .call { callee := .builtin .append, args := #[s, x], argTypes := #[t, t] })
    (ht : P.underlying t = some (.slice e)) (hinfo : (P.info? e).map (fun i => (i.zero, i.size, i.bytes)) = some (some (.int .u8 0), 1, 1))
    (v : Value) (xs ys : List Int) (A : Option Addr) (m c : Nat) (ok : Nat → Prop) (hs : a.eval s = v) (hx : a.eval x = .slice A m c) (HO : Kd.Q (Kd.int .u8) e W base ok v xs) (HR : Kd.C (Kd.int .u8) W A m ys) (hfresh : ∀ k, W.heap.size ≤ k → ok k)
    (hbase : base ≤ W.heap.size) (hl : xs.length + m ≤ 150000000000000)
    (h : ∀ v1 w1, Kd.Q (Kd.int .u8) e w1 base ok v1 (xs ++ ys) → W.grownBy w1 v.ownBlock → (v1.ownBlock = v.ownBlock ∨ ∃ b, v1.ownBlock = some b ∧ W.heap.size ≤ b) → wpList P ops Q' rest (a.put o.dst v1) w1) :
    wpList P ops Q' (o :: rest) a W := by
  obtain ⟨v1, w1, hr, h1, h2, h3⟩ := Q_run_row (P := P) base t o.type e ht hinfo v xs ys A m c ok HO HR hfresh hbase hl
  refine wpList_plain hgd fun K hK => ?_
  unfold Oper.wp execOp
  simp only [ho, resolve, invoke, builtin, Sem.run_bind, Sem.run_pure, Result.andThen_ok, List.map_toArray, List.map_cons, List.map_nil, hs, hx, hr]
  exact hK _ _ (h v1 w1 h1 h2 h3)
end

end Go.Proofs.YtbfbmgkgaokecaaDoor.PS
