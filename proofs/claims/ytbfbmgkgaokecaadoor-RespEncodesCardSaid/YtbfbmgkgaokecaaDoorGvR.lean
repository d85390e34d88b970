/- Layer 19: a row of bytes that a conversion laid (its mark lies behind its last cell), or that grew out of one: read, cut, written behind. -/
import Derived.Test.YtbfbmgkgaokecaaDoorPlW
import Derived.Test.YtbfbmgkgaokecaaDoorSq9
namespace Go.Proofs.YtbfbmgkgaokecaaDoor.PS
open Go.RowKit Go.Proofs.YtbfbmgkgaokecaaDoorW.PrintWords Go.Proofs.YtbfbmgkgaokecaaDoorW.PrintLast Go.Proofs.YtbfbmgkgaokecaaDoorW.PrintMore
set_option linter.unusedVariables false
set_option linter.unusedSimpArgs false

def bcells (l : List UInt8) : List Value := l.map fun c => .int .u8 (c.toNat : Int)
theorem bcells_length (l : List UInt8) : (bcells l).length = l.length := List.length_map _
theorem bcells_append (l t : List UInt8) : bcells (l ++ t) = bcells l ++ bcells t := List.map_append
/-- A row of bytes, from its block's first cell on, of a block that is not older than base. -/
def Bv (W : World) (base : Nat) (v : Value) (l : List UInt8) : Prop :=
  ∃ (g cap : Nat) (cur : Array Value) (fr : Nat × Nat), v = .slice (some ⟨g, 0, none⟩) l.length cap ∧ base ≤ g ∧ W.heap[g]? = some (.cells cur 5 fr) ∧ (fr = (0, 0) ∨ cur.size ≤ fr.1) ∧ l.length ≤ cap ∧ cap ≤ maxLen ∧ cur.size = cap ∧ cur.toList.take l.length = bcells l

theorem Bv_frozen {W : World} {g : Nat} {cur : Array Value} {fr : Nat × Nat} (h : W.heap[g]? = some (.cells cur 5 fr)) (hf : fr = (0, 0) ∨ cur.size ≤ fr.1) (j : Nat) (hj : j < cur.size) : W.frozen? ⟨g, j, none⟩ = false := by
  rcases hf with rfl | hf
  · exact blk_frozen h j
  · simp [World.frozen?, h]
    omega
theorem Bv_C {W : World} {base : Nat} {A : Option Addr} {n c : Nat} {l : List UInt8} (h : Bv W base (.slice A n c) l) : n = l.length ∧ n ≤ c ∧ Kd.C (Kd.int .u8) W A n (ints l) := by
  obtain ⟨g, cap, cur, fr, hv, hb, hg, hfr, hl, hm, hs, ht⟩ := h
  injection hv with h1 h2 h3
  subst h1; subst h2; subst h3
  refine ⟨rfl, hl, ints_length l, by unfold maxLen at hm; omega, fun _ => ⟨_, rfl, fun j p hj => ?_⟩⟩
  refine ⟨[.int .u8 p], rfl, rfl, fun i u hu => ?_⟩
  match i, hu with
  | 0, hu =>
    obtain rfl := Option.some.inj hu
    obtain ⟨hjl, hp⟩ := List.getElem?_eq_some_iff.1 hj
    rw [ints_length] at hjl
    show W.cell? ((⟨g, 0, none⟩ : Addr).add (j * 1 + 0)) = _
    rw [add_at, show 0 + (j * 1 + 0) = j by omega, cell_of_row W g j cur 5 fr hg]
    have e : (cur.toList.take l.length)[j]? = (bcells l)[j]? := by rw [ht]
    rw [List.getElem?_take_of_lt hjl, Array.getElem?_toList] at e
    rw [e]
    unfold bcells
    rw [List.getElem?_map, List.getElem?_eq_getElem hjl]
    simp only [ints, List.getElem_map] at hp
    rw [← hp]
    rfl
theorem Bv_slice {W : World} {base : Nat} {v : Value} {l : List UInt8} (h : Bv W base v l) : ∃ A c, v = .slice A l.length c := by
  obtain ⟨g, cap, cur, fr, hv, _⟩ := h
  exact ⟨_, _, hv⟩
theorem Bv_below {W W' : World} {base : Nat} {v : Value} {l : List UInt8} (h : Bv W base v l) (hb : Below W.heap.size W W') : Bv W' base v l := by
  obtain ⟨g, cap, cur, fr, hv, hbs, hg, r⟩ := h
  exact ⟨g, cap, cur, fr, hv, hbs, by rw [hb.block g (blk_lt hg)]; exact hg, r⟩
theorem Bv_lower {W : World} {base b' : Nat} {v : Value} {l : List UInt8} (h : Bv W base v l) (hb : b' ≤ base) : Bv W b' v l := by
  obtain ⟨g, cap, cur, fr, hv, hbs, r⟩ := h
  exact ⟨g, cap, cur, fr, hv, Nat.le_trans hb hbs, r⟩
theorem Bv_V {W : World} {base : Nat} {v : Value} {l : List UInt8} (h : Bv W base v l) (b' : Nat) : Kd.V (Kd.int .u8) 5 W b' (fun k => base ≤ k) v (ints l) := by
  obtain ⟨g, cap, cur, fr, hv, hb, hg, hfr, hl, hm, hs, ht⟩ := h
  refine ⟨some ⟨g, 0, none⟩, cap, by rw [ints_length]; exact hv, by rw [ints_length]; exact hl, fun W' hW => ?_⟩
  have hg' : W'.heap[g]? = some (.cells cur 5 fr) := (hW g hb (blk_lt hg)).trans hg
  have := (Bv_C (W := W') (base := base) (A := some ⟨g, 0, none⟩) (n := l.length) (c := cap) (l := l) ⟨g, cap, cur, fr, rfl, hb, hg', hfr, hl, hm, hs, ht⟩).2.2
  rw [ints_length]
  exact this
theorem Bv_lt {W : World} {base : Nat} {v : Value} {l : List UInt8} (h : Bv W base v l) : ∀ k, v.ownBlock = some k → base ≤ k ∧ k < W.heap.size := by
  obtain ⟨g, cap, cur, fr, hv, hb, hg, _⟩ := h
  intro k hk
  rw [hv] at hk
  obtain rfl : g = k := by simpa [Value.ownBlock] using hk
  exact ⟨hb, blk_lt hg⟩
/-- What a conversion lays. -/
theorem Bv_conv (w : World) (s : ByteArray) (hs : s.size ≤ 9000000000000000000) : Bv (Lib.bytesWorld w 5 s) w.heap.size (.slice (some ⟨w.heap.size, 0, none⟩) s.size (grownCap w s.size 0 5)) s.data.toList := by
  have hlen : s.data.toList.length = s.size := Array.length_toList
  have hcap := grownCap_ge w s.size 0 5
  have hcm := grownCap_le_maxLen w s.size 0 5 (by unfold maxLen; omega)
  have hsz : (Lib.bytesCells w 5 s).size = grownCap w s.size 0 5 := by
    unfold Lib.bytesCells
    rw [Array.size_append, Array.size_map, Array.size_replicate]
    show s.size + _ = _
    omega
  refine ⟨w.heap.size, grownCap w s.size 0 5, Lib.bytesCells w 5 s, _, by rw [hlen], Nat.le_refl _, Lib.bytesWorld_at_new w 5 s, .inr (Nat.le_refl _), by rw [hlen]; exact hcap, hcm, hsz, ?_⟩
  unfold Lib.bytesCells bcells
  rw [Array.toList_append, List.take_append_of_le_length (by simp), Array.toList_map, List.take_of_length_le (by simp)]
theorem bytesWorld_below (w : World) (s : ByteArray) : Below w.heap.size w (Lib.bytesWorld w 5 s) :=
  ⟨rfl, by simp [Lib.bytesWorld, World.freeze, World.alloc, World.drew, -World.alloc_eq, -World.drew_eq], rfl, by rw [Lib.bytesWorld_size]; omega, fun k hk => Lib.bytesWorld_at_old w 5 s k hk⟩
set_option maxRecDepth 100000 in
/-- Bytes put behind. -/
theorem run_Bv_append {W : World} {base : Nat} {v : Value} {l m : List UInt8} {A : Option Addr} {c : Nat} {ty : TypeId} (h : Bv W base v l) (hx : Kd.C (Kd.int .u8) W A m.length (ints m)) (hbase : base ≤ W.heap.size) (hl : l.length + m.length ≤ 150000000000000) :
    ∃ v1 w1, (Builtin.append_ #[23, 23] ty #[v, .slice A m.length c]).run Tryd.prog W = .ok v1 w1 ∧ Bv w1 base v1 (l ++ m) ∧ Below base W w1 ∧ Kept W w1 (fun k => v.ownBlock = some k) := by
  obtain ⟨i0, hi, hz0, hz1, hz2⟩ := info_parts infoB5
  obtain ⟨g, cap, cur, fr, hv, hb, hg, hfr, hlc, hm, hs, ht⟩ := h
  rcases Nat.eq_zero_or_pos m.length with h0 | h0
  · obtain rfl : m = [] := List.eq_nil_of_length_eq_zero h0
    refine ⟨v, W, ?_, by rw [List.append_nil]; exact ⟨g, cap, cur, fr, hv, hb, hg, hfr, hlc, hm, hs, ht⟩, Below.refl _ _, Kept.refl _ _⟩
    subst hv
    cases A <;> simp [Builtin.append_, run_underlying Tryd.underlying23, sizeOf, typeInfo, hi, Builtin.lenOf, Builtin.firstCells, hlc, storeCells, loadCells, loadCellsFrom]
  · obtain ⟨ad, hA, _⟩ := hx.2.2 h0
    subst hA
    obtain ⟨news, hnr, hnc⟩ := ReadsRow.inner_ hx
    have hone : ∀ u ∈ news, u.oneCell' = true := by
      intro u hu
      obtain ⟨q, hq, rfl⟩ := List.mem_iff_getElem.1 hu
      have hql : q < (ints m).length := by
        have := hnr.1
        simp only [show (Kd.int .u8).sz = 1 from rfl, Nat.mul_one] at this
        omega
      have hc := hnr.2 q _ (List.getElem?_eq_getElem hql)
      refine (Kd.int .u8).K_one hc _ ?_
      rw [List.mem_iff_getElem?]
      refine ⟨0, ?_⟩
      simp only [show (Kd.int .u8).sz = 1 from rfl, Nat.mul_one, List.getElem?_take, List.getElem?_drop]
      simp
    have hnl : news.length = m.length := by have := hnr.1; rw [ints_length] at this; simpa [show (Kd.int .u8).sz = 1 from rfl] using this
    have hnews : news = bcells m := by
      apply List.ext_getElem?
      intro q
      by_cases hq : q < m.length
      · have hc := hnr.2 q _ (List.getElem?_eq_getElem (show q < (ints m).length by rw [ints_length]; exact hq))
        have hc' : (news.drop (q * 1)).take 1 = [.int .u8 ((ints m)[q]'(by rw [ints_length]; exact hq))] := hc
        rw [Nat.mul_one] at hc'
        have h2 : ((news.drop q).take 1)[0]? = some (.int .u8 ((ints m)[q]'(by rw [ints_length]; exact hq))) := by rw [hc']; rfl
        rw [List.getElem?_take_of_lt (by decide), List.getElem?_drop, Nat.add_zero] at h2
        rw [h2]
        unfold bcells
        rw [List.getElem?_map, List.getElem?_eq_getElem hq]
        simp [ints]
      · rw [List.getElem?_eq_none (by omega), List.getElem?_eq_none (by rw [bcells_length]; omega)]
    have hcs : cur.toList.take l.length = bcells l := ht
    by_cases hroom : l.length + m.length ≤ cap
    · have hr := run_append_room_cells (P := Tryd.prog) (w := W) 23 ty 5 i0 Tryd.underlying23 hi g 0 l.length cap ad m.length c news (by rw [hz1, Nat.mul_one]; exact hnl) hnc hone hroom
        (fun j hj => by rw [cell_of_row W g _ cur 5 fr hg, hz1]; simp; omega) (fun j hj => Bv_frozen hg hfr _ (by rw [hz1]; omega))
      rw [hz1, Nat.mul_one, Nat.zero_add] at hr
      have key : ∀ (vs : List Value) (o : Nat) (w : World) (cur : Array Value), w.heap[g]? = some (.cells cur 5 fr) → o + vs.length ≤ cur.size → ∃ cur', (w.setCells g o vs).heap[g]? = some (.cells cur' 5 fr) ∧ cur'.size = cur.size ∧ cur'.toList = cur.toList.take o ++ vs ++ cur.toList.drop (o + vs.length) := by
        intro vs
        induction vs with
        | nil => intro o w cur h _; exact ⟨cur, h, rfl, by simp⟩
        | cons v r ih =>
          intro o w cur h hl
          rw [List.length_cons] at hl
          have h2 : (w.setCell ⟨g, o, none⟩ v).heap[g]? = some (.cells (cur.setIfInBounds o v) 5 fr) := by simp [World.setCell, Array.getElem?_modify, h]
          obtain ⟨cur', h3, h4, h5⟩ := ih (o + 1) _ _ h2 (by rw [Array.size_setIfInBounds]; omega)
          refine ⟨cur', h3, by rw [h4, Array.size_setIfInBounds], ?_⟩
          rw [h5, Array.toList_setIfInBounds]
          have hol : o < cur.toList.length := by rw [Array.length_toList]; omega
          rw [List.take_set, List.drop_set_of_lt (by omega), List.length_cons]
          rw [show o + 1 + r.length = o + (r.length + 1) by omega]
          congr 1
          rw [List.take_succ_eq_append_getElem (by omega), List.set_append_right _ _ (by rw [List.length_take]; omega)]
          rw [List.length_take, Nat.min_eq_left (by omega), Nat.sub_self, List.set_cons_zero, List.append_assoc]
          rfl
      obtain ⟨cur', h3, h4, h5⟩ := key news l.length W cur hg (by omega)
      obtain ⟨s1, s2, s3, s4⟩ := setCells_same g news l.length W
      refine ⟨_, _, by rw [hv]; exact hr, ⟨g, cap, cur', fr, by rw [List.length_append], hb, h3, by rw [h4]; exact hfr, by rw [List.length_append]; exact hroom, hm, by rw [h4, hs], ?_⟩, ⟨s1, s2, s3, by rw [s4]; exact Nat.le_refl _, fun k hk => setCells_far news _ k (by omega)⟩, ⟨by rw [s4]; exact Nat.le_refl _, fun k _ hk => setCells_far news _ k (fun he => hk (by rw [hv, he]; rfl))⟩⟩
      rw [h5, hcs, hnews, ← bcells_append, List.take_left' (by rw [bcells_length])]
    · obtain ⟨v', w', hr, ho, hgr⟩ := grows15 (P := Tryd.prog) W 23 ty 5 i0 (.int .u8 0) Tryd.underlying23 hi hz0 hz1 hz2 rfl ⟨g, 0, none⟩ l.length cap (bcells l) (bcells_length l)
        (fun j u hu => by
          rw [add_at, Nat.zero_add, cell_of_row W g j cur 5 fr hg, ← Array.getElem?_toList]
          rw [← hcs, List.getElem?_take] at hu
          split at hu
          · exact hu
          · cases hu) ad m.length c news hnl hnc (by omega) hl
      rcases ho.2 with ⟨_, hz⟩ | ⟨g', cap', cur', hv', hb', hg', hn', hc', hs', ht'⟩
      · omega
      · refine ⟨v', w', by rw [hv]; exact hr, ⟨g', cap', cur', (0, 0), by rw [hv', List.length_append], Nat.le_trans hbase hb', hg', .inl rfl, by rw [List.length_append]; exact hn', hc', by rw [hs', Nat.mul_one], ?_⟩, ⟨hgr.os, hgr.tape, hgr.output, hgr.size, fun k hk => hgr.block k (by omega) (by simp)⟩, ⟨hgr.size, fun k hk _ => hgr.block k hk (by simp)⟩⟩
        rw [Nat.mul_one] at ht'
        rw [List.length_append, ht', hnews, bcells_append]
section
variable {ops : Array Oper} {rest : List Oper} {o : Oper} {a : Act} {Q' : Exit → Act → World → Prop}
theorem Bv_append_row {W : World} (base : Nat) (hgd : o.guard = none) (s x : Operand) (ho : o.op = .call { callee := .builtin .append, args := #[s, x], argTypes := #[23, 23] })
    (v : Value) (l m : List UInt8) (A : Option Addr) (c : Nat) (hs : a.eval s = v) (hx : a.eval x = .slice A m.length c) (HB : Bv W base v l) (HR : Kd.C (Kd.int .u8) W A m.length (ints m)) (hbase : base ≤ W.heap.size) (hl : l.length + m.length ≤ 150000000000000)
    (h : ∀ v1 w1, Bv w1 base v1 (l ++ m) → Below base W w1 → Kept W w1 (fun k => v.ownBlock = some k) → wpList Tryd.prog ops Q' rest (a.put o.dst v1) w1) :
    wpList Tryd.prog ops Q' (o :: rest) a W := by
  obtain ⟨v1, w1, hr, h1, h2, h3⟩ := run_Bv_append (ty := o.type) (c := c) HB HR hbase hl
  refine wpList_plain hgd fun K hK => ?_
  unfold Oper.wp execOp
  simp only [ho, resolve, invoke, builtin, Sem.run_bind, Sem.run_pure, Result.andThen_ok, List.map_toArray, List.map_cons, List.map_nil, hs, hx, hr]
  exact hK _ _ (h v1 w1 h1 h2 h3)
end
end Go.Proofs.YtbfbmgkgaokecaaDoor.PS
