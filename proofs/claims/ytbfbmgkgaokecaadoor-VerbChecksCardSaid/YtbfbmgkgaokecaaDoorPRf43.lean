/- Written by program out of the translation (a patched copy of the kit's print, called by a script of this session). Not trusted: Lean checks it. -/
import Derived.Test.YtbfbmgkgaokecaaDoorPR0
import Derived.Test.YtbfbmgkgaokecaaDoorPRf29
namespace Go.Proofs.YtbfbmgkgaokecaaDoor.PR
open Go.RowKit Go.Proofs.YtbfbmgkgaokecaaDoorW.PrintWords Go.Proofs.YtbfbmgkgaokecaaDoorW.PrintLast Go.Proofs.YtbfbmgkgaokecaaDoorW.PrintMore
attribute [local go_sem] max2_int min2_int max_two min_two max_three min_three max_four min_four   -- for this text's walks alone
set_option linter.unusedVariables false
set_option linter.unusedSimpArgs false

/-! ### intaglioref17_Keys: function 43 -/
mutual
def intaglioref17_Keys.l0 : Nat → List ByteArray → List ByteArray → Bool → Int → ByteArray → Int → Int → Bool → Int → Int → Int → Bool → Bool → Option (List ByteArray)
  | 0, _, _, _, _, _, _, _, _, _, _, _, _, _ => none
  | k + 1, x0, x3, x5, x6, x113000, x113001, x113002, x113003, x113004, x113005, x113006, x113007, x113008 => if x5 = true then (if x113004 > 0 then (intaglioref17_Keys.j1 k x0 x3 x5 x6 (decide (x6 < (x0.length : Int))) x113000 x113001 x113002 x113003 x113004 x113005 x113006 x113007 x113008) else (intaglioref17_Keys.j1 k x0 x3 x5 x6 false x113000 x113001 x113002 x113003 x113004 x113005 x113006 x113007 x113008)) else (intaglioref17_Keys.j1 k x0 x3 x5 x6 false x113000 x113001 x113002 x113003 x113004 x113005 x113006 x113007 x113008)
def intaglioref17_Keys.j1 : Nat → List ByteArray → List ByteArray → Bool → Int → Bool → ByteArray → Int → Int → Bool → Int → Int → Int → Bool → Bool → Option (List ByteArray)
  | 0, _, _, _, _, _, _, _, _, _, _, _, _, _, _ => none
  | k + 1, x0, x3, x5, x6, x29, x113000, x113001, x113002, x113003, x113004, x113005, x113006, x113007, x113008 => if x29 = true then (if x113006 = 0 then (none) else (if (Int.tmod (wrap64 (x6 - x113004)) x113006) = 0 then (if x113005 < 0 then (if 0 ≤ x6 then (if x6 < (x0.length : Int) then (if x3.length < 8796093022208 then (intaglioref17_Keys.l0 k x0 (x3 ++ [rdOf ByteArray.empty x0 x6]) x5 (wrap64 (x6 + 1)) x113000 x113001 x113002 x113003 x113004 x113005 x113006 x113007 x113008) else (none)) else (none)) else (none)) else (if x6 ≤ x113005 then (if 0 ≤ x6 then (if x6 < (x0.length : Int) then (if x3.length < 8796093022208 then (intaglioref17_Keys.l0 k x0 (x3 ++ [rdOf ByteArray.empty x0 x6]) x5 (wrap64 (x6 + 1)) x113000 x113001 x113002 x113003 x113004 x113005 x113006 x113007 x113008) else (none)) else (none)) else (none)) else (intaglioref17_Keys.l0 k x0 x3 x5 (wrap64 (x6 + 1)) x113000 x113001 x113002 x113003 x113004 x113005 x113006 x113007 x113008))) else (intaglioref17_Keys.l0 k x0 x3 x5 (wrap64 (x6 + 1)) x113000 x113001 x113002 x113003 x113004 x113005 x113006 x113007 x113008))) else (some x3)
end
def intaglioref17_Keys.f (k : Nat) (l0 : List ByteArray) : Option (List ByteArray) := if (l0.length : Int) = 0 then (some ([] : List ByteArray)) else (if 0 < (l0.length : Int) then ((intaglioref17_Find.f k (rdOf ByteArray.empty l0 0)).bind fun bt102 => (intaglioref17_Keys.l0 k l0 ([] : List ByteArray) bt102.2.2.2.2.2.2.2.2.2 1 bt102.1 bt102.2.1 bt102.2.2.1 bt102.2.2.2.1 bt102.2.2.2.2.1 bt102.2.2.2.2.2.1 bt102.2.2.2.2.2.2.1 bt102.2.2.2.2.2.2.2.1 bt102.2.2.2.2.2.2.2.2.1)) else (none))
theorem intaglioref17_Keys.mono_l : ∀ k, (∀ y0 y1 y2 y3 y4 y5 y6 y7 y8 y9 y10 y11 y12, LeO (intaglioref17_Keys.l0 k y0 y1 y2 y3 y4 y5 y6 y7 y8 y9 y10 y11 y12) (intaglioref17_Keys.l0 (k + 1) y0 y1 y2 y3 y4 y5 y6 y7 y8 y9 y10 y11 y12)) ∧ (∀ y0 y1 y2 y3 y4 y5 y6 y7 y8 y9 y10 y11 y12 y13, LeO (intaglioref17_Keys.j1 k y0 y1 y2 y3 y4 y5 y6 y7 y8 y9 y10 y11 y12 y13) (intaglioref17_Keys.j1 (k + 1) y0 y1 y2 y3 y4 y5 y6 y7 y8 y9 y10 y11 y12 y13))
  | 0 => ⟨fun _ _ _ _ _ _ _ _ _ _ _ _ _ r h => by simp [intaglioref17_Keys.l0] at h, fun _ _ _ _ _ _ _ _ _ _ _ _ _ _ r h => by simp [intaglioref17_Keys.j1] at h⟩
  | k + 1 => by
    obtain ⟨ih0, ih1⟩ := intaglioref17_Keys.mono_l k
    refine ⟨?_, ?_⟩
    · intro y0 y1 y2 y3 y4 y5 y6 y7 y8 y9 y10 y11 y12
      unfold intaglioref17_Keys.l0
      repeat' first
      | (with_reducible exact ih0 _ _ _ _ _ _ _ _ _ _ _ _ _)
      | (with_reducible exact ih1 _ _ _ _ _ _ _ _ _ _ _ _ _ _)
      | (with_reducible exact intaglioref17_Find.mono _ _)
      | (with_reducible exact LeO.refl _)
      | (with_reducible exact LeO.none _)
      | (with_reducible refine LeO.ite ?_ ?_)
      | (with_reducible refine LeO.bind ?_ (fun _ => ?_))
      | exact ih0 _ _ _ _ _ _ _ _ _ _ _ _ _
      | exact ih1 _ _ _ _ _ _ _ _ _ _ _ _ _ _
      | exact intaglioref17_Find.mono _ _
      | exact LeO.none _
      | refine LeO.ite ?_ ?_
      | refine LeO.bind ?_ (fun _ => ?_)
    · intro y0 y1 y2 y3 y4 y5 y6 y7 y8 y9 y10 y11 y12 y13
      unfold intaglioref17_Keys.j1
      repeat' first
      | (with_reducible exact ih0 _ _ _ _ _ _ _ _ _ _ _ _ _)
      | (with_reducible exact ih1 _ _ _ _ _ _ _ _ _ _ _ _ _ _)
      | (with_reducible exact intaglioref17_Find.mono _ _)
      | (with_reducible exact LeO.refl _)
      | (with_reducible exact LeO.none _)
      | (with_reducible refine LeO.ite ?_ ?_)
      | (with_reducible refine LeO.bind ?_ (fun _ => ?_))
      | exact ih0 _ _ _ _ _ _ _ _ _ _ _ _ _
      | exact ih1 _ _ _ _ _ _ _ _ _ _ _ _ _ _
      | exact intaglioref17_Find.mono _ _
      | exact LeO.none _
      | refine LeO.ite ?_ ?_
      | refine LeO.bind ?_ (fun _ => ?_)
theorem intaglioref17_Keys.mono : ∀ a0 k, LeO (intaglioref17_Keys.f k a0) (intaglioref17_Keys.f (k + 1) a0) := by
  intro a0 k
  obtain ⟨ih0, ih1⟩ := intaglioref17_Keys.mono_l k
  unfold intaglioref17_Keys.f
  repeat' first
      | (with_reducible exact ih0 _ _ _ _ _ _ _ _ _ _ _ _ _)
      | (with_reducible exact ih1 _ _ _ _ _ _ _ _ _ _ _ _ _ _)
      | (with_reducible exact intaglioref17_Find.mono _ _)
      | (with_reducible exact LeO.refl _)
      | (with_reducible exact LeO.none _)
      | (with_reducible refine LeO.ite ?_ ?_)
      | (with_reducible refine LeO.bind ?_ (fun _ => ?_))
      | exact ih0 _ _ _ _ _ _ _ _ _ _ _ _ _
      | exact ih1 _ _ _ _ _ _ _ _ _ _ _ _ _ _
      | exact intaglioref17_Find.mono _ _
      | exact LeO.none _
      | refine LeO.ite ?_ ?_
      | refine LeO.bind ?_ (fun _ => ?_)
set_option maxHeartbeats 8000000 in
set_option maxRecDepth 100000 in
theorem intaglioref17_Keys.calls (k : Nat) (A0 : Option Addr) (c0 : Nat) (l0 : List ByteArray) (r : List ByteArray) (w : World) (hr0 : Kd.C Kd.string w A0 l0.length l0) (hc0 : l0.length ≤ c0) (h : intaglioref17_Keys.f k l0 = some r) :
    Calls Tryd.prog 43 #[.slice A0 l0.length c0] w fun e w' => ∃ v0_ : Value, e = .returned (v0_) ∧ Kd.R Kd.string 9 w' w.heap.size (fun _ => True) v0_ r ∧ Below w.heap.size w w' := by
  have hu63 := Tryd.underlying63
  have HR0 := Aside0.mk hr0
  have HC0 := Aside0.mk hc0
  clear hr0 hc0
  have HB := Aside0.mk (Below.refl w.heap.size w)
  have H : (if (l0.length : Int) = 0 then (some ([] : List ByteArray)) else (if 0 < (l0.length : Int) then ((intaglioref17_Find.f k (rdOf ByteArray.empty l0 0)).bind fun bt102 => (intaglioref17_Keys.l0 k l0 ([] : List ByteArray) bt102.2.2.2.2.2.2.2.2.2 1 bt102.1 bt102.2.1 bt102.2.2.1 bt102.2.2.2.1 bt102.2.2.2.2.1 bt102.2.2.2.2.2.1 bt102.2.2.2.2.2.2.1 bt102.2.2.2.2.2.2.2.1 bt102.2.2.2.2.2.2.2.2.1)) else (none))) = some r := h
  clear h
  by_cases c2 : (l0.length : Int) = 0
  · rw [if_pos c2] at H
    have c2b0 : ((l0.length : Int) == 0) = true := beq_iff_eq.mpr c2
    have c2b1 : ((l0.length : Int) != 0) = false := bne_eq_false_iff_eq.mpr c2
    clear c2
    obtain rfl := Option.some.inj H
    go_enter Tryd.func43, Tryd.ntmps43
    go_wp2
    go_ret
    exact ⟨_, by first | rfl | (simp [errW_none, errW_some] <;> rfl) | (simp [*, errW_none, errW_some] <;> rfl), by first | exact Kd.R_nil _ _ _ _ _ | exact Kd.N_nil _ _ _ _ _ | exact Kd.V_nil _ _ _ _ _ | exact Kd.Q_nil _ _ _ _ _ | exact Kd.S_nil _ _ _ _ _, by repeat (first | (with_reducible first | exact HB.out | apply below_alloc | apply pw_below_drewN | apply below_drew1) | exact HB.out)⟩
  · rw [if_neg c2] at H
    have c2b0 : ((l0.length : Int) == 0) = false := beq_eq_false_iff_ne.mpr c2
    have c2b1 : ((l0.length : Int) != 0) = true := bne_iff_ne.mpr c2
    have c2b2 : ¬ (l0 = []) := fun h_ => c2 (by rw [h_]; rfl)
    by_cases c3 : 0 < (l0.length : Int)
    · rw [if_pos c3] at H
      have c3b0 : decide (0 < (l0.length : Int)) = true := decide_eq_true c3
      have c3b1 : decide (0 < l0.length) = true := decide_eq_true (by omega)
      clear c3
      replace H := Option.bind_eq_some_iff.mp H
      obtain ⟨⟨t102, t103, t104, t105, t106, t107, t108, t109, t110, t111⟩, A40, H⟩ := H
      replace H : (intaglioref17_Keys.l0 k l0 ([] : List ByteArray) t111 1 t102 t103 t104 t105 t106 t107 t108 t109 t110) = some r := H
      have A4 := Aside0.mk A40
      clear A40
      have H' := Aside0.mk H
      clear H
      have p101 : 0 ≤ (0 : Int) := (by omega)
      have q101 : 0 < (l0.length : Int) := of_decide_eq_true (by first | (with_reducible assumption) | assumption)
      obtain ⟨ad101, e101, hx101_0⟩ := Kd.at_string HR0.out 0 p101 q101
      cases e101
      have qi101 : (0 < l0.length) = True := eq_true (by omega)
      (try rw [show ((0 : Int)).toNat = 0 from rfl] at hx101_0)
      (try rw [Addr.add_zero'] at hx101_0)
      replace p101 := eq_true p101
      replace q101 := eq_true q101
      go_enter Tryd.func43, Tryd.ntmps43
      go_wp2_with (first | ((with_reducible refine gate_callee (f := 29) rfl ?_); refine goesL_ (some 15) rfl rfl Tryd.func29 (by kernel_rfl) rfl #[.string (rdOf ByteArray.empty l0 0)] rfl (by (try simp only [List.map_toArray, List.map_cons, List.map_nil]); first | done | rfl | (simp only [List.length_drop, List.length_take]; rfl)) ?_; (with_reducible refine (intaglioref17_Find.calls k (rdOf ByteArray.empty l0 0) t102 t103 t104 t105 t106 t107 t108 t109 t110 t111 _ A4.out).mono ?_); rintro e w5 ⟨rfl, hb⟩; refine ⟨_, rfl, ?_⟩; have n0_ := Aside0.mk (below_step (by repeat (first | (with_reducible first | exact HB.out | apply below_alloc | apply pw_below_drewN | apply below_drew1) | exact HB.out)) hb); clear HB; have HB := n0_; clear n0_; (try clear hb); (try clear hb2); (try clear hk); (try clear hi)) | ((with_reducible refine gate_dst (N := 4) rfl ?_); (try (refine gate_guard (by rfl) ?_; dsimp only)); refine box_event ?hg (N := 4) ?hd (cs := #[.string (⟨#[]⟩ : ByteArray), .int .i64 0, .int .i64 0, .bool false, .int .i64 0, .int .i64 0, .int .i64 0, .bool false, .bool false]) (t := 63) ?hr ?_; (case hd => rfl); (case hg => rfl); (case hr => first | (go_simp; done) | (go_simp; rfl)); intro gb112 hg w6 hbox hb; have n0_ := Aside0.mk (below_step (by repeat (first | (with_reducible first | exact HB.out | apply below_alloc | apply pw_below_drewN | apply below_drew1) | exact HB.out)) hb); have n1_ := Aside0.mk (hbox); have n2_ := Aside0.mk ((by rw [hg]; exact (below_size (by repeat (first | (with_reducible first | exact HB.out | apply below_alloc | apply pw_below_drewN | apply below_drew1) | exact HB.out))) : w.heap.size ≤ gb112)); have n3_ := Aside0.mk ((by rw [hg]; exact (below_size (by repeat (first | (with_reducible first | exact HB.out | apply below_alloc | apply pw_below_drewN | apply below_drew1) | exact HB.out))) : w.heap.size ≤ gb112)); clear HB; have HB := n0_; have BK112 := n1_; have GW112 := n2_; have GE112 := n3_; clear n0_ n1_ n2_ n3_; clear hb hbox hg; have hcz7_0 : w6.cell? ⟨gb112, 0, none⟩ = some (.string (⟨#[]⟩ : ByteArray)) := (blk_cell BK112.out 0).trans rfl; have hcz7_1 : w6.cell? ⟨gb112, 1, none⟩ = some (.int .i64 0) := (blk_cell BK112.out 1).trans rfl; have hcz7_2 : w6.cell? ⟨gb112, 2, none⟩ = some (.int .i64 0) := (blk_cell BK112.out 2).trans rfl; have hcz7_3 : w6.cell? ⟨gb112, 3, none⟩ = some (.bool false) := (blk_cell BK112.out 3).trans rfl; have hcz7_4 : w6.cell? ⟨gb112, 4, none⟩ = some (.int .i64 0) := (blk_cell BK112.out 4).trans rfl; have hcz7_5 : w6.cell? ⟨gb112, 5, none⟩ = some (.int .i64 0) := (blk_cell BK112.out 5).trans rfl; have hcz7_6 : w6.cell? ⟨gb112, 6, none⟩ = some (.int .i64 0) := (blk_cell BK112.out 6).trans rfl; have hcz7_7 : w6.cell? ⟨gb112, 7, none⟩ = some (.bool false) := (blk_cell BK112.out 7).trans rfl; have hcz7_8 : w6.cell? ⟨gb112, 8, none⟩ = some (.bool false) := (blk_cell BK112.out 8).trans rfl; have hfz7_0 := blk_frozen BK112.out 0; have hfz7_1 := blk_frozen BK112.out 1; have hfz7_2 := blk_frozen BK112.out 2; have hfz7_3 := blk_frozen BK112.out 3; have hfz7_4 := blk_frozen BK112.out 4; have hfz7_5 := blk_frozen BK112.out 5; have hfz7_6 := blk_frozen BK112.out 6; have hfz7_7 := blk_frozen BK112.out 7; have hfz7_8 := blk_frozen BK112.out 8))
      go_loopg [3, 6] k (fun kq v3 v6 w' => ∃ (x3_1 : List ByteArray) (x6_1 : Int), v6 = .int .i64 x6_1 ∧ Aside0 (intaglioref17_Keys.l0 kq l0 x3_1 t111 x6_1 t102 t103 t104 t105 t106 t107 t108 t109 t110 = some r) ∧ Aside0 (kq ≤ k) ∧ Aside0 (Kd.R Kd.string 9 w' w.heap.size (fun _ => True) v3 x3_1) ∧ Aside0 (w'.heap[gb112]? = some (.cells #[.string t102, .int .i64 t103, .int .i64 t104, .bool t105, .int .i64 t106, .int .i64 t107, .int .i64 t108, .bool t109, .bool t110] 63 (0, 0))) ∧ Aside0 (Below w.heap.size w w'))
      case atStart => exact ⟨(([] : List ByteArray)), (1), (by first | rfl | (simp; done) | (simp [*]; done)), H', ⟨Nat.le_refl _⟩, ⟨by first | exact Kd.R_nil _ _ _ _ _ | exact Kd.N_nil _ _ _ _ _ | exact Kd.V_nil _ _ _ _ _ | exact Kd.Q_nil _ _ _ _ _ | exact Kd.S_nil _ _ _ _ _⟩, ⟨by (with_reducible repeat (first | refine blk_drewN ?_ _ | refine blk_drew ?_ | refine blk_alloc ?_ _)); refine blk_put (cs := #[.string t102, .int .i64 t103, .int .i64 t104, .bool t105, .int .i64 t106, .int .i64 t107, .int .i64 t108, .bool t109, .bool false]) ?_ 8 _ rfl; (with_reducible repeat (first | refine blk_drewN ?_ _ | refine blk_drew ?_ | refine blk_alloc ?_ _)); refine blk_put (cs := #[.string t102, .int .i64 t103, .int .i64 t104, .bool t105, .int .i64 t106, .int .i64 t107, .int .i64 t108, .bool false, .bool false]) ?_ 7 _ rfl; (with_reducible repeat (first | refine blk_drewN ?_ _ | refine blk_drew ?_ | refine blk_alloc ?_ _)); refine blk_put (cs := #[.string t102, .int .i64 t103, .int .i64 t104, .bool t105, .int .i64 t106, .int .i64 t107, .int .i64 0, .bool false, .bool false]) ?_ 6 _ rfl; (with_reducible repeat (first | refine blk_drewN ?_ _ | refine blk_drew ?_ | refine blk_alloc ?_ _)); refine blk_put (cs := #[.string t102, .int .i64 t103, .int .i64 t104, .bool t105, .int .i64 t106, .int .i64 0, .int .i64 0, .bool false, .bool false]) ?_ 5 _ rfl; (with_reducible repeat (first | refine blk_drewN ?_ _ | refine blk_drew ?_ | refine blk_alloc ?_ _)); refine blk_put (cs := #[.string t102, .int .i64 t103, .int .i64 t104, .bool t105, .int .i64 0, .int .i64 0, .int .i64 0, .bool false, .bool false]) ?_ 4 _ rfl; (with_reducible repeat (first | refine blk_drewN ?_ _ | refine blk_drew ?_ | refine blk_alloc ?_ _)); refine blk_put (cs := #[.string t102, .int .i64 t103, .int .i64 t104, .bool false, .int .i64 0, .int .i64 0, .int .i64 0, .bool false, .bool false]) ?_ 3 _ rfl; (with_reducible repeat (first | refine blk_drewN ?_ _ | refine blk_drew ?_ | refine blk_alloc ?_ _)); refine blk_put (cs := #[.string t102, .int .i64 t103, .int .i64 0, .bool false, .int .i64 0, .int .i64 0, .int .i64 0, .bool false, .bool false]) ?_ 2 _ rfl; (with_reducible repeat (first | refine blk_drewN ?_ _ | refine blk_drew ?_ | refine blk_alloc ?_ _)); refine blk_put (cs := #[.string t102, .int .i64 0, .int .i64 0, .bool false, .int .i64 0, .int .i64 0, .int .i64 0, .bool false, .bool false]) ?_ 1 _ rfl; (with_reducible repeat (first | refine blk_drewN ?_ _ | refine blk_drew ?_ | refine blk_alloc ?_ _)); refine blk_put (cs := #[.string (⟨#[]⟩ : ByteArray), .int .i64 0, .int .i64 0, .bool false, .int .i64 0, .int .i64 0, .int .i64 0, .bool false, .bool false]) ?_ 0 _ rfl; (with_reducible repeat (first | refine blk_drewN ?_ _ | refine blk_drew ?_ | refine blk_alloc ?_ _)); exact BK112.out⟩, ⟨by repeat (first | (with_reducible first | exact HB.out | apply below_alloc | apply pw_below_drewN | apply below_drew1 | refine below_set ?_ GE112.out) | exact HB.out)⟩⟩
      case round =>
        clear H'
        try clear p1
        try clear q1
        try clear hx1
        try clear qi1
        try clear c2
        try clear c2b0
        try clear c2b1
        try clear c2b2
        try clear p2
        try clear c3
        try clear c3b0
        try clear c3b1
        try clear c4
        try clear hcz7_0
        try clear hcz7_1
        try clear hcz7_2
        try clear hcz7_3
        try clear hcz7_4
        try clear hcz7_5
        try clear hcz7_6
        try clear hcz7_7
        try clear hcz7_8
        try clear hfz7_0
        try clear hfz7_1
        try clear hfz7_2
        try clear hfz7_3
        try clear hfz7_4
        try clear hfz7_5
        try clear hfz7_6
        try clear hfz7_7
        try clear hfz7_8
        try clear hx101_0
        try clear p101
        try clear q101
        obtain ⟨x3_1, x6_1, rfl, HA, HK1, HO_3, BK112, HB⟩ := hrel
        cases gk with
        | zero => exact absurd HA.out (by simp [intaglioref17_Keys.l0])
        | succ k1 =>
          have H := HA.out
          clear HA
          simp only [intaglioref17_Keys.l0] at H
          have HC8 := Aside0.mk H
          clear H
          go_upto_region 6 with (fail)
          go_cut [29] (fun v29 wc => ∃ (kq : Nat) (x29_7 : Bool), v29 = .bool x29_7 ∧ Aside0 (intaglioref17_Keys.j1 kq l0 x3_1 t111 x6_1 x29_7 t102 t103 t104 t105 t106 t107 t108 t109 t110 = some r) ∧ Aside0 (kq ≤ k1) ∧ Aside0 (Kd.R Kd.string 9 wc w.heap.size (fun _ => True) u3 x3_1) ∧ Aside0 (wc.heap[gb112]? = some (.cells #[.string t102, .int .i64 t103, .int .i64 t104, .bool t105, .int .i64 t106, .int .i64 t107, .int .i64 t108, .bool t109, .bool t110] 63 (0, 0))) ∧ Aside0 (Below w.heap.size w wc))
          case first =>
            have H := HC8.out
            clear HC8
            by_cases c9 : t111 = true
            · subst c9
              have H1 : (if t106 > 0 then (intaglioref17_Keys.j1 k1 l0 x3_1 true x6_1 (decide (x6_1 < (l0.length : Int))) t102 t103 t104 t105 t106 t107 t108 t109 t110) else (intaglioref17_Keys.j1 k1 l0 x3_1 true x6_1 false t102 t103 t104 t105 t106 t107 t108 t109 t110)) = some r := by rw [if_pos rfl] at H; exact H
              clear H
              have H := H1
              clear H1
              by_cases c10 : t106 > 0
              · rw [if_pos c10] at H
                have c10b0 : decide (0 < t106) = true := decide_eq_true c10
                clear c10
                (first | rw [c10b0] | (simp only [i64_w, i32_w]; rw [c10b0]) | skip)
                have H' := Aside0.mk H
                clear H
                have hcz11_0 : wr.cell? ⟨gb112, 0, none⟩ = some (.string t102) := (blk_cell BK112.out 0).trans rfl
                have hcz11_1 : wr.cell? ⟨gb112, 1, none⟩ = some (.int .i64 t103) := (blk_cell BK112.out 1).trans rfl
                have hcz11_2 : wr.cell? ⟨gb112, 2, none⟩ = some (.int .i64 t104) := (blk_cell BK112.out 2).trans rfl
                have hcz11_3 : wr.cell? ⟨gb112, 3, none⟩ = some (.bool t105) := (blk_cell BK112.out 3).trans rfl
                have hcz11_4 : wr.cell? ⟨gb112, 4, none⟩ = some (.int .i64 t106) := (blk_cell BK112.out 4).trans rfl
                have hcz11_5 : wr.cell? ⟨gb112, 5, none⟩ = some (.int .i64 t107) := (blk_cell BK112.out 5).trans rfl
                have hcz11_6 : wr.cell? ⟨gb112, 6, none⟩ = some (.int .i64 t108) := (blk_cell BK112.out 6).trans rfl
                have hcz11_7 : wr.cell? ⟨gb112, 7, none⟩ = some (.bool t109) := (blk_cell BK112.out 7).trans rfl
                have hcz11_8 : wr.cell? ⟨gb112, 8, none⟩ = some (.bool t110) := (blk_cell BK112.out 8).trans rfl
                have hfz11_0 := blk_frozen BK112.out 0
                have hfz11_1 := blk_frozen BK112.out 1
                have hfz11_2 := blk_frozen BK112.out 2
                have hfz11_3 := blk_frozen BK112.out 3
                have hfz11_4 := blk_frozen BK112.out 4
                have hfz11_5 := blk_frozen BK112.out 5
                have hfz11_6 := blk_frozen BK112.out 6
                have hfz11_7 := blk_frozen BK112.out 7
                have hfz11_8 := blk_frozen BK112.out 8
                go_wp2
                go_meet
                case rel => exact ⟨_, (decide (x6_1 < (l0.length : Int))), (by first | rfl | (simp; done) | (simp [*]; done)), H', ⟨by have := HK1.out; first | omega | exact Nat.le_refl _⟩, ⟨by (with_reducible repeat (first | apply Kd.R_alloc | apply Kd.R_drewN | apply Kd.R_drew)); exact HO_3.out⟩, ⟨by (with_reducible repeat (first | refine blk_drewN ?_ _ | refine blk_drew ?_ | refine blk_alloc ?_ _)); exact BK112.out⟩, ⟨by repeat (first | (with_reducible first | exact HB.out | apply below_alloc | apply pw_below_drewN | apply below_drew1 | refine below_set ?_ GE112.out) | exact HB.out)⟩⟩
              · rw [if_neg c10] at H
                have c10b0 : decide (0 < t106) = false := decide_eq_false c10
                clear c10
                (first | rw [c10b0] | (simp only [i64_w, i32_w]; rw [c10b0]) | skip)
                have H' := Aside0.mk H
                clear H
                have hcz12_0 : wr.cell? ⟨gb112, 0, none⟩ = some (.string t102) := (blk_cell BK112.out 0).trans rfl
                have hcz12_1 : wr.cell? ⟨gb112, 1, none⟩ = some (.int .i64 t103) := (blk_cell BK112.out 1).trans rfl
                have hcz12_2 : wr.cell? ⟨gb112, 2, none⟩ = some (.int .i64 t104) := (blk_cell BK112.out 2).trans rfl
                have hcz12_3 : wr.cell? ⟨gb112, 3, none⟩ = some (.bool t105) := (blk_cell BK112.out 3).trans rfl
                have hcz12_4 : wr.cell? ⟨gb112, 4, none⟩ = some (.int .i64 t106) := (blk_cell BK112.out 4).trans rfl
                have hcz12_5 : wr.cell? ⟨gb112, 5, none⟩ = some (.int .i64 t107) := (blk_cell BK112.out 5).trans rfl
                have hcz12_6 : wr.cell? ⟨gb112, 6, none⟩ = some (.int .i64 t108) := (blk_cell BK112.out 6).trans rfl
                have hcz12_7 : wr.cell? ⟨gb112, 7, none⟩ = some (.bool t109) := (blk_cell BK112.out 7).trans rfl
                have hcz12_8 : wr.cell? ⟨gb112, 8, none⟩ = some (.bool t110) := (blk_cell BK112.out 8).trans rfl
                have hfz12_0 := blk_frozen BK112.out 0
                have hfz12_1 := blk_frozen BK112.out 1
                have hfz12_2 := blk_frozen BK112.out 2
                have hfz12_3 := blk_frozen BK112.out 3
                have hfz12_4 := blk_frozen BK112.out 4
                have hfz12_5 := blk_frozen BK112.out 5
                have hfz12_6 := blk_frozen BK112.out 6
                have hfz12_7 := blk_frozen BK112.out 7
                have hfz12_8 := blk_frozen BK112.out 8
                go_wp2
                go_meet
                case rel => exact ⟨_, (false), (by first | rfl | (simp; done) | (simp [*]; done)), H', ⟨by have := HK1.out; first | omega | exact Nat.le_refl _⟩, ⟨by (with_reducible repeat (first | apply Kd.R_alloc | apply Kd.R_drewN | apply Kd.R_drew)); exact HO_3.out⟩, ⟨by (with_reducible repeat (first | refine blk_drewN ?_ _ | refine blk_drew ?_ | refine blk_alloc ?_ _)); exact BK112.out⟩, ⟨by repeat (first | (with_reducible first | exact HB.out | apply below_alloc | apply pw_below_drewN | apply below_drew1 | refine below_set ?_ GE112.out) | exact HB.out)⟩⟩
            · replace c9 := Bool.eq_false_iff.mpr c9
              subst c9
              have H1 : (intaglioref17_Keys.j1 k1 l0 x3_1 false x6_1 false t102 t103 t104 t105 t106 t107 t108 t109 t110) = some r := by rw [if_neg (show ¬ (false = true) by decide)] at H; exact H
              clear H
              have H := H1
              clear H1
              have H' := Aside0.mk H
              clear H
              go_wp2
              go_meet
              case rel => exact ⟨_, (false), (by first | rfl | (simp; done) | (simp [*]; done)), H', ⟨by have := HK1.out; first | omega | exact Nat.le_refl _⟩, ⟨by (with_reducible repeat (first | apply Kd.R_alloc | apply Kd.R_drewN | apply Kd.R_drew)); exact HO_3.out⟩, ⟨by (with_reducible repeat (first | refine blk_drewN ?_ _ | refine blk_drew ?_ | refine blk_alloc ?_ _)); exact BK112.out⟩, ⟨by repeat (first | (with_reducible first | exact HB.out | apply below_alloc | apply pw_below_drewN | apply below_drew1 | refine below_set ?_ GE112.out) | exact HB.out)⟩⟩
          case rest =>
            clear HC8
            try clear c1
            try clear p1
            try clear q1
            try clear hx1
            try clear qi1
            try clear c2
            try clear c2b0
            try clear c2b1
            try clear c2b2
            try clear p2
            try clear c3
            try clear c3b0
            try clear c3b1
            try clear c4
            try clear c9
            try clear c10
            try clear c10b0
            try clear p10
            try clear q10
            try clear hx10
            try clear qi10
            try clear hcz11_0
            try clear hcz11_1
            try clear hcz11_2
            try clear hcz11_3
            try clear hcz11_4
            try clear hcz11_5
            try clear hcz11_6
            try clear hcz11_7
            try clear hcz11_8
            try clear hcz12_0
            try clear hcz12_1
            try clear hcz12_2
            try clear hcz12_3
            try clear hcz12_4
            try clear hcz12_5
            try clear hcz12_6
            try clear hcz12_7
            try clear hcz12_8
            try clear hcz7_0
            try clear hcz7_1
            try clear hcz7_2
            try clear hcz7_3
            try clear hcz7_4
            try clear hcz7_5
            try clear hcz7_6
            try clear hcz7_7
            try clear hcz7_8
            try clear hfz11_0
            try clear hfz11_1
            try clear hfz11_2
            try clear hfz11_3
            try clear hfz11_4
            try clear hfz11_5
            try clear hfz11_6
            try clear hfz11_7
            try clear hfz11_8
            try clear hfz12_0
            try clear hfz12_1
            try clear hfz12_2
            try clear hfz12_3
            try clear hfz12_4
            try clear hfz12_5
            try clear hfz12_6
            try clear hfz12_7
            try clear hfz12_8
            try clear hfz7_0
            try clear hfz7_1
            try clear hfz7_2
            try clear hfz7_3
            try clear hfz7_4
            try clear hfz7_5
            try clear hfz7_6
            try clear hfz7_7
            try clear hfz7_8
            try clear hx101_0
            try clear p1
            try clear p101
            try clear p2
            try clear q1
            try clear q101
            obtain ⟨kq, x29_7, rfl, HA, HJ7, HO_3, BK112, HB⟩ := hcut
            cases kq with
            | zero => exact absurd HA.out (by simp [intaglioref17_Keys.j1])
            | succ kj7 =>
              have H := HA.out
              clear HA
              simp only [intaglioref17_Keys.j1] at H
              by_cases c13 : x29_7 = true
              · subst c13
                have H1 : (if t108 = 0 then (none) else (if (Int.tmod (wrap64 (x6_1 - t106)) t108) = 0 then (if t107 < 0 then (if 0 ≤ x6_1 then (if x6_1 < (l0.length : Int) then (if x3_1.length < 8796093022208 then (intaglioref17_Keys.l0 kj7 l0 (x3_1 ++ [rdOf ByteArray.empty l0 x6_1]) t111 (wrap64 (x6_1 + 1)) t102 t103 t104 t105 t106 t107 t108 t109 t110) else (none)) else (none)) else (none)) else (if x6_1 ≤ t107 then (if 0 ≤ x6_1 then (if x6_1 < (l0.length : Int) then (if x3_1.length < 8796093022208 then (intaglioref17_Keys.l0 kj7 l0 (x3_1 ++ [rdOf ByteArray.empty l0 x6_1]) t111 (wrap64 (x6_1 + 1)) t102 t103 t104 t105 t106 t107 t108 t109 t110) else (none)) else (none)) else (none)) else (intaglioref17_Keys.l0 kj7 l0 x3_1 t111 (wrap64 (x6_1 + 1)) t102 t103 t104 t105 t106 t107 t108 t109 t110))) else (intaglioref17_Keys.l0 kj7 l0 x3_1 t111 (wrap64 (x6_1 + 1)) t102 t103 t104 t105 t106 t107 t108 t109 t110))) = some r := by rw [if_pos rfl] at H; exact H
                clear H
                have H := H1
                clear H1
                by_cases c14 : t108 = 0
                · rw [if_pos c14] at H
                  exact absurd H (by simp)
                · rw [if_neg c14] at H
                  have c14b0 : (t108 == 0) = false := beq_eq_false_iff_ne.mpr c14
                  have c14b1 : (t108 != 0) = true := bne_iff_ne.mpr c14
                  by_cases c15 : (Int.tmod (wrap64 (x6_1 - t106)) t108) = 0
                  · rw [if_pos c15] at H
                    have c15b0 : ((Int.tmod (wrap64 (x6_1 - t106)) t108) == 0) = true := beq_iff_eq.mpr c15
                    have c15b1 : ((Int.tmod (wrap64 (x6_1 - t106)) t108) != 0) = false := bne_eq_false_iff_eq.mpr c15
                    clear c15
                    by_cases c16 : t107 < 0
                    · rw [if_pos c16] at H
                      have c16b0 : decide (t107 < 0) = true := decide_eq_true c16
                      clear c16
                      by_cases c17 : 0 ≤ x6_1
                      · rw [if_pos c17] at H
                        have c17b0 : decide (0 ≤ x6_1) = true := decide_eq_true c17
                        clear c17
                        by_cases c18 : x6_1 < (l0.length : Int)
                        · rw [if_pos c18] at H
                          have c18b0 : decide (x6_1 < (l0.length : Int)) = true := decide_eq_true c18
                          clear c18
                          by_cases c19 : x3_1.length < 8796093022208
                          · rw [if_pos c19] at H
                            have LMc19 := Aside0.mk c19
                            clear c19
                            obtain ⟨y114, hy114⟩ : ∃ y_ : List ByteArray, y_ = (x3_1 ++ [rdOf ByteArray.empty l0 x6_1]) := ⟨_, rfl⟩
                            replace H : (intaglioref17_Keys.l0 kj7 l0 y114 t111 (wrap64 (x6_1 + 1)) t102 t103 t104 t105 t106 t107 t108 t109 t110) = some r := by first | (rw [hy114]; with_reducible exact H) | (have H2_ := (Option.bind_some _ _).symm.trans H; rw [hy114]; with_reducible exact H2_) | (have H2_ := (Option.bind_some _ _).symm.trans H; with_reducible exact H2_) | with_reducible exact H | (rw [hy114]; exact H) | exact H
                            have Ny114 := Aside0.mk hy114
                            clear hy114
                            have H' := Aside0.mk H
                            clear H
                            have hcz20_0 : wc.cell? ⟨gb112, 0, none⟩ = some (.string t102) := (blk_cell BK112.out 0).trans rfl
                            have hcz20_1 : wc.cell? ⟨gb112, 1, none⟩ = some (.int .i64 t103) := (blk_cell BK112.out 1).trans rfl
                            have hcz20_2 : wc.cell? ⟨gb112, 2, none⟩ = some (.int .i64 t104) := (blk_cell BK112.out 2).trans rfl
                            have hcz20_3 : wc.cell? ⟨gb112, 3, none⟩ = some (.bool t105) := (blk_cell BK112.out 3).trans rfl
                            have hcz20_4 : wc.cell? ⟨gb112, 4, none⟩ = some (.int .i64 t106) := (blk_cell BK112.out 4).trans rfl
                            have hcz20_5 : wc.cell? ⟨gb112, 5, none⟩ = some (.int .i64 t107) := (blk_cell BK112.out 5).trans rfl
                            have hcz20_6 : wc.cell? ⟨gb112, 6, none⟩ = some (.int .i64 t108) := (blk_cell BK112.out 6).trans rfl
                            have hcz20_7 : wc.cell? ⟨gb112, 7, none⟩ = some (.bool t109) := (blk_cell BK112.out 7).trans rfl
                            have hcz20_8 : wc.cell? ⟨gb112, 8, none⟩ = some (.bool t110) := (blk_cell BK112.out 8).trans rfl
                            have hfz20_0 := blk_frozen BK112.out 0
                            have hfz20_1 := blk_frozen BK112.out 1
                            have hfz20_2 := blk_frozen BK112.out 2
                            have hfz20_3 := blk_frozen BK112.out 3
                            have hfz20_4 := blk_frozen BK112.out 4
                            have hfz20_5 := blk_frozen BK112.out 5
                            have hfz20_6 := blk_frozen BK112.out 6
                            have hfz20_7 := blk_frozen BK112.out 7
                            have hfz20_8 := blk_frozen BK112.out 8
                            have p113 : 0 ≤ (x6_1 : Int) := of_decide_eq_true (by first | (with_reducible assumption) | assumption)
                            have q113 : x6_1 < (l0.length : Int) := of_decide_eq_true (by first | (with_reducible assumption) | assumption)
                            obtain ⟨ad113, e113, hx113_0⟩ := Kd.at_string HR0.out x6_1 p113 q113
                            obtain rfl : ad101 = ad113 := (by injection e113)
                            replace hx113_0 := (HB.out.cell (World.block_lt_of_cell? w _ hx113_0)).trans hx113_0
                            replace p113 := eq_true p113
                            replace q113 := eq_true q113
                            go_wp2_with (first | ((with_reducible refine gate_builtin (b := .append) (xs := #[.tmp 51, .tmp 56]) rfl ?_); (try (refine gate_guard (by rfl) ?_; dsimp only)); at_builtin; refine Kd.R_append Kd.string (w0 := w) w.heap.size rfl (.tmp 51) (.tmp 56) 22 9 (.string ⟨#[]⟩) 16 rfl Tryd.underlying22 info9 rfl (by decide) (by omega) u3 x3_1 (rdOf ByteArray.empty l0 x6_1) [.string (rdOf ByteArray.empty l0 x6_1)] (fun _ => True) (fun _ => False) rfl rfl ?aP (fun _ hk => hk.elim) ?aF ?aO ?aB ?aS ?aL ?_; (case aP => exact rfl); (case aB => exact (by repeat (first | (with_reducible first | exact HB.out | apply below_alloc | apply pw_below_drewN | apply below_drew1 | refine below_set ?_ GE112.out) | exact HB.out))); (case aF => exact (fun _ _ => trivial)); (case aO => exact (by (with_reducible repeat (first | apply Kd.R_alloc | apply Kd.R_drewN | apply Kd.R_drew)); exact HO_3.out)); (case aS => exact (below_size (by repeat (first | (with_reducible first | exact HB.out | apply below_alloc | apply pw_below_drewN | apply below_drew1 | refine below_set ?_ GE112.out) | exact HB.out)))); (case aL => have := LMc19.out; omega); intro v115 w21 ho hb hg hat; rw [← Ny114.out] at ho; have n0_ := Aside0.mk (blk_grown (g := gb112) (o := .cells #[.string t102, .int .i64 t103, .int .i64 t104, .bool t105, .int .i64 t106, .int .i64 t107, .int .i64 t108, .bool t109, .bool t110] 63 (0, 0)) (by (with_reducible repeat (first | refine blk_drewN ?_ _ | refine blk_drew ?_ | refine blk_alloc ?_ _)); exact BK112.out) hg (Kd.R_ne HO_3.out BK112.out (by decide))); have n1_ := Aside0.mk (hb); have n2_ := Aside0.mk (ho); clear BK112; clear HB; clear HO_3; have BK112 := n0_; have HB := n1_; have HO116 := n2_; clear n0_ n1_ n2_; clear ho hb hg hat))
                            go_roundg kj7
                            case measure => have := HK1.out; have := HJ7.out; omega
                            case rel => exact ⟨(y114), (wrap64 (x6_1 + 1)), (by first | rfl | (simp; done) | (simp [*]; done)), H', ⟨by have := HK1.out; have := HJ7.out; omega⟩, ⟨by (with_reducible repeat (first | apply Kd.R_alloc | apply Kd.R_drewN | apply Kd.R_drew)); exact HO116.out⟩, ⟨by (with_reducible repeat (first | refine blk_drewN ?_ _ | refine blk_drew ?_ | refine blk_alloc ?_ _)); exact BK112.out⟩, ⟨by repeat (first | (with_reducible first | exact HB.out | apply below_alloc | apply pw_below_drewN | apply below_drew1 | refine below_set ?_ GE112.out) | exact HB.out)⟩⟩
                          · rw [if_neg c19] at H
                            exact absurd H (by simp)
                        · rw [if_neg c18] at H
                          exact absurd H (by simp)
                      · rw [if_neg c17] at H
                        exact absurd H (by simp)
                    · rw [if_neg c16] at H
                      have c16b0 : decide (t107 < 0) = false := decide_eq_false c16
                      clear c16
                      by_cases c22 : x6_1 ≤ t107
                      · rw [if_pos c22] at H
                        have c22b0 : decide (x6_1 ≤ t107) = true := decide_eq_true c22
                        clear c22
                        by_cases c23 : 0 ≤ x6_1
                        · rw [if_pos c23] at H
                          have c23b0 : decide (0 ≤ x6_1) = true := decide_eq_true c23
                          clear c23
                          by_cases c24 : x6_1 < (l0.length : Int)
                          · rw [if_pos c24] at H
                            have c24b0 : decide (x6_1 < (l0.length : Int)) = true := decide_eq_true c24
                            clear c24
                            by_cases c25 : x3_1.length < 8796093022208
                            · rw [if_pos c25] at H
                              have LMc25 := Aside0.mk c25
                              clear c25
                              obtain ⟨y118, hy118⟩ : ∃ y_ : List ByteArray, y_ = (x3_1 ++ [rdOf ByteArray.empty l0 x6_1]) := ⟨_, rfl⟩
                              replace H : (intaglioref17_Keys.l0 kj7 l0 y118 t111 (wrap64 (x6_1 + 1)) t102 t103 t104 t105 t106 t107 t108 t109 t110) = some r := by first | (rw [hy118]; with_reducible exact H) | (have H2_ := (Option.bind_some _ _).symm.trans H; rw [hy118]; with_reducible exact H2_) | (have H2_ := (Option.bind_some _ _).symm.trans H; with_reducible exact H2_) | with_reducible exact H | (rw [hy118]; exact H) | exact H
                              have Ny118 := Aside0.mk hy118
                              clear hy118
                              have H' := Aside0.mk H
                              clear H
                              have hcz26_0 : wc.cell? ⟨gb112, 0, none⟩ = some (.string t102) := (blk_cell BK112.out 0).trans rfl
                              have hcz26_1 : wc.cell? ⟨gb112, 1, none⟩ = some (.int .i64 t103) := (blk_cell BK112.out 1).trans rfl
                              have hcz26_2 : wc.cell? ⟨gb112, 2, none⟩ = some (.int .i64 t104) := (blk_cell BK112.out 2).trans rfl
                              have hcz26_3 : wc.cell? ⟨gb112, 3, none⟩ = some (.bool t105) := (blk_cell BK112.out 3).trans rfl
                              have hcz26_4 : wc.cell? ⟨gb112, 4, none⟩ = some (.int .i64 t106) := (blk_cell BK112.out 4).trans rfl
                              have hcz26_5 : wc.cell? ⟨gb112, 5, none⟩ = some (.int .i64 t107) := (blk_cell BK112.out 5).trans rfl
                              have hcz26_6 : wc.cell? ⟨gb112, 6, none⟩ = some (.int .i64 t108) := (blk_cell BK112.out 6).trans rfl
                              have hcz26_7 : wc.cell? ⟨gb112, 7, none⟩ = some (.bool t109) := (blk_cell BK112.out 7).trans rfl
                              have hcz26_8 : wc.cell? ⟨gb112, 8, none⟩ = some (.bool t110) := (blk_cell BK112.out 8).trans rfl
                              have hfz26_0 := blk_frozen BK112.out 0
                              have hfz26_1 := blk_frozen BK112.out 1
                              have hfz26_2 := blk_frozen BK112.out 2
                              have hfz26_3 := blk_frozen BK112.out 3
                              have hfz26_4 := blk_frozen BK112.out 4
                              have hfz26_5 := blk_frozen BK112.out 5
                              have hfz26_6 := blk_frozen BK112.out 6
                              have hfz26_7 := blk_frozen BK112.out 7
                              have hfz26_8 := blk_frozen BK112.out 8
                              have p117 : 0 ≤ (x6_1 : Int) := of_decide_eq_true (by first | (with_reducible assumption) | assumption)
                              have q117 : x6_1 < (l0.length : Int) := of_decide_eq_true (by first | (with_reducible assumption) | assumption)
                              obtain ⟨ad117, e117, hx117_0⟩ := Kd.at_string HR0.out x6_1 p117 q117
                              obtain rfl : ad101 = ad117 := (by injection e117)
                              replace hx117_0 := (HB.out.cell (World.block_lt_of_cell? w _ hx117_0)).trans hx117_0
                              replace p117 := eq_true p117
                              replace q117 := eq_true q117
                              go_wp2_with (first | ((with_reducible refine gate_builtin (b := .append) (xs := #[.tmp 51, .tmp 56]) rfl ?_); (try (refine gate_guard (by rfl) ?_; dsimp only)); at_builtin; refine Kd.R_append Kd.string (w0 := w) w.heap.size rfl (.tmp 51) (.tmp 56) 22 9 (.string ⟨#[]⟩) 16 rfl Tryd.underlying22 info9 rfl (by decide) (by omega) u3 x3_1 (rdOf ByteArray.empty l0 x6_1) [.string (rdOf ByteArray.empty l0 x6_1)] (fun _ => True) (fun _ => False) rfl rfl ?aP (fun _ hk => hk.elim) ?aF ?aO ?aB ?aS ?aL ?_; (case aP => exact rfl); (case aB => exact (by repeat (first | (with_reducible first | exact HB.out | apply below_alloc | apply pw_below_drewN | apply below_drew1 | refine below_set ?_ GE112.out) | exact HB.out))); (case aF => exact (fun _ _ => trivial)); (case aO => exact (by (with_reducible repeat (first | apply Kd.R_alloc | apply Kd.R_drewN | apply Kd.R_drew)); exact HO_3.out)); (case aS => exact (below_size (by repeat (first | (with_reducible first | exact HB.out | apply below_alloc | apply pw_below_drewN | apply below_drew1 | refine below_set ?_ GE112.out) | exact HB.out)))); (case aL => have := LMc25.out; omega); intro v119 w27 ho hb hg hat; rw [← Ny118.out] at ho; have n0_ := Aside0.mk (blk_grown (g := gb112) (o := .cells #[.string t102, .int .i64 t103, .int .i64 t104, .bool t105, .int .i64 t106, .int .i64 t107, .int .i64 t108, .bool t109, .bool t110] 63 (0, 0)) (by (with_reducible repeat (first | refine blk_drewN ?_ _ | refine blk_drew ?_ | refine blk_alloc ?_ _)); exact BK112.out) hg (Kd.R_ne HO_3.out BK112.out (by decide))); have n1_ := Aside0.mk (hb); have n2_ := Aside0.mk (ho); clear BK112; clear HB; clear HO_3; have BK112 := n0_; have HB := n1_; have HO120 := n2_; clear n0_ n1_ n2_; clear ho hb hg hat))
                              go_roundg kj7
                              case measure => have := HK1.out; have := HJ7.out; omega
                              case rel => exact ⟨(y118), (wrap64 (x6_1 + 1)), (by first | rfl | (simp; done) | (simp [*]; done)), H', ⟨by have := HK1.out; have := HJ7.out; omega⟩, ⟨by (with_reducible repeat (first | apply Kd.R_alloc | apply Kd.R_drewN | apply Kd.R_drew)); exact HO120.out⟩, ⟨by (with_reducible repeat (first | refine blk_drewN ?_ _ | refine blk_drew ?_ | refine blk_alloc ?_ _)); exact BK112.out⟩, ⟨by repeat (first | (with_reducible first | exact HB.out | apply below_alloc | apply pw_below_drewN | apply below_drew1 | refine below_set ?_ GE112.out) | exact HB.out)⟩⟩
                            · rw [if_neg c25] at H
                              exact absurd H (by simp)
                          · rw [if_neg c24] at H
                            exact absurd H (by simp)
                        · rw [if_neg c23] at H
                          exact absurd H (by simp)
                      · rw [if_neg c22] at H
                        have c22b0 : decide (x6_1 ≤ t107) = false := decide_eq_false c22
                        clear c22
                        have H' := Aside0.mk H
                        clear H
                        have hcz28_0 : wc.cell? ⟨gb112, 0, none⟩ = some (.string t102) := (blk_cell BK112.out 0).trans rfl
                        have hcz28_1 : wc.cell? ⟨gb112, 1, none⟩ = some (.int .i64 t103) := (blk_cell BK112.out 1).trans rfl
                        have hcz28_2 : wc.cell? ⟨gb112, 2, none⟩ = some (.int .i64 t104) := (blk_cell BK112.out 2).trans rfl
                        have hcz28_3 : wc.cell? ⟨gb112, 3, none⟩ = some (.bool t105) := (blk_cell BK112.out 3).trans rfl
                        have hcz28_4 : wc.cell? ⟨gb112, 4, none⟩ = some (.int .i64 t106) := (blk_cell BK112.out 4).trans rfl
                        have hcz28_5 : wc.cell? ⟨gb112, 5, none⟩ = some (.int .i64 t107) := (blk_cell BK112.out 5).trans rfl
                        have hcz28_6 : wc.cell? ⟨gb112, 6, none⟩ = some (.int .i64 t108) := (blk_cell BK112.out 6).trans rfl
                        have hcz28_7 : wc.cell? ⟨gb112, 7, none⟩ = some (.bool t109) := (blk_cell BK112.out 7).trans rfl
                        have hcz28_8 : wc.cell? ⟨gb112, 8, none⟩ = some (.bool t110) := (blk_cell BK112.out 8).trans rfl
                        have hfz28_0 := blk_frozen BK112.out 0
                        have hfz28_1 := blk_frozen BK112.out 1
                        have hfz28_2 := blk_frozen BK112.out 2
                        have hfz28_3 := blk_frozen BK112.out 3
                        have hfz28_4 := blk_frozen BK112.out 4
                        have hfz28_5 := blk_frozen BK112.out 5
                        have hfz28_6 := blk_frozen BK112.out 6
                        have hfz28_7 := blk_frozen BK112.out 7
                        have hfz28_8 := blk_frozen BK112.out 8
                        go_wp2
                        go_roundg kj7
                        case measure => have := HK1.out; have := HJ7.out; omega
                        case rel => exact ⟨(x3_1), (wrap64 (x6_1 + 1)), (by first | rfl | (simp; done) | (simp [*]; done)), H', ⟨by have := HK1.out; have := HJ7.out; omega⟩, ⟨by (with_reducible repeat (first | apply Kd.R_alloc | apply Kd.R_drewN | apply Kd.R_drew)); exact HO_3.out⟩, ⟨by (with_reducible repeat (first | refine blk_drewN ?_ _ | refine blk_drew ?_ | refine blk_alloc ?_ _)); exact BK112.out⟩, ⟨by repeat (first | (with_reducible first | exact HB.out | apply below_alloc | apply pw_below_drewN | apply below_drew1 | refine below_set ?_ GE112.out) | exact HB.out)⟩⟩
                  · rw [if_neg c15] at H
                    have c15b0 : ((Int.tmod (wrap64 (x6_1 - t106)) t108) == 0) = false := beq_eq_false_iff_ne.mpr c15
                    have c15b1 : ((Int.tmod (wrap64 (x6_1 - t106)) t108) != 0) = true := bne_iff_ne.mpr c15
                    have H' := Aside0.mk H
                    clear H
                    have hcz29_0 : wc.cell? ⟨gb112, 0, none⟩ = some (.string t102) := (blk_cell BK112.out 0).trans rfl
                    have hcz29_1 : wc.cell? ⟨gb112, 1, none⟩ = some (.int .i64 t103) := (blk_cell BK112.out 1).trans rfl
                    have hcz29_2 : wc.cell? ⟨gb112, 2, none⟩ = some (.int .i64 t104) := (blk_cell BK112.out 2).trans rfl
                    have hcz29_3 : wc.cell? ⟨gb112, 3, none⟩ = some (.bool t105) := (blk_cell BK112.out 3).trans rfl
                    have hcz29_4 : wc.cell? ⟨gb112, 4, none⟩ = some (.int .i64 t106) := (blk_cell BK112.out 4).trans rfl
                    have hcz29_5 : wc.cell? ⟨gb112, 5, none⟩ = some (.int .i64 t107) := (blk_cell BK112.out 5).trans rfl
                    have hcz29_6 : wc.cell? ⟨gb112, 6, none⟩ = some (.int .i64 t108) := (blk_cell BK112.out 6).trans rfl
                    have hcz29_7 : wc.cell? ⟨gb112, 7, none⟩ = some (.bool t109) := (blk_cell BK112.out 7).trans rfl
                    have hcz29_8 : wc.cell? ⟨gb112, 8, none⟩ = some (.bool t110) := (blk_cell BK112.out 8).trans rfl
                    have hfz29_0 := blk_frozen BK112.out 0
                    have hfz29_1 := blk_frozen BK112.out 1
                    have hfz29_2 := blk_frozen BK112.out 2
                    have hfz29_3 := blk_frozen BK112.out 3
                    have hfz29_4 := blk_frozen BK112.out 4
                    have hfz29_5 := blk_frozen BK112.out 5
                    have hfz29_6 := blk_frozen BK112.out 6
                    have hfz29_7 := blk_frozen BK112.out 7
                    have hfz29_8 := blk_frozen BK112.out 8
                    go_wp2
                    go_roundg kj7
                    case measure => have := HK1.out; have := HJ7.out; omega
                    case rel => exact ⟨(x3_1), (wrap64 (x6_1 + 1)), (by first | rfl | (simp; done) | (simp [*]; done)), H', ⟨by have := HK1.out; have := HJ7.out; omega⟩, ⟨by (with_reducible repeat (first | apply Kd.R_alloc | apply Kd.R_drewN | apply Kd.R_drew)); exact HO_3.out⟩, ⟨by (with_reducible repeat (first | refine blk_drewN ?_ _ | refine blk_drew ?_ | refine blk_alloc ?_ _)); exact BK112.out⟩, ⟨by repeat (first | (with_reducible first | exact HB.out | apply below_alloc | apply pw_below_drewN | apply below_drew1 | refine below_set ?_ GE112.out) | exact HB.out)⟩⟩
              · replace c13 := Bool.eq_false_iff.mpr c13
                subst c13
                have H1 : (some x3_1) = some r := by rw [if_neg (show ¬ (false = true) by decide)] at H; exact H
                clear H
                have H := H1
                clear H1
                obtain rfl := Option.some.inj H
                go_wp2
                go_ret
                exact ⟨_, by first | rfl | (simp [errW_none, errW_some] <;> rfl) | (simp [*, errW_none, errW_some] <;> rfl), by (with_reducible repeat (first | apply Kd.R_alloc | apply Kd.R_drewN | apply Kd.R_drew)); exact HO_3.out, by repeat (first | (with_reducible first | exact HB.out | apply below_alloc | apply pw_below_drewN | apply below_drew1 | refine below_set ?_ GE112.out) | exact HB.out)⟩
    · rw [if_neg c3] at H
      exact absurd H (by simp)

end Go.Proofs.YtbfbmgkgaokecaaDoor.PR
