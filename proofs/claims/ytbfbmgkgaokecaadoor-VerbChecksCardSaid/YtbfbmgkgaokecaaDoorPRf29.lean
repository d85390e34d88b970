/- Written by program out of the translation (a patched copy of the kit's print, called by a script of this session). Not trusted: Lean checks it. -/
import Derived.Test.YtbfbmgkgaokecaaDoorPR0
import Derived.Test.YtbfbmgkgaokecaaDoorPRf32
import Derived.Test.YtbfbmgkgaokecaaDoorPRf59
import Derived.Test.YtbfbmgkgaokecaaDoorPRkT99
namespace Go.Proofs.YtbfbmgkgaokecaaDoor.PR
open Go.RowKit Go.Proofs.YtbfbmgkgaokecaaDoorW.PrintWords Go.Proofs.YtbfbmgkgaokecaaDoorW.PrintLast Go.Proofs.YtbfbmgkgaokecaaDoorW.PrintMore
attribute [local go_sem] max2_int min2_int max_two min_two max_three min_three max_four min_four   -- for this text's walks alone
set_option linter.unusedVariables false
set_option linter.unusedSimpArgs false

/-! ### intaglioref17_Find: function 29 -/
mutual
def intaglioref17_Find.l0 : Nat → List (S99) → ByteArray → Int → Option (ByteArray × Int × Int × Bool × Int × Int × Int × Bool × Bool × Bool)
  | 0, _, _, _ => none
  | k + 1, x4, x5, x6 => if x6 < (x4.length : Int) then (intaglioref17_Find.l1 k x4 x5 x6 0) else (some ((⟨#[]⟩ : ByteArray), 0, 0, false, 0, 0, 0, false, false, false))
def intaglioref17_Find.l1 : Nat → List (S99) → ByteArray → Int → Int → Option (ByteArray × Int × Int × Bool × Int × Int × Int × Bool × Bool × Bool)
  | 0, _, _, _, _ => none
  | k + 1, x4, x5, x6, x7 => if 0 ≤ x6 then (if x6 < (x4.length : Int) then (if x7 < (((rd_T99 x4 x6).f0).length : Int) then (if 0 ≤ x7 then (if (rdOf ByteArray.empty ((rd_T99 x4 x6).f0) x7).toList = x5.toList then (some (x5, (rd_T99 x4 x6).f1, (rd_T99 x4 x6).f2, (rd_T99 x4 x6).f3, (rd_T99 x4 x6).f4, (rd_T99 x4 x6).f5, (rd_T99 x4 x6).f6, (rd_T99 x4 x6).f7, (rd_T99 x4 x6).f8, true)) else (intaglioref17_Find.l1 k x4 x5 x6 (wrap64 (x7 + 1)))) else (none)) else (intaglioref17_Find.l0 k x4 x5 (wrap64 (x6 + 1)))) else (none)) else (none)
end
def intaglioref17_Find.f (k : Nat) (a0 : ByteArray) : Option (ByteArray × Int × Int × Bool × Int × Int × Int × Bool × Bool × Bool) := (intaglioref17_table.f).bind fun t102 => ((intaglioref17_Upper.f k a0).bind fun t105 => (intaglioref17_Find.l0 k t102 t105 0))
theorem intaglioref17_Find.mono_l : ∀ k, (∀ y0 y1 y2, LeO (intaglioref17_Find.l0 k y0 y1 y2) (intaglioref17_Find.l0 (k + 1) y0 y1 y2)) ∧ (∀ y0 y1 y2 y3, LeO (intaglioref17_Find.l1 k y0 y1 y2 y3) (intaglioref17_Find.l1 (k + 1) y0 y1 y2 y3))
  | 0 => ⟨fun _ _ _ r h => by simp [intaglioref17_Find.l0] at h, fun _ _ _ _ r h => by simp [intaglioref17_Find.l1] at h⟩
  | k + 1 => by
    obtain ⟨ih0, ih1⟩ := intaglioref17_Find.mono_l k
    refine ⟨?_, ?_⟩
    · intro y0 y1 y2
      unfold intaglioref17_Find.l0
      repeat' first
      | (with_reducible exact ih0 _ _ _)
      | (with_reducible exact ih1 _ _ _ _)
      | (with_reducible exact intaglioref17_Upper.mono _ _)
      | (with_reducible exact LeO.refl _)
      | (with_reducible exact LeO.none _)
      | (with_reducible refine LeO.ite ?_ ?_)
      | (with_reducible refine LeO.bind ?_ (fun _ => ?_))
      | exact ih0 _ _ _
      | exact ih1 _ _ _ _
      | exact intaglioref17_Upper.mono _ _
      | exact LeO.none _
      | refine LeO.ite ?_ ?_
      | refine LeO.bind ?_ (fun _ => ?_)
    · intro y0 y1 y2 y3
      unfold intaglioref17_Find.l1
      repeat' first
      | (with_reducible exact ih0 _ _ _)
      | (with_reducible exact ih1 _ _ _ _)
      | (with_reducible exact intaglioref17_Upper.mono _ _)
      | (with_reducible exact LeO.refl _)
      | (with_reducible exact LeO.none _)
      | (with_reducible refine LeO.ite ?_ ?_)
      | (with_reducible refine LeO.bind ?_ (fun _ => ?_))
      | exact ih0 _ _ _
      | exact ih1 _ _ _ _
      | exact intaglioref17_Upper.mono _ _
      | exact LeO.none _
      | refine LeO.ite ?_ ?_
      | refine LeO.bind ?_ (fun _ => ?_)
theorem intaglioref17_Find.mono : ∀ a0 k, LeO (intaglioref17_Find.f k a0) (intaglioref17_Find.f (k + 1) a0) := by
  intro a0 k
  obtain ⟨ih0, ih1⟩ := intaglioref17_Find.mono_l k
  unfold intaglioref17_Find.f
  repeat' first
      | (with_reducible exact ih0 _ _ _)
      | (with_reducible exact ih1 _ _ _ _)
      | (with_reducible exact intaglioref17_Upper.mono _ _)
      | (with_reducible exact LeO.refl _)
      | (with_reducible exact LeO.none _)
      | (with_reducible refine LeO.ite ?_ ?_)
      | (with_reducible refine LeO.bind ?_ (fun _ => ?_))
      | exact ih0 _ _ _
      | exact ih1 _ _ _ _
      | exact intaglioref17_Upper.mono _ _
      | exact LeO.none _
      | refine LeO.ite ?_ ?_
      | refine LeO.bind ?_ (fun _ => ?_)
set_option maxHeartbeats 8000000 in
set_option maxRecDepth 100000 in
theorem intaglioref17_Find.calls (k : Nat) (a0 : ByteArray) (r1 : ByteArray) (r2 : Int) (r3 : Int) (r4 : Bool) (r5 : Int) (r6 : Int) (r7 : Int) (r8 : Bool) (r9 : Bool) (r10 : Bool) (w : World) (h : intaglioref17_Find.f k a0 = some (r1, r2, r3, r4, r5, r6, r7, r8, r9, r10)) :
    Calls Tryd.prog 29 #[.string a0] w fun e w' => e = .returned (.tuple #[.agg #[.string r1, .int .i64 r2, .int .i64 r3, .bool r4, .int .i64 r5, .int .i64 r6, .int .i64 r7, .bool r8, .bool r9], .bool r10]) ∧ Below w.heap.size w w' := by
  have hu63 := Tryd.underlying63
  have hu99 := Tryd.underlying99
  have HB := Aside0.mk (Below.refl w.heap.size w)
  have H : ((intaglioref17_table.f).bind fun t102 => ((intaglioref17_Upper.f k a0).bind fun t105 => (intaglioref17_Find.l0 k t102 t105 0))) = some (r1, r2, r3, r4, r5, r6, r7, r8, r9, r10) := h
  clear h
  replace H := Option.bind_eq_some_iff.mp H
  obtain ⟨t102, A20, H⟩ := H
  replace H : ((intaglioref17_Upper.f k a0).bind fun t105 => (intaglioref17_Find.l0 k t102 t105 0)) = some (r1, r2, r3, r4, r5, r6, r7, r8, r9, r10) := H
  have A2 := Aside0.mk A20
  clear A20
  replace H := Option.bind_eq_some_iff.mp H
  obtain ⟨t105, A30, H⟩ := H
  replace H : (intaglioref17_Find.l0 k t102 t105 0) = some (r1, r2, r3, r4, r5, r6, r7, r8, r9, r10) := H
  have A3 := Aside0.mk A30
  clear A30
  have H' := Aside0.mk H
  clear H
  go_enter Tryd.func29, Tryd.ntmps29
  go_wp2_with (first | ((with_reducible refine gate_dst (N := 2) rfl ?_); refine box_event ?hg (N := 2) ?hd (cs := #[.string (⟨#[]⟩ : ByteArray), .int .i64 0, .int .i64 0, .bool false, .int .i64 0, .int .i64 0, .int .i64 0, .bool false, .bool false]) (t := 63) ?hr ?_; (case hd => rfl); (case hg => rfl); (case hr => first | (go_simp; done) | (go_simp; rfl)); intro gb101 hg w4 hbox hb; have n0_ := Aside0.mk (below_step (by repeat (first | (with_reducible first | exact HB.out | apply below_alloc | apply pw_below_drewN | apply below_drew1) | exact HB.out)) hb); have n1_ := Aside0.mk (hbox); have n2_ := Aside0.mk ((by rw [hg]; exact (below_size (by repeat (first | (with_reducible first | exact HB.out | apply below_alloc | apply pw_below_drewN | apply below_drew1) | exact HB.out))) : w.heap.size ≤ gb101)); have n3_ := Aside0.mk ((by rw [hg]; exact (below_size (by repeat (first | (with_reducible first | exact HB.out | apply below_alloc | apply pw_below_drewN | apply below_drew1) | exact HB.out))) : w.heap.size ≤ gb101)); clear HB; have HB := n0_; have BK101 := n1_; have GW101 := n2_; have GE101 := n3_; clear n0_ n1_ n2_ n3_; clear hb hbox hg) | ((with_reducible refine gate_callee (f := 59) rfl ?_); refine goesL_ (some 9) rfl rfl Tryd.func59 (by kernel_rfl) rfl #[] rfl (by (try simp only [List.map_toArray, List.map_cons, List.map_nil]); first | done | rfl | (simp only [List.length_drop, List.length_take]; rfl)) ?_; (with_reducible refine (intaglioref17_table.calls  t102 _ A2.out).mono ?_); rintro e w5 ⟨v103, rfl, ho0, hb⟩; refine ⟨_, rfl, ?_⟩; have n0_ := Aside0.mk (Kd.N_lower (Kd.N_mono (ok' := fun k_ => k_ ≠ gb101) ho0 (fun k_ hk_ => (Kd.freshB (g := gb101) (o := .cells #[.string (⟨#[]⟩ : ByteArray), .int .i64 0, .int .i64 0, .bool false, .int .i64 0, .int .i64 0, .int .i64 0, .bool false, .bool false] 63 (0, 0)) (by (with_reducible repeat (first | refine blk_drewN ?_ _ | refine blk_drew ?_ | refine blk_alloc ?_ _)); exact BK101.out) k_ hk_))) (below_size (by repeat (first | (with_reducible first | exact HB.out | apply below_alloc | apply pw_below_drewN | apply below_drew1 | refine below_set ?_ GE101.out) | exact HB.out)))); have n1_ := Aside0.mk (blk_below (g := gb101) (o := .cells #[.string (⟨#[]⟩ : ByteArray), .int .i64 0, .int .i64 0, .bool false, .int .i64 0, .int .i64 0, .int .i64 0, .bool false, .bool false] 63 (0, 0)) (by (with_reducible repeat (first | refine blk_drewN ?_ _ | refine blk_drew ?_ | refine blk_alloc ?_ _)); exact BK101.out) hb); have n2_ := Aside0.mk (below_step (by repeat (first | (with_reducible first | exact HB.out | apply below_alloc | apply pw_below_drewN | apply below_drew1 | refine below_set ?_ GE101.out) | exact HB.out)) hb); clear BK101; clear HB; have HO104 := n0_; have BK101 := n1_; have HB := n2_; clear n0_ n1_ n2_; (try clear hb); (try clear hb2); (try clear hk); (try clear hi); (try clear ho0)) | ((with_reducible refine gate_callee (f := 32) rfl ?_); refine goesL_ (some 11) rfl rfl Tryd.func32 (by kernel_rfl) rfl #[.string a0] rfl (by (try simp only [List.map_toArray, List.map_cons, List.map_nil]); first | done | rfl | (simp only [List.length_drop, List.length_take]; rfl)) ?_; (with_reducible refine (intaglioref17_Upper.calls k a0 t105 _ A3.out).mono ?_); rintro e w6 ⟨rfl, hb⟩; refine ⟨_, rfl, ?_⟩; have n0_ := Aside0.mk (Kd.N_below (by (with_reducible repeat (first | apply Kd.N_alloc | apply Kd.N_drewN | apply Kd.N_drew)); exact HO104.out) hb); have n1_ := Aside0.mk (blk_below (g := gb101) (o := .cells #[.string (⟨#[]⟩ : ByteArray), .int .i64 0, .int .i64 0, .bool false, .int .i64 0, .int .i64 0, .int .i64 0, .bool false, .bool false] 63 (0, 0)) (by (with_reducible repeat (first | refine blk_drewN ?_ _ | refine blk_drew ?_ | refine blk_alloc ?_ _)); exact BK101.out) hb); have n2_ := Aside0.mk (below_step (by repeat (first | (with_reducible first | exact HB.out | apply below_alloc | apply pw_below_drewN | apply below_drew1 | refine below_set ?_ GE101.out) | exact HB.out)) hb); clear HO104; clear BK101; clear HB; have HO104 := n0_; have BK101 := n1_; have HB := n2_; clear n0_ n1_ n2_; (try clear hb); (try clear hb2); (try clear hk); (try clear hi)))
  go_loopg [6] k (fun kq v6 w' => ∃ (x6_1 : Int) (x102000_1 : ByteArray) (x102001_1 : Int) (x102002_1 : Int) (x102003_1 : Bool) (x102004_1 : Int) (x102005_1 : Int) (x102006_1 : Int) (x102007_1 : Bool) (x102008_1 : Bool), v6 = .int .i64 x6_1 ∧ Aside0 (intaglioref17_Find.l0 kq t102 t105 x6_1 = some (r1, r2, r3, r4, r5, r6, r7, r8, r9, r10)) ∧ Aside0 (kq ≤ k) ∧ Aside0 (Kd.N k99 99 w' w.heap.size (fun k_ => k_ ≠ gb101) v103 t102) ∧ Aside0 (w'.heap[gb101]? = some (.cells #[.string x102000_1, .int .i64 x102001_1, .int .i64 x102002_1, .bool x102003_1, .int .i64 x102004_1, .int .i64 x102005_1, .int .i64 x102006_1, .bool x102007_1, .bool x102008_1] 63 (0, 0))) ∧ Aside0 (Below w.heap.size w w'))
  case atStart => exact ⟨(0), ((⟨#[]⟩ : ByteArray)), (0), (0), (false), (0), (0), (0), (false), (false), (by first | rfl | (simp; done) | (simp [*]; done)), H', ⟨Nat.le_refl _⟩, ⟨by (with_reducible repeat (first | apply Kd.N_alloc | apply Kd.N_drewN | apply Kd.N_drew)); exact HO104.out⟩, ⟨by (with_reducible repeat (first | refine blk_drewN ?_ _ | refine blk_drew ?_ | refine blk_alloc ?_ _)); exact BK101.out⟩, ⟨by repeat (first | (with_reducible first | exact HB.out | apply below_alloc | apply pw_below_drewN | apply below_drew1 | refine below_set ?_ GE101.out) | exact HB.out)⟩⟩
  case round =>
    clear H'
    try clear c2
    try clear p2
    try clear c3
    try clear c5
    obtain ⟨x6_1, x102000_1, x102001_1, x102002_1, x102003_1, x102004_1, x102005_1, x102006_1, x102007_1, x102008_1, rfl, HA, HK1, HO_4, BK101, HB⟩ := hrel
    cases gk with
    | zero => exact absurd HA.out (by simp [intaglioref17_Find.l0])
    | succ k1 =>
      have H := HA.out
      clear HA
      simp only [intaglioref17_Find.l0] at H
      by_cases c7 : x6_1 < (t102.length : Int)
      · rw [if_pos c7] at H
        have c7b0 : decide (x6_1 < (t102.length : Int)) = true := decide_eq_true c7
        clear c7
        have H' := Aside0.mk H
        clear H
        obtain ⟨Ao8, co8, eo8⟩ := Kd.N_slice HO_4.out
        subst eo8
        go_wp2
        go_loopg [7] k1 (fun kq v7 w' => ∃ (x7_2 : Int) (x102000_2 : ByteArray) (x102001_2 : Int) (x102002_2 : Int) (x102003_2 : Bool) (x102004_2 : Int) (x102005_2 : Int) (x102006_2 : Int) (x102007_2 : Bool) (x102008_2 : Bool), v7 = .int .i64 x7_2 ∧ Aside0 (intaglioref17_Find.l1 kq t102 t105 x6_1 x7_2 = some (r1, r2, r3, r4, r5, r6, r7, r8, r9, r10)) ∧ Aside0 (kq ≤ k1) ∧ Aside0 (Kd.N k99 99 w' w.heap.size (fun k_ => k_ ≠ gb101) (.slice Ao8 t102.length co8) t102) ∧ Aside0 (w'.heap[gb101]? = some (.cells #[.string x102000_2, .int .i64 x102001_2, .int .i64 x102002_2, .bool x102003_2, .int .i64 x102004_2, .int .i64 x102005_2, .int .i64 x102006_2, .bool x102007_2, .bool x102008_2] 63 (0, 0))) ∧ Aside0 (Below w.heap.size w w'))
        case atStart => exact ⟨(0), (x102000_1), (x102001_1), (x102002_1), (x102003_1), (x102004_1), (x102005_1), (x102006_1), (x102007_1), (x102008_1), (by first | rfl | (simp; done) | (simp [*]; done)), H', ⟨Nat.le_refl _⟩, ⟨by (with_reducible repeat (first | apply Kd.N_alloc | apply Kd.N_drewN | apply Kd.N_drew)); exact HO_4.out⟩, ⟨by (with_reducible repeat (first | refine blk_drewN ?_ _ | refine blk_drew ?_ | refine blk_alloc ?_ _)); exact BK101.out⟩, ⟨by repeat (first | (with_reducible first | exact HB.out | apply below_alloc | apply pw_below_drewN | apply below_drew1 | refine below_set ?_ GE101.out) | exact HB.out)⟩⟩
        case round =>
          clear H'
          try clear c2
          try clear p2
          try clear c3
          try clear c5
          try clear c7
          try clear c7b0
          try clear p2
          obtain ⟨x7_2, x102000_2, x102001_2, x102002_2, x102003_2, x102004_2, x102005_2, x102006_2, x102007_2, x102008_2, rfl, HA, HK2, HO_4, BK101, HB⟩ := hrel
          cases gk with
          | zero => exact absurd HA.out (by simp [intaglioref17_Find.l1])
          | succ k2 =>
            have H := HA.out
            clear HA
            simp only [intaglioref17_Find.l1] at H
            by_cases c9 : 0 ≤ x6_1
            · rw [if_pos c9] at H
              have c9b0 : decide (0 ≤ x6_1) = true := decide_eq_true c9
              clear c9
              by_cases c10 : x6_1 < (t102.length : Int)
              · rw [if_pos c10] at H
                have c10b0 : decide (x6_1 < (t102.length : Int)) = true := decide_eq_true c10
                clear c10
                by_cases c11 : x7_2 < (((rd_T99 t102 x6_1).f0).length : Int)
                · rw [if_pos c11] at H
                  have c11b0 : decide (x7_2 < (((rd_T99 t102 x6_1).f0).length : Int)) = true := decide_eq_true c11
                  clear c11
                  by_cases c12 : 0 ≤ x7_2
                  · rw [if_pos c12] at H
                    have c12b0 : decide (0 ≤ x7_2) = true := decide_eq_true c12
                    clear c12
                    by_cases c13 : (rdOf ByteArray.empty ((rd_T99 t102 x6_1).f0) x7_2).toList = t105.toList
                    · rw [if_pos c13] at H
                      have c13b0 : ((rdOf ByteArray.empty ((rd_T99 t102 x6_1).f0) x7_2).toList == t105.toList) = true := beq_iff_eq.mpr c13
                      have c13b1 : ((rdOf ByteArray.empty ((rd_T99 t102 x6_1).f0) x7_2).toList != t105.toList) = false := bne_eq_false_iff_eq.mpr c13
                      clear c13
                      simp only [Option.some.injEq, Prod.mk.injEq] at H
                      obtain ⟨rfl, rfl, rfl, rfl, rfl, rfl, rfl, rfl, rfl, rfl⟩ := H
                      have p106 : 0 ≤ (x6_1 : Int) := of_decide_eq_true (by first | (with_reducible assumption) | assumption)
                      have q106 : x6_1 < (t102.length : Int) := of_decide_eq_true (by first | (with_reducible assumption) | assumption)
                      obtain ⟨ad106, A106_0, c106_0, e106, hx106_0, hx106_1, hx106_2, hx106_3, hx106_4, hx106_5, hx106_6, hx106_7, hx106_8, hl106_0, hi106_0⟩ := at_T99 (Kd.N_reads' HO_4.out).2.2 x6_1 p106 q106
                      cases e106
                      obtain ⟨ce106, hce106, hMe106, hcc106⟩ := Kd.N_get HO_4.out z99 x6_1 p106 (by first | exact q106 | exact of_decide_eq_true (by first | (with_reducible assumption) | assumption) | (have e_ := (Kd.N_reads' HO_4.out).1; omega))
                      obtain ⟨ua106_0, uc106_0, rfl, ul106_0, ge106_0⟩ := k99_openF hMe106
                      have hv106_0 := hcc106 0 _ rfl
                      rw [Nat.add_zero] at hv106_0
                      replace hv106_0 := Option.some.inj (hv106_0.symm.trans hx106_0)
                      injection hv106_0 with hva_ hvn_ hvc_
                      rw [hva_] at ge106_0
                      rw [hvc_] at ul106_0
                      have HL106_0 := Aside0.mk (show Kd.V Kd.string 9 _ w.heap.size _ _ ((rd_T99 t102 x6_1).f0) from Kd.V_mk ul106_0 ge106_0)
                      clear hva_ hvn_ hvc_ ge106_0 ul106_0
                      clear hcc106 hce106
                      have HR106_0 := Aside0.mk hi106_0
                      have HC106_0 := Aside0.mk hl106_0
                      clear hi106_0 hl106_0
                      replace p106 := eq_true p106
                      replace q106 := eq_true q106
                      have p107 : 0 ≤ (x6_1 : Int) := of_decide_eq_true (by first | (with_reducible assumption) | assumption)
                      have q107 : x6_1 < (t102.length : Int) := of_decide_eq_true (by first | (with_reducible assumption) | assumption)
                      obtain ⟨ad107, A107_0, c107_0, e107, hx107_0, hx107_1, hx107_2, hx107_3, hx107_4, hx107_5, hx107_6, hx107_7, hx107_8, hl107_0, hi107_0⟩ := at_T99 (Kd.N_reads' HO_4.out).2.2 x6_1 p107 q107
                      obtain rfl : ad106 = ad107 := (by injection e107)
                      obtain ⟨ce107, hce107, hMe107, hcc107⟩ := Kd.N_get HO_4.out z99 x6_1 p107 (by first | exact q107 | exact of_decide_eq_true (by first | (with_reducible assumption) | assumption) | (have e_ := (Kd.N_reads' HO_4.out).1; omega))
                      obtain ⟨ua107_0, uc107_0, rfl, ul107_0, ge107_0⟩ := k99_openF hMe107
                      have hv107_0 := hcc107 0 _ rfl
                      rw [Nat.add_zero] at hv107_0
                      replace hv107_0 := Option.some.inj (hv107_0.symm.trans hx107_0)
                      injection hv107_0 with hva_ hvn_ hvc_
                      rw [hva_] at ge107_0
                      rw [hvc_] at ul107_0
                      have HL107_0 := Aside0.mk (show Kd.V Kd.string 9 _ w.heap.size _ _ ((rd_T99 t102 x6_1).f0) from Kd.V_mk ul107_0 ge107_0)
                      clear hva_ hvn_ hvc_ ge107_0 ul107_0
                      clear hcc107 hce107
                      have HR107_0 := Aside0.mk hi107_0
                      have HC107_0 := Aside0.mk hl107_0
                      clear hi107_0 hl107_0
                      replace p107 := eq_true p107
                      replace q107 := eq_true q107
                      have ea_ := Option.some.inj (hx106_0.symm.trans hx107_0)
                      injection ea_ with ea_ en_ ec_
                      subst ea_
                      subst ec_
                      clear en_
                      have p108 : 0 ≤ (x7_2 : Int) := of_decide_eq_true (by first | (with_reducible assumption) | assumption)
                      have q108 : x7_2 < (((rd_T99 t102 x6_1).f0).length : Int) := of_decide_eq_true (by first | (with_reducible assumption) | assumption)
                      obtain ⟨ad108, e108, hx108_0⟩ := Kd.at_string (by repeat (first | (with_reducible exact HR107_0.out) | (with_reducible refine Kd.C_alloc ?_ _) | (with_reducible refine Kd.C_drewN ?_ _) | (with_reducible refine Kd.C_drew ?_) | exact HR107_0.out)) x7_2 p108 q108
                      cases e108
                      replace p108 := eq_true p108
                      replace q108 := eq_true q108
                      have p109 : 0 ≤ (x6_1 : Int) := of_decide_eq_true (by first | (with_reducible assumption) | assumption)
                      have q109 : x6_1 < (t102.length : Int) := of_decide_eq_true (by first | (with_reducible assumption) | assumption)
                      obtain ⟨ad109, A109_0, c109_0, e109, hx109_0, hx109_1, hx109_2, hx109_3, hx109_4, hx109_5, hx109_6, hx109_7, hx109_8, hl109_0, hi109_0⟩ := at_T99 (Kd.N_reads' HO_4.out).2.2 x6_1 p109 q109
                      obtain rfl : ad106 = ad109 := (by injection e109)
                      obtain ⟨ce109, hce109, hMe109, hcc109⟩ := Kd.N_get HO_4.out z99 x6_1 p109 (by first | exact q109 | exact of_decide_eq_true (by first | (with_reducible assumption) | assumption) | (have e_ := (Kd.N_reads' HO_4.out).1; omega))
                      obtain ⟨ua109_0, uc109_0, rfl, ul109_0, ge109_0⟩ := k99_openF hMe109
                      have hv109_0 := hcc109 0 _ rfl
                      rw [Nat.add_zero] at hv109_0
                      replace hv109_0 := Option.some.inj (hv109_0.symm.trans hx109_0)
                      injection hv109_0 with hva_ hvn_ hvc_
                      rw [hva_] at ge109_0
                      rw [hvc_] at ul109_0
                      have HL109_0 := Aside0.mk (show Kd.V Kd.string 9 _ w.heap.size _ _ ((rd_T99 t102 x6_1).f0) from Kd.V_mk ul109_0 ge109_0)
                      clear hva_ hvn_ hvc_ ge109_0 ul109_0
                      clear hcc109 hce109
                      have HR109_0 := Aside0.mk hi109_0
                      have HC109_0 := Aside0.mk hl109_0
                      clear hi109_0 hl109_0
                      replace p109 := eq_true p109
                      replace q109 := eq_true q109
                      have ea_ := Option.some.inj (hx106_0.symm.trans hx109_0)
                      injection ea_ with ea_ en_ ec_
                      subst ea_
                      subst ec_
                      clear en_
                      go_wp2_with (first | ((with_reducible refine gate_dst (N := 8) rfl ?_); refine box_event ?hg (N := 8) ?hd (cs := #[.slice none 0 0, .int .i64 0, .int .i64 0, .bool false, .int .i64 0, .int .i64 0, .int .i64 0, .bool false, .bool false]) (t := 99) ?hr ?_; (case hd => rfl); (case hg => rfl); (case hr => first | (go_simp; done) | (go_simp; rfl)); intro gb110 hg w14 hbox hb; have n0_ := Aside0.mk (Kd.N_below (Kd.N_elderB (by (with_reducible repeat (first | apply Kd.N_alloc | apply Kd.N_drewN | apply Kd.N_drew)); exact HO_4.out) gb110 (Nat.le_of_eq hg.symm)) hb); have n1_ := Aside0.mk (Kd.V_below (Kd.V_elderB (by (with_reducible repeat (first | apply Kd.V_alloc | apply Kd.V_drewN | apply Kd.V_drew)); exact HL106_0.out) gb110 (Nat.le_of_eq hg.symm)) hb); have n2_ := Aside0.mk (Kd.V_below (Kd.V_elderB (by (with_reducible repeat (first | apply Kd.V_alloc | apply Kd.V_drewN | apply Kd.V_drew)); exact HL107_0.out) gb110 (Nat.le_of_eq hg.symm)) hb); have n3_ := Aside0.mk (Kd.V_below (Kd.V_elderB (by (with_reducible repeat (first | apply Kd.V_alloc | apply Kd.V_drewN | apply Kd.V_drew)); exact HL109_0.out) gb110 (Nat.le_of_eq hg.symm)) hb); have n4_ := Aside0.mk (blk_below (g := gb101) (o := .cells #[.string x102000_2, .int .i64 x102001_2, .int .i64 x102002_2, .bool x102003_2, .int .i64 x102004_2, .int .i64 x102005_2, .int .i64 x102006_2, .bool x102007_2, .bool x102008_2] 63 (0, 0)) (by (with_reducible repeat (first | refine blk_drewN ?_ _ | refine blk_drew ?_ | refine blk_alloc ?_ _)); exact BK101.out) hb); have n5_ := Aside0.mk (Kd.C_below (by repeat (first | (with_reducible exact HR106_0.out) | (with_reducible refine Kd.C_alloc ?_ _) | (with_reducible refine Kd.C_drewN ?_ _) | (with_reducible refine Kd.C_drew ?_) | exact HR106_0.out)) hb); have n6_ := Aside0.mk (Kd.C_below (by repeat (first | (with_reducible exact HR107_0.out) | (with_reducible refine Kd.C_alloc ?_ _) | (with_reducible refine Kd.C_drewN ?_ _) | (with_reducible refine Kd.C_drew ?_) | exact HR107_0.out)) hb); have n7_ := Aside0.mk (Kd.C_below (by repeat (first | (with_reducible exact HR109_0.out) | (with_reducible refine Kd.C_alloc ?_ _) | (with_reducible refine Kd.C_drewN ?_ _) | (with_reducible refine Kd.C_drew ?_) | exact HR109_0.out)) hb); have n8_ := Aside0.mk (below_step (by repeat (first | (with_reducible first | exact HB.out | apply below_alloc | apply pw_below_drewN | apply below_drew1 | refine below_set ?_ GE101.out) | exact HB.out)) hb); have n9_ := Aside0.mk (hbox); have n10_ := Aside0.mk ((by rw [hg]; exact (below_size (by repeat (first | (with_reducible first | exact HB.out | apply below_alloc | apply pw_below_drewN | apply below_drew1 | refine below_set ?_ GE101.out) | exact HB.out))) : w.heap.size ≤ gb110)); have n11_ := Aside0.mk ((by rw [hg]; exact (below_size (by repeat (first | (with_reducible first | exact HB.out | apply below_alloc | apply pw_below_drewN | apply below_drew1 | refine below_set ?_ GE101.out) | exact HB.out))) : w.heap.size ≤ gb110)); have n12_ := Aside0.mk ((by rw [hg]; exact Nat.ne_of_lt (blk_lt (g := gb101) (o := .cells #[.string x102000_2, .int .i64 x102001_2, .int .i64 x102002_2, .bool x102003_2, .int .i64 x102004_2, .int .i64 x102005_2, .int .i64 x102006_2, .bool x102007_2, .bool x102008_2] 63 (0, 0)) (by (with_reducible repeat (first | refine blk_drewN ?_ _ | refine blk_drew ?_ | refine blk_alloc ?_ _)); exact BK101.out)) : gb101 ≠ gb110)); have n13_ := Aside0.mk ((by rw [hg]; exact Nat.ne_of_gt (blk_lt (g := gb101) (o := .cells #[.string x102000_2, .int .i64 x102001_2, .int .i64 x102002_2, .bool x102003_2, .int .i64 x102004_2, .int .i64 x102005_2, .int .i64 x102006_2, .bool x102007_2, .bool x102008_2] 63 (0, 0)) (by (with_reducible repeat (first | refine blk_drewN ?_ _ | refine blk_drew ?_ | refine blk_alloc ?_ _)); exact BK101.out)) : gb110 ≠ gb101)); clear HO_4; clear HL106_0; clear HL107_0; clear HL109_0; clear BK101; clear HR106_0; clear HR107_0; clear HR109_0; clear HB; have HO_4 := n0_; have HL106_0 := n1_; have HL107_0 := n2_; have HL109_0 := n3_; have BK101 := n4_; have HR106_0 := n5_; have HR107_0 := n6_; have HR109_0 := n7_; have HB := n8_; have BK110 := n9_; have GW110 := n10_; have GE110 := n11_; have NB101_110 := n12_; have NB110_101 := n13_; clear n0_ n1_ n2_ n3_ n4_ n5_ n6_ n7_ n8_ n9_ n10_ n11_ n12_ n13_; clear hb hbox hg; have hnb15 := NB110_101.out; have hnc15 := NB101_110.out; have hcz16_0 : w14.cell? ⟨gb110, 0, none⟩ = some (.slice none 0 0) := (blk_cell BK110.out 0).trans rfl; have hcz16_1 : w14.cell? ⟨gb110, 1, none⟩ = some (.int .i64 0) := (blk_cell BK110.out 1).trans rfl; have hcz16_2 : w14.cell? ⟨gb110, 2, none⟩ = some (.int .i64 0) := (blk_cell BK110.out 2).trans rfl; have hcz16_3 : w14.cell? ⟨gb110, 3, none⟩ = some (.bool false) := (blk_cell BK110.out 3).trans rfl; have hcz16_4 : w14.cell? ⟨gb110, 4, none⟩ = some (.int .i64 0) := (blk_cell BK110.out 4).trans rfl; have hcz16_5 : w14.cell? ⟨gb110, 5, none⟩ = some (.int .i64 0) := (blk_cell BK110.out 5).trans rfl; have hcz16_6 : w14.cell? ⟨gb110, 6, none⟩ = some (.int .i64 0) := (blk_cell BK110.out 6).trans rfl; have hcz16_7 : w14.cell? ⟨gb110, 7, none⟩ = some (.bool false) := (blk_cell BK110.out 7).trans rfl; have hcz16_8 : w14.cell? ⟨gb110, 8, none⟩ = some (.bool false) := (blk_cell BK110.out 8).trans rfl; have hfz16_0 := blk_frozen BK110.out 0; have hfz16_1 := blk_frozen BK110.out 1; have hfz16_2 := blk_frozen BK110.out 2; have hfz16_3 := blk_frozen BK110.out 3; have hfz16_4 := blk_frozen BK110.out 4; have hfz16_5 := blk_frozen BK110.out 5; have hfz16_6 := blk_frozen BK110.out 6; have hfz16_7 := blk_frozen BK110.out 7; have hfz16_8 := blk_frozen BK110.out 8; have hcz17_0 : w14.cell? ⟨gb101, 0, none⟩ = some (.string x102000_2) := (blk_cell BK101.out 0).trans rfl; have hcz17_1 : w14.cell? ⟨gb101, 1, none⟩ = some (.int .i64 x102001_2) := (blk_cell BK101.out 1).trans rfl; have hcz17_2 : w14.cell? ⟨gb101, 2, none⟩ = some (.int .i64 x102002_2) := (blk_cell BK101.out 2).trans rfl; have hcz17_3 : w14.cell? ⟨gb101, 3, none⟩ = some (.bool x102003_2) := (blk_cell BK101.out 3).trans rfl; have hcz17_4 : w14.cell? ⟨gb101, 4, none⟩ = some (.int .i64 x102004_2) := (blk_cell BK101.out 4).trans rfl; have hcz17_5 : w14.cell? ⟨gb101, 5, none⟩ = some (.int .i64 x102005_2) := (blk_cell BK101.out 5).trans rfl; have hcz17_6 : w14.cell? ⟨gb101, 6, none⟩ = some (.int .i64 x102006_2) := (blk_cell BK101.out 6).trans rfl; have hcz17_7 : w14.cell? ⟨gb101, 7, none⟩ = some (.bool x102007_2) := (blk_cell BK101.out 7).trans rfl; have hcz17_8 : w14.cell? ⟨gb101, 8, none⟩ = some (.bool x102008_2) := (blk_cell BK101.out 8).trans rfl; have hfz17_0 := blk_frozen BK101.out 0; have hfz17_1 := blk_frozen BK101.out 1; have hfz17_2 := blk_frozen BK101.out 2; have hfz17_3 := blk_frozen BK101.out 3; have hfz17_4 := blk_frozen BK101.out 4; have hfz17_5 := blk_frozen BK101.out 5; have hfz17_6 := blk_frozen BK101.out 6; have hfz17_7 := blk_frozen BK101.out 7; have hfz17_8 := blk_frozen BK101.out 8))
                      refine bodyPost_ret (results_ct rfl _ _ gb101 63 #[.string t105, .int .i64 ((rd_T99 t102 x6_1).f1), .int .i64 ((rd_T99 t102 x6_1).f2), .bool ((rd_T99 t102 x6_1).f3), .int .i64 ((rd_T99 t102 x6_1).f4), .int .i64 ((rd_T99 t102 x6_1).f5), .int .i64 ((rd_T99 t102 x6_1).f6), .bool ((rd_T99 t102 x6_1).f7), .bool ((rd_T99 t102 x6_1).f8)] (0, 0) _ rfl (by (with_reducible repeat (first | refine blk_drewN ?_ _ | refine blk_drew ?_ | refine blk_alloc ?_ _)); refine blk_put (cs := #[.string t105, .int .i64 ((rd_T99 t102 x6_1).f1), .int .i64 ((rd_T99 t102 x6_1).f2), .bool ((rd_T99 t102 x6_1).f3), .int .i64 ((rd_T99 t102 x6_1).f4), .int .i64 ((rd_T99 t102 x6_1).f5), .int .i64 ((rd_T99 t102 x6_1).f6), .bool ((rd_T99 t102 x6_1).f7), .bool x102008_2]) ?_ 8 _ rfl; (with_reducible repeat (first | refine blk_drewN ?_ _ | refine blk_drew ?_ | refine blk_alloc ?_ _)); refine blk_put (cs := #[.string t105, .int .i64 ((rd_T99 t102 x6_1).f1), .int .i64 ((rd_T99 t102 x6_1).f2), .bool ((rd_T99 t102 x6_1).f3), .int .i64 ((rd_T99 t102 x6_1).f4), .int .i64 ((rd_T99 t102 x6_1).f5), .int .i64 ((rd_T99 t102 x6_1).f6), .bool x102007_2, .bool x102008_2]) ?_ 7 _ rfl; (with_reducible repeat (first | refine blk_drewN ?_ _ | refine blk_drew ?_ | refine blk_alloc ?_ _)); refine blk_put (cs := #[.string t105, .int .i64 ((rd_T99 t102 x6_1).f1), .int .i64 ((rd_T99 t102 x6_1).f2), .bool ((rd_T99 t102 x6_1).f3), .int .i64 ((rd_T99 t102 x6_1).f4), .int .i64 ((rd_T99 t102 x6_1).f5), .int .i64 x102006_2, .bool x102007_2, .bool x102008_2]) ?_ 6 _ rfl; (with_reducible repeat (first | refine blk_drewN ?_ _ | refine blk_drew ?_ | refine blk_alloc ?_ _)); refine blk_put (cs := #[.string t105, .int .i64 ((rd_T99 t102 x6_1).f1), .int .i64 ((rd_T99 t102 x6_1).f2), .bool ((rd_T99 t102 x6_1).f3), .int .i64 ((rd_T99 t102 x6_1).f4), .int .i64 x102005_2, .int .i64 x102006_2, .bool x102007_2, .bool x102008_2]) ?_ 5 _ rfl; (with_reducible repeat (first | refine blk_drewN ?_ _ | refine blk_drew ?_ | refine blk_alloc ?_ _)); refine blk_put (cs := #[.string t105, .int .i64 ((rd_T99 t102 x6_1).f1), .int .i64 ((rd_T99 t102 x6_1).f2), .bool ((rd_T99 t102 x6_1).f3), .int .i64 x102004_2, .int .i64 x102005_2, .int .i64 x102006_2, .bool x102007_2, .bool x102008_2]) ?_ 4 _ rfl; (with_reducible repeat (first | refine blk_drewN ?_ _ | refine blk_drew ?_ | refine blk_alloc ?_ _)); refine blk_put (cs := #[.string t105, .int .i64 ((rd_T99 t102 x6_1).f1), .int .i64 ((rd_T99 t102 x6_1).f2), .bool x102003_2, .int .i64 x102004_2, .int .i64 x102005_2, .int .i64 x102006_2, .bool x102007_2, .bool x102008_2]) ?_ 3 _ rfl; (with_reducible repeat (first | refine blk_drewN ?_ _ | refine blk_drew ?_ | refine blk_alloc ?_ _)); refine blk_put (cs := #[.string t105, .int .i64 ((rd_T99 t102 x6_1).f1), .int .i64 x102002_2, .bool x102003_2, .int .i64 x102004_2, .int .i64 x102005_2, .int .i64 x102006_2, .bool x102007_2, .bool x102008_2]) ?_ 2 _ rfl; (with_reducible repeat (first | refine blk_drewN ?_ _ | refine blk_drew ?_ | refine blk_alloc ?_ _)); refine blk_put (cs := #[.string t105, .int .i64 x102001_2, .int .i64 x102002_2, .bool x102003_2, .int .i64 x102004_2, .int .i64 x102005_2, .int .i64 x102006_2, .bool x102007_2, .bool x102008_2]) ?_ 1 _ rfl; (with_reducible repeat (first | refine blk_drewN ?_ _ | refine blk_drew ?_ | refine blk_alloc ?_ _)); refine blk_put (cs := #[.string x102000_2, .int .i64 x102001_2, .int .i64 x102002_2, .bool x102003_2, .int .i64 x102004_2, .int .i64 x102005_2, .int .i64 x102006_2, .bool x102007_2, .bool x102008_2]) ?_ 0 _ rfl; (with_reducible repeat (first | refine blk_drewN ?_ _ | refine blk_drew ?_ | refine blk_alloc ?_ _)); refine blk_far ?_ NB101_110.out _; (with_reducible repeat (first | refine blk_drewN ?_ _ | refine blk_drew ?_ | refine blk_alloc ?_ _)); refine blk_far ?_ NB101_110.out _; (with_reducible repeat (first | refine blk_drewN ?_ _ | refine blk_drew ?_ | refine blk_alloc ?_ _)); refine blk_far ?_ NB101_110.out _; (with_reducible repeat (first | refine blk_drewN ?_ _ | refine blk_drew ?_ | refine blk_alloc ?_ _)); refine blk_far ?_ NB101_110.out _; (with_reducible repeat (first | refine blk_drewN ?_ _ | refine blk_drew ?_ | refine blk_alloc ?_ _)); refine blk_far ?_ NB101_110.out _; (with_reducible repeat (first | refine blk_drewN ?_ _ | refine blk_drew ?_ | refine blk_alloc ?_ _)); refine blk_far ?_ NB101_110.out _; (with_reducible repeat (first | refine blk_drewN ?_ _ | refine blk_drew ?_ | refine blk_alloc ?_ _)); refine blk_far ?_ NB101_110.out _; (with_reducible repeat (first | refine blk_drewN ?_ _ | refine blk_drew ?_ | refine blk_alloc ?_ _)); refine blk_far ?_ NB101_110.out _; (with_reducible repeat (first | refine blk_drewN ?_ _ | refine blk_drew ?_ | refine blk_alloc ?_ _)); refine blk_far ?_ NB101_110.out _; (with_reducible repeat (first | refine blk_drewN ?_ _ | refine blk_drew ?_ | refine blk_alloc ?_ _)); exact BK101.out) Tryd.underlying63 rfl (by kernel_rfl)) rfl ?_
                      exact ⟨by first | rfl | (simp [errW_none, errW_some] <;> rfl) | (simp [*, errW_none, errW_some] <;> rfl), by repeat (first | (with_reducible first | exact HB.out | apply below_alloc | apply pw_below_drewN | apply below_drew1 | refine below_set ?_ GE101.out | refine below_set ?_ GE110.out) | exact HB.out)⟩
                    · rw [if_neg c13] at H
                      have c13b0 : ((rdOf ByteArray.empty ((rd_T99 t102 x6_1).f0) x7_2).toList == t105.toList) = false := beq_eq_false_iff_ne.mpr c13
                      have c13b1 : ((rdOf ByteArray.empty ((rd_T99 t102 x6_1).f0) x7_2).toList != t105.toList) = true := bne_iff_ne.mpr c13
                      have H' := Aside0.mk H
                      clear H
                      have p106 : 0 ≤ (x6_1 : Int) := of_decide_eq_true (by first | (with_reducible assumption) | assumption)
                      have q106 : x6_1 < (t102.length : Int) := of_decide_eq_true (by first | (with_reducible assumption) | assumption)
                      obtain ⟨ad106, A106_0, c106_0, e106, hx106_0, hx106_1, hx106_2, hx106_3, hx106_4, hx106_5, hx106_6, hx106_7, hx106_8, hl106_0, hi106_0⟩ := at_T99 (Kd.N_reads' HO_4.out).2.2 x6_1 p106 q106
                      cases e106
                      obtain ⟨ce106, hce106, hMe106, hcc106⟩ := Kd.N_get HO_4.out z99 x6_1 p106 (by first | exact q106 | exact of_decide_eq_true (by first | (with_reducible assumption) | assumption) | (have e_ := (Kd.N_reads' HO_4.out).1; omega))
                      obtain ⟨ua106_0, uc106_0, rfl, ul106_0, ge106_0⟩ := k99_openF hMe106
                      have hv106_0 := hcc106 0 _ rfl
                      rw [Nat.add_zero] at hv106_0
                      replace hv106_0 := Option.some.inj (hv106_0.symm.trans hx106_0)
                      injection hv106_0 with hva_ hvn_ hvc_
                      rw [hva_] at ge106_0
                      rw [hvc_] at ul106_0
                      have HL106_0 := Aside0.mk (show Kd.V Kd.string 9 _ w.heap.size _ _ ((rd_T99 t102 x6_1).f0) from Kd.V_mk ul106_0 ge106_0)
                      clear hva_ hvn_ hvc_ ge106_0 ul106_0
                      clear hcc106 hce106
                      have HR106_0 := Aside0.mk hi106_0
                      have HC106_0 := Aside0.mk hl106_0
                      clear hi106_0 hl106_0
                      replace p106 := eq_true p106
                      replace q106 := eq_true q106
                      have p107 : 0 ≤ (x6_1 : Int) := of_decide_eq_true (by first | (with_reducible assumption) | assumption)
                      have q107 : x6_1 < (t102.length : Int) := of_decide_eq_true (by first | (with_reducible assumption) | assumption)
                      obtain ⟨ad107, A107_0, c107_0, e107, hx107_0, hx107_1, hx107_2, hx107_3, hx107_4, hx107_5, hx107_6, hx107_7, hx107_8, hl107_0, hi107_0⟩ := at_T99 (Kd.N_reads' HO_4.out).2.2 x6_1 p107 q107
                      obtain rfl : ad106 = ad107 := (by injection e107)
                      obtain ⟨ce107, hce107, hMe107, hcc107⟩ := Kd.N_get HO_4.out z99 x6_1 p107 (by first | exact q107 | exact of_decide_eq_true (by first | (with_reducible assumption) | assumption) | (have e_ := (Kd.N_reads' HO_4.out).1; omega))
                      obtain ⟨ua107_0, uc107_0, rfl, ul107_0, ge107_0⟩ := k99_openF hMe107
                      have hv107_0 := hcc107 0 _ rfl
                      rw [Nat.add_zero] at hv107_0
                      replace hv107_0 := Option.some.inj (hv107_0.symm.trans hx107_0)
                      injection hv107_0 with hva_ hvn_ hvc_
                      rw [hva_] at ge107_0
                      rw [hvc_] at ul107_0
                      have HL107_0 := Aside0.mk (show Kd.V Kd.string 9 _ w.heap.size _ _ ((rd_T99 t102 x6_1).f0) from Kd.V_mk ul107_0 ge107_0)
                      clear hva_ hvn_ hvc_ ge107_0 ul107_0
                      clear hcc107 hce107
                      have HR107_0 := Aside0.mk hi107_0
                      have HC107_0 := Aside0.mk hl107_0
                      clear hi107_0 hl107_0
                      replace p107 := eq_true p107
                      replace q107 := eq_true q107
                      have ea_ := Option.some.inj (hx106_0.symm.trans hx107_0)
                      injection ea_ with ea_ en_ ec_
                      subst ea_
                      subst ec_
                      clear en_
                      have p108 : 0 ≤ (x7_2 : Int) := of_decide_eq_true (by first | (with_reducible assumption) | assumption)
                      have q108 : x7_2 < (((rd_T99 t102 x6_1).f0).length : Int) := of_decide_eq_true (by first | (with_reducible assumption) | assumption)
                      obtain ⟨ad108, e108, hx108_0⟩ := Kd.at_string (by repeat (first | (with_reducible exact HR107_0.out) | (with_reducible refine Kd.C_alloc ?_ _) | (with_reducible refine Kd.C_drewN ?_ _) | (with_reducible refine Kd.C_drew ?_) | exact HR107_0.out)) x7_2 p108 q108
                      cases e108
                      replace p108 := eq_true p108
                      replace q108 := eq_true q108
                      go_wp2
                      go_roundg k2
                      case measure => have := HK1.out; have := HK2.out; omega
                      case rel => exact ⟨(wrap64 (x7_2 + 1)), (x102000_2), (x102001_2), (x102002_2), (x102003_2), (x102004_2), (x102005_2), (x102006_2), (x102007_2), (x102008_2), (by first | rfl | (simp; done) | (simp [*]; done)), H', ⟨by have := HK1.out; have := HK2.out; omega⟩, ⟨by (with_reducible repeat (first | apply Kd.N_alloc | apply Kd.N_drewN | apply Kd.N_drew)); exact HO_4.out⟩, ⟨by (with_reducible repeat (first | refine blk_drewN ?_ _ | refine blk_drew ?_ | refine blk_alloc ?_ _)); exact BK101.out⟩, ⟨by repeat (first | (with_reducible first | exact HB.out | apply below_alloc | apply pw_below_drewN | apply below_drew1 | refine below_set ?_ GE101.out) | exact HB.out)⟩⟩
                  · rw [if_neg c12] at H
                    exact absurd H (by simp)
                · rw [if_neg c11] at H
                  have c11b0 : decide (x7_2 < (((rd_T99 t102 x6_1).f0).length : Int)) = false := decide_eq_false c11
                  clear c11
                  have H' := Aside0.mk H
                  clear H
                  have p106 : 0 ≤ (x6_1 : Int) := of_decide_eq_true (by first | (with_reducible assumption) | assumption)
                  have q106 : x6_1 < (t102.length : Int) := of_decide_eq_true (by first | (with_reducible assumption) | assumption)
                  obtain ⟨ad106, A106_0, c106_0, e106, hx106_0, hx106_1, hx106_2, hx106_3, hx106_4, hx106_5, hx106_6, hx106_7, hx106_8, hl106_0, hi106_0⟩ := at_T99 (Kd.N_reads' HO_4.out).2.2 x6_1 p106 q106
                  cases e106
                  obtain ⟨ce106, hce106, hMe106, hcc106⟩ := Kd.N_get HO_4.out z99 x6_1 p106 (by first | exact q106 | exact of_decide_eq_true (by first | (with_reducible assumption) | assumption) | (have e_ := (Kd.N_reads' HO_4.out).1; omega))
                  obtain ⟨ua106_0, uc106_0, rfl, ul106_0, ge106_0⟩ := k99_openF hMe106
                  have hv106_0 := hcc106 0 _ rfl
                  rw [Nat.add_zero] at hv106_0
                  replace hv106_0 := Option.some.inj (hv106_0.symm.trans hx106_0)
                  injection hv106_0 with hva_ hvn_ hvc_
                  rw [hva_] at ge106_0
                  rw [hvc_] at ul106_0
                  have HL106_0 := Aside0.mk (show Kd.V Kd.string 9 _ w.heap.size _ _ ((rd_T99 t102 x6_1).f0) from Kd.V_mk ul106_0 ge106_0)
                  clear hva_ hvn_ hvc_ ge106_0 ul106_0
                  clear hcc106 hce106
                  have HR106_0 := Aside0.mk hi106_0
                  have HC106_0 := Aside0.mk hl106_0
                  clear hi106_0 hl106_0
                  replace p106 := eq_true p106
                  replace q106 := eq_true q106
                  go_wp2
                  go_roundg k2
                  case measure => have := HK1.out; have := HK2.out; omega
                  case rel => exact ⟨(wrap64 (x6_1 + 1)), (x102000_2), (x102001_2), (x102002_2), (x102003_2), (x102004_2), (x102005_2), (x102006_2), (x102007_2), (x102008_2), (by first | rfl | (simp; done) | (simp [*]; done)), H', ⟨by have := HK1.out; have := HK2.out; omega⟩, ⟨by (with_reducible repeat (first | apply Kd.N_alloc | apply Kd.N_drewN | apply Kd.N_drew)); exact HO_4.out⟩, ⟨by (with_reducible repeat (first | refine blk_drewN ?_ _ | refine blk_drew ?_ | refine blk_alloc ?_ _)); exact BK101.out⟩, ⟨by repeat (first | (with_reducible first | exact HB.out | apply below_alloc | apply pw_below_drewN | apply below_drew1 | refine below_set ?_ GE101.out) | exact HB.out)⟩⟩
              · rw [if_neg c10] at H
                exact absurd H (by simp)
            · rw [if_neg c9] at H
              exact absurd H (by simp)
      · rw [if_neg c7] at H
        have c7b0 : decide (x6_1 < (t102.length : Int)) = false := decide_eq_false c7
        clear c7
        simp only [Option.some.injEq, Prod.mk.injEq] at H
        obtain ⟨rfl, rfl, rfl, rfl, rfl, rfl, rfl, rfl, rfl, rfl⟩ := H
        obtain ⟨Ao18, co18, eo18⟩ := Kd.N_slice HO_4.out
        subst eo18
        have hcz19_0 : wr.cell? ⟨gb101, 0, none⟩ = some (.string x102000_1) := (blk_cell BK101.out 0).trans rfl
        have hcz19_1 : wr.cell? ⟨gb101, 1, none⟩ = some (.int .i64 x102001_1) := (blk_cell BK101.out 1).trans rfl
        have hcz19_2 : wr.cell? ⟨gb101, 2, none⟩ = some (.int .i64 x102002_1) := (blk_cell BK101.out 2).trans rfl
        have hcz19_3 : wr.cell? ⟨gb101, 3, none⟩ = some (.bool x102003_1) := (blk_cell BK101.out 3).trans rfl
        have hcz19_4 : wr.cell? ⟨gb101, 4, none⟩ = some (.int .i64 x102004_1) := (blk_cell BK101.out 4).trans rfl
        have hcz19_5 : wr.cell? ⟨gb101, 5, none⟩ = some (.int .i64 x102005_1) := (blk_cell BK101.out 5).trans rfl
        have hcz19_6 : wr.cell? ⟨gb101, 6, none⟩ = some (.int .i64 x102006_1) := (blk_cell BK101.out 6).trans rfl
        have hcz19_7 : wr.cell? ⟨gb101, 7, none⟩ = some (.bool x102007_1) := (blk_cell BK101.out 7).trans rfl
        have hcz19_8 : wr.cell? ⟨gb101, 8, none⟩ = some (.bool x102008_1) := (blk_cell BK101.out 8).trans rfl
        have hfz19_0 := blk_frozen BK101.out 0
        have hfz19_1 := blk_frozen BK101.out 1
        have hfz19_2 := blk_frozen BK101.out 2
        have hfz19_3 := blk_frozen BK101.out 3
        have hfz19_4 := blk_frozen BK101.out 4
        have hfz19_5 := blk_frozen BK101.out 5
        have hfz19_6 := blk_frozen BK101.out 6
        have hfz19_7 := blk_frozen BK101.out 7
        have hfz19_8 := blk_frozen BK101.out 8
        go_wp2
        refine bodyPost_ret (results_ct rfl _ _ gb101 63 #[.string (⟨#[]⟩ : ByteArray), .int .i64 0, .int .i64 0, .bool false, .int .i64 0, .int .i64 0, .int .i64 0, .bool false, .bool false] (0, 0) _ rfl (by (with_reducible repeat (first | refine blk_drewN ?_ _ | refine blk_drew ?_ | refine blk_alloc ?_ _)); refine blk_put (cs := #[.string (⟨#[]⟩ : ByteArray), .int .i64 0, .int .i64 0, .bool false, .int .i64 0, .int .i64 0, .int .i64 0, .bool false, .bool x102008_1]) ?_ 8 _ rfl; (with_reducible repeat (first | refine blk_drewN ?_ _ | refine blk_drew ?_ | refine blk_alloc ?_ _)); refine blk_put (cs := #[.string (⟨#[]⟩ : ByteArray), .int .i64 0, .int .i64 0, .bool false, .int .i64 0, .int .i64 0, .int .i64 0, .bool x102007_1, .bool x102008_1]) ?_ 7 _ rfl; (with_reducible repeat (first | refine blk_drewN ?_ _ | refine blk_drew ?_ | refine blk_alloc ?_ _)); refine blk_put (cs := #[.string (⟨#[]⟩ : ByteArray), .int .i64 0, .int .i64 0, .bool false, .int .i64 0, .int .i64 0, .int .i64 x102006_1, .bool x102007_1, .bool x102008_1]) ?_ 6 _ rfl; (with_reducible repeat (first | refine blk_drewN ?_ _ | refine blk_drew ?_ | refine blk_alloc ?_ _)); refine blk_put (cs := #[.string (⟨#[]⟩ : ByteArray), .int .i64 0, .int .i64 0, .bool false, .int .i64 0, .int .i64 x102005_1, .int .i64 x102006_1, .bool x102007_1, .bool x102008_1]) ?_ 5 _ rfl; (with_reducible repeat (first | refine blk_drewN ?_ _ | refine blk_drew ?_ | refine blk_alloc ?_ _)); refine blk_put (cs := #[.string (⟨#[]⟩ : ByteArray), .int .i64 0, .int .i64 0, .bool false, .int .i64 x102004_1, .int .i64 x102005_1, .int .i64 x102006_1, .bool x102007_1, .bool x102008_1]) ?_ 4 _ rfl; (with_reducible repeat (first | refine blk_drewN ?_ _ | refine blk_drew ?_ | refine blk_alloc ?_ _)); refine blk_put (cs := #[.string (⟨#[]⟩ : ByteArray), .int .i64 0, .int .i64 0, .bool x102003_1, .int .i64 x102004_1, .int .i64 x102005_1, .int .i64 x102006_1, .bool x102007_1, .bool x102008_1]) ?_ 3 _ rfl; (with_reducible repeat (first | refine blk_drewN ?_ _ | refine blk_drew ?_ | refine blk_alloc ?_ _)); refine blk_put (cs := #[.string (⟨#[]⟩ : ByteArray), .int .i64 0, .int .i64 x102002_1, .bool x102003_1, .int .i64 x102004_1, .int .i64 x102005_1, .int .i64 x102006_1, .bool x102007_1, .bool x102008_1]) ?_ 2 _ rfl; (with_reducible repeat (first | refine blk_drewN ?_ _ | refine blk_drew ?_ | refine blk_alloc ?_ _)); refine blk_put (cs := #[.string (⟨#[]⟩ : ByteArray), .int .i64 x102001_1, .int .i64 x102002_1, .bool x102003_1, .int .i64 x102004_1, .int .i64 x102005_1, .int .i64 x102006_1, .bool x102007_1, .bool x102008_1]) ?_ 1 _ rfl; (with_reducible repeat (first | refine blk_drewN ?_ _ | refine blk_drew ?_ | refine blk_alloc ?_ _)); refine blk_put (cs := #[.string x102000_1, .int .i64 x102001_1, .int .i64 x102002_1, .bool x102003_1, .int .i64 x102004_1, .int .i64 x102005_1, .int .i64 x102006_1, .bool x102007_1, .bool x102008_1]) ?_ 0 _ rfl; (with_reducible repeat (first | refine blk_drewN ?_ _ | refine blk_drew ?_ | refine blk_alloc ?_ _)); exact BK101.out) Tryd.underlying63 rfl (by kernel_rfl)) rfl ?_
        exact ⟨by first | rfl | (simp [errW_none, errW_some] <;> rfl) | (simp [*, errW_none, errW_some] <;> rfl), by repeat (first | (with_reducible first | exact HB.out | apply below_alloc | apply pw_below_drewN | apply below_drew1 | refine below_set ?_ GE101.out) | exact HB.out)⟩

end Go.Proofs.YtbfbmgkgaokecaaDoor.PR
