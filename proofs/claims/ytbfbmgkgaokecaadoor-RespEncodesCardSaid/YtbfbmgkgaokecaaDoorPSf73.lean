/- Written by program out of the translation (a patched copy of the kit's print, called by a script of this session). Not trusted: Lean checks it. -/
import Derived.Test.YtbfbmgkgaokecaaDoorPS0
import Derived.Test.YtbfbmgkgaokecaaDoorPSf34
import Derived.Test.YtbfbmgkgaokecaaDoorSq11
namespace Go.Proofs.YtbfbmgkgaokecaaDoor.PS
open Go.RowKit Go.Proofs.YtbfbmgkgaokecaaDoorW.PrintWords Go.Proofs.YtbfbmgkgaokecaaDoorW.PrintLast Go.Proofs.YtbfbmgkgaokecaaDoorW.PrintMore
attribute [local go_sem] max2_int min2_int max_two min_two max_three min_three max_four min_four   -- for this text's walks alone
set_option linter.unusedVariables false
set_option linter.unusedSimpArgs false

/-! ### intaglioref19_count: function 73 -/
mutual
def intaglioref19_count.j0 : Nat → ByteArray → ByteArray → Int → Int → Bool → Option (Int × ByteArray × Int)
  | 0, _, _, _, _, _ => none
  | k + 1, x0, x1, x2, x9, x26 => if x26 = true then (some (0, (⟨#[]⟩ : ByteArray), 3)) else (if x9 < 0 then (some (0, (⟨#[]⟩ : ByteArray), 4)) else (if 0 ≤ (wrap64 (x9 + 1)) then (if (wrap64 (x9 + 1)) ≤ (x0.size : Int) then (if ((x0.extract 0 ((wrap64 (x9 + 1)) : Int).toNat).size : Int) < 4 then (intaglioref19_count.j1 k x0 x2 x9 (x0.extract 0 ((wrap64 (x9 + 1)) : Int).toNat) ((x0.extract 0 ((wrap64 (x9 + 1)) : Int).toNat).size : Int) true) else (if ((x0.extract 0 ((wrap64 (x9 + 1)) : Int).toNat).size : Int) > 12 then (intaglioref19_count.j1 k x0 x2 x9 (x0.extract 0 ((wrap64 (x9 + 1)) : Int).toNat) ((x0.extract 0 ((wrap64 (x9 + 1)) : Int).toNat).size : Int) true) else (if 0 ≤ 1 then (if 1 ≤ ((x0.extract 0 ((wrap64 (x9 + 1)) : Int).toNat).size : Int) then (if ((x0.extract 0 ((wrap64 (x9 + 1)) : Int).toNat).extract 0 1).toList = x1.toList then (if 0 ≤ (wrap64 (((x0.extract 0 ((wrap64 (x9 + 1)) : Int).toNat).size : Int) - 2)) then (if (wrap64 (((x0.extract 0 ((wrap64 (x9 + 1)) : Int).toNat).size : Int) - 2)) ≤ ((x0.extract 0 ((wrap64 (x9 + 1)) : Int).toNat).size : Int) then (intaglioref19_count.j1 k x0 x2 x9 (x0.extract 0 ((wrap64 (x9 + 1)) : Int).toNat) ((x0.extract 0 ((wrap64 (x9 + 1)) : Int).toNat).size : Int) (((x0.extract 0 ((wrap64 (x9 + 1)) : Int).toNat).extract ((wrap64 (((x0.extract 0 ((wrap64 (x9 + 1)) : Int).toNat).size : Int) - 2)) : Int).toNat (x0.extract 0 ((wrap64 (x9 + 1)) : Int).toNat).size).toList != ([13, 10] : List UInt8))) else (none)) else (none)) else (intaglioref19_count.j1 k x0 x2 x9 (x0.extract 0 ((wrap64 (x9 + 1)) : Int).toNat) ((x0.extract 0 ((wrap64 (x9 + 1)) : Int).toNat).size : Int) true)) else (none)) else (none)))) else (none)) else (none)))
def intaglioref19_count.j1 : Nat → ByteArray → Int → Int → ByteArray → Int → Bool → Option (Int × ByteArray × Int)
  | 0, _, _, _, _, _, _ => none
  | k + 1, x0, x2, x9, x10, x11, x53 => if x53 = true then (some (0, (⟨#[]⟩ : ByteArray), 3)) else (if 1 ≤ (wrap64 (x11 - 2)) then (if (wrap64 (x11 - 2)) ≤ (x10.size : Int) then ((intaglioref17_Int.f k (x10.extract 1 ((wrap64 (x11 - 2)) : Int).toNat)).bind fun bt102 => (if bt102.2 = true then (intaglioref19_count.j2 k x0 x2 x9 bt102.1 (decide (bt102.1 < 0))) else (intaglioref19_count.j2 k x0 x2 x9 bt102.1 true))) else (none)) else (none))
def intaglioref19_count.j2 : Nat → ByteArray → Int → Int → Int → Bool → Option (Int × ByteArray × Int)
  | 0, _, _, _, _, _ => none
  | k + 1, x0, x2, x9, x12, x67 => if x67 = true then (some (0, (⟨#[]⟩ : ByteArray), 3)) else (if x12 > x2 then (some (0, (⟨#[]⟩ : ByteArray), 5)) else (if 0 ≤ (wrap64 (x9 + 1)) then (if (wrap64 (x9 + 1)) ≤ (x0.size : Int) then (some (x12, x0.extract ((wrap64 (x9 + 1)) : Int).toNat x0.size, 0)) else (none)) else (none)))
end
def intaglioref19_count.f (k : Nat) (a0 : ByteArray) (a1 : ByteArray) (a2 : Int) : Option (Int × ByteArray × Int) := if 0 ≤ (mn (a0.size : Int) 16) then (if (mn (a0.size : Int) 16) ≤ (a0.size : Int) then ((intaglioref19_find.f k (a0.extract 0 ((mn (a0.size : Int) 16) : Int).toNat)).bind fun t101 => (if t101 < 0 then (intaglioref19_count.j0 k a0 a1 a2 t101 (decide ((a0.size : Int) ≥ 16))) else (intaglioref19_count.j0 k a0 a1 a2 t101 false))) else (none)) else (none)
theorem intaglioref19_count.mono_l : ∀ k, (∀ y0 y1 y2 y3 y4, LeO (intaglioref19_count.j0 k y0 y1 y2 y3 y4) (intaglioref19_count.j0 (k + 1) y0 y1 y2 y3 y4)) ∧ (∀ y0 y1 y2 y3 y4 y5, LeO (intaglioref19_count.j1 k y0 y1 y2 y3 y4 y5) (intaglioref19_count.j1 (k + 1) y0 y1 y2 y3 y4 y5)) ∧ (∀ y0 y1 y2 y3 y4, LeO (intaglioref19_count.j2 k y0 y1 y2 y3 y4) (intaglioref19_count.j2 (k + 1) y0 y1 y2 y3 y4))
  | 0 => ⟨fun _ _ _ _ _ r h => by simp [intaglioref19_count.j0] at h, fun _ _ _ _ _ _ r h => by simp [intaglioref19_count.j1] at h, fun _ _ _ _ _ r h => by simp [intaglioref19_count.j2] at h⟩
  | k + 1 => by
    obtain ⟨ih0, ih1, ih2⟩ := intaglioref19_count.mono_l k
    refine ⟨?_, ?_, ?_⟩
    · intro y0 y1 y2 y3 y4
      unfold intaglioref19_count.j0
      repeat' first
      | (with_reducible exact ih0 _ _ _ _ _)
      | (with_reducible exact ih1 _ _ _ _ _ _)
      | (with_reducible exact ih2 _ _ _ _ _)
      | (with_reducible exact intaglioref17_Int.mono _ _)
      | (with_reducible exact intaglioref19_find.mono _ _)
      | (with_reducible exact LeO.refl _)
      | (with_reducible exact LeO.none _)
      | (with_reducible refine LeO.ite ?_ ?_)
      | (with_reducible refine LeO.bind ?_ (fun _ => ?_))
      | exact ih0 _ _ _ _ _
      | exact ih1 _ _ _ _ _ _
      | exact ih2 _ _ _ _ _
      | exact intaglioref17_Int.mono _ _
      | exact intaglioref19_find.mono _ _
      | exact LeO.none _
      | refine LeO.ite ?_ ?_
      | refine LeO.bind ?_ (fun _ => ?_)
    · intro y0 y1 y2 y3 y4 y5
      unfold intaglioref19_count.j1
      repeat' first
      | (with_reducible exact ih0 _ _ _ _ _)
      | (with_reducible exact ih1 _ _ _ _ _ _)
      | (with_reducible exact ih2 _ _ _ _ _)
      | (with_reducible exact intaglioref17_Int.mono _ _)
      | (with_reducible exact intaglioref19_find.mono _ _)
      | (with_reducible exact LeO.refl _)
      | (with_reducible exact LeO.none _)
      | (with_reducible refine LeO.ite ?_ ?_)
      | (with_reducible refine LeO.bind ?_ (fun _ => ?_))
      | exact ih0 _ _ _ _ _
      | exact ih1 _ _ _ _ _ _
      | exact ih2 _ _ _ _ _
      | exact intaglioref17_Int.mono _ _
      | exact intaglioref19_find.mono _ _
      | exact LeO.none _
      | refine LeO.ite ?_ ?_
      | refine LeO.bind ?_ (fun _ => ?_)
    · intro y0 y1 y2 y3 y4
      unfold intaglioref19_count.j2
      repeat' first
      | (with_reducible exact ih0 _ _ _ _ _)
      | (with_reducible exact ih1 _ _ _ _ _ _)
      | (with_reducible exact ih2 _ _ _ _ _)
      | (with_reducible exact intaglioref17_Int.mono _ _)
      | (with_reducible exact intaglioref19_find.mono _ _)
      | (with_reducible exact LeO.refl _)
      | (with_reducible exact LeO.none _)
      | (with_reducible refine LeO.ite ?_ ?_)
      | (with_reducible refine LeO.bind ?_ (fun _ => ?_))
      | exact ih0 _ _ _ _ _
      | exact ih1 _ _ _ _ _ _
      | exact ih2 _ _ _ _ _
      | exact intaglioref17_Int.mono _ _
      | exact intaglioref19_find.mono _ _
      | exact LeO.none _
      | refine LeO.ite ?_ ?_
      | refine LeO.bind ?_ (fun _ => ?_)
theorem intaglioref19_count.mono : ∀ a0 a1 a2 k, LeO (intaglioref19_count.f k a0 a1 a2) (intaglioref19_count.f (k + 1) a0 a1 a2) := by
  intro a0 a1 a2 k
  obtain ⟨ih0, ih1, ih2⟩ := intaglioref19_count.mono_l k
  unfold intaglioref19_count.f
  repeat' first
      | (with_reducible exact ih0 _ _ _ _ _)
      | (with_reducible exact ih1 _ _ _ _ _ _)
      | (with_reducible exact ih2 _ _ _ _ _)
      | (with_reducible exact intaglioref17_Int.mono _ _)
      | (with_reducible exact intaglioref19_find.mono _ _)
      | (with_reducible exact LeO.refl _)
      | (with_reducible exact LeO.none _)
      | (with_reducible refine LeO.ite ?_ ?_)
      | (with_reducible refine LeO.bind ?_ (fun _ => ?_))
      | exact ih0 _ _ _ _ _
      | exact ih1 _ _ _ _ _ _
      | exact ih2 _ _ _ _ _
      | exact intaglioref17_Int.mono _ _
      | exact intaglioref19_find.mono _ _
      | exact LeO.none _
      | refine LeO.ite ?_ ?_
      | refine LeO.bind ?_ (fun _ => ?_)
set_option maxHeartbeats 8000000 in
set_option maxRecDepth 100000 in
theorem intaglioref19_count.calls (k : Nat) (a0 : ByteArray) (a1 : ByteArray) (a2 : Int) (r1 : Int) (r2 : ByteArray) (r3 : Int) (w : World) (h : intaglioref19_count.f k a0 a1 a2 = some (r1, r2, r3)) :
    Calls Tryd.prog 73 #[.string a0, .string a1, .int .i64 a2] w fun e w' => e = .returned (.tuple #[.int .i64 r1, .string r2, .int .i64 r3]) ∧ Below w.heap.size w w' := by
  have HB := Aside0.mk (Below.refl w.heap.size w)
  have H : (if 0 ≤ (mn (a0.size : Int) 16) then (if (mn (a0.size : Int) 16) ≤ (a0.size : Int) then ((intaglioref19_find.f k (a0.extract 0 ((mn (a0.size : Int) 16) : Int).toNat)).bind fun t101 => (if t101 < 0 then (intaglioref19_count.j0 k a0 a1 a2 t101 (decide ((a0.size : Int) ≥ 16))) else (intaglioref19_count.j0 k a0 a1 a2 t101 false))) else (none)) else (none)) = some (r1, r2, r3) := h
  clear h
  obtain ⟨ji4, hji4⟩ : ∃ j_ : Int, (mn (a0.size : Int) 16) = j_ := ⟨_, rfl⟩
  replace H : (if 0 ≤ (ji4) then (if (ji4) ≤ (a0.size : Int) then ((intaglioref19_find.f k (a0.extract 0 ((ji4) : Int).toNat)).bind fun t101 => (if t101 < 0 then (intaglioref19_count.j0 k a0 a1 a2 t101 (decide ((a0.size : Int) ≥ 16))) else (intaglioref19_count.j0 k a0 a1 a2 t101 false))) else (none)) else (none)) = some (r1, r2, r3) := by first | (rw [hji4] at H; exact H) | (simp only [hji4] at H ⊢; exact H)
  (try (have hji4h : ji4 ≤ 16 := by (rw [← hji4]; unfold mn; (repeat' split) <;> omega)))
  (try (have hji4g : ji4 ≤ 64 := by omega))
  (try (have hji4l : 0 ≤ ji4 := by (rw [← hji4]; unfold mn; (repeat' split) <;> omega)))
  (try (have hji4m : 0 ≤ ji4 := by omega))
  have hji4_ : (if 16 < (a0.size : Int) then 16 else (a0.size : Int)) = ji4 := hji4
  by_cases c5 : 0 ≤ (ji4)
  · rw [if_pos c5] at H
    have c5b0 := eq_true c5
    have c5b1 : decide (0 ≤ (ji4)) = true := decide_eq_true c5
    clear c5
    by_cases c6 : (ji4) ≤ (a0.size : Int)
    · rw [if_pos c6] at H
      have c6b0 := eq_true c6
      have c6b1 : decide ((ji4) ≤ (a0.size : Int)) = true := decide_eq_true c6
      clear c6
      replace H := Option.bind_eq_some_iff.mp H
      obtain ⟨t101, A70, H⟩ := H
      replace H : (if t101 < 0 then (intaglioref19_count.j0 k a0 a1 a2 t101 (decide ((a0.size : Int) ≥ 16))) else (intaglioref19_count.j0 k a0 a1 a2 t101 false)) = some (r1, r2, r3) := H
      have A7 := Aside0.mk A70
      clear A70
      have HC8 := Aside0.mk H
      clear H
      go_enter Tryd.func73, Tryd.ntmps73
      go_upto_region 2 with (first | (go_at_call 90; (with_reducible refine (intaglioref19_find.calls k (a0.extract 0 ((ji4) : Int).toNat) t101 _ A7.out).mono ?_); rintro e w' ⟨rfl, ⟨nd, rfl⟩⟩; (try first | exact ⟨rfl, _, World.drewN_drewN _ _ _⟩ | exact ⟨rfl, _, Eq.trans (World.drewN_drewN _ _ _) (congrArg (World.drewN _) (Nat.add_assoc _ _ _))⟩)))
      repeat (go_quiet (first | (go_at_call 90; (with_reducible refine (intaglioref19_find.calls k (a0.extract 0 ((ji4) : Int).toNat) t101 _ A7.out).mono ?_); rintro e w' ⟨rfl, ⟨nd, rfl⟩⟩; (try first | exact ⟨rfl, _, World.drewN_drewN _ _ _⟩ | exact ⟨rfl, _, Eq.trans (World.drewN_drewN _ _ _) (congrArg (World.drewN _) (Nat.add_assoc _ _ _))⟩))); go_upto_region 2 with (first | (go_at_call 90; (with_reducible refine (intaglioref19_find.calls k (a0.extract 0 ((ji4) : Int).toNat) t101 _ A7.out).mono ?_); rintro e w' ⟨rfl, ⟨nd, rfl⟩⟩; (try first | exact ⟨rfl, _, World.drewN_drewN _ _ _⟩ | exact ⟨rfl, _, Eq.trans (World.drewN_drewN _ _ _) (congrArg (World.drewN _) (Nat.add_assoc _ _ _))⟩))))
      (try simp only [Act.put, List.setIfInBounds_toArray, List.set_cons_zero, List.set_cons_succ])
      go_cut [26] (fun v26 wc => ∃ (kq : Nat) (x26_7 : Bool), v26 = .bool x26_7 ∧ Aside0 (intaglioref19_count.j0 kq a0 a1 a2 t101 x26_7 = some (r1, r2, r3)) ∧ Aside0 (kq ≤ k) ∧ Aside0 (Below w.heap.size w wc))
      case first =>
        have H := HC8.out
        clear HC8
        by_cases c9 : t101 < 0
        · rw [if_pos c9] at H
          have c9b0 : decide (t101 < 0) = true := decide_eq_true c9
          clear c9
          (first | rw [c9b0] | (simp only [i64_w, i32_w]; rw [c9b0]) | skip)
          have H' := Aside0.mk H
          clear H
          go_wp2
          repeat (go_quiet (fail); try go_wp2)
          go_meet
          case rel => exact ⟨_, (decide ((a0.size : Int) ≥ 16)), (by first | rfl | (simp; done) | (simp [*]; done)), H', ⟨by first | omega | exact Nat.le_refl _⟩, ⟨by repeat (first | (with_reducible first | exact HB.out | apply below_alloc | apply pw_below_drewN | apply below_drew1) | exact HB.out)⟩⟩
        · rw [if_neg c9] at H
          have c9b0 : decide (t101 < 0) = false := decide_eq_false c9
          clear c9
          (first | rw [c9b0] | (simp only [i64_w, i32_w]; rw [c9b0]) | skip)
          have H' := Aside0.mk H
          clear H
          go_wp2
          repeat (go_quiet (fail); try go_wp2)
          go_meet
          case rel => exact ⟨_, (false), (by first | rfl | (simp; done) | (simp [*]; done)), H', ⟨by first | omega | exact Nat.le_refl _⟩, ⟨by repeat (first | (with_reducible first | exact HB.out | apply below_alloc | apply pw_below_drewN | apply below_drew1) | exact HB.out)⟩⟩
      case rest =>
        clear HC8
        try clear p2
        try clear c5
        try clear c5b0
        try clear c5b1
        try clear c6
        try clear c6b0
        try clear c6b1
        try clear c7
        try clear c9
        try clear c9b0
        obtain ⟨kq, x26_7, rfl, HA, HJ7, HB⟩ := hcut
        cases kq with
        | zero => exact absurd HA.out (by simp [intaglioref19_count.j0])
        | succ kj7 =>
          have H := HA.out
          clear HA
          simp only [intaglioref19_count.j0] at H
          by_cases c10 : x26_7 = true
          · subst c10
            have H1 : (some (0, (⟨#[]⟩ : ByteArray), 3)) = some (r1, r2, r3) := by rw [if_pos rfl] at H; exact H
            clear H
            have H := H1
            clear H1
            simp only [Option.some.injEq, Prod.mk.injEq] at H
            obtain ⟨rfl, rfl, rfl⟩ := H
            go_wp2
            repeat (go_quiet (fail); try go_wp2)
            go_ret3
            exact ⟨by first | rfl | (simp [errW_none, errW_some] <;> rfl) | (simp only [← hji4]; first | rfl | (simp [errW_none, errW_some] <;> rfl)) | (simp [*, errW_none, errW_some] <;> rfl), by repeat (first | (with_reducible first | exact HB.out | apply below_alloc | apply pw_below_drewN | apply below_drew1) | exact HB.out)⟩
          · replace c10 := Bool.eq_false_iff.mpr c10
            subst c10
            have H1 : (if t101 < 0 then (some (0, (⟨#[]⟩ : ByteArray), 4)) else (if 0 ≤ (wrap64 (t101 + 1)) then (if (wrap64 (t101 + 1)) ≤ (a0.size : Int) then (if ((a0.extract 0 ((wrap64 (t101 + 1)) : Int).toNat).size : Int) < 4 then (intaglioref19_count.j1 kj7 a0 a2 t101 (a0.extract 0 ((wrap64 (t101 + 1)) : Int).toNat) ((a0.extract 0 ((wrap64 (t101 + 1)) : Int).toNat).size : Int) true) else (if ((a0.extract 0 ((wrap64 (t101 + 1)) : Int).toNat).size : Int) > 12 then (intaglioref19_count.j1 kj7 a0 a2 t101 (a0.extract 0 ((wrap64 (t101 + 1)) : Int).toNat) ((a0.extract 0 ((wrap64 (t101 + 1)) : Int).toNat).size : Int) true) else (if 0 ≤ 1 then (if 1 ≤ ((a0.extract 0 ((wrap64 (t101 + 1)) : Int).toNat).size : Int) then (if ((a0.extract 0 ((wrap64 (t101 + 1)) : Int).toNat).extract 0 1).toList = a1.toList then (if 0 ≤ (wrap64 (((a0.extract 0 ((wrap64 (t101 + 1)) : Int).toNat).size : Int) - 2)) then (if (wrap64 (((a0.extract 0 ((wrap64 (t101 + 1)) : Int).toNat).size : Int) - 2)) ≤ ((a0.extract 0 ((wrap64 (t101 + 1)) : Int).toNat).size : Int) then (intaglioref19_count.j1 kj7 a0 a2 t101 (a0.extract 0 ((wrap64 (t101 + 1)) : Int).toNat) ((a0.extract 0 ((wrap64 (t101 + 1)) : Int).toNat).size : Int) (((a0.extract 0 ((wrap64 (t101 + 1)) : Int).toNat).extract ((wrap64 (((a0.extract 0 ((wrap64 (t101 + 1)) : Int).toNat).size : Int) - 2)) : Int).toNat (a0.extract 0 ((wrap64 (t101 + 1)) : Int).toNat).size).toList != ([13, 10] : List UInt8))) else (none)) else (none)) else (intaglioref19_count.j1 kj7 a0 a2 t101 (a0.extract 0 ((wrap64 (t101 + 1)) : Int).toNat) ((a0.extract 0 ((wrap64 (t101 + 1)) : Int).toNat).size : Int) true)) else (none)) else (none)))) else (none)) else (none))) = some (r1, r2, r3) := by rw [if_neg (show ¬ (false = true) by decide)] at H; exact H
            clear H
            have H := H1
            clear H1
            by_cases c11 : t101 < 0
            · rw [if_pos c11] at H
              have c11b0 : decide (t101 < 0) = true := decide_eq_true c11
              clear c11
              simp only [Option.some.injEq, Prod.mk.injEq] at H
              obtain ⟨rfl, rfl, rfl⟩ := H
              go_wp2
              repeat (go_quiet (fail); try go_wp2)
              go_ret3
              exact ⟨by first | rfl | (simp [errW_none, errW_some] <;> rfl) | (simp only [← hji4]; first | rfl | (simp [errW_none, errW_some] <;> rfl)) | (simp [*, errW_none, errW_some] <;> rfl), by repeat (first | (with_reducible first | exact HB.out | apply below_alloc | apply pw_below_drewN | apply below_drew1) | exact HB.out)⟩
            · rw [if_neg c11] at H
              have c11b0 : decide (t101 < 0) = false := decide_eq_false c11
              clear c11
              obtain ⟨ji12, hji12⟩ : ∃ j_ : Int, (wrap64 (t101 + 1)) = j_ := ⟨_, rfl⟩
              replace H : (if 0 ≤ (ji12) then (if (ji12) ≤ (a0.size : Int) then (if ((a0.extract 0 ((ji12) : Int).toNat).size : Int) < 4 then (intaglioref19_count.j1 kj7 a0 a2 t101 (a0.extract 0 ((ji12) : Int).toNat) ((a0.extract 0 ((ji12) : Int).toNat).size : Int) true) else (if ((a0.extract 0 ((ji12) : Int).toNat).size : Int) > 12 then (intaglioref19_count.j1 kj7 a0 a2 t101 (a0.extract 0 ((ji12) : Int).toNat) ((a0.extract 0 ((ji12) : Int).toNat).size : Int) true) else (if 0 ≤ 1 then (if 1 ≤ ((a0.extract 0 ((ji12) : Int).toNat).size : Int) then (if ((a0.extract 0 ((ji12) : Int).toNat).extract 0 1).toList = a1.toList then (if 0 ≤ (wrap64 (((a0.extract 0 ((ji12) : Int).toNat).size : Int) - 2)) then (if (wrap64 (((a0.extract 0 ((ji12) : Int).toNat).size : Int) - 2)) ≤ ((a0.extract 0 ((ji12) : Int).toNat).size : Int) then (intaglioref19_count.j1 kj7 a0 a2 t101 (a0.extract 0 ((ji12) : Int).toNat) ((a0.extract 0 ((ji12) : Int).toNat).size : Int) (((a0.extract 0 ((ji12) : Int).toNat).extract ((wrap64 (((a0.extract 0 ((ji12) : Int).toNat).size : Int) - 2)) : Int).toNat (a0.extract 0 ((ji12) : Int).toNat).size).toList != ([13, 10] : List UInt8))) else (none)) else (none)) else (intaglioref19_count.j1 kj7 a0 a2 t101 (a0.extract 0 ((ji12) : Int).toNat) ((a0.extract 0 ((ji12) : Int).toNat).size : Int) true)) else (none)) else (none)))) else (none)) else (none)) = some (r1, r2, r3) := by first | (rw [hji12] at H; exact H) | (simp only [hji12] at H ⊢; exact H)
              have hji12w : (IntKind.i64.wrap (t101 + 1)) = ji12 := (i64_w _).trans hji12
              by_cases c13 : 0 ≤ (ji12)
              · rw [if_pos c13] at H
                have c13b0 := eq_true c13
                have c13b1 : decide (0 ≤ (ji12)) = true := decide_eq_true c13
                clear c13
                by_cases c14 : (ji12) ≤ (a0.size : Int)
                · rw [if_pos c14] at H
                  have c14b0 := eq_true c14
                  have c14b1 : decide ((ji12) ≤ (a0.size : Int)) = true := decide_eq_true c14
                  clear c14
                  obtain ⟨y12, hy12⟩ : ∃ y_ : ByteArray, a0.extract 0 ((ji12) : Int).toNat = y_ := ⟨_, rfl⟩
                  rw [hy12] at H
                  have HC15 := Aside0.mk H
                  clear H
                  go_upto_region 8 with (fail)
                  repeat (go_quiet (fail); go_upto_region 8 with (fail))
                  go_cut [53] (fun v53 wc => ∃ (kq : Nat) (x53_14 : Bool), v53 = .bool x53_14 ∧ Aside0 (intaglioref19_count.j1 kq a0 a2 t101 y12 (y12.size : Int) x53_14 = some (r1, r2, r3)) ∧ Aside0 (kq ≤ kj7) ∧ Aside0 (Below w.heap.size w wc))
                  case first =>
                    have H := HC15.out
                    clear HC15
                    by_cases c16 : (y12.size : Int) < 4
                    · rw [if_pos c16] at H
                      have c16b0 : decide ((y12.size : Int) < 4) = true := decide_eq_true c16
                      have c16b1 : decide (y12.size < 4) = true := decide_eq_true (by omega)
                      clear c16
                      (first | rw [c16b0] | (simp only [i64_w, i32_w]; rw [c16b0]) | skip)
                      have H' := Aside0.mk H
                      clear H
                      go_wp2
                      repeat (go_quiet (fail); try go_wp2)
                      go_meet
                      case rel => exact ⟨_, (true), (by first | rfl | (simp; done) | (simp [*]; done)), H', ⟨by have := HJ7.out; first | omega | exact Nat.le_refl _⟩, ⟨by repeat (first | (with_reducible first | exact HB.out | apply below_alloc | apply pw_below_drewN | apply below_drew1) | exact HB.out)⟩⟩
                    · rw [if_neg c16] at H
                      have c16b0 : decide ((y12.size : Int) < 4) = false := decide_eq_false c16
                      have c16b1 : decide (y12.size < 4) = false := decide_eq_false (by omega)
                      clear c16
                      (first | rw [c16b0] | (simp only [i64_w, i32_w]; rw [c16b0]) | skip)
                      by_cases c17 : (y12.size : Int) > 12
                      · rw [if_pos c17] at H
                        have c17b0 : decide (12 < (y12.size : Int)) = true := decide_eq_true c17
                        have c17b1 : decide (12 < y12.size) = true := decide_eq_true (by omega)
                        clear c17
                        have H' := Aside0.mk H
                        clear H
                        go_wp2
                        repeat (go_quiet (fail); try go_wp2)
                        go_meet
                        case rel => exact ⟨_, (true), (by first | rfl | (simp; done) | (simp [*]; done)), H', ⟨by have := HJ7.out; first | omega | exact Nat.le_refl _⟩, ⟨by repeat (first | (with_reducible first | exact HB.out | apply below_alloc | apply pw_below_drewN | apply below_drew1) | exact HB.out)⟩⟩
                      · rw [if_neg c17] at H
                        have c17b0 : decide (12 < (y12.size : Int)) = false := decide_eq_false c17
                        have c17b1 : decide (12 < y12.size) = false := decide_eq_false (by omega)
                        clear c17
                        by_cases c18 : 0 ≤ 1
                        · rw [if_pos c18] at H
                          have c18b0 := eq_true c18
                          have c18b1 : decide (0 ≤ 1) = true := decide_eq_true c18
                          clear c18
                          by_cases c19 : 1 ≤ (y12.size : Int)
                          · rw [if_pos c19] at H
                            have c19b0 := eq_true c19
                            have c19b1 : decide (1 ≤ (y12.size : Int)) = true := decide_eq_true c19
                            clear c19
                            by_cases c20 : (y12.extract 0 1).toList = a1.toList
                            · rw [if_pos c20] at H
                              have c20b0 : ((y12.extract 0 1).toList == a1.toList) = true := beq_iff_eq.mpr c20
                              have c20b1 : ((y12.extract 0 1).toList != a1.toList) = false := bne_eq_false_iff_eq.mpr c20
                              clear c20
                              obtain ⟨ji21, hji21⟩ : ∃ j_ : Int, (wrap64 ((y12.size : Int) - 2)) = j_ := ⟨_, rfl⟩
                              replace H : (if 0 ≤ (ji21) then (if (ji21) ≤ (y12.size : Int) then (intaglioref19_count.j1 kj7 a0 a2 t101 y12 (y12.size : Int) ((y12.extract ((ji21) : Int).toNat y12.size).toList != ([13, 10] : List UInt8))) else (none)) else (none)) = some (r1, r2, r3) := by first | (rw [hji21] at H; exact H) | (simp only [hji21] at H ⊢; exact H)
                              have hji21w : (IntKind.i64.wrap ((y12.size : Int) - 2)) = ji21 := (i64_w _).trans hji21
                              by_cases c22 : 0 ≤ (ji21)
                              · rw [if_pos c22] at H
                                have c22b0 := eq_true c22
                                have c22b1 : decide (0 ≤ (ji21)) = true := decide_eq_true c22
                                clear c22
                                by_cases c23 : (ji21) ≤ (y12.size : Int)
                                · rw [if_pos c23] at H
                                  have c23b0 := eq_true c23
                                  have c23b1 : decide ((ji21) ≤ (y12.size : Int)) = true := decide_eq_true c23
                                  clear c23
                                  have H' := Aside0.mk H
                                  clear H
                                  go_wp2
                                  repeat (go_quiet (fail); try go_wp2)
                                  go_meet
                                  case rel => exact ⟨_, (((y12.extract ((ji21) : Int).toNat y12.size).toList != ([13, 10] : List UInt8))), (by first | rfl | (simp; done) | (simp only [← hji12, ← hji21] <;> (first | rfl | simp)) | (simp [*]; done)), H', ⟨by have := HJ7.out; first | omega | exact Nat.le_refl _⟩, ⟨by repeat (first | (with_reducible first | exact HB.out | apply below_alloc | apply pw_below_drewN | apply below_drew1) | exact HB.out)⟩⟩
                                · rw [if_neg c23] at H
                                  exact absurd H (by simp)
                              · rw [if_neg c22] at H
                                exact absurd H (by simp)
                            · rw [if_neg c20] at H
                              have c20b0 : ((y12.extract 0 1).toList == a1.toList) = false := beq_eq_false_iff_ne.mpr c20
                              have c20b1 : ((y12.extract 0 1).toList != a1.toList) = true := bne_iff_ne.mpr c20
                              have H' := Aside0.mk H
                              clear H
                              go_wp2
                              repeat (go_quiet (fail); try go_wp2)
                              go_meet
                              case rel => exact ⟨_, (true), (by first | rfl | (simp; done) | (simp [*]; done)), H', ⟨by have := HJ7.out; first | omega | exact Nat.le_refl _⟩, ⟨by repeat (first | (with_reducible first | exact HB.out | apply below_alloc | apply pw_below_drewN | apply below_drew1) | exact HB.out)⟩⟩
                          · rw [if_neg c19] at H
                            exact absurd H (by simp)
                        · rw [if_neg c18] at H
                          exact absurd H (by simp)
                  case rest =>
                    clear HC15
                    try clear c1
                    try clear c2
                    try clear p2
                    try clear c5
                    try clear c5b0
                    try clear c5b1
                    try clear c6
                    try clear c6b0
                    try clear c6b1
                    try clear p6
                    try clear c7
                    try clear c9
                    try clear c9b0
                    try clear c10
                    try clear c11
                    try clear c11b0
                    try clear c13
                    try clear c13b0
                    try clear c13b1
                    try clear c14
                    try clear c14b0
                    try clear c14b1
                    try clear c16
                    try clear c16b0
                    try clear c16b1
                    try clear c17
                    try clear c17b0
                    try clear c17b1
                    try clear c18
                    try clear c18b0
                    try clear c18b1
                    try clear c19
                    try clear c19b0
                    try clear c19b1
                    try clear c20
                    try clear c20b0
                    try clear c20b1
                    try clear c22
                    try clear c22b0
                    try clear c22b1
                    try clear c23
                    try clear c23b0
                    try clear c23b1
                    try clear p2
                    obtain ⟨kq, x53_14, rfl, HA, HJ14, HB⟩ := hcut
                    cases kq with
                    | zero => exact absurd HA.out (by simp [intaglioref19_count.j1])
                    | succ kj14 =>
                      have H := HA.out
                      clear HA
                      simp only [intaglioref19_count.j1] at H
                      by_cases c24 : x53_14 = true
                      · subst c24
                        have H1 : (some (0, (⟨#[]⟩ : ByteArray), 3)) = some (r1, r2, r3) := by rw [if_pos rfl] at H; exact H
                        clear H
                        have H := H1
                        clear H1
                        simp only [Option.some.injEq, Prod.mk.injEq] at H
                        obtain ⟨rfl, rfl, rfl⟩ := H
                        go_wp2
                        repeat (go_quiet (fail); try go_wp2)
                        go_ret3
                        exact ⟨by first | rfl | (simp [errW_none, errW_some] <;> rfl) | (simp only [← hji4, ← hji12]; first | rfl | (simp [errW_none, errW_some] <;> rfl)) | (simp [*, errW_none, errW_some] <;> rfl), by repeat (first | (with_reducible first | exact HB.out | apply below_alloc | apply pw_below_drewN | apply below_drew1) | exact HB.out)⟩
                      · replace c24 := Bool.eq_false_iff.mpr c24
                        subst c24
                        have H1 : (if 1 ≤ (wrap64 ((y12.size : Int) - 2)) then (if (wrap64 ((y12.size : Int) - 2)) ≤ (y12.size : Int) then ((intaglioref17_Int.f kj14 (y12.extract 1 ((wrap64 ((y12.size : Int) - 2)) : Int).toNat)).bind fun bt102 => (if bt102.2 = true then (intaglioref19_count.j2 kj14 a0 a2 t101 bt102.1 (decide (bt102.1 < 0))) else (intaglioref19_count.j2 kj14 a0 a2 t101 bt102.1 true))) else (none)) else (none)) = some (r1, r2, r3) := by rw [if_neg (show ¬ (false = true) by decide)] at H; exact H
                        clear H
                        have H := H1
                        clear H1
                        by_cases c25 : 1 ≤ (wrap64 ((y12.size : Int) - 2))
                        · rw [if_pos c25] at H
                          have c25b0 := eq_true c25
                          have c25b1 : decide (1 ≤ (wrap64 ((y12.size : Int) - 2))) = true := decide_eq_true c25
                          clear c25
                          by_cases c26 : (wrap64 ((y12.size : Int) - 2)) ≤ (y12.size : Int)
                          · rw [if_pos c26] at H
                            have c26b0 := eq_true c26
                            have c26b1 : decide ((wrap64 ((y12.size : Int) - 2)) ≤ (y12.size : Int)) = true := decide_eq_true c26
                            clear c26
                            replace H := Option.bind_eq_some_iff.mp H
                            obtain ⟨⟨t102, t103⟩, A270, H⟩ := H
                            replace H : (if t103 = true then (intaglioref19_count.j2 kj14 a0 a2 t101 t102 (decide (t102 < 0))) else (intaglioref19_count.j2 kj14 a0 a2 t101 t102 true)) = some (r1, r2, r3) := H
                            have A27 := Aside0.mk A270
                            clear A270
                            have HC28 := Aside0.mk H
                            clear H
                            go_upto_region 11 with (first | (go_at_call 34; (with_reducible refine (intaglioref17_Int.calls kj14 (y12.extract 1 ((wrap64 ((y12.size : Int) - 2)) : Int).toNat) t102 t103 _ A27.out).mono ?_); rintro e w29 ⟨rfl, hb⟩; have n0_ := Aside0.mk (below_step (by repeat (first | (with_reducible first | exact HB.out | apply below_alloc | apply pw_below_drewN | apply below_drew1) | exact HB.out)) hb); clear HB; have HB := n0_; clear n0_; (try clear hb); (try clear hb2); (try clear hk); (try clear hi)))
                            repeat (go_quiet (first | (go_at_call 34; (with_reducible refine (intaglioref17_Int.calls kj14 (y12.extract 1 ((wrap64 ((y12.size : Int) - 2)) : Int).toNat) t102 t103 _ A27.out).mono ?_); rintro e w29 ⟨rfl, hb⟩; have n0_ := Aside0.mk (below_step (by repeat (first | (with_reducible first | exact HB.out | apply below_alloc | apply pw_below_drewN | apply below_drew1) | exact HB.out)) hb); clear HB; have HB := n0_; clear n0_; (try clear hb); (try clear hb2); (try clear hk); (try clear hi))); go_upto_region 11 with (first | (go_at_call 34; (with_reducible refine (intaglioref17_Int.calls kj14 (y12.extract 1 ((wrap64 ((y12.size : Int) - 2)) : Int).toNat) t102 t103 _ A27.out).mono ?_); rintro e w29 ⟨rfl, hb⟩; have n0_ := Aside0.mk (below_step (by repeat (first | (with_reducible first | exact HB.out | apply below_alloc | apply pw_below_drewN | apply below_drew1) | exact HB.out)) hb); clear HB; have HB := n0_; clear n0_; (try clear hb); (try clear hb2); (try clear hk); (try clear hi))))
                            (try simp only [Act.put, List.setIfInBounds_toArray, List.set_cons_zero, List.set_cons_succ])
                            go_cut [67] (fun v67 wc => ∃ (kq : Nat) (x67_27 : Bool), v67 = .bool x67_27 ∧ Aside0 (intaglioref19_count.j2 kq a0 a2 t101 t102 x67_27 = some (r1, r2, r3)) ∧ Aside0 (kq ≤ kj14) ∧ Aside0 (Below w.heap.size w wc))
                            case first =>
                              have H := HC28.out
                              clear HC28
                              by_cases c30 : t103 = true
                              · subst c30
                                have H1 : (intaglioref19_count.j2 kj14 a0 a2 t101 t102 (decide (t102 < 0))) = some (r1, r2, r3) := by rw [if_pos rfl] at H; exact H
                                clear H
                                have H := H1
                                clear H1
                                have H' := Aside0.mk H
                                clear H
                                go_wp2
                                repeat (go_quiet (fail); try go_wp2)
                                go_meet
                                case rel => exact ⟨_, (decide (t102 < 0)), (by first | rfl | (simp; done) | (simp [*]; done)), H', ⟨by have := HJ7.out; have := HJ14.out; first | omega | exact Nat.le_refl _⟩, ⟨by repeat (first | (with_reducible first | exact HB.out | apply below_alloc | apply pw_below_drewN | apply below_drew1) | exact HB.out)⟩⟩
                              · replace c30 := Bool.eq_false_iff.mpr c30
                                subst c30
                                have H1 : (intaglioref19_count.j2 kj14 a0 a2 t101 t102 true) = some (r1, r2, r3) := by rw [if_neg (show ¬ (false = true) by decide)] at H; exact H
                                clear H
                                have H := H1
                                clear H1
                                have H' := Aside0.mk H
                                clear H
                                go_wp2
                                repeat (go_quiet (fail); try go_wp2)
                                go_meet
                                case rel => exact ⟨_, (true), (by first | rfl | (simp; done) | (simp [*]; done)), H', ⟨by have := HJ7.out; have := HJ14.out; first | omega | exact Nat.le_refl _⟩, ⟨by repeat (first | (with_reducible first | exact HB.out | apply below_alloc | apply pw_below_drewN | apply below_drew1) | exact HB.out)⟩⟩
                            case rest =>
                              clear HC28
                              try clear c1
                              try clear c2
                              try clear p2
                              try clear c3
                              try clear c5
                              try clear c5b0
                              try clear c5b1
                              try clear c6
                              try clear c6b0
                              try clear c6b1
                              try clear p6
                              try clear c7
                              try clear c9
                              try clear c9b0
                              try clear c10
                              try clear c11
                              try clear c11b0
                              try clear c13
                              try clear c13b0
                              try clear c13b1
                              try clear c14
                              try clear c14b0
                              try clear c14b1
                              try clear c16
                              try clear c16b0
                              try clear c16b1
                              try clear c17
                              try clear c17b0
                              try clear c17b1
                              try clear c18
                              try clear c18b0
                              try clear c18b1
                              try clear c19
                              try clear c19b0
                              try clear c19b1
                              try clear c20
                              try clear c20b0
                              try clear c20b1
                              try clear c22
                              try clear c22b0
                              try clear c22b1
                              try clear c23
                              try clear c23b0
                              try clear c23b1
                              try clear c24
                              try clear c25
                              try clear c25b0
                              try clear c25b1
                              try clear c26
                              try clear c26b0
                              try clear c26b1
                              try clear c30
                              try clear p2
                              try clear p6
                              obtain ⟨kq, x67_27, rfl, HA, HJ27, HB⟩ := hcut
                              cases kq with
                              | zero => exact absurd HA.out (by simp [intaglioref19_count.j2])
                              | succ kj27 =>
                                have H := HA.out
                                clear HA
                                simp only [intaglioref19_count.j2] at H
                                by_cases c31 : x67_27 = true
                                · subst c31
                                  have H1 : (some (0, (⟨#[]⟩ : ByteArray), 3)) = some (r1, r2, r3) := by rw [if_pos rfl] at H; exact H
                                  clear H
                                  have H := H1
                                  clear H1
                                  simp only [Option.some.injEq, Prod.mk.injEq] at H
                                  obtain ⟨rfl, rfl, rfl⟩ := H
                                  go_wp2
                                  repeat (go_quiet (fail); try go_wp2)
                                  go_ret3
                                  exact ⟨by first | rfl | (simp [errW_none, errW_some] <;> rfl) | (simp only [← hji4, ← hji12]; first | rfl | (simp [errW_none, errW_some] <;> rfl)) | (simp [*, errW_none, errW_some] <;> rfl), by repeat (first | (with_reducible first | exact HB.out | apply below_alloc | apply pw_below_drewN | apply below_drew1) | exact HB.out)⟩
                                · replace c31 := Bool.eq_false_iff.mpr c31
                                  subst c31
                                  have H1 : (if t102 > a2 then (some (0, (⟨#[]⟩ : ByteArray), 5)) else (if 0 ≤ (wrap64 (t101 + 1)) then (if (wrap64 (t101 + 1)) ≤ (a0.size : Int) then (some (t102, a0.extract ((wrap64 (t101 + 1)) : Int).toNat a0.size, 0)) else (none)) else (none))) = some (r1, r2, r3) := by rw [if_neg (show ¬ (false = true) by decide)] at H; exact H
                                  clear H
                                  have H := H1
                                  clear H1
                                  by_cases c32 : t102 > a2
                                  · rw [if_pos c32] at H
                                    have c32b0 : decide (a2 < t102) = true := decide_eq_true c32
                                    clear c32
                                    simp only [Option.some.injEq, Prod.mk.injEq] at H
                                    obtain ⟨rfl, rfl, rfl⟩ := H
                                    go_wp2
                                    repeat (go_quiet (fail); try go_wp2)
                                    go_ret3
                                    exact ⟨by first | rfl | (simp [errW_none, errW_some] <;> rfl) | (simp only [← hji4, ← hji12]; first | rfl | (simp [errW_none, errW_some] <;> rfl)) | (simp [*, errW_none, errW_some] <;> rfl), by repeat (first | (with_reducible first | exact HB.out | apply below_alloc | apply pw_below_drewN | apply below_drew1) | exact HB.out)⟩
                                  · rw [if_neg c32] at H
                                    have c32b0 : decide (a2 < t102) = false := decide_eq_false c32
                                    clear c32
                                    obtain ⟨ji33, hji33⟩ : ∃ j_ : Int, (wrap64 (t101 + 1)) = j_ := ⟨_, rfl⟩
                                    replace H : (if 0 ≤ (ji33) then (if (ji33) ≤ (a0.size : Int) then (some (t102, a0.extract ((ji33) : Int).toNat a0.size, 0)) else (none)) else (none)) = some (r1, r2, r3) := by first | (rw [hji33] at H; exact H) | (simp only [hji33] at H ⊢; exact H)
                                    have hji33w : (IntKind.i64.wrap (t101 + 1)) = ji33 := (i64_w _).trans hji33
                                    obtain rfl : ji33 = ji12 := hji33.symm.trans hji12
                                    by_cases c34 : 0 ≤ (ji33)
                                    · rw [if_pos c34] at H
                                      have c34b0 := eq_true c34
                                      have c34b1 : decide (0 ≤ (ji33)) = true := decide_eq_true c34
                                      clear c34
                                      by_cases c35 : (ji33) ≤ (a0.size : Int)
                                      · rw [if_pos c35] at H
                                        have c35b0 := eq_true c35
                                        have c35b1 : decide ((ji33) ≤ (a0.size : Int)) = true := decide_eq_true c35
                                        clear c35
                                        simp only [Option.some.injEq, Prod.mk.injEq] at H
                                        obtain ⟨rfl, rfl, rfl⟩ := H
                                        go_wp2
                                        repeat (go_quiet (fail); try go_wp2)
                                        go_ret3
                                        exact ⟨by first | rfl | (simp [errW_none, errW_some] <;> rfl) | (simp only [← hji4, ← hji12, ← hji33]; first | rfl | (simp [errW_none, errW_some] <;> rfl)) | (simp [*, errW_none, errW_some] <;> rfl), by repeat (first | (with_reducible first | exact HB.out | apply below_alloc | apply pw_below_drewN | apply below_drew1) | exact HB.out)⟩
                                      · rw [if_neg c35] at H
                                        exact absurd H (by simp)
                                    · rw [if_neg c34] at H
                                      exact absurd H (by simp)
                          · rw [if_neg c26] at H
                            exact absurd H (by simp)
                        · rw [if_neg c25] at H
                          exact absurd H (by simp)
                · rw [if_neg c14] at H
                  exact absurd H (by simp)
              · rw [if_neg c13] at H
                exact absurd H (by simp)
    · rw [if_neg c6] at H
      exact absurd H (by simp)
  · rw [if_neg c5] at H
    exact absurd H (by simp)

end Go.Proofs.YtbfbmgkgaokecaaDoor.PS
