/- Layer 19: RespPieces 5, by hand. -/
import Derived.Test.YtbfbmgkgaokecaaDoorGvV
import Derived.Test.YtbfbmgkgaokecaaDoorPSf22
namespace Go.Proofs.YtbfbmgkgaokecaaDoor.PS
open Go.RowKit Go.Proofs.YtbfbmgkgaokecaaDoorW.PrintWords Go.Proofs.YtbfbmgkgaokecaaDoorW.PrintLast Go.Proofs.YtbfbmgkgaokecaaDoorW.PrintMore
attribute [local go_sem] max2_int min2_int max_two min_two max_three min_three max_four min_four
set_option linter.unusedVariables false
set_option linter.unusedSimpArgs false

theorem cuts (n : Nat) (x y : Int) (hn : n ≤ 6000) (hx : 0 ≤ x ∧ x ≤ 65535) (hy : 0 ≤ y ∧ y ≤ 65535) : ∃ (N1 D D1 : Int) (I K : Nat), I ≤ K ∧ K ≤ n ∧
    wrap64 x = x ∧ wrap64 ((n : Int) + 1) = N1 ∧ Int.tmod x N1 = (I : Int) ∧ wrap64 ((n : Int) - (I : Int)) = D ∧ wrap64 (D + 1) = D1 ∧ wrap64 y = y ∧ (∃ J : Int, Int.tmod y D1 = J ∧ wrap64 ((I : Int) + J) = (K : Int)) ∧ True ∧
    (N1 = 0) = False ∧ (N1 == 0) = false ∧ (D1 = 0) = False ∧ (D1 == 0) = false := by
  obtain ⟨hx0, hx1⟩ := hx
  obtain ⟨hy0, hy1⟩ := hy
  have t1 : Int.tmod x ((n : Int) + 1) = x % ((n : Int) + 1) := Int.tmod_eq_emod_of_nonneg hx0
  have a1 := Int.emod_nonneg x (show ((n : Int) + 1) ≠ 0 by omega)
  have a2 := Int.emod_lt_of_pos x (show 0 < ((n : Int) + 1) by omega)
  obtain ⟨I, hI⟩ : ∃ I : Nat, x % ((n : Int) + 1) = (I : Int) := ⟨_, (Int.toNat_of_nonneg a1).symm⟩
  rw [hI] at a2 t1
  have t2 : Int.tmod y ((n : Int) - (I : Int) + 1) = y % ((n : Int) - (I : Int) + 1) := Int.tmod_eq_emod_of_nonneg hy0
  have a3 := Int.emod_nonneg y (show ((n : Int) - (I : Int) + 1) ≠ 0 by omega)
  have a4 := Int.emod_lt_of_pos y (show 0 < ((n : Int) - (I : Int) + 1) by omega)
  obtain ⟨J, hJ⟩ : ∃ J : Nat, y % ((n : Int) - (I : Int) + 1) = (J : Int) := ⟨_, (Int.toNat_of_nonneg a3).symm⟩
  rw [hJ] at a4 t2
  refine ⟨(n : Int) + 1, (n : Int) - (I : Int), (n : Int) - (I : Int) + 1, I, I + J, by omega, by omega, wI (by omega) (by omega), wI (by omega) (by omega), t1, wI (by omega) (by omega), wI (by omega) (by omega), wI (by omega) (by omega), ⟨(J : Int), t2, ?_⟩, trivial, eq_false (by omega), beq_eq_false_iff_ne.mpr (by omega), eq_false (by omega), beq_eq_false_iff_ne.mpr (by omega)⟩
  rw [wI (by omega) (by omega)]; omega
set_option maxHeartbeats 8000000 in
set_option maxRecDepth 100000 in
theorem RespPieces_walk {w : World} (A0 : Option Addr) (c0 : Nat) (b : List UInt8) (h0 : Kd.C (Kd.int .u8) w A0 b.length (ints b)) (hc0 : b.length ≤ c0)
    (x y : Int) (hx : 0 ≤ x ∧ x ≤ 65535) (hy : 0 ≤ y ∧ y ≤ 65535) (hG : Vb.Num w) :
    Calls Tryd.prog 5 #[.slice A0 b.length c0, .agg #[.int .u16 x, .int .u16 y]] w fun e w' => e = .returned (.bool true) ∧ Below w.heap.size w w' := by
  have HG := Aside0.mk hG
  have HV0 := Aside0.mk (show Kd.V (Kd.int .u8) 5 w w.heap.size (fun k => k < w.heap.size) (.slice A0 b.length c0) (ints b) by
    have := C_V (c := c0) (xs := ints b) (A := A0) (W := w) (by rw [ints_length]; exact h0) (by rw [ints_length]; exact hc0) w.heap.size
    rw [ints_length] at this; exact this)
  have HC0 := Aside0.mk hc0
  have HX := Aside0.mk hx
  have HY := Aside0.mk hy
  clear hG h0 hc0 hx hy
  by_cases q1 : 6000 < (b.length : Int)
  · have b1 : decide (6000 < (b.length : Int)) = true := decide_eq_true q1
    have b2 := eq_true q1
    clear q1
    go_enter Tryd.func5, Tryd.ntmps5
    go_wp2_with fail
    refine (awake_calls _ (Vb.Num.grown HG.out (below_alloc (Below.refl _ _) _))).mono ?_
    rintro e w1 ⟨rfl, hb⟩
    have HB := Aside0.mk (below_then (below_alloc (Below.refl _ _) _) (by simp) hb)
    go_wp2
    go_ret
    exact ⟨rfl, HB.out⟩
  have b1 : decide (6000 < (b.length : Int)) = false := decide_eq_false q1
  have b2 := eq_false q1
  have HN := Aside0.mk (show b.length ≤ 6000 by omega)
  clear q1
  obtain ⟨N1, D, D1, I, K, hI, hK, e1, e2, e3, e4, e5, e6, ⟨J, e7, e8⟩, _, n1, n2, n3, n4⟩ := cuts b.length x y HN.out HX.out HY.out
  have HI := Aside0.mk hI
  have HK := Aside0.mk hK
  have i1 : ((0 : Int) ≤ (I : Int)) = True := eq_true (by omega)
  have i2 : ((I : Int) ≤ (c0 : Int)) = True := eq_true (by have := HC0.out; omega)
  have i3 : ((I : Int) ≤ (K : Int)) = True := eq_true (by omega)
  have i4 : ((K : Int) ≤ (c0 : Int)) = True := eq_true (by have := HC0.out; omega)
  have i5 : ((K : Int) ≤ (b.length : Int)) = True := eq_true (by omega)
  have i6 : ((0 : Int) ≤ (K : Int)) = True := eq_true (by omega)
  obtain ⟨AI, hAI⟩ : ∃ A, (if c0 = I then A0 else Option.map (fun x => x.add I) A0) = A := ⟨_, rfl⟩
  obtain ⟨AK, hAK⟩ : ∃ A, (if c0 = K then A0 else Option.map (fun x => x.add K) A0) = A := ⟨_, rfl⟩
  clear hI hK
  go_enter Tryd.func5, Tryd.ntmps5
  go_wp2_with fail
  have HB0 := Aside0.mk (below_alloc (Below.refl w.heap.size w) (.cells #[.int .u16 x, .int .u16 y] 43))
  refine (resp_New.callsP _).mono ?_
  rintro e w1 ⟨gp, rfl, hg1, hgl1, hb1⟩
  have HB1 := Aside0.mk (below_then HB0.out HB0.out.size hb1)
  have HP1 := Aside0.mk (show IsP w1 w.heap.size gp (fun _ => False) (ints (parse []).2.2) (parse []).2.1 true by rw [parse_nil]; exact ⟨_, hg1, Nat.le_trans HB0.out.size hgl1, Kd.Q_nil _ _ _ _ _⟩)
  have HL1 := Aside0.mk (blk_lt hg1)
  have HGp := Aside0.mk (Nat.le_trans HB0.out.size hgl1)
  clear hg1 hgl1 hb1
  go_wp2_with fail
  refine (resp_New.callsP _).mono ?_
  rintro e w2 ⟨gq, rfl, hg2, hgl2, hb2⟩
  have HB2 := Aside0.mk (below_then HB1.out HB1.out.size hb2)
  have HP2 := Aside0.mk (IsP_below HP1.out hb2)
  have HQ2 := Aside0.mk (show IsP w2 w.heap.size gq (fun _ => False) (ints (parse []).2.2) (parse []).2.1 true by rw [parse_nil]; exact ⟨_, hg2, Nat.le_trans HB1.out.size hgl2, Kd.Q_nil _ _ _ _ _⟩)
  have HL2 := Aside0.mk (blk_lt hg2)
  have HPQ := Aside0.mk (show gp < gq from Nat.lt_of_lt_of_le HL1.out hgl2)
  have HV2 := Aside0.mk (Kd.V_below (Kd.V_bound HV0.out) HB2.out)
  clear hg2 hgl2 hb2 HP1
  -- whole
  go_wp2_with fail
  refine (feed_seen w.heap.size gp (fun _ => False) (fun k => k < w.heap.size ∧ k < w.heap.size) [] b A0 c0 w w2 HG.out HB2.out HB2.out.size rfl HP2.out (Kd.V_map HV2.out (fun _ hf => hf)) (by have := HN.out; simp only [List.length_nil]; omega)).mono ?_
  rintro e w3 ⟨v3, Xw, rfl, hx3, hR3, hP3, hb3, hk3⟩
  rw [List.nil_append] at hx3 hP3
  rw [parse_nil, List.nil_append] at hx3
  obtain ⟨Ew, hEw⟩ : ∃ E, (parse b).2.1 = E := ⟨_, rfl⟩
  rw [List.nil_append, hEw]
  rw [hEw] at hP3
  obtain ⟨Aw, cw, rfl⟩ := Kd.R_slice hR3
  have HEw := Aside0.mk hEw
  have HXw := Aside0.mk hx3
  have HQ3 := Aside0.mk (IsP_kept HQ2.out hk3 (fun h => h.elim (fun h => by have := HPQ.out; omega) (fun h => h)) (fun _ h => h.elim))
  have HV3 := Aside0.mk (Kd.V_kept HV2.out hk3 (fun k hk h => h.elim (fun h => by have := hk.2; have := HGp.out; omega) (fun h => h)))
  have HB3 := Aside0.mk hb3
  have HP3 := Aside0.mk hP3
  have HR3 := Aside0.mk hR3
  have HS3 := Aside0.mk hk3.1
  clear hEw hx3 hR3 hP3 hb3 hk3 HV2 HP2 HQ2
  -- the first cut
  go_wp2_with fail
  have hl1 : (b.take I).length = I := by have := HI.out; have := HK.out; rw [List.length_take]; omega
  have f4 := feed_seen w.heap.size gq (fun _ => False) _ [] (b.take I) A0 c0 w w3 HG.out HB3.out HB3.out.size rfl HQ3.out (V_takeB HV3.out I (by have := HI.out; have := HK.out; omega) _) (by rw [hl1]; have := HI.out; have := HK.out; have := HN.out; simp only [List.length_nil]; omega)
  rw [hl1] at f4
  refine f4.mono ?_
  clear f4
  rintro e w4 ⟨v4, X1, rfl, hx4, hR4, hQ4, hb4, hk4⟩
  rw [List.nil_append] at hx4 hQ4
  rw [parse_nil, List.nil_append] at hx4
  obtain ⟨E1, hE1⟩ : ∃ E, (parse (b.take I)).2.1 = E := ⟨_, rfl⟩
  rw [List.nil_append, hE1]
  obtain ⟨A4, c4, rfl⟩ := Kd.R_slice hR4
  have HX1 := Aside0.mk hx4
  have HQ4 := Aside0.mk hQ4
  have HP4 := Aside0.mk (IsP_kept HP3.out hk4 (fun h => h.elim (fun h => by have := HPQ.out; omega) (fun h => h)) (fun k hk h => h.elim (fun h => hk.1.1.elim (fun f => f) (fun h2 => by have := HL2.out; omega)) (fun h => h)))
  have HV4 := Aside0.mk (Kd.V_kept HV3.out hk4 (fun k hk h => h.elim (fun h => by have := hk.2; have := HGp.out; have := HPQ.out; omega) (fun h => h)))
  have HB4 := Aside0.mk hb4
  have HR4 := Aside0.mk hR4
  have HRw4 := Aside0.mk (Kd.R_keptB HR3.out hk4 (fun k hk h => h.elim (fun h => by have := HL2.out; have := hk.1.1; omega) (fun h => h)))
  have HS4 := Aside0.mk hk4.1
  clear hl1 hE1 hx4 hR4 hQ4 hb4 hk4 HV3 HP3 HQ3 HR3
  go_wp2_with fail
  -- the second cut
  have hm1 : ((b.take K).drop I).length = K - I := by have := HI.out; have := HK.out; rw [List.length_drop, List.length_take]; omega
  have hs1 : b.take I ++ (b.take K).drop I = b.take K := by
    have := List.take_append_drop I (b.take K)
    rw [List.take_take, Nat.min_eq_left HI.out] at this
    exact this
  have hv5 := V_midB HV4.out I K HI.out HK.out w4.heap.size
  rw [hAI] at hv5
  have f5 := feed_seen w.heap.size gq _ _ (b.take I) ((b.take K).drop I) AI (c0 - I) w w4 HG.out HB4.out HB4.out.size rfl HQ4.out (by rw [hm1]; exact hv5) (by rw [hm1, List.length_take]; have := HI.out; have := HK.out; have := HN.out; omega)
  rw [hm1, hs1] at f5
  refine f5.mono ?_
  clear f5 hv5
  rintro e w5 ⟨v5, X2, rfl, hx5, hR5, hQ5, hb5, hk5⟩
  obtain ⟨E2, hE2⟩ : ∃ E, (parse (b.take K)).2.1 = E := ⟨_, rfl⟩
  rw [hE2]
  obtain ⟨A5, c5, rfl⟩ := Kd.R_slice hR5
  have HX2 := Aside0.mk hx5
  have HQ5 := Aside0.mk hQ5
  have HP5 := Aside0.mk (IsP_kept HP4.out hk5 (fun h => h.elim (fun h => by have := HPQ.out; omega) (fun h => h.1.1.elim (fun f => f) (fun h2 => by have := HPQ.out; have := HL2.out; have := HS3.out; omega))) (fun k hk h => h.elim (fun h => hk.1.1.elim (fun f => f) (fun h2 => by have := HL2.out; omega)) (fun h => h.1.1.elim (fun f => f) (fun h2 => by have := hk.1.2; omega))))
  have HV5 := Aside0.mk (Kd.V_kept HV4.out hk5 (fun k hk h => h.elim (fun h => by have := hk.2; have := HGp.out; have := HPQ.out; omega) (fun h => h.1.1.elim (fun f => f) (fun h2 => by have := hk.2; have := HB3.out.size; omega))))
  have HRw5 := Aside0.mk (Kd.R_keptB HRw4.out hk5 (fun k hk h => h.elim (fun h => by have := HL2.out; have := hk.1.1; omega) (fun h => h.1.1.elim (fun f => f) (fun h2 => by have := hk.1.1; omega))))
  have HR15 := Aside0.mk (Kd.R_keptB HR4.out hk5 (fun k hk h => h.elim (fun h => by have := HL2.out; have := HS3.out; have := hk.1; omega) (fun h => hk.2 h.2)))
  have HB5 := Aside0.mk hb5
  have HR5 := Aside0.mk hR5
  have HS5 := Aside0.mk hk5.1
  clear hm1 hs1 hE2 hx5 hR5 hQ5 hb5 hk5 HV4 HP4 HQ4 HRw4 HR4
  go_wp2_with fail
  -- the rest
  have hm2 : (b.drop K).length = b.length - K := List.length_drop
  have hs2 : b.take K ++ b.drop K = b := List.take_append_drop K b
  have hv6 := V_cutB HV5.out K HK.out w5.heap.size
  rw [hAK] at hv6
  have f6 := feed_seen w.heap.size gq _ _ (b.take K) (b.drop K) AK (c0 - K) w w5 HG.out HB5.out HB5.out.size rfl HQ5.out (by rw [hm2]; exact hv6) (by rw [hm2, List.length_take]; have := HI.out; have := HK.out; have := HN.out; omega)
  rw [hm2, hs2] at f6
  refine f6.mono ?_
  clear f6 hv6
  rintro e w6 ⟨v6, X3, rfl, hx6, hR6, hQ6, hb6, hk6⟩
  rw [HEw.out]
  rw [HEw.out] at hQ6
  obtain ⟨A6, c6, rfl⟩ := Kd.R_slice hR6
  have HX3 := Aside0.mk hx6
  have HQ6 := Aside0.mk hQ6
  have HP6 := Aside0.mk (IsP_kept HP5.out hk6 (fun h => h.elim (fun h => by have := HPQ.out; omega) (fun h => h.1.1.elim (fun h3 => h3.1.1.elim (fun f => f) (fun h2 => by have := HPQ.out; have := HL2.out; have := HS3.out; omega)) (fun h2 => by have := HPQ.out; have := HL2.out; have := HS3.out; have := HS4.out; omega)))
    (fun k hk h => h.elim (fun h => hk.1.1.elim (fun f => f) (fun h2 => by have := HL2.out; omega)) (fun h => h.1.1.elim (fun h3 => h3.1.1.elim (fun f => f) (fun h2 => by have := hk.1.2; omega)) (fun h2 => by have := hk.1.2; have := HS4.out; omega))))
  have HRw6 := Aside0.mk (Kd.R_keptB HRw5.out hk6 (fun k hk h => h.elim (fun h => by have := HL2.out; have := hk.1.1.1; omega) (fun h => h.1.1.elim (fun h3 => h3.1.1.elim (fun f => f) (fun h2 => by have := hk.1.1.1; omega)) (fun h2 => by have := hk.1.1.1; have := HS4.out; omega))))
  have HR16 := Aside0.mk (Kd.R_keptB HR15.out hk6 (fun k hk h => h.elim (fun h => by have := HL2.out; have := HS3.out; have := hk.1.1; omega) (fun h => h.1.1.elim (fun h3 => hk.1.2 h3.2) (fun h2 => by have := hk.1.1; omega))))
  have HR26 := Aside0.mk (Kd.R_keptB HR5.out hk6 (fun k hk h => h.elim (fun h => by have := HL2.out; have := HS3.out; have := HS4.out; have := hk.1; omega) (fun h => hk.2 h.2)))
  have HB6 := Aside0.mk hb6
  have HR6 := Aside0.mk hR6
  clear hm2 hs2 hx6 hR6 hQ6 hb6 hk6 HV5 HP5 HQ5 HRw5 HR15 HR5
  obtain ⟨n1', o1, r1⟩ := R_cells HR16.out
  obtain ⟨n2', o2, r2⟩ := R_cells HR26.out
  obtain ⟨n3', o3, r3⟩ := R_cells HR6.out
  obtain ⟨A4', c4', e4', f4a, f4b, f4c⟩ := own_form o1
  obtain ⟨A5', c5', e5', f5a, f5b, f5c⟩ := own_form o2
  obtain ⟨A6', c6', e6', f6a, f6b, f6c⟩ := own_form o3
  injection e4' with e4a _ e4b; subst e4a; subst e4b
  injection e5' with e5a _ e5b; subst e5a; subst e5b
  injection e6' with e6a _ e6b; subst e6a; subst e6b
  have HO1 := Aside0.mk (And.intro r1 (And.intro f4a (And.intro f4b f4c)))
  have HO2 := Aside0.mk (And.intro r2 (And.intro f5a (And.intro f5b f5c)))
  have HO3 := Aside0.mk (And.intro r3 (And.intro f6a (And.intro f6b f6c)))
  have HALL := Aside0.mk (show Xw = (X1 ++ X2) ++ X3 by rw [← HXw.out, HX3.out, HX2.out, HX1.out])
  have HCNT := Aside0.mk (show X1.length + X2.length + X3.length ≤ 6000 by have h1 := parse_count b; rw [HXw.out, HALL.out, List.length_append, List.length_append] at h1; have := HN.out; omega)
  clear o1 o2 o3 r1 r2 r3 f4a f4b f4c f5a f5b f5c f6a f6b f6c
  go_wp2_with (first | ((with_reducible refine gate_builtin (b := .append) (xs := #[.tmp 73, .tmp 74]) rfl ?_); at_builtin; refine cmds_append_row w6.heap.size rfl (.tmp 73) (.tmp 74) rfl _ 0 X1.length c4 [] n1' A4 rfl rfl (own0 w6) HO1.out.2.2.1 HO1.out.2.1 (fun ad hA j u hj => cell_later (below_alloc (Below.refl _ _) _) (HO1.out.2.2.2 ad hA j u hj)) (reps_one HO1.out.1) (by simp) (by have := HCNT.out; omega) ?_; intro v7 w7 ho7 hb7; rw [Nat.zero_add, List.nil_append] at ho7; obtain ⟨A7, c7, e7', _⟩ := own_form ho7; subst e7'; have HO7 := Aside0.mk ho7; have HB7 := Aside0.mk ((below_alloc (Below.refl w6.heap.size w6) _).trans hb7); clear ho7 hb7) | ((with_reducible refine gate_builtin (b := .append) (xs := #[.tmp 75, .tmp 76]) rfl ?_); at_builtin; refine cmds_append_row w6.heap.size rfl (.tmp 75) (.tmp 76) rfl _ X1.length X2.length c5 n1' n2' A5 rfl rfl HO7.out HO2.out.2.2.1 HO2.out.2.1 (fun ad hA j u hj => cell_later HB7.out (HO2.out.2.2.2 ad hA j u hj)) (reps_one HO2.out.1) HB7.out.size (by have := HCNT.out; omega) ?_; intro v8 w8 ho8 hb8; obtain ⟨A8, c8, e8', _⟩ := own_form ho8; subst e8'; have HO8 := Aside0.mk ho8; have HB8 := Aside0.mk (HB7.out.trans hb8); clear ho8 hb8) | ((with_reducible refine gate_builtin (b := .append) (xs := #[.tmp 77, .tmp 78]) rfl ?_); at_builtin; refine cmds_append_row w6.heap.size rfl (.tmp 77) (.tmp 78) rfl _ (X1.length + X2.length) X3.length c6 (n1' ++ n2') n3' A6 rfl rfl HO8.out HO3.out.2.2.1 HO3.out.2.1 (fun ad hA j u hj => cell_later HB8.out (HO3.out.2.2.2 ad hA j u hj)) (reps_one HO3.out.1) HB8.out.size (by have := HCNT.out; omega) ?_; intro v9 w9 ho9 hb9; rw [show X1.length + X2.length + X3.length = Xw.length by rw [HALL.out, List.length_append, List.length_append]] at ho9; obtain ⟨A9, c9, e9, hl9, hC9⟩ := C_of_own (xs := Xw) ho9 (by rw [HALL.out]; exact Kd.reps_append (Kd.reps_append HO1.out.1 HO2.out.1) HO3.out.1) (HB8.out.trans hb9); subst e9; have HL9 := Aside0.mk hl9; have HC9 := Aside0.mk hC9; have HB9 := Aside0.mk (HB8.out.trans hb9); clear ho9 hb9 hl9 hC9))
  obtain ⟨KK, hKK⟩ := (sameC_refl Xw (by have := HCNT.out; rw [HALL.out, List.length_append, List.length_append]; omega) (by rw [← HXw.out]; exact parse_small b)).rounds
  have hw6 := Kd.R_reads' HRw6.out
  refine (intaglioref19_SameCommands.calls KK Aw cw Xw A9 c9 Xw true w9 (Kd.C_below hw6.2.2 HB9.out) hw6.2.1 HC9.out HL9.out hKK).mono ?_
  clear hKK hw6
  rintro e w10 ⟨rfl, hd10⟩
  have HB10 := Aside0.mk (below_then HB9.out HB9.out.size hd10.below)
  have HBw := Aside0.mk (below_then HB6.out HB6.out.size HB10.out)
  have HP10 := Aside0.mk (IsP_below HP6.out HB10.out)
  have HQ10 := Aside0.mk (IsP_below HQ6.out HB10.out)
  clear hd10
  go_wp2_with fail
  refine (resp_Parser_Left.callsP _ gp _ _ _ _ _ HP10.out).mono ?_
  rintro e w11 ⟨rfl, rfl⟩
  go_wp2_with fail
  refine (resp_Parser_Left.callsP _ gq _ _ _ _ _ HQ10.out).mono ?_
  rintro e w12 ⟨rfl, rfl⟩
  go_wp2_with fail
  refine (awake_calls _ (Vb.Num.grown HG.out HBw.out)).mono ?_
  rintro e w13 ⟨rfl, hb13⟩
  have HB13 := Aside0.mk (below_then HBw.out HBw.out.size hb13)
  clear hb13
  go_wp2
  go_ret
  exact ⟨rfl, HB13.out⟩
end Go.Proofs.YtbfbmgkgaokecaaDoor.PS
