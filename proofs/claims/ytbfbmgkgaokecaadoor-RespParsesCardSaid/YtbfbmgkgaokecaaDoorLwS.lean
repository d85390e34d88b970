/- Layer 19: RespParses 4, by hand. -/
import Derived.Test.YtbfbmgkgaokecaaDoorGvV
import Derived.Test.YtbfbmgkgaokecaaDoorPlR3
namespace Go.Proofs.YtbfbmgkgaokecaaDoor.PS
open Go.RowKit Go.Proofs.YtbfbmgkgaokecaaDoorW.PrintWords Go.Proofs.YtbfbmgkgaokecaaDoorW.PrintLast Go.Proofs.YtbfbmgkgaokecaaDoorW.PrintMore
attribute [local go_sem] max2_int min2_int max_two min_two max_three min_three max_four min_four
set_option linter.unusedVariables false
set_option linter.unusedSimpArgs false

theorem IsP_grown {W w1 : World} {base g : Nat} {ok : Nat → Prop} {hd : List Int} {e : Int} {m : Bool} {row : Option Nat} (h : IsP W base g ok hd e m) (hg : W.grownBy w1 row) (h1 : some g ≠ row) (h2 : ∀ k, ok k → some k ≠ row) : IsP w1 base g ok hd e m := by
  obtain ⟨v, a, b, c⟩ := h
  exact ⟨v, blk_grown a hg h1, b, Kd.Q_grown c hg h2⟩
/-- A piece of what came in, where it is read. -/
theorem piece_at {w : World} {A0 : Option Addr} {ps : List (List UInt8)} (h : Kd.C (Kd.slice 5 (Kd.int .u8)) w A0 ps.length (ps.map ints)) (i : Nat) (hi : i < ps.length) :
    ∃ (ad : Addr) (A : Option Addr) (c : Nat), A0 = some ad ∧ ps[i].length ≤ c ∧ Kd.C (Kd.int .u8) w A ps[i].length (ints ps[i]) ∧ w.cell? (ad.add i) = some (.slice A ps[i].length c) := by
  obtain ⟨ad, cs, hA, hcl, ⟨A, c, hcs, hl, hC⟩, hcell⟩ := ReadsRow.get_ h [] (i : Int) (by omega) (by omega)
  have hx : (ps.map ints).getD (i : Int).toNat [] = ints ps[i] := by
    rw [Int.toNat_natCast, List.getD_eq_getElem?_getD, List.getElem?_map, List.getElem?_eq_getElem hi]; rfl
  rw [hx, ints_length] at hcs hl hC
  subst hcs
  have hc0 := hcell 0 _ rfl
  rw [Int.toNat_natCast] at hc0
  exact ⟨ad, A, c, hA, hl, hC, by rw [← hc0]; congr 2; exact (Nat.mul_one i).symm⟩
theorem C_V2 {w : World} {A : Option Addr} {c : Nat} {l : List UInt8} (h : Kd.C (Kd.int .u8) w A l.length (ints l)) (hc : l.length ≤ c) (base : Nat) : Kd.V (Kd.int .u8) 5 w base (fun k => k < w.heap.size) (.slice A l.length c) (ints l) := by
  have := C_V (c := c) (xs := ints l) (A := A) (W := w) (by rw [ints_length]; exact h) (by rw [ints_length]; exact hc) base
  rw [ints_length] at this
  exact this
theorem Q_apart {W w1 : World} {base g : Nat} {okA okP : Nat → Prop} {v : Value} {xs : List Int} (h : Kd.Q (Kd.int .u8) 5 W base okA v xs) (hk : Kept W w1 (fun k => k = g ∨ okP k)) (hd : ∀ k, okA k → k ≠ g ∧ ¬ okP k) : Kd.Q (Kd.int .u8) 5 w1 base okA v xs :=
  Kd.Q_kept h hk (fun k hk h => h.elim (hd k hk).1 (hd k hk).2)
set_option maxHeartbeats 8000000 in
set_option maxRecDepth 100000 in
theorem RespParses_walk {w : World} (A0 : Option Addr) (c0 : Nat) (ps : List (List UInt8)) (h0 : Kd.C (Kd.slice 5 (Kd.int .u8)) w A0 ps.length (ps.map ints)) (hc0 : ps.length ≤ c0) (hz : ∀ p ∈ ps, p.length ≤ 140737488351232) (hG : Vb.Num w) :
    Calls Tryd.prog 4 #[.slice A0 ps.length c0] w fun e w' => e = .returned (.bool true) ∧ Below w.heap.size w w' := by
  have HG := Aside0.mk hG
  have HR0 := Aside0.mk h0
  have HC0 := Aside0.mk hc0
  have HZ := Aside0.mk hz
  clear hG h0 hc0 hz
  by_cases q1 : 40 < (ps.length : Int)
  · have b1 : decide (40 < (ps.length : Int)) = true := decide_eq_true q1
    have b2 := eq_true q1
    clear q1
    go_enter Tryd.func4, Tryd.ntmps4
    go_wp2_with fail
    refine (awake_calls _ HG.out).mono ?_
    rintro e w1 ⟨rfl, hb⟩
    go_wp2
    go_ret
    exact ⟨rfl, hb⟩
  have b1 : decide (40 < (ps.length : Int)) = false := decide_eq_false q1
  have b2 := eq_false q1
  have HN := Aside0.mk (show ps.length ≤ 40 by omega)
  clear q1
  go_enter Tryd.func4, Tryd.ntmps4
  go_wp2_with fail
  refine (resp_New.callsP _).mono ?_
  rintro e w1 ⟨g, rfl, hg1, hgl1, hb1⟩
  have HB1 := Aside0.mk hb1
  have HP1 := Aside0.mk (show IsP w1 w.heap.size g (fun _ => False) (ints (parse []).2.2) (parse []).2.1 true by rw [parse_nil]; exact ⟨_, hg1, hgl1, Kd.Q_nil _ _ _ _ _⟩)
  have HL1 := Aside0.mk (blk_lt hg1)
  clear hg1 hb1
  have HGl := Aside0.mk hgl1
  clear hgl1
  go_wp2_with fail
  go_loopg [4, 5, 6] ps.length (fun gn v4 v5 v6 W' => ∃ (i : Nat) (s : List UInt8) (okA okP : Nat → Prop), v6 = .int .i64 (i : Int) ∧ v5 = .int .i64 ((parse s).1.length : Int) ∧ Aside0 (i + gn = ps.length) ∧ Aside0 (s.length ≤ 6000) ∧ Aside0 (Kd.Q (Kd.int .u8) 5 W' w.heap.size okA v4 (ints s)) ∧
    Aside0 (IsP W' w.heap.size g okP (ints (parse s).2.2) (parse s).2.1 true) ∧ Aside0 (∀ k, okA k → k ≠ g ∧ ¬ okP k) ∧ Aside0 (g < W'.heap.size ∧ ∀ k, okP k → k < W'.heap.size) ∧ Aside0 (Below w.heap.size w W'))
  case atStart => exact ⟨0, [], fun _ => False, fun _ => False, rfl, by rw [parse_nil]; rfl, ⟨by omega⟩, ⟨Nat.zero_le _⟩, ⟨Kd.Q_nil _ _ _ _ _⟩, HP1, ⟨fun _ h => h.elim⟩, ⟨HL1.out, fun _ h => h.elim⟩, HB1⟩
  case round =>
    clear HP1 HL1 HB1
    obtain ⟨i, s, okA, okP, rfl, rfl, HI, HS, HA, HP, HD, HPB, HB⟩ := hrel
    cases gk with
    | zero =>
      have x1 : decide (i < ps.length) = false := decide_eq_false (by have := HI.out; omega)
      have x2 : (i < ps.length) = False := eq_false (by have := HI.out; omega)
      go_wp2_with fail
      refine (awake_calls _ (Vb.Num.grown HG.out HB.out)).mono ?_
      rintro e w2 ⟨rfl, hb⟩
      have HB2 := Aside0.mk (below_then HB.out HB.out.size hb)
      go_wp2
      go_ret
      exact ⟨rfl, HB2.out⟩
    | succ gk =>
      have hil : i < ps.length := by have := HI.out; omega
      have x1 : decide (i < ps.length) = true := decide_eq_true hil
      have x2 := eq_true hil
      obtain ⟨ad, Ai, ci, hA0, hli, hCi, hcell⟩ := piece_at HR0.out i hil
      subst hA0
      have hzp := HZ.out ps[i] (List.getElem_mem hil)
      obtain ⟨p, hp⟩ : ∃ p, ps[i] = p := ⟨_, rfl⟩
      rw [hp] at hli hCi hcell hzp
      have HZp := Aside0.mk hzp
      have HCell := Aside0.mk hcell
      have hcw := (HB.out.cell (World.block_lt_of_cell? w _ hcell)).trans hcell
      have HCi := Aside0.mk hCi
      have HV := Aside0.mk (Kd.V_below (Kd.V_bound (C_V2 hCi hli w.heap.size)) HB.out)
      have HH := Aside0.mk hil
      obtain ⟨A4, c4, e4, _⟩ := Kd.Q_slice HA.out
      subst e4
      clear hil hli hCi hcell hp hzp
      have ew : wrap64 ((p.length : Int) + (s.length : Int)) = (p.length : Int) + (s.length : Int) := wI (by omega) (by have := HZp.out; have := HS.out; omega)
      have el : (ints s).length = s.length := ints_length s
      by_cases q2 : 6000 < (p.length : Int) + (s.length : Int)
      · have y1 : decide (6000 < (p.length : Int) + (s.length : Int)) = true := decide_eq_true q2
        have y2 := eq_true q2
        clear q2
        go_wp2_with fail
        refine (awake_calls _ (Vb.Num.grown HG.out HB.out)).mono ?_
        rintro e w2 ⟨rfl, hb⟩
        have HB2 := Aside0.mk (below_then HB.out HB.out.size hb)
        go_wp2
        go_ret
        exact ⟨rfl, HB2.out⟩
      · have y1 : decide (6000 < (p.length : Int) + (s.length : Int)) = false := decide_eq_false q2
        have y2 := eq_false q2
        have HSP := Aside0.mk (show s.length + p.length ≤ 6000 by clear ew; omega)
        clear q2
        go_wp2_with (first | ((with_reducible refine gate_builtin (b := .append) (xs := #[.tmp 31, .tmp 35]) rfl ?_); at_builtin; refine Q_append_row w.heap.size rfl (.tmp 31) (.tmp 35) 23 5 rfl Tryd.underlying23 info5 _ (ints s) (ints p) Ai p.length ci (fun k_ => okA k_ ∨ wr.heap.size ≤ k_) rfl rfl ?aQ ?aR ?aF ?aB ?aL ?_; (case aQ => exact Kd.Q_mono HA.out (fun _ h => .inl h)); (case aR => exact Kd.C_below HCi.out HB.out); (case aF => exact fun k_ h => .inr h); (case aB => exact HB.out.size); (case aL => rw [ints_length]; have := HSP.out; omega); intro v1 w1 hq hgr hat; rw [← ints_append] at hq; obtain ⟨Y, hY⟩ : ∃ Y, s ++ p = Y := ⟨_, rfl⟩; rw [hY] at hq; have HY := Aside0.mk hY; clear hY; have ely : (ints Y).length = Y.length := ints_length Y; obtain ⟨A5, c5, e5, _⟩ := Kd.Q_slice hq; subst e5; have HA1 := Aside0.mk (Kd.Q_mono (Kd.Q_bound hq) (ok' := fun k => (okA k ∨ wr.heap.size ≤ k) ∧ k < w1.heap.size) (fun k hk => ⟨hk.1, hk.2.2.1⟩)); have HP1 := Aside0.mk (IsP_grown HP.out hgr (fun h => (HD.out g (Kd.Q_ok HA.out g h.symm)).1 rfl) (fun k hk h => (HD.out k (Kd.Q_ok HA.out k h.symm)).2 hk)); have HB1 := Aside0.mk (HB.out.grown hgr HB.out.size (Kd.Q_base HA.out)); have hcw1 := (HB1.out.cell (World.block_lt_of_cell? w _ HCell.out)).trans HCell.out; have HS1 := Aside0.mk hgr.size; have HV1 := Aside0.mk (Kd.V_below (Kd.V_bound (Kd.V_bound (C_V2 HCi.out (Kd.V_at HV.out).2.1 w.heap.size))) HB1.out); clear hq hgr hat))
        have f2 := feed_seen w.heap.size g okP _ s p Ai ci w w1 HG.out HB1.out HB1.out.size rfl HP1.out (Kd.V_map HV1.out (fun _ hf => hf)) (by have := HSP.out; omega)
        rw [HY.out] at f2
        refine f2.mono ?_
        clear f2
        rintro e w2 ⟨v2, N, rfl, hx2, hR2, hP2, hb2, hk2⟩
        obtain ⟨E, hE⟩ : ∃ E, (parse Y).2.1 = E := ⟨_, rfl⟩
        rw [hE]
        obtain ⟨A2, c2, rfl, hl2, hC2⟩ := Kd.R_reads hR2
        have HA2 := Aside0.mk (Q_apart HA1.out hk2 (fun k hk => hk.1.elim (fun h => HD.out k h) (fun h => ⟨fun e => by have := HPB.out.1; omega, fun h2 => by have := HPB.out.2 k h2; omega⟩)))
        have HD2 := Aside0.mk (show ∀ k, ((okA k ∨ wr.heap.size ≤ k) ∧ k < w1.heap.size) → k ≠ g ∧ ¬ (((okP k ∨ w1.heap.size ≤ k) ∧ k < w2.heap.size) ∧ T5 w2 k) from fun k hk => ⟨hk.1.elim (fun h => (HD.out k h).1) (fun h e => by have := HPB.out.1; omega), fun h2 => h2.1.1.elim (fun h3 => hk.1.elim (fun h => (HD.out k h).2 h3) (fun h => by have := HPB.out.2 k h3; omega)) (fun h3 => by have := hk.2; omega)⟩)
        have HX2 := Aside0.mk hx2
        have HP2 := Aside0.mk hP2
        have HB2 := Aside0.mk hb2
        have HC2 := Aside0.mk hC2
        have HL2 := Aside0.mk hl2
        have HE := Aside0.mk hE
        have HPB2 := Aside0.mk (show g < w2.heap.size ∧ ∀ k, ((okP k ∨ w1.heap.size ≤ k) ∧ k < w2.heap.size) ∧ T5 w2 k → k < w2.heap.size from ⟨by have := HPB.out.1; have := HS1.out; have := hk2.1; omega, fun k hk => hk.1.2⟩)
        have hcv : ∀ W, Below w2.heap.size w2 W → Sem.run Tryd.prog (convert 23 9 (Value.slice A5 (ints Y).length c5)) W = Result.ok (Value.string ⟨Y.toArray⟩) W := by
          intro W hW
          have := Kd.C_string (P := Tryd.prog) (A := A5) (c := c5) Tryd.underlying23 Tryd.underlying5 Tryd.underlying9 (Kd.C_below (Kd.Q_reads' HA2.out).2.2 hW)
          rw [str_ints] at this
          exact this
        have hcv2 := hcv w2 (Below.refl _ _)
        rw [ely] at hcv2
        obtain ⟨K, hK⟩ := (rparse_ev Y (by rw [← HY.out, List.length_append]; have := HSP.out; omega)).rounds
        have HK := Aside0.mk hK
        clear hcv hx2 hR2 hP2 hb2 hk2 hC2 hl2 hE hK HA1 HP1 HB1 HV1 hcw hcw1
        go_wp2_with fail
        refine (intaglioref19_Parse.calls K ⟨Y.toArray⟩ _ _ _ w2 HK.out).mono ?_
        rintro e w3 ⟨v0, rfl, hN3, hb3⟩
        rw [HE.out]
        obtain ⟨A3, c3, rfl, hl3, hC3⟩ := Kd.N_reads hN3
        obtain ⟨X, hX⟩ : ∃ X, (parse Y).1 = X := ⟨_, rfl⟩
        rw [hX] at hl3 hC3 ⊢
        obtain ⟨Lf, hLf⟩ : ∃ L, (parse Y).2.2 = L := ⟨_, rfl⟩
        rw [hLf]
        have HXX := Aside0.mk (show X = (parse s).1 ++ N by rw [← hX]; exact HX2.out)
        have HX := Aside0.mk hX
        have HLf := Aside0.mk hLf
        have HB3 := Aside0.mk hb3
        have HC3 := Aside0.mk hC3
        have HL3 := Aside0.mk hl3
        clear hN3 hb3 hl3 hC3 hX hLf
        go_wp2_with fail
        obtain ⟨T, hT⟩ : ∃ T, (parse s).1.length = T := ⟨_, rfl⟩
        rw [hT]
        obtain ⟨W4, hW4⟩ : ∃ W, w3.alloc (.cells #[.slice A3 X.length c3, .int .i64 E, .int .i64 (Lf.length : Int)] 37) = W := ⟨_, rfl⟩
        rw [hW4]
        have hB4 : Below w3.heap.size w3 W4 := by rw [← hW4]; exact below_alloc (Below.refl _ _) _
        have hheap : W4.heap[w3.heap.size]? = some (.cells #[.slice A3 X.length c3, .int .i64 E, .int .i64 (Lf.length : Int)] 37 (0, 0)) := by rw [← hW4]; exact heap_alloc_new w3 _
        have hx0 : W4.cell? ⟨w3.heap.size, 0, none⟩ = some (.slice A3 X.length c3) := (blk_cell hheap 0).trans rfl
        have hx1 : W4.cell? ⟨w3.heap.size, 1, none⟩ = some (.int .i64 E) := (blk_cell hheap 1).trans rfl
        have hx2 : W4.cell? ⟨w3.heap.size, 2, none⟩ = some (.int .i64 (Lf.length : Int)) := (blk_cell hheap 2).trans rfl
        have HB24 := Aside0.mk (below_then HB3.out HB3.out.size hB4)
        have hXl : X.length = T + N.length := by rw [HXX.out, List.length_append, hT]
        have hXd : X.drop T = N := by rw [HXX.out]; exact List.drop_left' hT
        obtain ⟨AT, hAT⟩ : ∃ A, (if c3 = T then A3 else Option.map (fun x => x.add T) A3) = A := ⟨_, rfl⟩
        have hCT : Kd.C (Kd.slice 9 Kd.string) W4 AT N.length N := by
          have := Kd.C_drop (m := T) (Kd.C_below HC3.out hB4) (by omega) HL3.out
          rw [hXd] at this
          have e1 : T * (Kd.slice 9 Kd.string).sz = T := Nat.mul_one T
          rw [e1, hAT] at this
          exact this
        have hsub : X.length - T = N.length := by omega
        obtain ⟨KS, hKS⟩ := (sameC_refl N (by have h1 := parse_count Y; rw [HX.out] at h1; have h2 := HSP.out; have h3 := congrArg List.length HY.out; rw [List.length_append] at h3; omega) (fun c hc => parse_small Y c (by rw [HX.out, HXX.out]; exact List.mem_append_right _ hc))).rounds
        have CS := Aside0.mk (show ∀ n, Calls Tryd.prog 22 #[.slice A2 N.length c2, .slice AT (X.length - T) (c3 - T)] (W4.drewN n) fun e w' => e = .returned (.bool true) ∧ ∃ m, w' = (W4.drewN n).drewN m by
          intro n
          rw [hsub]
          refine (intaglioref19_SameCommands.calls KS A2 c2 N AT (c3 - T) N true (W4.drewN n) (Kd.C_drewN (Kd.C_below HC2.out HB24.out) n) HL2.out (Kd.C_drewN hCT n) (by have := HL3.out; omega) hKS).mono ?_
          rintro e w' ⟨rfl, hd⟩
          exact ⟨rfl, hd.out⟩)
        have CL := Aside0.mk (show ∀ n, Calls Tryd.prog 23 #[.pointer (some ⟨g, 0, none⟩)] (W4.drewN n) fun e w' => e = .returned (.int .i64 (Lf.length : Int)) ∧ w' = W4.drewN n by
          intro n
          have hP := IsP_below HP2.out (pw_below_drewN HB24.out n)
          rw [HLf.out] at hP
          refine (resp_Parser_Left.callsP _ g _ _ _ _ _ hP).mono ?_
          rintro e w' ⟨rfl, rfl⟩
          rw [ints_length]
          exact ⟨rfl, rfl⟩)
        have z1 : decide (X.length < T) = false := decide_eq_false (by omega)
        have z2 : (X.length < T) = False := eq_false (by omega)
        have z3 : ((T : Int) ≤ (X.length : Int)) = True := eq_true (by omega)
        have z4 : (T ≤ X.length) = True := eq_true (by omega)
        have HT := Aside0.mk hT
        have HL4 := Aside0.mk (show w3.heap.size < W4.heap.size from blk_lt hheap)
        clear hT hW4 hB4 hheap hXl hXd hCT hsub hKS hcv2
        go_quiet (first | (go_at_call 22; exact Calls.quiet_of (CS.out _)) | (go_at_call 23; exact Calls.quiet_of_same (CL.out _)))
        have HB5 := Aside0.mk (pw_below_drewN HB24.out nq)
        go_wp2_with fail
        have ei : wrap64 ((i : Int) + 1) = ((i + 1 : Nat) : Int) := by rw [wI (by omega) (by have := HN.out; have := HH.out; omega)]; rfl
        rw [ei]
        go_roundg gk
        case rel =>
          refine ⟨i + 1, Y, _, _, rfl, ?_, ⟨by have := HI.out; omega⟩, ⟨by rw [← HY.out, List.length_append]; have := HSP.out; omega⟩, ⟨?_⟩, ⟨IsP_below HP2.out HB5.out⟩, HD2, ⟨by have := HPB2.out.1; have := HB5.out.size; omega, fun k hk => by have := HPB2.out.2 k hk; have := HB5.out.size; omega⟩, ⟨below_then HB2.out HB2.out.size HB5.out⟩⟩
          · rw [HX.out]
          · have h := Kd.Q_below HA2.out HB5.out
            rw [ely] at h
            exact h
        case measure => exact Nat.lt_succ_self _
end Go.Proofs.YtbfbmgkgaokecaaDoor.PS
