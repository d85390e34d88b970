/- Layer 19: RespCommands 3, by hand. -/
import Derived.Test.YtbfbmgkgaokecaaDoorGvU
import Derived.Test.YtbfbmgkgaokecaaDoorPlB
namespace Go.Proofs.YtbfbmgkgaokecaaDoor.PS
open Go.RowKit Go.Proofs.YtbfbmgkgaokecaaDoorW.PrintWords Go.Proofs.YtbfbmgkgaokecaaDoorW.PrintLast Go.Proofs.YtbfbmgkgaokecaaDoorW.PrintMore
attribute [local go_sem] max2_int min2_int max_two min_two max_three min_three max_four min_four
set_option linter.unusedVariables false
set_option linter.unusedSimpArgs false

theorem sm_step (l : List ByteArray) (i : Nat) (h : i < l.length) : sm (l.take (i + 1)) = sm (l.take i) + min l[i].size 6000 := by
  rw [List.take_succ_eq_append_getElem h, sm_append]
  simp [sm]
def mayB (l : List ByteArray) (i : Nat) : Bool := decide (1 ≤ l.length) && (decide (l.length ≤ 40) && (l.take i).all fun a => decide (a.size ≤ 512))
theorem may0_cases (l : List ByteArray) : (decide (1 ≤ (l.length : Int)) = true ∧ (1 ≤ (l.length : Int)) = True ∧ decide ((l.length : Int) ≤ 40) = true ∧ ((l.length : Int) ≤ 40) = True ∧ Aside0 (true = mayB l 0)) ∨
    (decide (1 ≤ (l.length : Int)) = true ∧ (1 ≤ (l.length : Int)) = True ∧ decide ((l.length : Int) ≤ 40) = false ∧ ((l.length : Int) ≤ 40) = False ∧ Aside0 (false = mayB l 0)) ∨
    (decide (1 ≤ (l.length : Int)) = false ∧ (1 ≤ (l.length : Int)) = False ∧ Aside0 (false = mayB l 0)) := by
  by_cases m1 : 1 ≤ (l.length : Int)
  · by_cases m2 : (l.length : Int) ≤ 40
    · exact .inl ⟨decide_eq_true m1, eq_true m1, decide_eq_true m2, eq_true m2, ⟨by unfold mayB; rw [decide_eq_true (by omega), decide_eq_true (by omega)]; rfl⟩⟩
    · exact .inr (.inl ⟨decide_eq_true m1, eq_true m1, decide_eq_false m2, eq_false m2, ⟨by unfold mayB; rw [decide_eq_true (by omega), decide_eq_false (by omega)]; rfl⟩⟩)
  · exact .inr (.inr ⟨decide_eq_false m1, eq_false m1, ⟨by unfold mayB; rw [decide_eq_false (by omega)]; rfl⟩⟩)
theorem may_step (l : List ByteArray) (i : Nat) (h : i < l.length) : mayB l (i + 1) = (mayB l i && decide ((l[i].size : Int) ≤ 512)) := by
  unfold mayB
  rw [List.take_succ_eq_append_getElem h, List.all_append, Bool.and_assoc, Bool.and_assoc]
  congr 2
  congr 1
  simp only [List.all_cons, List.all_nil, Bool.and_true]
  exact decide_eq_decide.2 (by omega)
theorem may_all {l : List ByteArray} (h : mayB l l.length = true) : 1 ≤ l.length ∧ l.length ≤ 40 ∧ ∀ t ∈ l, t.size ≤ 512 := by
  unfold mayB at h
  rw [List.take_length, Bool.and_eq_true, Bool.and_eq_true, decide_eq_true_eq, decide_eq_true_eq, List.all_eq_true] at h
  exact ⟨h.1, h.2.1, fun t ht => of_decide_eq_true (h.2.2 t ht)⟩
theorem may_short {l : List ByteArray} {L m : List UInt8} (h : mayB l l.length = true) (hL : cmdL l = L) (hm : m.length ≤ 6000) : (L ++ m).length ≤ 900000000000 := by
  obtain ⟨_, h2, h3⟩ := may_all h
  have h1 := cmdL_len l (fun a ha => by have := h3 a ha; omega) (by omega)
  have key : ∀ l : List ByteArray, (∀ t ∈ l, t.size ≤ 512) → sz l ≤ 512 * l.length := by
    intro l
    induction l with
    | nil => intro _; simp [sz]
    | cons a l ih =>
      intro h
      have := h a List.mem_cons_self
      have := ih (fun x hx => h x (List.mem_cons_of_mem _ hx))
      simp only [sz, List.length_cons]
      omega
  have := key l h3
  rw [List.length_append, ← hL]
  omega
theorem cmd_far {l : List ByteArray} {L m : List UInt8} (hL : cmdL l = L) (h60 : l.length ≤ 60) (hs : sm l ≤ 6000) (hz : ∀ a ∈ l, a.size ≤ 140737488351232) (hm : m.length ≤ 6000) (hbig : ¬ (L ++ m).length ≤ 900000000000) : (cmd (L ++ m)).2.2 ≠ 4 ∧ (cmd (L ++ m)).2.2 ≠ 0 := by
  have h1 := cmdL_len l (fun a ha => by have := hz a ha; omega) (by omega)
  rw [List.length_append, ← hL] at hbig
  rw [← hL]
  rcases sm_cases 140737488351232 (by decide) l hz hs with h2 | ⟨_, _, h3, h4⟩
  · omega
  · have hsz : 100000000000 ≤ sz l := by omega
    refine cmd_long l m (by omega) (fun t ht => (h4 t ht).imp id (fun h => by omega)) ?_
    have key : ∀ l : List ByteArray, 0 < sz l → ∃ t ∈ l, t.size ≠ 0 := by
      intro l
      induction l with
      | nil => intro h; simp [sz] at h
      | cons a l ih =>
        intro h
        by_cases ha : a.size = 0
        · simp only [sz, ha] at h
          obtain ⟨t, ht, h2⟩ := ih (by omega)
          exact ⟨t, List.mem_cons_of_mem _ ht, h2⟩
        · exact ⟨a, List.mem_cons_self, ha⟩
    obtain ⟨t, ht, h0⟩ := key l (by omega)
    exact ⟨t, ht, by rcases h4 t ht with h | h <;> omega⟩
theorem cmdL_bound {l : List ByteArray} (hz : ∀ a ∈ l, a.size ≤ 140737488351232) (h60 : l.length ≤ 60) (h : sm l ≤ 6000) : (cmdL l).length ≤ 140737488353000 := by
  have h1 := cmdL_len l (fun a ha => by have := hz a ha; omega) (by omega)
  rcases sm_cases 140737488351232 (by decide) l hz h with h2 | ⟨_, h2, _⟩ <;> omega
set_option maxHeartbeats 8000000 in
set_option maxRecDepth 100000 in
theorem RespCommands_walk {w : World} (A0 : Option Addr) (c0 : Nat) (l : List ByteArray) (h0 : Kd.C Kd.string w A0 l.length l) (hc0 : l.length ≤ c0) (hz : ∀ a ∈ l, a.size ≤ 140737488351232)
    (A1 : Option Addr) (c1 : Nat) (m : List UInt8) (h1 : Kd.C (Kd.int .u8) w A1 m.length (ints m)) (hc1 : m.length ≤ c1) (hG : Vb.Num w) :
    Calls Tryd.prog 3 #[.slice A0 l.length c0, .slice A1 m.length c1] w fun e w' => e = .returned (.bool true) ∧ Below w.heap.size w w' := by
  have HG := Aside0.mk hG
  have HR0 := Aside0.mk h0
  have HC0 := Aside0.mk hc0
  have HR1 := Aside0.mk h1
  have HC1 := Aside0.mk hc1
  have HZ := Aside0.mk hz
  clear hG h0 h1 hc0 hc1 hz
  go_enter Tryd.func3, Tryd.ntmps3
  go_wp2_with fail
  go_loopg [5, 6] 60 (fun gn v5 v6 w' => ∃ (i : Nat) (s : Int), v5 = .int .i64 s ∧ v6 = .int .i64 (i : Int) ∧ Aside0 (i + gn = 60) ∧ Aside0 (i ≤ l.length) ∧ Aside0 (s = (sm (l.take i) : Int)) ∧ Aside0 (sm (l.take i) ≤ 6000) ∧ Aside0 (w' = w))
  case atStart => exact ⟨0, 0, rfl, rfl, ⟨rfl⟩, ⟨Nat.zero_le _⟩, ⟨rfl⟩, ⟨Nat.zero_le _⟩, ⟨rfl⟩⟩
  case round =>
    obtain ⟨i, s, rfl, rfl, HI, HIL, HS, HS6, HW⟩ := hrel
    have hw := HW.out.symm
    subst hw
    clear HW
    by_cases hi : i < l.length
    · by_cases h60 : i < 60
      · have d1 : decide (i < l.length) = true := decide_eq_true hi
        have d2 := eq_true hi
        have d3 : decide ((i : Int) < 60) = true := decide_eq_true (by omega)
        have d4 : ((i : Int) < 60) = True := eq_true (by omega)
        obtain ⟨ad102, e102, hx102_0⟩ := Kd.at_string HR0.out (i : Int) (by omega) (by omega)
        cases e102
        have hA : rdOf ByteArray.empty l (i : Int) = l[i] := by unfold rdOf; rw [Int.toNat_natCast, List.getD_eq_getElem?_getD, List.getElem?_eq_getElem hi]; rfl
        rw [Int.toNat_natCast, hA] at hx102_0
        obtain ⟨a, ha⟩ : ∃ a, l[i] = a := ⟨_, rfl⟩
        rw [ha] at hx102_0
        have HA := Aside0.mk (show sm (l.take (i + 1)) = sm (l.take i) + min a.size 6000 by rw [← ha]; exact sm_step l i hi)
        have HH := Aside0.mk hi
        have HH60 := Aside0.mk h60
        clear hi h60 ha hA
        have body : ∀ q : Int, q = (min a.size 6000 : Nat) → (wrap64 (s + q) = (sm (l.take (i + 1)) : Int)) := by
          intro q hq
          have e1 := HS.out; have e2 := HA.out; have e3 := HS6.out
          rw [wI (by omega) (by omega)]
          omega
        have BD := Aside0.mk body
        clear body
        by_cases hb : 6000 < (a.size : Int)
        · have f1 := eq_true hb
          have BQ := Aside0.mk (BD.out 6000 (by omega))
          have f2 : decide (6000 < (a.size : Int)) = true := decide_eq_true hb
          clear hb
          by_cases hs : 6000 < wrap64 (s + 6000)
          · have f3 := eq_true hs
            have f4 : decide (6000 < wrap64 (s + 6000)) = true := decide_eq_true hs
            clear hs
            go_wp2_with fail
            refine (awake_calls _ HG.out).mono ?_
            rintro e w1 ⟨rfl, hb⟩
            go_wp2
            go_ret
            exact ⟨rfl, hb⟩
          · have f3 := eq_false hs
            have f4 : decide (6000 < wrap64 (s + 6000)) = false := decide_eq_false hs
            have HS3 := Aside0.mk hs
            clear hs
            go_wp2_with fail
            cases gk with
            | zero => exact absurd HI.out (by have := HH60.out; omega)
            | succ gk =>
              go_roundg gk
              case measure => exact Nat.lt_succ_self _
              case rel => exact ⟨i + 1, _, rfl, by rw [wI (by omega) (by have := HH60.out; omega)]; rfl, ⟨by have := HI.out; omega⟩, ⟨by have := HH.out; omega⟩, BQ, ⟨by have e := BQ.out; have := HS3.out; rw [e] at this; omega⟩, ⟨rfl⟩⟩
        · have f1 := eq_false hb
          have BQ := Aside0.mk (BD.out (a.size : Int) (by omega))
          have f2 : decide (6000 < (a.size : Int)) = false := decide_eq_false hb
          clear hb
          by_cases hs : 6000 < wrap64 (s + (a.size : Int))
          · have f3 := eq_true hs
            have f4 : decide (6000 < wrap64 (s + (a.size : Int))) = true := decide_eq_true hs
            clear hs
            go_wp2_with fail
            refine (awake_calls _ HG.out).mono ?_
            rintro e w1 ⟨rfl, hb⟩
            go_wp2
            go_ret
            exact ⟨rfl, hb⟩
          · have f3 := eq_false hs
            have f4 : decide (6000 < wrap64 (s + (a.size : Int))) = false := decide_eq_false hs
            have HS3 := Aside0.mk hs
            clear hs
            go_wp2_with fail
            cases gk with
            | zero => exact absurd HI.out (by have := HH60.out; omega)
            | succ gk =>
              go_roundg gk
              case measure => exact Nat.lt_succ_self _
              case rel => exact ⟨i + 1, _, rfl, by rw [wI (by omega) (by have := HH60.out; omega)]; rfl, ⟨by have := HI.out; omega⟩, ⟨by have := HH.out; omega⟩, BQ, ⟨by have e := BQ.out; have := HS3.out; rw [e] at this; omega⟩, ⟨rfl⟩⟩
      · have d1 : decide (i < l.length) = true := decide_eq_true hi
        have d2 := eq_true hi
        have d3 : decide ((i : Int) < 60) = false := decide_eq_false (by omega)
        have d4 : ((i : Int) < 60) = False := eq_false (by omega)
        have q5 : 60 < (l.length : Int) := by have := HI.out; omega
        have d5 : decide (60 < (l.length : Int)) = true := decide_eq_true q5
        have d6 := eq_true q5
        clear hi h60 q5
        go_wp2_with fail
        refine (awake_calls _ HG.out).mono ?_
        rintro e w1 ⟨rfl, hb⟩
        go_wp2
        go_ret
        exact ⟨rfl, hb⟩
    · have d1 : decide (i < l.length) = false := decide_eq_false hi
      have d2 := eq_false hi
      have hil : i = l.length := by have := HIL.out; omega
      have q5 : ¬ 60 < (l.length : Int) := by have := HI.out; omega
      have d5 : decide (60 < (l.length : Int)) = false := decide_eq_false q5
      have d6 := eq_false q5
      have H60 := Aside0.mk (show l.length ≤ 60 by omega)
      have HSM := Aside0.mk (show sm l ≤ 6000 by have := HS6.out; rw [hil, List.take_length] at this; exact this)
      subst hil
      clear hi q5 HI HIL HS HS6
      by_cases q6 : 6000 < (m.length : Int)
      · have d7 : decide (6000 < (m.length : Int)) = true := decide_eq_true q6
        have d8 := eq_true q6
        clear q6
        go_wp2_with fail
        refine (awake_calls _ HG.out).mono ?_
        rintro e w1 ⟨rfl, hb⟩
        go_wp2
        go_ret
        exact ⟨rfl, hb⟩
      · have d7 : decide (6000 < (m.length : Int)) = false := decide_eq_false q6
        have d8 := eq_false q6
        have HM := Aside0.mk (show m.length ≤ 6000 by omega)
        have HCZ := Aside0.mk (cmdL_bound HZ.out H60.out HSM.out)
        clear q6
        go_wp2_with fail
        refine (resp_Command.calls A0 c0 l w HG.out HR0.out HC0.out (by have := HCZ.out; omega)).mono ?_
        rintro e w1 ⟨v1, rfl, hv1, hb1⟩
        obtain ⟨K, hK⟩ := (rcommand_ev l (by have := HCZ.out; omega) (by have := H60.out; omega)).rounds
        obtain ⟨L, hL⟩ : ∃ L, cmdL l = L := ⟨_, rfl⟩
        rw [hL] at hK hv1 HCZ
        have HK := Aside0.mk hK
        have HL := Aside0.mk hL
        obtain ⟨A2, c2, rfl⟩ := Bv_slice hv1
        have hcv : ∀ W, Below w1.heap.size w1 W → Sem.run Tryd.prog (convert 23 9 (Value.slice A2 L.length c2)) W = Result.ok (Value.string ⟨L.toArray⟩) W := by
          intro W hW
          have := Kd.C_string (P := Tryd.prog) (A := A2) (c := c2) Tryd.underlying23 Tryd.underlying5 Tryd.underlying9 (Bv_C (Bv_below hv1 hW)).2.2
          rw [str_ints] at this
          exact this
        have HV1 := Aside0.mk hv1
        have HB1 := Aside0.mk hb1
        have hcvn := fun n => hcv (w1.drewN n) (pw_below_drewN (Below.refl _ _) n)
        have hcv1 := hcv w1 (Below.refl _ _)
        have hcvd := hcv w1.drew (below_drew1 (Below.refl _ _))
        have HCV := Aside0.mk hcv
        have CR := Aside0.mk (show ∀ W, Below w1.heap.size w1 W → Calls Tryd.prog 17 #[.slice A0 l.length c0] W fun e w' => e = .returned (.string ⟨L.toArray⟩) ∧ Below w1.heap.size w1 w' by
          intro W hW
          refine (intaglioref19_Command.calls K A0 c0 l ⟨L.toArray⟩ W (Kd.C_below HR0.out (below_then hb1 hb1.size hW)) HC0.out hK).mono ?_
          rintro e w2 ⟨rfl, hb2⟩
          exact ⟨rfl, below_then hW hW.size hb2⟩)
        clear hv1 hb1 hK hL hcv
        go_wp2_with fail
        go_region_with (go_at_call 17; go_loud (refine (CR.out _ (by first | exact Below.refl _ _ | exact below_drew1 (Below.refl _ _))).mono ?_; rintro e w2 ⟨rfl, hb2⟩; have HB2 := Aside0.mk hb2; have hcv2 := HCV.out w2 hb2; clear hb2))
        all_goals (
          clear hcvn hcv1 hcvd hcv2 HCV CR HK
          have HB2' := Aside0.mk (below_then HB1.out HB1.out.size HB2.out)
          have HV2 := Aside0.mk (Bv_below HV1.out HB2.out)
          clear HB1 HB2 HV1
          rcases may0_cases l with ⟨e1, e2, e3, e4, HM0⟩ | ⟨e1, e2, e3, e4, HM0⟩ | ⟨e1, e2, HM0⟩)
        all_goals go_wp2_with fail
        all_goals (
          go_loopg [8, 9] l.length (fun gn v8 v9 w' => ∃ (i : Nat) (bb : Bool), v8 = .bool bb ∧ v9 = .int .i64 (i : Int) ∧ Aside0 (i + gn = l.length) ∧ Aside0 (bb = mayB l i) ∧ Aside0 (w' = w2))
          case atStart => exact ⟨0, _, rfl, rfl, ⟨by omega⟩, HM0, ⟨rfl⟩⟩
          case round =>
            clear HM0
            obtain ⟨i, bb, rfl, rfl, HI, HBB, HW⟩ := hrel
            have hw := HW.out.symm
            subst hw
            clear HW
            cases gk with
            | zero =>
              have x1 : decide (i < l.length) = false := decide_eq_false (by have := HI.out; omega)
              have x2 : (i < l.length) = False := eq_false (by have := HI.out; omega)
              go_wp2_with fail
              refine (resp_New.callsP _).mono ?_
              rintro e w3 ⟨g, rfl, hg, hgl, hb3⟩
              have HB3 := Aside0.mk (below_then HB2'.out HB2'.out.size hb3)
              have HV3 := Aside0.mk (Bv_below HV2.out hb3)
              have HP3 := Aside0.mk (show IsP w3 w.heap.size g (fun _ => False) (ints []) 0 true from ⟨_, hg, Nat.le_trans HB2'.out.size hgl, Kd.Q_nil _ _ _ _ _⟩)
              have HGL := Aside0.mk (fun k (hk : (Value.slice A2 L.length c2).ownBlock = some k) => show g ≠ k from by have := (Bv_lt HV2.out k hk).2; omega)
              clear hg hgl hb3 HB2' HV2
              go_wp2_with (first | ((with_reducible refine gate_builtin (b := .append) (xs := #[.tmp 74, .tmp 75]) rfl ?_); at_builtin; refine Bv_append_row w.heap.size rfl (.tmp 74) (.tmp 75) rfl (.slice A2 L.length c2) L m A1 c1 rfl rfl HV3.out ?aR ?aB ?aL ?_; (case aR => exact Kd.C_below HR1.out HB3.out); (case aB => exact HB3.out.size); (case aL => have := HCZ.out; have := HM.out; omega); intro v4 w4 hv4 hb4 hk4; obtain ⟨Y, hY⟩ : ∃ Y, Y = L ++ m := ⟨_, rfl⟩; rw [← hY] at hv4; have HY := Aside0.mk hY; clear hY; obtain ⟨A4, c4, e4⟩ := Bv_slice hv4; subst e4; have HB4 := Aside0.mk (HB3.out.trans hb4); have HV4 := Aside0.mk hv4; have HP4 := Aside0.mk (IsP_kept HP3.out hk4 (fun h => HGL.out _ h rfl) (fun _ h => h.elim)); clear hv4 hb4 hk4))
              have HLM := Aside0.mk (show Y.length ≤ 150000000000000 by have := HCZ.out; have := HM.out; rw [HY.out, List.length_append]; omega)
              by_cases hbig : Y.length ≤ 900000000000
              · refine (feed_calls w.heap.size g (fun _ => False) _ [] Y A4 c4 w w4 HG.out HB4.out HB4.out.size rfl HP4.out (Bv_V HV4.out _) (by rw [List.length_nil]; omega)).mono ?_
                rintro e w5 ⟨v5, rfl, hR5, hP5, hb5, hk5⟩
                rw [List.nil_append] at hR5
                rw [List.nil_append]
                obtain ⟨E, hE⟩ : ∃ E, (parse Y).2.1 = E := ⟨_, rfl⟩
                rw [hE]
                obtain ⟨X, hX⟩ : ∃ X, (parse Y).1 = X := ⟨_, rfl⟩
                rw [hX] at hR5
                obtain ⟨A5, c5, rfl, hl5, hC5⟩ := Kd.R_reads hR5
                have HB5 := Aside0.mk hb5
                clear hP5 hk5 hE hbig hb5 hR5
                cases bb with
                | false =>
                  clear hC5 hX hl5
                  go_wp2_with fail
                  refine (awake_calls _ (Vb.Num.grown HG.out HB5.out)).mono ?_
                  rintro e w6 ⟨rfl, hb6⟩
                  have HB6 := Aside0.mk (below_then HB5.out HB5.out.size hb6)
                  clear hb6
                  go_wp2
                  go_ret
                  exact ⟨rfl, HB6.out⟩
                | true =>
                  have hmay := may_all (show mayB l l.length = true by have := HBB.out; rw [show l.length = i by have := HI.out; omega]; exact this.symm)
                  have hpx := parse_cmdL l m hmay.1 hmay.2.1 hmay.2.2
                  rw [HL.out, ← HY.out] at hpx
                  obtain ⟨X', hX'⟩ : ∃ X', X = l :: X' := ⟨_, by rw [← hX, hpx]⟩
                  have h0X : 0 < X.length := by rw [hX']; exact Nat.succ_pos _
                  obtain ⟨ad5, cs5, rfl, hcl, ⟨A6, c6, hcs, hl6, hC6⟩, hcell⟩ := ReadsRow.get_ hC5 [] 0 (Int.le_refl _) (by omega)
                  have hx0 : X.getD (0 : Int).toNat [] = l := by rw [hX']; rfl
                  rw [hx0] at hcs hl6 hC6
                  subst hcs
                  have hc0 := hcell 0 _ rfl
                  have hcc : w5.cell? ad5 = some (.slice A6 l.length c6) := by
                    rw [← hc0]
                    congr 1
                  obtain ⟨K, hK⟩ := (same_refl l (by have := H60.out; omega)).rounds
                  have z1 : decide (0 < X.length) = true := decide_eq_true h0X
                  have z2 := eq_true h0X
                  have z3 : decide ((0 : Int) < (X.length : Int)) = true := decide_eq_true (by omega)
                  have z4 : ((0 : Int) < (X.length : Int)) = True := eq_true (by omega)
                  have HC6 := Aside0.mk hC6
                  have HL6 := Aside0.mk hl6
                  have HK := Aside0.mk hK
                  clear hC5 hX hl5 hmay hpx hX' h0X hcl hcell hx0 hc0 hl6 hC6 hK
                  go_wp2_with fail
                  refine (intaglioref17_Same.calls K A6 c6 l A0 c0 l true w5 HC6.out HL6.out (Kd.C_below HR0.out HB5.out) HC0.out HK.out).mono ?_
                  rintro e w6 ⟨rfl, hd6⟩
                  have HB6 := Aside0.mk (below_then HB5.out HB5.out.size hd6.below)
                  clear hd6
                  go_wp2_with fail
                  refine (awake_calls _ (Vb.Num.grown HG.out HB6.out)).mono ?_
                  rintro e w7 ⟨rfl, hb7⟩
                  have HB7 := Aside0.mk (below_then HB6.out HB6.out.size hb7)
                  clear hb7
                  go_wp2
                  go_ret
                  exact ⟨rfl, HB7.out⟩
              · cases bb with
                | true => exact absurd (by rw [HY.out]; exact may_short (show mayB l l.length = true by have := HBB.out; rw [show l.length = i by have := HI.out; omega]; exact this.symm) HL.out HM.out) hbig
                | false =>
                  have hbad := cmd_far HL.out H60.out HSM.out HZ.out HM.out (by rw [← HY.out]; exact hbig)
                  rw [← HY.out] at hbad
                  refine (feed_bad w.heap.size g (fun _ => False) _ Y A4 c4 w w4 HG.out HB4.out HB4.out.size rfl HP4.out (Bv_V HV4.out _) HLM.out hbad.1 hbad.2).mono ?_
                  rintro e w5 ⟨v5, rfl, hR5, hb5⟩
                  obtain ⟨E, hE⟩ : ∃ E, (cmd Y).2.2 = E := ⟨_, rfl⟩
                  rw [hE]
                  obtain ⟨A5, c5, rfl, hl5, hC5⟩ := Kd.R_reads hR5
                  have HB5 := Aside0.mk hb5
                  clear hE hbig hb5 hR5 hbad hC5 hl5
                  go_wp2_with fail
                  refine (awake_calls _ (Vb.Num.grown HG.out HB5.out)).mono ?_
                  rintro e w6 ⟨rfl, hb6⟩
                  have HB6 := Aside0.mk (below_then HB5.out HB5.out.size hb6)
                  clear hb6
                  go_wp2
                  go_ret
                  exact ⟨rfl, HB6.out⟩
            | succ gk =>
              have hil : i < l.length := by have := HI.out; omega
              have x1 : decide (i < l.length) = true := decide_eq_true hil
              have x2 := eq_true hil
              obtain ⟨ad102, e102, hx102_0⟩ := Kd.at_string HR0.out (i : Int) (by omega) (by omega)
              cases e102
              have hA : rdOf ByteArray.empty l (i : Int) = l[i] := by unfold rdOf; rw [Int.toNat_natCast, List.getD_eq_getElem?_getD, List.getElem?_eq_getElem hil]; rfl
              rw [Int.toNat_natCast, hA] at hx102_0
              replace hx102_0 := (HB2'.out.cell (World.block_lt_of_cell? _ _ hx102_0)).trans hx102_0
              obtain ⟨a, ha⟩ : ∃ a, l[i] = a := ⟨_, rfl⟩
              rw [ha] at hx102_0
              have HA := Aside0.mk (show mayB l (i + 1) = (mayB l i && decide ((a.size : Int) ≤ 512)) by rw [← ha]; exact may_step l i hil)
              have HH := Aside0.mk (show i + 1 ≤ l.length by omega)
              clear hil ha hA
              cases bb with
              | false =>
                go_wp2_with fail
                go_roundg gk
                case measure => exact Nat.lt_succ_self _
                case rel => exact ⟨i + 1, false, rfl, by rw [wI (by omega) (by have := HH.out; have := H60.out; omega)]; rfl, ⟨by have := HI.out; omega⟩, ⟨by rw [HA.out, ← HBB.out]; rfl⟩, ⟨rfl⟩⟩
              | true =>
                by_cases h5 : (a.size : Int) ≤ 512
                · have y1 : decide ((a.size : Int) ≤ 512) = true := decide_eq_true h5
                  have y2 := eq_true h5
                  clear h5
                  go_wp2_with fail
                  go_roundg gk
                  case measure => exact Nat.lt_succ_self _
                  case rel => exact ⟨i + 1, true, rfl, by rw [wI (by omega) (by have := HH.out; have := H60.out; omega)]; rfl, ⟨by have := HI.out; omega⟩, ⟨by rw [HA.out, ← HBB.out, y1]; rfl⟩, ⟨rfl⟩⟩
                · have y1 : decide ((a.size : Int) ≤ 512) = false := decide_eq_false h5
                  have y2 := eq_false h5
                  clear h5
                  go_wp2_with fail
                  go_roundg gk
                  case measure => exact Nat.lt_succ_self _
                  case rel => exact ⟨i + 1, false, rfl, by rw [wI (by omega) (by have := HH.out; have := H60.out; omega)]; rfl, ⟨by have := HI.out; omega⟩, ⟨by rw [HA.out, ← HBB.out, y1]; rfl⟩, ⟨rfl⟩⟩)
end Go.Proofs.YtbfbmgkgaokecaaDoor.PS
