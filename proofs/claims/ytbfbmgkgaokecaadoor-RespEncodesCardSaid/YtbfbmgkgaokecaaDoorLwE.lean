/- Layer 19: the law RespEncodes (7). -/
import Derived.Test.YtbfbmgkgaokecaaDoorGvE
import Derived.Test.YtbfbmgkgaokecaaDoorGvT
import Derived.BigRegion
namespace Go.Proofs.YtbfbmgkgaokecaaDoor.PS
open Go.RowKit Go.Proofs.YtbfbmgkgaokecaaDoorW.PrintWords Go.Proofs.YtbfbmgkgaokecaaDoorW.PrintLast Go.Proofs.YtbfbmgkgaokecaaDoorW.PrintMore
set_option linter.unusedVariables false
set_option linter.unusedSimpArgs false

theorem conv_strC {W : World} {A : Option Addr} {c : Nat} {l : List UInt8} (h : Kd.C (Kd.int .u8) W A l.length (ints l)) : Sem.run Tryd.prog (convert 23 9 (Value.slice A l.length c)) W = Result.ok (Value.string ⟨l.toArray⟩) W := by
  have := Kd.C_string (P := Tryd.prog) (A := A) (c := c) Tryd.underlying23 Tryd.underlying5 Tryd.underlying9 h
  rw [str_ints] at this
  exact this
set_option maxHeartbeats 8000000 in
set_option maxRecDepth 100000 in
theorem RespEncodes_walk {w : World} (r : S51) (A : Option Addr) (c : Nat) (hr : Kd.C k51 w A r.f3.length r.f3) (hc : r.f3.length ≤ c) (hwf : ∀ n, wf51 n r) (hG : Vb.Num w) :
    Calls Tryd.prog 7 #[.agg #[.int .i64 r.f0, .string r.f1, .int .i64 r.f2, .slice A r.f3.length c]] w fun e w' => e = .returned (.bool true) ∧ Below w.heap.size w w' := by
  obtain ⟨K, hK⟩ := (rweight_ev 13 r (Nat.le_refl 13)).rounds
  rw [show (13 : Int) - ((13 : Nat) : Int) = 0 from rfl] at hK
  have hsm := wt_small 13 r (hwf 13)
  obtain ⟨E, hE⟩ : ∃ E, wt 13 r = E := ⟨_, rfl⟩
  rw [hE] at hK hsm
  have HG := Aside0.mk hG
  have HR := Aside0.mk hr
  have HC := Aside0.mk hc
  have CW0 := Aside0.mk (show ∀ W0 W, Below w.heap.size w W0 → Below W0.heap.size W0 W → Calls Tryd.prog 24 #[.agg #[.int .i64 r.f0, .string r.f1, .int .i64 r.f2, .slice A r.f3.length c], .int .i64 0] W fun e w' => e = .returned (.int .i64 E) ∧ Below W0.heap.size W0 w' by
    intro W0 W h0 h1
    refine (intaglioref19_Weight.calls K r.f0 r.f1 r.f2 A c r.f3 0 E W (Kd.C_below hr (below_then h0 h0.size h1)) hc hK).mono ?_
    rintro e w' ⟨rfl, hb⟩
    exact ⟨rfl, below_then h1 h1.size hb⟩)
  have CA := Aside0.mk (show ∀ W0 W, Below w.heap.size w W0 → Below W0.heap.size W0 W → Calls Tryd.prog 15 #[] W fun e w' => e = .returned (.bool true) ∧ Below W0.heap.size W0 w' by
    intro W0 W h0 h1
    refine (awake_calls W (Vb.Num.grown hG (below_then h0 h0.size h1))).mono ?_
    rintro e w' ⟨rfl, hb⟩
    exact ⟨rfl, below_then h1 h1.size hb⟩)
  by_cases q : 10000 ≤ E
  · have d1 : decide (10000 ≤ E) = true := decide_eq_true q
    have d2 := eq_true q
    have d3 : decide (E ≥ 10000) = true := decide_eq_true q
    obtain ⟨a0, a1, a2, l⟩ := r
    dsimp only at CW0 HR HC hK ⊢
    clear hK hsm hE hr hc hG hwf q
    go_enter Tryd.func7, Tryd.ntmps7
    go_wp2_with (first | ((with_reducible refine gate_dst (N := 1) rfl ?_); refine box_event ?hg (N := 1) ?hd (cs := #[.int .i64 a0, .string a1, .int .i64 a2, .slice A l.length c]) (t := 51) ?hr ?_; (case hd => rfl); (case hg => rfl); (case hr => first | (go_simp; done) | (go_simp; rfl)); intro gb hg w1 hbox hb; have HB := Aside0.mk hb; have BK := Aside0.mk hbox; clear hb hbox hg; have hz0 : w1.cell? ⟨gb, 0, none⟩ = some (.int .i64 a0) := (blk_cell BK.out 0).trans rfl; have hz1 : w1.cell? ⟨gb, 1, none⟩ = some (.string a1) := (blk_cell BK.out 1).trans rfl; have hz2 : w1.cell? ⟨gb, 2, none⟩ = some (.int .i64 a2) := (blk_cell BK.out 2).trans rfl; have hz3 : w1.cell? ⟨gb, 3, none⟩ = some (.slice A l.length c) := (blk_cell BK.out 3).trans rfl))
    go_region_with (first | (go_at_call 24; go_loud (refine (CW0.out w1 _ HB.out (by first | exact Below.refl _ _ | exact below_drew1 (Below.refl _ _))).mono ?_; rintro e w2 ⟨rfl, hb2⟩; have HB2 := Aside0.mk (below_then HB.out HB.out.size hb2); clear hb2)) | (go_at_call 15; go_loud (refine (CA.out w2 _ HB2.out (by first | exact Below.refl _ _ | exact below_drew1 (Below.refl _ _))).mono ?_; rintro e w3 ⟨rfl, hb3⟩; have HB3 := Aside0.mk (below_then HB2.out HB2.out.size hb3); clear hb3)))
    all_goals go_wp2_with fail
    all_goals go_ret
    all_goals exact ⟨rfl, HB3.out⟩
  · obtain ⟨hok, hlen⟩ := hsm (by omega)
    obtain ⟨K2, hK2⟩ := (rencode_ev 13 r hok).rounds
    have hle : (encL 13 r).length ≤ 300000 := by omega
    have hCE := fun W A c h1 h2 h3 => resp_Encode.calls 13 r A c W hok h1 h2 h3
    obtain ⟨L, hL⟩ : ∃ L, encL 13 r = L := ⟨_, rfl⟩
    rw [hL] at hK2 hle hCE
    have CE := Aside0.mk (show ∀ W0 W, Below w.heap.size w W0 → Below W0.heap.size W0 W → Calls Tryd.prog 25 #[.agg #[.int .i64 r.f0, .string r.f1, .int .i64 r.f2, .slice A r.f3.length c]] W fun e w' => ∃ A2 c2, e = .returned (.slice A2 L.length c2) ∧ Kd.C (Kd.int .u8) w' A2 L.length (ints L) ∧ Below W0.heap.size W0 w' by
      intro W0 W h0 h1
      refine (hCE W A c (Vb.Num.grown hG (below_then h0 h0.size h1)) (Kd.C_below hr (below_then h0 h0.size h1)) hc).mono ?_
      rintro e w' ⟨A2, c2, rfl, _, h2, hb⟩
      exact ⟨A2, c2, rfl, h2, below_then h1 h1.size hb⟩)
    have CR := Aside0.mk (show ∀ W0 W, Below w.heap.size w W0 → Below W0.heap.size W0 W → Calls Tryd.prog 26 #[.agg #[.int .i64 r.f0, .string r.f1, .int .i64 r.f2, .slice A r.f3.length c]] W fun e w' => e = .returned (.string ⟨L.toArray⟩) ∧ Below W0.heap.size W0 w' by
      intro W0 W h0 h1
      refine (intaglioref19_Encode.calls K2 r.f0 r.f1 r.f2 A c r.f3 ⟨L.toArray⟩ W (Kd.C_below hr (below_then h0 h0.size h1)) hc hK2).mono ?_
      rintro e w' ⟨rfl, hb⟩
      exact ⟨rfl, below_then h1 h1.size hb⟩)
    have d1 : decide (10000 ≤ E) = false := decide_eq_false q
    have d2 := eq_false q
    have d3 : decide (E ≥ 10000) = false := decide_eq_false q
    obtain ⟨a0, a1, a2, l⟩ := r
    dsimp only at CW0 CE CR HR HC hK ⊢
    clear hK hK2 hsm hE hr hc hG hwf q hok hlen hle hCE hL
    go_enter Tryd.func7, Tryd.ntmps7
    go_wp2_with (first | ((with_reducible refine gate_dst (N := 1) rfl ?_); refine box_event ?hg (N := 1) ?hd (cs := #[.int .i64 a0, .string a1, .int .i64 a2, .slice A l.length c]) (t := 51) ?hr ?_; (case hd => rfl); (case hg => rfl); (case hr => first | (go_simp; done) | (go_simp; rfl)); intro gb hg w1 hbox hb; have HB := Aside0.mk hb; have BK := Aside0.mk hbox; clear hb hbox hg; have hz0 : w1.cell? ⟨gb, 0, none⟩ = some (.int .i64 a0) := (blk_cell BK.out 0).trans rfl; have hz1 : w1.cell? ⟨gb, 1, none⟩ = some (.string a1) := (blk_cell BK.out 1).trans rfl; have hz2 : w1.cell? ⟨gb, 2, none⟩ = some (.int .i64 a2) := (blk_cell BK.out 2).trans rfl; have hz3 : w1.cell? ⟨gb, 3, none⟩ = some (.slice A l.length c) := (blk_cell BK.out 3).trans rfl))
    have HCL := Aside0.mk (show ∀ W, Below w1.heap.size w1 W → W.cell? ⟨gb, 0, none⟩ = some (.int .i64 a0) ∧ W.cell? ⟨gb, 1, none⟩ = some (.string a1) ∧ W.cell? ⟨gb, 2, none⟩ = some (.int .i64 a2) ∧ W.cell? ⟨gb, 3, none⟩ = some (.slice A l.length c) by
      intro W hW
      have hy := (hW.block gb (blk_lt BK.out)).trans BK.out
      exact ⟨(blk_cell hy 0).trans rfl, (blk_cell hy 1).trans rfl, (blk_cell hy 2).trans rfl, (blk_cell hy 3).trans rfl⟩)
    go_region_with (first
      | (go_at_call 24; go_loud (refine (CW0.out w1 _ HB.out (by first | exact Below.refl _ _ | exact below_drew1 (Below.refl _ _))).mono ?_; rintro e w2 ⟨rfl, hb2⟩; obtain ⟨hu0, hu1, hu2, hu3⟩ := HCL.out w2 hb2; have HB2 := Aside0.mk (below_then HB.out HB.out.size hb2); have HX2 := Aside0.mk hb2; clear hb2))
      | (go_at_call 25; go_loud (refine (CE.out w2 _ HB2.out (by first | exact Below.refl _ _ | exact below_drew1 (Below.refl _ _))).mono ?_; rintro e w3 ⟨A2, c2, rfl, hC2, hb3⟩; have HX3 := Aside0.mk (below_then HX2.out HX2.out.size hb3); obtain ⟨hs0, hs1, hs2, hs3⟩ := HCL.out w3 HX3.out; have HB3 := Aside0.mk (below_then HB2.out HB2.out.size hb3); have hcv3 := conv_strC (c := c2) hC2; have hcv3d := conv_strC (c := c2) (Kd.C_below hC2 (below_drew1 (Below.refl _ _))); have HC2 := Aside0.mk hC2; clear hb3 hC2))
      | (go_at_call 26; go_loud (refine (CR.out w3 _ HB3.out (by first | exact Below.refl _ _ | exact below_drew1 (Below.refl _ _))).mono ?_; rintro e w4 ⟨rfl, hb4⟩; have HB4 := Aside0.mk (below_then HB3.out HB3.out.size hb4); have hcv4 := conv_strC (c := c2) (Kd.C_below HC2.out hb4); have hcv4d := conv_strC (c := c2) (Kd.C_below HC2.out (below_then hb4 hb4.size (below_drew1 (Below.refl _ _)))); clear hb4))
      | (go_at_call 15; go_loud (refine (CA.out w4 _ HB4.out (by first | exact Below.refl _ _ | exact below_drew1 (Below.refl _ _))).mono ?_; rintro e w5 ⟨rfl, hb5⟩; have HB5 := Aside0.mk (below_then HB4.out HB4.out.size hb5); clear hb5)))
    all_goals go_wp2_with fail
    all_goals go_ret
    all_goals exact ⟨rfl, HB5.out⟩
end Go.Proofs.YtbfbmgkgaokecaaDoor.PS
