/- Layer 19: RespNobody 6, by hand. -/
import Derived.Test.YtbfbmgkgaokecaaDoorGvU
namespace Go.Proofs.YtbfbmgkgaokecaaDoor.PS
open Go.RowKit Go.Proofs.YtbfbmgkgaokecaaDoorW.PrintWords Go.Proofs.YtbfbmgkgaokecaaDoorW.PrintLast Go.Proofs.YtbfbmgkgaokecaaDoorW.PrintMore
set_option linter.unusedVariables false
set_option linter.unusedSimpArgs false

set_option maxHeartbeats 8000000 in
set_option maxRecDepth 100000 in
theorem RespNobody_walk {w : World} (A0 : Option Addr) (c0 : Nat) (b : List UInt8) (h0 : Kd.C (Kd.int .u8) w A0 b.length (ints b)) (hc0 : b.length ≤ c0)
    (A1 : Option Addr) (c1 : Nat) (m : List UInt8) (h1 : Kd.C (Kd.int .u8) w A1 m.length (ints m)) (hc1 : m.length ≤ c1) (hG : Vb.Num w) :
    Calls Tryd.prog 6 #[.slice A0 b.length c0, .slice A1 m.length c1] w fun e w' => e = .returned (.bool true) ∧ Below w.heap.size w w' := by
  have HG := Aside0.mk hG
  have HV0 := Aside0.mk (show Kd.V (Kd.int .u8) 5 w w.heap.size (fun k => k < w.heap.size) (.slice A0 b.length c0) (ints b) by
    have := C_V (c := c0) (xs := ints b) (A := A0) (W := w) (by rw [ints_length]; exact h0) (by rw [ints_length]; exact hc0) w.heap.size
    rw [ints_length] at this; exact this)
  have HV1 := Aside0.mk (show Kd.V (Kd.int .u8) 5 w w.heap.size (fun k => k < w.heap.size) (.slice A1 m.length c1) (ints m) by
    have := C_V (c := c1) (xs := ints m) (A := A1) (W := w) (by rw [ints_length]; exact h1) (by rw [ints_length]; exact hc1) w.heap.size
    rw [ints_length] at this; exact this)
  clear hG h0 h1 hc0 hc1
  by_cases q1 : 6000 < (b.length : Int)
  · have b1 : decide (6000 < (b.length : Int)) = true := decide_eq_true q1
    have b2 := eq_true q1
    clear q1
    go_enter Tryd.func6, Tryd.ntmps6
    go_wp2_with fail
    refine (awake_calls w HG.out).mono ?_
    rintro e w1 ⟨rfl, hb⟩
    go_wp2
    go_ret
    exact ⟨rfl, hb⟩
  have b1 : decide (6000 < (b.length : Int)) = false := decide_eq_false q1
  have b2 := eq_false q1
  by_cases q2 : 6000 < (m.length : Int)
  · have b3 : decide (6000 < (m.length : Int)) = true := decide_eq_true q2
    have b4 := eq_true q2
    clear q1 q2
    go_enter Tryd.func6, Tryd.ntmps6
    go_wp2_with fail
    refine (awake_calls w HG.out).mono ?_
    rintro e w1 ⟨rfl, hb⟩
    go_wp2
    go_ret
    exact ⟨rfl, hb⟩
  have b3 : decide (6000 < (m.length : Int)) = false := decide_eq_false q2
  have b4 := eq_false q2
  have HQ := Aside0.mk (And.intro q1 q2)
  clear q1 q2
  have hu46 := Tryd.underlying46
  go_enter Tryd.func6, Tryd.ntmps6
  go_wp2_with fail
  have HBW := Aside0.mk (below_alloc (below_alloc (Below.refl w.heap.size w) (.cells #[.slice none 0 0, .int .i64 0, .bool false] 46)) (.cells #[.pointer none, .pointer (some ⟨w.heap.size, 0, none⟩)] 30))
  go_loopg [6] 2 (fun gn v6 w' => ∃ i : Nat, v6 = .int .i64 (i : Int) ∧ Aside0 (i + gn = 2) ∧ Aside0 (w' = (w.alloc (.cells #[.slice none 0 0, .int .i64 0, .bool false] 46)).alloc (.cells #[.pointer none, .pointer (some ⟨w.heap.size, 0, none⟩)] 30)))
  case atStart => exact ⟨0, rfl, ⟨rfl⟩, ⟨by first | rfl | simp⟩⟩
  case round =>
    obtain ⟨i, rfl, HI, HW⟩ := hrel
    have hw := HW.out
    subst hw
    clear HW
    rcases gk with _ | _ | _ | n
    · obtain rfl : i = 2 := by have := HI.out; omega
      go_wp2_with fail
      refine (resp_New.callsP _).mono ?_
      rintro e w2 ⟨g, rfl, hg, hgl, hb2⟩
      have HB2 := Aside0.mk (below_then HBW.out HBW.out.size hb2)
      have HV2 := Aside0.mk (Kd.V_below (Kd.V_bound HV0.out) HB2.out)
      have HW2 := Aside0.mk (Kd.V_below (Kd.V_bound HV1.out) HB2.out)
      have HP2 := Aside0.mk (show IsP w2 w.heap.size g (fun _ => False) (ints []) 0 true from ⟨_, hg, Nat.le_trans HBW.out.size hgl, Kd.Q_nil _ _ _ _ _⟩)
      have HGl := Aside0.mk (Nat.le_trans HBW.out.size hgl)
      clear hg hb2 hgl
      go_wp2_with fail
      refine (feed_calls w.heap.size g (fun _ => False) (fun k => k < w.heap.size ∧ k < w.heap.size) [] b A0 c0 w w2 HG.out HB2.out HB2.out.size rfl HP2.out (Kd.V_map HV2.out (fun _ hf => hf)) (by have := HQ.out; simp only [List.length_nil]; omega)).mono ?_
      rintro e w3 ⟨v3, rfl, hR3, hP3, hb3, hk3⟩
      rw [List.nil_append] at hR3 hP3
      obtain ⟨E, hE⟩ : ∃ E, (parse b).2.1 = E := ⟨_, rfl⟩
      rw [List.nil_append, hE]
      rw [hE] at hP3
      obtain ⟨A3, c3, rfl, hl3, hC3⟩ := Kd.R_reads hR3
      have HV3 := Aside0.mk (Kd.V_kept HW2.out hk3 (fun k hk h => h.elim (fun h => by have := hk.2; have := HGl.out; omega) (fun h => h)))
      have HB3 := Aside0.mk hb3
      have HP3 := Aside0.mk hP3
      have HE := Aside0.mk hE
      clear hR3 hP3 hk3 hC3 hl3 hb3 hE
      by_cases q5 : E = 0
      · subst q5
        go_wp2_with fail
        refine (awake_calls _ (Vb.Num.grown HG.out HB3.out)).mono ?_
        rintro e w4 ⟨rfl, hb⟩
        have HB4 := Aside0.mk (below_then HB3.out HB3.out.size hb)
        go_wp2
        go_ret
        exact ⟨rfl, HB4.out⟩
      · have HNE := Aside0.mk q5
        have e1 : (E == 0) = false := beq_eq_false_iff_ne.mpr q5
        have e2 : (E = 0) = False := eq_false q5
        clear q5
        go_wp2_with fail
        refine (resp_Parser_Feed.calls1 0 w.heap.size g _ _ E (.slice A1 m.length c1) _ HNE.out HP3.out).mono ?_
        rintro e w4 ⟨rfl, hb4⟩
        have HP4 := Aside0.mk (IsP_below HP3.out hb4)
        have HB4 := Aside0.mk (below_then HB3.out HB3.out.size hb4)
        have HF := Aside0.mk (parse_fault (l := b) (by rw [HE.out]; exact HNE.out))
        clear hb4 HP3
        go_wp2_with fail
        refine (resp_Parser_Left.callsP _ g _ _ _ _ _ HP4.out).mono ?_
        rintro e w5 ⟨rfl, rfl⟩
        have HL := Aside0.mk (show (ints (parse b).2.2).length = 0 by rw [HF.out]; rfl)
        rw [HL.out]
        go_wp2_with fail
        refine (awake_calls _ (Vb.Num.grown HG.out HB4.out)).mono ?_
        rintro e w6 ⟨rfl, hb⟩
        have HB6 := Aside0.mk (below_then HB4.out HB4.out.size hb)
        go_wp2
        go_ret
        exact ⟨rfl, HB6.out⟩
    · obtain rfl : i = 1 := by have := HI.out; omega
      have hP0 : IsP ((w.alloc (.cells #[.slice none 0 0, .int .i64 0, .bool false] 46)).alloc (.cells #[.pointer none, .pointer (some ⟨w.heap.size, 0, none⟩)] 30)) w.heap.size w.heap.size (fun _ => False) [] 0 false := ⟨_, heap_two1 _ _ _, Nat.le_refl _, Kd.Q_nil _ _ _ _ _⟩
      have HP := Aside0.mk hP0
      clear hP0
      go_wp2_with fail
      refine (resp_Parser_Feed.calls0 0 w.heap.size w.heap.size _ _ _ _ _ HP.out).mono ?_
      rintro e w' ⟨rfl, rfl⟩
      go_wp2_with fail
      refine (resp_Parser_Left.callsP _ w.heap.size _ _ _ _ _ HP.out).mono ?_
      rintro e w' ⟨rfl, rfl⟩
      go_wp2_with fail
      go_roundg 0
      case measure => exact Nat.zero_lt_one
      case rel => exact ⟨2, rfl, ⟨rfl⟩, ⟨rfl⟩⟩
    · obtain rfl : i = 0 := by have := HI.out; omega
      go_wp2_with fail
      refine (resp_Parser_Feed.callsNil _ _).mono ?_
      rintro e w' ⟨rfl, rfl⟩
      go_wp2_with fail
      refine (resp_Parser_Left.callsNil _).mono ?_
      rintro e w' ⟨rfl, rfl⟩
      go_wp2_with fail
      go_roundg 1
      case measure => exact Nat.lt_succ_self _
      case rel => exact ⟨1, rfl, ⟨rfl⟩, ⟨rfl⟩⟩
    · exact absurd HI.out (by omega)
end Go.Proofs.YtbfbmgkgaokecaaDoor.PS
