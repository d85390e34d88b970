/- Layer 19: Feed 19, by hand; New 18 told anew. -/
import Derived.Test.YtbfbmgkgaokecaaDoorGvQ
import Derived.Test.YtbfbmgkgaokecaaDoorPSz52
import Derived.Test.YtbfbmgkgaokecaaDoorSq8
namespace Go.Proofs.YtbfbmgkgaokecaaDoor.PS
open Go.RowKit Go.Proofs.YtbfbmgkgaokecaaDoorW.PrintWords Go.Proofs.YtbfbmgkgaokecaaDoorW.PrintLast Go.Proofs.YtbfbmgkgaokecaaDoorW.PrintMore
attribute [local go_sem] max2_int min2_int max_two min_two max_three min_three max_four min_four
set_option linter.unusedVariables false
set_option linter.unusedSimpArgs false

/-- A parser at block g: what it holds is a row of its own, which may begin inside its block (one of ok). -/
def IsP (W : World) (base g : Nat) (ok : Nat → Prop) (hd : List Int) (e : Int) (m : Bool) : Prop := ∃ v, W.heap[g]? = some (.cells #[v, .int .i64 e, .bool m] 46 (0, 0)) ∧ base ≤ g ∧ Kd.Q (Kd.int .u8) 5 W base ok v hd

theorem apartRQ {W : World} {base base' : Nat} {ok ok' : Nat → Prop} {v u : Value} {xs : List (List ByteArray)} {hx : List Int} (hR : Kd.R (Kd.slice 9 Kd.string) 22 W base ok v xs) (hQ : Kd.Q (Kd.int .u8) 5 W base' ok' u hx) : ∀ k, v.ownBlock = some k → some k ≠ u.ownBlock := fun k hk => by
  obtain ⟨_, inner, ho, _⟩ := hR
  obtain ⟨cells, hc⟩ := own_typed ho k hk
  exact Kd.Q_ne hQ hc (by decide)

def resp_Parser_Feed.l0 : Nat → List Int → List (List ByteArray) → Option (List (List ByteArray) × Int × List Int × Int)
  | 0, _, _ => none
  | k + 1, hd, out => (resp_command.f k hd).bind fun c => if c.2.2 = 4 then some (out, 0, hd, 0) else if c.2.2 = 0 then (if out.length < 1000000000000 then resp_Parser_Feed.l0 k c.2.1 (if 0 < c.1.length then out ++ [c.1] else out) else none) else some (out, c.2.2, [], c.2.2)
def resp_Parser_Feed.f (k : Nat) (hd b : List Int) : Option (List (List ByteArray) × Int × List Int × Int) := resp_Parser_Feed.l0 k (hd ++ b) []

set_option maxHeartbeats 8000000 in
set_option maxRecDepth 100000 in
theorem resp_Parser_Feed.calls0 (k : Nat) (base g : Nat) (ok : Nat → Prop) (hd : List Int) (e : Int) (b : Value) (w : World) (hP : IsP w base g ok hd e false) :
    Calls Tryd.prog 19 #[.pointer (some ⟨g, 0, none⟩), b] w fun r w' => r = .returned (.tuple #[.slice none 0 0, .int .i64 2]) ∧ w' = w := by
  obtain ⟨v, hg, hb, hQ⟩ := hP
  have hcz2_2 : w.cell? ⟨g, 2, none⟩ = some (.bool false) := (blk_cell hg 2).trans rfl
  clear hg hQ
  have hu46 := Tryd.underlying46
  go_enter Tryd.func19, Tryd.ntmps19
  go_wp2
  go_ret2
  exact ⟨rfl, rfl⟩

set_option maxHeartbeats 8000000 in
set_option maxRecDepth 100000 in
theorem resp_Parser_Feed.calls1 (k : Nat) (base g : Nat) (ok : Nat → Prop) (hd : List Int) (e : Int) (b : Value) (w : World) (he : e ≠ 0) (hP : IsP w base g ok hd e true) :
    Calls Tryd.prog 19 #[.pointer (some ⟨g, 0, none⟩), b] w fun r w' => r = .returned (.tuple #[.slice none 0 0, .int .i64 e]) ∧ Below w.heap.size w w' := by
  obtain ⟨v, hg, hb, hQ⟩ := hP
  have hcz2_2 : w.cell? ⟨g, 2, none⟩ = some (.bool true) := (blk_cell hg 2).trans rfl
  have hcz2_1 : w.cell? ⟨g, 1, none⟩ = some (.int .i64 e) := (blk_cell hg 1).trans rfl
  have HB := Aside0.mk (Below.refl w.heap.size w)
  clear hg hQ
  have hu46 := Tryd.underlying46
  have h1 : (e == 0) = false := beq_eq_false_iff_ne.mpr he
  have h2 : (e != 0) = true := bne_iff_ne.mpr he
  clear he
  go_enter Tryd.func19, Tryd.ntmps19
  go_wp2
  repeat (go_quiet (fail); try go_wp2)
  go_ret2
  exact ⟨rfl, by repeat (first | (with_reducible first | exact HB.out | apply below_alloc | apply pw_below_drewN | apply below_drew1) | exact HB.out)⟩

set_option maxHeartbeats 8000000 in
set_option maxRecDepth 100000 in
theorem resp_Parser_Feed.calls (k : Nat) (base g : Nat) (ok : Nat → Prop) (P0_ : Nat → Prop) (hd : List Int) (A0 : Option Addr) (c0 : Nat) (l0 : List Int) (r1 : List (List ByteArray)) (r2 : Int) (r3 : List Int) (r4 : Int) (w0 w : World) (hG : Vb.Num w) (hB0 : Below base w0 w) (hbase : base ≤ w.heap.size) (hN : ∀ w', Below base w0 w' → Vb.Num w')
    (hP : IsP w base g ok hd 0 true) (hs0 : Kd.V (Kd.int .u8) 5 w w.heap.size (fun k_ => P0_ k_) (.slice A0 l0.length c0) l0) (hl : hd.length + l0.length ≤ 150000000000000) (h : resp_Parser_Feed.f k hd l0 = some (r1, r2, r3, r4)) :
    Calls Tryd.prog 19 #[.pointer (some ⟨g, 0, none⟩), .slice A0 l0.length c0] w fun e w' => ∃ v : Value, e = .returned (.tuple #[v, .int .i64 r2]) ∧ Kd.R (Kd.slice 9 Kd.string) 22 w' w.heap.size (fun k_ => w.heap.size ≤ k_) v r1 ∧ IsP w' base g (fun k_ => ok k_ ∨ w.heap.size ≤ k_) r3 r4 true ∧ Below base w0 w' ∧ Kept w w' (fun k_ => k_ = g ∨ ok k_) := by
  obtain ⟨v, hg, hb, hQ⟩ := hP
  have hcz2_2 : w.cell? ⟨g, 2, none⟩ = some (.bool true) := (blk_cell hg 2).trans rfl
  have hcz2_1 : w.cell? ⟨g, 1, none⟩ = some (.int .i64 0) := (blk_cell hg 1).trans rfl
  have hcz2_0 : w.cell? ⟨g, 0, none⟩ = some v := (blk_cell hg 0).trans rfl
  have HQ := Aside0.mk hQ
  have HGb := Aside0.mk hg
  have HV := Aside0.mk hs0
  have HBs := Aside0.mk hbase
  have HL := Aside0.mk hl
  have hu46 := Tryd.underlying46
  obtain ⟨Av, cv, ev, _⟩ := Kd.Q_slice hQ
  subst ev
  clear hg hQ hs0 hbase hl
  have H := Aside0.mk h
  clear h
  go_enter Tryd.func19, Tryd.ntmps19
  go_wp2_with (first | ((with_reducible refine gate_builtin (b := .append) (xs := #[.tmp 32, .tmp 33]) rfl ?_); at_builtin; refine Q_append_row base rfl (.tmp 32) (.tmp 33) 23 5 rfl Tryd.underlying23 info5 _ hd l0 A0 l0.length c0 (fun k_ => ok k_ ∨ w.heap.size ≤ k_) rfl rfl ?aQ ?aR ?aF ?aB ?aL ?_; (case aQ => exact Kd.Q_mono HQ.out (fun _ h => .inl h)); (case aR => exact (Kd.V_reads' HV.out).2.2); (case aF => exact fun k_ h => .inr h); (case aB => exact HBs.out); (case aL => exact HL.out); intro v1 w1 hq hgr hat; obtain ⟨y1, hy1⟩ : ∃ y, y = hd ++ l0 := ⟨_, rfl⟩; rw [← hy1] at hq; have Ny1 := Aside0.mk hy1; clear hy1; obtain ⟨Av1, cv1, ev1, _⟩ := Kd.Q_slice hq; subst ev1; have hg1 := blk_grown HGb.out hgr (Kd.Q_ne HQ.out HGb.out (by decide)); have hcw_0 : w1.cell? ⟨g, 0, none⟩ = some (.slice Av hd.length cv) := (blk_cell hg1 0).trans rfl; have hfw_0 := blk_frozen hg1 0; have HG1 := Aside0.mk hg1; have HQ1 := Aside0.mk hq; have HR1 := Aside0.mk hgr; clear hg1 hq hgr hat))
  have HG2 := Aside0.mk (show (w1.setCell ⟨g, 0, none⟩ (.slice Av1 y1.length cv1)).heap[g]? = some (.cells #[.slice Av1 y1.length cv1, .int .i64 0, .bool true] 46 (0, 0)) by simpa using blk_set HG1.out 0 (.slice Av1 y1.length cv1))
  have HQ2 := Aside0.mk (Kd.Q_set HQ1.out HG1.out (by decide) 0 (.slice Av1 y1.length cv1))
  have HB2 := Aside0.mk ((hB0.grown HR1.out HBs.out (Kd.Q_base HQ.out)).setCell (p := ⟨g, 0, none⟩) hb (.slice Av1 y1.length cv1))
  have HK2 := Aside0.mk ((Kept.of_grown HR1.out (Kept.refl w (fun k_ => k_ = g ∨ ok k_)) (fun k hk => .inl (.inr (Kd.Q_ok HQ.out k hk)))).setCell (p := ⟨g, 0, none⟩) (.inl (.inl rfl)) (.slice Av1 y1.length cv1))
  have H2 := Aside0.mk (show resp_Parser_Feed.l0 k y1 [] = some (r1, r2, r3, r4) by have := H.out; unfold resp_Parser_Feed.f at this; rw [Ny1.out]; exact this)
  clear H HG1 HQ1 HR1 HGb HQ HL HV hcz2_0 hcz2_1 hcz2_2
  go_loopg [6] k (fun kq v6 w' => ∃ (x6 : List (List ByteArray)) (hx : List Int) (vh : Value), Aside0 (resp_Parser_Feed.l0 kq hx x6 = some (r1, r2, r3, r4)) ∧ Aside0 (kq ≤ k) ∧ Aside0 (w'.heap[g]? = some (.cells #[vh, .int .i64 0, .bool true] 46 (0, 0))) ∧ Aside0 (Kd.Q (Kd.int .u8) 5 w' base (fun k_ => ok k_ ∨ w.heap.size ≤ k_) vh hx) ∧ Aside0 (Kd.R (Kd.slice 9 Kd.string) 22 w' w.heap.size (fun k_ => w.heap.size ≤ k_) v6 x6) ∧ Aside0 (Below base w0 w') ∧ Aside0 (Kept w w' (fun k_ => k_ = g ∨ ok k_)))
  case atStart => exact ⟨[], y1, _, H2, ⟨Nat.le_refl _⟩, HG2, HQ2, ⟨Kd.R_nil _ _ _ _ _⟩, HB2, HK2⟩
  case round =>
    obtain ⟨x6, hx, vh, HA, HK1, HG, HQ, HR, HB, HK⟩ := hrel
    clear HG2 HQ2 HB2 HK2 H2
    cases gk with
    | zero => exact absurd HA.out (by simp [resp_Parser_Feed.l0])
    | succ k1 =>
      have H := HA.out
      clear HA
      simp only [resp_Parser_Feed.l0] at H
      replace H := Option.bind_eq_some_iff.mp H
      obtain ⟨⟨t1, t2, t3⟩, A20, H⟩ := H
      have A2 := Aside0.mk A20
      clear A20
      obtain ⟨Ah, ch, eh, _⟩ := Kd.Q_slice HQ.out
      subst eh
      have hcz_0 := (blk_cell HG.out 0).trans (rfl : _ = some (Value.slice Ah hx.length ch))
      clear hcw_0 hfw_0
      by_cases c4 : t3 = 4
      · replace H : some (x6, 0, hx, 0) = some (r1, r2, r3, r4) := by rw [if_pos c4] at H; exact H
        subst c4
        simp only [Option.some.injEq, Prod.mk.injEq] at H
        obtain ⟨rfl, rfl, rfl, rfl⟩ := H
        go_wp2_with (first | ((with_reducible refine gate_callee (f := 52) rfl ?_); refine goesL_ (some 42) rfl rfl Tryd.func52 (by kernel_rfl) rfl #[.slice Ah hx.length ch] rfl (by (try simp only [List.map_toArray, List.map_cons, List.map_nil]); first | done | rfl) ?_; (with_reducible refine (resp_command.calls2 (.slice Ah hx.length ch) hx k1 (fun _ => True) _ _ hx _ _ _ _ ?side1 ?side2 ⟨CutOf.refl _ _⟩ A2.out).mono ?_); (case side1 => exact hN _ HB.out); (case side2 => exact Kd.V_mono (Kd.Q_V HQ.out) (fun _ _ => trivial)); rintro e w4 ⟨v0, v1, rfl, hr, hv, HZ, hbw⟩; refine ⟨_, rfl, ?_⟩; have hq := HZ.out _ _ _ (Kd.Q_below HQ.out hbw); obtain ⟨A1, c1, e1, _⟩ := Kd.Q_slice hq; subst e1; obtain ⟨A0', c0', e0⟩ := Kd.R_slice hr; subst e0; have n0_ := blk_grown HG.out (grown_of_below hbw none) (by simp); have HG4 := Aside0.mk n0_; have HQ4 := Aside0.mk hq; have HQo4 := Aside0.mk (Kd.Q_below HQ.out hbw); have HR4 := Aside0.mk (Kd.R_below HR.out hbw); have HW4 := Aside0.mk hr; have HS4 := Aside0.mk (Nat.le_trans HK.out.1 hbw.size); have HB4 := Aside0.mk (below_then HB.out (Nat.le_trans HBs.out HK.out.1) hbw); have HK4 := Aside0.mk (HK.out.then_ (Kept.of_below hbw (fun _ => False)) (fun k h => h.elim)); have hcw4_0 := (blk_cell n0_ 0).trans (rfl : _ = some (Value.slice Ah hx.length ch)); have hcw4_1 := (blk_cell n0_ 1).trans (rfl : _ = some (Value.int .i64 0)); have hfw4_0 := blk_frozen n0_ 0; have hfw4_1 := blk_frozen n0_ 1; clear n0_ hq hr hv hbw))
        go_ret2
        exact ⟨_, rfl, HR4.out, ⟨_, HG4.out, hb, HQo4.out⟩, HB4.out, HK4.out⟩
      · rw [if_neg c4] at H
        have c4b0 : (t3 == 4) = false := beq_eq_false_iff_ne.mpr c4
        clear c4
        by_cases c5 : t3 = 0
        · replace H : (if x6.length < 1000000000000 then resp_Parser_Feed.l0 k1 t2 (if 0 < t1.length then x6 ++ [t1] else x6) else none) = some (r1, r2, r3, r4) := by rw [if_pos c5] at H; exact H
          subst c5
          by_cases c6 : x6.length < 1000000000000
          · rw [if_pos c6] at H
            have LM := Aside0.mk c6
            clear c6
            by_cases c7 : 0 < t1.length
            · rw [if_pos c7] at H
              have c7b0 : decide (0 < (t1.length : Int)) = true := decide_eq_true (by omega)
              have c7b1 : decide (0 < t1.length) = true := decide_eq_true c7
              clear c7
              have HH := Aside0.mk H
              clear H
              go_wp2_with (first | ((with_reducible refine gate_callee (f := 52) rfl ?_); refine goesL_ (some 42) rfl rfl Tryd.func52 (by kernel_rfl) rfl #[.slice Ah hx.length ch] rfl (by (try simp only [List.map_toArray, List.map_cons, List.map_nil]); first | done | rfl) ?_; (with_reducible refine (resp_command.calls2 (.slice Ah hx.length ch) hx k1 (fun _ => True) _ _ hx _ _ _ _ ?side1 ?side2 ⟨CutOf.refl _ _⟩ A2.out).mono ?_); (case side1 => exact hN _ HB.out); (case side2 => exact Kd.V_mono (Kd.Q_V HQ.out) (fun _ _ => trivial)); rintro e w4 ⟨v0, v1, rfl, hr, hv, HZ, hbw⟩; refine ⟨_, rfl, ?_⟩; have hq := HZ.out _ _ _ (Kd.Q_below HQ.out hbw); obtain ⟨A1, c1, e1, _⟩ := Kd.Q_slice hq; subst e1; obtain ⟨A0', c0', e0⟩ := Kd.R_slice hr; subst e0; have n0_ := blk_grown HG.out (grown_of_below hbw none) (by simp); have HG4 := Aside0.mk n0_; have HQ4 := Aside0.mk hq; have HQo4 := Aside0.mk (Kd.Q_below HQ.out hbw); have HR4 := Aside0.mk (Kd.R_below HR.out hbw); have HW4 := Aside0.mk hr; have HS4 := Aside0.mk (Nat.le_trans HK.out.1 hbw.size); have HB4 := Aside0.mk (below_then HB.out (Nat.le_trans HBs.out HK.out.1) hbw); have HK4 := Aside0.mk (HK.out.then_ (Kept.of_below hbw (fun _ => False)) (fun k h => h.elim)); have hcw4_0 := (blk_cell n0_ 0).trans (rfl : _ = some (Value.slice Ah hx.length ch)); have hcw4_1 := (blk_cell n0_ 1).trans (rfl : _ = some (Value.int .i64 0)); have hfw4_0 := blk_frozen n0_ 0; have hfw4_1 := blk_frozen n0_ 1; clear n0_ hq hr hv hbw) | ((with_reducible refine gate_builtin (b := .append) (xs := #[.tmp 67, .tmp 69]) rfl ?_); at_builtin; have hg5 := blk_set HG4.out 0 (.slice A1 t2.length c1); have hr5 := Kd.R_set HR4.out HG4.out (by decide) 0 (.slice A1 t2.length c1); have hq5 := Kd.Q_set HQ4.out HG4.out (by decide) 0 (.slice A1 t2.length c1); have hw5 := Kd.R_mono (ok' := fun k_ => w.heap.size ≤ k_ ∧ some k_ ≠ (u6 : Value).ownBlock) (Kd.R_lower (Kd.R_set HW4.out HG4.out (by decide) 0 (.slice A1 t2.length c1)) HK.out.1) (fun k_ hk_ => ⟨Nat.le_trans HK.out.1 hk_, fun e_ => Nat.lt_irrefl _ (Nat.lt_of_lt_of_le (Kd.R_lt HR.out k_ e_.symm) hk_)⟩); have hk5 := HK4.out.setCell (p := ⟨g, 0, none⟩) (.inl (.inl rfl)) (.slice A1 t2.length c1); have hb5 := HB4.out.setCell (p := ⟨g, 0, none⟩) hb (.slice A1 t2.length c1); refine Kd.R_append (Kd.slice 9 Kd.string) (w0 := w4.setCell ⟨g, 0, none⟩ (.slice A1 t2.length c1)) w.heap.size rfl (.tmp 67) (.tmp 69) 27 22 (.slice none 0 0) 24 rfl Tryd.underlying27 info22 rfl (by decide) (by omega) u6 x6 t1 [.slice A0' t1.length c0'] (fun k_ => w.heap.size ≤ k_) (fun k_ => w.heap.size ≤ k_ ∧ some k_ ≠ (u6 : Value).ownBlock) rfl (by first | rfl | (rw [World.size_setCell]; rfl) | (simp; done)) ⟨_, rfl, hw5⟩ (fun _ h => h) (fun _ h => Nat.le_trans hk5.1 h) hr5 (Below.refl _ _) hk5.1 (by have := LM.out; omega) ?_; intro v1 w5 ho hbb hgg hat; have HG6 := Aside0.mk (blk_grown hg5 hgg (Kd.R_ne hr5 hg5 (by decide))); have HQ6 := Aside0.mk (Kd.Q_grown2 hq5 rfl hgg (apartRQ hr5 hq5)); have HR6 := Aside0.mk ho; have HB6 := Aside0.mk (hb5.grown hgg (Nat.le_trans HBs.out hk5.1) (fun k hk => Nat.le_trans HBs.out (hr5.1 k hk))); have HK6 := Aside0.mk (Kept.of_grown hgg hk5 (fun k hk => .inr (hr5.1 k hk))); clear hg5 hr5 hq5 hw5 hk5 hb5 ho hbb hgg hat))
              go_roundg k1
              case measure => have := HK1.out; omega
              case rel =>
                exact ⟨x6 ++ [t1], t2, _, HH, ⟨by have := HK1.out; omega⟩, ⟨by simpa using HG6.out⟩, HQ6, HR6, HB6, HK6⟩
            · rw [if_neg c7] at H
              have c7b0 : decide (0 < (t1.length : Int)) = false := decide_eq_false (by omega)
              have c7b1 : decide (0 < t1.length) = false := decide_eq_false c7
              clear c7
              have HH := Aside0.mk H
              clear H
              go_wp2_with (first | ((with_reducible refine gate_callee (f := 52) rfl ?_); refine goesL_ (some 42) rfl rfl Tryd.func52 (by kernel_rfl) rfl #[.slice Ah hx.length ch] rfl (by (try simp only [List.map_toArray, List.map_cons, List.map_nil]); first | done | rfl) ?_; (with_reducible refine (resp_command.calls2 (.slice Ah hx.length ch) hx k1 (fun _ => True) _ _ hx _ _ _ _ ?side1 ?side2 ⟨CutOf.refl _ _⟩ A2.out).mono ?_); (case side1 => exact hN _ HB.out); (case side2 => exact Kd.V_mono (Kd.Q_V HQ.out) (fun _ _ => trivial)); rintro e w4 ⟨v0, v1, rfl, hr, hv, HZ, hbw⟩; refine ⟨_, rfl, ?_⟩; have hq := HZ.out _ _ _ (Kd.Q_below HQ.out hbw); obtain ⟨A1, c1, e1, _⟩ := Kd.Q_slice hq; subst e1; obtain ⟨A0', c0', e0⟩ := Kd.R_slice hr; subst e0; have n0_ := blk_grown HG.out (grown_of_below hbw none) (by simp); have HG4 := Aside0.mk n0_; have HQ4 := Aside0.mk hq; have HQo4 := Aside0.mk (Kd.Q_below HQ.out hbw); have HR4 := Aside0.mk (Kd.R_below HR.out hbw); have HW4 := Aside0.mk hr; have HS4 := Aside0.mk (Nat.le_trans HK.out.1 hbw.size); have HB4 := Aside0.mk (below_then HB.out (Nat.le_trans HBs.out HK.out.1) hbw); have HK4 := Aside0.mk (HK.out.then_ (Kept.of_below hbw (fun _ => False)) (fun k h => h.elim)); have hcw4_0 := (blk_cell n0_ 0).trans (rfl : _ = some (Value.slice Ah hx.length ch)); have hcw4_1 := (blk_cell n0_ 1).trans (rfl : _ = some (Value.int .i64 0)); have hfw4_0 := blk_frozen n0_ 0; have hfw4_1 := blk_frozen n0_ 1; clear n0_ hq hr hv hbw))
              go_roundg k1
              case measure => have := HK1.out; omega
              case rel =>
                exact ⟨x6, t2, _, HH, ⟨by have := HK1.out; omega⟩, ⟨by simpa using blk_set HG4.out 0 _⟩, ⟨Kd.Q_set HQ4.out HG4.out (by decide) 0 _⟩, ⟨Kd.R_set HR4.out HG4.out (by decide) 0 _⟩, ⟨HB4.out.setCell (p := ⟨g, 0, none⟩) hb _⟩, ⟨HK4.out.setCell (p := ⟨g, 0, none⟩) (.inl (.inl rfl)) _⟩⟩
          · rw [if_neg c6] at H
            exact absurd H (by simp)
        · replace H : some (x6, t3, [], t3) = some (r1, r2, r3, r4) := by rw [if_neg c5] at H; exact H
          have c5b1 : (t3 != 0) = true := bne_iff_ne.mpr c5
          have c5b0 : (t3 == 0) = false := beq_eq_false_iff_ne.mpr c5
          clear c5
          simp only [Option.some.injEq, Prod.mk.injEq] at H
          obtain ⟨rfl, rfl, rfl, rfl⟩ := H
          go_wp2_with (first | ((with_reducible refine gate_callee (f := 52) rfl ?_); refine goesL_ (some 42) rfl rfl Tryd.func52 (by kernel_rfl) rfl #[.slice Ah hx.length ch] rfl (by (try simp only [List.map_toArray, List.map_cons, List.map_nil]); first | done | rfl) ?_; (with_reducible refine (resp_command.calls2 (.slice Ah hx.length ch) hx k1 (fun _ => True) _ _ hx _ _ _ _ ?side1 ?side2 ⟨CutOf.refl _ _⟩ A2.out).mono ?_); (case side1 => exact hN _ HB.out); (case side2 => exact Kd.V_mono (Kd.Q_V HQ.out) (fun _ _ => trivial)); rintro e w4 ⟨v0, v1, rfl, hr, hv, HZ, hbw⟩; refine ⟨_, rfl, ?_⟩; have hq := HZ.out _ _ _ (Kd.Q_below HQ.out hbw); obtain ⟨A1, c1, e1, _⟩ := Kd.Q_slice hq; subst e1; obtain ⟨A0', c0', e0⟩ := Kd.R_slice hr; subst e0; have n0_ := blk_grown HG.out (grown_of_below hbw none) (by simp); have HG4 := Aside0.mk n0_; have HQ4 := Aside0.mk hq; have HQo4 := Aside0.mk (Kd.Q_below HQ.out hbw); have HR4 := Aside0.mk (Kd.R_below HR.out hbw); have HW4 := Aside0.mk hr; have HS4 := Aside0.mk (Nat.le_trans HK.out.1 hbw.size); have HB4 := Aside0.mk (below_then HB.out (Nat.le_trans HBs.out HK.out.1) hbw); have HK4 := Aside0.mk (HK.out.then_ (Kept.of_below hbw (fun _ => False)) (fun k h => h.elim)); have hcw4_0 := (blk_cell n0_ 0).trans (rfl : _ = some (Value.slice Ah hx.length ch)); have hcw4_1 := (blk_cell n0_ 1).trans (rfl : _ = some (Value.int .i64 0)); have hfw4_0 := blk_frozen n0_ 0; have hfw4_1 := blk_frozen n0_ 1; clear n0_ hq hr hv hbw))
          go_ret2
          have hg5 := blk_set HG4.out 1 (.int .i64 t3)
          refine ⟨_, rfl, Kd.R_set (Kd.R_set HR4.out HG4.out (by decide) 1 _) hg5 (by decide) 0 _, ⟨.slice none 0 0, by simpa using blk_set hg5 0 (.slice none 0 0), hb, Kd.Q_nil _ _ _ _ _⟩, (HB4.out.setCell (p := ⟨g, 1, none⟩) hb _).setCell (p := ⟨g, 0, none⟩) hb _, (HK4.out.setCell (p := ⟨g, 1, none⟩) (.inl (.inl rfl)) _).setCell (p := ⟨g, 0, none⟩) (.inl (.inl rfl)) _⟩

end Go.Proofs.YtbfbmgkgaokecaaDoor.PS
