/- Layer 19: awake 15, by hand. -/
import Derived.Test.YtbfbmgkgaokecaaDoorPlZ
import Derived.Test.YtbfbmgkgaokecaaDoorPSf22
namespace Go.Proofs.YtbfbmgkgaokecaaDoor.PS
open Go.RowKit Go.Proofs.YtbfbmgkgaokecaaDoorW.PrintWords Go.Proofs.YtbfbmgkgaokecaaDoorW.PrintLast Go.Proofs.YtbfbmgkgaokecaaDoorW.PrintMore
set_option linter.unusedVariables false
set_option linter.unusedSimpArgs false

theorem C_strs {W : World} {g : Nat} {cs : Array Value} {fr : Nat × Nat} {t : TypeId} (l : List ByteArray) (h : W.heap[g]? = some (.cells cs t fr)) (hc : cs.toList.take l.length = l.map .string) (hl : l.length ≤ 9223372036854775807) : Kd.C Kd.string W (some ⟨g, 0, none⟩) l.length l := by
  refine ⟨rfl, hl, fun _ => ⟨_, rfl, fun j p hj => ⟨[.string p], rfl, rfl, fun i u hu => ?_⟩⟩⟩
  match i, hu with
  | 0, hu =>
    obtain rfl := Option.some.inj hu
    obtain ⟨hjl, hp⟩ := List.getElem?_eq_some_iff.1 hj
    show W.cell? ((⟨g, 0, none⟩ : Addr).add (j * 1 + 0)) = _
    rw [add_at, show 0 + (j * 1 + 0) = j by omega, cell_of_row W g j cs t fr h, ← Array.getElem?_toList]
    have e : (cs.toList.take l.length)[j]? = (l.map Value.string)[j]? := by rw [hc]
    rw [List.getElem?_take_of_lt hjl] at e
    rw [e, List.getElem?_map, List.getElem?_eq_getElem hjl, hp]
    rfl
theorem C_cmd1 {W : World} {g1 g2 c : Nat} {cs : Array Value} {fr fr2 : Nat × Nat} {t t2 : TypeId} (l : List ByteArray) (h : W.heap[g1]? = some (.cells cs t fr)) (hc : cs.toList.take l.length = l.map .string) (hl : l.length ≤ 9223372036854775807) (hlc : l.length ≤ c)
    (h2 : W.heap[g2]? = some (.cells #[.slice (some ⟨g1, 0, none⟩) l.length c] t2 fr2)) : Kd.C (Kd.slice 9 Kd.string) W (some ⟨g2, 0, none⟩) 1 [l] := by
  refine ⟨rfl, by decide, fun _ => ⟨_, rfl, fun j p hj => ?_⟩⟩
  match j, hj with
  | 0, hj =>
    obtain rfl := Option.some.inj hj
    refine ⟨[.slice (some ⟨g1, 0, none⟩) l.length c], rfl, ⟨_, c, rfl, hlc, C_strs l h hc hl⟩, fun i u hu => ?_⟩
    match i, hu with
    | 0, hu =>
      obtain rfl := Option.some.inj hu
      show W.cell? ((⟨g2, 0, none⟩ : Addr).add (0 * 1 + 0)) = _
      rw [add_at, cell_of_row W g2 _ _ t2 fr2 h2]
      rfl
theorem heap_two1 (w : World) (a b : Obj) : ((w.alloc a).alloc b).heap[w.heap.size]? = some a := (heap_alloc_old (w.alloc a) b (by simp)).trans (heap_alloc_new w a)
theorem heap_two2 (w : World) (a b : Obj) : ((w.alloc a).alloc b).heap[w.heap.size + 1]? = some b := by
  have := heap_alloc_new (w.alloc a) b
  simpa using this
def wG : ByteArray := ⟨#[71, 69, 84]⟩
def wK : ByteArray := ⟨#[107]⟩
theorem cmdGK : cmdL [wG, wK] = [42, 50, 13, 10, 36, 51, 13, 10, 71, 69, 84, 13, 10, 36, 49, 13, 10, 107, 13, 10] := by kernel_rfl
theorem parseGK : parse (cmdL [wG, wK]) = ([[wG, wK]], 0, []) := by
  have := parse_cmdL [wG, wK] [] (by decide) (by decide) (by decide)
  rw [List.append_nil, parse_nil] at this
  exact this
theorem sameGK : intaglioref19_SameCommands.f 10 [[wG, wK]] [[wG, wK]] = some true := by kernel_rfl
set_option maxHeartbeats 8000000 in
set_option maxRecDepth 100000 in
theorem awake_calls (w : World) (hG : Vb.Num w) : Calls Tryd.prog 15 #[] w fun e w' => e = .returned (.bool true) ∧ Below w.heap.size w w' := by
  have HG := Aside0.mk hG
  clear hG
  obtain ⟨L, hL⟩ : ∃ L, cmdL [wG, wK] = L := ⟨_, rfl⟩
  obtain ⟨X, hX⟩ : ∃ X : List (List ByteArray), X = [[wG, wK]] := ⟨_, rfl⟩
  have hlen : L.length = 20 := by rw [← hL, cmdGK]; rfl
  have hstr : strOfNums (ints L) = ⟨#[42, 50, 13, 10, 36, 51, 13, 10, 71, 69, 84, 13, 10, 36, 49, 13, 10, 107, 13, 10]⟩ := by rw [str_ints, ← hL, cmdGK]
  have hfd : resp_Parser_Feed.f (50 + (L.length + 1)) [] (ints L) = some (X, 0, [], 0) := by
    have := feed_eq [] L (by rw [hlen]; decide)
    rw [List.nil_append, ← hL, parseGK] at this
    rw [← hL, hX]
    exact this
  have HL := Aside0.mk hL
  have HX := Aside0.mk hX
  have HLn := Aside0.mk hlen
  have HS := Aside0.mk hstr
  have HF := Aside0.mk hfd
  clear hL hX hlen hstr hfd
  go_enter Tryd.func15, Tryd.ntmps15
  go_wp2_with fail
  have HB0 := Aside0.mk ((Below.refl w.heap.size w).alloc (Nat.le_refl _) (.cells #[.string ⟨#[71, 69, 84]⟩, .string ⟨#[107]⟩] 9))
  refine (resp_Command.calls (some ⟨w.heap.size, 0, none⟩) 2 [wG, wK] _ (Vb.Num.grown HG.out HB0.out) (C_strs [wG, wK] (heap_alloc_new w _) rfl (by decide)) (by decide) (by rw [cmdGK]; decide)).mono ?_
  rintro e w1 ⟨v1, rfl, hv1, hb1⟩
  rw [HL.out] at hv1
  obtain ⟨A1, c1, rfl⟩ := Bv_slice hv1
  have HV1 := Aside0.mk (Bv_lower hv1 (HB0.out.size))
  have HB1 := Aside0.mk (below_then HB0.out HB0.out.size hb1)
  clear hv1 hb1
  go_wp2_with fail
  refine (resp_New.callsP _).mono ?_
  rintro e w2 ⟨g, rfl, hg, hgl, hb2⟩
  have HV2 := Aside0.mk (Kd.V_below (Kd.V_bound (Bv_V HV1.out w2.heap.size)) hb2)
  have HB2 := Aside0.mk (below_then HB1.out HB1.out.size hb2)
  have HP2 := Aside0.mk (show IsP w2 w.heap.size g (fun _ => False) [] 0 true from ⟨_, hg, Nat.le_trans HB1.out.size hgl, Kd.Q_nil _ _ _ _ _⟩)
  have HGl := Aside0.mk hgl
  clear hg hb2 hgl
  go_wp2_with fail
  have feed := resp_Parser_Feed.calls (50 + (L.length + 1)) w.heap.size g (fun _ => False) (fun k => True) [] A1 c1 (ints L) X 0 [] 0 w w2 (Vb.Num.grown HG.out HB2.out) HB2.out HB2.out.size (fun w' h => Vb.Num.grown HG.out h) HP2.out (by rw [ints_length]; exact Kd.V_mono HV2.out (fun _ _ => trivial)) (by rw [ints_length, HLn.out]; decide) HF.out
  rw [ints_length] at feed
  refine feed.mono ?_
  clear feed
  rintro e w3 ⟨v3, rfl, hR3, hP3, hb3, hk3⟩
  obtain ⟨A3, c3, rfl, hl3, hC3⟩ := Kd.R_reads hR3
  have hVb := Kd.V_kept HV2.out hk3 (fun k hk h => h.elim (fun h => by have := hk.2; have := HGl.out; omega) (fun h => h))
  have hCb := (Kd.V_reads' hVb).2.2
  rw [ints_length] at hCb
  have hcv := Kd.C_string (P := Tryd.prog) (A := A1) (c := c1) Tryd.underlying23 Tryd.underlying5 Tryd.underlying9 hCb
  rw [HS.out] at hcv
  have HC3 := Aside0.mk hC3
  have HL3 := Aside0.mk hl3
  have HB3 := Aside0.mk hb3
  clear hR3 hP3 hk3 hVb hCb hC3 hl3 hb3
  go_wp2_with fail
  refine (intaglioref19_SameCommands.calls 10 A3 c3 X (some ⟨w3.heap.size + 1, 0, none⟩) 1 [[wG, wK]] true _ (Kd.C_below HC3.out (below_alloc (below_alloc (Below.refl _ _) _) _)) HL3.out
    (C_cmd1 [wG, wK] (g1 := w3.heap.size) (cs := #[.string ⟨#[71, 69, 84]⟩, .string ⟨#[107]⟩]) (fr := (0, 0)) (fr2 := (0, 0)) (t := 9) (t2 := 22) (c := 2) (heap_two1 w3 _ _) rfl (by decide) (by decide) (heap_two2 w3 _ _)) (by decide) (by rw [HX.out]; exact sameGK)).mono ?_
  rintro e w4 ⟨rfl, hd⟩
  have HB4 := Aside0.mk (below_then (below_alloc (below_alloc HB3.out _) _) (below_alloc (below_alloc HB3.out _) _).size hd.below)
  clear hd
  go_wp2
  go_ret
  exact ⟨rfl, HB4.out⟩
end Go.Proofs.YtbfbmgkgaokecaaDoor.PS
