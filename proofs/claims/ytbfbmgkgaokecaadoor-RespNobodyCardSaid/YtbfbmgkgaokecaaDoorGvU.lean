/- Layer 19: parsers side by side; RespNobody 6, by hand. -/
import Derived.Test.YtbfbmgkgaokecaaDoorGvT
namespace Go.Proofs.YtbfbmgkgaokecaaDoor.PS
open Go.RowKit Go.Proofs.YtbfbmgkgaokecaaDoorW.PrintWords Go.Proofs.YtbfbmgkgaokecaaDoorW.PrintLast Go.Proofs.YtbfbmgkgaokecaaDoorW.PrintMore
set_option linter.unusedVariables false
set_option linter.unusedSimpArgs false

theorem cell_block {W W' : World} {a : Addr} (h : W'.heap[a.block]? = W.heap[a.block]?) : W'.cell? a = W.cell? a := by
  unfold World.cell?
  rw [h]
theorem add_block (a : Addr) (n : Nat) : (a.add n).block = a.block := by unfold Addr.add; split <;> rfl
/-- Bytes that are read: they lie in blocks that were there. -/
theorem C_V {W : World} {A : Option Addr} {c : Nat} {xs : List Int} (h : Kd.C (Kd.int .u8) W A xs.length xs) (hc : xs.length ≤ c) (base : Nat) : Kd.V (Kd.int .u8) 5 W base (fun k => k < W.heap.size) (.slice A xs.length c) xs := by
  refine ⟨A, c, rfl, hc, fun W' hW => ⟨rfl, h.2.1, fun hn => ?_⟩⟩
  obtain ⟨ad, hA, hx⟩ := h.2.2 hn
  have hlt : ad.block < W.heap.size := by
    obtain ⟨c0, hl, _, hcell⟩ := hx 0 _ (List.getElem?_eq_getElem hn)
    have hs : 0 < c0.length := by rw [hl]; exact Nat.zero_lt_one
    have := hcell 0 _ (List.getElem?_eq_getElem hs)
    exact World.block_lt_of_cell? W _ this
  refine ⟨ad, hA, fun j p hj => ?_⟩
  obtain ⟨c0, hl, hK, hcell⟩ := hx j p hj
  refine ⟨c0, hl, hK, fun i u hu => ?_⟩
  rw [cell_block (W := W) (hW _ (by rw [add_block]; exact hlt) (by rw [add_block]; exact hlt))]
  exact hcell i u hu
theorem IsP_kept {W W' : World} {base g : Nat} {ok S : Nat → Prop} {hd : List Int} {e : Int} {m : Bool} (h : IsP W base g ok hd e m) (hk : Kept W W' S) (hg : ¬ S g) (hok : ∀ k, ok k → ¬ S k) : IsP W' base g ok hd e m := by
  obtain ⟨v, h1, h2, h3⟩ := h
  exact ⟨v, (hk.2 g (blk_lt h1) hg).trans h1, h2, Kd.Q_kept h3 hk hok⟩
theorem IsP_bound {W : World} {base g : Nat} {ok : Nat → Prop} {hd : List Int} {e : Int} {m : Bool} (h : IsP W base g ok hd e m) : IsP W base g (fun k => ok k ∧ k < W.heap.size) hd e m := by
  obtain ⟨v, h1, h2, h3⟩ := h
  exact ⟨v, h1, h2, Kd.Q_mono (Kd.Q_bound h3) (fun k hk => ⟨hk.1, hk.2.2.1⟩)⟩
theorem IsP_mono {W : World} {base g : Nat} {ok ok' : Nat → Prop} {hd : List Int} {e : Int} {m : Bool} (h : IsP W base g ok hd e m) (hok : ∀ k, ok k → ok' k) : IsP W base g ok' hd e m := by
  obtain ⟨v, h1, h2, h3⟩ := h
  exact ⟨v, h1, h2, Kd.Q_mono h3 hok⟩
theorem IsP_below {W W' : World} {base g : Nat} {ok : Nat → Prop} {hd : List Int} {e : Int} {m : Bool} (h : IsP W base g ok hd e m) (hb : Below W.heap.size W W') : IsP W' base g ok hd e m := by
  obtain ⟨v, h1, h2, h3⟩ := h
  exact ⟨v, (hb.block g (blk_lt h1)).trans h1, h2, Kd.Q_below h3 hb⟩
theorem prs_fault : ∀ (k : Nat) (l : List UInt8) (acc : List (List ByteArray)), (prs k l acc).2.1 ≠ 0 → (prs k l acc).2.2 = []
  | 0, _, _, h => absurd rfl h
  | k + 1, l, acc, h => by
    rw [prs] at h ⊢
    by_cases h4 : (cmd l).2.2 = 4
    · rw [if_pos h4] at h; exact absurd rfl h
    · rw [if_neg h4] at h ⊢
      by_cases h0 : (cmd l).2.2 = 0
      · rw [if_pos h0] at h ⊢; exact prs_fault k _ _ h
      · rw [if_neg h0]
theorem parse_fault {l : List UInt8} (h : (parse l).2.1 ≠ 0) : (parse l).2.2 = [] := prs_fault _ _ _ h
/-- Feed, in the words of 'parse'. -/
theorem feed_calls (base g : Nat) (ok : Nat → Prop) (P0 : Nat → Prop) (hd b : List UInt8) (A0 : Option Addr) (c0 : Nat) (w0 w : World) (hG : Vb.Num w0) (hB0 : Below base w0 w) (hbase : base ≤ w.heap.size) (hw0 : base = w0.heap.size)
    (hP : IsP w base g ok (ints hd) 0 true) (hs0 : Kd.V (Kd.int .u8) 5 w w.heap.size P0 (.slice A0 b.length c0) (ints b)) (hl : hd.length + b.length ≤ 900000000000) :
    Calls Tryd.prog 19 #[.pointer (some ⟨g, 0, none⟩), .slice A0 b.length c0] w fun e w' => ∃ v : Value, e = .returned (.tuple #[v, .int .i64 (parse (hd ++ b)).2.1]) ∧ Kd.R (Kd.slice 9 Kd.string) 22 w' w.heap.size (fun k_ => w.heap.size ≤ k_ ∧ k_ < w'.heap.size) v (parse (hd ++ b)).1 ∧
      IsP w' base g (fun k_ => (ok k_ ∨ w.heap.size ≤ k_) ∧ k_ < w'.heap.size) (ints (parse (hd ++ b)).2.2) (parse (hd ++ b)).2.1 true ∧ Below base w0 w' ∧ Kept w w' (fun k_ => k_ = g ∨ ok k_) := by
  subst hw0
  have hf := feed_eq hd b (by omega)
  have h := resp_Parser_Feed.calls _ w0.heap.size g ok P0 (ints hd) A0 c0 (ints b) _ _ _ _ w0 w (Vb.Num.grown hG hB0) hB0 hbase (fun w' h => Vb.Num.grown hG h) hP (by rw [ints_length]; exact hs0) (by rw [ints_length, ints_length]; omega) hf
  rw [ints_length] at h
  refine h.mono ?_
  rintro e w' ⟨v, rfl, h1, h2, h3, h4⟩
  exact ⟨v, rfl, Kd.R_mono (Kd.R_bound h1) (fun k hk => ⟨hk.1, hk.2.2.1⟩), IsP_bound h2, h3, h4⟩
/-- Feed finds a fault at once. -/
theorem feed_bad (base g : Nat) (ok : Nat → Prop) (P0 : Nat → Prop) (b : List UInt8) (A0 : Option Addr) (c0 : Nat) (w0 w : World) (hG : Vb.Num w0) (hB0 : Below base w0 w) (hbase : base ≤ w.heap.size) (hw0 : base = w0.heap.size)
    (hP : IsP w base g ok [] 0 true) (hs0 : Kd.V (Kd.int .u8) 5 w w.heap.size P0 (.slice A0 b.length c0) (ints b)) (hl : b.length ≤ 150000000000000) (h4 : (cmd b).2.2 ≠ 4) (h0 : (cmd b).2.2 ≠ 0) :
    Calls Tryd.prog 19 #[.pointer (some ⟨g, 0, none⟩), .slice A0 b.length c0] w fun e w' => ∃ v : Value, e = .returned (.tuple #[v, .int .i64 (cmd b).2.2]) ∧ Kd.R (Kd.slice 9 Kd.string) 22 w' w.heap.size (fun k_ => w.heap.size ≤ k_) v [] ∧ Below base w0 w' := by
  subst hw0
  have hf := feed_err b (by omega) h4 h0
  have h := resp_Parser_Feed.calls _ w0.heap.size g ok P0 (ints []) A0 c0 (ints b) _ _ _ _ w0 w (Vb.Num.grown hG hB0) hB0 hbase (fun w' h => Vb.Num.grown hG h) hP (by rw [ints_length]; exact hs0) (by rw [ints_length, ints_length, List.length_nil]; omega) hf
  rw [ints_length] at h
  refine h.mono ?_
  rintro e w' ⟨v, rfl, h1, h2, h3, h4⟩
  exact ⟨v, rfl, h1, h3⟩
end Go.Proofs.YtbfbmgkgaokecaaDoor.PS
