/- Layer 19: parsers side by side; RespNobody 6, by hand. -/
import Derived.Test.YtbfbmgkgaokecaaDoorGvT
namespace Go.Proofs.YtbfbmgkgaokecaaDoor.PS
open Go.RowKit Go.Proofs.YtbfbmgkgaokecaaDoorW.PrintWords Go.Proofs.YtbfbmgkgaokecaaDoorW.PrintLast Go.Proofs.YtbfbmgkgaokecaaDoorW.PrintMore
set_option linter.unusedVariables false
set_option linter.unusedSimpArgs false

theorem cell_block {W W' : World} {a : Addr} (h : W'.heap[a.block]? = W.heap[a.block]?) : W'.cell? a = W.cell? a := by
  unfold World.cell?
  rw [h]
theorem add_block (a : Addr) (n : Nat) : (a.add n).block = a.block := by unfold Addr.add; split <;> rfl
/-- Bytes that are read: they lie in blocks that were there. -/
theorem C_V {W : World} {A : Option Addr} {c : Nat} {xs : List Int} (h : Kd.C (Kd.int .u8) W A xs.length xs) (hc : xs.length ≤ c) (base : Nat) : Kd.V (Kd.int .u8) 5 W base (fun k => k < W.heap.size) (.slice A xs.length c) xs := by
  refine ⟨A, c, rfl, hc, fun W' hW => ⟨rfl, h.2.1, fun hn => ?_⟩⟩
  obtain ⟨ad, hA, hx⟩ := h.2.2 hn
  have hlt : ad.block < W.heap.size := by
    obtain ⟨c0, hl, _, hcell⟩ := hx 0 _ (List.getElem?_eq_getElem hn)
    have hs : 0 < c0.length := by rw [hl]; exact Nat.zero_lt_one
    have := hcell 0 _ (List.getElem?_eq_getElem hs)
    exact World.block_lt_of_cell? W _ this
  refine ⟨ad, hA, fun j p hj => ?_⟩
  obtain ⟨c0, hl, hK, hcell⟩ := hx j p hj
  refine ⟨c0, hl, hK, fun i u hu => ?_⟩
  rw [cell_block (W := W) (hW _ (by rw [add_block]; exact hlt) (by rw [add_block]; exact hlt))]
  exact hcell i u hu
theorem IsP_kept {W W' : World} {base g : Nat} {ok S : Nat → Prop} {hd : List Int} {e : Int} {m : Bool} (h : IsP W base g ok hd e m) (hk : Kept W W' S) (hg : ¬ S g) (hok : ∀ k, ok k → ¬ S k) : IsP W' base g ok hd e m := by
  obtain ⟨v, h1, h2, h3⟩ := h
  exact ⟨v, (hk.2 g (blk_lt h1) hg).trans h1, h2, Kd.Q_kept h3 hk hok⟩
theorem IsP_bound {W : World} {base g : Nat} {ok : Nat → Prop} {hd : List Int} {e : Int} {m : Bool} (h : IsP W base g ok hd e m) : IsP W base g (fun k => ok k ∧ k < W.heap.size) hd e m := by
  obtain ⟨v, h1, h2, h3⟩ := h
  exact ⟨v, h1, h2, Kd.Q_mono (Kd.Q_bound h3) (fun k hk => ⟨hk.1, hk.2.2.1⟩)⟩
theorem IsP_mono {W : World} {base g : Nat} {ok ok' : Nat → Prop} {hd : List Int} {e : Int} {m : Bool} (h : IsP W base g ok hd e m) (hok : ∀ k, ok k → ok' k) : IsP W base g ok' hd e m := by
  obtain ⟨v, h1, h2, h3⟩ := h
  exact ⟨v, h1, h2, Kd.Q_mono h3 hok⟩
theorem IsP_below {W W' : World} {base g : Nat} {ok : Nat → Prop} {hd : List Int} {e : Int} {m : Bool} (h : IsP W base g ok hd e m) (hb : Below W.heap.size W W') : IsP W' base g ok hd e m := by
  obtain ⟨v, h1, h2, h3⟩ := h
  exact ⟨v, (hb.block g (blk_lt h1)).trans h1, h2, Kd.Q_below h3 hb⟩
theorem prs_fault : ∀ (k : Nat) (l : List UInt8) (acc : List (List ByteArray)), (prs k l acc).2.1 ≠ 0 → (prs k l acc).2.2 = []
  | 0, _, _, h => absurd rfl h
  | k + 1, l, acc, h => by
    rw [prs] at h ⊢
    by_cases h4 : (cmd l).2.2 = 4
    · rw [if_pos h4] at h; exact absurd rfl h
    · rw [if_neg h4] at h ⊢
      by_cases h0 : (cmd l).2.2 = 0
      · rw [if_pos h0] at h ⊢; exact prs_fault k _ _ h
      · rw [if_neg h0]
theorem parse_fault {l : List UInt8} (h : (parse l).2.1 ≠ 0) : (parse l).2.2 = [] := prs_fault _ _ _ h
/-- Feed, in the words of 'parse'. -/
theorem feed_calls (base g : Nat) (ok : Nat → Prop) (P0 : Nat → Prop) (hd b : List UInt8) (A0 : Option Addr) (c0 : Nat) (w0 w : World) (hG : Vb.Num w0) (hB0 : Below base w0 w) (hbase : base ≤ w.heap.size) (hw0 : base = w0.heap.size)
    (hP : IsP w base g ok (ints hd) 0 true) (hs0 : Kd.V (Kd.int .u8) 5 w w.heap.size P0 (.slice A0 b.length c0) (ints b)) (hl : hd.length + b.length ≤ 900000000000) :
    Calls Tryd.prog 19 #[.pointer (some ⟨g, 0, none⟩), .slice A0 b.length c0] w fun e w' => ∃ v : Value, e = .returned (.tuple #[v, .int .i64 (parse (hd ++ b)).2.1]) ∧ Kd.R (Kd.slice 9 Kd.string) 22 w' w.heap.size (fun k_ => w.heap.size ≤ k_ ∧ k_ < w'.heap.size) v (parse (hd ++ b)).1 ∧
      IsP w' base g (fun k_ => (ok k_ ∨ w.heap.size ≤ k_) ∧ k_ < w'.heap.size) (ints (parse (hd ++ b)).2.2) (parse (hd ++ b)).2.1 true ∧ Below base w0 w' ∧ Kept w w' (fun k_ => k_ = g ∨ ok k_) := by
  subst hw0
  have hf := feed_eq hd b (by omega)
  have h := resp_Parser_Feed.calls _ w0.heap.size g ok P0 (ints hd) A0 c0 (ints b) _ _ _ _ w0 w (Vb.Num.grown hG hB0) hB0 hbase (fun w' h => Vb.Num.grown hG h) hP (by rw [ints_length]; exact hs0) (by rw [ints_length, ints_length]; omega) hf
  rw [ints_length] at h
  refine h.mono ?_
  rintro e w' ⟨v, rfl, h1, h2, h3, h4⟩
  exact ⟨v, rfl, Kd.R_mono (Kd.R_bound h1) (fun k hk => ⟨hk.1, hk.2.2.1⟩), IsP_bound h2, h3, h4⟩
/-- Feed finds a fault at once. -/
theorem feed_bad (base g : Nat) (ok : Nat → Prop) (P0 : Nat → Prop) (b : List UInt8) (A0 : Option Addr) (c0 : Nat) (w0 w : World) (hG : Vb.Num w0) (hB0 : Below base w0 w) (hbase : base ≤ w.heap.size) (hw0 : base = w0.heap.size)
    (hP : IsP w base g ok [] 0 true) (hs0 : Kd.V (Kd.int .u8) 5 w w.heap.size P0 (.slice A0 b.length c0) (ints b)) (hl : b.length ≤ 150000000000000) (h4 : (cmd b).2.2 ≠ 4) (h0 : (cmd b).2.2 ≠ 0) :
    Calls Tryd.prog 19 #[.pointer (some ⟨g, 0, none⟩), .slice A0 b.length c0] w fun e w' => ∃ v : Value, e = .returned (.tuple #[v, .int .i64 (cmd b).2.2]) ∧ Kd.R (Kd.slice 9 Kd.string) 22 w' w.heap.size (fun k_ => w.heap.size ≤ k_) v [] ∧ Below base w0 w' := by
  subst hw0
  have hf := feed_err b (by omega) h4 h0
  have h := resp_Parser_Feed.calls _ w0.heap.size g ok P0 (ints []) A0 c0 (ints b) _ _ _ _ w0 w (Vb.Num.grown hG hB0) hB0 hbase (fun w' h => Vb.Num.grown hG h) hP (by rw [ints_length]; exact hs0) (by rw [ints_length, ints_length, List.length_nil]; omega) hf
  rw [ints_length] at h
  refine h.mono ?_
  rintro e w' ⟨v, rfl, h1, h2, h3, h4⟩
  exact ⟨v, rfl, h1, h3⟩
/-- A block of bytes. -/
def T5 (W : World) (k : Nat) : Prop := ∃ cs, W.heap[k]? = some (.cells cs 5 (0, 0))
theorem IsP_T5 {W : World} {base g : Nat} {ok : Nat → Prop} {hd : List Int} {e : Int} {m : Bool} (h : IsP W base g ok hd e m) : IsP W base g (fun k => (ok k ∧ k < W.heap.size) ∧ T5 W k) hd e m := by
  obtain ⟨v, h1, h2, h3⟩ := h
  refine ⟨v, h1, h2, Kd.Q_mono (Kd.Q_bound h3) (fun k hk => ⟨⟨hk.1, hk.2.2.1⟩, ?_⟩)⟩
  obtain ⟨q, hq, hc⟩ := hk.2.2.2
  have : q = 5 := by simpa [Kd.int, Kd.scalar] using hq
  subst this
  exact hc
theorem R_T5 {W : World} {base : Nat} {ok : Nat → Prop} {v : Value} {xs : List (List ByteArray)} (h : Kd.R (Kd.slice 9 Kd.string) 22 W base ok v xs) : Kd.R (Kd.slice 9 Kd.string) 22 W base (fun k => (ok k ∧ k < W.heap.size) ∧ ¬ T5 W k) v xs := by
  refine Kd.R_mono (Kd.R_bound h) (fun k hk => ⟨⟨hk.1, hk.2.2.1⟩, ?_⟩)
  rintro ⟨cs, hc⟩
  obtain ⟨q, hq, cs2, hc2⟩ := hk.2.2.2
  rw [hc] at hc2
  simp only [Option.some.injEq, Obj.cells.injEq] at hc2
  have : q = 22 ∨ q = 9 := by simpa [Kd.slice, Kd.string, Kd.scalar] using hq
  have h5 := hc2.2.1
  rcases this with h | h <;> (rw [h] at h5; exact absurd h5 (by decide))
/-- Feed, of a parser that has seen bytes s: what is told goes on from what was told. -/
theorem feed_seen (base g : Nat) (ok : Nat → Prop) (P0 : Nat → Prop) (s b : List UInt8) (A0 : Option Addr) (c0 : Nat) (w0 w : World) (hG : Vb.Num w0) (hB0 : Below base w0 w) (hbase : base ≤ w.heap.size) (hw0 : base = w0.heap.size)
    (hP : IsP w base g ok (ints (parse s).2.2) (parse s).2.1 true) (hs0 : Kd.V (Kd.int .u8) 5 w w.heap.size P0 (.slice A0 b.length c0) (ints b)) (hl : s.length + b.length ≤ 900000000000) :
    Calls Tryd.prog 19 #[.pointer (some ⟨g, 0, none⟩), .slice A0 b.length c0] w fun e w' => ∃ (v : Value) (N : List (List ByteArray)), e = .returned (.tuple #[v, .int .i64 (parse (s ++ b)).2.1]) ∧ (parse (s ++ b)).1 = (parse s).1 ++ N ∧
      Kd.R (Kd.slice 9 Kd.string) 22 w' w.heap.size (fun k_ => (w.heap.size ≤ k_ ∧ k_ < w'.heap.size) ∧ ¬ T5 w' k_) v N ∧
      IsP w' base g (fun k_ => ((ok k_ ∨ w.heap.size ≤ k_) ∧ k_ < w'.heap.size) ∧ T5 w' k_) (ints (parse (s ++ b)).2.2) (parse (s ++ b)).2.1 true ∧ Below base w0 w' ∧ Kept w w' (fun k_ => k_ = g ∨ ok k_) := by
  have hm := parse_more s b
  by_cases hE : (parse s).2.1 = 0
  · rw [if_pos hE] at hm
    rw [hE] at hP
    have hle : (parse s).2.2.length ≤ s.length := prs_left _ s []
    refine (feed_calls base g ok P0 (parse s).2.2 b A0 c0 w0 w hG hB0 hbase hw0 hP hs0 (by omega)).mono ?_
    rintro e w' ⟨v, rfl, h1, h2, h3, h4⟩
    rw [hm]
    exact ⟨v, _, rfl, rfl, Kd.R_mono (R_T5 h1) (fun k hk => ⟨hk.1.1, hk.2⟩), IsP_mono (IsP_T5 h2) (fun k hk => ⟨hk.1.1, hk.2⟩), h3, h4⟩
  · rw [if_neg hE] at hm
    have hf := parse_fault hE
    refine (resp_Parser_Feed.calls1 0 base g ok _ _ (.slice A0 b.length c0) w hE hP).mono ?_
    rintro e w' ⟨rfl, hb⟩
    rw [hm]
    dsimp only
    rw [hf] at hP
    exact ⟨_, [], rfl, (List.append_nil _).symm, Kd.R_nil _ _ _ _ _, IsP_mono (IsP_T5 (IsP_below hP hb)) (fun k hk => ⟨⟨.inl hk.1.1, hk.1.2⟩, hk.2⟩), below_then hB0 hbase hb, Kept.of_below hb _⟩
theorem V_takeB {W : World} {base : Nat} {ok : Nat → Prop} {A : Option Addr} {c : Nat} {l : List UInt8} (h : Kd.V (Kd.int .u8) 5 W base ok (.slice A l.length c) (ints l)) (m : Nat) (hm : m ≤ l.length) (b' : Nat) : Kd.V (Kd.int .u8) 5 W b' ok (.slice A (l.take m).length c) (ints (l.take m)) := by
  obtain ⟨h1, h2, h3⟩ := Kd.V_at h
  have := Kd.F_take h3 (m := m) (by rw [ints_length]; exact hm)
  rw [ints_take, ints_length] at this
  rw [← ints_length (l.take m)]
  exact ⟨A, c, rfl, by rw [ints_length, List.length_take]; rw [ints_length] at h1; omega, by rw [ints_length]; exact this⟩
theorem V_midB {W : World} {base : Nat} {ok : Nat → Prop} {A : Option Addr} {c : Nat} {l : List UInt8} (h : Kd.V (Kd.int .u8) 5 W base ok (.slice A l.length c) (ints l)) (lo hi : Nat) (h1 : lo ≤ hi) (h2 : hi ≤ l.length) (b' : Nat) :
    Kd.V (Kd.int .u8) 5 W b' ok (.slice (if c = lo then A else A.map (·.add lo)) (hi - lo) (c - lo)) (ints ((l.take hi).drop lo)) := by
  obtain ⟨g1, g2, g3⟩ := Kd.V_at h
  rw [ints_length] at g1
  have := Kd.F_mid g3 h1 (by rw [ints_length]; exact h2) (c := c) (by rw [ints_length]; exact g2)
  rw [ints_take, ints_drop] at this
  have hlen : (ints ((l.take hi).drop lo)).length = hi - lo := by rw [ints_length, List.length_drop, List.length_take]; omega
  have e1 : lo * (Kd.int .u8).sz = lo := Nat.mul_one lo
  rw [e1] at this
  rw [← hlen]
  exact ⟨_, _, rfl, by rw [hlen]; omega, this⟩
theorem V_cutB {W : World} {base : Nat} {ok : Nat → Prop} {A : Option Addr} {c : Nat} {l : List UInt8} (h : Kd.V (Kd.int .u8) 5 W base ok (.slice A l.length c) (ints l)) (lo : Nat) (h2 : lo ≤ l.length) (b' : Nat) :
    Kd.V (Kd.int .u8) 5 W b' ok (.slice (if c = lo then A else A.map (·.add lo)) (l.length - lo) (c - lo)) (ints (l.drop lo)) := by
  have := V_midB h lo l.length h2 (Nat.le_refl _) b'
  rw [List.take_length] at this
  exact this
end Go.Proofs.YtbfbmgkgaokecaaDoor.PS
