/- verb.parts: a pattern's parts. -/
import Derived.Test.YtbfbmgkgaokecaaDoorBrk
set_option linter.unusedVariables false
set_option linter.unusedSimpArgs false
namespace Go.Proofs.YtbfbmgkgaokecaaDoor.Vb
open Go.RowKit

/-- The part with which a pattern begins, and how many bytes it takes. -/
def onePart (c : UInt8) (rest : List UInt8) : (Int × List Bool) × Nat :=
  if c = 42 then ((0, f0), 1) else if c = 63 then ((1, f0), 1) else if c = 91 then ((2, (brk (c :: rest)).1), (brk (c :: rest)).2)
  else match rest with
    | d :: _ => if c = 92 then ((2, justF d.toNat), 2) else ((2, justF c.toNat), 1)
    | [] => ((2, justF c.toNat), 1)
theorem brk_pos (l : List UInt8) : 1 ≤ (brk l).2 := by
  unfold brk
  split
  · simp
  · simp only; split <;> simp
theorem onePart_pos (c : UInt8) (rest : List UInt8) : 1 ≤ (onePart c rest).2 := by
  unfold onePart
  split
  · simp
  · split
    · simp
    · split
      · exact brk_pos _
      · split
        · split <;> simp
        · simp
/-- A pattern's parts. -/
def partsL : List UInt8 → List (Int × List Bool)
  | [] => []
  | c :: rest => (onePart c rest).1 :: partsL ((c :: rest).drop (onePart c rest).2)
termination_by l => l.length
decreasing_by
  have := onePart_pos c rest
  simp only [List.length_drop, List.length_cons]
  omega
theorem partsL_cons (c : UInt8) (rest : List UInt8) : partsL (c :: rest) = (onePart c rest).1 :: partsL ((c :: rest).drop (onePart c rest).2) := by rw [partsL]
theorem brk_length (l : List UInt8) : (brk l).1.length = 256 := by
  unfold brk
  split
  · exact justF_length _
  · simp only; split
    · exact justF_length _
    · exact classF_length _ _
theorem onePart_length (c : UInt8) (rest : List UInt8) : (onePart c rest).1.2.length = 256 := by
  unfold onePart
  split
  · exact f0_length
  · split
    · exact f0_length
    · split
      · exact brk_length _
      · split
        · split <;> exact justF_length _
        · exact justF_length _
theorem brk_le (l : List UInt8) (h : 1 ≤ l.length) : (brk l).2 ≤ l.length := by
  unfold brk
  split
  · simpa using h
  · simp only; split
    · simpa using h
    · have := indexByte_lt (l := l.drop (brkFrom l + 1)) (c := 93)
      rw [List.length_drop] at this
      omega
theorem onePart_le (c : UInt8) (rest : List UInt8) : (onePart c rest).2 ≤ (c :: rest).length := by
  unfold onePart
  split
  · simp
  · split
    · simp
    · split
      · exact brk_le _ (by simp)
      · split
        · split <;> simp
        · simp
def pcells (pl : List (Int × List Bool)) : List Value := pl.flatMap fun p => partL p.1 p.2
theorem pcells_snoc (pl : List (Int × List Bool)) (p : Int × List Bool) : pcells (pl ++ [p]) = pcells pl ++ partL p.1 p.2 := by simp [pcells]

theorem own_below {w w1 : World} {base : Nat} {e : TypeId} {size n : Nat} {v : Value} {xs : List Value} (h : w.ownsRow base e size v n xs) (hb : Below w.heap.size w w1) : w1.ownsRow base e size v n xs :=
  h.kept (w' := w1) (row := none) ⟨hb.os, hb.tape, hb.output, hb.size, fun i hi _ => hb.block i hi⟩ (by cases v.ownBlock <;> simp)
/-- An append's frame, over what came ahead of it. -/
theorem own_grown_below {w w1 w2 : World} {B : Nat} {e : TypeId} {size n : Nat} {v : Value} {xs : List Value} (hb : Below B w w1) (hg : w1.grownBy w2 v.ownBlock) {wo : World} (ho : wo.ownsRow B e size v n xs) (hB : B ≤ w1.heap.size) : Below B w w2 :=
  hb.grown hg hB (fun k hk => by
    rcases ho.2 with ⟨rfl, _⟩ | ⟨g, cap, cur, rfl, hg', _⟩
    · simp [Value.ownBlock] at hk
    · have : g = k := by simpa [Value.ownBlock] using hk
      omega)

/-- A new variable for a part, and the part in it. -/
theorem fresh107 (w : World) (k : Int) (f : List Bool) (hf : f.length = 256) : ∃ w1, (storeCells ⟨w.heap.size, 0, none⟩ (partC k f).toList).run Tryd.prog (w.alloc (.cells Tryd.zeroCells107 107)) = .ok () w1 ∧
    ERow w1 w.heap.size 107 (partC k f) ∧ Below w.heap.size w w1 ∧ w1.heap.size = w.heap.size + 1 := by
  have e1 := one107 w
  refine ⟨_, cells107 0 k f0 f f0_length hf _ _ e1, e1.setRow _, below_setRow ((Below.refl _ _).alloc (Nat.le_refl _) _) (Nat.le_refl _) _, ?_⟩
  rw [setRow_size, alloc_size]
/-- The part in a variable turned. -/
theorem again107 (w : World) (g : Nat) (k k' : Int) (f f' : List Bool) (hf : f.length = 256) (hf' : f'.length = 256) (h : ERow w g 107 (partC k f)) : ∃ w1, (storeCells ⟨g, 0, none⟩ (partC k' f').toList).run Tryd.prog w = .ok () w1 ∧
    ERow w1 g 107 (partC k' f') ∧ Below g w w1 ∧ w1.heap.size = w.heap.size :=
  ⟨_, cells107 k k' f f' hf hf' _ _ h, h.setRow _, below_setRow (Below.refl _ _) (Nat.le_refl _) _, setRow_size ..⟩

theorem u8_eq {c d : UInt8} (h : ((c.toNat : Int) == (d.toNat : Int)) = true) : c = d := UInt8.toNat_inj.1 (by have := eq_of_beq h; omega)
theorem u8_ne {c d : UInt8} (h : ((c.toNat : Int) == (d.toNat : Int)) = false) : ¬ c = d := by
  rintro rfl
  simp at h
theorem pair3 {α β γ : Type} {a a' : α} {b b' : β} {c c' : γ} (h : ((a, b), c) = ((a', b'), c')) : (a = a' ∧ b = b') ∧ c = c' := by
  injection h with h1 h2; injection h1 with h3 h4; exact ⟨⟨h3, h4⟩, h2⟩
theorem info107 : (Tryd.prog.info? 107).map (fun i => (i.zero, i.size, i.bytes)) = some (some (.agg Tryd.zeroCells107), 257, 264) := by kernel_rfl
theorem zero107' (w : World) : (zeroValue 107).run Tryd.prog w = .ok (.agg Tryd.zeroCells107) w := by kernel_rfl

set_option maxRecDepth 20000 in
set_option maxHeartbeats 4000000 in
theorem parts_calls (s : ByteArray) (hs : s.size ≤ 100000) (w : World) :
    Calls Tryd.prog 62 #[.string s] w fun e w' => ∃ v, e = .returned v ∧ w'.ownsRow w.heap.size 107 257 v (partsL s.data.toList).length (pcells (partsL s.data.toList)) ∧ Below w.heap.size w w' := by
  have hlen : s.data.toList.length = s.size := Array.length_toList
  have HL := Lib.hid hlen
  clear hlen
  obtain ⟨i0, hi, hz0, hz1, hz2⟩ := info_parts info107
  have HI := Lib.hid hi; have HZ0 := Lib.hid hz0; have HZ1 := Lib.hid hz1; have HZ2 := Lib.hid hz2
  clear hi hz0 hz1 hz2
  go_enter Tryd.func62, Tryd.ntmps62
  go_wp2
  go_loopw [3, 4] (fun v i wr => ∃ (k : Nat) (pl : List (Int × List Bool)), k ≤ s.size ∧ i = .int .i64 k ∧ wr.ownsRow w.heap.size 107 257 v pl.length (pcells pl) ∧ Below w.heap.size w wr ∧ pl.length ≤ k ∧ Hid (pl ++ partsL (s.data.toList.drop k) = partsL s.data.toList)) (fun _ i _ => s.size - (intOf i).toNat)
  case atStart => exact ⟨0, [], Nat.zero_le _, rfl, ⟨rfl, .inl ⟨rfl, rfl⟩⟩, Below.refl _ _, Nat.le_refl _, rfl⟩
  case round =>
    obtain ⟨k, pl, hk, rfl, hown, hb, hpk, HC⟩ := hrel
    by_cases hlt : k < s.size
    · obtain ⟨c, hc⟩ : ∃ c, s[k] = c := ⟨_, rfl⟩
      have hdr := drop_byte hlt hc
      have hstep : partsL (s.data.toList.drop k) = (onePart c (s.data.toList.drop (k + 1))).1 :: partsL (s.data.toList.drop (k + (onePart c (s.data.toList.drop (k + 1))).2)) := by
        rw [hdr, partsL_cons, ← hdr, List.drop_drop]
      have hle : k + (onePart c (s.data.toList.drop (k + 1))).2 ≤ s.size := by
        have := onePart_le c (s.data.toList.drop (k + 1))
        rw [List.length_cons, List.length_drop, HL.out] at this
        omega
      have hpos := onePart_pos c (s.data.toList.drop (k + 1))
      have hplen := onePart_length c (s.data.toList.drop (k + 1))
      obtain ⟨q, hq⟩ : ∃ q, q = onePart c (s.data.toList.drop (k + 1)) := ⟨_, rfl⟩
      rw [← hq] at hstep hle hpos hplen
      obtain ⟨⟨qk, qf⟩, qn⟩ := q
      have HC2 : Hid ((pl ++ [(qk, qf)]) ++ partsL (s.data.toList.drop (k + qn)) = partsL s.data.toList) := by
        unfold Hid
        rw [← HC.out, hstep, List.append_assoc]; rfl
      have HQ := Lib.hid hq
      have HD := Lib.hid hdr
      have hql : qf.length = 256 := hplen
      have hle : k + qn ≤ s.size := hle
      have hpos : 1 ≤ qn := hpos
      clear hq hstep HC hdr hplen
      have HLQ := Lib.hid hql
      clear hql
      have hc255 : c.toNat ≤ 255 := by have := c.toNat_lt; omega
      go_wp2_with fail
      refine (just_calls c.toNat hc255 _).mono ?_
      rintro e w2 ⟨rfl, b2⟩
      obtain ⟨w3, hst3, r3, b3, z3⟩ := fresh107 w2 2 (justF c.toNat) (justF_length _)
      have b23 : Below wr.heap.size wr w3 := Below.comp' b2 b3 b2.size
      have hszj := partC_size 2 (justF_length c.toNat)
      have HZ3 := Lib.hid z3
      have hbw2 := b2.size
      by_cases h42 : ((c.toNat : Int) == 42) = true
      · obtain ⟨⟨rfl, rfl⟩, rfl⟩ := pair3 (HQ.out.trans (show onePart c _ = ((0, f0), 1) by unfold onePart; rw [if_pos (u8_eq h42)]))
        obtain ⟨w4, hst4, r4, b4, z4⟩ := again107 w3 w2.heap.size 2 0 (justF c.toNat) f0 (justF_length _) f0_length r3
        rw [← z107_set] at hst4
        have B5 := Lib.hid (b23.trans (b4.mono hbw2))
        have R5 := Lib.hid r4
        have HLF := Lib.hid f0_length
        clear r4 b4 z4 r3 b3 z3
        go_upto_region 13 with (fail)
        obtain ⟨PC, hPC⟩ : ∃ PC, PC = partC 0 f0 := ⟨_, rfl⟩
        have hps : PC.size = 257 := by rw [hPC]; exact partC_size _ HLF.out
        have RP : Hid (ERow w4 w2.heap.size 107 PC) := by unfold Hid; rw [hPC]; exact R5.out
        have HPS := Lib.hid hps
        have hown5 := own_below hown (B5.out.alloc B5.out.size (.cells PC 107))
        have HO5 := Lib.hid hown5
        have hnew : ∀ j u, (partL 0 f0)[j]? = some u → (w4.alloc (.cells PC 107)).cell? ((⟨w4.heap.size, 0, none⟩ : Addr).add j) = some u := by
          intro j u hu
          have e := (ERow.new w4 PC 107).cell j
          have ha : (⟨w4.heap.size, 0, none⟩ : Addr).add j = ⟨w4.heap.size, j, none⟩ := by unfold Addr.add; split <;> simp_all
          rw [ha, e]
          rw [hPC]; simpa [partC] using hu
        have HN := Lib.hid hnew
        clear hown5 hnew hps
        have HPC := Lib.hid hPC
        clear hPC
        refine wp_region_lit ?_
        refine wpList_move rfl (.tmp 3) (.inl rfl) ?_
        refine wpList_load_row rfl 107 (.tmp 5) rfl w2.heap.size rfl 107 PC (0, 0) _ RP.out Tryd.underlying107 rfl (by rw [size107, HPS.out]) ?_
        refine wpList_slice_one rfl 103 107 (.tmp 57) rfl PC Tryd.zeroCells107 257 rfl Tryd.underlying103 size107 (by omega) (by omega) (zero107' _) HPS.out ?_
        refine wpList_append_own _ rfl (.tmp 56) (.tmp 58) 103 rfl w.heap.size 107 i0 (.agg Tryd.zeroCells107) 257 264 Tryd.underlying103 HI.out HZ0.out HZ1.out HZ2.out (by kernel_rfl) (by decide) _ pl.length (pcells pl) rfl HO5.out ⟨w4.heap.size, 0, none⟩ 1 1 (partL 0 f0) rfl ?c1 HN.out ?c2 ?c3 ?c4 ?c5 ?_
        rotate_right
        intro v6 w6 hown6 hg6 _
        refine wpList_move rfl (.tmp 59) (.inr rfl) ?_
        refine wpList_nil ?_
        rotate_left
        case c1 => simp [partL, HLF.out]
        case c2 => intro u hu; exact partC_one 0 f0 u (by simpa [partC] using hu)
        case c3 => unfold maxLen; omega
        case c4 => omega
        case c5 => rw [alloc_size]; have := B5.out.size; have := hb.size; omega
        go_wp2
        go_roundw
        case rel => exact ⟨k + 1, pl ++ [(0, f0)], hle, by go_num, by rw [List.length_append, pcells_snoc]; exact hown6, own_grown_below (Below.comp' hb (B5.out.alloc B5.out.size _) hb.size) hg6 hown (by rw [alloc_size]; have := B5.out.size; have := hb.size; omega), by rw [List.length_append]; simp; omega, HC2⟩
        case measure => simp [intOf]; omega
      · have h42 : ((c.toNat : Int) == 42) = false := by simpa using h42
        by_cases h63 : ((c.toNat : Int) == 63) = true
        · obtain ⟨⟨rfl, rfl⟩, rfl⟩ := pair3 (HQ.out.trans (show onePart c _ = ((1, f0), 1) by unfold onePart; rw [if_neg (u8_ne h42), if_pos (u8_eq h63)]))
          obtain ⟨w4, hst4, r4, b4, z4⟩ := again107 w3 w2.heap.size 2 1 (justF c.toNat) f0 (justF_length _) f0_length r3
          rw [← z107_set] at hst4
          have B5 := Lib.hid (b23.trans (b4.mono hbw2))
          have R5 := Lib.hid r4
          have HLF := Lib.hid f0_length
          clear r4 b4 z4 r3 b3 z3
          go_upto_region 13 with (fail)
          obtain ⟨PC, hPC⟩ : ∃ PC, PC = partC 1 f0 := ⟨_, rfl⟩
          have hps : PC.size = 257 := by rw [hPC]; exact partC_size _ HLF.out
          have RP : Hid (ERow w4 w2.heap.size 107 PC) := by unfold Hid; rw [hPC]; exact R5.out
          have HPS := Lib.hid hps
          have hown5 := own_below hown (B5.out.alloc B5.out.size (.cells PC 107))
          have HO5 := Lib.hid hown5
          have hnew : ∀ j u, (partL 1 f0)[j]? = some u → (w4.alloc (.cells PC 107)).cell? ((⟨w4.heap.size, 0, none⟩ : Addr).add j) = some u := by
            intro j u hu
            have e := (ERow.new w4 PC 107).cell j
            have ha : (⟨w4.heap.size, 0, none⟩ : Addr).add j = ⟨w4.heap.size, j, none⟩ := by unfold Addr.add; split <;> simp_all
            rw [ha, e]
            rw [hPC]; simpa [partC] using hu
          have HN := Lib.hid hnew
          clear hown5 hnew hps
          have HPC := Lib.hid hPC
          clear hPC
          refine wp_region_lit ?_
          refine wpList_move rfl (.tmp 3) (.inl rfl) ?_
          refine wpList_load_row rfl 107 (.tmp 5) rfl w2.heap.size rfl 107 PC (0, 0) _ RP.out Tryd.underlying107 rfl (by rw [size107, HPS.out]) ?_
          refine wpList_slice_one rfl 103 107 (.tmp 57) rfl PC Tryd.zeroCells107 257 rfl Tryd.underlying103 size107 (by omega) (by omega) (zero107' _) HPS.out ?_
          refine wpList_append_own _ rfl (.tmp 56) (.tmp 58) 103 rfl w.heap.size 107 i0 (.agg Tryd.zeroCells107) 257 264 Tryd.underlying103 HI.out HZ0.out HZ1.out HZ2.out (by kernel_rfl) (by decide) _ pl.length (pcells pl) rfl HO5.out ⟨w4.heap.size, 0, none⟩ 1 1 (partL 1 f0) rfl ?c1 HN.out ?c2 ?c3 ?c4 ?c5 ?_
          rotate_right
          intro v6 w6 hown6 hg6 _
          refine wpList_move rfl (.tmp 59) (.inr rfl) ?_
          refine wpList_nil ?_
          rotate_left
          case c1 => simp [partL, HLF.out]
          case c2 => intro u hu; exact partC_one 1 f0 u (by simpa [partC] using hu)
          case c3 => unfold maxLen; omega
          case c4 => omega
          case c5 => rw [alloc_size]; have := B5.out.size; have := hb.size; omega
          go_wp2
          go_roundw
          case rel => exact ⟨k + 1, pl ++ [(1, f0)], hle, by go_num, by rw [List.length_append, pcells_snoc]; exact hown6, own_grown_below (Below.comp' hb (B5.out.alloc B5.out.size _) hb.size) hg6 hown (by rw [alloc_size]; have := B5.out.size; have := hb.size; omega), by rw [List.length_append]; simp; omega, HC2⟩
          case measure => simp [intOf]; omega
        · have h63 : ((c.toNat : Int) == 63) = false := by simpa using h63
          by_cases h91 : ((c.toNat : Int) == 91) = true
          · go_wp2_with fail
            have hex : (s.extract k s.size).data.toList = c :: s.data.toList.drop (k + 1) := by rw [Lib.extract_to_end, HD.out]
            refine (bracket_calls (s.extract k s.size) (by rw [ByteArray.size_extract]; omega) (by rw [ByteArray.size_extract]; omega) _).mono ?_
            rintro e w4 ⟨rfl, b4⟩
            rw [hex]
            obtain ⟨f, hf⟩ : ∃ f, f = (brk (c :: s.data.toList.drop (k + 1))).1 := ⟨_, rfl⟩
            obtain ⟨n, hn⟩ : ∃ n, n = (brk (c :: s.data.toList.drop (k + 1))).2 := ⟨_, rfl⟩
            have hfl : f.length = 256 := by rw [hf]; exact brk_length _
            have hqq : onePart c (s.data.toList.drop (k + 1)) = ((2, f), n) := by unfold onePart; rw [if_neg (u8_ne h42), if_neg (u8_ne h63), if_pos (u8_eq h91), hf, hn]
            obtain ⟨⟨rfl, rfl⟩, rfl⟩ := pair3 (HQ.out.trans hqq)
            rw [← hf, ← hn]
            clear hf hn hqq hex
            obtain ⟨w5, hst5, r5, b5, z5⟩ := again107 w4 w2.heap.size 2 2 (justF c.toNat) qf (justF_length _) hfl (r3.grown b4)
            have hszf := partC_size 2 hfl
            have B5 := Lib.hid ((Below.comp' b23 b4 b23.size).trans (b5.mono hbw2))
            have R5 := Lib.hid r5
            have HLF := Lib.hid hfl
            clear r5 b5 z5 r3 b3 z3 b4 hfl
            go_upto_region 13 with (fail)
            obtain ⟨PC, hPC⟩ : ∃ PC, PC = partC 2 qf := ⟨_, rfl⟩
            have hps : PC.size = 257 := by rw [hPC]; exact partC_size _ HLF.out
            have RP : Hid (ERow w5 w2.heap.size 107 PC) := by unfold Hid; rw [hPC]; exact R5.out
            have HPS := Lib.hid hps
            have hown5 := own_below hown (B5.out.alloc B5.out.size (.cells PC 107))
            have HO5 := Lib.hid hown5
            have hnew : ∀ j u, (partL 2 qf)[j]? = some u → (w5.alloc (.cells PC 107)).cell? ((⟨w5.heap.size, 0, none⟩ : Addr).add j) = some u := by
              intro j u hu
              have e := (ERow.new w5 PC 107).cell j
              have ha : (⟨w5.heap.size, 0, none⟩ : Addr).add j = ⟨w5.heap.size, j, none⟩ := by unfold Addr.add; split <;> simp_all
              rw [ha, e]
              rw [hPC]; simpa [partC] using hu
            have HN := Lib.hid hnew
            clear hown5 hnew hps
            have HPC := Lib.hid hPC
            clear hPC
            refine wp_region_lit ?_
            refine wpList_move rfl (.tmp 3) (.inl rfl) ?_
            refine wpList_load_row rfl 107 (.tmp 5) rfl w2.heap.size rfl 107 PC (0, 0) _ RP.out Tryd.underlying107 rfl (by rw [size107, HPS.out]) ?_
            refine wpList_slice_one rfl 103 107 (.tmp 57) rfl PC Tryd.zeroCells107 257 rfl Tryd.underlying103 size107 (by omega) (by omega) (zero107' _) HPS.out ?_
            refine wpList_append_own _ rfl (.tmp 56) (.tmp 58) 103 rfl w.heap.size 107 i0 (.agg Tryd.zeroCells107) 257 264 Tryd.underlying103 HI.out HZ0.out HZ1.out HZ2.out (by kernel_rfl) (by decide) _ pl.length (pcells pl) rfl HO5.out ⟨w5.heap.size, 0, none⟩ 1 1 (partL 2 qf) rfl ?c1 HN.out ?c2 ?c3 ?c4 ?c5 ?_
            rotate_right
            intro v6 w6 hown6 hg6 _
            refine wpList_move rfl (.tmp 59) (.inr rfl) ?_
            refine wpList_nil ?_
            rotate_left
            case c1 => simp [partL, HLF.out]
            case c2 => intro u hu; exact partC_one 2 qf u (by simpa [partC] using hu)
            case c3 => unfold maxLen; omega
            case c4 => omega
            case c5 => rw [alloc_size]; have := B5.out.size; have := hb.size; omega
            go_wp2
            go_roundw
            case rel => exact ⟨k + qn, pl ++ [(2, qf)], hle, by go_num, by rw [List.length_append, pcells_snoc]; exact hown6, own_grown_below (Below.comp' hb (B5.out.alloc B5.out.size _) hb.size) hg6 hown (by rw [alloc_size]; have := B5.out.size; have := hb.size; omega), by rw [List.length_append]; simp; omega, HC2⟩
            case measure => simp [intOf]; omega
          · have h91 : ((c.toNat : Int) == 91) = false := by simpa using h91
            by_cases hlt2 : k + 1 < s.size
            · by_cases h92 : ((c.toNat : Int) == 92) = true
              · obtain ⟨d, hd⟩ : ∃ d, s[k + 1] = d := ⟨_, rfl⟩
                have hdr2 := drop_byte hlt2 hd
                have hd255 : d.toNat ≤ 255 := by have := d.toNat_lt; omega
                have hqq : onePart c (s.data.toList.drop (k + 1)) = ((2, justF d.toNat), 2) := by unfold onePart; rw [if_neg (u8_ne h42), if_neg (u8_ne h63), if_neg (u8_ne h91), hdr2]; simp only; rw [if_pos (u8_eq h92)]
                obtain ⟨⟨rfl, rfl⟩, rfl⟩ := pair3 (HQ.out.trans hqq)
                clear hdr2 hqq
                go_wp2_with fail
                refine (just_calls d.toNat hd255 _).mono ?_
                rintro e w4 ⟨rfl, b4⟩
                obtain ⟨w5, hst5, r5, b5, z5⟩ := again107 w4 w2.heap.size 2 2 (justF c.toNat) (justF d.toNat) (justF_length _) (justF_length _) (r3.grown b4)
                have hszf := partC_size 2 (justF_length d.toNat)
                have B5 := Lib.hid ((Below.comp' b23 b4 b23.size).trans (b5.mono hbw2))
                have R5 := Lib.hid r5
                have HLF := Lib.hid (justF_length d.toNat)
                clear r5 b5 z5 r3 b3 z3 b4
                go_upto_region 13 with (fail)
                obtain ⟨PC, hPC⟩ : ∃ PC, PC = partC 2 (justF d.toNat) := ⟨_, rfl⟩
                have hps : PC.size = 257 := by rw [hPC]; exact partC_size _ HLF.out
                have RP : Hid (ERow w5 w2.heap.size 107 PC) := by unfold Hid; rw [hPC]; exact R5.out
                have HPS := Lib.hid hps
                have hown5 := own_below hown (B5.out.alloc B5.out.size (.cells PC 107))
                have HO5 := Lib.hid hown5
                have hnew : ∀ j u, (partL 2 (justF d.toNat))[j]? = some u → (w5.alloc (.cells PC 107)).cell? ((⟨w5.heap.size, 0, none⟩ : Addr).add j) = some u := by
                  intro j u hu
                  have e := (ERow.new w5 PC 107).cell j
                  have ha : (⟨w5.heap.size, 0, none⟩ : Addr).add j = ⟨w5.heap.size, j, none⟩ := by unfold Addr.add; split <;> simp_all
                  rw [ha, e]
                  rw [hPC]; simpa [partC] using hu
                have HN := Lib.hid hnew
                clear hown5 hnew hps
                have HPC := Lib.hid hPC
                clear hPC
                refine wp_region_lit ?_
                refine wpList_move rfl (.tmp 3) (.inl rfl) ?_
                refine wpList_load_row rfl 107 (.tmp 5) rfl w2.heap.size rfl 107 PC (0, 0) _ RP.out Tryd.underlying107 rfl (by rw [size107, HPS.out]) ?_
                refine wpList_slice_one rfl 103 107 (.tmp 57) rfl PC Tryd.zeroCells107 257 rfl Tryd.underlying103 size107 (by omega) (by omega) (zero107' _) HPS.out ?_
                refine wpList_append_own _ rfl (.tmp 56) (.tmp 58) 103 rfl w.heap.size 107 i0 (.agg Tryd.zeroCells107) 257 264 Tryd.underlying103 HI.out HZ0.out HZ1.out HZ2.out (by kernel_rfl) (by decide) _ pl.length (pcells pl) rfl HO5.out ⟨w5.heap.size, 0, none⟩ 1 1 (partL 2 (justF d.toNat)) rfl ?c1 HN.out ?c2 ?c3 ?c4 ?c5 ?_
                rotate_right
                intro v6 w6 hown6 hg6 _
                refine wpList_move rfl (.tmp 59) (.inr rfl) ?_
                refine wpList_nil ?_
                rotate_left
                case c1 => simp [partL, HLF.out]
                case c2 => intro u hu; exact partC_one 2 (justF d.toNat) u (by simpa [partC] using hu)
                case c3 => unfold maxLen; omega
                case c4 => omega
                case c5 => rw [alloc_size]; have := B5.out.size; have := hb.size; omega
                go_wp2
                go_roundw
                case rel => exact ⟨k + 2, pl ++ [(2, (justF d.toNat))], hle, by go_num, by rw [List.length_append, pcells_snoc]; exact hown6, own_grown_below (Below.comp' hb (B5.out.alloc B5.out.size _) hb.size) hg6 hown (by rw [alloc_size]; have := B5.out.size; have := hb.size; omega), by rw [List.length_append]; simp; omega, HC2⟩
                case measure => simp [intOf]; omega
              · have h92 : ((c.toNat : Int) == 92) = false := by simpa using h92
                obtain ⟨⟨rfl, rfl⟩, rfl⟩ := pair3 (HQ.out.trans (show onePart c (s.data.toList.drop (k + 1)) = ((2, justF c.toNat), 1) by unfold onePart; rw [if_neg (u8_ne h42), if_neg (u8_ne h63), if_neg (u8_ne h91)]; split <;> first | rfl | rw [if_neg (u8_ne h92)]))
                have B5 := Lib.hid b23
                have R5 := Lib.hid r3
                have HLF := Lib.hid (justF_length c.toNat)
                clear r3 b3 z3
                go_upto_region 13 with (fail)
                obtain ⟨PC, hPC⟩ : ∃ PC, PC = partC 2 (justF c.toNat) := ⟨_, rfl⟩
                have hps : PC.size = 257 := by rw [hPC]; exact partC_size _ HLF.out
                have RP : Hid (ERow w3 w2.heap.size 107 PC) := by unfold Hid; rw [hPC]; exact R5.out
                have HPS := Lib.hid hps
                have hown5 := own_below hown (B5.out.alloc B5.out.size (.cells PC 107))
                have HO5 := Lib.hid hown5
                have hnew : ∀ j u, (partL 2 (justF c.toNat))[j]? = some u → (w3.alloc (.cells PC 107)).cell? ((⟨w3.heap.size, 0, none⟩ : Addr).add j) = some u := by
                  intro j u hu
                  have e := (ERow.new w3 PC 107).cell j
                  have ha : (⟨w3.heap.size, 0, none⟩ : Addr).add j = ⟨w3.heap.size, j, none⟩ := by unfold Addr.add; split <;> simp_all
                  rw [ha, e]
                  rw [hPC]; simpa [partC] using hu
                have HN := Lib.hid hnew
                clear hown5 hnew hps
                have HPC := Lib.hid hPC
                clear hPC
                refine wp_region_lit ?_
                refine wpList_move rfl (.tmp 3) (.inl rfl) ?_
                refine wpList_load_row rfl 107 (.tmp 5) rfl w2.heap.size rfl 107 PC (0, 0) _ RP.out Tryd.underlying107 rfl (by rw [size107, HPS.out]) ?_
                refine wpList_slice_one rfl 103 107 (.tmp 57) rfl PC Tryd.zeroCells107 257 rfl Tryd.underlying103 size107 (by omega) (by omega) (zero107' _) HPS.out ?_
                refine wpList_append_own _ rfl (.tmp 56) (.tmp 58) 103 rfl w.heap.size 107 i0 (.agg Tryd.zeroCells107) 257 264 Tryd.underlying103 HI.out HZ0.out HZ1.out HZ2.out (by kernel_rfl) (by decide) _ pl.length (pcells pl) rfl HO5.out ⟨w3.heap.size, 0, none⟩ 1 1 (partL 2 (justF c.toNat)) rfl ?c1 HN.out ?c2 ?c3 ?c4 ?c5 ?_
                rotate_right
                intro v6 w6 hown6 hg6 _
                refine wpList_move rfl (.tmp 59) (.inr rfl) ?_
                refine wpList_nil ?_
                rotate_left
                case c1 => simp [partL, HLF.out]
                case c2 => intro u hu; exact partC_one 2 (justF c.toNat) u (by simpa [partC] using hu)
                case c3 => unfold maxLen; omega
                case c4 => omega
                case c5 => rw [alloc_size]; have := B5.out.size; have := hb.size; omega
                go_wp2
                go_roundw
                case rel => exact ⟨k + 1, pl ++ [(2, (justF c.toNat))], hle, by go_num, by rw [List.length_append, pcells_snoc]; exact hown6, own_grown_below (Below.comp' hb (B5.out.alloc B5.out.size _) hb.size) hg6 hown (by rw [alloc_size]; have := B5.out.size; have := hb.size; omega), by rw [List.length_append]; simp; omega, HC2⟩
                case measure => simp [intOf]; omega
            · obtain ⟨⟨rfl, rfl⟩, rfl⟩ := pair3 (HQ.out.trans (show onePart c (s.data.toList.drop (k + 1)) = ((2, justF c.toNat), 1) by unfold onePart; rw [if_neg (u8_ne h42), if_neg (u8_ne h63), if_neg (u8_ne h91), List.drop_eq_nil_of_le (by rw [HL.out]; omega)]))
              have hgd : decide ((k : Int) + 1 < (s.size : Int)) = false := by simp; omega
              by_cases h92 : ((c.toNat : Int) == 92) = true
              · have B5 := Lib.hid b23
                have R5 := Lib.hid r3
                have HLF := Lib.hid (justF_length c.toNat)
                clear r3 b3 z3
                go_upto_region 13 with (fail)
                obtain ⟨PC, hPC⟩ : ∃ PC, PC = partC 2 (justF c.toNat) := ⟨_, rfl⟩
                have hps : PC.size = 257 := by rw [hPC]; exact partC_size _ HLF.out
                have RP : Hid (ERow w3 w2.heap.size 107 PC) := by unfold Hid; rw [hPC]; exact R5.out
                have HPS := Lib.hid hps
                have hown5 := own_below hown (B5.out.alloc B5.out.size (.cells PC 107))
                have HO5 := Lib.hid hown5
                have hnew : ∀ j u, (partL 2 (justF c.toNat))[j]? = some u → (w3.alloc (.cells PC 107)).cell? ((⟨w3.heap.size, 0, none⟩ : Addr).add j) = some u := by
                  intro j u hu
                  have e := (ERow.new w3 PC 107).cell j
                  have ha : (⟨w3.heap.size, 0, none⟩ : Addr).add j = ⟨w3.heap.size, j, none⟩ := by unfold Addr.add; split <;> simp_all
                  rw [ha, e]
                  rw [hPC]; simpa [partC] using hu
                have HN := Lib.hid hnew
                clear hown5 hnew hps
                have HPC := Lib.hid hPC
                clear hPC
                refine wp_region_lit ?_
                refine wpList_move rfl (.tmp 3) (.inl rfl) ?_
                refine wpList_load_row rfl 107 (.tmp 5) rfl w2.heap.size rfl 107 PC (0, 0) _ RP.out Tryd.underlying107 rfl (by rw [size107, HPS.out]) ?_
                refine wpList_slice_one rfl 103 107 (.tmp 57) rfl PC Tryd.zeroCells107 257 rfl Tryd.underlying103 size107 (by omega) (by omega) (zero107' _) HPS.out ?_
                refine wpList_append_own _ rfl (.tmp 56) (.tmp 58) 103 rfl w.heap.size 107 i0 (.agg Tryd.zeroCells107) 257 264 Tryd.underlying103 HI.out HZ0.out HZ1.out HZ2.out (by kernel_rfl) (by decide) _ pl.length (pcells pl) rfl HO5.out ⟨w3.heap.size, 0, none⟩ 1 1 (partL 2 (justF c.toNat)) rfl ?c1 HN.out ?c2 ?c3 ?c4 ?c5 ?_
                rotate_right
                intro v6 w6 hown6 hg6 _
                refine wpList_move rfl (.tmp 59) (.inr rfl) ?_
                refine wpList_nil ?_
                rotate_left
                case c1 => simp [partL, HLF.out]
                case c2 => intro u hu; exact partC_one 2 (justF c.toNat) u (by simpa [partC] using hu)
                case c3 => unfold maxLen; omega
                case c4 => omega
                case c5 => rw [alloc_size]; have := B5.out.size; have := hb.size; omega
                go_wp2
                go_roundw
                case rel => exact ⟨k + 1, pl ++ [(2, (justF c.toNat))], hle, by go_num, by rw [List.length_append, pcells_snoc]; exact hown6, own_grown_below (Below.comp' hb (B5.out.alloc B5.out.size _) hb.size) hg6 hown (by rw [alloc_size]; have := B5.out.size; have := hb.size; omega), by rw [List.length_append]; simp; omega, HC2⟩
                case measure => simp [intOf]; omega
              · have h92 : ((c.toNat : Int) == 92) = false := by simpa using h92
                have B5 := Lib.hid b23
                have R5 := Lib.hid r3
                have HLF := Lib.hid (justF_length c.toNat)
                clear r3 b3 z3
                go_upto_region 13 with (fail)
                obtain ⟨PC, hPC⟩ : ∃ PC, PC = partC 2 (justF c.toNat) := ⟨_, rfl⟩
                have hps : PC.size = 257 := by rw [hPC]; exact partC_size _ HLF.out
                have RP : Hid (ERow w3 w2.heap.size 107 PC) := by unfold Hid; rw [hPC]; exact R5.out
                have HPS := Lib.hid hps
                have hown5 := own_below hown (B5.out.alloc B5.out.size (.cells PC 107))
                have HO5 := Lib.hid hown5
                have hnew : ∀ j u, (partL 2 (justF c.toNat))[j]? = some u → (w3.alloc (.cells PC 107)).cell? ((⟨w3.heap.size, 0, none⟩ : Addr).add j) = some u := by
                  intro j u hu
                  have e := (ERow.new w3 PC 107).cell j
                  have ha : (⟨w3.heap.size, 0, none⟩ : Addr).add j = ⟨w3.heap.size, j, none⟩ := by unfold Addr.add; split <;> simp_all
                  rw [ha, e]
                  rw [hPC]; simpa [partC] using hu
                have HN := Lib.hid hnew
                clear hown5 hnew hps
                have HPC := Lib.hid hPC
                clear hPC
                refine wp_region_lit ?_
                refine wpList_move rfl (.tmp 3) (.inl rfl) ?_
                refine wpList_load_row rfl 107 (.tmp 5) rfl w2.heap.size rfl 107 PC (0, 0) _ RP.out Tryd.underlying107 rfl (by rw [size107, HPS.out]) ?_
                refine wpList_slice_one rfl 103 107 (.tmp 57) rfl PC Tryd.zeroCells107 257 rfl Tryd.underlying103 size107 (by omega) (by omega) (zero107' _) HPS.out ?_
                refine wpList_append_own _ rfl (.tmp 56) (.tmp 58) 103 rfl w.heap.size 107 i0 (.agg Tryd.zeroCells107) 257 264 Tryd.underlying103 HI.out HZ0.out HZ1.out HZ2.out (by kernel_rfl) (by decide) _ pl.length (pcells pl) rfl HO5.out ⟨w3.heap.size, 0, none⟩ 1 1 (partL 2 (justF c.toNat)) rfl ?c1 HN.out ?c2 ?c3 ?c4 ?c5 ?_
                rotate_right
                intro v6 w6 hown6 hg6 _
                refine wpList_move rfl (.tmp 59) (.inr rfl) ?_
                refine wpList_nil ?_
                rotate_left
                case c1 => simp [partL, HLF.out]
                case c2 => intro u hu; exact partC_one 2 (justF c.toNat) u (by simpa [partC] using hu)
                case c3 => unfold maxLen; omega
                case c4 => omega
                case c5 => rw [alloc_size]; have := B5.out.size; have := hb.size; omega
                go_wp2
                go_roundw
                case rel => exact ⟨k + 1, pl ++ [(2, (justF c.toNat))], hle, by go_num, by rw [List.length_append, pcells_snoc]; exact hown6, own_grown_below (Below.comp' hb (B5.out.alloc B5.out.size _) hb.size) hg6 hown (by rw [alloc_size]; have := B5.out.size; have := hb.size; omega), by rw [List.length_append]; simp; omega, HC2⟩
                case measure => simp [intOf]; omega
    · have hfin : pl = partsL s.data.toList := by
        rw [← HC.out, List.drop_eq_nil_of_le (by rw [HL.out]; omega)]
        simp [partsL]
      have HFN := Lib.hid hfin
      clear hfin HC
      go_wp2
      go_ret
      exact ⟨_, rfl, by rw [← HFN.out]; exact hown, hb⟩
end Go.Proofs.YtbfbmgkgaokecaaDoor.Vb
