/- verb.bracket: the part of a bracket, and how many bytes it takes. -/
import Derived.Test.YtbfbmgkgaokecaaDoorClass
import Derived.Lib.IndexLaws
import Derived.Lib.IndexBytes
set_option linter.unusedVariables false
set_option linter.unusedSimpArgs false
namespace Go.Proofs.YtbfbmgkgaokecaaDoor.Vb
open Go.RowKit

/-- Where the bytes between brackets begin. -/
def brkFrom (l : List UInt8) : Nat := if l[1]? = some 94 then 2 else 1
/-- The part of a bracket, and how many bytes it takes. -/
def brk (l : List UInt8) : List Bool × Nat :=
  if l.length < brkFrom l + 1 then (justF 91, 1) else
  let e := Lib.indexByte (l.drop (brkFrom l + 1)) 93
  if e < 0 then (justF 91, 1) else
  (classF ((l.drop (brkFrom l)).take (e.toNat + 1)) (l[1]? = some 94), e.toNat + brkFrom l + 2)

theorem indexByte_lt {l : List UInt8} {c : UInt8} : Lib.indexByte l c < l.length := by
  rcases Int.lt_or_le (Lib.indexByte l c) 0 with h | h
  · omega
  · obtain ⟨o, ho⟩ := Int.eq_ofNat_of_zero_le h
    have := (Lib.indexByte_some ho).1
    have := (List.getElem?_eq_some_iff.1 this).1
    omega

theorem prefix_one (l : List UInt8) (c : UInt8) : Lib.hasPrefix l [c] = decide (l[0]? = some c) := by
  cases l with
  | nil => simp [Lib.hasPrefix]
  | cons a r =>
    by_cases h : c = a
    · subst h; simp [Lib.hasPrefix]
    · have h2 : ¬ a = c := fun e => h e.symm
      simp [Lib.hasPrefix, List.isPrefixOf, h, h2]

/-- The result of bracket: a part and a number. -/
theorem ret_brk {a : Act} {w : World} {g : Nat} {k n : Int} {f : List Bool} {R : Ending → World → Prop} (hd : a.defers = [])
    (hp : a.tmps.getD 2 undef = .pointer (some ⟨g, 0, none⟩)) (hn : a.tmps.getD 3 undef = .int .i64 n) (hf : f.length = 256) (hr : ERow w g 107 (partC k f)) (hR : R (.returned (.tuple #[.agg (partC k f), .int .i64 n])) w) : bodyPost Tryd.prog Tryd.f78 R .ret a w := by
  have hl := run_loadVar_row (P := Tryd.prog) w g 107 107 _ (0, 0) _ hr Tryd.underlying107 rfl (by rw [size107, partC_size _ hf])
  have hp' : a.tmps[2]?.getD undef = .pointer (some ⟨g, 0, none⟩) := by simpa using hp
  have hn' : a.tmps[3]?.getD undef = .int .i64 n := by simpa using hn
  exact bodyPost_ret (v := .tuple #[.agg (partC k f), .int .i64 n]) (by simp [results, Tryd.results78, hp', hn', asAddr, hl]) hd hR

/-- A variable for a part, made by the call. -/
theorem one107 (w : World) : ERow (w.alloc (.cells Tryd.zeroCells107 107)) w.heap.size 107 (partC 0 f0) := by
  have := ERow.new w Tryd.zeroCells107 107
  rw [z107] at this
  rw [z107]; exact this

set_option maxRecDepth 20000 in
set_option maxHeartbeats 1600000 in
theorem bracket_calls (s : ByteArray) (hs : s.size ≤ 140737488351232) (h1 : 1 ≤ s.size) (w : World) :
    Calls Tryd.prog 78 #[.string s] w fun e w' => e = .returned (.tuple #[.agg (partC 2 (brk s.data.toList).1), .int .i64 (brk s.data.toList).2]) ∧ Below w.heap.size w w' := by
  have hlen : s.data.toList.length = s.size := Array.length_toList
  have HL := Lib.hid hlen
  clear hlen
  obtain ⟨b, hb⟩ : ∃ b, b = decide (s.data.toList[1]? = some 94) := ⟨_, rfl⟩
  have hpre : Lib.hasPrefix (s.extract 1 s.size).data.toList (⟨#[94]⟩ : ByteArray).data.toList = b := by
    rw [Lib.extract_to_end, hb]
    have := prefix_one (s.data.toList.drop 1) 94
    rw [List.getElem?_drop] at this
    exact this
  have hF : brkFrom s.data.toList = if b = true then 2 else 1 := by
    rw [hb]; unfold brkFrom; simp
  have HB := Lib.hid hb
  have HF := Lib.hid hF
  clear hb hF
  have e0 := one107 w
  have eb := (Below.refl w.heap.size w).alloc (Nat.le_refl _) (.cells Tryd.zeroCells107 107)
  cases b with
  | false =>
    have hbf : brkFrom s.data.toList = 1 := HF.out
    by_cases hsh : s.size < 2
    · have hbrk : brk s.data.toList = (justF 91, 1) := by unfold brk; rw [hbf, if_pos (by rw [HL.out]; omega)]
      have HK := Lib.hid hbrk
      clear hbrk hbf
      go_enter Tryd.func78, Tryd.ntmps78
      go_wp2_with (go_at_call 97; refine (Tryd.strings_HasPrefix _ _ _).mono ?_; rintro e w' ⟨rfl, rfl⟩; rw [hpre])
      refine (just_calls 91 (by omega) _).mono ?_
      rintro e w2 ⟨rfl, b2⟩
      have r2 := e0.grown b2
      have bb := Below.comp' eb b2
      obtain ⟨w3, hst, e3, b3⟩ := tell107 w2 w.heap.size w.heap.size w.heap.size 2 (justF 91) 0 (justF_length 91) r2 (Nat.le_refl _) bb
      have hsz2 := partC_size 2 (justF_length 91)
      have R3 := Lib.hid e3
      clear e3 r2 bb e0 eb
      go_wp2
      exact ret_brk (g := w.heap.size) (k := 2) (f := justF 91) (n := 1) rfl rfl rfl (justF_length 91) R3.out ⟨by rw [HK.out]; rfl, b3⟩
    · have hbrk : brk s.data.toList = if Lib.indexByte (s.data.toList.drop 2) 93 < 0 then (justF 91, 1) else (classF ((s.data.toList.drop 1).take ((Lib.indexByte (s.data.toList.drop 2) 93).toNat + 1)) false, (Lib.indexByte (s.data.toList.drop 2) 93).toNat + 3) := by
        unfold brk; rw [hbf, if_neg (by rw [HL.out]; omega), ← HB.out]
      have hib : Lib.indexByte (s.extract 2 s.size).data.toList (93 : Int).toNat.toUInt8 = Lib.indexByte (s.data.toList.drop 2) 93 := by rw [Lib.extract_to_end]; rfl
      have hlt := indexByte_lt (l := s.data.toList.drop 2) (c := 93)
      rw [List.length_drop, HL.out] at hlt
      generalize Lib.indexByte (s.data.toList.drop 2) 93 = ix at hbrk hib hlt
      have HK := Lib.hid hbrk
      clear hbrk hbf
      go_enter Tryd.func78, Tryd.ntmps78
      go_wp2_with (go_at_call 97; refine (Tryd.strings_HasPrefix _ _ _).mono ?_; rintro e w' ⟨rfl, rfl⟩; rw [hpre])
      refine (Tryd.strings_IndexByte _ 93 _).mono ?_
      rintro e w' ⟨rfl, rfl⟩
      rw [hib]
      clear hib hpre
      by_cases hneg : ix < 0
      · go_wp2_with fail
        refine (just_calls 91 (by omega) _).mono ?_
        rintro e w2 ⟨rfl, b2⟩
        have r2 := e0.grown b2
        have bb := Below.comp' eb b2
        obtain ⟨w3, hst, e3, b3⟩ := tell107 w2 w.heap.size w.heap.size w.heap.size 2 (justF 91) 0 (justF_length 91) r2 (Nat.le_refl _) bb
        have hsz2 := partC_size 2 (justF_length 91)
        have R3 := Lib.hid e3
        clear e3 r2 bb e0 eb
        go_wp2
        exact ret_brk (g := w.heap.size) (k := 2) (f := justF 91) (n := 1) rfl rfl rfl (justF_length 91) R3.out ⟨by rw [HK.out, if_pos hneg]; rfl, b3⟩
      · obtain ⟨n, rfl⟩ := Int.eq_ofNat_of_zero_le (show 0 ≤ ix by omega)
        have hx1 : (n : Int) + 2 ≤ (s.size : Int) := by omega
        clear hlt
        go_wp2_with fail
        have hcl : (s.extract 1 (n + 2)).data.toList = (s.data.toList.drop 1).take (n + 1) := by rw [Lib.extract_data]; rfl
        refine (class_calls (s.extract 1 (n + 2)) (by rw [ByteArray.size_extract]; omega) false _).mono ?_
        rintro e w2 ⟨rfl, b2⟩
        rw [hcl]
        generalize hq : classF ((s.data.toList.drop 1).take (n + 1)) false = q
        have hql : q.length = 256 := by rw [← hq]; exact classF_length _ _
        have HQ := Lib.hid hq
        clear hq hcl
        have r2 := e0.grown b2
        have bb := Below.comp' eb b2
        obtain ⟨w3, hst, e3, b3⟩ := tell107 w2 w.heap.size w.heap.size w.heap.size 2 q 0 hql r2 (Nat.le_refl _) bb
        have hsz2 := partC_size 2 hql
        have R3 := Lib.hid e3
        have HQL := Lib.hid hql
        clear e3 r2 bb e0 eb hql
        go_wp2
        exact ret_brk (g := w.heap.size) (k := 2) (f := q) (n := n + 3) rfl rfl (by rfl) HQL.out R3.out ⟨by rw [HK.out, if_neg (by omega), Int.toNat_natCast, HQ.out]; rfl, b3⟩
  | true =>
    have hbf : brkFrom s.data.toList = 2 := HF.out
    by_cases hsh : s.size < 3
    · have hbrk : brk s.data.toList = (justF 91, 1) := by unfold brk; rw [hbf, if_pos (by rw [HL.out]; omega)]
      have HK := Lib.hid hbrk
      clear hbrk hbf
      go_enter Tryd.func78, Tryd.ntmps78
      go_wp2_with (go_at_call 97; refine (Tryd.strings_HasPrefix _ _ _).mono ?_; rintro e w' ⟨rfl, rfl⟩; rw [hpre])
      refine (just_calls 91 (by omega) _).mono ?_
      rintro e w2 ⟨rfl, b2⟩
      have r2 := e0.grown b2
      have bb := Below.comp' eb b2
      obtain ⟨w3, hst, e3, b3⟩ := tell107 w2 w.heap.size w.heap.size w.heap.size 2 (justF 91) 0 (justF_length 91) r2 (Nat.le_refl _) bb
      have hsz2 := partC_size 2 (justF_length 91)
      have R3 := Lib.hid e3
      clear e3 r2 bb e0 eb
      go_wp2
      exact ret_brk (g := w.heap.size) (k := 2) (f := justF 91) (n := 1) rfl rfl rfl (justF_length 91) R3.out ⟨by rw [HK.out]; rfl, b3⟩
    · have hbrk : brk s.data.toList = if Lib.indexByte (s.data.toList.drop 3) 93 < 0 then (justF 91, 1) else (classF ((s.data.toList.drop 2).take ((Lib.indexByte (s.data.toList.drop 3) 93).toNat + 1)) true, (Lib.indexByte (s.data.toList.drop 3) 93).toNat + 4) := by
        unfold brk; rw [hbf, if_neg (by rw [HL.out]; omega), ← HB.out]
      have hib : Lib.indexByte (s.extract 3 s.size).data.toList (93 : Int).toNat.toUInt8 = Lib.indexByte (s.data.toList.drop 3) 93 := by rw [Lib.extract_to_end]; rfl
      have hlt := indexByte_lt (l := s.data.toList.drop 3) (c := 93)
      rw [List.length_drop, HL.out] at hlt
      generalize Lib.indexByte (s.data.toList.drop 3) 93 = ix at hbrk hib hlt
      have HK := Lib.hid hbrk
      clear hbrk hbf
      go_enter Tryd.func78, Tryd.ntmps78
      go_wp2_with (go_at_call 97; refine (Tryd.strings_HasPrefix _ _ _).mono ?_; rintro e w' ⟨rfl, rfl⟩; rw [hpre])
      refine (Tryd.strings_IndexByte _ 93 _).mono ?_
      rintro e w' ⟨rfl, rfl⟩
      rw [hib]
      clear hib hpre
      by_cases hneg : ix < 0
      · go_wp2_with fail
        refine (just_calls 91 (by omega) _).mono ?_
        rintro e w2 ⟨rfl, b2⟩
        have r2 := e0.grown b2
        have bb := Below.comp' eb b2
        obtain ⟨w3, hst, e3, b3⟩ := tell107 w2 w.heap.size w.heap.size w.heap.size 2 (justF 91) 0 (justF_length 91) r2 (Nat.le_refl _) bb
        have hsz2 := partC_size 2 (justF_length 91)
        have R3 := Lib.hid e3
        clear e3 r2 bb e0 eb
        go_wp2
        exact ret_brk (g := w.heap.size) (k := 2) (f := justF 91) (n := 1) rfl rfl rfl (justF_length 91) R3.out ⟨by rw [HK.out, if_pos hneg]; rfl, b3⟩
      · obtain ⟨n, rfl⟩ := Int.eq_ofNat_of_zero_le (show 0 ≤ ix by omega)
        have hx1 : (n : Int) + 3 ≤ (s.size : Int) := by omega
        clear hlt
        go_wp2_with fail
        have hcl : (s.extract 2 (n + 3)).data.toList = (s.data.toList.drop 2).take (n + 1) := by rw [Lib.extract_data]; rfl
        refine (class_calls (s.extract 2 (n + 3)) (by rw [ByteArray.size_extract]; omega) true _).mono ?_
        rintro e w2 ⟨rfl, b2⟩
        rw [hcl]
        generalize hq : classF ((s.data.toList.drop 2).take (n + 1)) true = q
        have hql : q.length = 256 := by rw [← hq]; exact classF_length _ _
        have HQ := Lib.hid hq
        clear hq hcl
        have r2 := e0.grown b2
        have bb := Below.comp' eb b2
        obtain ⟨w3, hst, e3, b3⟩ := tell107 w2 w.heap.size w.heap.size w.heap.size 2 q 0 hql r2 (Nat.le_refl _) bb
        have hsz2 := partC_size 2 hql
        have R3 := Lib.hid e3
        have HQL := Lib.hid hql
        clear e3 r2 bb e0 eb hql
        go_wp2
        exact ret_brk (g := w.heap.size) (k := 2) (f := q) (n := n + 4) rfl rfl (by rfl) HQL.out R3.out ⟨by rw [HK.out, if_neg (by omega), Int.toNat_natCast, HQ.out]; rfl, b3⟩
end Go.Proofs.YtbfbmgkgaokecaaDoor.Vb
