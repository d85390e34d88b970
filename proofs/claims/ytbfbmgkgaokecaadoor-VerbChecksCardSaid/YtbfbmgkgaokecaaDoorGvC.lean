/- slices.ContainsFunc over texts: what it tells of two functions that are no closures. -/
import Derived.Test.YtbfbmgkgaokecaaDoorPR0
import Derived.Lib.Hide
set_option linter.unusedVariables false
set_option linter.unusedSimpArgs false
namespace Go.Proofs.YtbfbmgkgaokecaaDoor.PR
open Go.RowKit Go.Proofs.YtbfbmgkgaokecaaDoorW.PrintWords Go.Proofs.YtbfbmgkgaokecaaDoorW.PrintLast Go.Proofs.YtbfbmgkgaokecaaDoorW.PrintMore

/-- A function that is no closure, as a value. -/
def fnV (g : Nat) : Value := .func (.func g) #[] #[]
/-- An index from 0 on is told if and only if some text is of P. -/
def IdxOf (P : ByteArray → Bool) (l : List ByteArray) (w : World) (e : Ending) (w' : World) : Prop := ∃ r : Int, e = .returned (.int .i64 r) ∧ decide (0 ≤ r) = l.any P ∧ Drawn0 w w'
/-- Tells a function whether a text is of P? -/
def Tells (g : Nat) (P : ByteArray → Bool) : Prop := (∀ (s : ByteArray) (w : World), (callFunc g #[.string s]).run Tryd.prog w = .ok (.enter g #[.string s]) w) ∧ ∀ (s : ByteArray) (w : World), Calls Tryd.prog g #[.string s] w fun e w' => e = .returned (.bool (P s)) ∧ w' = w

set_option maxHeartbeats 4000000 in
set_option maxRecDepth 100000 in
theorem IndexFunc_calls (P : ByteArray → Bool) (g : Nat) (hg : Tells g P) (A : Option Addr) (c : Nat) (l : List ByteArray) (w : World) (hr : Kd.C Kd.string w A l.length l) (hc : l.length ≤ c) (hl : l.length ≤ 9223372036854775807) :
    Calls Tryd.prog 81 #[.slice A l.length c, fnV g] w (IdxOf P l w) := by
  have HR0 := Aside0.mk hr
  have HC0 := Aside0.mk hc
  have HG := Aside0.mk hg
  clear hr hc hg
  unfold fnV
  go_enter Tryd.func81, Tryd.ntmps81
  go_wp2
  go_loopw [8] (fun i wr => ∃ k : Nat, k ≤ l.length ∧ i = .int .i64 k ∧ Hid ((l.take k).any P = false) ∧ Drawn0 w wr) (fun i _ => l.length - (intOf i).toNat)
  case atStart => exact ⟨0, Nat.zero_le _, rfl, by unfold Hid; simp, Drawn0.refl _⟩
  case round =>
    obtain ⟨k, hk, rfl, HN, ⟨m1, rfl⟩⟩ := hrel
    by_cases hlt : k < l.length
    · have p1 : 0 ≤ (k : Int) := by omega
      have q1 : (k : Int) < (l.length : Int) := by omega
      obtain ⟨ad, ead, hx⟩ := Kd.at_string HR0.out (k : Int) p1 q1
      cases ead
      rw [Int.toNat_natCast] at hx
      have HT : Hid ((l.take (k + 1)).any P = P (rdOf ByteArray.empty l (k : Int))) := by
        unfold Hid
        have e : rdOf ByteArray.empty l (k : Int) = l[k] := by unfold rdOf; rw [Int.toNat_natCast, List.getD_eq_getElem?_getD, List.getElem?_eq_getElem hlt]; rfl
        rw [List.take_succ_eq_append_getElem hlt, List.any_append, HN.out, e]; simp
      generalize rdOf ByteArray.empty l (k : Int) = s at *
      obtain ⟨b, hb⟩ : ∃ b, P s = b := ⟨_, rfl⟩
      have HBq := Lib.hid hb
      clear hb
      have hcf := HG.out.1 s
      go_wp2_with fail
      refine (HG.out.2 s _).mono ?_
      rintro e w' ⟨rfl, rfl⟩
      rw [HBq.out]
      cases b with
      | true =>
        have HF : Hid (l.any P = true) := by
          unfold Hid
          rw [← List.take_append_drop (k + 1) l, List.any_append, HT.out, HBq.out]; rfl
        go_wp2
        go_ret
        exact ⟨(k : Int), rfl, by rw [HF.out]; exact decide_eq_true (by omega), ⟨_, rfl⟩⟩
      | false =>
        go_wp2
        go_roundw
        case rel => exact ⟨k + 1, by omega, by go_num, by unfold Hid; rw [HT.out, HBq.out], ⟨_, rfl⟩⟩
        case measure => simp [intOf]; omega
    · have HF : Hid (l.any P = false) := by
        unfold Hid
        rw [← HN.out, List.take_of_length_le (by omega)]
      go_wp2
      go_ret
      exact ⟨-1, rfl, by rw [HF.out]; rfl, ⟨_, rfl⟩⟩

set_option maxHeartbeats 4000000 in
theorem ContainsFunc_calls (P : ByteArray → Bool) (g : Nat) (hg : Tells g P) (A : Option Addr) (c : Nat) (l : List ByteArray) (w : World) (hr : Kd.C Kd.string w A l.length l) (hc : l.length ≤ c) (hl : l.length ≤ 9223372036854775807) :
    Calls Tryd.prog 65 #[.slice A l.length c, fnV g] w fun e w' => e = .returned (.bool (l.any P)) ∧ Drawn0 w w' := by
  have HG := Aside0.mk hg
  have HR0 := Aside0.mk hr
  have HC0 := Aside0.mk hc
  clear hr hc hg
  go_enter Tryd.func65, Tryd.ntmps65
  go_wp2_with fail
  refine (IndexFunc_calls P g HG.out A c l _ HR0.out HC0.out hl).mono ?_
  rintro e w' ⟨r, rfl, hd, ⟨m, rfl⟩⟩
  go_wp2
  go_ret
  exact ⟨by simp [hd], ⟨_, rfl⟩⟩
theorem long_tells : Tells 66 (fun s => decide (512 < s.size)) := by
  refine ⟨fun s w => by kernel_rfl, ?_⟩
  intro s w
  go_enter Tryd.func66, Tryd.ntmps66
  go_wp2
  go_ret
  exact ⟨by simp; omega, rfl⟩
theorem bad_tells : Tells 67 (fun s => decide (s.size = 0) || decide (64 < s.size)) := by
  refine ⟨fun s w => by kernel_rfl, ?_⟩
  intro s w
  by_cases h : s.size = 0
  · obtain rfl : s = ByteArray.empty := by
      apply ByteArray.ext
      exact Array.eq_empty_of_size_eq_zero h
    go_enter Tryd.func67, Tryd.ntmps67
    go_wp2
    go_ret
    exact ⟨rfl, rfl⟩
  · have h1 : s.toList = [] ↔ False := by
      rw [ByteArray.toList_eq]
      constructor
      · intro e
        have := congrArg List.length e
        rw [Array.length_toList] at this
        exact h this
      · intro e; cases e
    have h2 : s.toList.isEmpty = false := by rw [List.isEmpty_eq_false_iff]; exact fun e => h1.1 e
    have h3 : (s.toList == ([] : List UInt8)) = false := by rw [beq_eq_false_iff_ne]; exact fun e => h1.1 e
    have h4 : (s.size = 0) = False := eq_false h
    go_enter Tryd.func67, Tryd.ntmps67
    go_wp2
    go_ret
    exact ⟨by simp [h]; omega, rfl⟩
def slices_ContainsFunc_66.f (l0 : List ByteArray) : Option Bool := if l0.length ≤ 9223372036854775807 then some (l0.any fun s => decide (512 < s.size)) else none
theorem slices_ContainsFunc_66.calls (A0 : Option Addr) (c0 : Nat) (l0 : List ByteArray) (r : Bool) (w : World) (hr0 : Kd.C Kd.string w A0 l0.length l0) (hc0 : l0.length ≤ c0) (h : slices_ContainsFunc_66.f l0 = some r) :
    Calls Tryd.prog 65 #[.slice A0 l0.length c0, .func (.func 66) #[] #[]] w fun e w' => e = .returned (.bool r) ∧ Drawn0 w w' := by
  unfold slices_ContainsFunc_66.f at h
  split at h
  · rename_i hh
    obtain rfl := Option.some.inj h
    exact ContainsFunc_calls _ 66 long_tells A0 c0 l0 w hr0 hc0 hh
  · cases h
def slices_ContainsFunc_67.f (l0 : List ByteArray) : Option Bool := if l0.length ≤ 9223372036854775807 then some (l0.any fun s => decide (s.size = 0) || decide (64 < s.size)) else none
theorem slices_ContainsFunc_67.calls (A0 : Option Addr) (c0 : Nat) (l0 : List ByteArray) (r : Bool) (w : World) (hr0 : Kd.C Kd.string w A0 l0.length l0) (hc0 : l0.length ≤ c0) (h : slices_ContainsFunc_67.f l0 = some r) :
    Calls Tryd.prog 65 #[.slice A0 l0.length c0, .func (.func 67) #[] #[]] w fun e w' => e = .returned (.bool r) ∧ Drawn0 w w' := by
  unfold slices_ContainsFunc_67.f at h
  split at h
  · rename_i hh
    obtain rfl := Option.some.inj h
    exact ContainsFunc_calls _ 67 bad_tells A0 c0 l0 w hr0 hc0 hh
  · cases h
end Go.Proofs.YtbfbmgkgaokecaaDoor.PR
