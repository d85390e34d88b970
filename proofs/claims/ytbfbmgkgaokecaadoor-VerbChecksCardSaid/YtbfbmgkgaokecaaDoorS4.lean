/- verb.short, verb.middle, verb.wide: what they tell of any name. Written by gen_specs.py. -/
import Derived.Test.YtbfbmgkgaokecaaDoorS1
import Derived.Test.YtbfbmgkgaokecaaDoorS2
import Derived.Test.YtbfbmgkgaokecaaDoorS3
import Derived.Test.YtbfbmgkgaokecaaDoorInt
namespace Go.Proofs.YtbfbmgkgaokecaaDoor.Vb
open Go.RowKit
set_option linter.unusedSimpArgs false
set_option linter.unusedVariables false

theorem str_of {s : ByteArray} {l : List UInt8} (h : s.toList = l) : s = ⟨l.toArray⟩ := bytes_ext (by rw [h, ByteArray.toList_mk])
theorem ne_of {l m : List UInt8} (h : ¬ l = m) : (l == m) = false := by simpa using h

theorem short_calls (s : ByteArray) (w : World) (hP : Plc w) : Calls Tryd.prog 56 #[.string s] w fun e w' => e = .returned (spV (shortS s.toList)) ∧ Below w.heap.size w w' := by
  by_cases h0 : s.toList = [80, 73, 78, 71]
  · rw [h0, show shortS [80, 73, 78, 71] = some ⟨0, 0, 0, e0, 1, 2, false, false, false⟩ from by kernel_rfl, str_of h0]; exact short_at0 w hP
  by_cases h1 : s.toList = [69, 67, 72, 79]
  · rw [h1, show shortS [69, 67, 72, 79] = some ⟨0, 0, 0, e0, 2, 2, false, false, false⟩ from by kernel_rfl, str_of h1]; exact short_at1 w hP
  by_cases h2 : s.toList = [75, 69, 89, 83]
  · rw [h2, show shortS [75, 69, 89, 83] = some ⟨0, 0, 0, e0, 2, 2, false, false, false⟩ from by kernel_rfl, str_of h2]; exact short_at2 w hP
  by_cases h3 : s.toList = [68, 66, 83, 73, 90, 69]
  · rw [h3, show shortS [68, 66, 83, 73, 90, 69] = some ⟨0, 0, 0, e0, 1, 1, false, false, false⟩ from by kernel_rfl, str_of h3]; exact short_at3 w hP
  by_cases h4 : s.toList = [77, 85, 76, 84, 73]
  · rw [h4, show shortS [77, 85, 76, 84, 73] = some ⟨0, 0, 0, e0, 1, 1, false, false, false⟩ from by kernel_rfl, str_of h4]; exact short_at4 w hP
  by_cases h5 : s.toList = [69, 88, 69, 67]
  · rw [h5, show shortS [69, 88, 69, 67] = some ⟨0, 0, 0, e0, 1, 1, false, false, false⟩ from by kernel_rfl, str_of h5]; exact short_at5 w hP
  by_cases h6 : s.toList = [68, 73, 83, 67, 65, 82, 68]
  · rw [h6, show shortS [68, 73, 83, 67, 65, 82, 68] = some ⟨0, 0, 0, e0, 1, 1, false, false, false⟩ from by kernel_rfl, str_of h6]; exact short_at6 w hP
  by_cases h7 : s.toList = [85, 78, 87, 65, 84, 67, 72]
  · rw [h7, show shortS [85, 78, 87, 65, 84, 67, 72] = some ⟨0, 0, 0, e0, 1, 1, false, false, false⟩ from by kernel_rfl, str_of h7]; exact short_at7 w hP
  by_cases h8 : s.toList = [70, 76, 85, 83, 72, 65, 76, 76]
  · rw [h8, show shortS [70, 76, 85, 83, 72, 65, 76, 76] = some ⟨0, 0, 0, e0, 1, 1, true, false, false⟩ from by kernel_rfl, str_of h8]; exact short_at8 w hP
  by_cases h9 : s.toList = [71, 69, 84]
  · rw [h9, show shortS [71, 69, 84] = some ⟨1, 1, 1, e0, 2, 2, false, false, false⟩ from by kernel_rfl, str_of h9]; exact short_at9 w hP
  by_cases h10 : s.toList = [83, 84, 82, 76, 69, 78]
  · rw [h10, show shortS [83, 84, 82, 76, 69, 78] = some ⟨1, 1, 1, e0, 2, 2, false, false, false⟩ from by kernel_rfl, str_of h10]; exact short_at10 w hP
  by_cases h11 : s.toList = [84, 89, 80, 69]
  · rw [h11, show shortS [84, 89, 80, 69] = some ⟨1, 1, 1, e0, 2, 2, false, false, false⟩ from by kernel_rfl, str_of h11]; exact short_at11 w hP
  by_cases h12 : s.toList = [84, 84, 76]
  · rw [h12, show shortS [84, 84, 76] = some ⟨1, 1, 1, e0, 2, 2, false, false, false⟩ from by kernel_rfl, str_of h12]; exact short_at12 w hP
  by_cases h13 : s.toList = [80, 84, 84, 76]
  · rw [h13, show shortS [80, 84, 84, 76] = some ⟨1, 1, 1, e0, 2, 2, false, false, false⟩ from by kernel_rfl, str_of h13]; exact short_at13 w hP
  by_cases h14 : s.toList = [72, 76, 69, 78]
  · rw [h14, show shortS [72, 76, 69, 78] = some ⟨1, 1, 1, e0, 2, 2, false, false, false⟩ from by kernel_rfl, str_of h14]; exact short_at14 w hP
  by_cases h15 : s.toList = [72, 71, 69, 84, 65, 76, 76]
  · rw [h15, show shortS [72, 71, 69, 84, 65, 76, 76] = some ⟨1, 1, 1, e0, 2, 2, false, false, false⟩ from by kernel_rfl, str_of h15]; exact short_at15 w hP
  by_cases h16 : s.toList = [72, 75, 69, 89, 83]
  · rw [h16, show shortS [72, 75, 69, 89, 83] = some ⟨1, 1, 1, e0, 2, 2, false, false, false⟩ from by kernel_rfl, str_of h16]; exact short_at16 w hP
  by_cases h17 : s.toList = [72, 86, 65, 76, 83]
  · rw [h17, show shortS [72, 86, 65, 76, 83] = some ⟨1, 1, 1, e0, 2, 2, false, false, false⟩ from by kernel_rfl, str_of h17]; exact short_at17 w hP
  by_cases h18 : s.toList = [76, 76, 69, 78]
  · rw [h18, show shortS [76, 76, 69, 78] = some ⟨1, 1, 1, e0, 2, 2, false, false, false⟩ from by kernel_rfl, str_of h18]; exact short_at18 w hP
  by_cases h19 : s.toList = [83, 67, 65, 82, 68]
  · rw [h19, show shortS [83, 67, 65, 82, 68] = some ⟨1, 1, 1, e0, 2, 2, false, false, false⟩ from by kernel_rfl, str_of h19]; exact short_at19 w hP
  by_cases h20 : s.toList = [83, 77, 69, 77, 66, 69, 82, 83]
  · rw [h20, show shortS [83, 77, 69, 77, 66, 69, 82, 83] = some ⟨1, 1, 1, e0, 2, 2, false, false, false⟩ from by kernel_rfl, str_of h20]; exact short_at20 w hP
  by_cases h21 : s.toList = [83, 82, 65, 78, 68, 77, 69, 77, 66, 69, 82]
  · rw [h21, show shortS [83, 82, 65, 78, 68, 77, 69, 77, 66, 69, 82] = some ⟨1, 1, 1, e0, 2, 2, false, false, false⟩ from by kernel_rfl, str_of h21]; exact short_at21 w hP
  by_cases h22 : s.toList = [90, 67, 65, 82, 68]
  · rw [h22, show shortS [90, 67, 65, 82, 68] = some ⟨1, 1, 1, e0, 2, 2, false, false, false⟩ from by kernel_rfl, str_of h22]; exact short_at22 w hP
  by_cases h23 : s.toList = [73, 78, 67, 82]
  · rw [h23, show shortS [73, 78, 67, 82] = some ⟨1, 1, 1, e0, 2, 2, true, false, false⟩ from by kernel_rfl, str_of h23]; exact short_at23 w hP
  by_cases h24 : s.toList = [68, 69, 67, 82]
  · rw [h24, show shortS [68, 69, 67, 82] = some ⟨1, 1, 1, e0, 2, 2, true, false, false⟩ from by kernel_rfl, str_of h24]; exact short_at24 w hP
  by_cases h25 : s.toList = [80, 69, 82, 83, 73, 83, 84]
  · rw [h25, show shortS [80, 69, 82, 83, 73, 83, 84] = some ⟨1, 1, 1, e0, 2, 2, true, false, false⟩ from by kernel_rfl, str_of h25]; exact short_at25 w hP
  by_cases h26 : s.toList = [76, 80, 79, 80]
  · rw [h26, show shortS [76, 80, 79, 80] = some ⟨1, 1, 1, e0, 2, 2, true, false, false⟩ from by kernel_rfl, str_of h26]; exact short_at26 w hP
  by_cases h27 : s.toList = [82, 80, 79, 80]
  · rw [h27, show shortS [82, 80, 79, 80] = some ⟨1, 1, 1, e0, 2, 2, true, false, false⟩ from by kernel_rfl, str_of h27]; exact short_at27 w hP
  by_cases h28 : s.toList = [83, 80, 79, 80]
  · rw [h28, show shortS [83, 80, 79, 80] = some ⟨1, 1, 1, e0, 2, 2, true, false, false⟩ from by kernel_rfl, str_of h28]; exact short_at28 w hP
  have hn : shortS s.toList = none := by
    unfold shortS pick shortT
    simp only [List.find?, ne_of (fun e => h0 e.symm), ne_of (fun e => h1 e.symm), ne_of (fun e => h2 e.symm), ne_of (fun e => h3 e.symm), ne_of (fun e => h4 e.symm), ne_of (fun e => h5 e.symm), ne_of (fun e => h6 e.symm), ne_of (fun e => h7 e.symm), ne_of (fun e => h8 e.symm), ne_of (fun e => h9 e.symm), ne_of (fun e => h10 e.symm), ne_of (fun e => h11 e.symm), ne_of (fun e => h12 e.symm), ne_of (fun e => h13 e.symm), ne_of (fun e => h14 e.symm), ne_of (fun e => h15 e.symm), ne_of (fun e => h16 e.symm), ne_of (fun e => h17 e.symm), ne_of (fun e => h18 e.symm), ne_of (fun e => h19 e.symm), ne_of (fun e => h20 e.symm), ne_of (fun e => h21 e.symm), ne_of (fun e => h22 e.symm), ne_of (fun e => h23 e.symm), ne_of (fun e => h24 e.symm), ne_of (fun e => h25 e.symm), ne_of (fun e => h26 e.symm), ne_of (fun e => h27 e.symm), ne_of (fun e => h28 e.symm), Option.map_none]
  rw [hn]
  exact short_no s w hP (ne_of h0) (ne_of h1) (ne_of h2) (ne_of h3) (ne_of h4) (ne_of h5) (ne_of h6) (ne_of h7) (ne_of h8) (ne_of h9) (ne_of h10) (ne_of h11) (ne_of h12) (ne_of h13) (ne_of h14) (ne_of h15) (ne_of h16) (ne_of h17) (ne_of h18) (ne_of h19) (ne_of h20) (ne_of h21) (ne_of h22) (ne_of h23) (ne_of h24) (ne_of h25) (ne_of h26) (ne_of h27) (ne_of h28)

theorem middle_calls (s : ByteArray) (w : World) (hP : Plc w) : Calls Tryd.prog 57 #[.string s] w fun e w' => e = .returned (spV (middleS s.toList)) ∧ Below w.heap.size w w' := by
  by_cases h0 : s.toList = [87, 65, 84, 67, 72]
  · rw [h0, show middleS [87, 65, 84, 67, 72] = some ⟨1, (-1), 1, e0, 2, 40, false, false, false⟩ from by kernel_rfl, str_of h0]; exact middle_at0 w hP
  by_cases h1 : s.toList = [69, 88, 73, 83, 84, 83]
  · rw [h1, show middleS [69, 88, 73, 83, 84, 83] = some ⟨1, (-1), 1, e0, 2, 40, false, false, false⟩ from by kernel_rfl, str_of h1]; exact middle_at1 w hP
  by_cases h2 : s.toList = [77, 71, 69, 84]
  · rw [h2, show middleS [77, 71, 69, 84] = some ⟨1, (-1), 1, e0, 2, 40, false, false, false⟩ from by kernel_rfl, str_of h2]; exact middle_at2 w hP
  by_cases h3 : s.toList = [83, 73, 78, 84, 69, 82]
  · rw [h3, show middleS [83, 73, 78, 84, 69, 82] = some ⟨1, (-1), 1, e0, 2, 40, false, false, false⟩ from by kernel_rfl, str_of h3]; exact middle_at3 w hP
  by_cases h4 : s.toList = [83, 85, 78, 73, 79, 78]
  · rw [h4, show middleS [83, 85, 78, 73, 79, 78] = some ⟨1, (-1), 1, e0, 2, 40, false, false, false⟩ from by kernel_rfl, str_of h4]; exact middle_at4 w hP
  by_cases h5 : s.toList = [83, 68, 73, 70, 70]
  · rw [h5, show middleS [83, 68, 73, 70, 70] = some ⟨1, (-1), 1, e0, 2, 40, false, false, false⟩ from by kernel_rfl, str_of h5]; exact middle_at5 w hP
  by_cases h6 : s.toList = [68, 69, 76]
  · rw [h6, show middleS [68, 69, 76] = some ⟨1, (-1), 1, e0, 2, 40, true, false, false⟩ from by kernel_rfl, str_of h6]; exact middle_at6 w hP
  by_cases h7 : s.toList = [83, 69, 84]
  · rw [h7, show middleS [83, 69, 84] = some ⟨1, 1, 1, e0, 3, 7, true, false, false⟩ from by kernel_rfl, str_of h7]; exact middle_at7 w hP
  by_cases h8 : s.toList = [71, 69, 84, 83, 69, 84]
  · rw [h8, show middleS [71, 69, 84, 83, 69, 84] = some ⟨1, 1, 1, e0, 3, 3, true, false, false⟩ from by kernel_rfl, str_of h8]; exact middle_at8 w hP
  by_cases h9 : s.toList = [83, 69, 84, 78, 88]
  · rw [h9, show middleS [83, 69, 84, 78, 88] = some ⟨1, 1, 1, e0, 3, 3, true, false, false⟩ from by kernel_rfl, str_of h9]; exact middle_at9 w hP
  by_cases h10 : s.toList = [65, 80, 80, 69, 78, 68]
  · rw [h10, show middleS [65, 80, 80, 69, 78, 68] = some ⟨1, 1, 1, e0, 3, 3, true, false, false⟩ from by kernel_rfl, str_of h10]; exact middle_at10 w hP
  by_cases h11 : s.toList = [73, 78, 67, 82, 66, 89]
  · rw [h11, show middleS [73, 78, 67, 82, 66, 89] = some ⟨1, 1, 1, e0, 3, 3, true, false, false⟩ from by kernel_rfl, str_of h11]; exact middle_at11 w hP
  by_cases h12 : s.toList = [68, 69, 67, 82, 66, 89]
  · rw [h12, show middleS [68, 69, 67, 82, 66, 89] = some ⟨1, 1, 1, e0, 3, 3, true, false, false⟩ from by kernel_rfl, str_of h12]; exact middle_at12 w hP
  by_cases h13 : s.toList = [69, 88, 80, 73, 82, 69]
  · rw [h13, show middleS [69, 88, 80, 73, 82, 69] = some ⟨1, 1, 1, e0, 3, 3, true, false, false⟩ from by kernel_rfl, str_of h13]; exact middle_at13 w hP
  by_cases h14 : s.toList = [80, 69, 88, 80, 73, 82, 69]
  · rw [h14, show middleS [80, 69, 88, 80, 73, 82, 69] = some ⟨1, 1, 1, e0, 3, 3, true, false, false⟩ from by kernel_rfl, str_of h14]; exact middle_at14 w hP
  by_cases h15 : s.toList = [80, 69, 88, 80, 73, 82, 69, 65, 84]
  · rw [h15, show middleS [80, 69, 88, 80, 73, 82, 69, 65, 84] = some ⟨1, 1, 1, e0, 3, 3, true, false, false⟩ from by kernel_rfl, str_of h15]; exact middle_at15 w hP
  by_cases h16 : s.toList = [82, 69, 78, 65, 77, 69]
  · rw [h16, show middleS [82, 69, 78, 65, 77, 69] = some ⟨1, 2, 1, e0, 3, 3, true, false, false⟩ from by kernel_rfl, str_of h16]; exact middle_at16 w hP
  by_cases h17 : s.toList = [82, 80, 79, 80, 76, 80, 85, 83, 72]
  · rw [h17, show middleS [82, 80, 79, 80, 76, 80, 85, 83, 72] = some ⟨1, 2, 1, e0, 3, 3, true, false, false⟩ from by kernel_rfl, str_of h17]; exact middle_at17 w hP
  by_cases h18 : s.toList = [77, 83, 69, 84]
  · rw [h18, show middleS [77, 83, 69, 84] = some ⟨1, (-1), 2, e0, 3, 40, true, true, false⟩ from by kernel_rfl, str_of h18]; exact middle_at18 w hP
  by_cases h19 : s.toList = [72, 71, 69, 84]
  · rw [h19, show middleS [72, 71, 69, 84] = some ⟨1, 1, 1, e0, 3, 3, false, false, false⟩ from by kernel_rfl, str_of h19]; exact middle_at19 w hP
  by_cases h20 : s.toList = [72, 69, 88, 73, 83, 84, 83]
  · rw [h20, show middleS [72, 69, 88, 73, 83, 84, 83] = some ⟨1, 1, 1, e0, 3, 3, false, false, false⟩ from by kernel_rfl, str_of h20]; exact middle_at20 w hP
  by_cases h21 : s.toList = [76, 73, 78, 68, 69, 88]
  · rw [h21, show middleS [76, 73, 78, 68, 69, 88] = some ⟨1, 1, 1, e0, 3, 3, false, false, false⟩ from by kernel_rfl, str_of h21]; exact middle_at21 w hP
  by_cases h22 : s.toList = [83, 73, 83, 77, 69, 77, 66, 69, 82]
  · rw [h22, show middleS [83, 73, 83, 77, 69, 77, 66, 69, 82] = some ⟨1, 1, 1, e0, 3, 3, false, false, false⟩ from by kernel_rfl, str_of h22]; exact middle_at22 w hP
  by_cases h23 : s.toList = [90, 83, 67, 79, 82, 69]
  · rw [h23, show middleS [90, 83, 67, 79, 82, 69] = some ⟨1, 1, 1, e0, 3, 3, false, false, false⟩ from by kernel_rfl, str_of h23]; exact middle_at23 w hP
  by_cases h24 : s.toList = [90, 82, 65, 78, 75]
  · rw [h24, show middleS [90, 82, 65, 78, 75] = some ⟨1, 1, 1, e0, 3, 3, false, false, false⟩ from by kernel_rfl, str_of h24]; exact middle_at24 w hP
  by_cases h25 : s.toList = [90, 82, 69, 86, 82, 65, 78, 75]
  · rw [h25, show middleS [90, 82, 69, 86, 82, 65, 78, 75] = some ⟨1, 1, 1, e0, 3, 3, false, false, false⟩ from by kernel_rfl, str_of h25]; exact middle_at25 w hP
  by_cases h26 : s.toList = [72, 77, 71, 69, 84]
  · rw [h26, show middleS [72, 77, 71, 69, 84] = some ⟨1, 1, 1, e0, 3, 40, false, false, false⟩ from by kernel_rfl, str_of h26]; exact middle_at26 w hP
  by_cases h27 : s.toList = [72, 68, 69, 76]
  · rw [h27, show middleS [72, 68, 69, 76] = some ⟨1, 1, 1, e0, 3, 40, true, false, false⟩ from by kernel_rfl, str_of h27]; exact middle_at27 w hP
  by_cases h28 : s.toList = [76, 80, 85, 83, 72]
  · rw [h28, show middleS [76, 80, 85, 83, 72] = some ⟨1, 1, 1, e0, 3, 40, true, false, false⟩ from by kernel_rfl, str_of h28]; exact middle_at28 w hP
  by_cases h29 : s.toList = [82, 80, 85, 83, 72]
  · rw [h29, show middleS [82, 80, 85, 83, 72] = some ⟨1, 1, 1, e0, 3, 40, true, false, false⟩ from by kernel_rfl, str_of h29]; exact middle_at29 w hP
  by_cases h30 : s.toList = [83, 65, 68, 68]
  · rw [h30, show middleS [83, 65, 68, 68] = some ⟨1, 1, 1, e0, 3, 40, true, false, false⟩ from by kernel_rfl, str_of h30]; exact middle_at30 w hP
  by_cases h31 : s.toList = [83, 82, 69, 77]
  · rw [h31, show middleS [83, 82, 69, 77] = some ⟨1, 1, 1, e0, 3, 40, true, false, false⟩ from by kernel_rfl, str_of h31]; exact middle_at31 w hP
  by_cases h32 : s.toList = [90, 82, 69, 77]
  · rw [h32, show middleS [90, 82, 69, 77] = some ⟨1, 1, 1, e0, 3, 40, true, false, false⟩ from by kernel_rfl, str_of h32]; exact middle_at32 w hP
  have hn : middleS s.toList = none := by
    unfold middleS pick middleT
    simp only [List.find?, ne_of (fun e => h0 e.symm), ne_of (fun e => h1 e.symm), ne_of (fun e => h2 e.symm), ne_of (fun e => h3 e.symm), ne_of (fun e => h4 e.symm), ne_of (fun e => h5 e.symm), ne_of (fun e => h6 e.symm), ne_of (fun e => h7 e.symm), ne_of (fun e => h8 e.symm), ne_of (fun e => h9 e.symm), ne_of (fun e => h10 e.symm), ne_of (fun e => h11 e.symm), ne_of (fun e => h12 e.symm), ne_of (fun e => h13 e.symm), ne_of (fun e => h14 e.symm), ne_of (fun e => h15 e.symm), ne_of (fun e => h16 e.symm), ne_of (fun e => h17 e.symm), ne_of (fun e => h18 e.symm), ne_of (fun e => h19 e.symm), ne_of (fun e => h20 e.symm), ne_of (fun e => h21 e.symm), ne_of (fun e => h22 e.symm), ne_of (fun e => h23 e.symm), ne_of (fun e => h24 e.symm), ne_of (fun e => h25 e.symm), ne_of (fun e => h26 e.symm), ne_of (fun e => h27 e.symm), ne_of (fun e => h28 e.symm), ne_of (fun e => h29 e.symm), ne_of (fun e => h30 e.symm), ne_of (fun e => h31 e.symm), ne_of (fun e => h32 e.symm), Option.map_none]
  rw [hn]
  exact middle_no s w hP (ne_of h0) (ne_of h1) (ne_of h2) (ne_of h3) (ne_of h4) (ne_of h5) (ne_of h6) (ne_of h7) (ne_of h8) (ne_of h9) (ne_of h10) (ne_of h11) (ne_of h12) (ne_of h13) (ne_of h14) (ne_of h15) (ne_of h16) (ne_of h17) (ne_of h18) (ne_of h19) (ne_of h20) (ne_of h21) (ne_of h22) (ne_of h23) (ne_of h24) (ne_of h25) (ne_of h26) (ne_of h27) (ne_of h28) (ne_of h29) (ne_of h30) (ne_of h31) (ne_of h32)

theorem wide_calls (s : ByteArray) (w : World) (hP : Plc w) : Calls Tryd.prog 58 #[.string s] w fun e w' => e = .returned (spV (wideS s.toList)) ∧ Below w.heap.size w w' := by
  by_cases h0 : s.toList = [71, 69, 84, 82, 65, 78, 71, 69]
  · rw [h0, show wideS [71, 69, 84, 82, 65, 78, 71, 69] = some ⟨1, 1, 1, e0, 4, 4, false, false, false⟩ from by kernel_rfl, str_of h0]; exact wide_at0 w hP
  by_cases h1 : s.toList = [76, 82, 65, 78, 71, 69]
  · rw [h1, show wideS [76, 82, 65, 78, 71, 69] = some ⟨1, 1, 1, e0, 4, 4, false, false, false⟩ from by kernel_rfl, str_of h1]; exact wide_at1 w hP
  by_cases h2 : s.toList = [90, 82, 69, 86, 82, 65, 78, 71, 69]
  · rw [h2, show wideS [90, 82, 69, 86, 82, 65, 78, 71, 69] = some ⟨1, 1, 1, e0, 4, 4, false, false, false⟩ from by kernel_rfl, str_of h2]; exact wide_at2 w hP
  by_cases h3 : s.toList = [90, 82, 65, 78, 71, 69, 66, 89, 83, 67, 79, 82, 69]
  · rw [h3, show wideS [90, 82, 65, 78, 71, 69, 66, 89, 83, 67, 79, 82, 69] = some ⟨1, 1, 1, e0, 4, 4, false, false, false⟩ from by kernel_rfl, str_of h3]; exact wide_at3 w hP
  by_cases h4 : s.toList = [90, 67, 79, 85, 78, 84]
  · rw [h4, show wideS [90, 67, 79, 85, 78, 84] = some ⟨1, 1, 1, e0, 4, 4, false, false, false⟩ from by kernel_rfl, str_of h4]; exact wide_at4 w hP
  by_cases h5 : s.toList = [83, 69, 84, 82, 65, 78, 71, 69]
  · rw [h5, show wideS [83, 69, 84, 82, 65, 78, 71, 69] = some ⟨1, 1, 1, e0, 4, 4, true, false, false⟩ from by kernel_rfl, str_of h5]; exact wide_at5 w hP
  by_cases h6 : s.toList = [72, 83, 69, 84, 78, 88]
  · rw [h6, show wideS [72, 83, 69, 84, 78, 88] = some ⟨1, 1, 1, e0, 4, 4, true, false, false⟩ from by kernel_rfl, str_of h6]; exact wide_at6 w hP
  by_cases h7 : s.toList = [72, 73, 78, 67, 82, 66, 89]
  · rw [h7, show wideS [72, 73, 78, 67, 82, 66, 89] = some ⟨1, 1, 1, e0, 4, 4, true, false, false⟩ from by kernel_rfl, str_of h7]; exact wide_at7 w hP
  by_cases h8 : s.toList = [76, 83, 69, 84]
  · rw [h8, show wideS [76, 83, 69, 84] = some ⟨1, 1, 1, e0, 4, 4, true, false, false⟩ from by kernel_rfl, str_of h8]; exact wide_at8 w hP
  by_cases h9 : s.toList = [76, 84, 82, 73, 77]
  · rw [h9, show wideS [76, 84, 82, 73, 77] = some ⟨1, 1, 1, e0, 4, 4, true, false, false⟩ from by kernel_rfl, str_of h9]; exact wide_at9 w hP
  by_cases h10 : s.toList = [76, 82, 69, 77]
  · rw [h10, show wideS [76, 82, 69, 77] = some ⟨1, 1, 1, e0, 4, 4, true, false, false⟩ from by kernel_rfl, str_of h10]; exact wide_at10 w hP
  by_cases h11 : s.toList = [90, 73, 78, 67, 82, 66, 89]
  · rw [h11, show wideS [90, 73, 78, 67, 82, 66, 89] = some ⟨1, 1, 1, e0, 4, 4, true, false, false⟩ from by kernel_rfl, str_of h11]; exact wide_at11 w hP
  by_cases h12 : s.toList = [90, 82, 69, 77, 82, 65, 78, 71, 69, 66, 89, 83, 67, 79, 82, 69]
  · rw [h12, show wideS [90, 82, 69, 77, 82, 65, 78, 71, 69, 66, 89, 83, 67, 79, 82, 69] = some ⟨1, 1, 1, e0, 4, 4, true, false, false⟩ from by kernel_rfl, str_of h12]; exact wide_at12 w hP
  by_cases h13 : s.toList = [83, 77, 79, 86, 69]
  · rw [h13, show wideS [83, 77, 79, 86, 69] = some ⟨1, 2, 1, e0, 4, 4, true, false, false⟩ from by kernel_rfl, str_of h13]; exact wide_at13 w hP
  by_cases h14 : s.toList = [90, 82, 65, 78, 71, 69]
  · rw [h14, show wideS [90, 82, 65, 78, 71, 69] = some ⟨1, 1, 1, e0, 4, 5, false, false, false⟩ from by kernel_rfl, str_of h14]; exact wide_at14 w hP
  by_cases h15 : s.toList = [72, 83, 69, 84]
  · rw [h15, show wideS [72, 83, 69, 84] = some ⟨1, 1, 1, e0, 4, 40, true, false, true⟩ from by kernel_rfl, str_of h15]; exact wide_at15 w hP
  by_cases h16 : s.toList = [90, 65, 68, 68]
  · rw [h16, show wideS [90, 65, 68, 68] = some ⟨1, 1, 1, e0, 4, 40, true, false, true⟩ from by kernel_rfl, str_of h16]; exact wide_at16 w hP
  have hn : wideS s.toList = none := by
    unfold wideS pick wideT
    simp only [List.find?, ne_of (fun e => h0 e.symm), ne_of (fun e => h1 e.symm), ne_of (fun e => h2 e.symm), ne_of (fun e => h3 e.symm), ne_of (fun e => h4 e.symm), ne_of (fun e => h5 e.symm), ne_of (fun e => h6 e.symm), ne_of (fun e => h7 e.symm), ne_of (fun e => h8 e.symm), ne_of (fun e => h9 e.symm), ne_of (fun e => h10 e.symm), ne_of (fun e => h11 e.symm), ne_of (fun e => h12 e.symm), ne_of (fun e => h13 e.symm), ne_of (fun e => h14 e.symm), ne_of (fun e => h15 e.symm), ne_of (fun e => h16 e.symm), Option.map_none]
  rw [hn]
  exact wide_no s w hP (ne_of h0) (ne_of h1) (ne_of h2) (ne_of h3) (ne_of h4) (ne_of h5) (ne_of h6) (ne_of h7) (ne_of h8) (ne_of h9) (ne_of h10) (ne_of h11) (ne_of h12) (ne_of h13) (ne_of h14) (ne_of h15) (ne_of h16)

end Go.Proofs.YtbfbmgkgaokecaaDoor.Vb
