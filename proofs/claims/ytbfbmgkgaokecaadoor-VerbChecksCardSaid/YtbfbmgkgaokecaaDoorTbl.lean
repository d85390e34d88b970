/- Which spec a name has, as the switches of package verb tell it: the plain tables. Written by gen_specs.py. -/
import Derived.Test.YtbfbmgkgaokecaaDoorBase
import Derived.Test.YtbfbmgkgaokecaaDoorRow
namespace Go.Proofs.YtbfbmgkgaokecaaDoor.Vb
open Go.RowKit
set_option linter.unusedSimpArgs false
set_option linter.unusedVariables false

def e0 : ByteArray := ⟨#[]⟩
/-- A spec's cells. -/
structure Sp where
  (first last step : Int)
  (name : ByteArray)
  (min max : Int)
  (writes odd even : Bool)

def Sp.val (s : Sp) : Value := .agg #[.int .i64 s.first, .int .i64 s.last, .int .i64 s.step, .string s.name, .int .i64 s.min, .int .i64 s.max, .bool s.writes, .bool s.odd, .bool s.even]
def Sp.zero : Sp := ⟨0, 0, 0, e0, 0, 0, false, false, false⟩
/-- What a switch tells. -/
def spV : Option Sp → Value
  | some s => .tuple #[s.val, .bool true]
  | none => .tuple #[Sp.zero.val, .bool false]
/-- The first row of a table with a name. -/
def pick (t : List (List UInt8 × Sp)) (l : List UInt8) : Option Sp := (t.find? (fun r => r.1 == l)).map (·.2)

def shortT : List (List UInt8 × Sp) := [
  ([80, 73, 78, 71], ⟨0, 0, 0, e0, 1, 2, false, false, false⟩),
  ([69, 67, 72, 79], ⟨0, 0, 0, e0, 2, 2, false, false, false⟩),
  ([75, 69, 89, 83], ⟨0, 0, 0, e0, 2, 2, false, false, false⟩),
  ([68, 66, 83, 73, 90, 69], ⟨0, 0, 0, e0, 1, 1, false, false, false⟩),
  ([77, 85, 76, 84, 73], ⟨0, 0, 0, e0, 1, 1, false, false, false⟩),
  ([69, 88, 69, 67], ⟨0, 0, 0, e0, 1, 1, false, false, false⟩),
  ([68, 73, 83, 67, 65, 82, 68], ⟨0, 0, 0, e0, 1, 1, false, false, false⟩),
  ([85, 78, 87, 65, 84, 67, 72], ⟨0, 0, 0, e0, 1, 1, false, false, false⟩),
  ([70, 76, 85, 83, 72, 65, 76, 76], ⟨0, 0, 0, e0, 1, 1, true, false, false⟩),
  ([71, 69, 84], ⟨1, 1, 1, e0, 2, 2, false, false, false⟩),
  ([83, 84, 82, 76, 69, 78], ⟨1, 1, 1, e0, 2, 2, false, false, false⟩),
  ([84, 89, 80, 69], ⟨1, 1, 1, e0, 2, 2, false, false, false⟩),
  ([84, 84, 76], ⟨1, 1, 1, e0, 2, 2, false, false, false⟩),
  ([80, 84, 84, 76], ⟨1, 1, 1, e0, 2, 2, false, false, false⟩),
  ([72, 76, 69, 78], ⟨1, 1, 1, e0, 2, 2, false, false, false⟩),
  ([72, 71, 69, 84, 65, 76, 76], ⟨1, 1, 1, e0, 2, 2, false, false, false⟩),
  ([72, 75, 69, 89, 83], ⟨1, 1, 1, e0, 2, 2, false, false, false⟩),
  ([72, 86, 65, 76, 83], ⟨1, 1, 1, e0, 2, 2, false, false, false⟩),
  ([76, 76, 69, 78], ⟨1, 1, 1, e0, 2, 2, false, false, false⟩),
  ([83, 67, 65, 82, 68], ⟨1, 1, 1, e0, 2, 2, false, false, false⟩),
  ([83, 77, 69, 77, 66, 69, 82, 83], ⟨1, 1, 1, e0, 2, 2, false, false, false⟩),
  ([83, 82, 65, 78, 68, 77, 69, 77, 66, 69, 82], ⟨1, 1, 1, e0, 2, 2, false, false, false⟩),
  ([90, 67, 65, 82, 68], ⟨1, 1, 1, e0, 2, 2, false, false, false⟩),
  ([73, 78, 67, 82], ⟨1, 1, 1, e0, 2, 2, true, false, false⟩),
  ([68, 69, 67, 82], ⟨1, 1, 1, e0, 2, 2, true, false, false⟩),
  ([80, 69, 82, 83, 73, 83, 84], ⟨1, 1, 1, e0, 2, 2, true, false, false⟩),
  ([76, 80, 79, 80], ⟨1, 1, 1, e0, 2, 2, true, false, false⟩),
  ([82, 80, 79, 80], ⟨1, 1, 1, e0, 2, 2, true, false, false⟩),
  ([83, 80, 79, 80], ⟨1, 1, 1, e0, 2, 2, true, false, false⟩)]
def shortS (l : List UInt8) : Option Sp := pick shortT l

def middleT : List (List UInt8 × Sp) := [
  ([87, 65, 84, 67, 72], ⟨1, (-1), 1, e0, 2, 40, false, false, false⟩),
  ([69, 88, 73, 83, 84, 83], ⟨1, (-1), 1, e0, 2, 40, false, false, false⟩),
  ([77, 71, 69, 84], ⟨1, (-1), 1, e0, 2, 40, false, false, false⟩),
  ([83, 73, 78, 84, 69, 82], ⟨1, (-1), 1, e0, 2, 40, false, false, false⟩),
  ([83, 85, 78, 73, 79, 78], ⟨1, (-1), 1, e0, 2, 40, false, false, false⟩),
  ([83, 68, 73, 70, 70], ⟨1, (-1), 1, e0, 2, 40, false, false, false⟩),
  ([68, 69, 76], ⟨1, (-1), 1, e0, 2, 40, true, false, false⟩),
  ([83, 69, 84], ⟨1, 1, 1, e0, 3, 7, true, false, false⟩),
  ([71, 69, 84, 83, 69, 84], ⟨1, 1, 1, e0, 3, 3, true, false, false⟩),
  ([83, 69, 84, 78, 88], ⟨1, 1, 1, e0, 3, 3, true, false, false⟩),
  ([65, 80, 80, 69, 78, 68], ⟨1, 1, 1, e0, 3, 3, true, false, false⟩),
  ([73, 78, 67, 82, 66, 89], ⟨1, 1, 1, e0, 3, 3, true, false, false⟩),
  ([68, 69, 67, 82, 66, 89], ⟨1, 1, 1, e0, 3, 3, true, false, false⟩),
  ([69, 88, 80, 73, 82, 69], ⟨1, 1, 1, e0, 3, 3, true, false, false⟩),
  ([80, 69, 88, 80, 73, 82, 69], ⟨1, 1, 1, e0, 3, 3, true, false, false⟩),
  ([80, 69, 88, 80, 73, 82, 69, 65, 84], ⟨1, 1, 1, e0, 3, 3, true, false, false⟩),
  ([82, 69, 78, 65, 77, 69], ⟨1, 2, 1, e0, 3, 3, true, false, false⟩),
  ([82, 80, 79, 80, 76, 80, 85, 83, 72], ⟨1, 2, 1, e0, 3, 3, true, false, false⟩),
  ([77, 83, 69, 84], ⟨1, (-1), 2, e0, 3, 40, true, true, false⟩),
  ([72, 71, 69, 84], ⟨1, 1, 1, e0, 3, 3, false, false, false⟩),
  ([72, 69, 88, 73, 83, 84, 83], ⟨1, 1, 1, e0, 3, 3, false, false, false⟩),
  ([76, 73, 78, 68, 69, 88], ⟨1, 1, 1, e0, 3, 3, false, false, false⟩),
  ([83, 73, 83, 77, 69, 77, 66, 69, 82], ⟨1, 1, 1, e0, 3, 3, false, false, false⟩),
  ([90, 83, 67, 79, 82, 69], ⟨1, 1, 1, e0, 3, 3, false, false, false⟩),
  ([90, 82, 65, 78, 75], ⟨1, 1, 1, e0, 3, 3, false, false, false⟩),
  ([90, 82, 69, 86, 82, 65, 78, 75], ⟨1, 1, 1, e0, 3, 3, false, false, false⟩),
  ([72, 77, 71, 69, 84], ⟨1, 1, 1, e0, 3, 40, false, false, false⟩),
  ([72, 68, 69, 76], ⟨1, 1, 1, e0, 3, 40, true, false, false⟩),
  ([76, 80, 85, 83, 72], ⟨1, 1, 1, e0, 3, 40, true, false, false⟩),
  ([82, 80, 85, 83, 72], ⟨1, 1, 1, e0, 3, 40, true, false, false⟩),
  ([83, 65, 68, 68], ⟨1, 1, 1, e0, 3, 40, true, false, false⟩),
  ([83, 82, 69, 77], ⟨1, 1, 1, e0, 3, 40, true, false, false⟩),
  ([90, 82, 69, 77], ⟨1, 1, 1, e0, 3, 40, true, false, false⟩)]
def middleS (l : List UInt8) : Option Sp := pick middleT l

def wideT : List (List UInt8 × Sp) := [
  ([71, 69, 84, 82, 65, 78, 71, 69], ⟨1, 1, 1, e0, 4, 4, false, false, false⟩),
  ([76, 82, 65, 78, 71, 69], ⟨1, 1, 1, e0, 4, 4, false, false, false⟩),
  ([90, 82, 69, 86, 82, 65, 78, 71, 69], ⟨1, 1, 1, e0, 4, 4, false, false, false⟩),
  ([90, 82, 65, 78, 71, 69, 66, 89, 83, 67, 79, 82, 69], ⟨1, 1, 1, e0, 4, 4, false, false, false⟩),
  ([90, 67, 79, 85, 78, 84], ⟨1, 1, 1, e0, 4, 4, false, false, false⟩),
  ([83, 69, 84, 82, 65, 78, 71, 69], ⟨1, 1, 1, e0, 4, 4, true, false, false⟩),
  ([72, 83, 69, 84, 78, 88], ⟨1, 1, 1, e0, 4, 4, true, false, false⟩),
  ([72, 73, 78, 67, 82, 66, 89], ⟨1, 1, 1, e0, 4, 4, true, false, false⟩),
  ([76, 83, 69, 84], ⟨1, 1, 1, e0, 4, 4, true, false, false⟩),
  ([76, 84, 82, 73, 77], ⟨1, 1, 1, e0, 4, 4, true, false, false⟩),
  ([76, 82, 69, 77], ⟨1, 1, 1, e0, 4, 4, true, false, false⟩),
  ([90, 73, 78, 67, 82, 66, 89], ⟨1, 1, 1, e0, 4, 4, true, false, false⟩),
  ([90, 82, 69, 77, 82, 65, 78, 71, 69, 66, 89, 83, 67, 79, 82, 69], ⟨1, 1, 1, e0, 4, 4, true, false, false⟩),
  ([83, 77, 79, 86, 69], ⟨1, 2, 1, e0, 4, 4, true, false, false⟩),
  ([90, 82, 65, 78, 71, 69], ⟨1, 1, 1, e0, 4, 5, false, false, false⟩),
  ([72, 83, 69, 84], ⟨1, 1, 1, e0, 4, 40, true, false, true⟩),
  ([90, 65, 68, 68], ⟨1, 1, 1, e0, 4, 40, true, false, true⟩)]
def wideS (l : List UInt8) : Option Sp := pick wideT l

end Go.Proofs.YtbfbmgkgaokecaaDoor.Vb
