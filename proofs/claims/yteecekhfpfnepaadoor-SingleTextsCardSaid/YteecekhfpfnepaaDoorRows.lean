/-
  NARROWER THAN 'FOR EVERY INPUT', by the rows' own cells (each row's printed sentence says how): SingleParts: laid · SingleBack: laid · SingleAt: laid · SingleQuantises: laid · SingleMemory: laid · SingleFormats: laid · SingleHalves: laid · SingleKeeps: laid · SingleTexts: laid · SingleDecimal: laid.
  DERIVED. THE GIVEN ROWS OF THIS SEAT. 10 by the template 'for every input the law returns true; each argument reads behind the call as it read before'; 0 by the template 'total and deterministic' (their statements: YteecekhfpfnepaaDoorTotals.lean).
  GIVEN WITH THE SEED: the statements are not yours to turn. If you find one false, say at which input.
  Laid BY PROGRAM, IN A SANDBOX (cutbox-rows.mjs): the forced cells as the released guide's own fill.sh prints them over the translation 1bc1181adcd6de69… (all of the seat's roots in one cut). By AI agents, Wed Nov 11 2026. No macro, syntax, notation, axiom, sorry.
-/
import Derived.Test.YteecekhfpfnepaaDoorChecked
import GoSem.PinnedTables
import GoSem.Claim
import GoSem.ClaimJoined
import GoSem.ClaimMapViews
import Derived.JoinedTies
import Derived.KernelRfl
namespace Go.Proofs.YteecekhfpfnepaaDoor
/- THE CELL 'sum', in the pinned program and in every row, IS THE sha256 OF THE DUMP (.gsa) THAT YteecekhfpfnepaaDoorProg.lean LOADS. Nothing in Lean hashes anything: it is a label: what it is worth is what the hold of that sum in a sandbox is worth. -/
noncomputable def Tryd.pinned : Pinned := { name := "yteecekhfpfnepaadoor", sum := "1bc1181adcd6de69ea3d13fc8ddd145df353d224d99a221be073d75921ff6378", checked := Tryd.checked }
namespace Rows
def none {H : Type} : Left H := { results := [], args := [] }

/- WHAT THE LISTED PACKAGE-LEVEL VARIABLES READ AS WHEN THE CALL BEGINS. Each datum BY PROGRAM (the guide's laid-datum.mjs) off the statement by which the dump's own 'gosem.cut.vars' lays the variable. In a bare row this is a premise. The card (YteecekhfpfnepaaDoorCards.lean) ties it to the program's text. -/
def laid_math_bits_deBruijn32tab {H : Type} : DataW H := .agg [.lit (.int .u8 0), .lit (.int .u8 1), .lit (.int .u8 28), .lit (.int .u8 2), .lit (.int .u8 29), .lit (.int .u8 14), .lit (.int .u8 24), .lit (.int .u8 3), .lit (.int .u8 30), .lit (.int .u8 22), .lit (.int .u8 20), .lit (.int .u8 15), .lit (.int .u8 25), .lit (.int .u8 17), .lit (.int .u8 4), .lit (.int .u8 8), .lit (.int .u8 31), .lit (.int .u8 27), .lit (.int .u8 13), .lit (.int .u8 23), .lit (.int .u8 21), .lit (.int .u8 19), .lit (.int .u8 16), .lit (.int .u8 7), .lit (.int .u8 26), .lit (.int .u8 12), .lit (.int .u8 18), .lit (.int .u8 6), .lit (.int .u8 11), .lit (.int .u8 5), .lit (.int .u8 10), .lit (.int .u8 9)]
def laid_math_bits_deBruijn64tab {H : Type} : DataW H := .agg [.lit (.int .u8 0), .lit (.int .u8 1), .lit (.int .u8 56), .lit (.int .u8 2), .lit (.int .u8 57), .lit (.int .u8 49), .lit (.int .u8 28), .lit (.int .u8 3), .lit (.int .u8 61), .lit (.int .u8 58), .lit (.int .u8 42), .lit (.int .u8 50), .lit (.int .u8 38), .lit (.int .u8 29), .lit (.int .u8 17), .lit (.int .u8 4), .lit (.int .u8 62), .lit (.int .u8 47), .lit (.int .u8 59), .lit (.int .u8 36), .lit (.int .u8 45), .lit (.int .u8 43), .lit (.int .u8 51), .lit (.int .u8 22), .lit (.int .u8 53), .lit (.int .u8 39), .lit (.int .u8 33), .lit (.int .u8 30), .lit (.int .u8 24), .lit (.int .u8 18), .lit (.int .u8 12), .lit (.int .u8 5), .lit (.int .u8 63), .lit (.int .u8 55), .lit (.int .u8 48), .lit (.int .u8 27), .lit (.int .u8 60), .lit (.int .u8 41), .lit (.int .u8 37), .lit (.int .u8 16), .lit (.int .u8 46), .lit (.int .u8 35), .lit (.int .u8 44), .lit (.int .u8 21), .lit (.int .u8 52), .lit (.int .u8 32), .lit (.int .u8 23), .lit (.int .u8 11), .lit (.int .u8 54), .lit (.int .u8 26), .lit (.int .u8 40), .lit (.int .u8 15), .lit (.int .u8 34), .lit (.int .u8 20), .lit (.int .u8 31), .lit (.int .u8 10), .lit (.int .u8 25), .lit (.int .u8 14), .lit (.int .u8 19), .lit (.int .u8 9), .lit (.int .u8 13), .lit (.int .u8 8), .lit (.int .u8 7), .lit (.int .u8 6)]
def laid_unicode_utf8_acceptRanges {H : Type} : DataW H := .agg [.agg [.lit (.int .u8 128), .lit (.int .u8 191)], .agg [.lit (.int .u8 160), .lit (.int .u8 191)], .agg [.lit (.int .u8 128), .lit (.int .u8 159)], .agg [.lit (.int .u8 144), .lit (.int .u8 191)], .agg [.lit (.int .u8 128), .lit (.int .u8 143)], .agg [.lit (.int .u8 0), .lit (.int .u8 0)], .agg [.lit (.int .u8 0), .lit (.int .u8 0)], .agg [.lit (.int .u8 0), .lit (.int .u8 0)], .agg [.lit (.int .u8 0), .lit (.int .u8 0)], .agg [.lit (.int .u8 0), .lit (.int .u8 0)], .agg [.lit (.int .u8 0), .lit (.int .u8 0)], .agg [.lit (.int .u8 0), .lit (.int .u8 0)], .agg [.lit (.int .u8 0), .lit (.int .u8 0)], .agg [.lit (.int .u8 0), .lit (.int .u8 0)], .agg [.lit (.int .u8 0), .lit (.int .u8 0)], .agg [.lit (.int .u8 0), .lit (.int .u8 0)]]
/-- One of Go's own tables, pinned by name: the form's constant. -/
def laid_unicode_utf8_first : DataW Unit := Go.Pinned.utf8First

/-- 'heraldlaw03.SingleParts': WHATEVER THE INPUT: true; the input reads as it did. -/
def singlePartsSpec : ChangeSpec := { name := "singleParts", fn := fun _ => fun
  | [d] => { results := [.lit (.bool true)], args := [d] }
  | _ => none }
def singlePartsRow : OpenClaim := { program := "yteecekhfpfnepaadoor", sum := "1bc1181adcd6de69ea3d13fc8ddd145df353d224d99a221be073d75921ff6378", func := "herald/heraldlaw03.SingleParts", spec := "singleParts", inPlace := ["math.Float32frombits", "math.Float32bits"], named := ["math/bits.deBruijn32tab", "math/bits.deBruijn64tab"], apart := false, laid := [("math/bits.deBruijn32tab", laid_math_bits_deBruijn32tab), ("math/bits.deBruijn64tab", laid_math_bits_deBruijn64tab)] }
def SinglePartsSaid : Prop := singlePartsRow.holds Tryd.pinned (OpenSpec.ofChange singlePartsSpec)

/-- ITS FALSE NEIGHBOUR: 'it returns false'. Refute it at one input. -/
def singlePartsWrong : ChangeSpec := { name := "singleParts", fn := fun _ => fun
  | [d] => { results := [.lit (.bool false)], args := [d] }
  | _ => none }
def SinglePartsWrongFalsely : Prop := singlePartsRow.holds Tryd.pinned (OpenSpec.ofChange singlePartsWrong)

/-- 'heraldlaw03.SingleBack': WHATEVER THE INPUT: true; the input reads as it did. -/
def singleBackSpec : ChangeSpec := { name := "singleBack", fn := fun _ => fun
  | [d] => { results := [.lit (.bool true)], args := [d] }
  | _ => none }
def singleBackRow : OpenClaim := { program := "yteecekhfpfnepaadoor", sum := "1bc1181adcd6de69ea3d13fc8ddd145df353d224d99a221be073d75921ff6378", func := "herald/heraldlaw03.SingleBack", spec := "singleBack", inPlace := ["math.Float32frombits", "math.Float32bits"], named := ["math/bits.deBruijn32tab", "math/bits.deBruijn64tab"], apart := false, laid := [("math/bits.deBruijn32tab", laid_math_bits_deBruijn32tab), ("math/bits.deBruijn64tab", laid_math_bits_deBruijn64tab)] }
def SingleBackSaid : Prop := singleBackRow.holds Tryd.pinned (OpenSpec.ofChange singleBackSpec)

/-- ITS FALSE NEIGHBOUR: 'it returns false'. Refute it at one input. -/
def singleBackWrong : ChangeSpec := { name := "singleBack", fn := fun _ => fun
  | [d] => { results := [.lit (.bool false)], args := [d] }
  | _ => none }
def SingleBackWrongFalsely : Prop := singleBackRow.holds Tryd.pinned (OpenSpec.ofChange singleBackWrong)

/-- 'heraldlaw03.SingleAt': WHATEVER THE INPUT: true; the input reads as it did. -/
def singleAtSpec : ChangeSpec := { name := "singleAt", fn := fun _ => fun
  | [d1, d2] => { results := [.lit (.bool true)], args := [d1, d2] }
  | _ => none }
def singleAtRow : OpenClaim := { program := "yteecekhfpfnepaadoor", sum := "1bc1181adcd6de69ea3d13fc8ddd145df353d224d99a221be073d75921ff6378", func := "herald/heraldlaw03.SingleAt", spec := "singleAt", inPlace := ["math.Float32frombits", "math.Float32bits"], named := ["math/bits.deBruijn32tab", "math/bits.deBruijn64tab"], apart := false, laid := [("math/bits.deBruijn32tab", laid_math_bits_deBruijn32tab), ("math/bits.deBruijn64tab", laid_math_bits_deBruijn64tab)] }
def SingleAtSaid : Prop := singleAtRow.holds Tryd.pinned (OpenSpec.ofChange singleAtSpec)

/-- ITS FALSE NEIGHBOUR: 'it returns false'. Refute it at one input. -/
def singleAtWrong : ChangeSpec := { name := "singleAt", fn := fun _ => fun
  | [d1, d2] => { results := [.lit (.bool false)], args := [d1, d2] }
  | _ => none }
def SingleAtWrongFalsely : Prop := singleAtRow.holds Tryd.pinned (OpenSpec.ofChange singleAtWrong)

/-- 'heraldlaw03.SingleQuantises': WHATEVER THE INPUT: true; the input reads as it did. -/
def singleQuantisesSpec : ChangeSpec := { name := "singleQuantises", fn := fun _ => fun
  | [d] => { results := [.lit (.bool true)], args := [d] }
  | _ => none }
def singleQuantisesRow : OpenClaim := { program := "yteecekhfpfnepaadoor", sum := "1bc1181adcd6de69ea3d13fc8ddd145df353d224d99a221be073d75921ff6378", func := "herald/heraldlaw03.SingleQuantises", spec := "singleQuantises", inPlace := ["math.Float32frombits", "math.Float32bits"], named := ["math/bits.deBruijn32tab", "math/bits.deBruijn64tab"], apart := false, laid := [("math/bits.deBruijn32tab", laid_math_bits_deBruijn32tab), ("math/bits.deBruijn64tab", laid_math_bits_deBruijn64tab)] }
def SingleQuantisesSaid : Prop := singleQuantisesRow.holds Tryd.pinned (OpenSpec.ofChange singleQuantisesSpec)

/-- ITS FALSE NEIGHBOUR: 'it returns false'. Refute it at one input. -/
def singleQuantisesWrong : ChangeSpec := { name := "singleQuantises", fn := fun _ => fun
  | [d] => { results := [.lit (.bool false)], args := [d] }
  | _ => none }
def SingleQuantisesWrongFalsely : Prop := singleQuantisesRow.holds Tryd.pinned (OpenSpec.ofChange singleQuantisesWrong)

/-- 'heraldlaw03.SingleMemory': WHATEVER THE INPUT: true; the input reads as it did. -/
def singleMemorySpec : ChangeSpec := { name := "singleMemory", fn := fun _ => fun
  | [d] => { results := [.lit (.bool true)], args := [d] }
  | _ => none }
def singleMemoryRow : OpenClaim := { program := "yteecekhfpfnepaadoor", sum := "1bc1181adcd6de69ea3d13fc8ddd145df353d224d99a221be073d75921ff6378", func := "herald/heraldlaw03.SingleMemory", spec := "singleMemory", inPlace := ["math.Float32frombits", "math.Float32bits"], named := ["math/bits.deBruijn32tab", "math/bits.deBruijn64tab"], apart := false, laid := [("math/bits.deBruijn32tab", laid_math_bits_deBruijn32tab), ("math/bits.deBruijn64tab", laid_math_bits_deBruijn64tab)] }
def SingleMemorySaid : Prop := singleMemoryRow.holds Tryd.pinned (OpenSpec.ofChange singleMemorySpec)

/-- ITS FALSE NEIGHBOUR: 'it returns false'. Refute it at one input. -/
def singleMemoryWrong : ChangeSpec := { name := "singleMemory", fn := fun _ => fun
  | [d] => { results := [.lit (.bool false)], args := [d] }
  | _ => none }
def SingleMemoryWrongFalsely : Prop := singleMemoryRow.holds Tryd.pinned (OpenSpec.ofChange singleMemoryWrong)

/-- 'heraldlaw03.SingleFormats': WHATEVER THE INPUT: true; the input reads as it did. -/
def singleFormatsSpec : ChangeSpec := { name := "singleFormats", fn := fun _ => fun
  | [d1, d2] => { results := [.lit (.bool true)], args := [d1, d2] }
  | _ => none }
def singleFormatsRow : OpenClaim := { program := "yteecekhfpfnepaadoor", sum := "1bc1181adcd6de69ea3d13fc8ddd145df353d224d99a221be073d75921ff6378", func := "herald/heraldlaw03.SingleFormats", spec := "singleFormats", inPlace := ["math.Float32frombits", "math.Float32bits"], named := ["math/bits.deBruijn32tab", "math/bits.deBruijn64tab"], apart := false, laid := [("math/bits.deBruijn32tab", laid_math_bits_deBruijn32tab), ("math/bits.deBruijn64tab", laid_math_bits_deBruijn64tab)] }
def SingleFormatsSaid : Prop := singleFormatsRow.holds Tryd.pinned (OpenSpec.ofChange singleFormatsSpec)

/-- ITS FALSE NEIGHBOUR: 'it returns false'. Refute it at one input. -/
def singleFormatsWrong : ChangeSpec := { name := "singleFormats", fn := fun _ => fun
  | [d1, d2] => { results := [.lit (.bool false)], args := [d1, d2] }
  | _ => none }
def SingleFormatsWrongFalsely : Prop := singleFormatsRow.holds Tryd.pinned (OpenSpec.ofChange singleFormatsWrong)

/-- 'heraldlaw03.SingleHalves': WHATEVER THE INPUT: true; the input reads as it did. -/
def singleHalvesSpec : ChangeSpec := { name := "singleHalves", fn := fun _ => fun
  | [d] => { results := [.lit (.bool true)], args := [d] }
  | _ => none }
def singleHalvesRow : OpenClaim := { program := "yteecekhfpfnepaadoor", sum := "1bc1181adcd6de69ea3d13fc8ddd145df353d224d99a221be073d75921ff6378", func := "herald/heraldlaw03.SingleHalves", spec := "singleHalves", inPlace := ["math.Float32frombits", "math.Float32bits"], named := ["math/bits.deBruijn32tab", "math/bits.deBruijn64tab"], apart := false, laid := [("math/bits.deBruijn32tab", laid_math_bits_deBruijn32tab), ("math/bits.deBruijn64tab", laid_math_bits_deBruijn64tab)] }
def SingleHalvesSaid : Prop := singleHalvesRow.holds Tryd.pinned (OpenSpec.ofChange singleHalvesSpec)

/-- ITS FALSE NEIGHBOUR: 'it returns false'. Refute it at one input. -/
def singleHalvesWrong : ChangeSpec := { name := "singleHalves", fn := fun _ => fun
  | [d] => { results := [.lit (.bool false)], args := [d] }
  | _ => none }
def SingleHalvesWrongFalsely : Prop := singleHalvesRow.holds Tryd.pinned (OpenSpec.ofChange singleHalvesWrong)

/-- 'heraldlaw03.SingleKeeps': WHATEVER THE INPUT: true; the input reads as it did. -/
def singleKeepsSpec : ChangeSpec := { name := "singleKeeps", fn := fun _ => fun
  | [d1, d2] => { results := [.lit (.bool true)], args := [d1, d2] }
  | _ => none }
def singleKeepsRow : OpenClaim := { program := "yteecekhfpfnepaadoor", sum := "1bc1181adcd6de69ea3d13fc8ddd145df353d224d99a221be073d75921ff6378", func := "herald/heraldlaw03.SingleKeeps", spec := "singleKeeps", inPlace := ["math.Float32frombits", "math.Float32bits"], named := ["math/bits.deBruijn32tab", "math/bits.deBruijn64tab"], apart := false, laid := [("math/bits.deBruijn32tab", laid_math_bits_deBruijn32tab), ("math/bits.deBruijn64tab", laid_math_bits_deBruijn64tab)] }
def SingleKeepsSaid : Prop := singleKeepsRow.holds Tryd.pinned (OpenSpec.ofChange singleKeepsSpec)

/-- ITS FALSE NEIGHBOUR: 'it returns false'. Refute it at one input. -/
def singleKeepsWrong : ChangeSpec := { name := "singleKeeps", fn := fun _ => fun
  | [d1, d2] => { results := [.lit (.bool false)], args := [d1, d2] }
  | _ => none }
def SingleKeepsWrongFalsely : Prop := singleKeepsRow.holds Tryd.pinned (OpenSpec.ofChange singleKeepsWrong)

/-- 'heraldlaw03.SingleTexts': WHATEVER THE INPUT: true; the input reads as it did. -/
def singleTextsSpec : ChangeSpec := { name := "singleTexts", fn := fun _ => fun
  | [d1, d2] => { results := [.lit (.bool true)], args := [d1, d2] }
  | _ => none }
def singleTextsRow : OpenClaim := { program := "yteecekhfpfnepaadoor", sum := "1bc1181adcd6de69ea3d13fc8ddd145df353d224d99a221be073d75921ff6378", func := "herald/heraldlaw03.SingleTexts", spec := "singleTexts", inPlace := ["internal/bytealg.IndexByteString", "internal/bytealg.IndexString", "math.Float32frombits", "math.Float32bits", "internal/abi.NoEscape", "internal/bytealg.MakeNoZero"], named := ["unicode/utf8.first", "unicode/utf8.acceptRanges", "math/bits.deBruijn32tab", "math/bits.deBruijn64tab", "internal/bytealg.MaxLen"], apart := false, laid := [("math/bits.deBruijn32tab", laid_math_bits_deBruijn32tab), ("math/bits.deBruijn64tab", laid_math_bits_deBruijn64tab), ("unicode/utf8.acceptRanges", laid_unicode_utf8_acceptRanges), ("unicode/utf8.first", laid_unicode_utf8_first)] }
def SingleTextsSaid : Prop := singleTextsRow.holds Tryd.pinned (OpenSpec.ofChange singleTextsSpec)

/-- ITS FALSE NEIGHBOUR: 'it returns false'. Refute it at one input. -/
def singleTextsWrong : ChangeSpec := { name := "singleTexts", fn := fun _ => fun
  | [d1, d2] => { results := [.lit (.bool false)], args := [d1, d2] }
  | _ => none }
def SingleTextsWrongFalsely : Prop := singleTextsRow.holds Tryd.pinned (OpenSpec.ofChange singleTextsWrong)

/-- 'heraldlaw03.SingleDecimal': WHATEVER THE INPUT: true; the input reads as it did. -/
def singleDecimalSpec : ChangeSpec := { name := "singleDecimal", fn := fun _ => fun
  | [d] => { results := [.lit (.bool true)], args := [d] }
  | _ => none }
def singleDecimalRow : OpenClaim := { program := "yteecekhfpfnepaadoor", sum := "1bc1181adcd6de69ea3d13fc8ddd145df353d224d99a221be073d75921ff6378", func := "herald/heraldlaw03.SingleDecimal", spec := "singleDecimal", inPlace := ["internal/bytealg.IndexByteString", "internal/bytealg.IndexString", "internal/abi.NoEscape", "internal/bytealg.MakeNoZero", "math.Float32frombits", "math.Float32bits"], named := ["math/bits.deBruijn32tab", "math/bits.deBruijn64tab", "unicode/utf8.first", "unicode/utf8.acceptRanges", "internal/bytealg.MaxLen"], apart := false, laid := [("math/bits.deBruijn32tab", laid_math_bits_deBruijn32tab), ("math/bits.deBruijn64tab", laid_math_bits_deBruijn64tab), ("unicode/utf8.acceptRanges", laid_unicode_utf8_acceptRanges), ("unicode/utf8.first", laid_unicode_utf8_first)] }
def SingleDecimalSaid : Prop := singleDecimalRow.holds Tryd.pinned (OpenSpec.ofChange singleDecimalSpec)

/-- ITS FALSE NEIGHBOUR: 'it returns false'. Refute it at one input. -/
def singleDecimalWrong : ChangeSpec := { name := "singleDecimal", fn := fun _ => fun
  | [d] => { results := [.lit (.bool false)], args := [d] }
  | _ => none }
def SingleDecimalWrongFalsely : Prop := singleDecimalRow.holds Tryd.pinned (OpenSpec.ofChange singleDecimalWrong)

/- THE SECOND FORM. 'bulk': how many values and letters a reading holds, each counted each time it is reached (what is shared counts as often as it is met; a slice's spare places count too). A statement '..UptoSaid' is the law's where the arguments, and the package variables that the reading takes, are together of bulk at most 1048576: NARROWER than '..Said'. Prove '..Said' where nothing that the law and all that it calls make is longer than what came in: it says more and counts as full. Else prove '..UptoSaid'. A law counts once. -/
mutual
def uptoBulk {H : Type} : DataW H → Nat
  | .lit (.string bytes) => bytes.length + 1
  | .lit _ => 1
  | .nil => 1
  | .ptr d => uptoBulk d + 1
  | .slice elems spare => uptoBulkAll elems + uptoBulkAll spare + 1
  | .agg parts => uptoBulkAll parts + 1
  | .iface _ d => uptoBulk d + 1
  | .map entries => uptoBulkEntries entries + 1
  | .held _ => 1
def uptoBulkAll {H : Type} : List (DataW H) → Nat
  | [] => 0
  | d :: r => uptoBulk d + uptoBulkAll r
def uptoBulkEntries {H : Type} : List (Lit × DataW H) → Nat
  | [] => 0
  | x :: r => uptoBulkEntry x + uptoBulkEntries r
def uptoBulkEntry {H : Type} : Lit × DataW H → Nat
  | (.string bytes, d) => bytes.length + uptoBulk d + 1
  | (_, d) => uptoBulk d + 1
 end
def uptoSmall : (H : Type) → List (DataW H) → Bool := fun _ ds => decide (uptoBulkAll ds ≤ 1048576)
def OpenSpec.upto (s : _root_.Go.ChangeSpec) : _root_.Go.OpenSpec := { _root_.Go.OpenSpec.ofChange s with cond := some uptoSmall }

/-- 'heraldlaw03.SingleParts', WHERE WHAT IT READS IS OF BULK AT MOST 1048576: true; the input reads as it did. -/
def singlePartsUptoRow : OpenClaim := { program := "yteecekhfpfnepaadoor", sum := "1bc1181adcd6de69ea3d13fc8ddd145df353d224d99a221be073d75921ff6378", func := "herald/heraldlaw03.SingleParts", spec := "singleParts", inPlace := ["math.Float32frombits", "math.Float32bits"], named := ["math/bits.deBruijn32tab", "math/bits.deBruijn64tab"], apart := false, laid := [("math/bits.deBruijn32tab", laid_math_bits_deBruijn32tab), ("math/bits.deBruijn64tab", laid_math_bits_deBruijn64tab)], narrowed := true }
def SinglePartsUptoSaid : Prop := singlePartsUptoRow.holds Tryd.pinned (OpenSpec.upto singlePartsSpec)

/-- 'heraldlaw03.SingleBack', WHERE WHAT IT READS IS OF BULK AT MOST 1048576: true; the input reads as it did. -/
def singleBackUptoRow : OpenClaim := { program := "yteecekhfpfnepaadoor", sum := "1bc1181adcd6de69ea3d13fc8ddd145df353d224d99a221be073d75921ff6378", func := "herald/heraldlaw03.SingleBack", spec := "singleBack", inPlace := ["math.Float32frombits", "math.Float32bits"], named := ["math/bits.deBruijn32tab", "math/bits.deBruijn64tab"], apart := false, laid := [("math/bits.deBruijn32tab", laid_math_bits_deBruijn32tab), ("math/bits.deBruijn64tab", laid_math_bits_deBruijn64tab)], narrowed := true }
def SingleBackUptoSaid : Prop := singleBackUptoRow.holds Tryd.pinned (OpenSpec.upto singleBackSpec)

/-- 'heraldlaw03.SingleAt', WHERE WHAT IT READS IS OF BULK AT MOST 1048576: true; the input reads as it did. -/
def singleAtUptoRow : OpenClaim := { program := "yteecekhfpfnepaadoor", sum := "1bc1181adcd6de69ea3d13fc8ddd145df353d224d99a221be073d75921ff6378", func := "herald/heraldlaw03.SingleAt", spec := "singleAt", inPlace := ["math.Float32frombits", "math.Float32bits"], named := ["math/bits.deBruijn32tab", "math/bits.deBruijn64tab"], apart := false, laid := [("math/bits.deBruijn32tab", laid_math_bits_deBruijn32tab), ("math/bits.deBruijn64tab", laid_math_bits_deBruijn64tab)], narrowed := true }
def SingleAtUptoSaid : Prop := singleAtUptoRow.holds Tryd.pinned (OpenSpec.upto singleAtSpec)

/-- 'heraldlaw03.SingleQuantises', WHERE WHAT IT READS IS OF BULK AT MOST 1048576: true; the input reads as it did. -/
def singleQuantisesUptoRow : OpenClaim := { program := "yteecekhfpfnepaadoor", sum := "1bc1181adcd6de69ea3d13fc8ddd145df353d224d99a221be073d75921ff6378", func := "herald/heraldlaw03.SingleQuantises", spec := "singleQuantises", inPlace := ["math.Float32frombits", "math.Float32bits"], named := ["math/bits.deBruijn32tab", "math/bits.deBruijn64tab"], apart := false, laid := [("math/bits.deBruijn32tab", laid_math_bits_deBruijn32tab), ("math/bits.deBruijn64tab", laid_math_bits_deBruijn64tab)], narrowed := true }
def SingleQuantisesUptoSaid : Prop := singleQuantisesUptoRow.holds Tryd.pinned (OpenSpec.upto singleQuantisesSpec)

/-- 'heraldlaw03.SingleMemory', WHERE WHAT IT READS IS OF BULK AT MOST 1048576: true; the input reads as it did. -/
def singleMemoryUptoRow : OpenClaim := { program := "yteecekhfpfnepaadoor", sum := "1bc1181adcd6de69ea3d13fc8ddd145df353d224d99a221be073d75921ff6378", func := "herald/heraldlaw03.SingleMemory", spec := "singleMemory", inPlace := ["math.Float32frombits", "math.Float32bits"], named := ["math/bits.deBruijn32tab", "math/bits.deBruijn64tab"], apart := false, laid := [("math/bits.deBruijn32tab", laid_math_bits_deBruijn32tab), ("math/bits.deBruijn64tab", laid_math_bits_deBruijn64tab)], narrowed := true }
def SingleMemoryUptoSaid : Prop := singleMemoryUptoRow.holds Tryd.pinned (OpenSpec.upto singleMemorySpec)

/-- 'heraldlaw03.SingleFormats', WHERE WHAT IT READS IS OF BULK AT MOST 1048576: true; the input reads as it did. -/
def singleFormatsUptoRow : OpenClaim := { program := "yteecekhfpfnepaadoor", sum := "1bc1181adcd6de69ea3d13fc8ddd145df353d224d99a221be073d75921ff6378", func := "herald/heraldlaw03.SingleFormats", spec := "singleFormats", inPlace := ["math.Float32frombits", "math.Float32bits"], named := ["math/bits.deBruijn32tab", "math/bits.deBruijn64tab"], apart := false, laid := [("math/bits.deBruijn32tab", laid_math_bits_deBruijn32tab), ("math/bits.deBruijn64tab", laid_math_bits_deBruijn64tab)], narrowed := true }
def SingleFormatsUptoSaid : Prop := singleFormatsUptoRow.holds Tryd.pinned (OpenSpec.upto singleFormatsSpec)

/-- 'heraldlaw03.SingleHalves', WHERE WHAT IT READS IS OF BULK AT MOST 1048576: true; the input reads as it did. -/
def singleHalvesUptoRow : OpenClaim := { program := "yteecekhfpfnepaadoor", sum := "1bc1181adcd6de69ea3d13fc8ddd145df353d224d99a221be073d75921ff6378", func := "herald/heraldlaw03.SingleHalves", spec := "singleHalves", inPlace := ["math.Float32frombits", "math.Float32bits"], named := ["math/bits.deBruijn32tab", "math/bits.deBruijn64tab"], apart := false, laid := [("math/bits.deBruijn32tab", laid_math_bits_deBruijn32tab), ("math/bits.deBruijn64tab", laid_math_bits_deBruijn64tab)], narrowed := true }
def SingleHalvesUptoSaid : Prop := singleHalvesUptoRow.holds Tryd.pinned (OpenSpec.upto singleHalvesSpec)

/-- 'heraldlaw03.SingleKeeps', WHERE WHAT IT READS IS OF BULK AT MOST 1048576: true; the input reads as it did. -/
def singleKeepsUptoRow : OpenClaim := { program := "yteecekhfpfnepaadoor", sum := "1bc1181adcd6de69ea3d13fc8ddd145df353d224d99a221be073d75921ff6378", func := "herald/heraldlaw03.SingleKeeps", spec := "singleKeeps", inPlace := ["math.Float32frombits", "math.Float32bits"], named := ["math/bits.deBruijn32tab", "math/bits.deBruijn64tab"], apart := false, laid := [("math/bits.deBruijn32tab", laid_math_bits_deBruijn32tab), ("math/bits.deBruijn64tab", laid_math_bits_deBruijn64tab)], narrowed := true }
def SingleKeepsUptoSaid : Prop := singleKeepsUptoRow.holds Tryd.pinned (OpenSpec.upto singleKeepsSpec)

/-- 'heraldlaw03.SingleTexts', WHERE WHAT IT READS IS OF BULK AT MOST 1048576: true; the input reads as it did. -/
def singleTextsUptoRow : OpenClaim := { program := "yteecekhfpfnepaadoor", sum := "1bc1181adcd6de69ea3d13fc8ddd145df353d224d99a221be073d75921ff6378", func := "herald/heraldlaw03.SingleTexts", spec := "singleTexts", inPlace := ["internal/bytealg.IndexByteString", "internal/bytealg.IndexString", "math.Float32frombits", "math.Float32bits", "internal/abi.NoEscape", "internal/bytealg.MakeNoZero"], named := ["unicode/utf8.first", "unicode/utf8.acceptRanges", "math/bits.deBruijn32tab", "math/bits.deBruijn64tab", "internal/bytealg.MaxLen"], apart := false, laid := [("math/bits.deBruijn32tab", laid_math_bits_deBruijn32tab), ("math/bits.deBruijn64tab", laid_math_bits_deBruijn64tab), ("unicode/utf8.acceptRanges", laid_unicode_utf8_acceptRanges), ("unicode/utf8.first", laid_unicode_utf8_first)], narrowed := true }
def SingleTextsUptoSaid : Prop := singleTextsUptoRow.holds Tryd.pinned (OpenSpec.upto singleTextsSpec)

/-- 'heraldlaw03.SingleDecimal', WHERE WHAT IT READS IS OF BULK AT MOST 1048576: true; the input reads as it did. -/
def singleDecimalUptoRow : OpenClaim := { program := "yteecekhfpfnepaadoor", sum := "1bc1181adcd6de69ea3d13fc8ddd145df353d224d99a221be073d75921ff6378", func := "herald/heraldlaw03.SingleDecimal", spec := "singleDecimal", inPlace := ["internal/bytealg.IndexByteString", "internal/bytealg.IndexString", "internal/abi.NoEscape", "internal/bytealg.MakeNoZero", "math.Float32frombits", "math.Float32bits"], named := ["math/bits.deBruijn32tab", "math/bits.deBruijn64tab", "unicode/utf8.first", "unicode/utf8.acceptRanges", "internal/bytealg.MaxLen"], apart := false, laid := [("math/bits.deBruijn32tab", laid_math_bits_deBruijn32tab), ("math/bits.deBruijn64tab", laid_math_bits_deBruijn64tab), ("unicode/utf8.acceptRanges", laid_unicode_utf8_acceptRanges), ("unicode/utf8.first", laid_unicode_utf8_first)], narrowed := true }
def SingleDecimalUptoSaid : Prop := singleDecimalUptoRow.holds Tryd.pinned (OpenSpec.upto singleDecimalSpec)

end Rows
end Go.Proofs.YteecekhfpfnepaaDoor
