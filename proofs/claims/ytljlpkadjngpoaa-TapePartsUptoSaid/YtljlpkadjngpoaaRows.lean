/-
  No cell of these rows narrows 'for every input' (looked for: loops, veiled, ifaces, maps, wideKeys, modest, calm, conditions, laid).
  DERIVED. THE GIVEN ROWS OF THIS SEAT. 8 by the template 'for every input the law returns true; each argument reads behind the call as it read before'; 0 by the template 'total and deterministic' (their statements: YtljlpkadjngpoaaTotals.lean).
  GIVEN WITH THE SEED: the statements are not yours to turn. If you find one false, say at which input.
  Laid BY PROGRAM, IN A SANDBOX (cutbox-rows.mjs): the forced cells as the released guide's own fill.sh prints them over the translation d732379688581c98… (all of the seat's roots in one cut). By AI agents, Wed Nov 11 2026. No macro, syntax, notation, axiom, sorry.
-/
import Derived.Test.YtljlpkadjngpoaaChecked
import GoSem.Claim
import GoSem.ClaimJoined
import GoSem.ClaimMapViews
import Derived.JoinedTies
import Derived.KernelRfl
namespace Go.Proofs.Ytljlpkadjngpoaa
/- THE CELL 'sum', in the pinned program and in every row, IS THE sha256 OF THE DUMP (.gsa) THAT YtljlpkadjngpoaaProg.lean LOADS. Nothing in Lean hashes anything: it is a label: what it is worth is what the hold of that sum in a sandbox is worth. -/
noncomputable def Try.pinned : Pinned := { name := "ytljlpkadjngpoaa", sum := "d732379688581c9820f5eb7d47f8450298512e9b606661a0668053e5827e0ebd", checked := Try.checked }
namespace Rows
def none {H : Type} : Left H := { results := [], args := [] }

/-- 'heraldlaw23.TapeDraws': WHATEVER THE INPUT: true; the input reads as it did. -/
def tapeDrawsSpec : ChangeSpec := { name := "tapeDraws", fn := fun _ => fun
  | [d1, d2, d3] => { results := [.lit (.bool true)], args := [d1, d2, d3] }
  | _ => none }
def tapeDrawsRow : OpenClaim := { program := "ytljlpkadjngpoaa", sum := "d732379688581c9820f5eb7d47f8450298512e9b606661a0668053e5827e0ebd", func := "herald/heraldlaw23.TapeDraws", spec := "tapeDraws", apart := false }
def TapeDrawsSaid : Prop := tapeDrawsRow.holds Try.pinned (OpenSpec.ofChange tapeDrawsSpec)

/-- ITS FALSE NEIGHBOUR: 'it returns false'. Refute it at one input. -/
def tapeDrawsWrong : ChangeSpec := { name := "tapeDraws", fn := fun _ => fun
  | [d1, d2, d3] => { results := [.lit (.bool false)], args := [d1, d2, d3] }
  | _ => none }
def TapeDrawsWrongFalsely : Prop := tapeDrawsRow.holds Try.pinned (OpenSpec.ofChange tapeDrawsWrong)

/-- 'heraldlaw23.TapeTwo': WHATEVER THE INPUT: true; the input reads as it did. -/
def tapeTwoSpec : ChangeSpec := { name := "tapeTwo", fn := fun _ => fun
  | [d1, d2, d3] => { results := [.lit (.bool true)], args := [d1, d2, d3] }
  | _ => none }
def tapeTwoRow : OpenClaim := { program := "ytljlpkadjngpoaa", sum := "d732379688581c9820f5eb7d47f8450298512e9b606661a0668053e5827e0ebd", func := "herald/heraldlaw23.TapeTwo", spec := "tapeTwo", apart := false }
def TapeTwoSaid : Prop := tapeTwoRow.holds Try.pinned (OpenSpec.ofChange tapeTwoSpec)

/-- ITS FALSE NEIGHBOUR: 'it returns false'. Refute it at one input. -/
def tapeTwoWrong : ChangeSpec := { name := "tapeTwo", fn := fun _ => fun
  | [d1, d2, d3] => { results := [.lit (.bool false)], args := [d1, d2, d3] }
  | _ => none }
def TapeTwoWrongFalsely : Prop := tapeTwoRow.holds Try.pinned (OpenSpec.ofChange tapeTwoWrong)

/-- 'heraldlaw23.TapeNil': WHATEVER THE INPUT: true; the input reads as it did. -/
def tapeNilSpec : ChangeSpec := { name := "tapeNil", fn := fun _ => fun
  | [d] => { results := [.lit (.bool true)], args := [d] }
  | _ => none }
def tapeNilRow : OpenClaim := { program := "ytljlpkadjngpoaa", sum := "d732379688581c9820f5eb7d47f8450298512e9b606661a0668053e5827e0ebd", func := "herald/heraldlaw23.TapeNil", spec := "tapeNil", apart := false }
def TapeNilSaid : Prop := tapeNilRow.holds Try.pinned (OpenSpec.ofChange tapeNilSpec)

/-- ITS FALSE NEIGHBOUR: 'it returns false'. Refute it at one input. -/
def tapeNilWrong : ChangeSpec := { name := "tapeNil", fn := fun _ => fun
  | [d] => { results := [.lit (.bool false)], args := [d] }
  | _ => none }
def TapeNilWrongFalsely : Prop := tapeNilRow.holds Try.pinned (OpenSpec.ofChange tapeNilWrong)

/-- 'heraldlaw23.TapeCounts': WHATEVER THE INPUT: true; the input reads as it did. -/
def tapeCountsSpec : ChangeSpec := { name := "tapeCounts", fn := fun _ => fun
  | [d1, d2] => { results := [.lit (.bool true)], args := [d1, d2] }
  | _ => none }
def tapeCountsRow : OpenClaim := { program := "ytljlpkadjngpoaa", sum := "d732379688581c9820f5eb7d47f8450298512e9b606661a0668053e5827e0ebd", func := "herald/heraldlaw23.TapeCounts", spec := "tapeCounts", apart := false }
def TapeCountsSaid : Prop := tapeCountsRow.holds Try.pinned (OpenSpec.ofChange tapeCountsSpec)

/-- ITS FALSE NEIGHBOUR: 'it returns false'. Refute it at one input. -/
def tapeCountsWrong : ChangeSpec := { name := "tapeCounts", fn := fun _ => fun
  | [d1, d2] => { results := [.lit (.bool false)], args := [d1, d2] }
  | _ => none }
def TapeCountsWrongFalsely : Prop := tapeCountsRow.holds Try.pinned (OpenSpec.ofChange tapeCountsWrong)

/-- 'heraldlaw23.TapeMoves': WHATEVER THE INPUT: true; the input reads as it did. -/
def tapeMovesSpec : ChangeSpec := { name := "tapeMoves", fn := fun _ => fun
  | [d1, d2, d3] => { results := [.lit (.bool true)], args := [d1, d2, d3] }
  | _ => none }
def tapeMovesRow : OpenClaim := { program := "ytljlpkadjngpoaa", sum := "d732379688581c9820f5eb7d47f8450298512e9b606661a0668053e5827e0ebd", func := "herald/heraldlaw23.TapeMoves", spec := "tapeMoves", apart := false }
def TapeMovesSaid : Prop := tapeMovesRow.holds Try.pinned (OpenSpec.ofChange tapeMovesSpec)

/-- ITS FALSE NEIGHBOUR: 'it returns false'. Refute it at one input. -/
def tapeMovesWrong : ChangeSpec := { name := "tapeMoves", fn := fun _ => fun
  | [d1, d2, d3] => { results := [.lit (.bool false)], args := [d1, d2, d3] }
  | _ => none }
def TapeMovesWrongFalsely : Prop := tapeMovesRow.holds Try.pinned (OpenSpec.ofChange tapeMovesWrong)

/-- 'heraldlaw23.TapeMakes': WHATEVER THE INPUT: true; the input reads as it did. -/
def tapeMakesSpec : ChangeSpec := { name := "tapeMakes", fn := fun _ => fun
  | [d1, d2] => { results := [.lit (.bool true)], args := [d1, d2] }
  | _ => none }
def tapeMakesRow : OpenClaim := { program := "ytljlpkadjngpoaa", sum := "d732379688581c9820f5eb7d47f8450298512e9b606661a0668053e5827e0ebd", func := "herald/heraldlaw23.TapeMakes", spec := "tapeMakes", apart := false }
def TapeMakesSaid : Prop := tapeMakesRow.holds Try.pinned (OpenSpec.ofChange tapeMakesSpec)

/-- ITS FALSE NEIGHBOUR: 'it returns false'. Refute it at one input. -/
def tapeMakesWrong : ChangeSpec := { name := "tapeMakes", fn := fun _ => fun
  | [d1, d2] => { results := [.lit (.bool false)], args := [d1, d2] }
  | _ => none }
def TapeMakesWrongFalsely : Prop := tapeMakesRow.holds Try.pinned (OpenSpec.ofChange tapeMakesWrong)

/-- 'heraldlaw23.TapeBack': WHATEVER THE INPUT: true; the input reads as it did. -/
def tapeBackSpec : ChangeSpec := { name := "tapeBack", fn := fun _ => fun
  | [d1, d2, d3] => { results := [.lit (.bool true)], args := [d1, d2, d3] }
  | _ => none }
def tapeBackRow : OpenClaim := { program := "ytljlpkadjngpoaa", sum := "d732379688581c9820f5eb7d47f8450298512e9b606661a0668053e5827e0ebd", func := "herald/heraldlaw23.TapeBack", spec := "tapeBack", apart := false }
def TapeBackSaid : Prop := tapeBackRow.holds Try.pinned (OpenSpec.ofChange tapeBackSpec)

/-- ITS FALSE NEIGHBOUR: 'it returns false'. Refute it at one input. -/
def tapeBackWrong : ChangeSpec := { name := "tapeBack", fn := fun _ => fun
  | [d1, d2, d3] => { results := [.lit (.bool false)], args := [d1, d2, d3] }
  | _ => none }
def TapeBackWrongFalsely : Prop := tapeBackRow.holds Try.pinned (OpenSpec.ofChange tapeBackWrong)

/-- 'heraldlaw23.TapeParts': WHATEVER THE INPUT: true; the input reads as it did. -/
def tapePartsSpec : ChangeSpec := { name := "tapeParts", fn := fun _ => fun
  | [d1, d2, d3] => { results := [.lit (.bool true)], args := [d1, d2, d3] }
  | _ => none }
def tapePartsRow : OpenClaim := { program := "ytljlpkadjngpoaa", sum := "d732379688581c9820f5eb7d47f8450298512e9b606661a0668053e5827e0ebd", func := "herald/heraldlaw23.TapeParts", spec := "tapeParts", apart := false }
def TapePartsSaid : Prop := tapePartsRow.holds Try.pinned (OpenSpec.ofChange tapePartsSpec)

/-- ITS FALSE NEIGHBOUR: 'it returns false'. Refute it at one input. -/
def tapePartsWrong : ChangeSpec := { name := "tapeParts", fn := fun _ => fun
  | [d1, d2, d3] => { results := [.lit (.bool false)], args := [d1, d2, d3] }
  | _ => none }
def TapePartsWrongFalsely : Prop := tapePartsRow.holds Try.pinned (OpenSpec.ofChange tapePartsWrong)

/- THE SECOND FORM. 'bulk': how many values and letters a reading holds, each counted each time it is reached (what is shared counts as often as it is met; a slice's spare places count too). A statement '..UptoSaid' is the law's where the arguments, and the package variables that the reading takes, are together of bulk at most 1048576: NARROWER than '..Said'. Prove '..Said' where nothing that the law and all that it calls make is longer than what came in: it says more and counts as full. Else prove '..UptoSaid'. A law counts once. -/
mutual
def uptoBulk {H : Type} : DataW H → Nat
  | .lit (.string bytes) => bytes.length + 1
  | .lit _ => 1
  | .nil => 1
  | .ptr d => uptoBulk d + 1
  | .slice elems spare => uptoBulkAll elems + uptoBulkAll spare + 1
  | .agg parts => uptoBulkAll parts + 1
  | .iface _ d => uptoBulk d + 1
  | .map entries => uptoBulkEntries entries + 1
  | .held _ => 1
def uptoBulkAll {H : Type} : List (DataW H) → Nat
  | [] => 0
  | d :: r => uptoBulk d + uptoBulkAll r
def uptoBulkEntries {H : Type} : List (Lit × DataW H) → Nat
  | [] => 0
  | x :: r => uptoBulkEntry x + uptoBulkEntries r
def uptoBulkEntry {H : Type} : Lit × DataW H → Nat
  | (.string bytes, d) => bytes.length + uptoBulk d + 1
  | (_, d) => uptoBulk d + 1
 end
def uptoSmall : (H : Type) → List (DataW H) → Bool := fun _ ds => decide (uptoBulkAll ds ≤ 1048576)
def OpenSpec.upto (s : _root_.Go.ChangeSpec) : _root_.Go.OpenSpec := { _root_.Go.OpenSpec.ofChange s with cond := some uptoSmall }

/-- 'heraldlaw23.TapeDraws', WHERE WHAT IT READS IS OF BULK AT MOST 1048576: true; the input reads as it did. -/
def tapeDrawsUptoRow : OpenClaim := { program := "ytljlpkadjngpoaa", sum := "d732379688581c9820f5eb7d47f8450298512e9b606661a0668053e5827e0ebd", func := "herald/heraldlaw23.TapeDraws", spec := "tapeDraws", apart := false, narrowed := true }
def TapeDrawsUptoSaid : Prop := tapeDrawsUptoRow.holds Try.pinned (OpenSpec.upto tapeDrawsSpec)

/-- 'heraldlaw23.TapeTwo', WHERE WHAT IT READS IS OF BULK AT MOST 1048576: true; the input reads as it did. -/
def tapeTwoUptoRow : OpenClaim := { program := "ytljlpkadjngpoaa", sum := "d732379688581c9820f5eb7d47f8450298512e9b606661a0668053e5827e0ebd", func := "herald/heraldlaw23.TapeTwo", spec := "tapeTwo", apart := false, narrowed := true }
def TapeTwoUptoSaid : Prop := tapeTwoUptoRow.holds Try.pinned (OpenSpec.upto tapeTwoSpec)

/-- 'heraldlaw23.TapeNil', WHERE WHAT IT READS IS OF BULK AT MOST 1048576: true; the input reads as it did. -/
def tapeNilUptoRow : OpenClaim := { program := "ytljlpkadjngpoaa", sum := "d732379688581c9820f5eb7d47f8450298512e9b606661a0668053e5827e0ebd", func := "herald/heraldlaw23.TapeNil", spec := "tapeNil", apart := false, narrowed := true }
def TapeNilUptoSaid : Prop := tapeNilUptoRow.holds Try.pinned (OpenSpec.upto tapeNilSpec)

/-- 'heraldlaw23.TapeCounts', WHERE WHAT IT READS IS OF BULK AT MOST 1048576: true; the input reads as it did. -/
def tapeCountsUptoRow : OpenClaim := { program := "ytljlpkadjngpoaa", sum := "d732379688581c9820f5eb7d47f8450298512e9b606661a0668053e5827e0ebd", func := "herald/heraldlaw23.TapeCounts", spec := "tapeCounts", apart := false, narrowed := true }
def TapeCountsUptoSaid : Prop := tapeCountsUptoRow.holds Try.pinned (OpenSpec.upto tapeCountsSpec)

/-- 'heraldlaw23.TapeMoves', WHERE WHAT IT READS IS OF BULK AT MOST 1048576: true; the input reads as it did. -/
def tapeMovesUptoRow : OpenClaim := { program := "ytljlpkadjngpoaa", sum := "d732379688581c9820f5eb7d47f8450298512e9b606661a0668053e5827e0ebd", func := "herald/heraldlaw23.TapeMoves", spec := "tapeMoves", apart := false, narrowed := true }
def TapeMovesUptoSaid : Prop := tapeMovesUptoRow.holds Try.pinned (OpenSpec.upto tapeMovesSpec)

/-- 'heraldlaw23.TapeMakes', WHERE WHAT IT READS IS OF BULK AT MOST 1048576: true; the input reads as it did. -/
def tapeMakesUptoRow : OpenClaim := { program := "ytljlpkadjngpoaa", sum := "d732379688581c9820f5eb7d47f8450298512e9b606661a0668053e5827e0ebd", func := "herald/heraldlaw23.TapeMakes", spec := "tapeMakes", apart := false, narrowed := true }
def TapeMakesUptoSaid : Prop := tapeMakesUptoRow.holds Try.pinned (OpenSpec.upto tapeMakesSpec)

/-- 'heraldlaw23.TapeBack', WHERE WHAT IT READS IS OF BULK AT MOST 1048576: true; the input reads as it did. -/
def tapeBackUptoRow : OpenClaim := { program := "ytljlpkadjngpoaa", sum := "d732379688581c9820f5eb7d47f8450298512e9b606661a0668053e5827e0ebd", func := "herald/heraldlaw23.TapeBack", spec := "tapeBack", apart := false, narrowed := true }
def TapeBackUptoSaid : Prop := tapeBackUptoRow.holds Try.pinned (OpenSpec.upto tapeBackSpec)

/-- 'heraldlaw23.TapeParts', WHERE WHAT IT READS IS OF BULK AT MOST 1048576: true; the input reads as it did. -/
def tapePartsUptoRow : OpenClaim := { program := "ytljlpkadjngpoaa", sum := "d732379688581c9820f5eb7d47f8450298512e9b606661a0668053e5827e0ebd", func := "herald/heraldlaw23.TapeParts", spec := "tapeParts", apart := false, narrowed := true }
def TapePartsUptoSaid : Prop := tapePartsUptoRow.holds Try.pinned (OpenSpec.upto tapePartsSpec)

end Rows
end Go.Proofs.Ytljlpkadjngpoaa
