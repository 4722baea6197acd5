/-
  No cell of these rows narrows 'for every input' (looked for: loops, veiled, ifaces, maps, wideKeys, modest, calm, conditions, laid).
  DERIVED. THE GIVEN ROWS OF THIS SEAT. 7 by the template 'for every input the law returns true; each argument reads behind the call as it read before'; 0 by the template 'total and deterministic' (their statements: YteecekhfpfnepaaTotals.lean).
  GIVEN WITH THE SEED: the statements are not yours to turn. If you find one false, say at which input.
  Laid BY PROGRAM, IN A SANDBOX (cutbox-rows.mjs): the forced cells as the released guide's own fill.sh prints them over the translation 790ede61786a4f54… (all of the seat's roots in one cut). By AI agents, Wed Nov 11 2026. No macro, syntax, notation, axiom, sorry.
-/
import Derived.Test.YteecekhfpfnepaaChecked
import GoSem.Claim
import GoSem.ClaimJoined
import GoSem.ClaimMapViews
import Derived.JoinedTies
import Derived.KernelRfl
namespace Go.Proofs.Yteecekhfpfnepaa
/- THE CELL 'sum', in the pinned program and in every row, IS THE sha256 OF THE DUMP (.gsa) THAT YteecekhfpfnepaaProg.lean LOADS. Nothing in Lean hashes anything: it is a label: what it is worth is what the hold of that sum in a sandbox is worth. -/
noncomputable def Try.pinned : Pinned := { name := "yteecekhfpfnepaa", sum := "790ede61786a4f544fef05a17e1abc0508e98ecd5e0c7c0a87d626fa40b7025a", checked := Try.checked }
namespace Rows
def none {H : Type} : Left H := { results := [], args := [] }

/-- 'heraldlaw03.SingleNear': WHATEVER THE INPUT: true; the input reads as it did. -/
def singleNearSpec : ChangeSpec := { name := "singleNear", fn := fun _ => fun
  | [d1, d2] => { results := [.lit (.bool true)], args := [d1, d2] }
  | _ => none }
def singleNearRow : OpenClaim := { program := "yteecekhfpfnepaa", sum := "790ede61786a4f544fef05a17e1abc0508e98ecd5e0c7c0a87d626fa40b7025a", func := "herald/heraldlaw03.SingleNear", spec := "singleNear", inPlace := ["math.Float32frombits", "math.Float32bits"], apart := false }
def SingleNearSaid : Prop := singleNearRow.holds Try.pinned (OpenSpec.ofChange singleNearSpec)

/-- ITS FALSE NEIGHBOUR: 'it returns false'. Refute it at one input. -/
def singleNearWrong : ChangeSpec := { name := "singleNear", fn := fun _ => fun
  | [d1, d2] => { results := [.lit (.bool false)], args := [d1, d2] }
  | _ => none }
def SingleNearWrongFalsely : Prop := singleNearRow.holds Try.pinned (OpenSpec.ofChange singleNearWrong)

/-- 'heraldlaw03.SingleAdds': WHATEVER THE INPUT: true; the input reads as it did. -/
def singleAddsSpec : ChangeSpec := { name := "singleAdds", fn := fun _ => fun
  | [d1, d2] => { results := [.lit (.bool true)], args := [d1, d2] }
  | _ => none }
def singleAddsRow : OpenClaim := { program := "yteecekhfpfnepaa", sum := "790ede61786a4f544fef05a17e1abc0508e98ecd5e0c7c0a87d626fa40b7025a", func := "herald/heraldlaw03.SingleAdds", spec := "singleAdds", inPlace := ["math.Float32frombits", "math.Float32bits"], apart := false }
def SingleAddsSaid : Prop := singleAddsRow.holds Try.pinned (OpenSpec.ofChange singleAddsSpec)

/-- ITS FALSE NEIGHBOUR: 'it returns false'. Refute it at one input. -/
def singleAddsWrong : ChangeSpec := { name := "singleAdds", fn := fun _ => fun
  | [d1, d2] => { results := [.lit (.bool false)], args := [d1, d2] }
  | _ => none }
def SingleAddsWrongFalsely : Prop := singleAddsRow.holds Try.pinned (OpenSpec.ofChange singleAddsWrong)

/-- 'heraldlaw03.SingleMuls': WHATEVER THE INPUT: true; the input reads as it did. -/
def singleMulsSpec : ChangeSpec := { name := "singleMuls", fn := fun _ => fun
  | [d1, d2] => { results := [.lit (.bool true)], args := [d1, d2] }
  | _ => none }
def singleMulsRow : OpenClaim := { program := "yteecekhfpfnepaa", sum := "790ede61786a4f544fef05a17e1abc0508e98ecd5e0c7c0a87d626fa40b7025a", func := "herald/heraldlaw03.SingleMuls", spec := "singleMuls", inPlace := ["math.Float32frombits", "math.Float32bits"], apart := false }
def SingleMulsSaid : Prop := singleMulsRow.holds Try.pinned (OpenSpec.ofChange singleMulsSpec)

/-- ITS FALSE NEIGHBOUR: 'it returns false'. Refute it at one input. -/
def singleMulsWrong : ChangeSpec := { name := "singleMuls", fn := fun _ => fun
  | [d1, d2] => { results := [.lit (.bool false)], args := [d1, d2] }
  | _ => none }
def SingleMulsWrongFalsely : Prop := singleMulsRow.holds Try.pinned (OpenSpec.ofChange singleMulsWrong)

/-- 'heraldlaw03.SingleScales': WHATEVER THE INPUT: true; the input reads as it did. -/
def singleScalesSpec : ChangeSpec := { name := "singleScales", fn := fun _ => fun
  | [d1, d2] => { results := [.lit (.bool true)], args := [d1, d2] }
  | _ => none }
def singleScalesRow : OpenClaim := { program := "yteecekhfpfnepaa", sum := "790ede61786a4f544fef05a17e1abc0508e98ecd5e0c7c0a87d626fa40b7025a", func := "herald/heraldlaw03.SingleScales", spec := "singleScales", inPlace := ["math.Float32frombits", "math.Float32bits"], apart := false }
def SingleScalesSaid : Prop := singleScalesRow.holds Try.pinned (OpenSpec.ofChange singleScalesSpec)

/-- ITS FALSE NEIGHBOUR: 'it returns false'. Refute it at one input. -/
def singleScalesWrong : ChangeSpec := { name := "singleScales", fn := fun _ => fun
  | [d1, d2] => { results := [.lit (.bool false)], args := [d1, d2] }
  | _ => none }
def SingleScalesWrongFalsely : Prop := singleScalesRow.holds Try.pinned (OpenSpec.ofChange singleScalesWrong)

/-- 'heraldlaw03.SingleCompares': WHATEVER THE INPUT: true; the input reads as it did. -/
def singleComparesSpec : ChangeSpec := { name := "singleCompares", fn := fun _ => fun
  | [d1, d2] => { results := [.lit (.bool true)], args := [d1, d2] }
  | _ => none }
def singleComparesRow : OpenClaim := { program := "yteecekhfpfnepaa", sum := "790ede61786a4f544fef05a17e1abc0508e98ecd5e0c7c0a87d626fa40b7025a", func := "herald/heraldlaw03.SingleCompares", spec := "singleCompares", inPlace := ["math.Float32frombits", "math.Float32bits"], apart := false }
def SingleComparesSaid : Prop := singleComparesRow.holds Try.pinned (OpenSpec.ofChange singleComparesSpec)

/-- ITS FALSE NEIGHBOUR: 'it returns false'. Refute it at one input. -/
def singleComparesWrong : ChangeSpec := { name := "singleCompares", fn := fun _ => fun
  | [d1, d2] => { results := [.lit (.bool false)], args := [d1, d2] }
  | _ => none }
def SingleComparesWrongFalsely : Prop := singleComparesRow.holds Try.pinned (OpenSpec.ofChange singleComparesWrong)

/-- 'heraldlaw03.SingleOrder': WHATEVER THE INPUT: true; the input reads as it did. -/
def singleOrderSpec : ChangeSpec := { name := "singleOrder", fn := fun _ => fun
  | [d1, d2, d3] => { results := [.lit (.bool true)], args := [d1, d2, d3] }
  | _ => none }
def singleOrderRow : OpenClaim := { program := "yteecekhfpfnepaa", sum := "790ede61786a4f544fef05a17e1abc0508e98ecd5e0c7c0a87d626fa40b7025a", func := "herald/heraldlaw03.SingleOrder", spec := "singleOrder", inPlace := ["math.Float32frombits", "math.Float32bits"], apart := false }
def SingleOrderSaid : Prop := singleOrderRow.holds Try.pinned (OpenSpec.ofChange singleOrderSpec)

/-- ITS FALSE NEIGHBOUR: 'it returns false'. Refute it at one input. -/
def singleOrderWrong : ChangeSpec := { name := "singleOrder", fn := fun _ => fun
  | [d1, d2, d3] => { results := [.lit (.bool false)], args := [d1, d2, d3] }
  | _ => none }
def SingleOrderWrongFalsely : Prop := singleOrderRow.holds Try.pinned (OpenSpec.ofChange singleOrderWrong)

/-- 'heraldlaw03.SingleDivides': WHATEVER THE INPUT: true; the input reads as it did. -/
def singleDividesSpec : ChangeSpec := { name := "singleDivides", fn := fun _ => fun
  | [d1, d2] => { results := [.lit (.bool true)], args := [d1, d2] }
  | _ => none }
def singleDividesRow : OpenClaim := { program := "yteecekhfpfnepaa", sum := "790ede61786a4f544fef05a17e1abc0508e98ecd5e0c7c0a87d626fa40b7025a", func := "herald/heraldlaw03.SingleDivides", spec := "singleDivides", inPlace := ["math.Float32frombits", "math.Float32bits", "math.sqrt"], apart := false }
def SingleDividesSaid : Prop := singleDividesRow.holds Try.pinned (OpenSpec.ofChange singleDividesSpec)

/-- ITS FALSE NEIGHBOUR: 'it returns false'. Refute it at one input. -/
def singleDividesWrong : ChangeSpec := { name := "singleDivides", fn := fun _ => fun
  | [d1, d2] => { results := [.lit (.bool false)], args := [d1, d2] }
  | _ => none }
def SingleDividesWrongFalsely : Prop := singleDividesRow.holds Try.pinned (OpenSpec.ofChange singleDividesWrong)

/- THE SECOND FORM. 'bulk': how many values and letters a reading holds, each counted each time it is reached (what is shared counts as often as it is met; a slice's spare places count too). A statement '..UptoSaid' is the law's where the arguments, and the package variables that the reading takes, are together of bulk at most 1048576: NARROWER than '..Said'. Prove '..Said' where nothing that the law and all that it calls make is longer than what came in: it says more and counts as full. Else prove '..UptoSaid'. A law counts once. -/
mutual
def uptoBulk {H : Type} : DataW H → Nat
  | .lit (.string bytes) => bytes.length + 1
  | .lit _ => 1
  | .nil => 1
  | .ptr d => uptoBulk d + 1
  | .slice elems spare => uptoBulkAll elems + uptoBulkAll spare + 1
  | .agg parts => uptoBulkAll parts + 1
  | .iface _ d => uptoBulk d + 1
  | .map entries => uptoBulkEntries entries + 1
  | .held _ => 1
def uptoBulkAll {H : Type} : List (DataW H) → Nat
  | [] => 0
  | d :: r => uptoBulk d + uptoBulkAll r
def uptoBulkEntries {H : Type} : List (Lit × DataW H) → Nat
  | [] => 0
  | x :: r => uptoBulkEntry x + uptoBulkEntries r
def uptoBulkEntry {H : Type} : Lit × DataW H → Nat
  | (.string bytes, d) => bytes.length + uptoBulk d + 1
  | (_, d) => uptoBulk d + 1
 end
def uptoSmall : (H : Type) → List (DataW H) → Bool := fun _ ds => decide (uptoBulkAll ds ≤ 1048576)
def OpenSpec.upto (s : _root_.Go.ChangeSpec) : _root_.Go.OpenSpec := { _root_.Go.OpenSpec.ofChange s with cond := some uptoSmall }

/-- 'heraldlaw03.SingleNear', WHERE WHAT IT READS IS OF BULK AT MOST 1048576: true; the input reads as it did. -/
def singleNearUptoRow : OpenClaim := { program := "yteecekhfpfnepaa", sum := "790ede61786a4f544fef05a17e1abc0508e98ecd5e0c7c0a87d626fa40b7025a", func := "herald/heraldlaw03.SingleNear", spec := "singleNear", inPlace := ["math.Float32frombits", "math.Float32bits"], apart := false, narrowed := true }
def SingleNearUptoSaid : Prop := singleNearUptoRow.holds Try.pinned (OpenSpec.upto singleNearSpec)

/-- 'heraldlaw03.SingleAdds', WHERE WHAT IT READS IS OF BULK AT MOST 1048576: true; the input reads as it did. -/
def singleAddsUptoRow : OpenClaim := { program := "yteecekhfpfnepaa", sum := "790ede61786a4f544fef05a17e1abc0508e98ecd5e0c7c0a87d626fa40b7025a", func := "herald/heraldlaw03.SingleAdds", spec := "singleAdds", inPlace := ["math.Float32frombits", "math.Float32bits"], apart := false, narrowed := true }
def SingleAddsUptoSaid : Prop := singleAddsUptoRow.holds Try.pinned (OpenSpec.upto singleAddsSpec)

/-- 'heraldlaw03.SingleMuls', WHERE WHAT IT READS IS OF BULK AT MOST 1048576: true; the input reads as it did. -/
def singleMulsUptoRow : OpenClaim := { program := "yteecekhfpfnepaa", sum := "790ede61786a4f544fef05a17e1abc0508e98ecd5e0c7c0a87d626fa40b7025a", func := "herald/heraldlaw03.SingleMuls", spec := "singleMuls", inPlace := ["math.Float32frombits", "math.Float32bits"], apart := false, narrowed := true }
def SingleMulsUptoSaid : Prop := singleMulsUptoRow.holds Try.pinned (OpenSpec.upto singleMulsSpec)

/-- 'heraldlaw03.SingleScales', WHERE WHAT IT READS IS OF BULK AT MOST 1048576: true; the input reads as it did. -/
def singleScalesUptoRow : OpenClaim := { program := "yteecekhfpfnepaa", sum := "790ede61786a4f544fef05a17e1abc0508e98ecd5e0c7c0a87d626fa40b7025a", func := "herald/heraldlaw03.SingleScales", spec := "singleScales", inPlace := ["math.Float32frombits", "math.Float32bits"], apart := false, narrowed := true }
def SingleScalesUptoSaid : Prop := singleScalesUptoRow.holds Try.pinned (OpenSpec.upto singleScalesSpec)

/-- 'heraldlaw03.SingleCompares', WHERE WHAT IT READS IS OF BULK AT MOST 1048576: true; the input reads as it did. -/
def singleComparesUptoRow : OpenClaim := { program := "yteecekhfpfnepaa", sum := "790ede61786a4f544fef05a17e1abc0508e98ecd5e0c7c0a87d626fa40b7025a", func := "herald/heraldlaw03.SingleCompares", spec := "singleCompares", inPlace := ["math.Float32frombits", "math.Float32bits"], apart := false, narrowed := true }
def SingleComparesUptoSaid : Prop := singleComparesUptoRow.holds Try.pinned (OpenSpec.upto singleComparesSpec)

/-- 'heraldlaw03.SingleOrder', WHERE WHAT IT READS IS OF BULK AT MOST 1048576: true; the input reads as it did. -/
def singleOrderUptoRow : OpenClaim := { program := "yteecekhfpfnepaa", sum := "790ede61786a4f544fef05a17e1abc0508e98ecd5e0c7c0a87d626fa40b7025a", func := "herald/heraldlaw03.SingleOrder", spec := "singleOrder", inPlace := ["math.Float32frombits", "math.Float32bits"], apart := false, narrowed := true }
def SingleOrderUptoSaid : Prop := singleOrderUptoRow.holds Try.pinned (OpenSpec.upto singleOrderSpec)

/-- 'heraldlaw03.SingleDivides', WHERE WHAT IT READS IS OF BULK AT MOST 1048576: true; the input reads as it did. -/
def singleDividesUptoRow : OpenClaim := { program := "yteecekhfpfnepaa", sum := "790ede61786a4f544fef05a17e1abc0508e98ecd5e0c7c0a87d626fa40b7025a", func := "herald/heraldlaw03.SingleDivides", spec := "singleDivides", inPlace := ["math.Float32frombits", "math.Float32bits", "math.sqrt"], apart := false, narrowed := true }
def SingleDividesUptoSaid : Prop := singleDividesUptoRow.holds Try.pinned (OpenSpec.upto singleDividesSpec)

end Rows
end Go.Proofs.Yteecekhfpfnepaa
