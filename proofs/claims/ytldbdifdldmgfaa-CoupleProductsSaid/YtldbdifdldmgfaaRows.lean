/-
  No cell of these rows narrows 'for every input' (looked for: loops, veiled, ifaces, maps, wideKeys, modest, calm, conditions, laid).
  DERIVED. THE GIVEN ROWS OF THIS SEAT. 11 by the template 'for every input the law returns true; each argument reads behind the call as it read before'; 0 by the template 'total and deterministic' (their statements: YtldbdifdldmgfaaTotals.lean).
  GIVEN WITH THE SEED: the statements are not yours to turn. If you find one false, say at which input.
  Laid BY PROGRAM, IN A SANDBOX (cutbox-rows.mjs): the forced cells as the released guide's own fill.sh prints them over the translation e573ac6a57c135b7… (all of the seat's roots in one cut). By AI agents, Wed Nov 11 2026. No macro, syntax, notation, axiom, sorry.
-/
import Derived.Test.YtldbdifdldmgfaaChecked
import GoSem.Claim
import GoSem.ClaimJoined
import GoSem.ClaimMapViews
import Derived.JoinedTies
import Derived.KernelRfl
namespace Go.Proofs.Ytldbdifdldmgfaa
/- THE CELL 'sum', in the pinned program and in every row, IS THE sha256 OF THE DUMP (.gsa) THAT YtldbdifdldmgfaaProg.lean LOADS. Nothing in Lean hashes anything: it is a label: what it is worth is what the hold of that sum in a sandbox is worth. -/
noncomputable def Try.pinned : Pinned := { name := "ytldbdifdldmgfaa", sum := "e573ac6a57c135b7f7a93dc0d31af0979e9084e44fac35ccfcda15c9a15a91cf", checked := Try.checked }
namespace Rows
def none {H : Type} : Left H := { results := [], args := [] }

/-- 'heraldlaw24.CoupleTrue': WHATEVER THE INPUT: true; the input reads as it did. -/
def coupleTrueSpec : ChangeSpec := { name := "coupleTrue", fn := fun _ => fun
  | [d1, d2] => { results := [.lit (.bool true)], args := [d1, d2] }
  | _ => none }
def coupleTrueRow : OpenClaim := { program := "ytldbdifdldmgfaa", sum := "e573ac6a57c135b7f7a93dc0d31af0979e9084e44fac35ccfcda15c9a15a91cf", func := "herald/heraldlaw24.CoupleTrue", spec := "coupleTrue", unfollowed := true, recurses := true, apart := false }
def CoupleTrueSaid : Prop := coupleTrueRow.holds Try.pinned (OpenSpec.ofChange coupleTrueSpec)

/-- ITS FALSE NEIGHBOUR: 'it returns false'. Refute it at one input. -/
def coupleTrueWrong : ChangeSpec := { name := "coupleTrue", fn := fun _ => fun
  | [d1, d2] => { results := [.lit (.bool false)], args := [d1, d2] }
  | _ => none }
def CoupleTrueWrongFalsely : Prop := coupleTrueRow.holds Try.pinned (OpenSpec.ofChange coupleTrueWrong)

/-- 'heraldlaw24.CoupleMemory': WHATEVER THE INPUT: true; the input reads as it did. -/
def coupleMemorySpec : ChangeSpec := { name := "coupleMemory", fn := fun _ => fun
  | [d1, d2] => { results := [.lit (.bool true)], args := [d1, d2] }
  | _ => none }
def coupleMemoryRow : OpenClaim := { program := "ytldbdifdldmgfaa", sum := "e573ac6a57c135b7f7a93dc0d31af0979e9084e44fac35ccfcda15c9a15a91cf", func := "herald/heraldlaw24.CoupleMemory", spec := "coupleMemory", unfollowed := true, recurses := true, apart := false }
def CoupleMemorySaid : Prop := coupleMemoryRow.holds Try.pinned (OpenSpec.ofChange coupleMemorySpec)

/-- ITS FALSE NEIGHBOUR: 'it returns false'. Refute it at one input. -/
def coupleMemoryWrong : ChangeSpec := { name := "coupleMemory", fn := fun _ => fun
  | [d1, d2] => { results := [.lit (.bool false)], args := [d1, d2] }
  | _ => none }
def CoupleMemoryWrongFalsely : Prop := coupleMemoryRow.holds Try.pinned (OpenSpec.ofChange coupleMemoryWrong)

/-- 'heraldlaw24.CoupleCounts': WHATEVER THE INPUT: true; the input reads as it did. -/
def coupleCountsSpec : ChangeSpec := { name := "coupleCounts", fn := fun _ => fun
  | [d] => { results := [.lit (.bool true)], args := [d] }
  | _ => none }
def coupleCountsRow : OpenClaim := { program := "ytldbdifdldmgfaa", sum := "e573ac6a57c135b7f7a93dc0d31af0979e9084e44fac35ccfcda15c9a15a91cf", func := "herald/heraldlaw24.CoupleCounts", spec := "coupleCounts", unfollowed := true, recurses := true, apart := false }
def CoupleCountsSaid : Prop := coupleCountsRow.holds Try.pinned (OpenSpec.ofChange coupleCountsSpec)

/-- ITS FALSE NEIGHBOUR: 'it returns false'. Refute it at one input. -/
def coupleCountsWrong : ChangeSpec := { name := "coupleCounts", fn := fun _ => fun
  | [d] => { results := [.lit (.bool false)], args := [d] }
  | _ => none }
def CoupleCountsWrongFalsely : Prop := coupleCountsRow.holds Try.pinned (OpenSpec.ofChange coupleCountsWrong)

/-- 'heraldlaw24.CoupleSpreads': WHATEVER THE INPUT: true; the input reads as it did. -/
def coupleSpreadsSpec : ChangeSpec := { name := "coupleSpreads", fn := fun _ => fun
  | [d1, d2, d3] => { results := [.lit (.bool true)], args := [d1, d2, d3] }
  | _ => none }
def coupleSpreadsRow : OpenClaim := { program := "ytldbdifdldmgfaa", sum := "e573ac6a57c135b7f7a93dc0d31af0979e9084e44fac35ccfcda15c9a15a91cf", func := "herald/heraldlaw24.CoupleSpreads", spec := "coupleSpreads", unfollowed := true, recurses := true, apart := false }
def CoupleSpreadsSaid : Prop := coupleSpreadsRow.holds Try.pinned (OpenSpec.ofChange coupleSpreadsSpec)

/-- ITS FALSE NEIGHBOUR: 'it returns false'. Refute it at one input. -/
def coupleSpreadsWrong : ChangeSpec := { name := "coupleSpreads", fn := fun _ => fun
  | [d1, d2, d3] => { results := [.lit (.bool false)], args := [d1, d2, d3] }
  | _ => none }
def CoupleSpreadsWrongFalsely : Prop := coupleSpreadsRow.holds Try.pinned (OpenSpec.ofChange coupleSpreadsWrong)

/-- 'heraldlaw24.CoupleGuesses': WHATEVER THE INPUT: true; the input reads as it did. -/
def coupleGuessesSpec : ChangeSpec := { name := "coupleGuesses", fn := fun _ => fun
  | [d1, d2, d3] => { results := [.lit (.bool true)], args := [d1, d2, d3] }
  | _ => none }
def coupleGuessesRow : OpenClaim := { program := "ytldbdifdldmgfaa", sum := "e573ac6a57c135b7f7a93dc0d31af0979e9084e44fac35ccfcda15c9a15a91cf", func := "herald/heraldlaw24.CoupleGuesses", spec := "coupleGuesses", unfollowed := true, recurses := true, apart := false }
def CoupleGuessesSaid : Prop := coupleGuessesRow.holds Try.pinned (OpenSpec.ofChange coupleGuessesSpec)

/-- ITS FALSE NEIGHBOUR: 'it returns false'. Refute it at one input. -/
def coupleGuessesWrong : ChangeSpec := { name := "coupleGuesses", fn := fun _ => fun
  | [d1, d2, d3] => { results := [.lit (.bool false)], args := [d1, d2, d3] }
  | _ => none }
def CoupleGuessesWrongFalsely : Prop := coupleGuessesRow.holds Try.pinned (OpenSpec.ofChange coupleGuessesWrong)

/-- 'heraldlaw24.CoupleDraws': WHATEVER THE INPUT: true; the input reads as it did. -/
def coupleDrawsSpec : ChangeSpec := { name := "coupleDraws", fn := fun _ => fun
  | [d1, d2, d3] => { results := [.lit (.bool true)], args := [d1, d2, d3] }
  | _ => none }
def coupleDrawsRow : OpenClaim := { program := "ytldbdifdldmgfaa", sum := "e573ac6a57c135b7f7a93dc0d31af0979e9084e44fac35ccfcda15c9a15a91cf", func := "herald/heraldlaw24.CoupleDraws", spec := "coupleDraws", unfollowed := true, recurses := true, apart := false }
def CoupleDrawsSaid : Prop := coupleDrawsRow.holds Try.pinned (OpenSpec.ofChange coupleDrawsSpec)

/-- ITS FALSE NEIGHBOUR: 'it returns false'. Refute it at one input. -/
def coupleDrawsWrong : ChangeSpec := { name := "coupleDraws", fn := fun _ => fun
  | [d1, d2, d3] => { results := [.lit (.bool false)], args := [d1, d2, d3] }
  | _ => none }
def CoupleDrawsWrongFalsely : Prop := coupleDrawsRow.holds Try.pinned (OpenSpec.ofChange coupleDrawsWrong)

/-- 'heraldlaw24.CoupleStretches': WHATEVER THE INPUT: true; the input reads as it did. -/
def coupleStretchesSpec : ChangeSpec := { name := "coupleStretches", fn := fun _ => fun
  | [d1, d2] => { results := [.lit (.bool true)], args := [d1, d2] }
  | _ => none }
def coupleStretchesRow : OpenClaim := { program := "ytldbdifdldmgfaa", sum := "e573ac6a57c135b7f7a93dc0d31af0979e9084e44fac35ccfcda15c9a15a91cf", func := "herald/heraldlaw24.CoupleStretches", spec := "coupleStretches", unfollowed := true, recurses := true, apart := false }
def CoupleStretchesSaid : Prop := coupleStretchesRow.holds Try.pinned (OpenSpec.ofChange coupleStretchesSpec)

/-- ITS FALSE NEIGHBOUR: 'it returns false'. Refute it at one input. -/
def coupleStretchesWrong : ChangeSpec := { name := "coupleStretches", fn := fun _ => fun
  | [d1, d2] => { results := [.lit (.bool false)], args := [d1, d2] }
  | _ => none }
def CoupleStretchesWrongFalsely : Prop := coupleStretchesRow.holds Try.pinned (OpenSpec.ofChange coupleStretchesWrong)

/-- 'heraldlaw24.CoupleSame': WHATEVER THE INPUT: true; the input reads as it did. -/
def coupleSameSpec : ChangeSpec := { name := "coupleSame", fn := fun _ => fun
  | [d1, d2, d3] => { results := [.lit (.bool true)], args := [d1, d2, d3] }
  | _ => none }
def coupleSameRow : OpenClaim := { program := "ytldbdifdldmgfaa", sum := "e573ac6a57c135b7f7a93dc0d31af0979e9084e44fac35ccfcda15c9a15a91cf", func := "herald/heraldlaw24.CoupleSame", spec := "coupleSame", unfollowed := true, recurses := true, apart := false }
def CoupleSameSaid : Prop := coupleSameRow.holds Try.pinned (OpenSpec.ofChange coupleSameSpec)

/-- ITS FALSE NEIGHBOUR: 'it returns false'. Refute it at one input. -/
def coupleSameWrong : ChangeSpec := { name := "coupleSame", fn := fun _ => fun
  | [d1, d2, d3] => { results := [.lit (.bool false)], args := [d1, d2, d3] }
  | _ => none }
def CoupleSameWrongFalsely : Prop := coupleSameRow.holds Try.pinned (OpenSpec.ofChange coupleSameWrong)

/-- 'heraldlaw24.CoupleChains': WHATEVER THE INPUT: true; the input reads as it did. -/
def coupleChainsSpec : ChangeSpec := { name := "coupleChains", fn := fun _ => fun
  | [d1, d2] => { results := [.lit (.bool true)], args := [d1, d2] }
  | _ => none }
def coupleChainsRow : OpenClaim := { program := "ytldbdifdldmgfaa", sum := "e573ac6a57c135b7f7a93dc0d31af0979e9084e44fac35ccfcda15c9a15a91cf", func := "herald/heraldlaw24.CoupleChains", spec := "coupleChains", unfollowed := true, recurses := true, apart := false }
def CoupleChainsSaid : Prop := coupleChainsRow.holds Try.pinned (OpenSpec.ofChange coupleChainsSpec)

/-- ITS FALSE NEIGHBOUR: 'it returns false'. Refute it at one input. -/
def coupleChainsWrong : ChangeSpec := { name := "coupleChains", fn := fun _ => fun
  | [d1, d2] => { results := [.lit (.bool false)], args := [d1, d2] }
  | _ => none }
def CoupleChainsWrongFalsely : Prop := coupleChainsRow.holds Try.pinned (OpenSpec.ofChange coupleChainsWrong)

/-- 'heraldlaw24.CoupleProducts': WHATEVER THE INPUT: true; the input reads as it did. -/
def coupleProductsSpec : ChangeSpec := { name := "coupleProducts", fn := fun _ => fun
  | [d] => { results := [.lit (.bool true)], args := [d] }
  | _ => none }
def coupleProductsRow : OpenClaim := { program := "ytldbdifdldmgfaa", sum := "e573ac6a57c135b7f7a93dc0d31af0979e9084e44fac35ccfcda15c9a15a91cf", func := "herald/heraldlaw24.CoupleProducts", spec := "coupleProducts", unfollowed := true, recurses := true, apart := false }
def CoupleProductsSaid : Prop := coupleProductsRow.holds Try.pinned (OpenSpec.ofChange coupleProductsSpec)

/-- ITS FALSE NEIGHBOUR: 'it returns false'. Refute it at one input. -/
def coupleProductsWrong : ChangeSpec := { name := "coupleProducts", fn := fun _ => fun
  | [d] => { results := [.lit (.bool false)], args := [d] }
  | _ => none }
def CoupleProductsWrongFalsely : Prop := coupleProductsRow.holds Try.pinned (OpenSpec.ofChange coupleProductsWrong)

/-- 'heraldlaw24.CoupleBlends': WHATEVER THE INPUT: true; the input reads as it did. -/
def coupleBlendsSpec : ChangeSpec := { name := "coupleBlends", fn := fun _ => fun
  | [d1, d2, d3] => { results := [.lit (.bool true)], args := [d1, d2, d3] }
  | _ => none }
def coupleBlendsRow : OpenClaim := { program := "ytldbdifdldmgfaa", sum := "e573ac6a57c135b7f7a93dc0d31af0979e9084e44fac35ccfcda15c9a15a91cf", func := "herald/heraldlaw24.CoupleBlends", spec := "coupleBlends", unfollowed := true, recurses := true, apart := false }
def CoupleBlendsSaid : Prop := coupleBlendsRow.holds Try.pinned (OpenSpec.ofChange coupleBlendsSpec)

/-- ITS FALSE NEIGHBOUR: 'it returns false'. Refute it at one input. -/
def coupleBlendsWrong : ChangeSpec := { name := "coupleBlends", fn := fun _ => fun
  | [d1, d2, d3] => { results := [.lit (.bool false)], args := [d1, d2, d3] }
  | _ => none }
def CoupleBlendsWrongFalsely : Prop := coupleBlendsRow.holds Try.pinned (OpenSpec.ofChange coupleBlendsWrong)

/- THE SECOND FORM. 'bulk': how many values and letters a reading holds, each counted each time it is reached (what is shared counts as often as it is met; a slice's spare places count too). A statement '..UptoSaid' is the law's where the arguments, and the package variables that the reading takes, are together of bulk at most 1048576: NARROWER than '..Said'. Prove '..Said' where nothing that the law and all that it calls make is longer than what came in: it says more and counts as full. Else prove '..UptoSaid'. A law counts once. -/
mutual
def uptoBulk {H : Type} : DataW H → Nat
  | .lit (.string bytes) => bytes.length + 1
  | .lit _ => 1
  | .nil => 1
  | .ptr d => uptoBulk d + 1
  | .slice elems spare => uptoBulkAll elems + uptoBulkAll spare + 1
  | .agg parts => uptoBulkAll parts + 1
  | .iface _ d => uptoBulk d + 1
  | .map entries => uptoBulkEntries entries + 1
  | .held _ => 1
def uptoBulkAll {H : Type} : List (DataW H) → Nat
  | [] => 0
  | d :: r => uptoBulk d + uptoBulkAll r
def uptoBulkEntries {H : Type} : List (Lit × DataW H) → Nat
  | [] => 0
  | x :: r => uptoBulkEntry x + uptoBulkEntries r
def uptoBulkEntry {H : Type} : Lit × DataW H → Nat
  | (.string bytes, d) => bytes.length + uptoBulk d + 1
  | (_, d) => uptoBulk d + 1
 end
def uptoSmall : (H : Type) → List (DataW H) → Bool := fun _ ds => decide (uptoBulkAll ds ≤ 1048576)
def OpenSpec.upto (s : _root_.Go.ChangeSpec) : _root_.Go.OpenSpec := { _root_.Go.OpenSpec.ofChange s with cond := some uptoSmall }

/-- 'heraldlaw24.CoupleTrue', WHERE WHAT IT READS IS OF BULK AT MOST 1048576: true; the input reads as it did. -/
def coupleTrueUptoRow : OpenClaim := { program := "ytldbdifdldmgfaa", sum := "e573ac6a57c135b7f7a93dc0d31af0979e9084e44fac35ccfcda15c9a15a91cf", func := "herald/heraldlaw24.CoupleTrue", spec := "coupleTrue", unfollowed := true, recurses := true, apart := false, narrowed := true }
def CoupleTrueUptoSaid : Prop := coupleTrueUptoRow.holds Try.pinned (OpenSpec.upto coupleTrueSpec)

/-- 'heraldlaw24.CoupleMemory', WHERE WHAT IT READS IS OF BULK AT MOST 1048576: true; the input reads as it did. -/
def coupleMemoryUptoRow : OpenClaim := { program := "ytldbdifdldmgfaa", sum := "e573ac6a57c135b7f7a93dc0d31af0979e9084e44fac35ccfcda15c9a15a91cf", func := "herald/heraldlaw24.CoupleMemory", spec := "coupleMemory", unfollowed := true, recurses := true, apart := false, narrowed := true }
def CoupleMemoryUptoSaid : Prop := coupleMemoryUptoRow.holds Try.pinned (OpenSpec.upto coupleMemorySpec)

/-- 'heraldlaw24.CoupleCounts', WHERE WHAT IT READS IS OF BULK AT MOST 1048576: true; the input reads as it did. -/
def coupleCountsUptoRow : OpenClaim := { program := "ytldbdifdldmgfaa", sum := "e573ac6a57c135b7f7a93dc0d31af0979e9084e44fac35ccfcda15c9a15a91cf", func := "herald/heraldlaw24.CoupleCounts", spec := "coupleCounts", unfollowed := true, recurses := true, apart := false, narrowed := true }
def CoupleCountsUptoSaid : Prop := coupleCountsUptoRow.holds Try.pinned (OpenSpec.upto coupleCountsSpec)

/-- 'heraldlaw24.CoupleSpreads', WHERE WHAT IT READS IS OF BULK AT MOST 1048576: true; the input reads as it did. -/
def coupleSpreadsUptoRow : OpenClaim := { program := "ytldbdifdldmgfaa", sum := "e573ac6a57c135b7f7a93dc0d31af0979e9084e44fac35ccfcda15c9a15a91cf", func := "herald/heraldlaw24.CoupleSpreads", spec := "coupleSpreads", unfollowed := true, recurses := true, apart := false, narrowed := true }
def CoupleSpreadsUptoSaid : Prop := coupleSpreadsUptoRow.holds Try.pinned (OpenSpec.upto coupleSpreadsSpec)

/-- 'heraldlaw24.CoupleGuesses', WHERE WHAT IT READS IS OF BULK AT MOST 1048576: true; the input reads as it did. -/
def coupleGuessesUptoRow : OpenClaim := { program := "ytldbdifdldmgfaa", sum := "e573ac6a57c135b7f7a93dc0d31af0979e9084e44fac35ccfcda15c9a15a91cf", func := "herald/heraldlaw24.CoupleGuesses", spec := "coupleGuesses", unfollowed := true, recurses := true, apart := false, narrowed := true }
def CoupleGuessesUptoSaid : Prop := coupleGuessesUptoRow.holds Try.pinned (OpenSpec.upto coupleGuessesSpec)

/-- 'heraldlaw24.CoupleDraws', WHERE WHAT IT READS IS OF BULK AT MOST 1048576: true; the input reads as it did. -/
def coupleDrawsUptoRow : OpenClaim := { program := "ytldbdifdldmgfaa", sum := "e573ac6a57c135b7f7a93dc0d31af0979e9084e44fac35ccfcda15c9a15a91cf", func := "herald/heraldlaw24.CoupleDraws", spec := "coupleDraws", unfollowed := true, recurses := true, apart := false, narrowed := true }
def CoupleDrawsUptoSaid : Prop := coupleDrawsUptoRow.holds Try.pinned (OpenSpec.upto coupleDrawsSpec)

/-- 'heraldlaw24.CoupleStretches', WHERE WHAT IT READS IS OF BULK AT MOST 1048576: true; the input reads as it did. -/
def coupleStretchesUptoRow : OpenClaim := { program := "ytldbdifdldmgfaa", sum := "e573ac6a57c135b7f7a93dc0d31af0979e9084e44fac35ccfcda15c9a15a91cf", func := "herald/heraldlaw24.CoupleStretches", spec := "coupleStretches", unfollowed := true, recurses := true, apart := false, narrowed := true }
def CoupleStretchesUptoSaid : Prop := coupleStretchesUptoRow.holds Try.pinned (OpenSpec.upto coupleStretchesSpec)

/-- 'heraldlaw24.CoupleSame', WHERE WHAT IT READS IS OF BULK AT MOST 1048576: true; the input reads as it did. -/
def coupleSameUptoRow : OpenClaim := { program := "ytldbdifdldmgfaa", sum := "e573ac6a57c135b7f7a93dc0d31af0979e9084e44fac35ccfcda15c9a15a91cf", func := "herald/heraldlaw24.CoupleSame", spec := "coupleSame", unfollowed := true, recurses := true, apart := false, narrowed := true }
def CoupleSameUptoSaid : Prop := coupleSameUptoRow.holds Try.pinned (OpenSpec.upto coupleSameSpec)

/-- 'heraldlaw24.CoupleChains', WHERE WHAT IT READS IS OF BULK AT MOST 1048576: true; the input reads as it did. -/
def coupleChainsUptoRow : OpenClaim := { program := "ytldbdifdldmgfaa", sum := "e573ac6a57c135b7f7a93dc0d31af0979e9084e44fac35ccfcda15c9a15a91cf", func := "herald/heraldlaw24.CoupleChains", spec := "coupleChains", unfollowed := true, recurses := true, apart := false, narrowed := true }
def CoupleChainsUptoSaid : Prop := coupleChainsUptoRow.holds Try.pinned (OpenSpec.upto coupleChainsSpec)

/-- 'heraldlaw24.CoupleProducts', WHERE WHAT IT READS IS OF BULK AT MOST 1048576: true; the input reads as it did. -/
def coupleProductsUptoRow : OpenClaim := { program := "ytldbdifdldmgfaa", sum := "e573ac6a57c135b7f7a93dc0d31af0979e9084e44fac35ccfcda15c9a15a91cf", func := "herald/heraldlaw24.CoupleProducts", spec := "coupleProducts", unfollowed := true, recurses := true, apart := false, narrowed := true }
def CoupleProductsUptoSaid : Prop := coupleProductsUptoRow.holds Try.pinned (OpenSpec.upto coupleProductsSpec)

/-- 'heraldlaw24.CoupleBlends', WHERE WHAT IT READS IS OF BULK AT MOST 1048576: true; the input reads as it did. -/
def coupleBlendsUptoRow : OpenClaim := { program := "ytldbdifdldmgfaa", sum := "e573ac6a57c135b7f7a93dc0d31af0979e9084e44fac35ccfcda15c9a15a91cf", func := "herald/heraldlaw24.CoupleBlends", spec := "coupleBlends", unfollowed := true, recurses := true, apart := false, narrowed := true }
def CoupleBlendsUptoSaid : Prop := coupleBlendsUptoRow.holds Try.pinned (OpenSpec.upto coupleBlendsSpec)

end Rows
end Go.Proofs.Ytldbdifdldmgfaa
