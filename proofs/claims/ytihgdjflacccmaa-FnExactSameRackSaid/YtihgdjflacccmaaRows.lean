/-
  No cell of these rows narrows 'for every input' (looked for: loops, veiled, ifaces, maps, wideKeys, modest, calm, conditions, laid).
  DERIVED. THE GIVEN ROWS OF THIS SEAT. 6 by the template 'for every input the law returns true; each argument reads behind the call as it read before'; 0 by the template 'total and deterministic' (their statements: YtihgdjflacccmaaTotals.lean).
  GIVEN WITH THE SEED: the statements are not yours to turn. If you find one false, say at which input.
  Laid BY PROGRAM, IN A SANDBOX (cutbox-rows.mjs): the forced cells as the released guide's own fill.sh prints them over the translation 1f9cf043501508f6… (all of the seat's roots in one cut). By AI agents, Wed Nov 11 2026. No macro, syntax, notation, axiom, sorry.
-/
import Derived.Test.YtihgdjflacccmaaChecked
import GoSem.Claim
import GoSem.ClaimJoined
import GoSem.ClaimMapViews
import Derived.JoinedTies
import Derived.KernelRfl
namespace Go.Proofs.Ytihgdjflacccmaa
/- THE CELL 'sum', in the pinned program and in every row, IS THE sha256 OF THE DUMP (.gsa) THAT YtihgdjflacccmaaProg.lean LOADS. Nothing in Lean hashes anything: it is a label: what it is worth is what the hold of that sum in a sandbox is worth. -/
noncomputable def Try.pinned : Pinned := { name := "ytihgdjflacccmaa", sum := "1f9cf043501508f63a96933a6c417cd7b938730d9b79f2b74d85a8f40d363a9b", checked := Try.checked }
namespace Rows
def none {H : Type} : Left H := { results := [], args := [] }

/-- 'laws.FnExactValidPegs': WHATEVER THE INPUT: true; the input reads as it did. -/
def fnExactValidPegsSpec : ChangeSpec := { name := "fnExactValidPegs", fn := fun _ => fun
  | [d] => { results := [.lit (.bool true)], args := [d] }
  | _ => none }
def fnExactValidPegsRow : OpenClaim := { program := "ytihgdjflacccmaa", sum := "1f9cf043501508f63a96933a6c417cd7b938730d9b79f2b74d85a8f40d363a9b", func := "loop.example/g01326/laws.FnExactValidPegs", spec := "fnExactValidPegs", apart := false }
def FnExactValidPegsSaid : Prop := fnExactValidPegsRow.holds Try.pinned (OpenSpec.ofChange fnExactValidPegsSpec)

/-- ITS FALSE NEIGHBOUR: 'it returns false'. Refute it at one input. -/
def fnExactValidPegsWrong : ChangeSpec := { name := "fnExactValidPegs", fn := fun _ => fun
  | [d] => { results := [.lit (.bool false)], args := [d] }
  | _ => none }
def FnExactValidPegsWrongFalsely : Prop := fnExactValidPegsRow.holds Try.pinned (OpenSpec.ofChange fnExactValidPegsWrong)

/-- 'laws.FnExactPegFor': WHATEVER THE INPUT: true; the input reads as it did. -/
def fnExactPegForSpec : ChangeSpec := { name := "fnExactPegFor", fn := fun _ => fun
  | [d1, d2] => { results := [.lit (.bool true)], args := [d1, d2] }
  | _ => none }
def fnExactPegForRow : OpenClaim := { program := "ytihgdjflacccmaa", sum := "1f9cf043501508f63a96933a6c417cd7b938730d9b79f2b74d85a8f40d363a9b", func := "loop.example/g01326/laws.FnExactPegFor", spec := "fnExactPegFor", apart := false }
def FnExactPegForSaid : Prop := fnExactPegForRow.holds Try.pinned (OpenSpec.ofChange fnExactPegForSpec)

/-- ITS FALSE NEIGHBOUR: 'it returns false'. Refute it at one input. -/
def fnExactPegForWrong : ChangeSpec := { name := "fnExactPegFor", fn := fun _ => fun
  | [d1, d2] => { results := [.lit (.bool false)], args := [d1, d2] }
  | _ => none }
def FnExactPegForWrongFalsely : Prop := fnExactPegForRow.holds Try.pinned (OpenSpec.ofChange fnExactPegForWrong)

/-- 'laws.FnExactValidHeights': WHATEVER THE INPUT: true; the input reads as it did. -/
def fnExactValidHeightsSpec : ChangeSpec := { name := "fnExactValidHeights", fn := fun _ => fun
  | [d1, d2] => { results := [.lit (.bool true)], args := [d1, d2] }
  | _ => none }
def fnExactValidHeightsRow : OpenClaim := { program := "ytihgdjflacccmaa", sum := "1f9cf043501508f63a96933a6c417cd7b938730d9b79f2b74d85a8f40d363a9b", func := "loop.example/g01326/laws.FnExactValidHeights", spec := "fnExactValidHeights", unfollowed := true, recurses := true, apart := false }
def FnExactValidHeightsSaid : Prop := fnExactValidHeightsRow.holds Try.pinned (OpenSpec.ofChange fnExactValidHeightsSpec)

/-- ITS FALSE NEIGHBOUR: 'it returns false'. Refute it at one input. -/
def fnExactValidHeightsWrong : ChangeSpec := { name := "fnExactValidHeights", fn := fun _ => fun
  | [d1, d2] => { results := [.lit (.bool false)], args := [d1, d2] }
  | _ => none }
def FnExactValidHeightsWrongFalsely : Prop := fnExactValidHeightsRow.holds Try.pinned (OpenSpec.ofChange fnExactValidHeightsWrong)

/-- 'laws.FnExactTallOf': WHATEVER THE INPUT: true; the input reads as it did. -/
def fnExactTallOfSpec : ChangeSpec := { name := "fnExactTallOf", fn := fun _ => fun
  | [d1, d2, d3] => { results := [.lit (.bool true)], args := [d1, d2, d3] }
  | _ => none }
def fnExactTallOfRow : OpenClaim := { program := "ytihgdjflacccmaa", sum := "1f9cf043501508f63a96933a6c417cd7b938730d9b79f2b74d85a8f40d363a9b", func := "loop.example/g01326/laws.FnExactTallOf", spec := "fnExactTallOf", unfollowed := true, recurses := true, apart := false }
def FnExactTallOfSaid : Prop := fnExactTallOfRow.holds Try.pinned (OpenSpec.ofChange fnExactTallOfSpec)

/-- ITS FALSE NEIGHBOUR: 'it returns false'. Refute it at one input. -/
def fnExactTallOfWrong : ChangeSpec := { name := "fnExactTallOf", fn := fun _ => fun
  | [d1, d2, d3] => { results := [.lit (.bool false)], args := [d1, d2, d3] }
  | _ => none }
def FnExactTallOfWrongFalsely : Prop := fnExactTallOfRow.holds Try.pinned (OpenSpec.ofChange fnExactTallOfWrong)

/-- 'laws.FnExactSameRack': WHATEVER THE INPUT: true; the input reads as it did. -/
def fnExactSameRackSpec : ChangeSpec := { name := "fnExactSameRack", fn := fun _ => fun
  | [d1, d2] => { results := [.lit (.bool true)], args := [d1, d2] }
  | _ => none }
def fnExactSameRackRow : OpenClaim := { program := "ytihgdjflacccmaa", sum := "1f9cf043501508f63a96933a6c417cd7b938730d9b79f2b74d85a8f40d363a9b", func := "loop.example/g01326/laws.FnExactSameRack", spec := "fnExactSameRack", apart := false }
def FnExactSameRackSaid : Prop := fnExactSameRackRow.holds Try.pinned (OpenSpec.ofChange fnExactSameRackSpec)

/-- ITS FALSE NEIGHBOUR: 'it returns false'. Refute it at one input. -/
def fnExactSameRackWrong : ChangeSpec := { name := "fnExactSameRack", fn := fun _ => fun
  | [d1, d2] => { results := [.lit (.bool false)], args := [d1, d2] }
  | _ => none }
def FnExactSameRackWrongFalsely : Prop := fnExactSameRackRow.holds Try.pinned (OpenSpec.ofChange fnExactSameRackWrong)

/-- 'laws.FnExactEmptyRack': WHATEVER THE INPUT: true; the input reads as it did. -/
def fnExactEmptyRackSpec : ChangeSpec := { name := "fnExactEmptyRack", fn := fun _ => fun
  | [d] => { results := [.lit (.bool true)], args := [d] }
  | _ => none }
def fnExactEmptyRackRow : OpenClaim := { program := "ytihgdjflacccmaa", sum := "1f9cf043501508f63a96933a6c417cd7b938730d9b79f2b74d85a8f40d363a9b", func := "loop.example/g01326/laws.FnExactEmptyRack", spec := "fnExactEmptyRack", apart := false }
def FnExactEmptyRackSaid : Prop := fnExactEmptyRackRow.holds Try.pinned (OpenSpec.ofChange fnExactEmptyRackSpec)

/-- ITS FALSE NEIGHBOUR: 'it returns false'. Refute it at one input. -/
def fnExactEmptyRackWrong : ChangeSpec := { name := "fnExactEmptyRack", fn := fun _ => fun
  | [d] => { results := [.lit (.bool false)], args := [d] }
  | _ => none }
def FnExactEmptyRackWrongFalsely : Prop := fnExactEmptyRackRow.holds Try.pinned (OpenSpec.ofChange fnExactEmptyRackWrong)

/- THE SECOND FORM. 'bulk': how many values and letters a reading holds, each counted each time it is reached (what is shared counts as often as it is met; a slice's spare places count too). A statement '..UptoSaid' is the law's where the arguments, and the package variables that the reading takes, are together of bulk at most 1048576: NARROWER than '..Said'. Prove '..Said' where nothing that the law and all that it calls make is longer than what came in: it says more and counts as full. Else prove '..UptoSaid'. A law counts once. -/
mutual
def uptoBulk {H : Type} : DataW H → Nat
  | .lit (.string bytes) => bytes.length + 1
  | .lit _ => 1
  | .nil => 1
  | .ptr d => uptoBulk d + 1
  | .slice elems spare => uptoBulkAll elems + uptoBulkAll spare + 1
  | .agg parts => uptoBulkAll parts + 1
  | .iface _ d => uptoBulk d + 1
  | .map entries => uptoBulkEntries entries + 1
  | .held _ => 1
def uptoBulkAll {H : Type} : List (DataW H) → Nat
  | [] => 0
  | d :: r => uptoBulk d + uptoBulkAll r
def uptoBulkEntries {H : Type} : List (Lit × DataW H) → Nat
  | [] => 0
  | x :: r => uptoBulkEntry x + uptoBulkEntries r
def uptoBulkEntry {H : Type} : Lit × DataW H → Nat
  | (.string bytes, d) => bytes.length + uptoBulk d + 1
  | (_, d) => uptoBulk d + 1
 end
def uptoSmall : (H : Type) → List (DataW H) → Bool := fun _ ds => decide (uptoBulkAll ds ≤ 1048576)
def OpenSpec.upto (s : _root_.Go.ChangeSpec) : _root_.Go.OpenSpec := { _root_.Go.OpenSpec.ofChange s with cond := some uptoSmall }

/-- 'laws.FnExactValidPegs', WHERE WHAT IT READS IS OF BULK AT MOST 1048576: true; the input reads as it did. -/
def fnExactValidPegsUptoRow : OpenClaim := { program := "ytihgdjflacccmaa", sum := "1f9cf043501508f63a96933a6c417cd7b938730d9b79f2b74d85a8f40d363a9b", func := "loop.example/g01326/laws.FnExactValidPegs", spec := "fnExactValidPegs", apart := false, narrowed := true }
def FnExactValidPegsUptoSaid : Prop := fnExactValidPegsUptoRow.holds Try.pinned (OpenSpec.upto fnExactValidPegsSpec)

/-- 'laws.FnExactPegFor', WHERE WHAT IT READS IS OF BULK AT MOST 1048576: true; the input reads as it did. -/
def fnExactPegForUptoRow : OpenClaim := { program := "ytihgdjflacccmaa", sum := "1f9cf043501508f63a96933a6c417cd7b938730d9b79f2b74d85a8f40d363a9b", func := "loop.example/g01326/laws.FnExactPegFor", spec := "fnExactPegFor", apart := false, narrowed := true }
def FnExactPegForUptoSaid : Prop := fnExactPegForUptoRow.holds Try.pinned (OpenSpec.upto fnExactPegForSpec)

/-- 'laws.FnExactValidHeights', WHERE WHAT IT READS IS OF BULK AT MOST 1048576: true; the input reads as it did. -/
def fnExactValidHeightsUptoRow : OpenClaim := { program := "ytihgdjflacccmaa", sum := "1f9cf043501508f63a96933a6c417cd7b938730d9b79f2b74d85a8f40d363a9b", func := "loop.example/g01326/laws.FnExactValidHeights", spec := "fnExactValidHeights", unfollowed := true, recurses := true, apart := false, narrowed := true }
def FnExactValidHeightsUptoSaid : Prop := fnExactValidHeightsUptoRow.holds Try.pinned (OpenSpec.upto fnExactValidHeightsSpec)

/-- 'laws.FnExactTallOf', WHERE WHAT IT READS IS OF BULK AT MOST 1048576: true; the input reads as it did. -/
def fnExactTallOfUptoRow : OpenClaim := { program := "ytihgdjflacccmaa", sum := "1f9cf043501508f63a96933a6c417cd7b938730d9b79f2b74d85a8f40d363a9b", func := "loop.example/g01326/laws.FnExactTallOf", spec := "fnExactTallOf", unfollowed := true, recurses := true, apart := false, narrowed := true }
def FnExactTallOfUptoSaid : Prop := fnExactTallOfUptoRow.holds Try.pinned (OpenSpec.upto fnExactTallOfSpec)

/-- 'laws.FnExactSameRack', WHERE WHAT IT READS IS OF BULK AT MOST 1048576: true; the input reads as it did. -/
def fnExactSameRackUptoRow : OpenClaim := { program := "ytihgdjflacccmaa", sum := "1f9cf043501508f63a96933a6c417cd7b938730d9b79f2b74d85a8f40d363a9b", func := "loop.example/g01326/laws.FnExactSameRack", spec := "fnExactSameRack", apart := false, narrowed := true }
def FnExactSameRackUptoSaid : Prop := fnExactSameRackUptoRow.holds Try.pinned (OpenSpec.upto fnExactSameRackSpec)

/-- 'laws.FnExactEmptyRack', WHERE WHAT IT READS IS OF BULK AT MOST 1048576: true; the input reads as it did. -/
def fnExactEmptyRackUptoRow : OpenClaim := { program := "ytihgdjflacccmaa", sum := "1f9cf043501508f63a96933a6c417cd7b938730d9b79f2b74d85a8f40d363a9b", func := "loop.example/g01326/laws.FnExactEmptyRack", spec := "fnExactEmptyRack", apart := false, narrowed := true }
def FnExactEmptyRackUptoSaid : Prop := fnExactEmptyRackUptoRow.holds Try.pinned (OpenSpec.upto fnExactEmptyRackSpec)

end Rows
end Go.Proofs.Ytihgdjflacccmaa
