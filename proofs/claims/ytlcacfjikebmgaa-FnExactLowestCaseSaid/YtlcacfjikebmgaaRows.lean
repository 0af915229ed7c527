/-
  No cell of these rows narrows 'for every input' (looked for: loops, veiled, ifaces, maps, wideKeys, modest, calm, conditions, laid).
  DERIVED. THE GIVEN ROWS OF THIS SEAT. 4 by the template 'for every input the law returns true; each argument reads behind the call as it read before'; 0 by the template 'total and deterministic' (their statements: YtlcacfjikebmgaaTotals.lean).
  GIVEN WITH THE SEED: the statements are not yours to turn. If you find one false, say at which input.
  Laid BY PROGRAM, IN A SANDBOX (cutbox-rows.mjs): the forced cells as the released guide's own fill.sh prints them over the translation ba8d32a66e69ecac… (all of the seat's roots in one cut). By AI agents, Wed Nov 11 2026. No macro, syntax, notation, axiom, sorry.
-/
import Derived.Test.YtlcacfjikebmgaaChecked
import GoSem.Claim
import GoSem.ClaimJoined
import GoSem.ClaimMapViews
import Derived.JoinedTies
import Derived.KernelRfl
namespace Go.Proofs.Ytlcacfjikebmgaa
/- THE CELL 'sum', in the pinned program and in every row, IS THE sha256 OF THE DUMP (.gsa) THAT YtlcacfjikebmgaaProg.lean LOADS. Nothing in Lean hashes anything: it is a label: what it is worth is what the hold of that sum in a sandbox is worth. -/
noncomputable def Try.pinned : Pinned := { name := "ytlcacfjikebmgaa", sum := "ba8d32a66e69ecac9be1bf5d4ef64c9874a47e901b9e931166b203c46d02323b", checked := Try.checked }
namespace Rows
def none {H : Type} : Left H := { results := [], args := [] }

/-- 'laws.FnExactHeightsOf': WHATEVER THE INPUT: true; the input reads as it did. -/
def fnExactHeightsOfSpec : ChangeSpec := { name := "fnExactHeightsOf", fn := fun _ => fun
  | [d1, d2] => { results := [.lit (.bool true)], args := [d1, d2] }
  | _ => none }
def fnExactHeightsOfRow : OpenClaim := { program := "ytlcacfjikebmgaa", sum := "ba8d32a66e69ecac9be1bf5d4ef64c9874a47e901b9e931166b203c46d02323b", func := "loop.example/g01326/laws.FnExactHeightsOf", spec := "fnExactHeightsOf", unfollowed := true, recurses := true, apart := false }
def FnExactHeightsOfSaid : Prop := fnExactHeightsOfRow.holds Try.pinned (OpenSpec.ofChange fnExactHeightsOfSpec)

/-- ITS FALSE NEIGHBOUR: 'it returns false'. Refute it at one input. -/
def fnExactHeightsOfWrong : ChangeSpec := { name := "fnExactHeightsOf", fn := fun _ => fun
  | [d1, d2] => { results := [.lit (.bool false)], args := [d1, d2] }
  | _ => none }
def FnExactHeightsOfWrongFalsely : Prop := fnExactHeightsOfRow.holds Try.pinned (OpenSpec.ofChange fnExactHeightsOfWrong)

/-- 'laws.FnExactBestHeights': WHATEVER THE INPUT: true; the input reads as it did. -/
def fnExactBestHeightsSpec : ChangeSpec := { name := "fnExactBestHeights", fn := fun _ => fun
  | [d1, d2, d3] => { results := [.lit (.bool true)], args := [d1, d2, d3] }
  | _ => none }
def fnExactBestHeightsRow : OpenClaim := { program := "ytlcacfjikebmgaa", sum := "ba8d32a66e69ecac9be1bf5d4ef64c9874a47e901b9e931166b203c46d02323b", func := "loop.example/g01326/laws.FnExactBestHeights", spec := "fnExactBestHeights", unfollowed := true, recurses := true, apart := false }
def FnExactBestHeightsSaid : Prop := fnExactBestHeightsRow.holds Try.pinned (OpenSpec.ofChange fnExactBestHeightsSpec)

/-- ITS FALSE NEIGHBOUR: 'it returns false'. Refute it at one input. -/
def fnExactBestHeightsWrong : ChangeSpec := { name := "fnExactBestHeights", fn := fun _ => fun
  | [d1, d2, d3] => { results := [.lit (.bool false)], args := [d1, d2, d3] }
  | _ => none }
def FnExactBestHeightsWrongFalsely : Prop := fnExactBestHeightsRow.holds Try.pinned (OpenSpec.ofChange fnExactBestHeightsWrong)

/-- 'laws.FnExactAddHeight': WHATEVER THE INPUT: true; the input reads as it did. -/
def fnExactAddHeightSpec : ChangeSpec := { name := "fnExactAddHeight", fn := fun _ => fun
  | [d1, d2, d3] => { results := [.lit (.bool true)], args := [d1, d2, d3] }
  | _ => none }
def fnExactAddHeightRow : OpenClaim := { program := "ytlcacfjikebmgaa", sum := "ba8d32a66e69ecac9be1bf5d4ef64c9874a47e901b9e931166b203c46d02323b", func := "loop.example/g01326/laws.FnExactAddHeight", spec := "fnExactAddHeight", unfollowed := true, recurses := true, apart := false }
def FnExactAddHeightSaid : Prop := fnExactAddHeightRow.holds Try.pinned (OpenSpec.ofChange fnExactAddHeightSpec)

/-- ITS FALSE NEIGHBOUR: 'it returns false'. Refute it at one input. -/
def fnExactAddHeightWrong : ChangeSpec := { name := "fnExactAddHeight", fn := fun _ => fun
  | [d1, d2, d3] => { results := [.lit (.bool false)], args := [d1, d2, d3] }
  | _ => none }
def FnExactAddHeightWrongFalsely : Prop := fnExactAddHeightRow.holds Try.pinned (OpenSpec.ofChange fnExactAddHeightWrong)

/-- 'laws.FnExactLowestCase': WHATEVER THE INPUT: true; the input reads as it did. -/
def fnExactLowestCaseSpec : ChangeSpec := { name := "fnExactLowestCase", fn := fun _ => fun
  | [d1, d2, d3] => { results := [.lit (.bool true)], args := [d1, d2, d3] }
  | _ => none }
def fnExactLowestCaseRow : OpenClaim := { program := "ytlcacfjikebmgaa", sum := "ba8d32a66e69ecac9be1bf5d4ef64c9874a47e901b9e931166b203c46d02323b", func := "loop.example/g01326/laws.FnExactLowestCase", spec := "fnExactLowestCase", unfollowed := true, recurses := true, apart := false }
def FnExactLowestCaseSaid : Prop := fnExactLowestCaseRow.holds Try.pinned (OpenSpec.ofChange fnExactLowestCaseSpec)

/-- ITS FALSE NEIGHBOUR: 'it returns false'. Refute it at one input. -/
def fnExactLowestCaseWrong : ChangeSpec := { name := "fnExactLowestCase", fn := fun _ => fun
  | [d1, d2, d3] => { results := [.lit (.bool false)], args := [d1, d2, d3] }
  | _ => none }
def FnExactLowestCaseWrongFalsely : Prop := fnExactLowestCaseRow.holds Try.pinned (OpenSpec.ofChange fnExactLowestCaseWrong)

/- THE SECOND FORM. 'bulk': how many values and letters a reading holds, each counted each time it is reached (what is shared counts as often as it is met; a slice's spare places count too). A statement '..UptoSaid' is the law's where the arguments, and the package variables that the reading takes, are together of bulk at most 1048576: NARROWER than '..Said'. Prove '..Said' where nothing that the law and all that it calls make is longer than what came in: it says more and counts as full. Else prove '..UptoSaid'. A law counts once. -/
mutual
def uptoBulk {H : Type} : DataW H → Nat
  | .lit (.string bytes) => bytes.length + 1
  | .lit _ => 1
  | .nil => 1
  | .ptr d => uptoBulk d + 1
  | .slice elems spare => uptoBulkAll elems + uptoBulkAll spare + 1
  | .agg parts => uptoBulkAll parts + 1
  | .iface _ d => uptoBulk d + 1
  | .map entries => uptoBulkEntries entries + 1
  | .held _ => 1
def uptoBulkAll {H : Type} : List (DataW H) → Nat
  | [] => 0
  | d :: r => uptoBulk d + uptoBulkAll r
def uptoBulkEntries {H : Type} : List (Lit × DataW H) → Nat
  | [] => 0
  | x :: r => uptoBulkEntry x + uptoBulkEntries r
def uptoBulkEntry {H : Type} : Lit × DataW H → Nat
  | (.string bytes, d) => bytes.length + uptoBulk d + 1
  | (_, d) => uptoBulk d + 1
 end
def uptoSmall : (H : Type) → List (DataW H) → Bool := fun _ ds => decide (uptoBulkAll ds ≤ 1048576)
def OpenSpec.upto (s : _root_.Go.ChangeSpec) : _root_.Go.OpenSpec := { _root_.Go.OpenSpec.ofChange s with cond := some uptoSmall }

/-- 'laws.FnExactHeightsOf', WHERE WHAT IT READS IS OF BULK AT MOST 1048576: true; the input reads as it did. -/
def fnExactHeightsOfUptoRow : OpenClaim := { program := "ytlcacfjikebmgaa", sum := "ba8d32a66e69ecac9be1bf5d4ef64c9874a47e901b9e931166b203c46d02323b", func := "loop.example/g01326/laws.FnExactHeightsOf", spec := "fnExactHeightsOf", unfollowed := true, recurses := true, apart := false, narrowed := true }
def FnExactHeightsOfUptoSaid : Prop := fnExactHeightsOfUptoRow.holds Try.pinned (OpenSpec.upto fnExactHeightsOfSpec)

/-- 'laws.FnExactBestHeights', WHERE WHAT IT READS IS OF BULK AT MOST 1048576: true; the input reads as it did. -/
def fnExactBestHeightsUptoRow : OpenClaim := { program := "ytlcacfjikebmgaa", sum := "ba8d32a66e69ecac9be1bf5d4ef64c9874a47e901b9e931166b203c46d02323b", func := "loop.example/g01326/laws.FnExactBestHeights", spec := "fnExactBestHeights", unfollowed := true, recurses := true, apart := false, narrowed := true }
def FnExactBestHeightsUptoSaid : Prop := fnExactBestHeightsUptoRow.holds Try.pinned (OpenSpec.upto fnExactBestHeightsSpec)

/-- 'laws.FnExactAddHeight', WHERE WHAT IT READS IS OF BULK AT MOST 1048576: true; the input reads as it did. -/
def fnExactAddHeightUptoRow : OpenClaim := { program := "ytlcacfjikebmgaa", sum := "ba8d32a66e69ecac9be1bf5d4ef64c9874a47e901b9e931166b203c46d02323b", func := "loop.example/g01326/laws.FnExactAddHeight", spec := "fnExactAddHeight", unfollowed := true, recurses := true, apart := false, narrowed := true }
def FnExactAddHeightUptoSaid : Prop := fnExactAddHeightUptoRow.holds Try.pinned (OpenSpec.upto fnExactAddHeightSpec)

/-- 'laws.FnExactLowestCase', WHERE WHAT IT READS IS OF BULK AT MOST 1048576: true; the input reads as it did. -/
def fnExactLowestCaseUptoRow : OpenClaim := { program := "ytlcacfjikebmgaa", sum := "ba8d32a66e69ecac9be1bf5d4ef64c9874a47e901b9e931166b203c46d02323b", func := "loop.example/g01326/laws.FnExactLowestCase", spec := "fnExactLowestCase", unfollowed := true, recurses := true, apart := false, narrowed := true }
def FnExactLowestCaseUptoSaid : Prop := fnExactLowestCaseUptoRow.holds Try.pinned (OpenSpec.upto fnExactLowestCaseSpec)

end Rows
end Go.Proofs.Ytlcacfjikebmgaa
