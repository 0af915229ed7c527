/-
  No cell of these rows narrows 'for every input' (looked for: loops, veiled, ifaces, maps, wideKeys, modest, calm, conditions, laid).
  DERIVED. THE GIVEN ROWS OF THIS SEAT. 5 by the template 'for every input the law returns true; each argument reads behind the call as it read before'; 0 by the template 'total and deterministic' (their statements: YtibkdojfpgjdoaaTotals.lean).
  GIVEN WITH THE SEED: the statements are not yours to turn. If you find one false, say at which input.
  Laid BY PROGRAM, IN A SANDBOX (cutbox-rows.mjs): the forced cells as the released guide's own fill.sh prints them over the translation 22ff2edf400d2d48… (all of the seat's roots in one cut). By AI agents, Wed Nov 11 2026. No macro, syntax, notation, axiom, sorry.
-/
import Derived.Test.YtibkdojfpgjdoaaChecked
import GoSem.Claim
import GoSem.ClaimJoined
import GoSem.ClaimMapViews
import Derived.JoinedTies
import Derived.KernelRfl
namespace Go.Proofs.Ytibkdojfpgjdoaa
/- THE CELL 'sum', in the pinned program and in every row, IS THE sha256 OF THE DUMP (.gsa) THAT YtibkdojfpgjdoaaProg.lean LOADS. Nothing in Lean hashes anything: it is a label: what it is worth is what the hold of that sum in a sandbox is worth. -/
noncomputable def Try.pinned : Pinned := { name := "ytibkdojfpgjdoaa", sum := "22ff2edf400d2d4855dcfc096f01412b063025ff2008266ade8da0015b901c57", checked := Try.checked }
namespace Rows
def none {H : Type} : Left H := { results := [], args := [] }

/-- 'laws.FnExactBreaksOf': WHATEVER THE INPUT: true; the input reads as it did. -/
def fnExactBreaksOfSpec : ChangeSpec := { name := "fnExactBreaksOf", fn := fun _ => fun
  | [d] => { results := [.lit (.bool true)], args := [d] }
  | _ => none }
def fnExactBreaksOfRow : OpenClaim := { program := "ytibkdojfpgjdoaa", sum := "22ff2edf400d2d4855dcfc096f01412b063025ff2008266ade8da0015b901c57", func := "loop.example/g01326/laws.FnExactBreaksOf", spec := "fnExactBreaksOf", unfollowed := true, recurses := true, apart := false }
def FnExactBreaksOfSaid : Prop := fnExactBreaksOfRow.holds Try.pinned (OpenSpec.ofChange fnExactBreaksOfSpec)

/-- ITS FALSE NEIGHBOUR: 'it returns false'. Refute it at one input. -/
def fnExactBreaksOfWrong : ChangeSpec := { name := "fnExactBreaksOf", fn := fun _ => fun
  | [d] => { results := [.lit (.bool false)], args := [d] }
  | _ => none }
def FnExactBreaksOfWrongFalsely : Prop := fnExactBreaksOfRow.holds Try.pinned (OpenSpec.ofChange fnExactBreaksOfWrong)

/-- 'laws.FnExactPassesOf': WHATEVER THE INPUT: true; the input reads as it did. -/
def fnExactPassesOfSpec : ChangeSpec := { name := "fnExactPassesOf", fn := fun _ => fun
  | [d] => { results := [.lit (.bool true)], args := [d] }
  | _ => none }
def fnExactPassesOfRow : OpenClaim := { program := "ytibkdojfpgjdoaa", sum := "22ff2edf400d2d4855dcfc096f01412b063025ff2008266ade8da0015b901c57", func := "loop.example/g01326/laws.FnExactPassesOf", spec := "fnExactPassesOf", unfollowed := true, recurses := true, apart := false }
def FnExactPassesOfSaid : Prop := fnExactPassesOfRow.holds Try.pinned (OpenSpec.ofChange fnExactPassesOfSpec)

/-- ITS FALSE NEIGHBOUR: 'it returns false'. Refute it at one input. -/
def fnExactPassesOfWrong : ChangeSpec := { name := "fnExactPassesOf", fn := fun _ => fun
  | [d] => { results := [.lit (.bool false)], args := [d] }
  | _ => none }
def FnExactPassesOfWrongFalsely : Prop := fnExactPassesOfRow.holds Try.pinned (OpenSpec.ofChange fnExactPassesOfWrong)

/-- 'laws.FnExactPassList': WHATEVER THE INPUT: true; the input reads as it did. -/
def fnExactPassListSpec : ChangeSpec := { name := "fnExactPassList", fn := fun _ => fun
  | [d] => { results := [.lit (.bool true)], args := [d] }
  | _ => none }
def fnExactPassListRow : OpenClaim := { program := "ytibkdojfpgjdoaa", sum := "22ff2edf400d2d4855dcfc096f01412b063025ff2008266ade8da0015b901c57", func := "loop.example/g01326/laws.FnExactPassList", spec := "fnExactPassList", unfollowed := true, recurses := true, apart := false }
def FnExactPassListSaid : Prop := fnExactPassListRow.holds Try.pinned (OpenSpec.ofChange fnExactPassListSpec)

/-- ITS FALSE NEIGHBOUR: 'it returns false'. Refute it at one input. -/
def fnExactPassListWrong : ChangeSpec := { name := "fnExactPassList", fn := fun _ => fun
  | [d] => { results := [.lit (.bool false)], args := [d] }
  | _ => none }
def FnExactPassListWrongFalsely : Prop := fnExactPassListRow.holds Try.pinned (OpenSpec.ofChange fnExactPassListWrong)

/-- 'laws.FnExactLeastSwaps': WHATEVER THE INPUT: true; the input reads as it did. -/
def fnExactLeastSwapsSpec : ChangeSpec := { name := "fnExactLeastSwaps", fn := fun _ => fun
  | [d] => { results := [.lit (.bool true)], args := [d] }
  | _ => none }
def fnExactLeastSwapsRow : OpenClaim := { program := "ytibkdojfpgjdoaa", sum := "22ff2edf400d2d4855dcfc096f01412b063025ff2008266ade8da0015b901c57", func := "loop.example/g01326/laws.FnExactLeastSwaps", spec := "fnExactLeastSwaps", unfollowed := true, recurses := true, apart := false }
def FnExactLeastSwapsSaid : Prop := fnExactLeastSwapsRow.holds Try.pinned (OpenSpec.ofChange fnExactLeastSwapsSpec)

/-- ITS FALSE NEIGHBOUR: 'it returns false'. Refute it at one input. -/
def fnExactLeastSwapsWrong : ChangeSpec := { name := "fnExactLeastSwaps", fn := fun _ => fun
  | [d] => { results := [.lit (.bool false)], args := [d] }
  | _ => none }
def FnExactLeastSwapsWrongFalsely : Prop := fnExactLeastSwapsRow.holds Try.pinned (OpenSpec.ofChange fnExactLeastSwapsWrong)

/-- 'laws.FnExactSwapsFor': WHATEVER THE INPUT: true; the input reads as it did. -/
def fnExactSwapsForSpec : ChangeSpec := { name := "fnExactSwapsFor", fn := fun _ => fun
  | [d] => { results := [.lit (.bool true)], args := [d] }
  | _ => none }
def fnExactSwapsForRow : OpenClaim := { program := "ytibkdojfpgjdoaa", sum := "22ff2edf400d2d4855dcfc096f01412b063025ff2008266ade8da0015b901c57", func := "loop.example/g01326/laws.FnExactSwapsFor", spec := "fnExactSwapsFor", unfollowed := true, recurses := true, apart := false }
def FnExactSwapsForSaid : Prop := fnExactSwapsForRow.holds Try.pinned (OpenSpec.ofChange fnExactSwapsForSpec)

/-- ITS FALSE NEIGHBOUR: 'it returns false'. Refute it at one input. -/
def fnExactSwapsForWrong : ChangeSpec := { name := "fnExactSwapsFor", fn := fun _ => fun
  | [d] => { results := [.lit (.bool false)], args := [d] }
  | _ => none }
def FnExactSwapsForWrongFalsely : Prop := fnExactSwapsForRow.holds Try.pinned (OpenSpec.ofChange fnExactSwapsForWrong)

/- THE SECOND FORM. 'bulk': how many values and letters a reading holds, each counted each time it is reached (what is shared counts as often as it is met; a slice's spare places count too). A statement '..UptoSaid' is the law's where the arguments, and the package variables that the reading takes, are together of bulk at most 1048576: NARROWER than '..Said'. Prove '..Said' where nothing that the law and all that it calls make is longer than what came in: it says more and counts as full. Else prove '..UptoSaid'. A law counts once. -/
mutual
def uptoBulk {H : Type} : DataW H → Nat
  | .lit (.string bytes) => bytes.length + 1
  | .lit _ => 1
  | .nil => 1
  | .ptr d => uptoBulk d + 1
  | .slice elems spare => uptoBulkAll elems + uptoBulkAll spare + 1
  | .agg parts => uptoBulkAll parts + 1
  | .iface _ d => uptoBulk d + 1
  | .map entries => uptoBulkEntries entries + 1
  | .held _ => 1
def uptoBulkAll {H : Type} : List (DataW H) → Nat
  | [] => 0
  | d :: r => uptoBulk d + uptoBulkAll r
def uptoBulkEntries {H : Type} : List (Lit × DataW H) → Nat
  | [] => 0
  | x :: r => uptoBulkEntry x + uptoBulkEntries r
def uptoBulkEntry {H : Type} : Lit × DataW H → Nat
  | (.string bytes, d) => bytes.length + uptoBulk d + 1
  | (_, d) => uptoBulk d + 1
 end
def uptoSmall : (H : Type) → List (DataW H) → Bool := fun _ ds => decide (uptoBulkAll ds ≤ 1048576)
def OpenSpec.upto (s : _root_.Go.ChangeSpec) : _root_.Go.OpenSpec := { _root_.Go.OpenSpec.ofChange s with cond := some uptoSmall }

/-- 'laws.FnExactBreaksOf', WHERE WHAT IT READS IS OF BULK AT MOST 1048576: true; the input reads as it did. -/
def fnExactBreaksOfUptoRow : OpenClaim := { program := "ytibkdojfpgjdoaa", sum := "22ff2edf400d2d4855dcfc096f01412b063025ff2008266ade8da0015b901c57", func := "loop.example/g01326/laws.FnExactBreaksOf", spec := "fnExactBreaksOf", unfollowed := true, recurses := true, apart := false, narrowed := true }
def FnExactBreaksOfUptoSaid : Prop := fnExactBreaksOfUptoRow.holds Try.pinned (OpenSpec.upto fnExactBreaksOfSpec)

/-- 'laws.FnExactPassesOf', WHERE WHAT IT READS IS OF BULK AT MOST 1048576: true; the input reads as it did. -/
def fnExactPassesOfUptoRow : OpenClaim := { program := "ytibkdojfpgjdoaa", sum := "22ff2edf400d2d4855dcfc096f01412b063025ff2008266ade8da0015b901c57", func := "loop.example/g01326/laws.FnExactPassesOf", spec := "fnExactPassesOf", unfollowed := true, recurses := true, apart := false, narrowed := true }
def FnExactPassesOfUptoSaid : Prop := fnExactPassesOfUptoRow.holds Try.pinned (OpenSpec.upto fnExactPassesOfSpec)

/-- 'laws.FnExactPassList', WHERE WHAT IT READS IS OF BULK AT MOST 1048576: true; the input reads as it did. -/
def fnExactPassListUptoRow : OpenClaim := { program := "ytibkdojfpgjdoaa", sum := "22ff2edf400d2d4855dcfc096f01412b063025ff2008266ade8da0015b901c57", func := "loop.example/g01326/laws.FnExactPassList", spec := "fnExactPassList", unfollowed := true, recurses := true, apart := false, narrowed := true }
def FnExactPassListUptoSaid : Prop := fnExactPassListUptoRow.holds Try.pinned (OpenSpec.upto fnExactPassListSpec)

/-- 'laws.FnExactLeastSwaps', WHERE WHAT IT READS IS OF BULK AT MOST 1048576: true; the input reads as it did. -/
def fnExactLeastSwapsUptoRow : OpenClaim := { program := "ytibkdojfpgjdoaa", sum := "22ff2edf400d2d4855dcfc096f01412b063025ff2008266ade8da0015b901c57", func := "loop.example/g01326/laws.FnExactLeastSwaps", spec := "fnExactLeastSwaps", unfollowed := true, recurses := true, apart := false, narrowed := true }
def FnExactLeastSwapsUptoSaid : Prop := fnExactLeastSwapsUptoRow.holds Try.pinned (OpenSpec.upto fnExactLeastSwapsSpec)

/-- 'laws.FnExactSwapsFor', WHERE WHAT IT READS IS OF BULK AT MOST 1048576: true; the input reads as it did. -/
def fnExactSwapsForUptoRow : OpenClaim := { program := "ytibkdojfpgjdoaa", sum := "22ff2edf400d2d4855dcfc096f01412b063025ff2008266ade8da0015b901c57", func := "loop.example/g01326/laws.FnExactSwapsFor", spec := "fnExactSwapsFor", unfollowed := true, recurses := true, apart := false, narrowed := true }
def FnExactSwapsForUptoSaid : Prop := fnExactSwapsForUptoRow.holds Try.pinned (OpenSpec.upto fnExactSwapsForSpec)

end Rows
end Go.Proofs.Ytibkdojfpgjdoaa
