/-
  No cell of these rows narrows 'for every input' (looked for: loops, veiled, ifaces, maps, wideKeys, modest, calm, conditions, laid).
  DERIVED. THE GIVEN ROWS OF THIS SEAT. 5 by the template 'for every input the law returns true; each argument reads behind the call as it read before'; 0 by the template 'total and deterministic' (their statements: YtkfbpfkomppefaaTotals.lean).
  GIVEN WITH THE SEED: the statements are not yours to turn. If you find one false, say at which input.
  Laid BY PROGRAM, IN A SANDBOX (cutbox-rows.mjs): the forced cells as the released guide's own fill.sh prints them over the translation bc363efa06f6aed0… (all of the seat's roots in one cut). By AI agents, Wed Nov 11 2026. No macro, syntax, notation, axiom, sorry.
-/
import Derived.Test.YtkfbpfkomppefaaChecked
import GoSem.Claim
import GoSem.ClaimJoined
import GoSem.ClaimMapViews
import Derived.JoinedTies
import Derived.KernelRfl
namespace Go.Proofs.Ytkfbpfkomppefaa
/- THE CELL 'sum', in the pinned program and in every row, IS THE sha256 OF THE DUMP (.gsa) THAT YtkfbpfkomppefaaProg.lean LOADS. Nothing in Lean hashes anything: it is a label: what it is worth is what the hold of that sum in a sandbox is worth. -/
noncomputable def Try.pinned : Pinned := { name := "ytkfbpfkomppefaa", sum := "bc363efa06f6aed04e07f2265afe45e57c6e3010eb1c50bfb29fbe2dba3b6c4e", checked := Try.checked }
namespace Rows
def none {H : Type} : Left H := { results := [], args := [] }

/-- 'laws.FnExactMoveBlock': WHATEVER THE INPUT: true; the input reads as it did. -/
def fnExactMoveBlockSpec : ChangeSpec := { name := "fnExactMoveBlock", fn := fun _ => fun
  | [d1, d2] => { results := [.lit (.bool true)], args := [d1, d2] }
  | _ => none }
def fnExactMoveBlockRow : OpenClaim := { program := "ytkfbpfkomppefaa", sum := "bc363efa06f6aed04e07f2265afe45e57c6e3010eb1c50bfb29fbe2dba3b6c4e", func := "loop.example/g01326/laws.FnExactMoveBlock", spec := "fnExactMoveBlock", inPlace := ["slices.overlaps[loop.example/g01326/impl.Book]"], unfollowed := true, recurses := true, apart := false }
def FnExactMoveBlockSaid : Prop := fnExactMoveBlockRow.holds Try.pinned (OpenSpec.ofChange fnExactMoveBlockSpec)

/-- ITS FALSE NEIGHBOUR: 'it returns false'. Refute it at one input. -/
def fnExactMoveBlockWrong : ChangeSpec := { name := "fnExactMoveBlock", fn := fun _ => fun
  | [d1, d2] => { results := [.lit (.bool false)], args := [d1, d2] }
  | _ => none }
def FnExactMoveBlockWrongFalsely : Prop := fnExactMoveBlockRow.holds Try.pinned (OpenSpec.ofChange fnExactMoveBlockWrong)

/-- 'laws.FnExactMoveBook': WHATEVER THE INPUT: true; the input reads as it did. -/
def fnExactMoveBookSpec : ChangeSpec := { name := "fnExactMoveBook", fn := fun _ => fun
  | [d1, d2] => { results := [.lit (.bool true)], args := [d1, d2] }
  | _ => none }
def fnExactMoveBookRow : OpenClaim := { program := "ytkfbpfkomppefaa", sum := "bc363efa06f6aed04e07f2265afe45e57c6e3010eb1c50bfb29fbe2dba3b6c4e", func := "loop.example/g01326/laws.FnExactMoveBook", spec := "fnExactMoveBook", inPlace := ["slices.overlaps[loop.example/g01326/impl.Book]"], unfollowed := true, recurses := true, apart := false }
def FnExactMoveBookSaid : Prop := fnExactMoveBookRow.holds Try.pinned (OpenSpec.ofChange fnExactMoveBookSpec)

/-- ITS FALSE NEIGHBOUR: 'it returns false'. Refute it at one input. -/
def fnExactMoveBookWrong : ChangeSpec := { name := "fnExactMoveBook", fn := fun _ => fun
  | [d1, d2] => { results := [.lit (.bool false)], args := [d1, d2] }
  | _ => none }
def FnExactMoveBookWrongFalsely : Prop := fnExactMoveBookRow.holds Try.pinned (OpenSpec.ofChange fnExactMoveBookWrong)

/-- 'laws.FnExactMoveAll': WHATEVER THE INPUT: true; the input reads as it did. -/
def fnExactMoveAllSpec : ChangeSpec := { name := "fnExactMoveAll", fn := fun _ => fun
  | [d1, d2] => { results := [.lit (.bool true)], args := [d1, d2] }
  | _ => none }
def fnExactMoveAllRow : OpenClaim := { program := "ytkfbpfkomppefaa", sum := "bc363efa06f6aed04e07f2265afe45e57c6e3010eb1c50bfb29fbe2dba3b6c4e", func := "loop.example/g01326/laws.FnExactMoveAll", spec := "fnExactMoveAll", inPlace := ["slices.overlaps[loop.example/g01326/impl.Book]"], unfollowed := true, recurses := true, apart := false }
def FnExactMoveAllSaid : Prop := fnExactMoveAllRow.holds Try.pinned (OpenSpec.ofChange fnExactMoveAllSpec)

/-- ITS FALSE NEIGHBOUR: 'it returns false'. Refute it at one input. -/
def fnExactMoveAllWrong : ChangeSpec := { name := "fnExactMoveAll", fn := fun _ => fun
  | [d1, d2] => { results := [.lit (.bool false)], args := [d1, d2] }
  | _ => none }
def FnExactMoveAllWrongFalsely : Prop := fnExactMoveAllRow.holds Try.pinned (OpenSpec.ofChange fnExactMoveAllWrong)

/-- 'laws.FnExactCheckMoves': WHATEVER THE INPUT: true; the input reads as it did. -/
def fnExactCheckMovesSpec : ChangeSpec := { name := "fnExactCheckMoves", fn := fun _ => fun
  | [d1, d2] => { results := [.lit (.bool true)], args := [d1, d2] }
  | _ => none }
def fnExactCheckMovesRow : OpenClaim := { program := "ytkfbpfkomppefaa", sum := "bc363efa06f6aed04e07f2265afe45e57c6e3010eb1c50bfb29fbe2dba3b6c4e", func := "loop.example/g01326/laws.FnExactCheckMoves", spec := "fnExactCheckMoves", inPlace := ["slices.overlaps[loop.example/g01326/impl.Book]"], unfollowed := true, recurses := true, apart := false }
def FnExactCheckMovesSaid : Prop := fnExactCheckMovesRow.holds Try.pinned (OpenSpec.ofChange fnExactCheckMovesSpec)

/-- ITS FALSE NEIGHBOUR: 'it returns false'. Refute it at one input. -/
def fnExactCheckMovesWrong : ChangeSpec := { name := "fnExactCheckMoves", fn := fun _ => fun
  | [d1, d2] => { results := [.lit (.bool false)], args := [d1, d2] }
  | _ => none }
def FnExactCheckMovesWrongFalsely : Prop := fnExactCheckMovesRow.holds Try.pinned (OpenSpec.ofChange fnExactCheckMovesWrong)

/-- 'laws.FnExactMovesFor': WHATEVER THE INPUT: true; the input reads as it did. -/
def fnExactMovesForSpec : ChangeSpec := { name := "fnExactMovesFor", fn := fun _ => fun
  | [d] => { results := [.lit (.bool true)], args := [d] }
  | _ => none }
def fnExactMovesForRow : OpenClaim := { program := "ytkfbpfkomppefaa", sum := "bc363efa06f6aed04e07f2265afe45e57c6e3010eb1c50bfb29fbe2dba3b6c4e", func := "loop.example/g01326/laws.FnExactMovesFor", spec := "fnExactMovesFor", inPlace := ["slices.overlaps[int]"], unfollowed := true, recurses := true, apart := false }
def FnExactMovesForSaid : Prop := fnExactMovesForRow.holds Try.pinned (OpenSpec.ofChange fnExactMovesForSpec)

/-- ITS FALSE NEIGHBOUR: 'it returns false'. Refute it at one input. -/
def fnExactMovesForWrong : ChangeSpec := { name := "fnExactMovesFor", fn := fun _ => fun
  | [d] => { results := [.lit (.bool false)], args := [d] }
  | _ => none }
def FnExactMovesForWrongFalsely : Prop := fnExactMovesForRow.holds Try.pinned (OpenSpec.ofChange fnExactMovesForWrong)

/- THE SECOND FORM. 'bulk': how many values and letters a reading holds, each counted each time it is reached (what is shared counts as often as it is met; a slice's spare places count too). A statement '..UptoSaid' is the law's where the arguments, and the package variables that the reading takes, are together of bulk at most 1048576: NARROWER than '..Said'. Prove '..Said' where nothing that the law and all that it calls make is longer than what came in: it says more and counts as full. Else prove '..UptoSaid'. A law counts once. -/
mutual
def uptoBulk {H : Type} : DataW H → Nat
  | .lit (.string bytes) => bytes.length + 1
  | .lit _ => 1
  | .nil => 1
  | .ptr d => uptoBulk d + 1
  | .slice elems spare => uptoBulkAll elems + uptoBulkAll spare + 1
  | .agg parts => uptoBulkAll parts + 1
  | .iface _ d => uptoBulk d + 1
  | .map entries => uptoBulkEntries entries + 1
  | .held _ => 1
def uptoBulkAll {H : Type} : List (DataW H) → Nat
  | [] => 0
  | d :: r => uptoBulk d + uptoBulkAll r
def uptoBulkEntries {H : Type} : List (Lit × DataW H) → Nat
  | [] => 0
  | x :: r => uptoBulkEntry x + uptoBulkEntries r
def uptoBulkEntry {H : Type} : Lit × DataW H → Nat
  | (.string bytes, d) => bytes.length + uptoBulk d + 1
  | (_, d) => uptoBulk d + 1
 end
def uptoSmall : (H : Type) → List (DataW H) → Bool := fun _ ds => decide (uptoBulkAll ds ≤ 1048576)
def OpenSpec.upto (s : _root_.Go.ChangeSpec) : _root_.Go.OpenSpec := { _root_.Go.OpenSpec.ofChange s with cond := some uptoSmall }

/-- 'laws.FnExactMoveBlock', WHERE WHAT IT READS IS OF BULK AT MOST 1048576: true; the input reads as it did. -/
def fnExactMoveBlockUptoRow : OpenClaim := { program := "ytkfbpfkomppefaa", sum := "bc363efa06f6aed04e07f2265afe45e57c6e3010eb1c50bfb29fbe2dba3b6c4e", func := "loop.example/g01326/laws.FnExactMoveBlock", spec := "fnExactMoveBlock", inPlace := ["slices.overlaps[loop.example/g01326/impl.Book]"], unfollowed := true, recurses := true, apart := false, narrowed := true }
def FnExactMoveBlockUptoSaid : Prop := fnExactMoveBlockUptoRow.holds Try.pinned (OpenSpec.upto fnExactMoveBlockSpec)

/-- 'laws.FnExactMoveBook', WHERE WHAT IT READS IS OF BULK AT MOST 1048576: true; the input reads as it did. -/
def fnExactMoveBookUptoRow : OpenClaim := { program := "ytkfbpfkomppefaa", sum := "bc363efa06f6aed04e07f2265afe45e57c6e3010eb1c50bfb29fbe2dba3b6c4e", func := "loop.example/g01326/laws.FnExactMoveBook", spec := "fnExactMoveBook", inPlace := ["slices.overlaps[loop.example/g01326/impl.Book]"], unfollowed := true, recurses := true, apart := false, narrowed := true }
def FnExactMoveBookUptoSaid : Prop := fnExactMoveBookUptoRow.holds Try.pinned (OpenSpec.upto fnExactMoveBookSpec)

/-- 'laws.FnExactMoveAll', WHERE WHAT IT READS IS OF BULK AT MOST 1048576: true; the input reads as it did. -/
def fnExactMoveAllUptoRow : OpenClaim := { program := "ytkfbpfkomppefaa", sum := "bc363efa06f6aed04e07f2265afe45e57c6e3010eb1c50bfb29fbe2dba3b6c4e", func := "loop.example/g01326/laws.FnExactMoveAll", spec := "fnExactMoveAll", inPlace := ["slices.overlaps[loop.example/g01326/impl.Book]"], unfollowed := true, recurses := true, apart := false, narrowed := true }
def FnExactMoveAllUptoSaid : Prop := fnExactMoveAllUptoRow.holds Try.pinned (OpenSpec.upto fnExactMoveAllSpec)

/-- 'laws.FnExactCheckMoves', WHERE WHAT IT READS IS OF BULK AT MOST 1048576: true; the input reads as it did. -/
def fnExactCheckMovesUptoRow : OpenClaim := { program := "ytkfbpfkomppefaa", sum := "bc363efa06f6aed04e07f2265afe45e57c6e3010eb1c50bfb29fbe2dba3b6c4e", func := "loop.example/g01326/laws.FnExactCheckMoves", spec := "fnExactCheckMoves", inPlace := ["slices.overlaps[loop.example/g01326/impl.Book]"], unfollowed := true, recurses := true, apart := false, narrowed := true }
def FnExactCheckMovesUptoSaid : Prop := fnExactCheckMovesUptoRow.holds Try.pinned (OpenSpec.upto fnExactCheckMovesSpec)

/-- 'laws.FnExactMovesFor', WHERE WHAT IT READS IS OF BULK AT MOST 1048576: true; the input reads as it did. -/
def fnExactMovesForUptoRow : OpenClaim := { program := "ytkfbpfkomppefaa", sum := "bc363efa06f6aed04e07f2265afe45e57c6e3010eb1c50bfb29fbe2dba3b6c4e", func := "loop.example/g01326/laws.FnExactMovesFor", spec := "fnExactMovesFor", inPlace := ["slices.overlaps[int]"], unfollowed := true, recurses := true, apart := false, narrowed := true }
def FnExactMovesForUptoSaid : Prop := fnExactMovesForUptoRow.holds Try.pinned (OpenSpec.upto fnExactMovesForSpec)

end Rows
end Go.Proofs.Ytkfbpfkomppefaa
