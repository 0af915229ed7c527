/-
  No cell of these rows narrows 'for every input' (looked for: loops, veiled, ifaces, maps, wideKeys, modest, calm, conditions, laid).
  DERIVED. THE GIVEN ROWS OF THIS SEAT. 5 by the template 'for every input the law returns true; each argument reads behind the call as it read before'; 0 by the template 'total and deterministic' (their statements: YtlbpjklpmphdpaaTotals.lean).
  GIVEN WITH THE SEED: the statements are not yours to turn. If you find one false, say at which input.
  Laid BY PROGRAM, IN A SANDBOX (cutbox-rows.mjs): the forced cells as the released guide's own fill.sh prints them over the translation 5a532f50876b407f… (all of the seat's roots in one cut). By AI agents, Wed Nov 11 2026. No macro, syntax, notation, axiom, sorry.
-/
import Derived.Test.YtlbpjklpmphdpaaChecked
import GoSem.Claim
import GoSem.ClaimJoined
import GoSem.ClaimMapViews
import Derived.JoinedTies
import Derived.KernelRfl
namespace Go.Proofs.Ytlbpjklpmphdpaa
/- THE CELL 'sum', in the pinned program and in every row, IS THE sha256 OF THE DUMP (.gsa) THAT YtlbpjklpmphdpaaProg.lean LOADS. Nothing in Lean hashes anything: it is a label: what it is worth is what the hold of that sum in a sandbox is worth. -/
noncomputable def Try.pinned : Pinned := { name := "ytlbpjklpmphdpaa", sum := "5a532f50876b407ff72a4b7d04d5ef64a5a9fd2c0b2c69f98651b03c0ded4426", checked := Try.checked }
namespace Rows
def none {H : Type} : Left H := { results := [], args := [] }

/-- 'laws.FnExactLabelsOf': WHATEVER THE INPUT: true; the input reads as it did. -/
def fnExactLabelsOfSpec : ChangeSpec := { name := "fnExactLabelsOf", fn := fun _ => fun
  | [d] => { results := [.lit (.bool true)], args := [d] }
  | _ => none }
def fnExactLabelsOfRow : OpenClaim := { program := "ytlbpjklpmphdpaa", sum := "5a532f50876b407ff72a4b7d04d5ef64a5a9fd2c0b2c69f98651b03c0ded4426", func := "loop.example/g01326/laws.FnExactLabelsOf", spec := "fnExactLabelsOf", unfollowed := true, recurses := true, apart := false }
def FnExactLabelsOfSaid : Prop := fnExactLabelsOfRow.holds Try.pinned (OpenSpec.ofChange fnExactLabelsOfSpec)

/-- ITS FALSE NEIGHBOUR: 'it returns false'. Refute it at one input. -/
def fnExactLabelsOfWrong : ChangeSpec := { name := "fnExactLabelsOf", fn := fun _ => fun
  | [d] => { results := [.lit (.bool false)], args := [d] }
  | _ => none }
def FnExactLabelsOfWrongFalsely : Prop := fnExactLabelsOfRow.holds Try.pinned (OpenSpec.ofChange fnExactLabelsOfWrong)

/-- 'laws.FnExactLeastMoves': WHATEVER THE INPUT: true; the input reads as it did. -/
def fnExactLeastMovesSpec : ChangeSpec := { name := "fnExactLeastMoves", fn := fun _ => fun
  | [d] => { results := [.lit (.bool true)], args := [d] }
  | _ => none }
def fnExactLeastMovesRow : OpenClaim := { program := "ytlbpjklpmphdpaa", sum := "5a532f50876b407ff72a4b7d04d5ef64a5a9fd2c0b2c69f98651b03c0ded4426", func := "loop.example/g01326/laws.FnExactLeastMoves", spec := "fnExactLeastMoves", unfollowed := true, recurses := true, apart := false }
def FnExactLeastMovesSaid : Prop := fnExactLeastMovesRow.holds Try.pinned (OpenSpec.ofChange fnExactLeastMovesSpec)

/-- ITS FALSE NEIGHBOUR: 'it returns false'. Refute it at one input. -/
def fnExactLeastMovesWrong : ChangeSpec := { name := "fnExactLeastMoves", fn := fun _ => fun
  | [d] => { results := [.lit (.bool false)], args := [d] }
  | _ => none }
def FnExactLeastMovesWrongFalsely : Prop := fnExactLeastMovesRow.holds Try.pinned (OpenSpec.ofChange fnExactLeastMovesWrong)

/-- 'laws.FnExactKeptBooks': WHATEVER THE INPUT: true; the input reads as it did. -/
def fnExactKeptBooksSpec : ChangeSpec := { name := "fnExactKeptBooks", fn := fun _ => fun
  | [d] => { results := [.lit (.bool true)], args := [d] }
  | _ => none }
def fnExactKeptBooksRow : OpenClaim := { program := "ytlbpjklpmphdpaa", sum := "5a532f50876b407ff72a4b7d04d5ef64a5a9fd2c0b2c69f98651b03c0ded4426", func := "loop.example/g01326/laws.FnExactKeptBooks", spec := "fnExactKeptBooks", unfollowed := true, recurses := true, apart := false }
def FnExactKeptBooksSaid : Prop := fnExactKeptBooksRow.holds Try.pinned (OpenSpec.ofChange fnExactKeptBooksSpec)

/-- ITS FALSE NEIGHBOUR: 'it returns false'. Refute it at one input. -/
def fnExactKeptBooksWrong : ChangeSpec := { name := "fnExactKeptBooks", fn := fun _ => fun
  | [d] => { results := [.lit (.bool false)], args := [d] }
  | _ => none }
def FnExactKeptBooksWrongFalsely : Prop := fnExactKeptBooksRow.holds Try.pinned (OpenSpec.ofChange fnExactKeptBooksWrong)

/-- 'laws.FnExactMoveBlock': WHATEVER THE INPUT: true; the input reads as it did. -/
def fnExactMoveBlockSpec : ChangeSpec := { name := "fnExactMoveBlock", fn := fun _ => fun
  | [d1, d2] => { results := [.lit (.bool true)], args := [d1, d2] }
  | _ => none }
def fnExactMoveBlockRow : OpenClaim := { program := "ytlbpjklpmphdpaa", sum := "5a532f50876b407ff72a4b7d04d5ef64a5a9fd2c0b2c69f98651b03c0ded4426", func := "loop.example/g01326/laws.FnExactMoveBlock", spec := "fnExactMoveBlock", inPlace := ["slices.overlaps[loop.example/g01326/impl.Book]"], unfollowed := true, recurses := true, apart := false }
def FnExactMoveBlockSaid : Prop := fnExactMoveBlockRow.holds Try.pinned (OpenSpec.ofChange fnExactMoveBlockSpec)

/-- ITS FALSE NEIGHBOUR: 'it returns false'. Refute it at one input. -/
def fnExactMoveBlockWrong : ChangeSpec := { name := "fnExactMoveBlock", fn := fun _ => fun
  | [d1, d2] => { results := [.lit (.bool false)], args := [d1, d2] }
  | _ => none }
def FnExactMoveBlockWrongFalsely : Prop := fnExactMoveBlockRow.holds Try.pinned (OpenSpec.ofChange fnExactMoveBlockWrong)

/-- 'laws.FnExactMoveBook': WHATEVER THE INPUT: true; the input reads as it did. -/
def fnExactMoveBookSpec : ChangeSpec := { name := "fnExactMoveBook", fn := fun _ => fun
  | [d1, d2] => { results := [.lit (.bool true)], args := [d1, d2] }
  | _ => none }
def fnExactMoveBookRow : OpenClaim := { program := "ytlbpjklpmphdpaa", sum := "5a532f50876b407ff72a4b7d04d5ef64a5a9fd2c0b2c69f98651b03c0ded4426", func := "loop.example/g01326/laws.FnExactMoveBook", spec := "fnExactMoveBook", inPlace := ["slices.overlaps[loop.example/g01326/impl.Book]"], unfollowed := true, recurses := true, apart := false }
def FnExactMoveBookSaid : Prop := fnExactMoveBookRow.holds Try.pinned (OpenSpec.ofChange fnExactMoveBookSpec)

/-- ITS FALSE NEIGHBOUR: 'it returns false'. Refute it at one input. -/
def fnExactMoveBookWrong : ChangeSpec := { name := "fnExactMoveBook", fn := fun _ => fun
  | [d1, d2] => { results := [.lit (.bool false)], args := [d1, d2] }
  | _ => none }
def FnExactMoveBookWrongFalsely : Prop := fnExactMoveBookRow.holds Try.pinned (OpenSpec.ofChange fnExactMoveBookWrong)

/- THE SECOND FORM. 'bulk': how many values and letters a reading holds, each counted each time it is reached (what is shared counts as often as it is met; a slice's spare places count too). A statement '..UptoSaid' is the law's where the arguments, and the package variables that the reading takes, are together of bulk at most 1048576: NARROWER than '..Said'. Prove '..Said' where nothing that the law and all that it calls make is longer than what came in: it says more and counts as full. Else prove '..UptoSaid'. A law counts once. -/
mutual
def uptoBulk {H : Type} : DataW H → Nat
  | .lit (.string bytes) => bytes.length + 1
  | .lit _ => 1
  | .nil => 1
  | .ptr d => uptoBulk d + 1
  | .slice elems spare => uptoBulkAll elems + uptoBulkAll spare + 1
  | .agg parts => uptoBulkAll parts + 1
  | .iface _ d => uptoBulk d + 1
  | .map entries => uptoBulkEntries entries + 1
  | .held _ => 1
def uptoBulkAll {H : Type} : List (DataW H) → Nat
  | [] => 0
  | d :: r => uptoBulk d + uptoBulkAll r
def uptoBulkEntries {H : Type} : List (Lit × DataW H) → Nat
  | [] => 0
  | x :: r => uptoBulkEntry x + uptoBulkEntries r
def uptoBulkEntry {H : Type} : Lit × DataW H → Nat
  | (.string bytes, d) => bytes.length + uptoBulk d + 1
  | (_, d) => uptoBulk d + 1
 end
def uptoSmall : (H : Type) → List (DataW H) → Bool := fun _ ds => decide (uptoBulkAll ds ≤ 1048576)
def OpenSpec.upto (s : _root_.Go.ChangeSpec) : _root_.Go.OpenSpec := { _root_.Go.OpenSpec.ofChange s with cond := some uptoSmall }

/-- 'laws.FnExactLabelsOf', WHERE WHAT IT READS IS OF BULK AT MOST 1048576: true; the input reads as it did. -/
def fnExactLabelsOfUptoRow : OpenClaim := { program := "ytlbpjklpmphdpaa", sum := "5a532f50876b407ff72a4b7d04d5ef64a5a9fd2c0b2c69f98651b03c0ded4426", func := "loop.example/g01326/laws.FnExactLabelsOf", spec := "fnExactLabelsOf", unfollowed := true, recurses := true, apart := false, narrowed := true }
def FnExactLabelsOfUptoSaid : Prop := fnExactLabelsOfUptoRow.holds Try.pinned (OpenSpec.upto fnExactLabelsOfSpec)

/-- 'laws.FnExactLeastMoves', WHERE WHAT IT READS IS OF BULK AT MOST 1048576: true; the input reads as it did. -/
def fnExactLeastMovesUptoRow : OpenClaim := { program := "ytlbpjklpmphdpaa", sum := "5a532f50876b407ff72a4b7d04d5ef64a5a9fd2c0b2c69f98651b03c0ded4426", func := "loop.example/g01326/laws.FnExactLeastMoves", spec := "fnExactLeastMoves", unfollowed := true, recurses := true, apart := false, narrowed := true }
def FnExactLeastMovesUptoSaid : Prop := fnExactLeastMovesUptoRow.holds Try.pinned (OpenSpec.upto fnExactLeastMovesSpec)

/-- 'laws.FnExactKeptBooks', WHERE WHAT IT READS IS OF BULK AT MOST 1048576: true; the input reads as it did. -/
def fnExactKeptBooksUptoRow : OpenClaim := { program := "ytlbpjklpmphdpaa", sum := "5a532f50876b407ff72a4b7d04d5ef64a5a9fd2c0b2c69f98651b03c0ded4426", func := "loop.example/g01326/laws.FnExactKeptBooks", spec := "fnExactKeptBooks", unfollowed := true, recurses := true, apart := false, narrowed := true }
def FnExactKeptBooksUptoSaid : Prop := fnExactKeptBooksUptoRow.holds Try.pinned (OpenSpec.upto fnExactKeptBooksSpec)

/-- 'laws.FnExactMoveBlock', WHERE WHAT IT READS IS OF BULK AT MOST 1048576: true; the input reads as it did. -/
def fnExactMoveBlockUptoRow : OpenClaim := { program := "ytlbpjklpmphdpaa", sum := "5a532f50876b407ff72a4b7d04d5ef64a5a9fd2c0b2c69f98651b03c0ded4426", func := "loop.example/g01326/laws.FnExactMoveBlock", spec := "fnExactMoveBlock", inPlace := ["slices.overlaps[loop.example/g01326/impl.Book]"], unfollowed := true, recurses := true, apart := false, narrowed := true }
def FnExactMoveBlockUptoSaid : Prop := fnExactMoveBlockUptoRow.holds Try.pinned (OpenSpec.upto fnExactMoveBlockSpec)

/-- 'laws.FnExactMoveBook', WHERE WHAT IT READS IS OF BULK AT MOST 1048576: true; the input reads as it did. -/
def fnExactMoveBookUptoRow : OpenClaim := { program := "ytlbpjklpmphdpaa", sum := "5a532f50876b407ff72a4b7d04d5ef64a5a9fd2c0b2c69f98651b03c0ded4426", func := "loop.example/g01326/laws.FnExactMoveBook", spec := "fnExactMoveBook", inPlace := ["slices.overlaps[loop.example/g01326/impl.Book]"], unfollowed := true, recurses := true, apart := false, narrowed := true }
def FnExactMoveBookUptoSaid : Prop := fnExactMoveBookUptoRow.holds Try.pinned (OpenSpec.upto fnExactMoveBookSpec)

end Rows
end Go.Proofs.Ytlbpjklpmphdpaa
