/-
  No cell of these rows narrows 'for every input' (looked for: loops, veiled, ifaces, maps, wideKeys, modest, calm, conditions, laid).
  DERIVED. THE GIVEN ROWS OF THIS SEAT. 7 by the template 'for every input the law returns true; each argument reads behind the call as it read before'; 0 by the template 'total and deterministic' (their statements: YtkccgfpeobpheaaTotals.lean).
  GIVEN WITH THE SEED: the statements are not yours to turn. If you find one false, say at which input.
  Laid BY PROGRAM, IN A SANDBOX (cutbox-rows.mjs): the forced cells as the released guide's own fill.sh prints them over the translation ba861b596f2f7c8f… (all of the seat's roots in one cut). By AI agents, Wed Nov 11 2026. No macro, syntax, notation, axiom, sorry.
-/
import Derived.Test.YtkccgfpeobpheaaChecked
import GoSem.Claim
import GoSem.ClaimJoined
import GoSem.ClaimMapViews
import Derived.JoinedTies
import Derived.KernelRfl
namespace Go.Proofs.Ytkccgfpeobpheaa
/- THE CELL 'sum', in the pinned program and in every row, IS THE sha256 OF THE DUMP (.gsa) THAT YtkccgfpeobpheaaProg.lean LOADS. Nothing in Lean hashes anything: it is a label: what it is worth is what the hold of that sum in a sandbox is worth. -/
noncomputable def Try.pinned : Pinned := { name := "ytkccgfpeobpheaa", sum := "ba861b596f2f7c8f73f4dece5c9feee0058066134ce966e76c0b14e04d934b4e", checked := Try.checked }
namespace Rows
def none {H : Type} : Left H := { results := [], args := [] }

/-- 'laws.FnExactValidRack': WHATEVER THE INPUT: true; the input reads as it did. -/
def fnExactValidRackSpec : ChangeSpec := { name := "fnExactValidRack", fn := fun _ => fun
  | [d] => { results := [.lit (.bool true)], args := [d] }
  | _ => none }
def fnExactValidRackRow : OpenClaim := { program := "ytkccgfpeobpheaa", sum := "ba861b596f2f7c8f73f4dece5c9feee0058066134ce966e76c0b14e04d934b4e", func := "loop.example/g01326/laws.FnExactValidRack", spec := "fnExactValidRack", unfollowed := true, recurses := true, apart := false }
def FnExactValidRackSaid : Prop := fnExactValidRackRow.holds Try.pinned (OpenSpec.ofChange fnExactValidRackSpec)

/-- ITS FALSE NEIGHBOUR: 'it returns false'. Refute it at one input. -/
def fnExactValidRackWrong : ChangeSpec := { name := "fnExactValidRack", fn := fun _ => fun
  | [d] => { results := [.lit (.bool false)], args := [d] }
  | _ => none }
def FnExactValidRackWrongFalsely : Prop := fnExactValidRackRow.holds Try.pinned (OpenSpec.ofChange fnExactValidRackWrong)

/-- 'laws.FnExactCrowdOf': WHATEVER THE INPUT: true; the input reads as it did. -/
def fnExactCrowdOfSpec : ChangeSpec := { name := "fnExactCrowdOf", fn := fun _ => fun
  | [d] => { results := [.lit (.bool true)], args := [d] }
  | _ => none }
def fnExactCrowdOfRow : OpenClaim := { program := "ytkccgfpeobpheaa", sum := "ba861b596f2f7c8f73f4dece5c9feee0058066134ce966e76c0b14e04d934b4e", func := "loop.example/g01326/laws.FnExactCrowdOf", spec := "fnExactCrowdOf", unfollowed := true, recurses := true, apart := false }
def FnExactCrowdOfSaid : Prop := fnExactCrowdOfRow.holds Try.pinned (OpenSpec.ofChange fnExactCrowdOfSpec)

/-- ITS FALSE NEIGHBOUR: 'it returns false'. Refute it at one input. -/
def fnExactCrowdOfWrong : ChangeSpec := { name := "fnExactCrowdOf", fn := fun _ => fun
  | [d] => { results := [.lit (.bool false)], args := [d] }
  | _ => none }
def FnExactCrowdOfWrongFalsely : Prop := fnExactCrowdOfRow.holds Try.pinned (OpenSpec.ofChange fnExactCrowdOfWrong)

/-- 'laws.FnExactWidestGap': WHATEVER THE INPUT: true; the input reads as it did. -/
def fnExactWidestGapSpec : ChangeSpec := { name := "fnExactWidestGap", fn := fun _ => fun
  | [d] => { results := [.lit (.bool true)], args := [d] }
  | _ => none }
def fnExactWidestGapRow : OpenClaim := { program := "ytkccgfpeobpheaa", sum := "ba861b596f2f7c8f73f4dece5c9feee0058066134ce966e76c0b14e04d934b4e", func := "loop.example/g01326/laws.FnExactWidestGap", spec := "fnExactWidestGap", unfollowed := true, recurses := true, apart := false }
def FnExactWidestGapSaid : Prop := fnExactWidestGapRow.holds Try.pinned (OpenSpec.ofChange fnExactWidestGapSpec)

/-- ITS FALSE NEIGHBOUR: 'it returns false'. Refute it at one input. -/
def fnExactWidestGapWrong : ChangeSpec := { name := "fnExactWidestGap", fn := fun _ => fun
  | [d] => { results := [.lit (.bool false)], args := [d] }
  | _ => none }
def FnExactWidestGapWrongFalsely : Prop := fnExactWidestGapRow.holds Try.pinned (OpenSpec.ofChange fnExactWidestGapWrong)

/-- 'laws.FnExactRoomFor': WHATEVER THE INPUT: true; the input reads as it did. -/
def fnExactRoomForSpec : ChangeSpec := { name := "fnExactRoomFor", fn := fun _ => fun
  | [d1, d2] => { results := [.lit (.bool true)], args := [d1, d2] }
  | _ => none }
def fnExactRoomForRow : OpenClaim := { program := "ytkccgfpeobpheaa", sum := "ba861b596f2f7c8f73f4dece5c9feee0058066134ce966e76c0b14e04d934b4e", func := "loop.example/g01326/laws.FnExactRoomFor", spec := "fnExactRoomFor", unfollowed := true, recurses := true, apart := false }
def FnExactRoomForSaid : Prop := fnExactRoomForRow.holds Try.pinned (OpenSpec.ofChange fnExactRoomForSpec)

/-- ITS FALSE NEIGHBOUR: 'it returns false'. Refute it at one input. -/
def fnExactRoomForWrong : ChangeSpec := { name := "fnExactRoomFor", fn := fun _ => fun
  | [d1, d2] => { results := [.lit (.bool false)], args := [d1, d2] }
  | _ => none }
def FnExactRoomForWrongFalsely : Prop := fnExactRoomForRow.holds Try.pinned (OpenSpec.ofChange fnExactRoomForWrong)

/-- 'laws.FnExactNeedsMoved': WHATEVER THE INPUT: true; the input reads as it did. -/
def fnExactNeedsMovedSpec : ChangeSpec := { name := "fnExactNeedsMoved", fn := fun _ => fun
  | [d1, d2] => { results := [.lit (.bool true)], args := [d1, d2] }
  | _ => none }
def fnExactNeedsMovedRow : OpenClaim := { program := "ytkccgfpeobpheaa", sum := "ba861b596f2f7c8f73f4dece5c9feee0058066134ce966e76c0b14e04d934b4e", func := "loop.example/g01326/laws.FnExactNeedsMoved", spec := "fnExactNeedsMoved", unfollowed := true, recurses := true, apart := false }
def FnExactNeedsMovedSaid : Prop := fnExactNeedsMovedRow.holds Try.pinned (OpenSpec.ofChange fnExactNeedsMovedSpec)

/-- ITS FALSE NEIGHBOUR: 'it returns false'. Refute it at one input. -/
def fnExactNeedsMovedWrong : ChangeSpec := { name := "fnExactNeedsMoved", fn := fun _ => fun
  | [d1, d2] => { results := [.lit (.bool false)], args := [d1, d2] }
  | _ => none }
def FnExactNeedsMovedWrongFalsely : Prop := fnExactNeedsMovedRow.holds Try.pinned (OpenSpec.ofChange fnExactNeedsMovedWrong)

/-- 'laws.FnExactFreePlaces': WHATEVER THE INPUT: true; the input reads as it did. -/
def fnExactFreePlacesSpec : ChangeSpec := { name := "fnExactFreePlaces", fn := fun _ => fun
  | [d] => { results := [.lit (.bool true)], args := [d] }
  | _ => none }
def fnExactFreePlacesRow : OpenClaim := { program := "ytkccgfpeobpheaa", sum := "ba861b596f2f7c8f73f4dece5c9feee0058066134ce966e76c0b14e04d934b4e", func := "loop.example/g01326/laws.FnExactFreePlaces", spec := "fnExactFreePlaces", unfollowed := true, recurses := true, apart := false }
def FnExactFreePlacesSaid : Prop := fnExactFreePlacesRow.holds Try.pinned (OpenSpec.ofChange fnExactFreePlacesSpec)

/-- ITS FALSE NEIGHBOUR: 'it returns false'. Refute it at one input. -/
def fnExactFreePlacesWrong : ChangeSpec := { name := "fnExactFreePlaces", fn := fun _ => fun
  | [d] => { results := [.lit (.bool false)], args := [d] }
  | _ => none }
def FnExactFreePlacesWrongFalsely : Prop := fnExactFreePlacesRow.holds Try.pinned (OpenSpec.ofChange fnExactFreePlacesWrong)

/-- 'laws.FnExactBooksIn': WHATEVER THE INPUT: true; the input reads as it did. -/
def fnExactBooksInSpec : ChangeSpec := { name := "fnExactBooksIn", fn := fun _ => fun
  | [d] => { results := [.lit (.bool true)], args := [d] }
  | _ => none }
def fnExactBooksInRow : OpenClaim := { program := "ytkccgfpeobpheaa", sum := "ba861b596f2f7c8f73f4dece5c9feee0058066134ce966e76c0b14e04d934b4e", func := "loop.example/g01326/laws.FnExactBooksIn", spec := "fnExactBooksIn", unfollowed := true, recurses := true, apart := false }
def FnExactBooksInSaid : Prop := fnExactBooksInRow.holds Try.pinned (OpenSpec.ofChange fnExactBooksInSpec)

/-- ITS FALSE NEIGHBOUR: 'it returns false'. Refute it at one input. -/
def fnExactBooksInWrong : ChangeSpec := { name := "fnExactBooksIn", fn := fun _ => fun
  | [d] => { results := [.lit (.bool false)], args := [d] }
  | _ => none }
def FnExactBooksInWrongFalsely : Prop := fnExactBooksInRow.holds Try.pinned (OpenSpec.ofChange fnExactBooksInWrong)

/- THE SECOND FORM. 'bulk': how many values and letters a reading holds, each counted each time it is reached (what is shared counts as often as it is met; a slice's spare places count too). A statement '..UptoSaid' is the law's where the arguments, and the package variables that the reading takes, are together of bulk at most 1048576: NARROWER than '..Said'. Prove '..Said' where nothing that the law and all that it calls make is longer than what came in: it says more and counts as full. Else prove '..UptoSaid'. A law counts once. -/
mutual
def uptoBulk {H : Type} : DataW H → Nat
  | .lit (.string bytes) => bytes.length + 1
  | .lit _ => 1
  | .nil => 1
  | .ptr d => uptoBulk d + 1
  | .slice elems spare => uptoBulkAll elems + uptoBulkAll spare + 1
  | .agg parts => uptoBulkAll parts + 1
  | .iface _ d => uptoBulk d + 1
  | .map entries => uptoBulkEntries entries + 1
  | .held _ => 1
def uptoBulkAll {H : Type} : List (DataW H) → Nat
  | [] => 0
  | d :: r => uptoBulk d + uptoBulkAll r
def uptoBulkEntries {H : Type} : List (Lit × DataW H) → Nat
  | [] => 0
  | x :: r => uptoBulkEntry x + uptoBulkEntries r
def uptoBulkEntry {H : Type} : Lit × DataW H → Nat
  | (.string bytes, d) => bytes.length + uptoBulk d + 1
  | (_, d) => uptoBulk d + 1
 end
def uptoSmall : (H : Type) → List (DataW H) → Bool := fun _ ds => decide (uptoBulkAll ds ≤ 1048576)
def OpenSpec.upto (s : _root_.Go.ChangeSpec) : _root_.Go.OpenSpec := { _root_.Go.OpenSpec.ofChange s with cond := some uptoSmall }

/-- 'laws.FnExactValidRack', WHERE WHAT IT READS IS OF BULK AT MOST 1048576: true; the input reads as it did. -/
def fnExactValidRackUptoRow : OpenClaim := { program := "ytkccgfpeobpheaa", sum := "ba861b596f2f7c8f73f4dece5c9feee0058066134ce966e76c0b14e04d934b4e", func := "loop.example/g01326/laws.FnExactValidRack", spec := "fnExactValidRack", unfollowed := true, recurses := true, apart := false, narrowed := true }
def FnExactValidRackUptoSaid : Prop := fnExactValidRackUptoRow.holds Try.pinned (OpenSpec.upto fnExactValidRackSpec)

/-- 'laws.FnExactCrowdOf', WHERE WHAT IT READS IS OF BULK AT MOST 1048576: true; the input reads as it did. -/
def fnExactCrowdOfUptoRow : OpenClaim := { program := "ytkccgfpeobpheaa", sum := "ba861b596f2f7c8f73f4dece5c9feee0058066134ce966e76c0b14e04d934b4e", func := "loop.example/g01326/laws.FnExactCrowdOf", spec := "fnExactCrowdOf", unfollowed := true, recurses := true, apart := false, narrowed := true }
def FnExactCrowdOfUptoSaid : Prop := fnExactCrowdOfUptoRow.holds Try.pinned (OpenSpec.upto fnExactCrowdOfSpec)

/-- 'laws.FnExactWidestGap', WHERE WHAT IT READS IS OF BULK AT MOST 1048576: true; the input reads as it did. -/
def fnExactWidestGapUptoRow : OpenClaim := { program := "ytkccgfpeobpheaa", sum := "ba861b596f2f7c8f73f4dece5c9feee0058066134ce966e76c0b14e04d934b4e", func := "loop.example/g01326/laws.FnExactWidestGap", spec := "fnExactWidestGap", unfollowed := true, recurses := true, apart := false, narrowed := true }
def FnExactWidestGapUptoSaid : Prop := fnExactWidestGapUptoRow.holds Try.pinned (OpenSpec.upto fnExactWidestGapSpec)

/-- 'laws.FnExactRoomFor', WHERE WHAT IT READS IS OF BULK AT MOST 1048576: true; the input reads as it did. -/
def fnExactRoomForUptoRow : OpenClaim := { program := "ytkccgfpeobpheaa", sum := "ba861b596f2f7c8f73f4dece5c9feee0058066134ce966e76c0b14e04d934b4e", func := "loop.example/g01326/laws.FnExactRoomFor", spec := "fnExactRoomFor", unfollowed := true, recurses := true, apart := false, narrowed := true }
def FnExactRoomForUptoSaid : Prop := fnExactRoomForUptoRow.holds Try.pinned (OpenSpec.upto fnExactRoomForSpec)

/-- 'laws.FnExactNeedsMoved', WHERE WHAT IT READS IS OF BULK AT MOST 1048576: true; the input reads as it did. -/
def fnExactNeedsMovedUptoRow : OpenClaim := { program := "ytkccgfpeobpheaa", sum := "ba861b596f2f7c8f73f4dece5c9feee0058066134ce966e76c0b14e04d934b4e", func := "loop.example/g01326/laws.FnExactNeedsMoved", spec := "fnExactNeedsMoved", unfollowed := true, recurses := true, apart := false, narrowed := true }
def FnExactNeedsMovedUptoSaid : Prop := fnExactNeedsMovedUptoRow.holds Try.pinned (OpenSpec.upto fnExactNeedsMovedSpec)

/-- 'laws.FnExactFreePlaces', WHERE WHAT IT READS IS OF BULK AT MOST 1048576: true; the input reads as it did. -/
def fnExactFreePlacesUptoRow : OpenClaim := { program := "ytkccgfpeobpheaa", sum := "ba861b596f2f7c8f73f4dece5c9feee0058066134ce966e76c0b14e04d934b4e", func := "loop.example/g01326/laws.FnExactFreePlaces", spec := "fnExactFreePlaces", unfollowed := true, recurses := true, apart := false, narrowed := true }
def FnExactFreePlacesUptoSaid : Prop := fnExactFreePlacesUptoRow.holds Try.pinned (OpenSpec.upto fnExactFreePlacesSpec)

/-- 'laws.FnExactBooksIn', WHERE WHAT IT READS IS OF BULK AT MOST 1048576: true; the input reads as it did. -/
def fnExactBooksInUptoRow : OpenClaim := { program := "ytkccgfpeobpheaa", sum := "ba861b596f2f7c8f73f4dece5c9feee0058066134ce966e76c0b14e04d934b4e", func := "loop.example/g01326/laws.FnExactBooksIn", spec := "fnExactBooksIn", unfollowed := true, recurses := true, apart := false, narrowed := true }
def FnExactBooksInUptoSaid : Prop := fnExactBooksInUptoRow.holds Try.pinned (OpenSpec.upto fnExactBooksInSpec)

end Rows
end Go.Proofs.Ytkccgfpeobpheaa
