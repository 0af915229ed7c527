/-
  DERIVED. GIVEN WITH THE SEED: THE CARDS: each row of YtoincpeodnmfmaaDoorRows.lean that lists a variable, with what it lists TIED to the program's text (the seventh form; the later family's looks); each row that meets fmt, with fmt's text TOLD by the authors' own Lean function (tested against real Go, not proved from fmt's source: count such statements apart). THE CARD IS WHAT COUNTS. Prove the row's statement (the work); the ties are given (YtoincpeodnmfmaaDoorTie.lean); close each card by the builder's one call (the guide's Derived/Test/ToyasCard.lean, 'card_holds'). Laid BY PROGRAM, IN A SANDBOX (cutbox-door.mjs). By AI agents, Wed Nov 11 2026. No macro, syntax, notation, axiom, sorry.
-/
import Derived.Test.YtoincpeodnmfmaaDoorRows
import GoSem.ClaimSeven
namespace Go.Proofs.YtoincpeodnmfmaaDoor
namespace Rows

/-- THE TIED CARD OF 'laws.FnExactReadMoves'. -/
def fnExactReadMovesCard : Claim7 := { stood := { row := fnExactReadMovesRow, standIns := [], harness := (true, "7acef647ab3aa420830c33349187b883f1188a1e627ec8697dc9760bee330460"), looks := true }, kinds := [], alts := [], laidByText := true, laidKinds := [.data, .data, .data, .data, .sentinel, .sentinel, .pinned], laidTests := true, laidLooks := .later }
def FnExactReadMovesCardSaid : Prop := Claim7.holds Tryd.pinned (.plain (OpenSpec.ofChange fnExactReadMovesSpec)) fnExactReadMovesCard

/-- THE TIED CARD OF 'laws.FnExactReadHeights'. -/
def fnExactReadHeightsCard : Claim7 := { stood := { row := fnExactReadHeightsRow, standIns := [], harness := (true, "7acef647ab3aa420830c33349187b883f1188a1e627ec8697dc9760bee330460"), looks := true }, kinds := [], alts := [], laidByText := true, laidKinds := [.data, .data, .data, .data, .sentinel, .sentinel, .pinned], laidTests := true, laidLooks := .later }
def FnExactReadHeightsCardSaid : Prop := Claim7.holds Tryd.pinned (.plain (OpenSpec.ofChange fnExactReadHeightsSpec)) fnExactReadHeightsCard

/-- THE SECOND FORM's CARD OF 'laws.FnExactReadMoves'. -/
def fnExactReadMovesUptoCard : Claim7 := { stood := { row := fnExactReadMovesUptoRow, standIns := [], harness := (true, "7acef647ab3aa420830c33349187b883f1188a1e627ec8697dc9760bee330460"), looks := true }, kinds := [], alts := [], laidByText := true, laidKinds := [.data, .data, .data, .data, .sentinel, .sentinel, .pinned], laidTests := true, laidLooks := .later }
def FnExactReadMovesUptoCardSaid : Prop := Claim7.holds Tryd.pinned (.plain (OpenSpec.upto fnExactReadMovesSpec)) fnExactReadMovesUptoCard

/-- THE SECOND FORM's CARD OF 'laws.FnExactReadHeights'. -/
def fnExactReadHeightsUptoCard : Claim7 := { stood := { row := fnExactReadHeightsUptoRow, standIns := [], harness := (true, "7acef647ab3aa420830c33349187b883f1188a1e627ec8697dc9760bee330460"), looks := true }, kinds := [], alts := [], laidByText := true, laidKinds := [.data, .data, .data, .data, .sentinel, .sentinel, .pinned], laidTests := true, laidLooks := .later }
def FnExactReadHeightsUptoCardSaid : Prop := Claim7.holds Tryd.pinned (.plain (OpenSpec.upto fnExactReadHeightsSpec)) fnExactReadHeightsUptoCard
end Rows
end Go.Proofs.YtoincpeodnmfmaaDoor
