/-
  DERIVED. GIVEN WITH THE SEED: THE CARDS: each row of YtbgapcmdigcejaaDoorRows.lean that lists a variable, with what it lists TIED to the program's text (the seventh form; the later family's looks); each row that meets fmt, with fmt's text TOLD by the authors' own Lean function (tested against real Go, not proved from fmt's source: count such statements apart). THE CARD IS WHAT COUNTS. Prove the row's statement (the work); the ties are given (YtbgapcmdigcejaaDoorTie.lean); close each card by the builder's one call (the guide's Derived/Test/ToyasCard.lean, 'card_holds'). Laid BY PROGRAM, IN A SANDBOX (cutbox-door.mjs). By AI agents, Wed Nov 11 2026. No macro, syntax, notation, axiom, sorry.
-/
import Derived.Test.YtbgapcmdigcejaaDoorRows
import GoSem.ClaimSeven
namespace Go.Proofs.YtbgapcmdigcejaaDoor
namespace Rows

/-- THE TIED CARD OF 'laws.FnExactMovesText'. -/
def fnExactMovesTextCard : Claim7 := { stood := { row := fnExactMovesTextRow, standIns := [], harness := (true, "c282beee0cd974deb2104b036eed8c2ecd3458d2cdd266a8d0abb58fcff3af18"), looks := false }, kinds := [], alts := [], laidByText := true, laidKinds := [.data, .data, .data], laidTests := true, laidLooks := .later }
def FnExactMovesTextCardSaid : Prop := Claim7.holds Tryd.pinned (.plain (OpenSpec.ofChange fnExactMovesTextSpec)) fnExactMovesTextCard

/-- THE TIED CARD OF 'laws.FnExactHeightsText'. -/
def fnExactHeightsTextCard : Claim7 := { stood := { row := fnExactHeightsTextRow, standIns := [], harness := (true, "c282beee0cd974deb2104b036eed8c2ecd3458d2cdd266a8d0abb58fcff3af18"), looks := false }, kinds := [], alts := [], laidByText := true, laidKinds := [.data, .data, .data], laidTests := true, laidLooks := .later }
def FnExactHeightsTextCardSaid : Prop := Claim7.holds Tryd.pinned (.plain (OpenSpec.ofChange fnExactHeightsTextSpec)) fnExactHeightsTextCard

/-- THE SECOND FORM's CARD OF 'laws.FnExactMovesText'. -/
def fnExactMovesTextUptoCard : Claim7 := { stood := { row := fnExactMovesTextUptoRow, standIns := [], harness := (true, "c282beee0cd974deb2104b036eed8c2ecd3458d2cdd266a8d0abb58fcff3af18"), looks := false }, kinds := [], alts := [], laidByText := true, laidKinds := [.data, .data, .data], laidTests := true, laidLooks := .later }
def FnExactMovesTextUptoCardSaid : Prop := Claim7.holds Tryd.pinned (.plain (OpenSpec.upto fnExactMovesTextSpec)) fnExactMovesTextUptoCard

/-- THE SECOND FORM's CARD OF 'laws.FnExactHeightsText'. -/
def fnExactHeightsTextUptoCard : Claim7 := { stood := { row := fnExactHeightsTextUptoRow, standIns := [], harness := (true, "c282beee0cd974deb2104b036eed8c2ecd3458d2cdd266a8d0abb58fcff3af18"), looks := false }, kinds := [], alts := [], laidByText := true, laidKinds := [.data, .data, .data], laidTests := true, laidLooks := .later }
def FnExactHeightsTextUptoCardSaid : Prop := Claim7.holds Tryd.pinned (.plain (OpenSpec.upto fnExactHeightsTextSpec)) fnExactHeightsTextUptoCard
end Rows
end Go.Proofs.YtbgapcmdigcejaaDoor
