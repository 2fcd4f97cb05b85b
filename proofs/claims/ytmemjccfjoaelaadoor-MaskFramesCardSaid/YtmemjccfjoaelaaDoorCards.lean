/-
  DERIVED. GIVEN WITH THE SEED: THE CARDS: each row of YtmemjccfjoaelaaDoorRows.lean that lists a variable, with what it lists TIED to the program's text (the seventh form; the later family's looks); each row that meets fmt, with fmt's text TOLD by the authors' own Lean function (tested against real Go, not proved from fmt's source: count such statements apart). THE CARD IS WHAT COUNTS. Prove the row's statement (the work); the ties are given (YtmemjccfjoaelaaDoorTie.lean); close each card by the builder's one call (the guide's Derived/Test/ToyasCard.lean, 'card_holds'). Laid BY PROGRAM, IN A SANDBOX (cutbox-door.mjs). By AI agents, Wed Nov 11 2026. No macro, syntax, notation, axiom, sorry.
-/
import Derived.Test.YtmemjccfjoaelaaDoorRows
import GoSem.ClaimSeven
namespace Go.Proofs.YtmemjccfjoaelaaDoor
namespace Rows

/-- THE TIED CARD OF 'postmarklaw08.MaskFrames'. -/
def maskFramesCard : Claim7 := { stood := { row := maskFramesRow, standIns := [], harness := (true, "a09d015ef554dda297df88e3e6da4f76e471eb45e9e04f55a6587ec521869240"), looks := false }, kinds := [], alts := [], laidByText := true, laidKinds := [.data], laidTests := true, laidLooks := .later }
def MaskFramesCardSaid : Prop := Claim7.holds Tryd.pinned (.plain (OpenSpec.ofChange maskFramesSpec)) maskFramesCard

/-- THE SECOND FORM's CARD OF 'postmarklaw08.MaskFrames'. -/
def maskFramesUptoCard : Claim7 := { stood := { row := maskFramesUptoRow, standIns := [], harness := (true, "a09d015ef554dda297df88e3e6da4f76e471eb45e9e04f55a6587ec521869240"), looks := false }, kinds := [], alts := [], laidByText := true, laidKinds := [.data], laidTests := true, laidLooks := .later }
def MaskFramesUptoCardSaid : Prop := Claim7.holds Tryd.pinned (.plain (OpenSpec.upto maskFramesSpec)) maskFramesUptoCard
end Rows
end Go.Proofs.YtmemjccfjoaelaaDoor
