/-
  DERIVED. GIVEN WITH THE SEED: THE CARDS: each row of YtaojafimbbbpaaaGreatDoorRows.lean that lists a variable, with what it lists TIED to the program's text (the seventh form; the later family's looks); each row that meets fmt, with fmt's text TOLD by the authors' own Lean function (tested against real Go, not proved from fmt's source: count such statements apart). THE CARD IS WHAT COUNTS. Prove the row's statement (the work); the ties are given (YtaojafimbbbpaaaGreatDoorTie.lean); close each card by the builder's one call (the guide's Derived/Test/ToyasCard.lean, 'card_holds'). Laid BY PROGRAM, IN A SANDBOX (cutbox-door.mjs). By AI agents, Wed Nov 11 2026. No macro, syntax, notation, axiom, sorry.
-/
import Derived.Test.YtaojafimbbbpaaaGreatDoorRows
import GoSem.ClaimSeven
namespace Go.Proofs.YtaojafimbbbpaaaGreatDoor
namespace Rows

/-- THE TIED CARD OF 'postmarklaw10.RsaRaises'. -/
def rsaRaisesCard : Claim7 := { stood := { row := rsaRaisesRow, standIns := [], harness := (true, "48f71e1178988a28f301130de122bc6ebad03efb54185c1d508f554ec9c9f024"), looks := false }, kinds := [], alts := [], laidByText := true, laidKinds := [.data, .pinned], laidTests := true, laidLooks := .later }
def RsaRaisesCardSaid : Prop := Claim7.holds Tryz.pinned (.plain (OpenSpec.ofChange rsaRaisesSpec)) rsaRaisesCard

/-- THE SECOND FORM's CARD OF 'postmarklaw10.RsaRaises'. -/
def rsaRaisesUptoCard : Claim7 := { stood := { row := rsaRaisesUptoRow, standIns := [], harness := (true, "48f71e1178988a28f301130de122bc6ebad03efb54185c1d508f554ec9c9f024"), looks := false }, kinds := [], alts := [], laidByText := true, laidKinds := [.data, .pinned], laidTests := true, laidLooks := .later }
def RsaRaisesUptoCardSaid : Prop := Claim7.holds Tryz.pinned (.plain (OpenSpec.upto rsaRaisesSpec)) rsaRaisesUptoCard
end Rows
end Go.Proofs.YtaojafimbbbpaaaGreatDoor
