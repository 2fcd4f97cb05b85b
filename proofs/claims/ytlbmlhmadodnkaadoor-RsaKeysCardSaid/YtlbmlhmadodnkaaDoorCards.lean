/-
  DERIVED. GIVEN WITH THE SEED: THE CARDS: each row of YtlbmlhmadodnkaaDoorRows.lean that lists a variable, with what it lists TIED to the program's text (the seventh form; the later family's looks); each row that meets fmt, with fmt's text TOLD by the authors' own Lean function (tested against real Go, not proved from fmt's source: count such statements apart). THE CARD IS WHAT COUNTS. Prove the row's statement (the work); the ties are given (YtlbmlhmadodnkaaDoorTie.lean); close each card by the builder's one call (the guide's Derived/Test/ToyasCard.lean, 'card_holds'). Laid BY PROGRAM, IN A SANDBOX (cutbox-door.mjs). By AI agents, Wed Nov 11 2026. No macro, syntax, notation, axiom, sorry.
-/
import Derived.Test.YtlbmlhmadodnkaaDoorRows
import GoSem.ClaimSeven
namespace Go.Proofs.YtlbmlhmadodnkaaDoor
namespace Rows

/-- THE TIED CARD OF 'postmarklaw10.RsaKeys'. -/
def rsaKeysCard : Claim7 := { stood := { row := rsaKeysRow, standIns := [], harness := (true, "c9d83b96b3c3ee78cf969a24dd32130ce7f9c792a5935e4393d4a5921f6c87ca"), looks := false }, kinds := [], alts := [], laidByText := true, laidKinds := [.data], laidTests := true, laidLooks := .later }
def RsaKeysCardSaid : Prop := Claim7.holds Tryd.pinned (.plain (OpenSpec.ofChange rsaKeysSpec)) rsaKeysCard

/-- THE SECOND FORM's CARD OF 'postmarklaw10.RsaKeys'. -/
def rsaKeysUptoCard : Claim7 := { stood := { row := rsaKeysUptoRow, standIns := [], harness := (true, "c9d83b96b3c3ee78cf969a24dd32130ce7f9c792a5935e4393d4a5921f6c87ca"), looks := false }, kinds := [], alts := [], laidByText := true, laidKinds := [.data], laidTests := true, laidLooks := .later }
def RsaKeysUptoCardSaid : Prop := Claim7.holds Tryd.pinned (.plain (OpenSpec.upto rsaKeysSpec)) rsaKeysUptoCard
end Rows
end Go.Proofs.YtlbmlhmadodnkaaDoor
