/-
  No cell of these rows narrows 'for every input' (looked for: loops, veiled, ifaces, maps, wideKeys, modest, calm, conditions, laid).
  DERIVED. THE GIVEN ROWS OF THIS SEAT. 6 by the template 'for every input the law returns true; each argument reads behind the call as it read before'; 0 by the template 'total and deterministic' (their statements: YtkihmghnnnkmmaaTotals.lean).
  GIVEN WITH THE SEED: the statements are not yours to turn. If you find one false, say at which input.
  Laid BY PROGRAM, IN A SANDBOX (cutbox-rows.mjs): the forced cells as the released guide's own fill.sh prints them over the translation 55b0ecd09e85e7ec… (all of the seat's roots in one cut). By AI agents, Wed Nov 11 2026. No macro, syntax, notation, axiom, sorry.
-/
import Derived.Test.YtkihmghnnnkmmaaChecked
import GoSem.Claim
import GoSem.ClaimJoined
import GoSem.ClaimMapViews
import Derived.JoinedTies
import Derived.KernelRfl
namespace Go.Proofs.Ytkihmghnnnkmmaa
/- THE CELL 'sum', in the pinned program and in every row, IS THE sha256 OF THE DUMP (.gsa) THAT YtkihmghnnnkmmaaProg.lean LOADS. Nothing in Lean hashes anything: it is a label: what it is worth is what the hold of that sum in a sandbox is worth. -/
noncomputable def Try.pinned : Pinned := { name := "ytkihmghnnnkmmaa", sum := "55b0ecd09e85e7ecacfd714554d269e828dff021dbed9d848159e5d037b1f600", checked := Try.checked }
namespace Rows
def none {H : Type} : Left H := { results := [], args := [] }

/-- 'postmarklaw03.PrimesAll': WHATEVER THE INPUT: true; the input reads as it did. -/
def primesAllSpec : ChangeSpec := { name := "primesAll", fn := fun _ => fun
  | [d] => { results := [.lit (.bool true)], args := [d] }
  | _ => none }
def primesAllRow : OpenClaim := { program := "ytkihmghnnnkmmaa", sum := "55b0ecd09e85e7ecacfd714554d269e828dff021dbed9d848159e5d037b1f600", func := "postmark/postmarklaw03.PrimesAll", spec := "primesAll", unfollowed := true, recurses := true, apart := false }
def PrimesAllSaid : Prop := primesAllRow.holds Try.pinned (OpenSpec.ofChange primesAllSpec)

/-- ITS FALSE NEIGHBOUR: 'it returns false'. Refute it at one input. -/
def primesAllWrong : ChangeSpec := { name := "primesAll", fn := fun _ => fun
  | [d] => { results := [.lit (.bool false)], args := [d] }
  | _ => none }
def PrimesAllWrongFalsely : Prop := primesAllRow.holds Try.pinned (OpenSpec.ofChange primesAllWrong)

/-- 'postmarklaw03.PrimesWithin': WHATEVER THE INPUT: true; the input reads as it did. -/
def primesWithinSpec : ChangeSpec := { name := "primesWithin", fn := fun _ => fun
  | [d1, d2] => { results := [.lit (.bool true)], args := [d1, d2] }
  | _ => none }
def primesWithinRow : OpenClaim := { program := "ytkihmghnnnkmmaa", sum := "55b0ecd09e85e7ecacfd714554d269e828dff021dbed9d848159e5d037b1f600", func := "postmark/postmarklaw03.PrimesWithin", spec := "primesWithin", unfollowed := true, recurses := true, apart := false }
def PrimesWithinSaid : Prop := primesWithinRow.holds Try.pinned (OpenSpec.ofChange primesWithinSpec)

/-- ITS FALSE NEIGHBOUR: 'it returns false'. Refute it at one input. -/
def primesWithinWrong : ChangeSpec := { name := "primesWithin", fn := fun _ => fun
  | [d1, d2] => { results := [.lit (.bool false)], args := [d1, d2] }
  | _ => none }
def PrimesWithinWrongFalsely : Prop := primesWithinRow.holds Try.pinned (OpenSpec.ofChange primesWithinWrong)

/-- 'postmarklaw03.PrimesFewer': WHATEVER THE INPUT: true; the input reads as it did. -/
def primesFewerSpec : ChangeSpec := { name := "primesFewer", fn := fun _ => fun
  | [d1, d2, d3, d4] => { results := [.lit (.bool true)], args := [d1, d2, d3, d4] }
  | _ => none }
def primesFewerRow : OpenClaim := { program := "ytkihmghnnnkmmaa", sum := "55b0ecd09e85e7ecacfd714554d269e828dff021dbed9d848159e5d037b1f600", func := "postmark/postmarklaw03.PrimesFewer", spec := "primesFewer", unfollowed := true, recurses := true, apart := false }
def PrimesFewerSaid : Prop := primesFewerRow.holds Try.pinned (OpenSpec.ofChange primesFewerSpec)

/-- ITS FALSE NEIGHBOUR: 'it returns false'. Refute it at one input. -/
def primesFewerWrong : ChangeSpec := { name := "primesFewer", fn := fun _ => fun
  | [d1, d2, d3, d4] => { results := [.lit (.bool false)], args := [d1, d2, d3, d4] }
  | _ => none }
def PrimesFewerWrongFalsely : Prop := primesFewerRow.holds Try.pinned (OpenSpec.ofChange primesFewerWrong)

/-- 'postmarklaw03.PrimesRises': WHATEVER THE INPUT: true; the input reads as it did. -/
def primesRisesSpec : ChangeSpec := { name := "primesRises", fn := fun _ => fun
  | [d1, d2, d3] => { results := [.lit (.bool true)], args := [d1, d2, d3] }
  | _ => none }
def primesRisesRow : OpenClaim := { program := "ytkihmghnnnkmmaa", sum := "55b0ecd09e85e7ecacfd714554d269e828dff021dbed9d848159e5d037b1f600", func := "postmark/postmarklaw03.PrimesRises", spec := "primesRises", unfollowed := true, recurses := true, apart := false }
def PrimesRisesSaid : Prop := primesRisesRow.holds Try.pinned (OpenSpec.ofChange primesRisesSpec)

/-- ITS FALSE NEIGHBOUR: 'it returns false'. Refute it at one input. -/
def primesRisesWrong : ChangeSpec := { name := "primesRises", fn := fun _ => fun
  | [d1, d2, d3] => { results := [.lit (.bool false)], args := [d1, d2, d3] }
  | _ => none }
def PrimesRisesWrongFalsely : Prop := primesRisesRow.holds Try.pinned (OpenSpec.ofChange primesRisesWrong)

/-- 'postmarklaw03.PrimesTells': WHATEVER THE INPUT: true; the input reads as it did. -/
def primesTellsSpec : ChangeSpec := { name := "primesTells", fn := fun _ => fun
  | [d1, d2, d3, d4] => { results := [.lit (.bool true)], args := [d1, d2, d3, d4] }
  | _ => none }
def primesTellsRow : OpenClaim := { program := "ytkihmghnnnkmmaa", sum := "55b0ecd09e85e7ecacfd714554d269e828dff021dbed9d848159e5d037b1f600", func := "postmark/postmarklaw03.PrimesTells", spec := "primesTells", unfollowed := true, recurses := true, apart := false }
def PrimesTellsSaid : Prop := primesTellsRow.holds Try.pinned (OpenSpec.ofChange primesTellsSpec)

/-- ITS FALSE NEIGHBOUR: 'it returns false'. Refute it at one input. -/
def primesTellsWrong : ChangeSpec := { name := "primesTells", fn := fun _ => fun
  | [d1, d2, d3, d4] => { results := [.lit (.bool false)], args := [d1, d2, d3, d4] }
  | _ => none }
def PrimesTellsWrongFalsely : Prop := primesTellsRow.holds Try.pinned (OpenSpec.ofChange primesTellsWrong)

/-- 'postmarklaw03.PrimesNames': WHATEVER THE INPUT: true; the input reads as it did. -/
def primesNamesSpec : ChangeSpec := { name := "primesNames", fn := fun _ => fun
  | [] => { results := [.lit (.bool true)], args := [] }
  | _ => none }
def primesNamesRow : OpenClaim := { program := "ytkihmghnnnkmmaa", sum := "55b0ecd09e85e7ecacfd714554d269e828dff021dbed9d848159e5d037b1f600", func := "postmark/postmarklaw03.PrimesNames", spec := "primesNames", unfollowed := true, recurses := true, apart := false }
def PrimesNamesSaid : Prop := primesNamesRow.holds Try.pinned (OpenSpec.ofChange primesNamesSpec)

/-- ITS FALSE NEIGHBOUR: 'it returns false'. Refute it at one input. -/
def primesNamesWrong : ChangeSpec := { name := "primesNames", fn := fun _ => fun
  | [] => { results := [.lit (.bool false)], args := [] }
  | _ => none }
def PrimesNamesWrongFalsely : Prop := primesNamesRow.holds Try.pinned (OpenSpec.ofChange primesNamesWrong)

/- THE SECOND FORM. 'bulk': how many values and letters a reading holds, each counted each time it is reached (what is shared counts as often as it is met; a slice's spare places count too). A statement '..UptoSaid' is the law's where the arguments, and the package variables that the reading takes, are together of bulk at most 1048576: NARROWER than '..Said'. Prove '..Said' where nothing that the law and all that it calls make is longer than what came in: it says more and counts as full. Else prove '..UptoSaid'. A law counts once. -/
mutual
def uptoBulk {H : Type} : DataW H → Nat
  | .lit (.string bytes) => bytes.length + 1
  | .lit _ => 1
  | .nil => 1
  | .ptr d => uptoBulk d + 1
  | .slice elems spare => uptoBulkAll elems + uptoBulkAll spare + 1
  | .agg parts => uptoBulkAll parts + 1
  | .iface _ d => uptoBulk d + 1
  | .map entries => uptoBulkEntries entries + 1
  | .held _ => 1
def uptoBulkAll {H : Type} : List (DataW H) → Nat
  | [] => 0
  | d :: r => uptoBulk d + uptoBulkAll r
def uptoBulkEntries {H : Type} : List (Lit × DataW H) → Nat
  | [] => 0
  | x :: r => uptoBulkEntry x + uptoBulkEntries r
def uptoBulkEntry {H : Type} : Lit × DataW H → Nat
  | (.string bytes, d) => bytes.length + uptoBulk d + 1
  | (_, d) => uptoBulk d + 1
 end
def uptoSmall : (H : Type) → List (DataW H) → Bool := fun _ ds => decide (uptoBulkAll ds ≤ 1048576)
def OpenSpec.upto (s : _root_.Go.ChangeSpec) : _root_.Go.OpenSpec := { _root_.Go.OpenSpec.ofChange s with cond := some uptoSmall }

/-- 'postmarklaw03.PrimesAll', WHERE WHAT IT READS IS OF BULK AT MOST 1048576: true; the input reads as it did. -/
def primesAllUptoRow : OpenClaim := { program := "ytkihmghnnnkmmaa", sum := "55b0ecd09e85e7ecacfd714554d269e828dff021dbed9d848159e5d037b1f600", func := "postmark/postmarklaw03.PrimesAll", spec := "primesAll", unfollowed := true, recurses := true, apart := false, narrowed := true }
def PrimesAllUptoSaid : Prop := primesAllUptoRow.holds Try.pinned (OpenSpec.upto primesAllSpec)

/-- 'postmarklaw03.PrimesWithin', WHERE WHAT IT READS IS OF BULK AT MOST 1048576: true; the input reads as it did. -/
def primesWithinUptoRow : OpenClaim := { program := "ytkihmghnnnkmmaa", sum := "55b0ecd09e85e7ecacfd714554d269e828dff021dbed9d848159e5d037b1f600", func := "postmark/postmarklaw03.PrimesWithin", spec := "primesWithin", unfollowed := true, recurses := true, apart := false, narrowed := true }
def PrimesWithinUptoSaid : Prop := primesWithinUptoRow.holds Try.pinned (OpenSpec.upto primesWithinSpec)

/-- 'postmarklaw03.PrimesFewer', WHERE WHAT IT READS IS OF BULK AT MOST 1048576: true; the input reads as it did. -/
def primesFewerUptoRow : OpenClaim := { program := "ytkihmghnnnkmmaa", sum := "55b0ecd09e85e7ecacfd714554d269e828dff021dbed9d848159e5d037b1f600", func := "postmark/postmarklaw03.PrimesFewer", spec := "primesFewer", unfollowed := true, recurses := true, apart := false, narrowed := true }
def PrimesFewerUptoSaid : Prop := primesFewerUptoRow.holds Try.pinned (OpenSpec.upto primesFewerSpec)

/-- 'postmarklaw03.PrimesRises', WHERE WHAT IT READS IS OF BULK AT MOST 1048576: true; the input reads as it did. -/
def primesRisesUptoRow : OpenClaim := { program := "ytkihmghnnnkmmaa", sum := "55b0ecd09e85e7ecacfd714554d269e828dff021dbed9d848159e5d037b1f600", func := "postmark/postmarklaw03.PrimesRises", spec := "primesRises", unfollowed := true, recurses := true, apart := false, narrowed := true }
def PrimesRisesUptoSaid : Prop := primesRisesUptoRow.holds Try.pinned (OpenSpec.upto primesRisesSpec)

/-- 'postmarklaw03.PrimesTells', WHERE WHAT IT READS IS OF BULK AT MOST 1048576: true; the input reads as it did. -/
def primesTellsUptoRow : OpenClaim := { program := "ytkihmghnnnkmmaa", sum := "55b0ecd09e85e7ecacfd714554d269e828dff021dbed9d848159e5d037b1f600", func := "postmark/postmarklaw03.PrimesTells", spec := "primesTells", unfollowed := true, recurses := true, apart := false, narrowed := true }
def PrimesTellsUptoSaid : Prop := primesTellsUptoRow.holds Try.pinned (OpenSpec.upto primesTellsSpec)

/-- 'postmarklaw03.PrimesNames', WHERE WHAT IT READS IS OF BULK AT MOST 1048576: true; the input reads as it did. -/
def primesNamesUptoRow : OpenClaim := { program := "ytkihmghnnnkmmaa", sum := "55b0ecd09e85e7ecacfd714554d269e828dff021dbed9d848159e5d037b1f600", func := "postmark/postmarklaw03.PrimesNames", spec := "primesNames", unfollowed := true, recurses := true, apart := false, narrowed := true }
def PrimesNamesUptoSaid : Prop := primesNamesUptoRow.holds Try.pinned (OpenSpec.upto primesNamesSpec)

end Rows
end Go.Proofs.Ytkihmghnnnkmmaa
