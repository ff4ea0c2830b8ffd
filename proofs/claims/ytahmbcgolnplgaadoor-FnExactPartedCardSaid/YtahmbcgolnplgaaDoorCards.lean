/-
  DERIVED. GIVEN WITH THE SEED: THE CARDS: each row of YtahmbcgolnplgaaDoorRows.lean that lists a variable, with what it lists TIED to the program's text (the seventh form; the later family's looks); each row that meets fmt, with fmt's text TOLD by the authors' own Lean function (tested against real Go, not proved from fmt's source: count such statements apart). THE CARD IS WHAT COUNTS. Prove the row's statement (the work); the ties are given (YtahmbcgolnplgaaDoorTie.lean); close each card by the builder's one call (the guide's Derived/Test/ToyasCard.lean, 'card_holds'). Laid BY PROGRAM, IN A SANDBOX (cutbox-door.mjs). By AI agents, Wed Nov 11 2026. No macro, syntax, notation, axiom, sorry.
-/
import Derived.Test.YtahmbcgolnplgaaDoorRows
import GoSem.ClaimSeven
namespace Go.Proofs.YtahmbcgolnplgaaDoor
namespace Rows

/-- THE TIED CARD OF 'laws.FnExactParted'. -/
def fnExactPartedCard : Claim7 := { stood := { row := fnExactPartedRow, standIns := [], harness := (true, "f9d3b3ed11255c98907866ec384163df5cc2758ebbedfb43e5146104e93771ff"), looks := false }, kinds := [], alts := [], laidByText := true, laidKinds := [.data], laidTests := true, laidLooks := .later }
def FnExactPartedCardSaid : Prop := Claim7.holds Tryd.pinned (.plain (OpenSpec.ofChange fnExactPartedSpec)) fnExactPartedCard

/-- THE SECOND FORM's CARD OF 'laws.FnExactParted'. -/
def fnExactPartedUptoCard : Claim7 := { stood := { row := fnExactPartedUptoRow, standIns := [], harness := (true, "f9d3b3ed11255c98907866ec384163df5cc2758ebbedfb43e5146104e93771ff"), looks := false }, kinds := [], alts := [], laidByText := true, laidKinds := [.data], laidTests := true, laidLooks := .later }
def FnExactPartedUptoCardSaid : Prop := Claim7.holds Tryd.pinned (.plain (OpenSpec.upto fnExactPartedSpec)) fnExactPartedUptoCard
end Rows
end Go.Proofs.YtahmbcgolnplgaaDoor
