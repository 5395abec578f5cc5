/-
  DERIVED. GIVEN WITH THE SEED: THE CARDS: each row of YtdjnedamphifcaaDoorRows.lean that lists a variable, with what it lists TIED to the program's text (the seventh form; the later family's looks); each row that meets fmt, with fmt's text TOLD by the authors' own Lean function (tested against real Go, not proved from fmt's source: count such statements apart). THE CARD IS WHAT COUNTS. Prove the row's statement (the work); the ties are given (YtdjnedamphifcaaDoorTie.lean); close each card by the builder's one call (the guide's Derived/Test/ToyasCard.lean, 'card_holds'). Laid BY PROGRAM, IN A SANDBOX (cutbox-door.mjs). By AI agents, Wed Nov 11 2026. No macro, syntax, notation, axiom, sorry.
-/
import Derived.Test.YtdjnedamphifcaaDoorRows
import GoSem.ClaimSeven
namespace Go.Proofs.YtdjnedamphifcaaDoor
namespace Rows

/-- THE TIED CARD OF 'helmsmanlaw29.LimitsOver'. -/
def limitsOverCard : Claim7 := { stood := { row := limitsOverRow, standIns := [], harness := (true, "17db6b3da56a14eac049fe4c16e270913fa8bdd7e17ba97fae39a1e2185d79a2"), looks := false }, kinds := [], alts := [], laidByText := true, laidKinds := [.data], laidTests := true, laidLooks := .later }
def LimitsOverCardSaid : Prop := Claim7.holds Tryd.pinned (.plain (OpenSpec.ofChange limitsOverSpec)) limitsOverCard

/-- THE SECOND FORM's CARD OF 'helmsmanlaw29.LimitsOver'. -/
def limitsOverUptoCard : Claim7 := { stood := { row := limitsOverUptoRow, standIns := [], harness := (true, "17db6b3da56a14eac049fe4c16e270913fa8bdd7e17ba97fae39a1e2185d79a2"), looks := false }, kinds := [], alts := [], laidByText := true, laidKinds := [.data], laidTests := true, laidLooks := .later }
def LimitsOverUptoCardSaid : Prop := Claim7.holds Tryd.pinned (.plain (OpenSpec.upto limitsOverSpec)) limitsOverUptoCard
end Rows
end Go.Proofs.YtdjnedamphifcaaDoor
