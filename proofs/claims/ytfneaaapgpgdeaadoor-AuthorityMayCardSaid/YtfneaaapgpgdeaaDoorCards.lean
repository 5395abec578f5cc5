/-
  DERIVED. GIVEN WITH THE SEED: THE CARDS: each row of YtfneaaapgpgdeaaDoorRows.lean that lists a variable, with what it lists TIED to the program's text (the seventh form; the later family's looks); each row that meets fmt, with fmt's text TOLD by the authors' own Lean function (tested against real Go, not proved from fmt's source: count such statements apart). THE CARD IS WHAT COUNTS. Prove the row's statement (the work); the ties are given (YtfneaaapgpgdeaaDoorTie.lean); close each card by the builder's one call (the guide's Derived/Test/ToyasCard.lean, 'card_holds'). Laid BY PROGRAM, IN A SANDBOX (cutbox-door.mjs). By AI agents, Wed Nov 11 2026. No macro, syntax, notation, axiom, sorry.
-/
import Derived.Test.YtfneaaapgpgdeaaDoorRows
import GoSem.ClaimSeven
namespace Go.Proofs.YtfneaaapgpgdeaaDoor
namespace Rows

/-- THE TIED CARD OF 'helmsmanlaw28.AuthorityMay'. -/
def authorityMayCard : Claim7 := { stood := { row := authorityMayRow, standIns := [], harness := (true, "d675b3ef57d08727ddda02f030a66c78e29d3ee3957dd1ab0e518bed1bc857c7"), looks := false }, kinds := [], alts := [], laidByText := true, laidKinds := [.data, .data, .data], laidTests := true, laidLooks := .later }
def AuthorityMayCardSaid : Prop := Claim7.holds Tryd.pinned (.plain (OpenSpec.ofChange authorityMaySpec)) authorityMayCard

/-- THE SECOND FORM's CARD OF 'helmsmanlaw28.AuthorityMay'. -/
def authorityMayUptoCard : Claim7 := { stood := { row := authorityMayUptoRow, standIns := [], harness := (true, "d675b3ef57d08727ddda02f030a66c78e29d3ee3957dd1ab0e518bed1bc857c7"), looks := false }, kinds := [], alts := [], laidByText := true, laidKinds := [.data, .data, .data], laidTests := true, laidLooks := .later }
def AuthorityMayUptoCardSaid : Prop := Claim7.holds Tryd.pinned (.plain (OpenSpec.upto authorityMaySpec)) authorityMayUptoCard
end Rows
end Go.Proofs.YtfneaaapgpgdeaaDoor
