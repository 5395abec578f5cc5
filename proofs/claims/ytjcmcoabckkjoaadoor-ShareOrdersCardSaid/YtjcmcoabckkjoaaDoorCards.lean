/-
  DERIVED. GIVEN WITH THE SEED: THE CARDS: each row of YtjcmcoabckkjoaaDoorRows.lean that lists a variable, with what it lists TIED to the program's text (the seventh form; the later family's looks); each row that meets fmt, with fmt's text TOLD by the authors' own Lean function (tested against real Go, not proved from fmt's source: count such statements apart). THE CARD IS WHAT COUNTS. Prove the row's statement (the work); the ties are given (YtjcmcoabckkjoaaDoorTie.lean); close each card by the builder's one call (the guide's Derived/Test/ToyasCard.lean, 'card_holds'). Laid BY PROGRAM, IN A SANDBOX (cutbox-door.mjs). By AI agents, Wed Nov 11 2026. No macro, syntax, notation, axiom, sorry.
-/
import Derived.Test.YtjcmcoabckkjoaaDoorRows
import GoSem.ClaimSeven
namespace Go.Proofs.YtjcmcoabckkjoaaDoor
namespace Rows

/-- THE TIED CARD OF 'helmsmanlaw31.ShareSums'. -/
def shareSumsCard : Claim7 := { stood := { row := shareSumsRow, standIns := [], harness := (true, "2229701458b995ba0a1e8c2518dc7656afce2897b4d1df7d4cda38509585e017"), looks := true }, kinds := [], alts := [], laidByText := true, laidKinds := [.data, .data, .data], laidTests := true, laidLooks := .later }
def ShareSumsCardSaid : Prop := Claim7.holds Tryd.pinned (.plain (OpenSpec.ofChange shareSumsSpec)) shareSumsCard

/-- THE TIED CARD OF 'helmsmanlaw31.ShareOrders'. -/
def shareOrdersCard : Claim7 := { stood := { row := shareOrdersRow, standIns := [], harness := (true, "2229701458b995ba0a1e8c2518dc7656afce2897b4d1df7d4cda38509585e017"), looks := true }, kinds := [], alts := [], laidByText := true, laidKinds := [.data, .data, .data], laidTests := true, laidLooks := .later }
def ShareOrdersCardSaid : Prop := Claim7.holds Tryd.pinned (.plain (OpenSpec.ofChange shareOrdersSpec)) shareOrdersCard

/-- THE TIED CARD OF 'helmsmanlaw31.ShareLines'. -/
def shareLinesCard : Claim7 := { stood := { row := shareLinesRow, standIns := [], harness := (true, "2229701458b995ba0a1e8c2518dc7656afce2897b4d1df7d4cda38509585e017"), looks := true }, kinds := [], alts := [], laidByText := true, laidKinds := [.data, .data, .data], laidTests := true, laidLooks := .later }
def ShareLinesCardSaid : Prop := Claim7.holds Tryd.pinned (.plain (OpenSpec.ofChange shareLinesSpec)) shareLinesCard

/-- THE TIED CARD OF 'helmsmanlaw31.ShareTexts'. -/
def shareTextsCard : Claim7 := { stood := { row := shareTextsRow, standIns := [], harness := (true, "2229701458b995ba0a1e8c2518dc7656afce2897b4d1df7d4cda38509585e017"), looks := true }, kinds := [], alts := [], laidByText := true, laidKinds := [.data, .data, .data, .sentinel, .sentinel], laidTests := true, laidLooks := .later }
def ShareTextsCardSaid : Prop := Claim7.holds Tryd.pinned (.plain (OpenSpec.ofChange shareTextsSpec)) shareTextsCard

/-- THE TIED CARD OF 'helmsmanlaw31.ShareReads'. -/
def shareReadsCard : Claim7 := { stood := { row := shareReadsRow, standIns := [], harness := (true, "2229701458b995ba0a1e8c2518dc7656afce2897b4d1df7d4cda38509585e017"), looks := true }, kinds := [], alts := [], laidByText := true, laidKinds := [.data, .data, .data, .sentinel, .sentinel], laidTests := true, laidLooks := .later }
def ShareReadsCardSaid : Prop := Claim7.holds Tryd.pinned (.plain (OpenSpec.ofChange shareReadsSpec)) shareReadsCard

/-- THE SECOND FORM's CARD OF 'helmsmanlaw31.ShareSums'. -/
def shareSumsUptoCard : Claim7 := { stood := { row := shareSumsUptoRow, standIns := [], harness := (true, "2229701458b995ba0a1e8c2518dc7656afce2897b4d1df7d4cda38509585e017"), looks := true }, kinds := [], alts := [], laidByText := true, laidKinds := [.data, .data, .data], laidTests := true, laidLooks := .later }
def ShareSumsUptoCardSaid : Prop := Claim7.holds Tryd.pinned (.plain (OpenSpec.upto shareSumsSpec)) shareSumsUptoCard

/-- THE SECOND FORM's CARD OF 'helmsmanlaw31.ShareOrders'. -/
def shareOrdersUptoCard : Claim7 := { stood := { row := shareOrdersUptoRow, standIns := [], harness := (true, "2229701458b995ba0a1e8c2518dc7656afce2897b4d1df7d4cda38509585e017"), looks := true }, kinds := [], alts := [], laidByText := true, laidKinds := [.data, .data, .data], laidTests := true, laidLooks := .later }
def ShareOrdersUptoCardSaid : Prop := Claim7.holds Tryd.pinned (.plain (OpenSpec.upto shareOrdersSpec)) shareOrdersUptoCard

/-- THE SECOND FORM's CARD OF 'helmsmanlaw31.ShareLines'. -/
def shareLinesUptoCard : Claim7 := { stood := { row := shareLinesUptoRow, standIns := [], harness := (true, "2229701458b995ba0a1e8c2518dc7656afce2897b4d1df7d4cda38509585e017"), looks := true }, kinds := [], alts := [], laidByText := true, laidKinds := [.data, .data, .data], laidTests := true, laidLooks := .later }
def ShareLinesUptoCardSaid : Prop := Claim7.holds Tryd.pinned (.plain (OpenSpec.upto shareLinesSpec)) shareLinesUptoCard

/-- THE SECOND FORM's CARD OF 'helmsmanlaw31.ShareTexts'. -/
def shareTextsUptoCard : Claim7 := { stood := { row := shareTextsUptoRow, standIns := [], harness := (true, "2229701458b995ba0a1e8c2518dc7656afce2897b4d1df7d4cda38509585e017"), looks := true }, kinds := [], alts := [], laidByText := true, laidKinds := [.data, .data, .data, .sentinel, .sentinel], laidTests := true, laidLooks := .later }
def ShareTextsUptoCardSaid : Prop := Claim7.holds Tryd.pinned (.plain (OpenSpec.upto shareTextsSpec)) shareTextsUptoCard

/-- THE SECOND FORM's CARD OF 'helmsmanlaw31.ShareReads'. -/
def shareReadsUptoCard : Claim7 := { stood := { row := shareReadsUptoRow, standIns := [], harness := (true, "2229701458b995ba0a1e8c2518dc7656afce2897b4d1df7d4cda38509585e017"), looks := true }, kinds := [], alts := [], laidByText := true, laidKinds := [.data, .data, .data, .sentinel, .sentinel], laidTests := true, laidLooks := .later }
def ShareReadsUptoCardSaid : Prop := Claim7.holds Tryd.pinned (.plain (OpenSpec.upto shareReadsSpec)) shareReadsUptoCard
end Rows
end Go.Proofs.YtjcmcoabckkjoaaDoor
