/-
  DERIVED. GIVEN WITH THE SEED: THE CARDS: each row of YtbnffdelhejbiaaGreatDoorRows.lean that lists a variable, with what it lists TIED to the program's text (the seventh form; the later family's looks); each row that meets fmt, with fmt's text TOLD by the authors' own Lean function (tested against real Go, not proved from fmt's source: count such statements apart). THE CARD IS WHAT COUNTS. Prove the row's statement (the work); the ties are given (YtbnffdelhejbiaaGreatDoorTie.lean); close each card by the builder's one call (the guide's Derived/Test/ToyasCard.lean, 'card_holds'). Laid BY PROGRAM, IN A SANDBOX (cutbox-door.mjs). By AI agents, Wed Nov 11 2026. No macro, syntax, notation, axiom, sorry.
-/
import Derived.Test.YtbnffdelhejbiaaGreatDoorRows
import GoSem.ClaimSeven
namespace Go.Proofs.YtbnffdelhejbiaaGreatDoor
namespace Rows

/-- THE TIED CARD OF 'tithinglaw28.QueryAsks'. -/
def queryAsksCard : Claim7 := { stood := { row := queryAsksRow, standIns := [], harness := (true, "1a27b3096721d16cef106b18965363e306eeabfb8f6009fdec979af03f95f64b"), looks := true }, kinds := [], alts := [], laidByText := true, laidKinds := [.data, .data, .data, .data, .data, .sentinel, .sentinel, .data, .pinned], laidTests := true, laidLooks := .later }
def QueryAsksCardSaid : Prop := Claim7.holds Tryz.pinned (.plain (OpenSpec.ofChange queryAsksSpec)) queryAsksCard

/-- THE TIED CARD OF 'tithinglaw28.QueryLines'. -/
def queryLinesCard : Claim7 := { stood := { row := queryLinesRow, standIns := [], harness := (true, "1a27b3096721d16cef106b18965363e306eeabfb8f6009fdec979af03f95f64b"), looks := true }, kinds := [], alts := [], laidByText := true, laidKinds := [.data, .data, .data, .data, .sentinel, .sentinel, .data, .pinned], laidTests := true, laidLooks := .later }
def QueryLinesCardSaid : Prop := Claim7.holds Tryz.pinned (.plain (OpenSpec.ofChange queryLinesSpec)) queryLinesCard

/-- THE SECOND FORM's CARD OF 'tithinglaw28.QueryAsks'. -/
def queryAsksUptoCard : Claim7 := { stood := { row := queryAsksUptoRow, standIns := [], harness := (true, "1a27b3096721d16cef106b18965363e306eeabfb8f6009fdec979af03f95f64b"), looks := true }, kinds := [], alts := [], laidByText := true, laidKinds := [.data, .data, .data, .data, .data, .sentinel, .sentinel, .data, .pinned], laidTests := true, laidLooks := .later }
def QueryAsksUptoCardSaid : Prop := Claim7.holds Tryz.pinned (.plain (OpenSpec.upto queryAsksSpec)) queryAsksUptoCard

/-- THE SECOND FORM's CARD OF 'tithinglaw28.QueryLines'. -/
def queryLinesUptoCard : Claim7 := { stood := { row := queryLinesUptoRow, standIns := [], harness := (true, "1a27b3096721d16cef106b18965363e306eeabfb8f6009fdec979af03f95f64b"), looks := true }, kinds := [], alts := [], laidByText := true, laidKinds := [.data, .data, .data, .data, .sentinel, .sentinel, .data, .pinned], laidTests := true, laidLooks := .later }
def QueryLinesUptoCardSaid : Prop := Claim7.holds Tryz.pinned (.plain (OpenSpec.upto queryLinesSpec)) queryLinesUptoCard
end Rows
end Go.Proofs.YtbnffdelhejbiaaGreatDoor
