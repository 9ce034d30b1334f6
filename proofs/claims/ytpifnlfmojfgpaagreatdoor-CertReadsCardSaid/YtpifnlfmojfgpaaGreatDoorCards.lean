/-
  DERIVED. GIVEN WITH THE SEED: THE CARDS: each row of YtpifnlfmojfgpaaGreatDoorRows.lean that lists a variable, with what it lists TIED to the program's text (the seventh form; the later family's looks); each row that meets fmt, with fmt's text TOLD by the authors' own Lean function (tested against real Go, not proved from fmt's source: count such statements apart). THE CARD IS WHAT COUNTS. Prove the row's statement (the work); the ties are given (YtpifnlfmojfgpaaGreatDoorTie.lean); close each card by the builder's one call (the guide's Derived/Test/ToyasCard.lean, 'card_holds'). Laid BY PROGRAM, IN A SANDBOX (cutbox-door.mjs). By AI agents, Wed Nov 11 2026. No macro, syntax, notation, axiom, sorry.
-/
import Derived.Test.YtpifnlfmojfgpaaGreatDoorRows
import GoSem.ClaimSeven
namespace Go.Proofs.YtpifnlfmojfgpaaGreatDoor
namespace Rows

/-- THE TIED CARD OF 'cayleylaw28.CertTexts'. -/
def certTextsCard : Claim7 := { stood := { row := certTextsRow, standIns := [], harness := (true, "41935f2a8f80c712b22d8598a14dffaf330d77c0951397ea3e90b6540cef2ed5"), looks := true }, kinds := [], alts := [], laidByText := true, laidKinds := [.data, .data, .data, .data, .sentinel, .sentinel, .data, .pinned], laidTests := true, laidLooks := .later }
def CertTextsCardSaid : Prop := Claim7.holds Tryz.pinned (.plain (OpenSpec.ofChange certTextsSpec)) certTextsCard

/-- THE TIED CARD OF 'cayleylaw28.CertReads'. -/
def certReadsCard : Claim7 := { stood := { row := certReadsRow, standIns := [], harness := (true, "41935f2a8f80c712b22d8598a14dffaf330d77c0951397ea3e90b6540cef2ed5"), looks := true }, kinds := [], alts := [], laidByText := true, laidKinds := [.data, .data, .data, .data, .sentinel, .sentinel, .data, .pinned], laidTests := true, laidLooks := .later }
def CertReadsCardSaid : Prop := Claim7.holds Tryz.pinned (.plain (OpenSpec.ofChange certReadsSpec)) certReadsCard

/-- THE SECOND FORM's CARD OF 'cayleylaw28.CertTexts'. -/
def certTextsUptoCard : Claim7 := { stood := { row := certTextsUptoRow, standIns := [], harness := (true, "41935f2a8f80c712b22d8598a14dffaf330d77c0951397ea3e90b6540cef2ed5"), looks := true }, kinds := [], alts := [], laidByText := true, laidKinds := [.data, .data, .data, .data, .sentinel, .sentinel, .data, .pinned], laidTests := true, laidLooks := .later }
def CertTextsUptoCardSaid : Prop := Claim7.holds Tryz.pinned (.plain (OpenSpec.upto certTextsSpec)) certTextsUptoCard

/-- THE SECOND FORM's CARD OF 'cayleylaw28.CertReads'. -/
def certReadsUptoCard : Claim7 := { stood := { row := certReadsUptoRow, standIns := [], harness := (true, "41935f2a8f80c712b22d8598a14dffaf330d77c0951397ea3e90b6540cef2ed5"), looks := true }, kinds := [], alts := [], laidByText := true, laidKinds := [.data, .data, .data, .data, .sentinel, .sentinel, .data, .pinned], laidTests := true, laidLooks := .later }
def CertReadsUptoCardSaid : Prop := Claim7.holds Tryz.pinned (.plain (OpenSpec.upto certReadsSpec)) certReadsUptoCard
end Rows
end Go.Proofs.YtpifnlfmojfgpaaGreatDoor
