/-
  DERIVED. GIVEN WITH THE SEED: THE CARDS: each row of YtffdjfkekdoeaaaDoorRows.lean that lists a variable, with what it lists TIED to the program's text (the seventh form; the later family's looks); each row that meets fmt, with fmt's text TOLD by the authors' own Lean function (tested against real Go, not proved from fmt's source: count such statements apart). THE CARD IS WHAT COUNTS. Prove the row's statement (the work); the ties are given (YtffdjfkekdoeaaaDoorTie.lean); close each card by the builder's one call (the guide's Derived/Test/ToyasCard.lean, 'card_holds'). Laid BY PROGRAM, IN A SANDBOX (cutbox-door.mjs). By AI agents, Wed Nov 11 2026. No macro, syntax, notation, axiom, sorry.
-/
import Derived.Test.YtffdjfkekdoeaaaDoorRows
import GoSem.ClaimSeven
namespace Go.Proofs.YtffdjfkekdoeaaaDoor
namespace Rows

/-- THE TIED CARD OF 'cayleylaw21.FoldFinds'. -/
def foldFindsCard : Claim7 := { stood := { row := foldFindsRow, standIns := [], harness := (true, "6275fec1c285a859f68862c336f6450fa18062025a5123521a2ad90d883d0b78"), looks := true }, kinds := [], alts := [], laidByText := true, laidKinds := [.data], laidTests := true, laidLooks := .later }
def FoldFindsCardSaid : Prop := Claim7.holds Tryd.pinned (.plain (OpenSpec.ofChange foldFindsSpec)) foldFindsCard

/-- THE TIED CARD OF 'cayleylaw21.FoldNielsen'. -/
def foldNielsenCard : Claim7 := { stood := { row := foldNielsenRow, standIns := [], harness := (true, "6275fec1c285a859f68862c336f6450fa18062025a5123521a2ad90d883d0b78"), looks := true }, kinds := [], alts := [], laidByText := true, laidKinds := [.data], laidTests := true, laidLooks := .later }
def FoldNielsenCardSaid : Prop := Claim7.holds Tryd.pinned (.plain (OpenSpec.ofChange foldNielsenSpec)) foldNielsenCard

/-- THE TIED CARD OF 'cayleylaw21.FoldMembers'. -/
def foldMembersCard : Claim7 := { stood := { row := foldMembersRow, standIns := [], harness := (true, "6275fec1c285a859f68862c336f6450fa18062025a5123521a2ad90d883d0b78"), looks := true }, kinds := [], alts := [], laidByText := true, laidKinds := [.data], laidTests := true, laidLooks := .later }
def FoldMembersCardSaid : Prop := Claim7.holds Tryd.pinned (.plain (OpenSpec.ofChange foldMembersSpec)) foldMembersCard

/-- THE TIED CARD OF 'cayleylaw21.FoldIndexes'. -/
def foldIndexesCard : Claim7 := { stood := { row := foldIndexesRow, standIns := [], harness := (true, "6275fec1c285a859f68862c336f6450fa18062025a5123521a2ad90d883d0b78"), looks := true }, kinds := [], alts := [], laidByText := true, laidKinds := [.data], laidTests := true, laidLooks := .later }
def FoldIndexesCardSaid : Prop := Claim7.holds Tryd.pinned (.plain (OpenSpec.ofChange foldIndexesSpec)) foldIndexesCard

/-- THE TIED CARD OF 'cayleylaw21.FoldChecks'. -/
def foldChecksCard : Claim7 := { stood := { row := foldChecksRow, standIns := [], harness := (true, "6275fec1c285a859f68862c336f6450fa18062025a5123521a2ad90d883d0b78"), looks := true }, kinds := [], alts := [], laidByText := true, laidKinds := [.data], laidTests := true, laidLooks := .later }
def FoldChecksCardSaid : Prop := Claim7.holds Tryd.pinned (.plain (OpenSpec.ofChange foldChecksSpec)) foldChecksCard

/-- THE TIED CARD OF 'cayleylaw21.FoldIntersects'. -/
def foldIntersectsCard : Claim7 := { stood := { row := foldIntersectsRow, standIns := [], harness := (true, "6275fec1c285a859f68862c336f6450fa18062025a5123521a2ad90d883d0b78"), looks := true }, kinds := [], alts := [], laidByText := true, laidKinds := [.data], laidTests := true, laidLooks := .later }
def FoldIntersectsCardSaid : Prop := Claim7.holds Tryd.pinned (.plain (OpenSpec.ofChange foldIntersectsSpec)) foldIntersectsCard

/-- THE TIED CARD OF 'cayleylaw21.FoldConjugates'. -/
def foldConjugatesCard : Claim7 := { stood := { row := foldConjugatesRow, standIns := [], harness := (true, "6275fec1c285a859f68862c336f6450fa18062025a5123521a2ad90d883d0b78"), looks := true }, kinds := [], alts := [], laidByText := true, laidKinds := [.data], laidTests := true, laidLooks := .later }
def FoldConjugatesCardSaid : Prop := Claim7.holds Tryd.pinned (.plain (OpenSpec.ofChange foldConjugatesSpec)) foldConjugatesCard

/-- THE TIED CARD OF 'cayleylaw21.FoldStays'. -/
def foldStaysCard : Claim7 := { stood := { row := foldStaysRow, standIns := [], harness := (true, "6275fec1c285a859f68862c336f6450fa18062025a5123521a2ad90d883d0b78"), looks := true }, kinds := [], alts := [], laidByText := true, laidKinds := [.data], laidTests := true, laidLooks := .later }
def FoldStaysCardSaid : Prop := Claim7.holds Tryd.pinned (.plain (OpenSpec.ofChange foldStaysSpec)) foldStaysCard

/-- THE SECOND FORM's CARD OF 'cayleylaw21.FoldFinds'. -/
def foldFindsUptoCard : Claim7 := { stood := { row := foldFindsUptoRow, standIns := [], harness := (true, "6275fec1c285a859f68862c336f6450fa18062025a5123521a2ad90d883d0b78"), looks := true }, kinds := [], alts := [], laidByText := true, laidKinds := [.data], laidTests := true, laidLooks := .later }
def FoldFindsUptoCardSaid : Prop := Claim7.holds Tryd.pinned (.plain (OpenSpec.upto foldFindsSpec)) foldFindsUptoCard

/-- THE SECOND FORM's CARD OF 'cayleylaw21.FoldNielsen'. -/
def foldNielsenUptoCard : Claim7 := { stood := { row := foldNielsenUptoRow, standIns := [], harness := (true, "6275fec1c285a859f68862c336f6450fa18062025a5123521a2ad90d883d0b78"), looks := true }, kinds := [], alts := [], laidByText := true, laidKinds := [.data], laidTests := true, laidLooks := .later }
def FoldNielsenUptoCardSaid : Prop := Claim7.holds Tryd.pinned (.plain (OpenSpec.upto foldNielsenSpec)) foldNielsenUptoCard

/-- THE SECOND FORM's CARD OF 'cayleylaw21.FoldMembers'. -/
def foldMembersUptoCard : Claim7 := { stood := { row := foldMembersUptoRow, standIns := [], harness := (true, "6275fec1c285a859f68862c336f6450fa18062025a5123521a2ad90d883d0b78"), looks := true }, kinds := [], alts := [], laidByText := true, laidKinds := [.data], laidTests := true, laidLooks := .later }
def FoldMembersUptoCardSaid : Prop := Claim7.holds Tryd.pinned (.plain (OpenSpec.upto foldMembersSpec)) foldMembersUptoCard

/-- THE SECOND FORM's CARD OF 'cayleylaw21.FoldIndexes'. -/
def foldIndexesUptoCard : Claim7 := { stood := { row := foldIndexesUptoRow, standIns := [], harness := (true, "6275fec1c285a859f68862c336f6450fa18062025a5123521a2ad90d883d0b78"), looks := true }, kinds := [], alts := [], laidByText := true, laidKinds := [.data], laidTests := true, laidLooks := .later }
def FoldIndexesUptoCardSaid : Prop := Claim7.holds Tryd.pinned (.plain (OpenSpec.upto foldIndexesSpec)) foldIndexesUptoCard

/-- THE SECOND FORM's CARD OF 'cayleylaw21.FoldChecks'. -/
def foldChecksUptoCard : Claim7 := { stood := { row := foldChecksUptoRow, standIns := [], harness := (true, "6275fec1c285a859f68862c336f6450fa18062025a5123521a2ad90d883d0b78"), looks := true }, kinds := [], alts := [], laidByText := true, laidKinds := [.data], laidTests := true, laidLooks := .later }
def FoldChecksUptoCardSaid : Prop := Claim7.holds Tryd.pinned (.plain (OpenSpec.upto foldChecksSpec)) foldChecksUptoCard

/-- THE SECOND FORM's CARD OF 'cayleylaw21.FoldIntersects'. -/
def foldIntersectsUptoCard : Claim7 := { stood := { row := foldIntersectsUptoRow, standIns := [], harness := (true, "6275fec1c285a859f68862c336f6450fa18062025a5123521a2ad90d883d0b78"), looks := true }, kinds := [], alts := [], laidByText := true, laidKinds := [.data], laidTests := true, laidLooks := .later }
def FoldIntersectsUptoCardSaid : Prop := Claim7.holds Tryd.pinned (.plain (OpenSpec.upto foldIntersectsSpec)) foldIntersectsUptoCard

/-- THE SECOND FORM's CARD OF 'cayleylaw21.FoldConjugates'. -/
def foldConjugatesUptoCard : Claim7 := { stood := { row := foldConjugatesUptoRow, standIns := [], harness := (true, "6275fec1c285a859f68862c336f6450fa18062025a5123521a2ad90d883d0b78"), looks := true }, kinds := [], alts := [], laidByText := true, laidKinds := [.data], laidTests := true, laidLooks := .later }
def FoldConjugatesUptoCardSaid : Prop := Claim7.holds Tryd.pinned (.plain (OpenSpec.upto foldConjugatesSpec)) foldConjugatesUptoCard

/-- THE SECOND FORM's CARD OF 'cayleylaw21.FoldStays'. -/
def foldStaysUptoCard : Claim7 := { stood := { row := foldStaysUptoRow, standIns := [], harness := (true, "6275fec1c285a859f68862c336f6450fa18062025a5123521a2ad90d883d0b78"), looks := true }, kinds := [], alts := [], laidByText := true, laidKinds := [.data], laidTests := true, laidLooks := .later }
def FoldStaysUptoCardSaid : Prop := Claim7.holds Tryd.pinned (.plain (OpenSpec.upto foldStaysSpec)) foldStaysUptoCard
end Rows
end Go.Proofs.YtffdjfkekdoeaaaDoor
