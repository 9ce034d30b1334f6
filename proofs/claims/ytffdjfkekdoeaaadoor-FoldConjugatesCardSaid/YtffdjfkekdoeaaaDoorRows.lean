/-
  NARROWER THAN 'FOR EVERY INPUT', by the rows' own cells (each row's printed sentence says how): FoldFinds: laid · FoldNielsen: laid · FoldMembers: laid · FoldIndexes: laid · FoldChecks: laid · FoldIntersects: laid · FoldConjugates: laid · FoldStays: laid.
  DERIVED. THE GIVEN ROWS OF THIS SEAT. 8 by the template 'for every input the law returns true; each argument reads behind the call as it read before'; 0 by the template 'total and deterministic' (their statements: YtffdjfkekdoeaaaDoorTotals.lean).
  GIVEN WITH THE SEED: the statements are not yours to turn. If you find one false, say at which input.
  Laid BY PROGRAM, IN A SANDBOX (cutbox-rows.mjs): the forced cells as the released guide's own fill.sh prints them over the translation 0f787dc05034b985… (all of the seat's roots in one cut). By AI agents, Wed Nov 11 2026. No macro, syntax, notation, axiom, sorry.
-/
import Derived.Test.YtffdjfkekdoeaaaDoorChecked
import GoSem.Claim
import GoSem.ClaimJoined
import GoSem.ClaimMapViews
import Derived.JoinedTies
import Derived.KernelRfl
namespace Go.Proofs.YtffdjfkekdoeaaaDoor
/- THE CELL 'sum', in the pinned program and in every row, IS THE sha256 OF THE DUMP (.gsa) THAT YtffdjfkekdoeaaaDoorProg.lean LOADS. Nothing in Lean hashes anything: it is a label: what it is worth is what the hold of that sum in a sandbox is worth. -/
noncomputable def Tryd.pinned : Pinned := { name := "ytffdjfkekdoeaaadoor", sum := "0f787dc05034b9858bb6d6873bde8a56b19503fd0e9a8190655c9a17735d3d71", checked := Tryd.checked }
namespace Rows
def none {H : Type} : Left H := { results := [], args := [] }

/- WHAT THE LISTED PACKAGE-LEVEL VARIABLES READ AS WHEN THE CALL BEGINS. Each datum BY PROGRAM (the guide's laid-datum.mjs) off the statement by which the dump's own 'gosem.cut.vars' lays the variable. In a bare row this is a premise. The card (YtffdjfkekdoeaaaDoorCards.lean) ties it to the program's text. -/
def laid_cayley_word_letters {H : Type} : DataW H := .agg [.lit (.int .u8 97), .lit (.int .u8 65), .lit (.int .u8 98), .lit (.int .u8 66), .lit (.int .u8 99), .lit (.int .u8 67), .lit (.int .u8 100), .lit (.int .u8 68), .lit (.int .u8 101), .lit (.int .u8 69), .lit (.int .u8 102), .lit (.int .u8 70), .lit (.int .u8 103), .lit (.int .u8 71), .lit (.int .u8 104), .lit (.int .u8 72)]

/-- 'cayleylaw21.FoldFinds': WHATEVER THE INPUT: true; the input reads as it did. -/
def foldFindsSpec : ChangeSpec := { name := "foldFinds", fn := fun _ => fun
  | [d1, d2] => { results := [.lit (.bool true)], args := [d1, d2] }
  | _ => none }
def foldFindsRow : OpenClaim := { program := "ytffdjfkekdoeaaadoor", sum := "0f787dc05034b9858bb6d6873bde8a56b19503fd0e9a8190655c9a17735d3d71", func := "cayley/cayleylaw21.FoldFinds", spec := "foldFinds", unfollowed := true, recurses := true, named := ["cayley/word.letters"], plainKeys := false, apart := false, laid := [("cayley/word.letters", laid_cayley_word_letters)] }
def FoldFindsSaid : Prop := foldFindsRow.holds Tryd.pinned (OpenSpec.ofChange foldFindsSpec)

/-- ITS FALSE NEIGHBOUR: 'it returns false'. Refute it at one input. -/
def foldFindsWrong : ChangeSpec := { name := "foldFinds", fn := fun _ => fun
  | [d1, d2] => { results := [.lit (.bool false)], args := [d1, d2] }
  | _ => none }
def FoldFindsWrongFalsely : Prop := foldFindsRow.holds Tryd.pinned (OpenSpec.ofChange foldFindsWrong)

/-- 'cayleylaw21.FoldNielsen': WHATEVER THE INPUT: true; the input reads as it did. -/
def foldNielsenSpec : ChangeSpec := { name := "foldNielsen", fn := fun _ => fun
  | [d1, d2, d3, d4, d5] => { results := [.lit (.bool true)], args := [d1, d2, d3, d4, d5] }
  | _ => none }
def foldNielsenRow : OpenClaim := { program := "ytffdjfkekdoeaaadoor", sum := "0f787dc05034b9858bb6d6873bde8a56b19503fd0e9a8190655c9a17735d3d71", func := "cayley/cayleylaw21.FoldNielsen", spec := "foldNielsen", unfollowed := true, recurses := true, named := ["cayley/word.letters"], plainKeys := false, apart := false, laid := [("cayley/word.letters", laid_cayley_word_letters)] }
def FoldNielsenSaid : Prop := foldNielsenRow.holds Tryd.pinned (OpenSpec.ofChange foldNielsenSpec)

/-- ITS FALSE NEIGHBOUR: 'it returns false'. Refute it at one input. -/
def foldNielsenWrong : ChangeSpec := { name := "foldNielsen", fn := fun _ => fun
  | [d1, d2, d3, d4, d5] => { results := [.lit (.bool false)], args := [d1, d2, d3, d4, d5] }
  | _ => none }
def FoldNielsenWrongFalsely : Prop := foldNielsenRow.holds Tryd.pinned (OpenSpec.ofChange foldNielsenWrong)

/-- 'cayleylaw21.FoldMembers': WHATEVER THE INPUT: true; the input reads as it did. -/
def foldMembersSpec : ChangeSpec := { name := "foldMembers", fn := fun _ => fun
  | [d1, d2, d3, d4] => { results := [.lit (.bool true)], args := [d1, d2, d3, d4] }
  | _ => none }
def foldMembersRow : OpenClaim := { program := "ytffdjfkekdoeaaadoor", sum := "0f787dc05034b9858bb6d6873bde8a56b19503fd0e9a8190655c9a17735d3d71", func := "cayley/cayleylaw21.FoldMembers", spec := "foldMembers", unfollowed := true, recurses := true, named := ["cayley/word.letters"], plainKeys := false, apart := false, laid := [("cayley/word.letters", laid_cayley_word_letters)] }
def FoldMembersSaid : Prop := foldMembersRow.holds Tryd.pinned (OpenSpec.ofChange foldMembersSpec)

/-- ITS FALSE NEIGHBOUR: 'it returns false'. Refute it at one input. -/
def foldMembersWrong : ChangeSpec := { name := "foldMembers", fn := fun _ => fun
  | [d1, d2, d3, d4] => { results := [.lit (.bool false)], args := [d1, d2, d3, d4] }
  | _ => none }
def FoldMembersWrongFalsely : Prop := foldMembersRow.holds Tryd.pinned (OpenSpec.ofChange foldMembersWrong)

/-- 'cayleylaw21.FoldIndexes': WHATEVER THE INPUT: true; the input reads as it did. -/
def foldIndexesSpec : ChangeSpec := { name := "foldIndexes", fn := fun _ => fun
  | [d1, d2] => { results := [.lit (.bool true)], args := [d1, d2] }
  | _ => none }
def foldIndexesRow : OpenClaim := { program := "ytffdjfkekdoeaaadoor", sum := "0f787dc05034b9858bb6d6873bde8a56b19503fd0e9a8190655c9a17735d3d71", func := "cayley/cayleylaw21.FoldIndexes", spec := "foldIndexes", unfollowed := true, recurses := true, named := ["cayley/word.letters"], plainKeys := false, apart := false, laid := [("cayley/word.letters", laid_cayley_word_letters)] }
def FoldIndexesSaid : Prop := foldIndexesRow.holds Tryd.pinned (OpenSpec.ofChange foldIndexesSpec)

/-- ITS FALSE NEIGHBOUR: 'it returns false'. Refute it at one input. -/
def foldIndexesWrong : ChangeSpec := { name := "foldIndexes", fn := fun _ => fun
  | [d1, d2] => { results := [.lit (.bool false)], args := [d1, d2] }
  | _ => none }
def FoldIndexesWrongFalsely : Prop := foldIndexesRow.holds Tryd.pinned (OpenSpec.ofChange foldIndexesWrong)

/-- 'cayleylaw21.FoldChecks': WHATEVER THE INPUT: true; the input reads as it did. -/
def foldChecksSpec : ChangeSpec := { name := "foldChecks", fn := fun _ => fun
  | [d1, d2, d3] => { results := [.lit (.bool true)], args := [d1, d2, d3] }
  | _ => none }
def foldChecksRow : OpenClaim := { program := "ytffdjfkekdoeaaadoor", sum := "0f787dc05034b9858bb6d6873bde8a56b19503fd0e9a8190655c9a17735d3d71", func := "cayley/cayleylaw21.FoldChecks", spec := "foldChecks", unfollowed := true, recurses := true, named := ["cayley/word.letters"], plainKeys := false, apart := false, laid := [("cayley/word.letters", laid_cayley_word_letters)] }
def FoldChecksSaid : Prop := foldChecksRow.holds Tryd.pinned (OpenSpec.ofChange foldChecksSpec)

/-- ITS FALSE NEIGHBOUR: 'it returns false'. Refute it at one input. -/
def foldChecksWrong : ChangeSpec := { name := "foldChecks", fn := fun _ => fun
  | [d1, d2, d3] => { results := [.lit (.bool false)], args := [d1, d2, d3] }
  | _ => none }
def FoldChecksWrongFalsely : Prop := foldChecksRow.holds Tryd.pinned (OpenSpec.ofChange foldChecksWrong)

/-- 'cayleylaw21.FoldIntersects': WHATEVER THE INPUT: true; the input reads as it did. -/
def foldIntersectsSpec : ChangeSpec := { name := "foldIntersects", fn := fun _ => fun
  | [d1, d2, d3, d4] => { results := [.lit (.bool true)], args := [d1, d2, d3, d4] }
  | _ => none }
def foldIntersectsRow : OpenClaim := { program := "ytffdjfkekdoeaaadoor", sum := "0f787dc05034b9858bb6d6873bde8a56b19503fd0e9a8190655c9a17735d3d71", func := "cayley/cayleylaw21.FoldIntersects", spec := "foldIntersects", unfollowed := true, recurses := true, named := ["cayley/word.letters"], plainKeys := false, apart := false, laid := [("cayley/word.letters", laid_cayley_word_letters)] }
def FoldIntersectsSaid : Prop := foldIntersectsRow.holds Tryd.pinned (OpenSpec.ofChange foldIntersectsSpec)

/-- ITS FALSE NEIGHBOUR: 'it returns false'. Refute it at one input. -/
def foldIntersectsWrong : ChangeSpec := { name := "foldIntersects", fn := fun _ => fun
  | [d1, d2, d3, d4] => { results := [.lit (.bool false)], args := [d1, d2, d3, d4] }
  | _ => none }
def FoldIntersectsWrongFalsely : Prop := foldIntersectsRow.holds Tryd.pinned (OpenSpec.ofChange foldIntersectsWrong)

/-- 'cayleylaw21.FoldConjugates': WHATEVER THE INPUT: true; the input reads as it did. -/
def foldConjugatesSpec : ChangeSpec := { name := "foldConjugates", fn := fun _ => fun
  | [d1, d2, d3, d4] => { results := [.lit (.bool true)], args := [d1, d2, d3, d4] }
  | _ => none }
def foldConjugatesRow : OpenClaim := { program := "ytffdjfkekdoeaaadoor", sum := "0f787dc05034b9858bb6d6873bde8a56b19503fd0e9a8190655c9a17735d3d71", func := "cayley/cayleylaw21.FoldConjugates", spec := "foldConjugates", unfollowed := true, recurses := true, named := ["cayley/word.letters"], plainKeys := false, apart := false, laid := [("cayley/word.letters", laid_cayley_word_letters)] }
def FoldConjugatesSaid : Prop := foldConjugatesRow.holds Tryd.pinned (OpenSpec.ofChange foldConjugatesSpec)

/-- ITS FALSE NEIGHBOUR: 'it returns false'. Refute it at one input. -/
def foldConjugatesWrong : ChangeSpec := { name := "foldConjugates", fn := fun _ => fun
  | [d1, d2, d3, d4] => { results := [.lit (.bool false)], args := [d1, d2, d3, d4] }
  | _ => none }
def FoldConjugatesWrongFalsely : Prop := foldConjugatesRow.holds Tryd.pinned (OpenSpec.ofChange foldConjugatesWrong)

/-- 'cayleylaw21.FoldStays': WHATEVER THE INPUT: true; the input reads as it did. -/
def foldStaysSpec : ChangeSpec := { name := "foldStays", fn := fun _ => fun
  | [d1, d2, d3, d4, d5] => { results := [.lit (.bool true)], args := [d1, d2, d3, d4, d5] }
  | _ => none }
def foldStaysRow : OpenClaim := { program := "ytffdjfkekdoeaaadoor", sum := "0f787dc05034b9858bb6d6873bde8a56b19503fd0e9a8190655c9a17735d3d71", func := "cayley/cayleylaw21.FoldStays", spec := "foldStays", unfollowed := true, recurses := true, named := ["cayley/word.letters"], plainKeys := false, apart := false, laid := [("cayley/word.letters", laid_cayley_word_letters)] }
def FoldStaysSaid : Prop := foldStaysRow.holds Tryd.pinned (OpenSpec.ofChange foldStaysSpec)

/-- ITS FALSE NEIGHBOUR: 'it returns false'. Refute it at one input. -/
def foldStaysWrong : ChangeSpec := { name := "foldStays", fn := fun _ => fun
  | [d1, d2, d3, d4, d5] => { results := [.lit (.bool false)], args := [d1, d2, d3, d4, d5] }
  | _ => none }
def FoldStaysWrongFalsely : Prop := foldStaysRow.holds Tryd.pinned (OpenSpec.ofChange foldStaysWrong)

/- THE SECOND FORM. 'bulk': how many values and letters a reading holds, each counted each time it is reached (what is shared counts as often as it is met; a slice's spare places count too). A statement '..UptoSaid' is the law's where the arguments, and the package variables that the reading takes, are together of bulk at most 1048576: NARROWER than '..Said'. Prove '..Said' where nothing that the law and all that it calls make is longer than what came in: it says more and counts as full. Else prove '..UptoSaid'. A law counts once. -/
mutual
def uptoBulk {H : Type} : DataW H → Nat
  | .lit (.string bytes) => bytes.length + 1
  | .lit _ => 1
  | .nil => 1
  | .ptr d => uptoBulk d + 1
  | .slice elems spare => uptoBulkAll elems + uptoBulkAll spare + 1
  | .agg parts => uptoBulkAll parts + 1
  | .iface _ d => uptoBulk d + 1
  | .map entries => uptoBulkEntries entries + 1
  | .held _ => 1
def uptoBulkAll {H : Type} : List (DataW H) → Nat
  | [] => 0
  | d :: r => uptoBulk d + uptoBulkAll r
def uptoBulkEntries {H : Type} : List (Lit × DataW H) → Nat
  | [] => 0
  | x :: r => uptoBulkEntry x + uptoBulkEntries r
def uptoBulkEntry {H : Type} : Lit × DataW H → Nat
  | (.string bytes, d) => bytes.length + uptoBulk d + 1
  | (_, d) => uptoBulk d + 1
 end
def uptoSmall : (H : Type) → List (DataW H) → Bool := fun _ ds => decide (uptoBulkAll ds ≤ 1048576)
def OpenSpec.upto (s : _root_.Go.ChangeSpec) : _root_.Go.OpenSpec := { _root_.Go.OpenSpec.ofChange s with cond := some uptoSmall }

/-- 'cayleylaw21.FoldFinds', WHERE WHAT IT READS IS OF BULK AT MOST 1048576: true; the input reads as it did. -/
def foldFindsUptoRow : OpenClaim := { program := "ytffdjfkekdoeaaadoor", sum := "0f787dc05034b9858bb6d6873bde8a56b19503fd0e9a8190655c9a17735d3d71", func := "cayley/cayleylaw21.FoldFinds", spec := "foldFinds", unfollowed := true, recurses := true, named := ["cayley/word.letters"], plainKeys := false, apart := false, laid := [("cayley/word.letters", laid_cayley_word_letters)], narrowed := true }
def FoldFindsUptoSaid : Prop := foldFindsUptoRow.holds Tryd.pinned (OpenSpec.upto foldFindsSpec)

/-- 'cayleylaw21.FoldNielsen', WHERE WHAT IT READS IS OF BULK AT MOST 1048576: true; the input reads as it did. -/
def foldNielsenUptoRow : OpenClaim := { program := "ytffdjfkekdoeaaadoor", sum := "0f787dc05034b9858bb6d6873bde8a56b19503fd0e9a8190655c9a17735d3d71", func := "cayley/cayleylaw21.FoldNielsen", spec := "foldNielsen", unfollowed := true, recurses := true, named := ["cayley/word.letters"], plainKeys := false, apart := false, laid := [("cayley/word.letters", laid_cayley_word_letters)], narrowed := true }
def FoldNielsenUptoSaid : Prop := foldNielsenUptoRow.holds Tryd.pinned (OpenSpec.upto foldNielsenSpec)

/-- 'cayleylaw21.FoldMembers', WHERE WHAT IT READS IS OF BULK AT MOST 1048576: true; the input reads as it did. -/
def foldMembersUptoRow : OpenClaim := { program := "ytffdjfkekdoeaaadoor", sum := "0f787dc05034b9858bb6d6873bde8a56b19503fd0e9a8190655c9a17735d3d71", func := "cayley/cayleylaw21.FoldMembers", spec := "foldMembers", unfollowed := true, recurses := true, named := ["cayley/word.letters"], plainKeys := false, apart := false, laid := [("cayley/word.letters", laid_cayley_word_letters)], narrowed := true }
def FoldMembersUptoSaid : Prop := foldMembersUptoRow.holds Tryd.pinned (OpenSpec.upto foldMembersSpec)

/-- 'cayleylaw21.FoldIndexes', WHERE WHAT IT READS IS OF BULK AT MOST 1048576: true; the input reads as it did. -/
def foldIndexesUptoRow : OpenClaim := { program := "ytffdjfkekdoeaaadoor", sum := "0f787dc05034b9858bb6d6873bde8a56b19503fd0e9a8190655c9a17735d3d71", func := "cayley/cayleylaw21.FoldIndexes", spec := "foldIndexes", unfollowed := true, recurses := true, named := ["cayley/word.letters"], plainKeys := false, apart := false, laid := [("cayley/word.letters", laid_cayley_word_letters)], narrowed := true }
def FoldIndexesUptoSaid : Prop := foldIndexesUptoRow.holds Tryd.pinned (OpenSpec.upto foldIndexesSpec)

/-- 'cayleylaw21.FoldChecks', WHERE WHAT IT READS IS OF BULK AT MOST 1048576: true; the input reads as it did. -/
def foldChecksUptoRow : OpenClaim := { program := "ytffdjfkekdoeaaadoor", sum := "0f787dc05034b9858bb6d6873bde8a56b19503fd0e9a8190655c9a17735d3d71", func := "cayley/cayleylaw21.FoldChecks", spec := "foldChecks", unfollowed := true, recurses := true, named := ["cayley/word.letters"], plainKeys := false, apart := false, laid := [("cayley/word.letters", laid_cayley_word_letters)], narrowed := true }
def FoldChecksUptoSaid : Prop := foldChecksUptoRow.holds Tryd.pinned (OpenSpec.upto foldChecksSpec)

/-- 'cayleylaw21.FoldIntersects', WHERE WHAT IT READS IS OF BULK AT MOST 1048576: true; the input reads as it did. -/
def foldIntersectsUptoRow : OpenClaim := { program := "ytffdjfkekdoeaaadoor", sum := "0f787dc05034b9858bb6d6873bde8a56b19503fd0e9a8190655c9a17735d3d71", func := "cayley/cayleylaw21.FoldIntersects", spec := "foldIntersects", unfollowed := true, recurses := true, named := ["cayley/word.letters"], plainKeys := false, apart := false, laid := [("cayley/word.letters", laid_cayley_word_letters)], narrowed := true }
def FoldIntersectsUptoSaid : Prop := foldIntersectsUptoRow.holds Tryd.pinned (OpenSpec.upto foldIntersectsSpec)

/-- 'cayleylaw21.FoldConjugates', WHERE WHAT IT READS IS OF BULK AT MOST 1048576: true; the input reads as it did. -/
def foldConjugatesUptoRow : OpenClaim := { program := "ytffdjfkekdoeaaadoor", sum := "0f787dc05034b9858bb6d6873bde8a56b19503fd0e9a8190655c9a17735d3d71", func := "cayley/cayleylaw21.FoldConjugates", spec := "foldConjugates", unfollowed := true, recurses := true, named := ["cayley/word.letters"], plainKeys := false, apart := false, laid := [("cayley/word.letters", laid_cayley_word_letters)], narrowed := true }
def FoldConjugatesUptoSaid : Prop := foldConjugatesUptoRow.holds Tryd.pinned (OpenSpec.upto foldConjugatesSpec)

/-- 'cayleylaw21.FoldStays', WHERE WHAT IT READS IS OF BULK AT MOST 1048576: true; the input reads as it did. -/
def foldStaysUptoRow : OpenClaim := { program := "ytffdjfkekdoeaaadoor", sum := "0f787dc05034b9858bb6d6873bde8a56b19503fd0e9a8190655c9a17735d3d71", func := "cayley/cayleylaw21.FoldStays", spec := "foldStays", unfollowed := true, recurses := true, named := ["cayley/word.letters"], plainKeys := false, apart := false, laid := [("cayley/word.letters", laid_cayley_word_letters)], narrowed := true }
def FoldStaysUptoSaid : Prop := foldStaysUptoRow.holds Tryd.pinned (OpenSpec.upto foldStaysSpec)

end Rows
end Go.Proofs.YtffdjfkekdoeaaaDoor
