/- The row's closed facts, limb by limb (what the call reaches: 2). -/
import Derived.Test.YtpifnlfmojfgpaaGreatDoorRows
import Derived.Test.YtpifnlfmojfgpaaGreatDoorChecked
import Derived.JoinedOf
import Derived.SevenTiedAt
import Derived.KernelRfl
set_option linter.unusedVariables false
set_option maxRecDepth 100000
namespace Go.Proofs.YtpifnlfmojfgpaaGreatDoor.Facts
theorem recurses : (Rows.certReadsRow.recurses == Tryz.prog.recurses 4) = true := by kernel_rfl
theorem named : (Rows.certReadsRow.named == Tryz.prog.varsNamed 4) = true := by kernel_rfl
end Go.Proofs.YtpifnlfmojfgpaaGreatDoor.Facts
