/- The row's closed facts, limb by limb (what the call reaches: 1). -/
import Derived.Test.YtpifnlfmojfgpaaGreatDoorRows
import Derived.Test.YtpifnlfmojfgpaaGreatDoorChecked
import Derived.JoinedOf
import Derived.SevenTiedAt
import Derived.KernelRfl
set_option linter.unusedVariables false
set_option maxRecDepth 100000
namespace Go.Proofs.YtpifnlfmojfgpaaGreatDoor.Facts
theorem inPlace : (Rows.certReadsRow.inPlace == Tryz.prog.inPlace 4) = true := by kernel_rfl
theorem unfollowed : (Rows.certReadsRow.unfollowed == Tryz.prog.unfollowed 4) = true := by kernel_rfl
end Go.Proofs.YtpifnlfmojfgpaaGreatDoor.Facts
