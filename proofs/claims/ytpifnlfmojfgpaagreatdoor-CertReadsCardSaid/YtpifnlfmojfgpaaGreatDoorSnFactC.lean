/- The row's closed facts, limb by limb (the others). -/
import Derived.Test.YtpifnlfmojfgpaaGreatDoorRows
import Derived.Test.YtpifnlfmojfgpaaGreatDoorChecked
import Derived.JoinedOf
import Derived.SevenTiedAt
import Derived.KernelRfl
set_option linter.unusedVariables false
set_option maxRecDepth 100000
namespace Go.Proofs.YtpifnlfmojfgpaaGreatDoor.Facts
theorem wf : Rows.certReadsRow.wf (OpenSpec.ofChange Rows.certReadsSpec) = true := by kernel_rfl
theorem laidOut : laidOutB Tryz.prog = true := by kernel_rfl
theorem mapsRowed : mapsRowed Tryz.prog = true := by kernel_rfl
theorem params : Tryz.f4.params.all (Tryz.prog.readableRec ·) = true := by kernel_rfl
theorem tied : namedTie Tryz.prog Rows.certReadsRow.named Rows.certReadsSpec.vars = true := by kernel_rfl
theorem cstops : (Rows.certReadsRow.stops == []) = true := by kernel_rfl
theorem pstops : (Tryz.prog.stops == []) = true := by kernel_rfl
theorem cknobs : (Rows.certReadsRow.knobs == []) = true := by kernel_rfl
theorem pknobs : (Tryz.prog.stopKnobs == []) = true := by kernel_rfl
theorem maps : (Rows.certReadsRow.maps == (Tryz.f4.params.toList ++ Rows.certReadsSpec.plain.varTypes Tryz.prog).any (Tryz.prog.mapsRec ·)) = true := by kernel_rfl
theorem ifaces : (Rows.certReadsRow.ifaces == (Tryz.f4.params.toList ++ Rows.certReadsSpec.plain.varTypes Tryz.prog).any (Tryz.prog.ifacesRec ·)) = true := by kernel_rfl
theorem mapsOut : (Rows.certReadsRow.mapsOut == Tryz.prog.mapsAmong Tryz.f4.resultTypes.toList) = true := by kernel_rfl
theorem loops : (Rows.certReadsRow.loops == (Tryz.f4.params.toList ++ Rows.certReadsSpec.plain.varTypes Tryz.prog).any (Tryz.prog.loopsFrom ·)) = true := by kernel_rfl
theorem wideKeys : (Rows.certReadsRow.wideKeys == (Tryz.f4.params.toList ++ Rows.certReadsSpec.plain.varTypes Tryz.prog ++ Tryz.f4.resultTypes.toList).any (Tryz.prog.wideKeysFrom ·)) = true := by kernel_rfl
theorem vars : Rows.certReadsSpec.vars.all (Tryz.prog.varReadable ·) = true := by kernel_rfl
theorem results : Tryz.f4.resultTypes.all (fun t => Tryz.prog.readableRec t && decide (t < Tryz.prog.types.size)) = true := by kernel_rfl
theorem ifacesOut : (Rows.certReadsRow.ifacesOut == Tryz.f4.resultTypes.toList.any (Tryz.prog.ifacesRec ·)) = true := by kernel_rfl
theorem loopsOut : (Rows.certReadsRow.loopsOut == Tryz.f4.resultTypes.toList.any (Tryz.prog.loopsFrom ·)) = true := by kernel_rfl
theorem plainKeys : (Rows.certReadsRow.plainKeys == Tryz.prog.plainKeys) = true := by kernel_rfl
theorem shortTexts : Rows.certReadsRow.shortTexts.isNone = true := by kernel_rfl
theorem stopsHeard : Tryz.prog.stopsHeard = true := by kernel_rfl
theorem mayEnter : Tryz.prog.mayEnter = true := by kernel_rfl
theorem lifted : (Rows.certReadsRow.lifted == Tryz.prog.liftsFinal) = true := by kernel_rfl
theorem make : (Tryz.prog.make == some Rows.certReadsRow.make) = true := by kernel_rfl
theorem kinds : (Rows.certReadsRow.kinds == (if Rows.certReadsRow.domain.isEmpty then [] else Tryz.f4.params.toList.map fun t => match Tryz.prog.underlying t with | some (.int k) => some k | _ => none)) = true := by kernel_rfl
theorem pinned : (Rows.certReadsRow.pinned == Rows.certReadsRow.pinnedBy) = true := by kernel_rfl
theorem veiled : (Rows.certReadsRow.veiled == (Tryz.f4.params.toList ++ Rows.certReadsSpec.plain.varTypes Tryz.prog ++ Tryz.f4.resultTypes.toList).any (Tryz.prog.veiledRec ·)) = true := by kernel_rfl
theorem veiledFits : Rows.certReadsRow.veiledFits Tryz.prog Tryz.f4.params.toList (Tryz.f4.params.toList ++ Rows.certReadsSpec.plain.varTypes Tryz.prog ++ Tryz.f4.resultTypes.toList) = true := by kernel_rfl
theorem byName : Tryz.prog.funcNamed Rows.certReadsRow.func = some 4 := by kernel_rfl
theorem inst : Tryz.f4.isInstance Tryz.prog Rows.certReadsRow.origin Rows.certReadsRow.targs := of_decide_eq_true (by kernel_rfl)
theorem wrap : Tryz.f4.isWrapper Tryz.prog Rows.certReadsRow.wrapper Rows.certReadsRow.mainSum := by unfold Func.isWrapper; first | (rw [if_pos (by decide +kernel)]; kernel_rfl) | (rw [if_neg (by decide +kernel)]; exact ⟨rfl, rfl⟩)
end Go.Proofs.YtpifnlfmojfgpaaGreatDoor.Facts
