/- The row's closed facts, limb by limb (of the card). -/
import Derived.Test.YtpifnlfmojfgpaaGreatDoorRows
import Derived.Test.YtpifnlfmojfgpaaGreatDoorChecked
import Derived.JoinedOf
import Derived.SevenTiedAt
import Derived.KernelRfl
set_option linter.unusedVariables false
set_option maxRecDepth 100000
namespace Go.Proofs.YtpifnlfmojfgpaaGreatDoor.Facts
theorem byText : Rows.certReadsRow.wfByText (OpenSpec.ofChange Rows.certReadsSpec) = true := by kernel_rfl
theorem mainIs : Tryz.prog.mainIs = some (true, "41935f2a8f80c712b22d8598a14dffaf330d77c0951397ea3e90b6540cef2ed5".toList) := by kernel_rfl
theorem looks : true = Tryz.prog.looks [] := by kernel_rfl
theorem no_goes {P : Program} (h : P.funcs.any Func.goes = false) (L : List FuncId) : (L.any fun g => (P.funcs[g]?).any Func.goes) = false := by
  rw [List.any_eq_false]
  intro g _
  cases hf : P.funcs[g]? with
  | none => simp
  | some fn =>
    have hm : fn ∈ P.funcs.toList := by rw [← Array.getElem?_toList] at hf; exact List.mem_of_getElem? hf
    rw [← Array.any_toList, List.any_eq_false] at h
    simpa using h fn hm
theorem noneGoes : Tryz.prog.funcs.any Func.goes = false := by kernel_rfl
theorem goes4 : Tryz.prog.goes 4 = false := by
  unfold Program.goes
  rw [no_goes noneGoes, noneGoes, Bool.and_false, Bool.false_or]
theorem byName' : Tryz.prog.funcNamed Rows.certReadsRow.func = some 4 := by kernel_rfl
theorem goes : false = Rows.certReadsRow.goesBy Tryz.prog := by
  unfold OpenClaim.goesBy Program.goesAt Program.goesFrom
  have hst : Rows.certReadsRow.start = .entering := rfl
  rw [byName', hst, Option.any_some, goes4]
  simp only [Bool.false_or]
theorem stand : ([9].all fun u => !Tryz.prog.wantsStandIn u) = true := by kernel_rfl
end Go.Proofs.YtpifnlfmojfgpaaGreatDoor.Facts
