import Derived.Test.YtalbgijagdmdcaaRows
import Derived.JoinedOf
import Derived.KernelRfl
set_option linter.all false
/- What is asked of the whole program, once for all laws of the seat. -/
open Go Go.Proofs Go.Proofs.Ytalbgijagdmdcaa
namespace Go.R2
theorem cMay : Try.prog.mayEnter = true := by kernel_rfl
theorem cLift : Try.prog.liftsFinal = Rows.replyValidRow.lifted := by kernel_rfl
theorem cMake : Try.prog.make = some Rows.replyValidRow.make := by kernel_rfl
end Go.R2
