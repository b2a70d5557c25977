/- The program may be run by the executor. -/
import Derived.Test.YtaplgollkkpnaaaDoorXcN
import Derived.Test.YtaplgollkkpnaaaDoorProg
set_option linter.unusedVariables false
set_option linter.unusedSimpArgs false
set_option linter.unusedSectionVars false
namespace Go.Proofs.YtaplgollkkpnaaaDoor.Xc
open Go
set_option maxRecDepth 100000
theorem gNames : (Tryd.prog.funcs.all fun fn => !(fn.name == "runtime.NumGoroutine")) = true := by kernel_rfl
theorem gBodies : (Tryd.prog.funcs.all fun fn => match fn.body with | some c => okC c | none => true) = true := by kernel_rfl
theorem gMixed : Tryd.prog.follows .mixedOrders = true := by kernel_rfl
theorem good : Good Tryd.prog := by
  refine ⟨fun f fn h => ?_, gMixed, fun f fn c h hb => ?_⟩
  · have := Array.all_eq_true_iff_forall_mem.1 gNames fn (Array.mem_of_getElem? h)
    simpa using this
  · have := Array.all_eq_true_iff_forall_mem.1 gBodies fn (Array.mem_of_getElem? h)
    rw [hb] at this
    exact this
end Go.Proofs.YtaplgollkkpnaaaDoor.Xc
