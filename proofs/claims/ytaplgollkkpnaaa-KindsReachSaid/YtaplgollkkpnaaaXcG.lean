/- The program may be run by the executor. -/
import Derived.Test.YtaplgollkkpnaaaXcN
import Derived.Test.YtaplgollkkpnaaaProg
set_option linter.unusedVariables false
set_option linter.unusedSimpArgs false
set_option linter.unusedSectionVars false
namespace Go.Proofs.Ytaplgollkkpnaaa.Xc
open Go
set_option maxRecDepth 100000
theorem gNames : (Try.prog.funcs.all fun fn => !(fn.name == "runtime.NumGoroutine")) = true := by kernel_rfl
theorem gBodies : (Try.prog.funcs.all fun fn => match fn.body with | some c => okC c | none => true) = true := by kernel_rfl
theorem gMixed : Try.prog.follows .mixedOrders = true := by kernel_rfl
theorem good : Good Try.prog := by
  refine ⟨fun f fn h => ?_, gMixed, fun f fn c h hb => ?_⟩
  · have := Array.all_eq_true_iff_forall_mem.1 gNames fn (Array.mem_of_getElem? h)
    simpa using this
  · have := Array.all_eq_true_iff_forall_mem.1 gBodies fn (Array.mem_of_getElem? h)
    rw [hb] at this
    exact this
theorem calls_run {P : Program} (hG : Good P) {T : Tab} {E : Eqs} (hT : TabOk P T) (hE : EqOk P E) {gm : Bool} {n : Nat} {f : FuncId} {args : List Value} {r : Value} (h : run P T E gm n f args (· = r)) (w : World) : Calls P f args.toArray w (fun e w' => e = .returned r ∧ RowKit.Below w.heap.size w w') := calls_runI hG hT hE h w (I.any w)
end Go.Proofs.Ytaplgollkkpnaaa.Xc
