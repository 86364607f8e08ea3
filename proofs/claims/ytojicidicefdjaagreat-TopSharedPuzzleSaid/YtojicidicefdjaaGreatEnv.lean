/- Proved here, with no condition of its own: the evaluator at this program. -/
import Derived.Test.YtojicidicefdjaaGreatExD
import Derived.Test.YtojicidicefdjaaGreatRows
namespace Go.Ex
open Go Go.RowKit Go.Proofs Go.Proofs.YtojicidicefdjaaGreat
noncomputable def fnT : Tr Func := ofList Tryz.prog.funcs.toList 0 .nil
noncomputable def tyT : Tr TypeInfo := ofList Tryz.prog.types.toList 0 .nil
theorem names_ok : Tryz.prog.funcs.toList.all (fun g => g.name != "runtime.NumGoroutine") = true := by kernel_rfl
theorem mixed_ok : Tryz.prog.follows .mixedOrders = true := by kernel_rfl
theorem envOK : EnvOK (mkE Tryz.prog fnT tyT .nil) := env_ok names_ok mixed_ok
end Go.Ex
