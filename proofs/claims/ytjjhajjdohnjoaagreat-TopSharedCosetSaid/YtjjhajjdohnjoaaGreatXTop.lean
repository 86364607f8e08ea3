/- Proved here, with no condition of its own: convinced answers true and turns nothing that was there. -/
import Derived.Test.YtjjhajjdohnjoaaGreatXB14
namespace Go.Ex
open Go Go.RowKit Go.Proofs Go.Proofs.YtjjhajjdohnjoaaGreat
set_option maxRecDepth 100000
theorem chkTop : checkE (mkE Tryz.prog fnT tyT tab14) 60 19 .nil (.sc (.bool true)) = true := by kernel_rfl
/-- 'convinced' answers true, and turns nothing. -/
theorem convinced_true (w : World) : Calls Tryz.prog 19 #[] w fun e w' => e = .returned (.bool true) ∧ Below w.heap.size w w' := by
  have h := entry_ok (E := mkE Tryz.prog fnT tyT tab14) ⟨envOK.fn, envOK.ty, envOK.mixed⟩ (hook_ok tabs14 rfl) chkTop w [] .nil
  refine Calls.mono h fun e w' ⟨V, h1, h2, h3⟩ => ?_
  cases h3
  exact ⟨h1, h2⟩
end Go.Ex
