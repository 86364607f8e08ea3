/- Proved here, with no condition of its own: summaries of calls, checked by the kernel. -/
import Derived.Test.YtojicidicefdjaaGreatTabs
namespace Go.Ex
open Go Go.RowKit Go.Proofs Go.Proofs.YtojicidicefdjaaGreat
set_option maxRecDepth 100000
theorem chkTop : checkE (mkE Tryz.prog fnT tyT tab14) 60 21 .nil (.sc (.bool true)) = true := by kernel_rfl
end Go.Ex
