/- Proved here, with no condition of its own: summaries of calls, checked by the kernel. -/
import Derived.Test.YtojicidicefdjaaGreatTabs
namespace Go.Ex
open Go Go.RowKit Go.Proofs Go.Proofs.YtojicidicefdjaaGreat
set_option maxRecDepth 100000
theorem chk8 : checkSeq Tryz.prog fnT tyT 60 l8 tab7 = true := by kernel_rfl
end Go.Ex
