/- Proved here, with no condition of its own: summaries of calls, checked by the kernel. -/
import Derived.Test.YtjjhajjdohnjoaaGreatXB3
namespace Go.Ex
open Go Go.RowKit Go.Proofs Go.Proofs.YtjjhajjdohnjoaaGreat
set_option maxRecDepth 100000
noncomputable def l4 : List (FuncId × D × D) := [(160, ll [.sl 1 4 (ll [si 1, si 0, si 3, si 2]), .sl 1 4 (ll [si 1, si 0, si 3, si 2])], .sl 1 4 (ll [si 0, si 1, si 2, si 3])),
  (160, ll [.sl 1 4 (ll [si 0, si 1, si 2, si 3]), .sl 1 4 (ll [si 2, si 3, si 0, si 1])], .sl 1 4 (ll [si 2, si 3, si 0, si 1])),
  (160, ll [.sl 1 4 (ll [si 1, si 0, si 3, si 2]), .sl 1 4 (ll [si 2, si 3, si 0, si 1])], .sl 1 4 (ll [si 3, si 2, si 1, si 0])),
  (161, ll [.sl 1 4 (ll [si 3, si 2, si 1, si 0])], .sl 1 4 (ll [si 3, si 2, si 1, si 0])),
  (160, ll [.sl 1 4 (ll [si 2, si 3, si 0, si 1]), .sl 1 4 (ll [si 1, si 0, si 3, si 2])], .sl 1 4 (ll [si 3, si 2, si 1, si 0])),
  (160, ll [.sl 1 4 (ll [si 3, si 2, si 1, si 0]), .sl 1 4 (ll [si 3, si 2, si 1, si 0])], .sl 1 4 (ll [si 0, si 1, si 2, si 3])),
  (160, ll [.sl 1 4 (ll [si 3, si 2, si 1, si 0]), .sl 1 4 (ll [si 1, si 0, si 3, si 2])], .sl 1 4 (ll [si 2, si 3, si 0, si 1])),
  (160, ll [.sl 1 4 (ll [si 3, si 2, si 1, si 0]), .sl 1 4 (ll [si 2, si 3, si 0, si 1])], .sl 1 4 (ll [si 1, si 0, si 3, si 2])),
  (155, ll [.sl 1 4 (ll [si 1, si 0, si 3, si 2])], .sl 1 4 (ll [si 1, si 0, si 3, si 2])),
  (155, ll [.sl 1 4 (ll [si 3, si 2, si 1, si 0])], .sl 1 4 (ll [si 3, si 2, si 1, si 0])),
  (138, ll [.agg (ll [si 4, .sl 1 2 (ll [.sl 1 4 (ll [si 1, si 0, si 3, si 2]), .sl 1 4 (ll [si 2, si 3, si 0, si 1])])])], .tup (ll [.agg (ll [si 4, .sl 1 4 (ll [.sl 1 4 (ll [si 0, si 1, si 2, si 3]), .sl 1 1 (ll [si 1]), .sl 1 1 (ll [si 2]), .sl 1 1 (ll [si 3])]), .sl 1 4 (ll [.sl 1 4 (ll [.sl 1 4 (ll [si 0, si 1, si 2, si 3]), .sl 1 4 (ll [si 1, si 0, si 3, si 2]), .sl 1 4 (ll [si 2, si 3, si 0, si 1]), .sl 1 4 (ll [si 3, si 2, si 1, si 0])]), .sl 1 1 (ll [.sl 1 4 (ll [si 0, si 1, si 2, si 3])]), .sl 1 1 (ll [.sl 1 4 (ll [si 0, si 1, si 2, si 3])]), .sl 1 1 (ll [.sl 1 4 (ll [si 0, si 1, si 2, si 3])])])]), si 0])),
  (122, ll [.sl 1 4 (ll [si 3, si 2, si 1, si 0])], si 0),
  (130, ll [.sl 1 4 (ll [si 1, si 0, si 3, si 2]), .sl 1 4 (ll [si 1, si 0, si 3, si 2])], .sc (.bool true)),
  (130, ll [.sl 1 4 (ll [si 3, si 2, si 1, si 0]), .sl 1 4 (ll [si 3, si 2, si 1, si 0])], .sc (.bool true)),
  (158, ll [.agg (ll [si 4, .sl 1 4 (ll [.sl 1 4 (ll [si 0, si 1, si 2, si 3]), .sl 1 1 (ll [si 1]), .sl 1 1 (ll [si 2]), .sl 1 1 (ll [si 3])]), .sl 1 4 (ll [.sl 1 4 (ll [.sl 1 4 (ll [si 0, si 1, si 2, si 3]), .sl 1 4 (ll [si 1, si 0, si 3, si 2]), .sl 1 4 (ll [si 2, si 3, si 0, si 1]), .sl 1 4 (ll [si 3, si 2, si 1, si 0])]), .sl 1 1 (ll [.sl 1 4 (ll [si 0, si 1, si 2, si 3])]), .sl 1 1 (ll [.sl 1 4 (ll [si 0, si 1, si 2, si 3])]), .sl 1 1 (ll [.sl 1 4 (ll [si 0, si 1, si 2, si 3])])])]), .agg (ll [si 4, .sl 1 4 (ll [.sl 1 4 (ll [si 0, si 1, si 2, si 3]), .sl 1 1 (ll [si 1]), .sl 1 1 (ll [si 2]), .sl 1 1 (ll [si 3])]), .sl 1 4 (ll [.sl 1 4 (ll [.sl 1 4 (ll [si 0, si 1, si 2, si 3]), .sl 1 4 (ll [si 1, si 0, si 3, si 2]), .sl 1 4 (ll [si 2, si 3, si 0, si 1]), .sl 1 4 (ll [si 3, si 2, si 1, si 0])]), .sl 1 1 (ll [.sl 1 4 (ll [si 0, si 1, si 2, si 3])]), .sl 1 1 (ll [.sl 1 4 (ll [si 0, si 1, si 2, si 3])]), .sl 1 1 (ll [.sl 1 4 (ll [si 0, si 1, si 2, si 3])])])])], .sc (.bool true)),
  (146, ll [.agg (ll [si 4, .sl 1 4 (ll [.sl 1 4 (ll [si 0, si 1, si 2, si 3]), .sl 1 1 (ll [si 1]), .sl 1 1 (ll [si 2]), .sl 1 1 (ll [si 3])]), .sl 1 4 (ll [.sl 1 4 (ll [.sl 1 4 (ll [si 0, si 1, si 2, si 3]), .sl 1 4 (ll [si 1, si 0, si 3, si 2]), .sl 1 4 (ll [si 2, si 3, si 0, si 1]), .sl 1 4 (ll [si 3, si 2, si 1, si 0])]), .sl 1 1 (ll [.sl 1 4 (ll [si 0, si 1, si 2, si 3])]), .sl 1 1 (ll [.sl 1 4 (ll [si 0, si 1, si 2, si 3])]), .sl 1 1 (ll [.sl 1 4 (ll [si 0, si 1, si 2, si 3])])])])], si 0)]
noncomputable def tab4 : Tr (List (D × D)) := addAll l4 tab3
theorem chk4 : checkSeq Tryz.prog fnT tyT 60 l4 tab3 = true := by kernel_rfl
theorem tabs4 : TabsOK Tryz.prog tab4 := seq_ok envOK tabs3 chk4
end Go.Ex
