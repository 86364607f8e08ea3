/- Proved here, with no condition of its own: summaries of calls, checked by the kernel. -/
import Derived.Test.YtjjhajjdohnjoaaGreatXB2
namespace Go.Ex
open Go Go.RowKit Go.Proofs Go.Proofs.YtjjhajjdohnjoaaGreat
set_option maxRecDepth 100000
noncomputable def l3 : List (FuncId × D × D) := [(122, ll [.sl 1 4 (ll [si 0, si 1, si 2, si 3])], si 0),
  (122, ll [.sl 1 4 (ll [si 3, si 0, si 1, si 2])], si 0),
  (160, ll [.sl 1 4 (ll [si 2, si 3, si 0, si 1]), .sl 1 4 (ll [si 2, si 3, si 0, si 1])], .sl 1 4 (ll [si 0, si 1, si 2, si 3])),
  (170, ll [.sl 1 4 (ll [si 0, si 1, si 2, si 3]), .sl 1 4 (ll [si 0, si 1, si 2, si 3])], .sc (.bool true)),
  (170, ll [.sl 1 1 (ll [si 1]), .sl 1 1 (ll [si 1])], .sc (.bool true)),
  (170, ll [.sl 1 1 (ll [si 2]), .sl 1 1 (ll [si 2])], .sc (.bool true)),
  (170, ll [.sl 1 1 (ll [si 3]), .sl 1 1 (ll [si 3])], .sc (.bool true)),
  (130, ll [.sl 1 4 (ll [si 0, si 1, si 2, si 3]), .sl 1 4 (ll [si 0, si 1, si 2, si 3])], .sc (.bool true)),
  (130, ll [.sl 1 4 (ll [si 1, si 2, si 3, si 0]), .sl 1 4 (ll [si 1, si 2, si 3, si 0])], .sc (.bool true)),
  (130, ll [.sl 1 4 (ll [si 2, si 3, si 0, si 1]), .sl 1 4 (ll [si 2, si 3, si 0, si 1])], .sc (.bool true)),
  (130, ll [.sl 1 4 (ll [si 3, si 0, si 1, si 2]), .sl 1 4 (ll [si 3, si 0, si 1, si 2])], .sc (.bool true)),
  (158, ll [.agg (ll [si 4, .sl 1 4 (ll [.sl 1 4 (ll [si 0, si 1, si 2, si 3]), .sl 1 1 (ll [si 1]), .sl 1 1 (ll [si 2]), .sl 1 1 (ll [si 3])]), .sl 1 4 (ll [.sl 1 4 (ll [.sl 1 4 (ll [si 0, si 1, si 2, si 3]), .sl 1 4 (ll [si 1, si 2, si 3, si 0]), .sl 1 4 (ll [si 2, si 3, si 0, si 1]), .sl 1 4 (ll [si 3, si 0, si 1, si 2])]), .sl 1 1 (ll [.sl 1 4 (ll [si 0, si 1, si 2, si 3])]), .sl 1 1 (ll [.sl 1 4 (ll [si 0, si 1, si 2, si 3])]), .sl 1 1 (ll [.sl 1 4 (ll [si 0, si 1, si 2, si 3])])])]), .agg (ll [si 4, .sl 1 4 (ll [.sl 1 4 (ll [si 0, si 1, si 2, si 3]), .sl 1 1 (ll [si 1]), .sl 1 1 (ll [si 2]), .sl 1 1 (ll [si 3])]), .sl 1 4 (ll [.sl 1 4 (ll [.sl 1 4 (ll [si 0, si 1, si 2, si 3]), .sl 1 4 (ll [si 1, si 2, si 3, si 0]), .sl 1 4 (ll [si 2, si 3, si 0, si 1]), .sl 1 4 (ll [si 3, si 0, si 1, si 2])]), .sl 1 1 (ll [.sl 1 4 (ll [si 0, si 1, si 2, si 3])]), .sl 1 1 (ll [.sl 1 4 (ll [si 0, si 1, si 2, si 3])]), .sl 1 1 (ll [.sl 1 4 (ll [si 0, si 1, si 2, si 3])])])])], .sc (.bool true)),
  (146, ll [.agg (ll [si 4, .sl 1 4 (ll [.sl 1 4 (ll [si 0, si 1, si 2, si 3]), .sl 1 1 (ll [si 1]), .sl 1 1 (ll [si 2]), .sl 1 1 (ll [si 3])]), .sl 1 4 (ll [.sl 1 4 (ll [.sl 1 4 (ll [si 0, si 1, si 2, si 3]), .sl 1 4 (ll [si 1, si 2, si 3, si 0]), .sl 1 4 (ll [si 2, si 3, si 0, si 1]), .sl 1 4 (ll [si 3, si 0, si 1, si 2])]), .sl 1 1 (ll [.sl 1 4 (ll [si 0, si 1, si 2, si 3])]), .sl 1 1 (ll [.sl 1 4 (ll [si 0, si 1, si 2, si 3])]), .sl 1 1 (ll [.sl 1 4 (ll [si 0, si 1, si 2, si 3])])])])], si 0),
  (139, ll [.agg (ll [si 4, .sl 1 4 (ll [.sl 1 4 (ll [si 0, si 1, si 2, si 3]), .sl 1 1 (ll [si 1]), .sl 1 1 (ll [si 2]), .sl 1 1 (ll [si 3])]), .sl 1 4 (ll [.sl 1 4 (ll [.sl 1 4 (ll [si 0, si 1, si 2, si 3]), .sl 1 4 (ll [si 1, si 2, si 3, si 0]), .sl 1 4 (ll [si 2, si 3, si 0, si 1]), .sl 1 4 (ll [si 3, si 0, si 1, si 2])]), .sl 1 1 (ll [.sl 1 4 (ll [si 0, si 1, si 2, si 3])]), .sl 1 1 (ll [.sl 1 4 (ll [si 0, si 1, si 2, si 3])]), .sl 1 1 (ll [.sl 1 4 (ll [si 0, si 1, si 2, si 3])])])])], .tup (ll [si 4, si 0])),
  (160, ll [.sl 1 4 (ll [si 0, si 1, si 2, si 3]), .sl 1 4 (ll [si 1, si 0, si 3, si 2])], .sl 1 4 (ll [si 1, si 0, si 3, si 2])),
  (161, ll [.sl 1 4 (ll [si 1, si 0, si 3, si 2])], .sl 1 4 (ll [si 1, si 0, si 3, si 2]))]
noncomputable def tab3 : Tr (List (D × D)) := addAll l3 tab2
theorem chk3 : checkSeq Tryz.prog fnT tyT 60 l3 tab2 = true := by kernel_rfl
theorem tabs3 : TabsOK Tryz.prog tab3 := seq_ok envOK tabs2 chk3
end Go.Ex
