/- Proved here, with no condition of its own: summaries of calls, checked by the kernel. -/
import Derived.Test.YtjjhajjdohnjoaaGreatXB7
namespace Go.Ex
open Go Go.RowKit Go.Proofs Go.Proofs.YtjjhajjdohnjoaaGreat
set_option maxRecDepth 100000
noncomputable def l8 : List (FuncId × D × D) := [(246, ll [.sl 1 4 (ll [si 0, si 1, si 2, si 3])], .sl 1 4 (ll [si 0, si 1, si 2, si 3])),
  (256, ll [.sl 1 4 (ll [si 0, si 1, si 2, si 3])], .tup (ll [.sl 1 4 (ll [si 0, si 1, si 2, si 3]), si 0])),
  (175, ll [si 1, si 1], .sc (.bool false)),
  (159, ll [.sl 1 1 (ll [si 1]), si 1], .tup (ll [si 0, .sc (.bool true)])),
  (175, ll [si 2, si 2], .sc (.bool false)),
  (159, ll [.sl 1 1 (ll [si 2]), si 2], .tup (ll [si 0, .sc (.bool true)])),
  (175, ll [si 3, si 3], .sc (.bool false)),
  (159, ll [.sl 1 1 (ll [si 3]), si 3], .tup (ll [si 0, .sc (.bool true)])),
  (250, ll [.pt (ll [si 4, .sl 1 4 (ll [.sl 1 1 (ll [si 0]), .sl 1 1 (ll [si 1]), .sl 1 1 (ll [si 2]), .sl 1 1 (ll [si 3])]), .sl 1 4 (ll [.sl 1 1 (ll [.sl 1 4 (ll [si 0, si 1, si 2, si 3])]), .sl 1 1 (ll [.sl 1 4 (ll [si 0, si 1, si 2, si 3])]), .sl 1 1 (ll [.sl 1 4 (ll [si 0, si 1, si 2, si 3])]), .sl 1 1 (ll [.sl 1 4 (ll [si 0, si 1, si 2, si 3])])])]), .sl 1 4 (ll [si 0, si 1, si 2, si 3])], .sc (.bool true)),
  (255, ll [.sl 1 4 (ll [si 0, si 1, si 2, si 3]), .sl 1 4 (ll [si 1, si 2, si 3, si 0])], .tup (ll [.sl 1 4 (ll [si 0, si 1, si 2, si 3]), si 0])),
  (255, ll [.sl 1 4 (ll [si 0, si 1, si 2, si 3]), .sl 1 4 (ll [si 2, si 3, si 0, si 1])], .tup (ll [.sl 1 4 (ll [si 0, si 1, si 2, si 3]), si 0])),
  (255, ll [.sl 1 4 (ll [si 0, si 1, si 2, si 3]), .sl 1 4 (ll [si 3, si 0, si 1, si 2])], .tup (ll [.sl 1 4 (ll [si 0, si 1, si 2, si 3]), si 0])),
  (227, ll [.agg (ll [si 4, .sl 1 4 (ll [.sl 1 4 (ll [si 0, si 1, si 2, si 3]), .sl 1 1 (ll [si 1]), .sl 1 1 (ll [si 2]), .sl 1 1 (ll [si 3])]), .sl 1 4 (ll [.sl 1 4 (ll [.sl 1 4 (ll [si 0, si 1, si 2, si 3]), .sl 1 4 (ll [si 1, si 2, si 3, si 0]), .sl 1 4 (ll [si 2, si 3, si 0, si 1]), .sl 1 4 (ll [si 3, si 0, si 1, si 2])]), .sl 1 1 (ll [.sl 1 4 (ll [si 0, si 1, si 2, si 3])]), .sl 1 1 (ll [.sl 1 4 (ll [si 0, si 1, si 2, si 3])]), .sl 1 1 (ll [.sl 1 4 (ll [si 0, si 1, si 2, si 3])])])]), .agg (ll [si 4, .sl 1 4 (ll [.sl 1 4 (ll [si 0, si 1, si 2, si 3]), .sl 1 1 (ll [si 1]), .sl 1 1 (ll [si 2]), .sl 1 1 (ll [si 3])]), .sl 1 4 (ll [.sl 1 4 (ll [.sl 1 4 (ll [si 0, si 1, si 2, si 3]), .sl 1 4 (ll [si 1, si 2, si 3, si 0]), .sl 1 4 (ll [si 2, si 3, si 0, si 1]), .sl 1 4 (ll [si 3, si 0, si 1, si 2])]), .sl 1 1 (ll [.sl 1 4 (ll [si 0, si 1, si 2, si 3])]), .sl 1 1 (ll [.sl 1 4 (ll [si 0, si 1, si 2, si 3])]), .sl 1 1 (ll [.sl 1 4 (ll [si 0, si 1, si 2, si 3])])])])], .tup (ll [.agg (ll [si 4, .sl 1 4 (ll [.sl 1 1 (ll [si 0]), .sl 1 1 (ll [si 1]), .sl 1 1 (ll [si 2]), .sl 1 1 (ll [si 3])]), .sl 1 4 (ll [.sl 1 1 (ll [.sl 1 4 (ll [si 0, si 1, si 2, si 3])]), .sl 1 1 (ll [.sl 1 4 (ll [si 0, si 1, si 2, si 3])]), .sl 1 1 (ll [.sl 1 4 (ll [si 0, si 1, si 2, si 3])]), .sl 1 1 (ll [.sl 1 4 (ll [si 0, si 1, si 2, si 3])])])]), si 0])),
  (170, ll [.sl 1 1 (ll [si 0]), .sl 1 1 (ll [si 0])], .sc (.bool true)),
  (158, ll [.agg (ll [si 4, .sl 1 4 (ll [.sl 1 1 (ll [si 0]), .sl 1 1 (ll [si 1]), .sl 1 1 (ll [si 2]), .sl 1 1 (ll [si 3])]), .sl 1 4 (ll [.sl 1 1 (ll [.sl 1 4 (ll [si 0, si 1, si 2, si 3])]), .sl 1 1 (ll [.sl 1 4 (ll [si 0, si 1, si 2, si 3])]), .sl 1 1 (ll [.sl 1 4 (ll [si 0, si 1, si 2, si 3])]), .sl 1 1 (ll [.sl 1 4 (ll [si 0, si 1, si 2, si 3])])])]), .agg (ll [si 4, .sl 1 4 (ll [.sl 1 1 (ll [si 0]), .sl 1 1 (ll [si 1]), .sl 1 1 (ll [si 2]), .sl 1 1 (ll [si 3])]), .sl 1 4 (ll [.sl 1 1 (ll [.sl 1 4 (ll [si 0, si 1, si 2, si 3])]), .sl 1 1 (ll [.sl 1 4 (ll [si 0, si 1, si 2, si 3])]), .sl 1 1 (ll [.sl 1 4 (ll [si 0, si 1, si 2, si 3])]), .sl 1 1 (ll [.sl 1 4 (ll [si 0, si 1, si 2, si 3])])])])], .sc (.bool true)),
  (146, ll [.agg (ll [si 4, .sl 1 4 (ll [.sl 1 1 (ll [si 0]), .sl 1 1 (ll [si 1]), .sl 1 1 (ll [si 2]), .sl 1 1 (ll [si 3])]), .sl 1 4 (ll [.sl 1 1 (ll [.sl 1 4 (ll [si 0, si 1, si 2, si 3])]), .sl 1 1 (ll [.sl 1 4 (ll [si 0, si 1, si 2, si 3])]), .sl 1 1 (ll [.sl 1 4 (ll [si 0, si 1, si 2, si 3])]), .sl 1 1 (ll [.sl 1 4 (ll [si 0, si 1, si 2, si 3])])])])], si 0)]
noncomputable def tab8 : Tr (List (D × D)) := addAll l8 tab7
theorem chk8 : checkSeq Tryz.prog fnT tyT 60 l8 tab7 = true := by kernel_rfl
theorem tabs8 : TabsOK Tryz.prog tab8 := seq_ok envOK tabs7 chk8
end Go.Ex
