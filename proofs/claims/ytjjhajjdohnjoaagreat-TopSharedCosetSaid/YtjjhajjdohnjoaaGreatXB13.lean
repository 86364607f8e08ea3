/- Proved here, with no condition of its own: summaries of calls, checked by the kernel. -/
import Derived.Test.YtjjhajjdohnjoaaGreatXB12
namespace Go.Ex
open Go Go.RowKit Go.Proofs Go.Proofs.YtjjhajjdohnjoaaGreat
set_option maxRecDepth 100000
noncomputable def l13 : List (FuncId × D × D) := [(55, ll [.sl 1 4 (ll [si 1, si 0, si 3, si 2]), .sl 1 4 (ll [si 2, si 3, si 0, si 1])], .sl 1 4 (ll [si 3, si 2, si 1, si 0])),
  (71, ll [.sl 1 4 (ll [si 3, si 2, si 1, si 0]), .sl 1 4 (ll [si 3, si 2, si 1, si 0])], .sc (.bool false)),
  (57, ll [.sl 1 4 (ll [si 3, si 2, si 1, si 0]), .sl 1 4 (ll [si 3, si 2, si 1, si 0])], .sc (.bool true)),
  (44, ll [si 4, .sl 1 2 (ll [.sl 1 4 (ll [si 1, si 0, si 3, si 2]), .sl 1 4 (ll [si 2, si 3, si 0, si 1])]), si 720], .sl 1 4 (ll [.sl 1 4 (ll [si 0, si 1, si 2, si 3]), .sl 1 4 (ll [si 1, si 0, si 3, si 2]), .sl 1 4 (ll [si 2, si 3, si 0, si 1]), .sl 1 4 (ll [si 3, si 2, si 1, si 0])])),
  (55, ll [.sl 1 4 (ll [si 0, si 1, si 2, si 3]), .sl 1 4 (ll [si 0, si 1, si 2, si 3])], .sl 1 4 (ll [si 0, si 1, si 2, si 3])),
  (73, ll [.sl 1 4 (ll [.sl 1 4 (ll [si 0, si 1, si 2, si 3]), .sl 1 4 (ll [si 1, si 2, si 3, si 0]), .sl 1 4 (ll [si 2, si 3, si 0, si 1]), .sl 1 4 (ll [si 3, si 0, si 1, si 2])]), .sl 1 4 (ll [si 0, si 1, si 2, si 3])], si 0),
  (71, ll [.sl 1 4 (ll [si 2, si 3, si 0, si 1]), .sl 1 4 (ll [si 1, si 2, si 3, si 0])], .sc (.bool false)),
  (71, ll [.sl 1 4 (ll [si 1, si 2, si 3, si 0]), .sl 1 4 (ll [si 1, si 2, si 3, si 0])], .sc (.bool false)),
  (57, ll [.sl 1 4 (ll [si 1, si 2, si 3, si 0]), .sl 1 4 (ll [si 1, si 2, si 3, si 0])], .sc (.bool true)),
  (73, ll [.sl 1 4 (ll [.sl 1 4 (ll [si 0, si 1, si 2, si 3]), .sl 1 4 (ll [si 1, si 2, si 3, si 0]), .sl 1 4 (ll [si 2, si 3, si 0, si 1]), .sl 1 4 (ll [si 3, si 0, si 1, si 2])]), .sl 1 4 (ll [si 1, si 2, si 3, si 0])], si 1),
  (73, ll [.sl 1 4 (ll [.sl 1 4 (ll [si 0, si 1, si 2, si 3]), .sl 1 4 (ll [si 1, si 2, si 3, si 0]), .sl 1 4 (ll [si 2, si 3, si 0, si 1]), .sl 1 4 (ll [si 3, si 0, si 1, si 2])]), .sl 1 4 (ll [si 2, si 3, si 0, si 1])], si 2),
  (55, ll [.sl 1 4 (ll [si 0, si 1, si 2, si 3]), .sl 1 4 (ll [si 3, si 0, si 1, si 2])], .sl 1 4 (ll [si 3, si 0, si 1, si 2])),
  (71, ll [.sl 1 4 (ll [si 3, si 0, si 1, si 2]), .sl 1 4 (ll [si 3, si 0, si 1, si 2])], .sc (.bool false)),
  (57, ll [.sl 1 4 (ll [si 3, si 0, si 1, si 2]), .sl 1 4 (ll [si 3, si 0, si 1, si 2])], .sc (.bool true)),
  (73, ll [.sl 1 4 (ll [.sl 1 4 (ll [si 0, si 1, si 2, si 3]), .sl 1 4 (ll [si 1, si 2, si 3, si 0]), .sl 1 4 (ll [si 2, si 3, si 0, si 1]), .sl 1 4 (ll [si 3, si 0, si 1, si 2])]), .sl 1 4 (ll [si 3, si 0, si 1, si 2])], si 3),
  (55, ll [.sl 1 4 (ll [si 1, si 2, si 3, si 0]), .sl 1 4 (ll [si 0, si 1, si 2, si 3])], .sl 1 4 (ll [si 1, si 2, si 3, si 0])),
  (55, ll [.sl 1 4 (ll [si 1, si 2, si 3, si 0]), .sl 1 4 (ll [si 2, si 3, si 0, si 1])], .sl 1 4 (ll [si 3, si 0, si 1, si 2])),
  (55, ll [.sl 1 4 (ll [si 1, si 2, si 3, si 0]), .sl 1 4 (ll [si 3, si 0, si 1, si 2])], .sl 1 4 (ll [si 0, si 1, si 2, si 3])),
  (55, ll [.sl 1 4 (ll [si 2, si 3, si 0, si 1]), .sl 1 4 (ll [si 0, si 1, si 2, si 3])], .sl 1 4 (ll [si 2, si 3, si 0, si 1])),
  (55, ll [.sl 1 4 (ll [si 2, si 3, si 0, si 1]), .sl 1 4 (ll [si 3, si 0, si 1, si 2])], .sl 1 4 (ll [si 1, si 2, si 3, si 0])),
  (55, ll [.sl 1 4 (ll [si 3, si 0, si 1, si 2]), .sl 1 4 (ll [si 0, si 1, si 2, si 3])], .sl 1 4 (ll [si 3, si 0, si 1, si 2])),
  (55, ll [.sl 1 4 (ll [si 3, si 0, si 1, si 2]), .sl 1 4 (ll [si 2, si 3, si 0, si 1])], .sl 1 4 (ll [si 1, si 2, si 3, si 0])),
  (55, ll [.sl 1 4 (ll [si 3, si 0, si 1, si 2]), .sl 1 4 (ll [si 3, si 0, si 1, si 2])], .sl 1 4 (ll [si 2, si 3, si 0, si 1])),
  (59, ll [.sl 1 4 (ll [.sl 1 4 (ll [si 0, si 1, si 2, si 3]), .sl 1 4 (ll [si 1, si 2, si 3, si 0]), .sl 1 4 (ll [si 2, si 3, si 0, si 1]), .sl 1 4 (ll [si 3, si 0, si 1, si 2])])], .sl 1 4 (ll [.sl 1 4 (ll [si 0, si 1, si 2, si 3]), .sl 1 4 (ll [si 1, si 2, si 3, si 0]), .sl 1 4 (ll [si 2, si 3, si 0, si 1]), .sl 1 4 (ll [si 3, si 0, si 1, si 2])])),
  (73, ll [.sl 1 4 (ll [.sl 1 4 (ll [si 0, si 1, si 2, si 3]), .sl 1 4 (ll [si 1, si 0, si 3, si 2]), .sl 1 4 (ll [si 2, si 3, si 0, si 1]), .sl 1 4 (ll [si 3, si 2, si 1, si 0])]), .sl 1 4 (ll [si 0, si 1, si 2, si 3])], si 0),
  (73, ll [.sl 1 4 (ll [.sl 1 4 (ll [si 0, si 1, si 2, si 3]), .sl 1 4 (ll [si 1, si 0, si 3, si 2]), .sl 1 4 (ll [si 2, si 3, si 0, si 1]), .sl 1 4 (ll [si 3, si 2, si 1, si 0])]), .sl 1 4 (ll [si 1, si 0, si 3, si 2])], si 1),
  (73, ll [.sl 1 4 (ll [.sl 1 4 (ll [si 0, si 1, si 2, si 3]), .sl 1 4 (ll [si 1, si 0, si 3, si 2]), .sl 1 4 (ll [si 2, si 3, si 0, si 1]), .sl 1 4 (ll [si 3, si 2, si 1, si 0])]), .sl 1 4 (ll [si 2, si 3, si 0, si 1])], si 2),
  (55, ll [.sl 1 4 (ll [si 0, si 1, si 2, si 3]), .sl 1 4 (ll [si 3, si 2, si 1, si 0])], .sl 1 4 (ll [si 3, si 2, si 1, si 0])),
  (73, ll [.sl 1 4 (ll [.sl 1 4 (ll [si 0, si 1, si 2, si 3]), .sl 1 4 (ll [si 1, si 0, si 3, si 2]), .sl 1 4 (ll [si 2, si 3, si 0, si 1]), .sl 1 4 (ll [si 3, si 2, si 1, si 0])]), .sl 1 4 (ll [si 3, si 2, si 1, si 0])], si 3),
  (55, ll [.sl 1 4 (ll [si 1, si 0, si 3, si 2]), .sl 1 4 (ll [si 0, si 1, si 2, si 3])], .sl 1 4 (ll [si 1, si 0, si 3, si 2])),
  (55, ll [.sl 1 4 (ll [si 1, si 0, si 3, si 2]), .sl 1 4 (ll [si 3, si 2, si 1, si 0])], .sl 1 4 (ll [si 2, si 3, si 0, si 1])),
  (55, ll [.sl 1 4 (ll [si 2, si 3, si 0, si 1]), .sl 1 4 (ll [si 3, si 2, si 1, si 0])], .sl 1 4 (ll [si 1, si 0, si 3, si 2])),
  (55, ll [.sl 1 4 (ll [si 3, si 2, si 1, si 0]), .sl 1 4 (ll [si 0, si 1, si 2, si 3])], .sl 1 4 (ll [si 3, si 2, si 1, si 0])),
  (55, ll [.sl 1 4 (ll [si 3, si 2, si 1, si 0]), .sl 1 4 (ll [si 3, si 2, si 1, si 0])], .sl 1 4 (ll [si 0, si 1, si 2, si 3])),
  (59, ll [.sl 1 4 (ll [.sl 1 4 (ll [si 0, si 1, si 2, si 3]), .sl 1 4 (ll [si 1, si 0, si 3, si 2]), .sl 1 4 (ll [si 2, si 3, si 0, si 1]), .sl 1 4 (ll [si 3, si 2, si 1, si 0])])], .sl 1 4 (ll [.sl 1 4 (ll [si 0, si 1, si 2, si 3]), .sl 1 4 (ll [si 1, si 0, si 3, si 2]), .sl 1 4 (ll [si 2, si 3, si 0, si 1]), .sl 1 4 (ll [si 3, si 2, si 1, si 0])])),
  (81, ll [.sl 1 4 (ll [.sl 1 4 (ll [si 0, si 1, si 2, si 3]), .sl 1 4 (ll [si 1, si 2, si 3, si 0]), .sl 1 4 (ll [si 2, si 3, si 0, si 1]), .sl 1 4 (ll [si 3, si 0, si 1, si 2])])], si 0),
  (81, ll [.sl 1 4 (ll [.sl 1 4 (ll [si 0, si 1, si 2, si 3]), .sl 1 4 (ll [si 1, si 0, si 3, si 2]), .sl 1 4 (ll [si 2, si 3, si 0, si 1]), .sl 1 4 (ll [si 3, si 2, si 1, si 0])])], si 0),
  (72, ll [.sl 1 4 (ll [.sl 1 4 (ll [si 0, si 1, si 2, si 3]), .sl 1 4 (ll [si 1, si 2, si 3, si 0]), .sl 1 4 (ll [si 2, si 3, si 0, si 1]), .sl 1 4 (ll [si 3, si 0, si 1, si 2])]), .sl 1 4 (ll [.sl 1 4 (ll [si 0, si 1, si 2, si 3]), .sl 1 4 (ll [si 1, si 0, si 3, si 2]), .sl 1 4 (ll [si 2, si 3, si 0, si 1]), .sl 1 4 (ll [si 3, si 2, si 1, si 0])]), .sc (.slice none 0 0), .sc (.slice none 0 0)], .tup (ll [.sl 1 4 (ll [.sc (.bool true), .sc (.bool false), .sc (.bool false), .sc (.bool false)]), .sc (.bool true)])),
  (72, ll [.sl 1 4 (ll [.sl 1 4 (ll [si 0, si 1, si 2, si 3]), .sl 1 4 (ll [si 1, si 2, si 3, si 0]), .sl 1 4 (ll [si 2, si 3, si 0, si 1]), .sl 1 4 (ll [si 3, si 0, si 1, si 2])]), .sl 1 4 (ll [.sl 1 4 (ll [si 0, si 1, si 2, si 3]), .sl 1 4 (ll [si 1, si 0, si 3, si 2]), .sl 1 4 (ll [si 2, si 3, si 0, si 1]), .sl 1 4 (ll [si 3, si 2, si 1, si 0])]), .sl 1 1 (ll [si 1]), .sl 1 1 (ll [si 0])], .tup (ll [.sc (.slice none 0 0), .sc (.bool false)])),
  (72, ll [.sl 1 4 (ll [.sl 1 4 (ll [si 0, si 1, si 2, si 3]), .sl 1 4 (ll [si 1, si 2, si 3, si 0]), .sl 1 4 (ll [si 2, si 3, si 0, si 1]), .sl 1 4 (ll [si 3, si 0, si 1, si 2])]), .sl 1 4 (ll [.sl 1 4 (ll [si 0, si 1, si 2, si 3]), .sl 1 4 (ll [si 1, si 0, si 3, si 2]), .sl 1 4 (ll [si 2, si 3, si 0, si 1]), .sl 1 4 (ll [si 3, si 2, si 1, si 0])]), .sl 1 1 (ll [si 1]), .sl 1 1 (ll [si 1])], .tup (ll [.sc (.slice none 0 0), .sc (.bool false)]))]
noncomputable def tab13 : Tr (List (D × D)) := addAll l13 tab12
theorem chk13 : checkSeq Tryz.prog fnT tyT 60 l13 tab12 = true := by kernel_rfl
theorem tabs13 : TabsOK Tryz.prog tab13 := seq_ok envOK tabs12 chk13
end Go.Ex
