/- Proved here, with no condition of its own: summaries of calls, checked by the kernel. -/
import Derived.Test.YtjjhajjdohnjoaaGreatXB11
namespace Go.Ex
open Go Go.RowKit Go.Proofs Go.Proofs.YtjjhajjdohnjoaaGreat
set_option maxRecDepth 100000
noncomputable def l12 : List (FuncId × D × D) := [(142, ll [.sl 1 4 (ll [si 3, si 0, si 1, si 2])], .sc (.string ⟨#[3,0,1,2]⟩)),
  (119, ll [.sl 1 4 (ll [si 3, si 0, si 1, si 2]), .sl 1 4 (ll [si 1, si 2, si 3, si 0])], .sl 1 4 (ll [si 0, si 1, si 2, si 3])),
  (260, ll [.agg (ll [si 1, .sl 1 1 (ll [.sl 1 2 (ll [si 1, si 1])])]), .sc (.slice none 0 0), si 1], .tup (ll [.sc (.slice none 0 0), .agg (ll [si 0, si 0, si 0]), si 12])),
  (260, ll [.agg (ll [si 1, .sl 1 1 (ll [.sl 1 2 (ll [si 1, si 1])])]), .sc (.slice none 0 0), si 9], .tup (ll [.sl 1 2 (ll [.sl 1 2 (ll [si 1, si 1]), .sl 1 2 (ll [si 0, si 0])]), .agg (ll [si 2, si 2, si 0]), si 0])),
  (170, ll [.sl 1 2 (ll [si 1, si 1]), .sl 1 2 (ll [si 1, si 1])], .sc (.bool true)),
  (170, ll [.sl 1 2 (ll [si 0, si 0]), .sl 1 2 (ll [si 0, si 0])], .sc (.bool true)),
  (46, ll [.sl 1 4 (ll [si 1, si 2, si 3, si 0]), si 4], .sc (.bool true)),
  (54, ll [si 4], .sl 1 4 (ll [si 0, si 1, si 2, si 3])),
  (55, ll [.sl 1 4 (ll [si 0, si 1, si 2, si 3]), .sl 1 4 (ll [si 1, si 2, si 3, si 0])], .sl 1 4 (ll [si 1, si 2, si 3, si 0])),
  (71, ll [.sl 1 4 (ll [si 0, si 1, si 2, si 3]), .sl 1 4 (ll [si 1, si 2, si 3, si 0])], .sc (.bool true)),
  (55, ll [.sl 1 4 (ll [si 1, si 2, si 3, si 0]), .sl 1 4 (ll [si 1, si 2, si 3, si 0])], .sl 1 4 (ll [si 2, si 3, si 0, si 1])),
  (71, ll [.sl 1 4 (ll [si 1, si 2, si 3, si 0]), .sl 1 4 (ll [si 2, si 3, si 0, si 1])], .sc (.bool true)),
  (55, ll [.sl 1 4 (ll [si 2, si 3, si 0, si 1]), .sl 1 4 (ll [si 1, si 2, si 3, si 0])], .sl 1 4 (ll [si 3, si 0, si 1, si 2])),
  (71, ll [.sl 1 4 (ll [si 1, si 2, si 3, si 0]), .sl 1 4 (ll [si 3, si 0, si 1, si 2])], .sc (.bool true)),
  (71, ll [.sl 1 4 (ll [si 2, si 3, si 0, si 1]), .sl 1 4 (ll [si 3, si 0, si 1, si 2])], .sc (.bool true)),
  (55, ll [.sl 1 4 (ll [si 3, si 0, si 1, si 2]), .sl 1 4 (ll [si 1, si 2, si 3, si 0])], .sl 1 4 (ll [si 0, si 1, si 2, si 3])),
  (71, ll [.sl 1 4 (ll [si 2, si 3, si 0, si 1]), .sl 1 4 (ll [si 0, si 1, si 2, si 3])], .sc (.bool false)),
  (71, ll [.sl 1 4 (ll [si 1, si 2, si 3, si 0]), .sl 1 4 (ll [si 0, si 1, si 2, si 3])], .sc (.bool false)),
  (71, ll [.sl 1 4 (ll [si 0, si 1, si 2, si 3]), .sl 1 4 (ll [si 0, si 1, si 2, si 3])], .sc (.bool false)),
  (57, ll [.sl 1 4 (ll [si 0, si 1, si 2, si 3]), .sl 1 4 (ll [si 0, si 1, si 2, si 3])], .sc (.bool true)),
  (44, ll [si 4, .sl 1 1 (ll [.sl 1 4 (ll [si 1, si 2, si 3, si 0])]), si 720], .sl 1 4 (ll [.sl 1 4 (ll [si 0, si 1, si 2, si 3]), .sl 1 4 (ll [si 1, si 2, si 3, si 0]), .sl 1 4 (ll [si 2, si 3, si 0, si 1]), .sl 1 4 (ll [si 3, si 0, si 1, si 2])])),
  (46, ll [.sl 1 4 (ll [si 1, si 0, si 3, si 2]), si 4], .sc (.bool true)),
  (46, ll [.sl 1 4 (ll [si 2, si 3, si 0, si 1]), si 4], .sc (.bool true)),
  (55, ll [.sl 1 4 (ll [si 0, si 1, si 2, si 3]), .sl 1 4 (ll [si 1, si 0, si 3, si 2])], .sl 1 4 (ll [si 1, si 0, si 3, si 2])),
  (71, ll [.sl 1 4 (ll [si 0, si 1, si 2, si 3]), .sl 1 4 (ll [si 1, si 0, si 3, si 2])], .sc (.bool true)),
  (55, ll [.sl 1 4 (ll [si 0, si 1, si 2, si 3]), .sl 1 4 (ll [si 2, si 3, si 0, si 1])], .sl 1 4 (ll [si 2, si 3, si 0, si 1])),
  (71, ll [.sl 1 4 (ll [si 1, si 0, si 3, si 2]), .sl 1 4 (ll [si 2, si 3, si 0, si 1])], .sc (.bool true)),
  (55, ll [.sl 1 4 (ll [si 2, si 3, si 0, si 1]), .sl 1 4 (ll [si 1, si 0, si 3, si 2])], .sl 1 4 (ll [si 3, si 2, si 1, si 0])),
  (71, ll [.sl 1 4 (ll [si 1, si 0, si 3, si 2]), .sl 1 4 (ll [si 3, si 2, si 1, si 0])], .sc (.bool true)),
  (71, ll [.sl 1 4 (ll [si 2, si 3, si 0, si 1]), .sl 1 4 (ll [si 3, si 2, si 1, si 0])], .sc (.bool true)),
  (55, ll [.sl 1 4 (ll [si 2, si 3, si 0, si 1]), .sl 1 4 (ll [si 2, si 3, si 0, si 1])], .sl 1 4 (ll [si 0, si 1, si 2, si 3])),
  (71, ll [.sl 1 4 (ll [si 1, si 0, si 3, si 2]), .sl 1 4 (ll [si 0, si 1, si 2, si 3])], .sc (.bool false)),
  (55, ll [.sl 1 4 (ll [si 3, si 2, si 1, si 0]), .sl 1 4 (ll [si 1, si 0, si 3, si 2])], .sl 1 4 (ll [si 2, si 3, si 0, si 1])),
  (71, ll [.sl 1 4 (ll [si 2, si 3, si 0, si 1]), .sl 1 4 (ll [si 2, si 3, si 0, si 1])], .sc (.bool false)),
  (57, ll [.sl 1 4 (ll [si 2, si 3, si 0, si 1]), .sl 1 4 (ll [si 2, si 3, si 0, si 1])], .sc (.bool true)),
  (55, ll [.sl 1 4 (ll [si 3, si 2, si 1, si 0]), .sl 1 4 (ll [si 2, si 3, si 0, si 1])], .sl 1 4 (ll [si 1, si 0, si 3, si 2])),
  (71, ll [.sl 1 4 (ll [si 2, si 3, si 0, si 1]), .sl 1 4 (ll [si 1, si 0, si 3, si 2])], .sc (.bool false)),
  (71, ll [.sl 1 4 (ll [si 1, si 0, si 3, si 2]), .sl 1 4 (ll [si 1, si 0, si 3, si 2])], .sc (.bool false)),
  (57, ll [.sl 1 4 (ll [si 1, si 0, si 3, si 2]), .sl 1 4 (ll [si 1, si 0, si 3, si 2])], .sc (.bool true)),
  (55, ll [.sl 1 4 (ll [si 1, si 0, si 3, si 2]), .sl 1 4 (ll [si 1, si 0, si 3, si 2])], .sl 1 4 (ll [si 0, si 1, si 2, si 3]))]
noncomputable def tab12 : Tr (List (D × D)) := addAll l12 tab11
theorem chk12 : checkSeq Tryz.prog fnT tyT 60 l12 tab11 = true := by kernel_rfl
theorem tabs12 : TabsOK Tryz.prog tab12 := seq_ok envOK tabs11 chk12
end Go.Ex
