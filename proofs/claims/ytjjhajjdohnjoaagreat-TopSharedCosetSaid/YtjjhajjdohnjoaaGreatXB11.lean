/- Proved here, with no condition of its own: summaries of calls, checked by the kernel. -/
import Derived.Test.YtjjhajjdohnjoaaGreatXB10
namespace Go.Ex
open Go Go.RowKit Go.Proofs Go.Proofs.YtjjhajjdohnjoaaGreat
set_option maxRecDepth 100000
noncomputable def l11 : List (FuncId × D × D) := [(200, ll [.agg (ll [si 4, .sl 1 1 (ll [.sl 1 4 (ll [si 1, si 2, si 3, si 0])])]), .agg (ll [si 4, .sl 1 4 (ll [.sl 1 4 (ll [si 0, si 1, si 2, si 3]), .sl 1 1 (ll [si 1]), .sl 1 1 (ll [si 2]), .sl 1 1 (ll [si 3])]), .sl 1 4 (ll [.sl 1 4 (ll [.sl 1 4 (ll [si 0, si 1, si 2, si 3]), .sl 1 4 (ll [si 1, si 0, si 3, si 2]), .sl 1 4 (ll [si 2, si 3, si 0, si 1]), .sl 1 4 (ll [si 3, si 2, si 1, si 0])]), .sl 1 1 (ll [.sl 1 4 (ll [si 0, si 1, si 2, si 3])]), .sl 1 1 (ll [.sl 1 4 (ll [si 0, si 1, si 2, si 3])]), .sl 1 1 (ll [.sl 1 4 (ll [si 0, si 1, si 2, si 3])])])])], .tup (ll [.agg (ll [si 2, .sc (.slice none 0 0), si 4]), si 0])),
  (175, ll [si 0, si 1], .sc (.bool true)),
  (159, ll [.sl 1 4 (ll [si 0, si 1, si 2, si 3]), si 1], .tup (ll [si 1, .sc (.bool true)])),
  (161, ll [.sl 1 4 (ll [si 0, si 1, si 2, si 3])], .sl 1 4 (ll [si 0, si 1, si 2, si 3])),
  (140, ll [.agg (ll [si 4, .sl 1 4 (ll [.sl 1 4 (ll [si 0, si 1, si 2, si 3]), .sl 1 1 (ll [si 1]), .sl 1 1 (ll [si 2]), .sl 1 1 (ll [si 3])]), .sl 1 4 (ll [.sl 1 4 (ll [.sl 1 4 (ll [si 0, si 1, si 2, si 3]), .sl 1 4 (ll [si 1, si 0, si 3, si 2]), .sl 1 4 (ll [si 2, si 3, si 0, si 1]), .sl 1 4 (ll [si 3, si 2, si 1, si 0])]), .sl 1 1 (ll [.sl 1 4 (ll [si 0, si 1, si 2, si 3])]), .sl 1 1 (ll [.sl 1 4 (ll [si 0, si 1, si 2, si 3])]), .sl 1 1 (ll [.sl 1 4 (ll [si 0, si 1, si 2, si 3])])])]), .sl 1 4 (ll [si 1, si 0, si 3, si 2])], .tup (ll [.sc (.bool true), si 0])),
  (175, ll [si 1, si 2], .sc (.bool true)),
  (159, ll [.sl 1 4 (ll [si 0, si 1, si 2, si 3]), si 2], .tup (ll [si 2, .sc (.bool true)])),
  (140, ll [.agg (ll [si 4, .sl 1 4 (ll [.sl 1 4 (ll [si 0, si 1, si 2, si 3]), .sl 1 1 (ll [si 1]), .sl 1 1 (ll [si 2]), .sl 1 1 (ll [si 3])]), .sl 1 4 (ll [.sl 1 4 (ll [.sl 1 4 (ll [si 0, si 1, si 2, si 3]), .sl 1 4 (ll [si 1, si 0, si 3, si 2]), .sl 1 4 (ll [si 2, si 3, si 0, si 1]), .sl 1 4 (ll [si 3, si 2, si 1, si 0])]), .sl 1 1 (ll [.sl 1 4 (ll [si 0, si 1, si 2, si 3])]), .sl 1 1 (ll [.sl 1 4 (ll [si 0, si 1, si 2, si 3])]), .sl 1 1 (ll [.sl 1 4 (ll [si 0, si 1, si 2, si 3])])])]), .sl 1 4 (ll [si 2, si 3, si 0, si 1])], .tup (ll [.sc (.bool true), si 0])),
  (150, ll [si 4], .sl 1 4 (ll [si 0, si 1, si 2, si 3])),
  (142, ll [.sl 1 4 (ll [si 0, si 1, si 2, si 3])], .sc (.string ⟨#[0,1,2,3]⟩)),
  (119, ll [.sl 1 4 (ll [si 0, si 1, si 2, si 3]), .sl 1 4 (ll [si 1, si 0, si 3, si 2])], .sl 1 4 (ll [si 1, si 0, si 3, si 2])),
  (142, ll [.sl 1 4 (ll [si 1, si 0, si 3, si 2])], .sc (.string ⟨#[1,0,3,2]⟩)),
  (119, ll [.sl 1 4 (ll [si 0, si 1, si 2, si 3]), .sl 1 4 (ll [si 2, si 3, si 0, si 1])], .sl 1 4 (ll [si 2, si 3, si 0, si 1])),
  (142, ll [.sl 1 4 (ll [si 2, si 3, si 0, si 1])], .sc (.string ⟨#[2,3,0,1]⟩)),
  (119, ll [.sl 1 4 (ll [si 1, si 0, si 3, si 2]), .sl 1 4 (ll [si 1, si 0, si 3, si 2])], .sl 1 4 (ll [si 0, si 1, si 2, si 3])),
  (119, ll [.sl 1 4 (ll [si 1, si 0, si 3, si 2]), .sl 1 4 (ll [si 2, si 3, si 0, si 1])], .sl 1 4 (ll [si 3, si 2, si 1, si 0])),
  (142, ll [.sl 1 4 (ll [si 3, si 2, si 1, si 0])], .sc (.string ⟨#[3,2,1,0]⟩)),
  (119, ll [.sl 1 4 (ll [si 2, si 3, si 0, si 1]), .sl 1 4 (ll [si 1, si 0, si 3, si 2])], .sl 1 4 (ll [si 3, si 2, si 1, si 0])),
  (119, ll [.sl 1 4 (ll [si 2, si 3, si 0, si 1]), .sl 1 4 (ll [si 2, si 3, si 0, si 1])], .sl 1 4 (ll [si 0, si 1, si 2, si 3])),
  (119, ll [.sl 1 4 (ll [si 3, si 2, si 1, si 0]), .sl 1 4 (ll [si 1, si 0, si 3, si 2])], .sl 1 4 (ll [si 2, si 3, si 0, si 1])),
  (119, ll [.sl 1 4 (ll [si 3, si 2, si 1, si 0]), .sl 1 4 (ll [si 2, si 3, si 0, si 1])], .sl 1 4 (ll [si 1, si 0, si 3, si 2])),
  (119, ll [.sl 1 4 (ll [si 0, si 1, si 2, si 3]), .sl 1 4 (ll [si 1, si 2, si 3, si 0])], .sl 1 4 (ll [si 1, si 2, si 3, si 0])),
  (142, ll [.sl 1 4 (ll [si 1, si 2, si 3, si 0])], .sc (.string ⟨#[1,2,3,0]⟩)),
  (119, ll [.sl 1 4 (ll [si 1, si 2, si 3, si 0]), .sl 1 4 (ll [si 1, si 2, si 3, si 0])], .sl 1 4 (ll [si 2, si 3, si 0, si 1])),
  (119, ll [.sl 1 4 (ll [si 2, si 3, si 0, si 1]), .sl 1 4 (ll [si 1, si 2, si 3, si 0])], .sl 1 4 (ll [si 3, si 0, si 1, si 2]))]
noncomputable def tab11 : Tr (List (D × D)) := addAll l11 tab10
theorem chk11 : checkSeq Tryz.prog fnT tyT 60 l11 tab10 = true := by kernel_rfl
theorem tabs11 : TabsOK Tryz.prog tab11 := seq_ok envOK tabs10 chk11
end Go.Ex
