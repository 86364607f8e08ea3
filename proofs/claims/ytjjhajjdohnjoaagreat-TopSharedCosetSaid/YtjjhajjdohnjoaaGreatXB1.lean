/- Proved here, with no condition of its own: summaries of calls, checked by the kernel. -/
import Derived.Test.YtjjhajjdohnjoaaGreatXEnv
namespace Go.Ex
open Go Go.RowKit Go.Proofs Go.Proofs.YtjjhajjdohnjoaaGreat
set_option maxRecDepth 100000
noncomputable def l1 : List (FuncId × D × D) := [(122, ll [.sl 1 4 (ll [si 1, si 2, si 3, si 0])], si 0),
  (116, ll [.agg (ll [si 4, .sl 1 1 (ll [.sl 1 4 (ll [si 1, si 2, si 3, si 0])])])], si 0),
  (122, ll [.sl 1 4 (ll [si 1, si 0, si 3, si 2])], si 0),
  (122, ll [.sl 1 4 (ll [si 2, si 3, si 0, si 1])], si 0),
  (116, ll [.agg (ll [si 4, .sl 1 2 (ll [.sl 1 4 (ll [si 1, si 0, si 3, si 2]), .sl 1 4 (ll [si 2, si 3, si 0, si 1])])])], si 0),
  (162, ll [si 4], .sl 1 4 (ll [si 0, si 1, si 2, si 3])),
  (160, ll [.sl 1 4 (ll [si 0, si 1, si 2, si 3]), .sl 1 4 (ll [si 1, si 2, si 3, si 0])], .sl 1 4 (ll [si 1, si 2, si 3, si 0])),
  (161, ll [.sl 1 4 (ll [si 1, si 2, si 3, si 0])], .sl 1 4 (ll [si 3, si 0, si 1, si 2])),
  (160, ll [.sl 1 4 (ll [si 1, si 2, si 3, si 0]), .sl 1 4 (ll [si 1, si 2, si 3, si 0])], .sl 1 4 (ll [si 2, si 3, si 0, si 1])),
  (161, ll [.sl 1 4 (ll [si 2, si 3, si 0, si 1])], .sl 1 4 (ll [si 2, si 3, si 0, si 1])),
  (160, ll [.sl 1 4 (ll [si 2, si 3, si 0, si 1]), .sl 1 4 (ll [si 1, si 2, si 3, si 0])], .sl 1 4 (ll [si 3, si 0, si 1, si 2])),
  (161, ll [.sl 1 4 (ll [si 3, si 0, si 1, si 2])], .sl 1 4 (ll [si 1, si 2, si 3, si 0])),
  (160, ll [.sl 1 4 (ll [si 3, si 0, si 1, si 2]), .sl 1 4 (ll [si 1, si 2, si 3, si 0])], .sl 1 4 (ll [si 0, si 1, si 2, si 3])),
  (160, ll [.sl 1 4 (ll [si 0, si 1, si 2, si 3]), .sl 1 4 (ll [si 0, si 1, si 2, si 3])], .sl 1 4 (ll [si 0, si 1, si 2, si 3])),
  (179, ll [.sc (.int .u64 (Int.ofNat 4))], si 3),
  (175, ll [si 1, si 0], .sc (.bool false)),
  (175, ll [si 2, si 1], .sc (.bool false)),
  (175, ll [si 3, si 2], .sc (.bool false)),
  (155, ll [.sl 1 4 (ll [si 0, si 1, si 2, si 3])], .sl 1 4 (ll [si 0, si 1, si 2, si 3])),
  (155, ll [.sl 1 4 (ll [si 1, si 2, si 3, si 0])], .sl 1 4 (ll [si 1, si 2, si 3, si 0]))]
noncomputable def tab1 : Tr (List (D × D)) := addAll l1 .nil
theorem chk1 : checkSeq Tryz.prog fnT tyT 60 l1 .nil = true := by kernel_rfl
theorem tabs1 : TabsOK Tryz.prog tab1 := seq_ok envOK (tabs_nil _) chk1
end Go.Ex
