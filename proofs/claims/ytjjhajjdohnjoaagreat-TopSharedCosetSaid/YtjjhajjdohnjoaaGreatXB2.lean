/- Proved here, with no condition of its own: summaries of calls, checked by the kernel. -/
import Derived.Test.YtjjhajjdohnjoaaGreatXB1
namespace Go.Ex
open Go Go.RowKit Go.Proofs Go.Proofs.YtjjhajjdohnjoaaGreat
set_option maxRecDepth 100000
noncomputable def l2 : List (FuncId × D × D) := [(155, ll [.sl 1 4 (ll [si 2, si 3, si 0, si 1])], .sl 1 4 (ll [si 2, si 3, si 0, si 1])),
  (155, ll [.sl 1 4 (ll [si 3, si 0, si 1, si 2])], .sl 1 4 (ll [si 3, si 0, si 1, si 2])),
  (179, ll [.sc (.int .u64 (Int.ofNat 1))], si 1),
  (138, ll [.agg (ll [si 4, .sl 1 1 (ll [.sl 1 4 (ll [si 1, si 2, si 3, si 0])])])], .tup (ll [.agg (ll [si 4, .sl 1 4 (ll [.sl 1 4 (ll [si 0, si 1, si 2, si 3]), .sl 1 1 (ll [si 1]), .sl 1 1 (ll [si 2]), .sl 1 1 (ll [si 3])]), .sl 1 4 (ll [.sl 1 4 (ll [.sl 1 4 (ll [si 0, si 1, si 2, si 3]), .sl 1 4 (ll [si 1, si 2, si 3, si 0]), .sl 1 4 (ll [si 2, si 3, si 0, si 1]), .sl 1 4 (ll [si 3, si 0, si 1, si 2])]), .sl 1 1 (ll [.sl 1 4 (ll [si 0, si 1, si 2, si 3])]), .sl 1 1 (ll [.sl 1 4 (ll [si 0, si 1, si 2, si 3])]), .sl 1 1 (ll [.sl 1 4 (ll [si 0, si 1, si 2, si 3])])])]), si 0]))]
noncomputable def tab2 : Tr (List (D × D)) := addAll l2 tab1
theorem chk2 : checkSeq Tryz.prog fnT tyT 60 l2 tab1 = true := by kernel_rfl
theorem tabs2 : TabsOK Tryz.prog tab2 := seq_ok envOK tabs1 chk2
end Go.Ex
