/- Proved here, with no condition of its own: the closures that the law calls. -/
import Derived.Test.YtojicidicefdjaaGreatCfg
namespace Go.Vg
open Go Go.RowKit Go.Hs Go.Ty Go.Ex Go.Proofs Go.Proofs.YtojicidicefdjaaGreat
set_option maxRecDepth 100000
def pzC11 : List Cert := [.far [(0, 1), (3, 1)],
.far [(0, 1), (4, 1)],
.far [(0, 1), (1, 1)],
.far [(0, 1), (2, 1)],
.far [(0, 1), (3, 1)],
.far [(0, 1), (4, 1)],
.far [(0, 1), (1, 1)],
.far [(0, 1), (2, 1)],
.far [(0, 1), (5, 1)],
.far [(0, 1), (6, 1)],
.far [(0, 1), (3, 1)],
.far [(0, 1), (4, 1)],
.far [(0, 1), (5, 1)],
.far [(0, 1), (6, 1)],
.far [(0, 1), (3, 1)],
.far [(0, 1), (4, 1)]]

theorem pzx11 : lookXC pzCfX 80 11 pzKS [(13, kG)] pzC11 = true := by kernel_rfl
end Go.Vg
namespace Go.Vg
open Go Go.RowKit Go.Hs Go.Ty Go.Ex Go.Proofs Go.Proofs.YtojicidicefdjaaGreat
set_option maxRecDepth 100000
def pzC14 : List Cert := [.far [(0, 1), (1, 1)],
.far [(0, 1), (2, 1)],
.far [(0, 1), (5, 1)],
.far [(0, 1), (6, 1)],
.far [(0, 1), (3, 1)],
.far [(0, 1), (4, 1)]]

theorem pzx14 : lookXC pzCfX 80 14 pzKS [(16, kG)] pzC14 = true := by kernel_rfl
end Go.Vg
namespace Go.Vg
open Go Go.RowKit Go.Hs Go.Ty Go.Ex Go.Proofs Go.Proofs.YtojicidicefdjaaGreat
set_option maxRecDepth 100000
def pzC17 : List Cert := [.far [(0, 1), (5, 1)],
.far [(0, 1), (6, 1)],
.far [(0, 1), (3, 1)],
.far [(0, 1), (4, 1)],
.far [(0, 1)],
.far [(0, 1)],
.far [(0, 1)],
.far [(0, 1)],
.far [(0, 1), (1, 1)],
.far [(0, 1), (2, 1)],
.far [(0, 1), (5, 1)],
.far [(0, 1), (6, 1)],
.far [(0, 1), (3, 1)],
.far [(0, 1), (4, 1)],
.far [(0, 1)],
.far [(0, 1)],
.far [(0, 1)],
.far [(0, 1)],
.far [(0, 1), (1, 1)],
.far [(0, 1), (2, 1)],
.far [(0, 1), (3, 1)],
.far [(0, 1), (4, 1)],
.far [(0, 1), (3, 1)],
.far [(0, 1), (4, 1)]]

theorem pzx17 : lookXC pzCfX 80 17 pzKS [(19, .sl kI)] pzC17 = true := by kernel_rfl
end Go.Vg
namespace Go.Vg
open Go Go.RowKit Go.Hs Go.Ty Go.Ex Go.Proofs Go.Proofs.YtojicidicefdjaaGreat
set_option maxRecDepth 100000
def pzC7 : List Cert := [.far [(0, 1), (5, 1)],
.far [(0, 1), (6, 1)],
.far [(0, 1), (3, 1)],
.far [(0, 1), (4, 1)],
.far [(0, 1), (1, 1)],
.far [(0, 1), (2, 1)],
.far [(0, 1), (5, 1)],
.far [(0, 1), (6, 1)],
.far [(0, 1), (3, 1)],
.far [(0, 1), (4, 1)],
.far [(0, 1), (1, 1)],
.far [(0, 1), (2, 1)],
.far [(0, 1), (5, 1)],
.far [(0, 1), (6, 1)],
.far [(0, 1), (3, 1)],
.far [(0, 1), (4, 1)],
.far [(0, 1), (5, 1)],
.far [(0, 1), (6, 1)],
.far [(0, 1), (3, 1)],
.far [(0, 1), (4, 1)]]

theorem pzx7 : lookXC pzCfX 80 7 pzKS [(9, kG)] pzC7 = true := by kernel_rfl
end Go.Vg
