/- Proved here, with no condition of its own: what is told of the loops and of what is made. -/
import Derived.Test.YtojicidicefdjaaGreatVC
import Derived.Test.YtojicidicefdjaaGreatEnv
namespace Go.Vg
open Go Go.RowKit Go.Hs Go.Ty Go.Ex Go.Proofs Go.Proofs.YtojicidicefdjaaGreat
set_option maxRecDepth 100000
noncomputable def cv (d : DT) : St → Option DT := fun σ => d.subst (codeV σ)
def cl (t j : Nat) : Tm := .s (1000000 + 100 * t + j)
def iR (lo hi : Tm) : DT := .int .i64 lo hi
def iW : DT := .int .i64 (.c (-9223372036854775808)) (.c 9223372036854775807)
def u8R (lo hi : Tm) : DT := .int .u8 lo hi
def oW (d : DT) : DT := .sl .own (.c 0) (.c 9223372036854775807) d
def m1 (t : Tm) : Tm := .sub t (.c 1)
/-- The type of the keys of the map in the first cell of the block at which a slot points. -/
noncomputable def keyAt (t : Nat) (f : DT → DT → DT) : St → Option DT := fun σ => match get σ.sl t with
  | some (some (.tptr id _)) => (match σ.hp[id]? with
    | some (.cells _ (.map dk dv :: _)) => some (f dk dv)
    | _ => none)
  | _ => none
def pzRow : DT := .sl .any (.sub (.c 0) (cl 1 0)) (cl 1 0) (iR (.c 0) (m1 (cl 1 0)))
noncomputable def pzLoops : List LAnn := [
  ⟨62, 5, true, [], [], [], [(0, .old, .s 16, iR (.c 0) (m1 (.s 0)))], none⟩,
  ⟨46, 6, true, [], [], [], [(19, .old, .s 21, .sl .old (cl 1 0) (cl 1 0) (iR (.c 0) (m1 (cl 1 0))))], none⟩,
  ⟨31, 4, true, [(4, cv (oW iW)), (5, cv (oW pzRow))], [], [.le (.s 4) (.mul (.c 2) (.s 13)), .le (.s 5) (.mul (.c 2) (.s 13))], [], none⟩,
  ⟨18, 11, true, [], [(11, keyAt 11 fun dk dv => .pair (.map dk dv) (.pair (oW dk) .nil))], [.le (.s 12) (.add (.s 39) (.c 1)), .or (.lt (.c 0) (.s 39)) (.le (cl 11 1) (.c 1)), .or (.lt (.c 1) (.s 39)) (.le (cl 11 1) (.c 12)), .or (.lt (.c 2) (.s 39)) (.le (cl 11 1) (.c 144)), .or (.lt (.c 3) (.s 39)) (.le (cl 11 1) (.c 1728)), .or (.lt (.c 4) (.s 39)) (.le (cl 11 1) (.c 20736)), .or (.lt (.c 5) (.s 39)) (.le (cl 11 1) (.c 248832))], [], none⟩,
  ⟨34, 5, true, [(5, keyAt 0 fun dk _ => oW dk)], [], [.le (.s 5) (.mul (.c 12) (.s 36))], [], none⟩,
  ⟨34, 8, true, [(5, keyAt 0 fun dk _ => oW dk)], [], [.le (.s 5) (.add (.mul (.c 12) (.s 36)) (.s 42))], [], none⟩,
  ⟨43, 5, false, [], [(2, cv (.pair iW (.pair (oW (oW iW)) .nil)))], [.le (.c 2) (.s 3), .le (cl 2 1) (.sub (.s 3) (.c 2))], [], some (.sub (.add (.s 17) (.c 1)) (.s 3))⟩,
  ⟨61, 1, false, [], [], [.le (.c 0) (.s 2), .lt (.s 3) (.s 0)], [], some (.sub (.s 3) (.s 2))⟩]
noncomputable def pzMade : List (Nat × Nat × (St → Option DT)) := [
  (48 + 320000 + 4000000000, 6, cv iW),
  (48 + 320000 + 4200000000, 6, cv iW),
  (48, 6, cv (iR (.c 0) (m1 (.s 5)))),
  (64, 8, cv (iR (.c 0) (m1 (.s 0)))),
  (31, 35, cv pzRow),
  (49, 3, cv (u8R (.c 0) (m1 (.s 0)))),
  (33, 6, cv (.map (.rep 64 (u8R (.c 0) (m1 (.s 0)))) iW)),
  (33, 10, cv (.rep 64 (u8R (.c 0) (m1 (.s 0))))),
  (18, 37, cv iW),
  (39, 56, cv (oW iW)),
  (41, 45, cv (oW iW)),
  (43, 34, cv (oW iW))]
def iA : DT × Bool := (iW, false)
/-- A group's cells, as an argument and as a result. -/
def gA : DT × Bool := (.pair iW (.pair (.sl .old (.c 0) (.c 9223372036854775807) (.sl .old (.c 0) (.c 9223372036854775807) iW)) .nil), true)
def gR : DT × Bool := (.pair iW (.pair (oW (oW iW)) .nil), true)
def lR : DT × Bool := (oW iW, false)

def kI : KS := .int .i64
def kG : KS := .pair kI (.sl (.sl kI))
def pzKS : KS := .pair kI (.pair kI (.pair kI (.pair kI kG)))
noncomputable def pzCf : Cfg := ⟨mkE Tryz.prog fnT tyT .nil, pzLoops, pzMade, [101], [(34, 30)], []⟩
noncomputable def pzSums : List Sum := [⟨8, [iA, iA, iA], [gR, iA], true⟩, ⟨12, [iA, iA], [gR, iA], true⟩, ⟨15, [iA], [gR, iA], true⟩, ⟨18, [gA, iA], [lR, iA], true⟩]
noncomputable def pzCfX : Cfg := ⟨mkE Tryz.prog fnT tyT .nil, [], [], [], [], pzSums⟩
end Go.Vg
