/- Proved here, with no condition of its own: the keys of maps read as such. -/
import Derived.Test.YtojicidicefdjaaGreatCfg
import Derived.DeepKeys5
namespace Go.Vg
open Go Go.RowKit Go.Hs Go.Ty Go.Ex Go.Proofs Go.Proofs.YtojicidicefdjaaGreat
set_option maxRecDepth 100000
theorem laidT : laidOutB Tryz.prog = true := by kernel_rfl
theorem keysOK : KeysOK pzCf := by
  refine ⟨fun s hs => (by cases hs), fun k hk => ?_⟩
  have hk' : k = 101 := by
    simp only [memN, pzCf] at hk
    simpa using hk
  subst hk'
  right
  refine ⟨64, 5, .u8, ?_, ?_, ?_, ?_, ?_, ?_, ?_⟩
  · kernel_rfl
  · kernel_rfl
  · kernel_rfl
  · kernel_rfl
  · kernel_rfl
  · exact of_decide_eq_true (by kernel_rfl)
  · exact deep_law_gate laidT (of_decide_eq_true (by kernel_rfl)) (of_decide_eq_true (by kernel_rfl)) (by kernel_rfl) (by kernel_rfl)
theorem pzE : EnvOK pzCf.E := envOK
end Go.Vg
