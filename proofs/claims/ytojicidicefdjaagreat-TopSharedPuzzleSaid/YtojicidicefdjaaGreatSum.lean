/- Proved here, with no condition of its own: the package by summaries. -/
import Derived.Test.YtojicidicefdjaaGreatKeys
import Derived.Test.YtojicidicefdjaaGreatF8
import Derived.Test.YtojicidicefdjaaGreatF12
import Derived.Test.YtojicidicefdjaaGreatF15
import Derived.Test.YtojicidicefdjaaGreatF18
namespace Go.Vg
open Go Go.RowKit Go.Hs Go.Ty Go.Ex Go.Proofs Go.Proofs.YtojicidicefdjaaGreat
theorem sum_of {cf : Cfg} (hE : EnvOK cf.E) (hK : KeysOK cf) {n : Nat} {s : Sum} {cs : List Cert} (h : lookC cf n s.f (s.ds.map (modeP .old)) s.rs s.tup cs = true) : s.ok cf.E.P :=
  fun w _ hv _ hR => look_ok hE hK h w hv hR
theorem pzSumsOK : ∀ s ∈ pzCfX.sums, s.ok pzCfX.E.P := by
  intro s hs
  have hs : s ∈ pzSums := hs
  simp only [pzSums, List.mem_cons, List.not_mem_nil, or_false] at hs
  rcases hs with rfl | rfl | rfl | rfl
  · exact sum_of pzE keysOK pz8
  · exact sum_of pzE keysOK pz12
  · exact sum_of pzE keysOK pz15
  · exact sum_of pzE keysOK pz18
theorem pzKeysX : KeysOK pzCfX := ⟨pzSumsOK, fun k hk => by cases hk⟩
theorem pzEX : EnvOK pzCfX.E := envOK
end Go.Vg
