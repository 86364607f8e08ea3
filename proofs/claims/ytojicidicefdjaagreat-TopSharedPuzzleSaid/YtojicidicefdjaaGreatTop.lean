/- Proved here, with no condition of its own: convinced answers true and turns nothing that was there. -/
import Derived.Test.YtojicidicefdjaaGreatC1
import Derived.Test.YtojicidicefdjaaGreatC2
import Derived.Test.YtojicidicefdjaaGreatC3
import Derived.Test.YtojicidicefdjaaGreatC4
import Derived.Test.YtojicidicefdjaaGreatC5
import Derived.Test.YtojicidicefdjaaGreatC6
import Derived.Test.YtojicidicefdjaaGreatC7
import Derived.Test.YtojicidicefdjaaGreatC8
import Derived.Test.YtojicidicefdjaaGreatC9
import Derived.Test.YtojicidicefdjaaGreatC10
import Derived.Test.YtojicidicefdjaaGreatC11
import Derived.Test.YtojicidicefdjaaGreatC12
import Derived.Test.YtojicidicefdjaaGreatC13
import Derived.Test.YtojicidicefdjaaGreatC14
import Derived.Test.YtojicidicefdjaaGreatC15
namespace Go.Ex
open Go Go.RowKit Go.Proofs Go.Proofs.YtojicidicefdjaaGreat
set_option maxRecDepth 100000
theorem tabs1 : TabsOK Tryz.prog tab1 := seq_ok envOK (tabs_nil _) chk1
theorem tabs2 : TabsOK Tryz.prog tab2 := seq_ok envOK tabs1 chk2
theorem tabs3 : TabsOK Tryz.prog tab3 := seq_ok envOK tabs2 chk3
theorem tabs4 : TabsOK Tryz.prog tab4 := seq_ok envOK tabs3 chk4
theorem tabs5 : TabsOK Tryz.prog tab5 := seq_ok envOK tabs4 chk5
theorem tabs6 : TabsOK Tryz.prog tab6 := seq_ok envOK tabs5 chk6
theorem tabs7 : TabsOK Tryz.prog tab7 := seq_ok envOK tabs6 chk7
theorem tabs8 : TabsOK Tryz.prog tab8 := seq_ok envOK tabs7 chk8
theorem tabs9 : TabsOK Tryz.prog tab9 := seq_ok envOK tabs8 chk9
theorem tabs10 : TabsOK Tryz.prog tab10 := seq_ok envOK tabs9 chk10
theorem tabs11 : TabsOK Tryz.prog tab11 := seq_ok envOK tabs10 chk11
theorem tabs12 : TabsOK Tryz.prog tab12 := seq_ok envOK tabs11 chk12
theorem tabs13 : TabsOK Tryz.prog tab13 := seq_ok envOK tabs12 chk13
theorem tabs14 : TabsOK Tryz.prog tab14 := seq_ok envOK tabs13 chk14
/-- 'convinced' answers true, and turns nothing. -/
theorem convinced_true (w : World) : Calls Tryz.prog 21 #[] w fun e w' => e = .returned (.bool true) ∧ Below w.heap.size w w' := by
  have h := entry_ok (E := mkE Tryz.prog fnT tyT tab14) ⟨envOK.fn, envOK.ty, envOK.mixed⟩ (hook_ok tabs14 rfl) chkTop w [] .nil
  refine Calls.mono h fun e w' ⟨V, h1, h2, h3⟩ => ?_
  cases h3
  exact ⟨h1, h2⟩
end Go.Ex
