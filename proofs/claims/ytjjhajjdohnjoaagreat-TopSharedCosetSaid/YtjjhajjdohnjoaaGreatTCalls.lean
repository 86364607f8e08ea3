/- Proved here, with no condition of its own: the four calls, and the law itself. -/
import Derived.Test.YtjjhajjdohnjoaaGreatHA
import Derived.Test.YtjjhajjdohnjoaaGreatTStd
import Derived.Test.YtjjhajjdohnjoaaGreatTApart
import Derived.Test.YtjjhajjdohnjoaaGreatXTop
namespace Go.Proofs.YtjjhajjdohnjoaaGreat
open Go Go.RowKit Go.Hs
set_option maxRecDepth 20000 in
set_option maxHeartbeats 400000 in
theorem sees_13 : Sees Tryz.prog 3 13 KT := by
  intro mk w eb eo b o base F (ds : List (List Int)) xs he hh hF heb hb hlen
  have He := Lib.hid he
  have Hh : Hid (KT.Holds w b o ds F) := hh
  have HF := Lib.hid hF
  have Hlen : Hid (xs.length ≤ 900000) := hlen
  clear he hh hF hlen
  go_enter Tryz.func13, Tryz.ntmps13
  go_wp2_with ((go_at_call 14); (refine (sees_table mk w eb eo b o base F ds xs He.out Hh.out HF.out heb hb Hlen.out).mono ?_); (intro e w' hpost); (obtain ⟨rfl, hpost⟩ := hpost))
  all_goals
    go_end0
    exact ⟨rfl, hpost⟩
set_option maxRecDepth 20000 in
set_option maxHeartbeats 400000 in
theorem sees_17 : Sees Tryz.prog 3 17 KT := by
  intro mk w eb eo b o base F (ds : List (List Int)) xs he hh hF heb hb hlen
  have He := Lib.hid he
  have Hh : Hid (KT.Holds w b o ds F) := hh
  have HF := Lib.hid hF
  have Hlen : Hid (xs.length ≤ 900000) := hlen
  clear he hh hF hlen
  go_enter Tryz.func17, Tryz.ntmps17
  go_wp2_with ((go_at_call 18); (refine (sees_intses mk w eb eo b o base F ds xs He.out Hh.out HF.out heb hb Hlen.out).mono ?_); (intro e w' hpost); (obtain ⟨rfl, hpost⟩ := hpost))
  all_goals
    go_end0
    exact ⟨rfl, hpost⟩
theorem run_enter_of {P : Program} {f : FuncId} {fn : Func} (hf : P.funcs[f]? = some fn) (hname : (fn.name != "runtime.NumGoroutine" && fn.body.isSome) = true) (args : Array Value) (w : World) : (callFunc f args).run P w = .ok (.enter f args) w := by
  rw [Bool.and_eq_true] at hname
  obtain ⟨c, hc⟩ := Option.isSome_iff_exists.1 hname.2
  exact run_enter hf (by simpa using hname.1) hc args w
theorem run_13 : ∀ args w, (callFunc 13 args).run Tryz.prog w = .ok (.enter 13 args) w := fun args w => run_enter_of Tryz.func13 (by kernel_rfl) args w
theorem run_17 : ∀ args w, (callFunc 17 args).run Tryz.prog w = .ok (.enter 17 args) w := fun args w => run_enter_of Tryz.func17 (by kernel_rfl) args w
/-- The argument's cells, by their addresses. -/
theorem shared_cells {w : World} {b : Nat} {g base : Int} {ds : List (List Int)} {F : Nat → Prop} (h : KShared.Holds w b 0 (g, ds, base) F) :
    w.cell? ⟨b, 0, none⟩ = some (.int .i64 g) ∧ (∃ A c, w.cell? ⟨b, 1, none⟩ = some (.slice A ds.length c) ∧ Elems (kSlice (kInt .i64)) w A ds F) ∧ w.cell? ⟨b, 2, none⟩ = some (.int .i64 base) ∧ ds.length ≤ maxLen := by
  obtain ⟨⟨c0, _, _⟩, ⟨A, c, c1, _, _, hel, hml⟩, ⟨c2, _, _⟩⟩ := h
  exact ⟨c0, ⟨A, c, c1, hel⟩, c2, hml⟩
theorem keep3 {W w' : World} (hb : Below W.heap.size W w') {b : Nat} (hbl : b < W.heap.size) {v0 v1 v2 : Value} (h0 : W.cell? ⟨b, 0, none⟩ = some v0) (h1 : W.cell? ⟨b, 1, none⟩ = some v1) (h2 : W.cell? ⟨b, 2, none⟩ = some v2) :
    w'.cell? ⟨b, 0, none⟩ = some v0 ∧ w'.cell? ⟨b, 1, none⟩ = some v1 ∧ w'.cell? ⟨b, 2, none⟩ = some v2 :=
  ⟨(hb.cell (p := ⟨b, 0, none⟩) hbl).trans h0, (hb.cell (p := ⟨b, 1, none⟩) hbl).trans h1, (hb.cell (p := ⟨b, 2, none⟩) hbl).trans h2⟩
theorem alloc_le (w : World) (o : Obj) : w.heap.size ≤ (w.alloc o).heap.size := by simp
theorem keep3a {W w' : World} {o : Obj} (hb : Below (W.alloc o).drew.heap.size (W.alloc o).drew w') {b : Nat} (hbl : b < W.heap.size) {v0 v1 v2 : Value} (h0 : W.cell? ⟨b, 0, none⟩ = some v0) (h1 : W.cell? ⟨b, 1, none⟩ = some v1) (h2 : W.cell? ⟨b, 2, none⟩ = some v2) :
    w'.cell? ⟨b, 0, none⟩ = some v0 ∧ w'.cell? ⟨b, 1, none⟩ = some v1 ∧ w'.cell? ⟨b, 2, none⟩ = some v2 := by
  have hbl2 : b < (W.alloc o).drew.heap.size := Nat.lt_of_lt_of_le hbl (alloc_le _ _)
  have e : w'.heap[b]? = W.heap[b]? := (hb.block b hbl2).trans (Below.heap_alloc _ _ _ hbl)
  exact ⟨(World.cell?_of_block (a := ⟨b, 0, none⟩) e).trans h0, (World.cell?_of_block (a := ⟨b, 1, none⟩) e).trans h1, (World.cell?_of_block (a := ⟨b, 2, none⟩) e).trans h2⟩
theorem new_cell {W w' : World} {v : Value} {t : TypeId} (hb : Below (W.alloc (.cells #[v] t)).drew.heap.size (W.alloc (.cells #[v] t)).drew w') : w'.cell? ⟨W.heap.size, 0, none⟩ = some v ∧ w'.frozen? ⟨W.heap.size, 0, none⟩ = false := by
  have e : w'.heap[W.heap.size]? = some (.cells #[v] t) := (hb.block _ (by show _ < (W.alloc _).heap.size; rw [alloc_size]; omega)).trans (box1 _)
  exact block_cell e rfl
theorem keep3s {W : World} {b a : Nat} {u v0 v1 v2 : Value} (hne : b ≠ a) (h : W.cell? ⟨b, 0, none⟩ = some v0 ∧ W.cell? ⟨b, 1, none⟩ = some v1 ∧ W.cell? ⟨b, 2, none⟩ = some v2) :
    (W.setCell ⟨a, 0, none⟩ u).cell? ⟨b, 0, none⟩ = some v0 ∧ (W.setCell ⟨a, 0, none⟩ u).cell? ⟨b, 1, none⟩ = some v1 ∧ (W.setCell ⟨a, 0, none⟩ u).cell? ⟨b, 2, none⟩ = some v2 := by
  have e : (W.setCell ⟨a, 0, none⟩ u).heap[b]? = W.heap[b]? := Below.heap_setCell _ _ _ _ hne
  exact ⟨(World.cell?_of_block (a := ⟨b, 0, none⟩) e).trans h.1, (World.cell?_of_block (a := ⟨b, 1, none⟩) e).trans h.2.1, (World.cell?_of_block (a := ⟨b, 2, none⟩) e).trans h.2.2⟩
theorem below_drew {w : World} : Below w.heap.size w w.drew := ⟨rfl, rfl, rfl, Nat.le_refl _, fun _ _ => rfl⟩
set_option maxRecDepth 20000 in
set_option maxHeartbeats 400000 in
theorem call_7 : CallOK Tryz.prog 3 KShared Small 7 := by
  intro w b (dd : Int × List (List Int) × Int) F hh hF _
  obtain ⟨g, ds, base⟩ := dd
  obtain ⟨c0, ⟨A, c, c1, hel⟩, c2, hml⟩ := shared_cells hh
  have Hel : Hid (Elems (kSlice (kInt .i64)) w.drew A ds F) := hel
  have HF : Hid (∀ k, F k → k < w.drew.heap.size) := hF
  have Hml : Hid (ds.length ≤ maxLen) := hml
  have hbl : b < w.drew.heap.size := cell_lt c0
  clear hel hF hml hh
  go_enter Tryz.func7, Tryz.ntmps7
  go_wp2
  go_region_held3 (fun w' => w'.cell? ⟨b, 0, none⟩ = some (.int .i64 g) ∧ w'.cell? ⟨b, 1, none⟩ = some (.slice A ds.length c) ∧ w'.cell? ⟨b, 2, none⟩ = some (.int .i64 base)) (first | go_keep | assumption) ((go_at_call 8; refine (check_any g A c ds w.drew F Hel.out HF.out Hml.out).mono ?_; intro e w1 p1; obtain ⟨er, ro, rfl, _, hb1⟩ := p1; have hk1 := keep3 hb1 hbl c0 c1 c2; have Hb1 := Lib.hid hb1; clear hb1))
  go_wp2
  go_ret
  exact res_none (below_drew.trans Hb1.out)
set_option maxRecDepth 20000 in
set_option maxHeartbeats 400000 in
theorem call_9 : CallOK Tryz.prog 3 KShared Small 9 := by
  intro w b (dd : Int × List (List Int) × Int) F hh hF _
  obtain ⟨g, ds, base⟩ := dd
  obtain ⟨c0, ⟨A, c, c1, hel⟩, c2, hml⟩ := shared_cells hh
  have Hel : Hid (Elems (kSlice (kInt .i64)) w A ds F) := hel
  have Hml : Hid (ds.length ≤ maxLen) := hml
  clear hel hF hml hh
  go_enter Tryz.func9, Tryz.ntmps9
  go_wp2_with ((go_at_call 10); (refine (complete_any A c ds F w Hel Hml).mono ?_); (intro e w1 p1); (obtain ⟨t, rfl, rfl⟩ := p1))
  go_ret
  exact res_none (Below.refl _ _)
set_option maxRecDepth 20000 in
set_option maxHeartbeats 400000 in
theorem call_11 : CallOK Tryz.prog 3 KShared Small 11 := by
  intro w b (dd : Int × List (List Int) × Int) F hh hF _
  obtain ⟨g, ds, base⟩ := dd
  obtain ⟨c0, ⟨A, c, c1, hel⟩, c2, hml⟩ := shared_cells hh
  have Hel : Hid (Elems (kSlice (kInt .i64)) w.drew A ds F) := hel
  have HF : Hid (∀ k, F k → k < w.drew.heap.size) := hF
  have Hml : Hid (ds.length ≤ maxLen) := hml
  have hbl : b < w.drew.heap.size := cell_lt c0
  have hbne : b ≠ w.heap.size := Nat.ne_of_lt hbl
  clear hel hF hml hh
  go_enter Tryz.func11, Tryz.ntmps11
  go_wp2
  go_region_held3 (fun w' => w'.cell? ⟨b, 0, none⟩ = some (.int .i64 g) ∧ w'.cell? ⟨b, 1, none⟩ = some (.slice A ds.length c) ∧ w'.cell? ⟨b, 2, none⟩ = some (.int .i64 base)) (first | go_keep | assumption | exact keep3s hbne hk1) ((go_at_call 12; first
    | (refine (standard_any g A c ds base w.drew F Hel.out HF.out Hml.out).mono ?_; intro e w1 p1; obtain ⟨A1, c1', er, os, rfl, hel1, hml1, hb1⟩ := p1; have hk1 := keep3 hb1 hbl c0 c1 c2; have Hb1 := Lib.hid hb1; have Hel1 := Lib.hid hel1; have Hml1 := Lib.hid hml1; clear hb1 hel1 hml1)
    | (refine (standard_any g A c ds base (w.alloc (.cells #[.slice none 0 0] 23)).drew F (Hel.out.same fun k hk => Below.heap_alloc _ _ _ (HF.out k hk)) (fun k hk => Nat.lt_of_lt_of_le (HF.out k hk) (alloc_le _ _)) Hml.out).mono ?_; intro e w1 p1; obtain ⟨A1, c1', er, os, rfl, hel1, hml1, hb1⟩ := p1; have hk1 := keep3a hb1 hbl c0 c1 c2; have hn1 := new_cell hb1; obtain ⟨hn1, hn2⟩ := hn1; have Hb1 := Lib.hid hb1; have Hel1 := Lib.hid hel1; have Hml1 := Lib.hid hml1; clear hb1 hel1 hml1)))
  · go_wp2
    go_ret
    exact res_callFirst sees_13 (by decide) run_13 Hb1.out (cs := #[.slice A1 os.length c1']) (holdsAs_slice Hel1.out Hml1.out) rfl rfl
  · go_wp2
    go_ret
    exact res_allocFirst sees_13 (by decide) run_13 Hb1.out (holdsAs_slice Hel1.out Hml1.out) rfl rfl
set_option maxRecDepth 20000 in
set_option maxHeartbeats 400000 in
theorem call_15 : CallOK Tryz.prog 3 KShared Small 15 := by
  intro w b (dd : Int × List (List Int) × Int) F hh hF _
  obtain ⟨g, ds, base⟩ := dd
  obtain ⟨c0, ⟨A, c, c1, hel⟩, c2, hml⟩ := shared_cells hh
  have Hel : Hid (Elems (kSlice (kInt .i64)) w.drew A ds F) := hel
  have HF : Hid (∀ k, F k → k < w.drew.heap.size) := hF
  have Hml : Hid (ds.length ≤ maxLen) := hml
  have hbl : b < w.drew.heap.size := cell_lt c0
  have hbne : b ≠ w.heap.size := Nat.ne_of_lt hbl
  clear hel hF hml hh
  go_enter Tryz.func15, Tryz.ntmps15
  go_wp2
  go_region_held3 (fun w' => w'.cell? ⟨b, 0, none⟩ = some (.int .i64 g) ∧ w'.cell? ⟨b, 1, none⟩ = some (.slice A ds.length c) ∧ w'.cell? ⟨b, 2, none⟩ = some (.int .i64 base)) (first | go_keep | assumption | exact keep3s hbne hk1) ((go_at_call 16; first
    | (refine (images_any g A c ds w.drew F Hel.out HF.out Hml.out).mono ?_; intro e w1 p1; obtain ⟨A1, c1', er, os, rfl, hel1, hml1, hb1⟩ := p1; have hk1 := keep3 hb1 hbl c0 c1 c2; have Hb1 := Lib.hid hb1; have Hel1 := Lib.hid hel1; have Hml1 := Lib.hid hml1; clear hb1 hel1 hml1)
    | (refine (images_any g A c ds (w.alloc (.cells #[.slice none 0 0] 22)).drew F (Hel.out.same fun k hk => Below.heap_alloc _ _ _ (HF.out k hk)) (fun k hk => Nat.lt_of_lt_of_le (HF.out k hk) (alloc_le _ _)) Hml.out).mono ?_; intro e w1 p1; obtain ⟨A1, c1', er, os, rfl, hel1, hml1, hb1⟩ := p1; have hk1 := keep3a hb1 hbl c0 c1 c2; have hn1 := new_cell hb1; obtain ⟨hn1, hn2⟩ := hn1; have Hb1 := Lib.hid hb1; have Hel1 := Lib.hid hel1; have Hml1 := Lib.hid hml1; clear hb1 hel1 hml1)))
  · go_wp2
    go_ret
    exact res_callFirst sees_17 (by decide) run_17 Hb1.out (cs := #[.slice A1 os.length c1']) (holdsAs_slice Hel1.out Hml1.out) rfl rfl
  · go_wp2
    go_ret
    exact res_allocFirst sees_17 (by decide) run_17 Hb1.out (holdsAs_slice Hel1.out Hml1.out) rfl rfl
end Go.Proofs.YtjjhajjdohnjoaaGreat
namespace Go.Proofs.YtjjhajjdohnjoaaGreat
open Go Go.RowKit Go.Hs
theorem run_7 : ∀ args w, (callFunc 7 args).run Tryz.prog w = .ok (.enter 7 args) w := fun args w => run_enter_of Tryz.func7 (by kernel_rfl) args w
theorem run_9 : ∀ args w, (callFunc 9 args).run Tryz.prog w = .ok (.enter 9 args) w := fun args w => run_enter_of Tryz.func9 (by kernel_rfl) args w
theorem run_11 : ∀ args w, (callFunc 11 args).run Tryz.prog w = .ok (.enter 11 args) w := fun args w => run_enter_of Tryz.func11 (by kernel_rfl) args w
theorem run_15 : ∀ args w, (callFunc 15 args).run Tryz.prog w = .ok (.enter 15 args) w := fun args w => run_enter_of Tryz.func15 (by kernel_rfl) args w
theorem all_calls : ∀ f ∈ [7, 9, 11, 15], CallOK Tryz.prog 3 KShared Small f ∧ ∀ args w, (callFunc f args).run Tryz.prog w = .ok (.enter f args) w := by
  intro f hf
  simp only [List.mem_cons, List.not_mem_nil, or_false] at hf
  rcases hf with rfl | rfl | rfl | rfl
  · exact ⟨call_7, run_7⟩
  · exact ⟨call_9, run_9⟩
  · exact ⟨call_11, run_11⟩
  · exact ⟨call_15, run_15⟩
theorem calls_row {w : World} {t : TypeId} {g : Nat} (h : w.heap[g]? = some (.cells #[.func (.func 7) #[] #[], .func (.func 9) #[] #[], .func (.func 11) #[] #[], .func (.func 15) #[] #[]] t)) : CallRow w (some ⟨g, 0, none⟩) [7, 9, 11, 15] := by
  intro i f hi
  have hg : g < w.heap.size := (Array.getElem?_eq_some_iff.1 h).1
  refine ⟨g, 0, rfl, hg, ?_⟩
  rw [Nat.zero_add]
  rcases i with _ | _ | _ | _ | i
  · cases hi; exact (block_cell h rfl).1
  · cases hi; exact (block_cell h rfl).1
  · cases hi; exact (block_cell h rfl).1
  · cases hi; exact (block_cell h rfl).1
  · simp at hi
set_option maxRecDepth 20000 in
set_option maxHeartbeats 400000 in
theorem top_any (A : Option Addr) (c : Nat) (a b : Int) (ds : List (List Int)) (w : World) (F : Nat → Prop) (h : Elems (kSlice (kInt .i64)) w A ds F) (hF : ∀ k, F k → k < w.heap.size) (hdl : ds.length ≤ maxLen) :
    Calls Tryz.prog 3 #[.agg #[.int .i64 a, .slice A ds.length c, .int .i64 b]] w fun e w' => e = .returned (.bool true) ∧ Below w.heap.size w w' := by
  have Hh := Lib.hid h
  have HF := Lib.hid hF
  have Hdl : Hid (ds.length ≤ maxLen) := hdl
  clear h hF hdl
  go_enter Tryz.func3, Tryz.ntmps3
  go_wp2_with (first
    | ((go_at_call 19); (refine (Go.Ex.convinced_true w2).mono ?_); (intro e w3 p3); (obtain ⟨rfl, hb3⟩ := p3); (have Hb3 := Lib.hid hb3); clear hb3)
    | ((go_at_call 4); (refine (apart_true A c a b ds _ F (Hh.out.same fun k hk => heap_alloc2 _ _ (HF.out k hk)) (fun k hk => Nat.lt_of_lt_of_le (HF.out k hk) (alloc2_le _ _ _)) Hdl.out _ 4 [7, 9, 11, 15] (calls_row (box2 _ _).2) all_calls (by decide)).mono ?_); (intro e w2 p2); (obtain ⟨rfl, hb2⟩ := p2); (have Hb2 := Lib.hid hb2); clear hb2))
  go_ret
  exact ⟨rfl, (((Below.refl _ _).alloc (Nat.le_refl _) _).alloc (by simp) _).trans ((Hb2.out.trans (Hb3.out.mono Hb2.out.size)).mono (alloc2_le _ _ _))⟩
end Go.Proofs.YtjjhajjdohnjoaaGreat
