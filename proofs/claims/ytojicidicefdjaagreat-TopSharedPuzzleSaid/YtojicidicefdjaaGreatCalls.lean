/- Proved here, with no condition of its own: the calls, and the law itself. -/
import Derived.Test.YtojicidicefdjaaGreatApart
import Derived.Test.YtojicidicefdjaaGreatSum
import Derived.Test.YtojicidicefdjaaGreatX
import Derived.Test.YtojicidicefdjaaGreatTop
namespace Go.Proofs.YtojicidicefdjaaGreat
open Go Go.RowKit Go.Hs Go.Vg
theorem run_enter_of {P : Program} {f : FuncId} {fn : Func} (hf : P.funcs[f]? = some fn) (hname : (fn.name != "runtime.NumGoroutine" && fn.body.isSome) = true) (args : Array Value) (w : World) : (callFunc f args).run P w = .ok (.enter f args) w := by
  rw [Bool.and_eq_true] at hname
  obtain ⟨c, hc⟩ := Option.isSome_iff_exists.1 hname.2
  exact run_enter hf (by simpa using hname.1) hc args w
theorem run_7 : ∀ args w, (callFunc 7 args).run Tryz.prog w = .ok (.enter 7 args) w := fun args w => run_enter_of Tryz.func7 (by kernel_rfl) args w
theorem run_9 : ∀ args w, (callFunc 9 args).run Tryz.prog w = .ok (.enter 9 args) w := fun args w => run_enter_of Tryz.func9 (by kernel_rfl) args w
theorem call_7 : CallOK Tryz.prog 3 pzKS.kind pzKS.small 7 := closure_ok (cf := pzCfX) (ti := 3) pzEX pzKeysX (L := [⟨9, kG, sees_r1, by decide, run_9⟩]) (by decide) pzx7
theorem run_11 : ∀ args w, (callFunc 11 args).run Tryz.prog w = .ok (.enter 11 args) w := fun args w => run_enter_of Tryz.func11 (by kernel_rfl) args w
theorem run_13 : ∀ args w, (callFunc 13 args).run Tryz.prog w = .ok (.enter 13 args) w := fun args w => run_enter_of Tryz.func13 (by kernel_rfl) args w
theorem call_11 : CallOK Tryz.prog 3 pzKS.kind pzKS.small 11 := closure_ok (cf := pzCfX) (ti := 3) pzEX pzKeysX (L := [⟨13, kG, sees_r2, by decide, run_13⟩]) (by decide) pzx11
theorem run_14 : ∀ args w, (callFunc 14 args).run Tryz.prog w = .ok (.enter 14 args) w := fun args w => run_enter_of Tryz.func14 (by kernel_rfl) args w
theorem run_16 : ∀ args w, (callFunc 16 args).run Tryz.prog w = .ok (.enter 16 args) w := fun args w => run_enter_of Tryz.func16 (by kernel_rfl) args w
theorem call_14 : CallOK Tryz.prog 3 pzKS.kind pzKS.small 14 := closure_ok (cf := pzCfX) (ti := 3) pzEX pzKeysX (L := [⟨16, kG, sees_r3, by decide, run_16⟩]) (by decide) pzx14
theorem run_17 : ∀ args w, (callFunc 17 args).run Tryz.prog w = .ok (.enter 17 args) w := fun args w => run_enter_of Tryz.func17 (by kernel_rfl) args w
theorem run_19 : ∀ args w, (callFunc 19 args).run Tryz.prog w = .ok (.enter 19 args) w := fun args w => run_enter_of Tryz.func19 (by kernel_rfl) args w
theorem call_17 : CallOK Tryz.prog 3 pzKS.kind pzKS.small 17 := closure_ok (cf := pzCfX) (ti := 3) pzEX pzKeysX (L := [⟨19, .sl kI, sees_r4, by decide, run_19⟩]) (by decide) pzx17
theorem all_calls : ∀ f ∈ [7, 11, 14, 17], CallOK Tryz.prog 3 pzKS.kind pzKS.small f ∧ ∀ args w, (callFunc f args).run Tryz.prog w = .ok (.enter f args) w := by
  intro f hf
  simp only [List.mem_cons, List.not_mem_nil, or_false] at hf
  rcases hf with rfl | rfl | rfl | rfl
  · exact ⟨call_7, run_7⟩
  · exact ⟨call_11, run_11⟩
  · exact ⟨call_14, run_14⟩
  · exact ⟨call_17, run_17⟩
theorem calls_row {w : World} {t : TypeId} {g : Nat} (h : w.heap[g]? = some (.cells #[.func (.func 7) #[] #[], .func (.func 11) #[] #[], .func (.func 14) #[] #[], .func (.func 17) #[] #[]] t)) : CallRow w (some ⟨g, 0, none⟩) [7, 11, 14, 17] := by
  intro i f hi
  have hg : g < w.heap.size := (Array.getElem?_eq_some_iff.1 h).1
  refine ⟨g, 0, rfl, hg, ?_⟩
  rw [Nat.zero_add]
  rcases i with _ | _ | _ | _ | i
  · cases hi; exact (block_cell h rfl).1
  · cases hi; exact (block_cell h rfl).1
  · cases hi; exact (block_cell h rfl).1
  · cases hi; exact (block_cell h rfl).1
  · simp at hi
end Go.Proofs.YtojicidicefdjaaGreat
namespace Go.Proofs.YtojicidicefdjaaGreat
open Go Go.RowKit Go.Hs Go.Vg
theorem own_top (a0 : Int) (a1 : Int) (a2 : Int) (a3 : Int) (a4 : Int) (A5 : Option Addr) (c5 : Nat) (ds5 : List (List Int)) (w : World) (F : Nat → Prop) (h5 : Elems (kSlice (kInt .i64)) w A5 ds5 F) (hsm : pzKS.small (a0, a1, a2, a3, a4, ds5)) : ∀ W : World, (∀ k, F k → W.heap[k]? = w.heap[k]?) → (∀ k, F k → k < W.heap.size) → Calls Tryz.prog 5 #[.agg #[Value.int .i64 a0, Value.int .i64 a1, Value.int .i64 a2, Value.int .i64 a3, Value.int .i64 a4, Value.slice A5 ds5.length c5]] W (OwnPost pzKS.kind (a0, a1, a2, a3, a4, ds5) W) := by
  intro W hW hF
  have h := small_sl (small_pair (small_pair (small_pair (small_pair (small_pair hsm).2).2).2).2).2
  refine (own_shared a0 a1 a2 a3 a4 A5 c5 ds5 W F (h5.same hW) hF (Nat.le_trans h.1 (by decide)) fun d hd => Nat.le_trans (small_sl (h.2 d hd)).1 (by decide)).mono ?_
  intro e w' ⟨A', c', he, hel', hb⟩
  exact ⟨a0, a1, a2, a3, a4, A', ds5.length, c', he, (holdsAs_pair (holdsAs_int .i64 _ _ _) (holdsAs_pair (holdsAs_int .i64 _ _ _) (holdsAs_pair (holdsAs_int .i64 _ _ _) (holdsAs_pair (holdsAs_int .i64 _ _ _) (holdsAs_pair (holdsAs_int .i64 _ _ _) (holdsAs_slice hel' (Nat.le_trans h.1 (by decide))) rfl) rfl) rfl) rfl) rfl), hb⟩
set_option maxRecDepth 20000 in
set_option maxHeartbeats 400000 in
theorem top_any (a0 : Int) (a1 : Int) (a2 : Int) (a3 : Int) (a4 : Int) (A5 : Option Addr) (c5 : Nat) (ds5 : List (List Int)) (w : World) (F : Nat → Prop) (h5 : Elems (kSlice (kInt .i64)) w A5 ds5 F) (hF : ∀ k, F k → k < w.heap.size) (m5 : ds5.length ≤ maxLen) (hrng : pzKS.rng (a0, a1, a2, a3, a4, ds5)) :
    Calls Tryz.prog 3 #[.agg #[Value.int .i64 a0, Value.int .i64 a1, Value.int .i64 a2, Value.int .i64 a3, Value.int .i64 a4, Value.slice A5 ds5.length c5]] w fun e w' => e = .returned (.bool true) ∧ Below w.heap.size w w' := by
  have H5 := Lib.hid h5
  have M5 : Hid (ds5.length ≤ maxLen) := m5
  have HF := Lib.hid hF
  have Hr := Lib.hid hrng
  clear hF hrng h5 m5
  go_enter Tryz.func3, Tryz.ntmps3
  go_wp2_with (first
    | ((go_at_call 21); (refine (Go.Ex.convinced_true w2).mono ?_); (intro e w3 p3); (obtain ⟨rfl, hb3⟩ := p3); (have Hb3 := Lib.hid hb3); clear hb3)
    | ((go_at_call 4); (refine (apart_true pzKS see_shared (by decide) (a0, a1, a2, a3, a4, ds5) a0 a1 a2 a3 a4 A5 ds5.length c5 _ F (holdsAs_pair (holdsAs_int .i64 _ _ _) (holdsAs_pair (holdsAs_int .i64 _ _ _) (holdsAs_pair (holdsAs_int .i64 _ _ _) (holdsAs_pair (holdsAs_int .i64 _ _ _) (holdsAs_pair (holdsAs_int .i64 _ _ _) (holdsAs_slice (H5.out.same fun k hk => heap_alloc2 _ _ (HF.out k hk)) M5.out) rfl) rfl) rfl) rfl) rfl) (fun k hk => Nat.lt_of_lt_of_le (HF.out k hk) (alloc2_le _ _ _)) Hr.out (fun hsm => own_top a0 a1 a2 a3 a4 A5 c5 ds5 _ F (H5.out.same fun k hk => heap_alloc2 _ _ (HF.out k hk)) hsm) _ 4 [7, 11, 14, 17] (calls_row (box2 _ _).2) all_calls (by decide)).mono ?_); (intro e w2 p2); (obtain ⟨rfl, hb2⟩ := p2); (have Hb2 := Lib.hid hb2); clear hb2))
  go_ret
  exact ⟨rfl, (((Below.refl _ _).alloc (Nat.le_refl _) _).alloc (by simp) _).trans ((Hb2.out.trans (Hb3.out.mono Hb2.out.size)).mono (alloc2_le _ _ _))⟩
end Go.Proofs.YtojicidicefdjaaGreat
