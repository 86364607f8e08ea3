/- Proved here, with no condition of its own: TopSharedPuzzle returns true for every input, and its argument reads afterwards as before. -/
import Derived.Test.YtojicidicefdjaaGreatCalls
import Derived.Test.YtojicidicefdjaaGreatRows
import Derived.ProofKit
import Derived.Lib.SmallJoins
namespace Go.Proofs.YtojicidicefdjaaGreat
open Go Go.RowKit Go.Hs Go.Vg Go.ChangeShapes Go.WideShapes Go.ChangeAt
theorem Tryz.own : ownKnob Tryz.prog.godebug = none := by kernel_rfl
theorem Tryz.laidOut : laidOutB Tryz.prog = true := by kernel_rfl
theorem own_of_below {f : Func} {sp : ChangeSpec} {apart fresh handsOn again : Bool} {H : Type} {enc : TypeId × Value → H} {P : Program} {W W' : World} {args : Array Value} {v : Value} {ds gs : List (DataW H)} {before pa pv : List MemPlace}
    (hW : DataW.Whole enc P f.params.toList sp.vars apart W args.toList ds gs before)
    (hres : ∀ (b : Nat) (s : Nat → Bool) (hd : Bool), DataW.TrodAll enc P W' b s hd f.resultTypes.toList (v.resultList f.resultTypes.size) (sp.fn H (ds ++ gs)).results [])
    (hargs : ∀ s : Nat → Bool, (∀ p ∈ before, s p.block = true) → DataW.TrodAll enc P W' 0 s true f.params.toList args.toList (sp.fn H (ds ++ gs)).args pa)
    (hvars : ∀ s : Nat → Bool, (∀ p ∈ before, s p.block = true) → DataW.TrodVars enc P W' s sp.vars (sp.fn H (ds ++ gs)).vars pv)
    (hps : before = pa ++ pv) (hb : Below W.heap.size W W')
    (hok : ∀ (j : Nat) (t : TypeId) (r : Value), f.resultTypes[j]? = some t → (v.resultList f.resultTypes.size)[j]? = some r → Value.okWide P W' .any 0 t r) :
    sp.post enc P f apart fresh handsOn again W args v W' := by
  have hlt : ∀ p ∈ before, p.block < W.heap.size := fun p hp => hW.lt p hp
  have hold : ∀ p ∈ before, (fun b => decide (b < W.heap.size)) p.block = true := fun p hp => by simpa using hlt p hp
  refine ⟨ds, gs, before, [], pa, pv, hW, hres _ _ _, hargs _ hold, hvars _ hold, World.keptBut_mono (fun p hp => ⟨hp, ?_⟩) (hb.frame (· ∈ before)), fun _ => ?_⟩
  · rw [hps, List.mem_append] at hp
    exact Or.inr hp
  · obtain ⟨_, _, _, _, _, hz, hn⟩ := hW
    refine ⟨hok, _, _, ([] ++ pa) ++ pv, ⟨[] ++ pa, pv, trodAll_append (hargs _ (fun _ _ => rfl)) (hres _ _ _), hvars _ (fun _ _ => rfl), rfl, ?_, ?_⟩, ?_⟩
    · intro b off hp
      have hin : MemPlace.cell b off ∈ before := by rw [hps]; simpa using hp
      rw [hb.frozen (hlt _ hin)]
      exact hz b off hin
    · intro ha
      have := hn ha
      rw [hps] at this
      simpa using this
    · intro p hp _
      rw [hps]
      simpa using hp
theorem reads_i : ReadsC Tryz.prog 3 kI := readsC_int Tryz.underlying3
theorem reads_p : ReadsC Tryz.prog 66 (.sl kI) := readsC_sl Tryz.underlying66 (by kernel_rfl) reads_i
theorem reads_ps : ReadsC Tryz.prog 22 (.sl (.sl kI)) := readsC_sl Tryz.underlying22 (by kernel_rfl) reads_p
theorem reads_g : ReadsC Tryz.prog 24 kG := readsC_struct Tryz.underlying24 (by kernel_rfl) (.cons rfl (by kernel_rfl) reads_i (.one rfl (by kernel_rfl) reads_ps))
theorem reads_arg : ReadsC Tryz.prog 26 pzKS := readsC_struct Tryz.underlying26 (by kernel_rfl) (.cons rfl (by kernel_rfl) reads_i (.cons rfl (by kernel_rfl) reads_i (.cons rfl (by kernel_rfl) reads_i (.cons rfl (by kernel_rfl) reads_i (.one rfl (by kernel_rfl) reads_g)))))
set_option maxRecDepth 100000 in
theorem f_lifted (os : Os) (started : os.Started) (H : Type) (enc : TypeId × Value → H) :
    ReturnsInHanded {} Tryz.checked os 3 .any (Rows.topSharedPuzzleSpec.pre6 enc Tryz.prog Tryz.f3 Rows.topSharedPuzzleRow.domain false) (Rows.topSharedPuzzleSpec.post enc Tryz.prog Tryz.f3 false true false false) := by
  refine returnsInHanded_of_change (C := Tryz.checked) Tryz.own started (by kernel_rfl) Tryz.func3
    (ChangeSpec.witness6 (enc := enc) (C := Tryz.checked) false ⟨#[], #[.agg #[.int .i64 0, .int .i64 0, .int .i64 0, .int .i64 0, .int .i64 0, .slice none 0 0]], []⟩ 8 (by kernel_rfl) (by kernel_rfl) (by kernel_rfl) (by kernel_rfl)) ?_
  intro W base args ds gs before hval0 hW hcnd _
  have hval : ∀ (j : Nat) t v, Tryz.f3.params[j]? = some t → args[j]? = some v → Value.okWide Tryz.prog W .any base t v := hval0
  have hW' := hW
  obtain ⟨p, q, hA0, hV, rfl, hfz, hnd⟩ := hW
  have hA : DataW.TrodAll enc Tryz.prog W 0 (fun _ => true) true Tryz.f3.params.toList args.toList ds p := hA0
  rw [Tryz.params3] at hA hval
  obtain ⟨v0, d0, hargs, rfl, h0⟩ := trodAll_one hA
  obtain ⟨rfl, rfl⟩ := trodVars_none hV
  have hlt : ∀ x ∈ p, x.block < W.heap.size := fun x hx => hW'.lt x (List.mem_append_left _ hx)
  subst hargs
  have hok : Hr.Okay W p (fun k => k < W.heap.size) := ⟨hlt, fun b o hx => hfz b o (List.mem_append_left _ hx)⟩
  obtain ⟨cs, rfl, hsz⟩ := okWide_struct Tryz.underlying26 (hval 0 26 v0 rfl rfl)
  obtain ⟨fuel, hf⟩ := id h0
  obtain ⟨dd, hc, hr⟩ := reads_arg H enc W fuel _ _ _ _ hf hok
  obtain ⟨a0, a1, a2, a3, a4, ds5⟩ := dd
  obtain ⟨_, _, ecs, rfl, _, _, rfl, rfl, _, _, rfl, rfl, _, _, rfl, rfl, _, _, rfl, rfl, A5, c5, rfl, hel5, hml5⟩ := hc
  have hcs : cs = #[Value.int .i64 a0, Value.int .i64 a1, Value.int .i64 a2, Value.int .i64 a3, Value.int .i64 a4, Value.slice A5 ds5.length c5] := Array.toList_inj.1 ecs
  subst hcs
  refine (top_any a0 a1 a2 a3 a4 A5 c5 ds5 W _ hel5 (fun _ h => h) hml5 hr).mono fun e W' ⟨he, hb⟩ => ?_
  subst he
  exact ⟨_, rfl, own_of_below (pa := p) (pv := []) hW' (fun _ _ _ => trodAll_mk1 (shut_bool Tryz.underlying4 true))
    (fun sp hsp => trodAll_mk1 (WideElems.Trod_stays Tryz.laidOut (by kernel_rfl) (of_decide_eq_true (by kernel_rfl)) h0 (fun x hx => hb.same (hlt x hx)) (fun x hx => hsp x (List.mem_append_left _ hx)))) (fun _ _ => rfl) rfl hb (ok_one (by kernel_rfl) rfl (okWide_bool_mk Tryz.underlying4 true))⟩
theorem TopSharedPuzzle_holds : Rows.TopSharedPuzzleSaid :=
  OpenClaim.holds_of_wide 3 Tryz.f3 rfl rfl rfl rfl rfl rfl rfl ⟨rfl, rfl, rfl, rfl, rfl⟩ rfl rfl rfl rfl rfl (by kernel_rfl) Tryz.func3 (by kernel_rfl)
    (of_decide_eq_true (by kernel_rfl)) (by unfold Func.isWrapper; rw [if_neg (by decide +kernel)]; exact ⟨rfl, rfl⟩)
    (fun os started H enc _ => f_lifted os started H enc)
end Go.Proofs.YtojicidicefdjaaGreat
