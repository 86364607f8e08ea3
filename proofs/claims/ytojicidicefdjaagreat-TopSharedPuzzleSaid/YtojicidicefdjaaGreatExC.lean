/- Proved here, with no condition of its own: the evaluator: frames, regions, calls. -/
import Derived.Test.YtojicidicefdjaaGreatExB
import Derived.RangeFuncNested
namespace Go.Ex
open Go Go.RowKit
section unw
variable {E : Env} (hE : EnvOK E) {B : Nat} {nest : Nest} (hN : NestOK E B nest)
/-- A frame that is on its way out. -/
structure Out' (E : Env) (B : Nat) (fi : FI) (σ : Sg) (par : Option Value) (rc : Bool) (tm : Tr Value) (H : Heap) (ds : List ADef) (chain : Option Value) (fr : Frame) (w : World) : Prop where
  fn : fr.fn = fi.fn
  kind : fr.kind = (if fi.dfr then .deferred else .normal)
  func : ∃ f, E.P.funcs[fi.fn]? = some f ∧ f.results.toList = fi.results
  rel : Rel B σ H w
  hB : B ≤ w.heap.size
  tm : ∃ nt, TRel σ tm nt fr.tmps
  ds : DsRel σ ds fr.defers
  mode : match chain with | none => fr.mode = .returning | some v => ∃ V, fr.mode = .panicking [{ v := V, recovered := false }] ∧ Con σ v V
  rc : rc = true → fi.dfr = true ∧ par.isSome = true
theorem takeDeferred_run {P : Program} {w : World} {b : Nat} (h : w.heap[b]? = some (.deferred (some []))) :
    (Instr.takeDeferred b).run P w = .ok [] { w with heap := w.heap.setIfInBounds b (.deferred none) } := by
  unfold Instr.takeDeferred
  simp only [Sem.run_bind, getObj_run h (by simp), Result.andThen_ok, setObj_run h (by simp), Sem.run_pure]
include hE hN in
theorem unw_ok (fi : FI) (hro : fi.ro = none) {tm : Tr Value} {rc : Bool} {c : Frame} {cs : List Frame} {par : Option Value} : ∀ {ds : List ADef} {chain : Option Value} {H : Heap} {nx : Nat} {r : R} {σ : Sg} {fr : Frame} {w : World},
    unw E nest fi tm rc ds chain H nx = r → r ≠ .fail → Out' E B fi σ par rc tm H ds chain fr w → Ends E B fi σ w c cs par (lone fr (curCs fi c cs par rc) w) r := by
  intro ds
  induction ds with
  | nil =>
    intro chain H nx r σ fr w h hr o
    obtain ⟨nt, ht⟩ := o.tm
    have hdf : fr.defers = [] := by have := o.ds; generalize fr.defers = d at this; cases this; rfl
    cases chain with
    | none =>
      unfold unw at h
      obtain ⟨vs, hl, h1, h2⟩ := resK_some hE h hr
      obtain ⟨Vs, h3, h4⟩ := h2 o.rel ht
      obtain ⟨f, hf, hres⟩ := o.func
      have hrun : (results f fr.tmps).run E.P w = .ok (resVal Vs) w := results_run (by rw [hres]; exact h4)
      have hmode : fr.mode = .returning := o.mode
      cases rc with
      | true =>
        simp only at h1
        subst h1
        obtain ⟨hd, hp⟩ := o.rc rfl
        refine ⟨hd, σ, resVal Vs, w, fr, Sg.le_refl σ, o.rel, Below.refl B w, hp, Steps.refl _ _, ?_, hmode, hdf, f, by rw [o.fn]; exact hf, hrun⟩
        rw [o.kind, hd]; rfl
      | false =>
        simp only at h1
        subst h1
        simp only [Ends, hro]
        refine ⟨σ, resVal Vs, w, fr, Sg.le_refl σ, o.rel, Below.refl B w, resVal_con h3, Steps.refl _ _, o.fn, ?_⟩
        cases hd : fi.dfr with
        | true => exact ⟨by rw [o.kind, hd]; rfl, hmode, hdf, f, by rw [o.fn]; exact hf, hrun⟩
        | false => exact ⟨hmode, hdf, by rw [o.kind, hd]; rfl, f, by rw [o.fn]; exact hf, hrun⟩
    | some v =>
      unfold unw at h
      cases rc with
      | true => exact absurd h.symm hr
      | false =>
        simp only at h
        subst h
        obtain ⟨V, hm, hc⟩ := o.mode
        obtain ⟨f, hf, _⟩ := o.func
        simp only [Ends, hro]
        exact ⟨σ, V, w, fr, Sg.le_refl σ, o.rel, Below.refl B w, hc, Steps.refl _ _, o.fn, fun _ => ⟨hm, hdf, f, by rw [o.fn]; exact hf⟩⟩
  | cons d ds ih =>
    intro chain H nx r σ fr w h hr o
    obtain ⟨nt, ht⟩ := o.tm
    have hnr : fr.mode ≠ .run := by
      have := o.mode
      cases chain with
      | none => rw [this]; simp
      | some v => obtain ⟨V, hm, _⟩ := this; rw [hm]; simp
    cases d with
    | coll q =>
      unfold unw at h
      split at h
      · rename_i hg
        obtain ⟨H', hs, h1⟩ := setK_spec h hr
        have hds := o.ds
        generalize hfd : fr.defers = dd at hds
        cases hds with
        | coll _ lo as _ ys hl hys =>
          obtain ⟨l', hl', hO, _⟩ := o.rel.obj _ _ hg
          rw [hl] at hl'; cases hl'
          have hO : w.heap[lo.block]? = some (.deferred (some [])) := hO
          obtain ⟨hr1, hb1⟩ := o.rel.setO (o' := .defd false) hg rfl hl hs (.deferred none) fun w' hw' => hw'
          have hstep := step_collected (P := E.P) (cs := curCs fi c cs par rc) hnr hfd rfl (takeDeferred_run (P := E.P) hO)
          refine Ends.of_steps (Sg.le_refl σ) hb1 (.one hstep) (ih h1 hr ?_)
          exact ⟨o.fn, o.kind, o.func, hr1, by simpa using o.hB, ⟨nt, ht⟩, by simpa using hys, o.mode, o.rc⟩
      · exact absurd h.symm hr
    | fn f args =>
      unfold unw at h
      have hds := o.ds
      generalize hfd : fr.defers = dd at hds
      cases hds with
      | fn _ _ as cap _ ys hargs hys =>
      have hne : callK E f (nest (.fn f) args (some chain) H nx) ≠ .fail := fun e => by rw [e] at h; exact hr h.symm
      obtain ⟨hck, hent⟩ := callK_some hE rfl hne
      -- the chain, as it stands in the frame
      obtain ⟨chain', hch, hmode⟩ : ∃ chain' : Option Value, OptCon σ chain chain' ∧ fr.mode = parMode chain' false := by
        have := o.mode
        cases chain with
        | none => exact ⟨none, trivial, this⟩
        | some v => obtain ⟨V, h1, h2⟩ := this; exact ⟨some V, h2, h1⟩
      have hstep := step_defer (P := E.P) (cs := curCs fi c cs par rc) hnr hfd rfl (hent (as ++ cap) w : (invoke (.fn (.func f) cap) as).run E.P w = _)
      have hcame := hN.dfr (r := nest (.fn f) args (some chain) H nx) rfl (fun e => hne (hck.symm.trans e)) o.rel o.hB hargs hch
      rw [← hck] at h
      have harr : (as ++ cap).toList.toArray = as ++ cap := Array.toArray_toList
      cases hn : nest (.fn f) args (some chain) H nx with
      | fail => rw [hn] at h; exact absurd h.symm hr
      | pan v H' nx' => rw [hn] at h; exact absurd h.symm hr
      | val v H' nx' =>
        rw [hn] at h hcame
        simp only at h
        obtain ⟨e, u', w', frX, ⟨τ, V, g1, g2, g3, rfl, rfl⟩, hcome, hkX, hgo⟩ := hcame { fr with defers := ys } (curCs fi c cs par rc) hmode
        rw [harr] at hcome
        have h2 := step_going_returned (P := E.P) (c := { { fr with defers := ys } with mode := parMode chain' false }) (cs := curCs fi c cs par rc) hkX hgo
        have hset : settle (parMode chain' false) = fr.mode := by
          rw [hmode]; cases chain' <;> rfl
        refine Ends.of_steps g1 g3 (.head hstep (Steps.trans hcome (.one h2))) (ih h hr ?_)
        refine ⟨o.fn, o.kind, o.func, g2, Nat.le_trans o.hB g3.size, ⟨nt, ht.mono g1⟩, hys.mono g1, ?_, o.rc⟩
        have := o.mode
        cases chain with
        | none => show settle _ = _; rw [hset]; exact this
        | some v => obtain ⟨V, h3, h4⟩ := this; exact ⟨V, by show settle _ = _; rw [hset]; exact h3, h4.mono g1⟩
      | vrec v H' nx' =>
        rw [hn] at h hcame
        simp only at h
        obtain ⟨v', hv', hcd⟩ := hcame
        subst hv'
        obtain ⟨e, u', w', frX, ⟨τ, V, g1, g2, g3, rfl, rfl⟩, hcome, hkX, hgo⟩ := hcd { fr with defers := ys } (curCs fi c cs par rc) hmode
        rw [harr] at hcome
        have h2 := step_going_returned (P := E.P) (c := { { fr with defers := ys } with mode := FrameMode.panicking [{ v := v', recovered := true }] }) (cs := curCs fi c cs par rc) hkX hgo
        refine Ends.of_steps g1 g3 (.head hstep (Steps.trans hcome (.one h2))) (ih h hr ?_)
        exact ⟨o.fn, o.kind, o.func, g2, Nat.le_trans o.hB g3.size, ⟨nt, ht.mono g1⟩, hys.mono g1, rfl, o.rc⟩
end unw
end Go.Ex
namespace Go.Ex
open Go Go.RowKit
section help
theorem putK_some {β : Type} {z r : β} {nt : Nat} {tm : Tr Value} {dst : Option Tmp} {v : Value} {k : Tr Value → β} (h : putK z nt tm dst v k = r) (hr : r ≠ z) :
    ∃ tm', k tm' = r ∧ ∀ {σ : Sg} {a : Act} {V : Value}, TRel σ tm nt a.tmps → Con σ v V → TRel σ tm' nt (a.put dst V).tmps := by
  unfold putK at h
  cases dst with
  | none => exact ⟨tm, h, fun ht _ => ht⟩
  | some d =>
    simp only at h
    split at h
    · rename_i hd
      have hd := Nat.le_of_ble_eq_true hd
      obtain ⟨tm', h1, h2⟩ := setK_spec h hr
      refine ⟨tm', h2, fun {σ a V} ht hc => ⟨by simp [Act.put, ht.size], fun i u hu => ?_, fun i hu => ?_⟩⟩
      · by_cases e : i = d
        · subst e; rw [h1.same] at hu; cases hu
          exact ⟨V, by have := ht.size; simp [Act.put, show i < a.tmps.size by omega], hc⟩
        · rw [h1.other e] at hu
          obtain ⟨U, h3, h4⟩ := ht.some i u hu
          exact ⟨U, by simp only [Act.put]; rw [Array.getElem?_setIfInBounds_ne (Ne.symm e)]; exact h3, h4⟩
      · by_cases e : i = d
        · subst e; rw [h1.same] at hu; cases hu
        · rw [h1.other e] at hu
          have := ht.none i hu
          simp only [Act.put, Array.getD_eq_getD_getElem?] at this ⊢
          rw [Array.getElem?_setIfInBounds_ne (Ne.symm e)]; exact this
    · rename_i hd
      have hd : nt ≤ d := by rw [ble_decide] at hd; simp at hd; omega
      refine ⟨tm, h, fun {σ a V} ht _ => ?_⟩
      have : (a.put (some d) V).tmps = a.tmps := by
        simp only [Act.put]
        rw [Array.setIfInBounds_eq_of_size_le (by rw [ht.size]; exact hd)]
      rw [this]; exact ht
theorem put_defers (a : Act) (dst : Option Tmp) (V : Value) : (a.put dst V).defers = a.defers := by cases dst <;> rfl
theorem wantedA_eq {σ : Sg} {tm : Tr Value} {nt : Nat} {a : Act} (ht : TRel σ tm nt a.tmps) (ops : Array Oper) (o : Oper) : Region.wanted o (yielded ops a.tmps) = wantedA ops tm o := by
  unfold Region.wanted wantedA
  cases hg : o.guard with
  | none => rfl
  | some g =>
    obtain ⟨j, want⟩ := g
    simp only
    unfold yielded
    cases hd : (ops[j]?).bind (·.dst) with
    | none => rfl
    | some d =>
      simp only [Option.bind_some]
      cases hv : get tm d with
      | none =>
        have := ht.none d hv
        rw [Array.getD_eq_getD_getElem?] at this
        cases hx : a.tmps[d]? with
        | none => rfl
        | some x =>
          rw [hx] at this
          simp at this
          subst this
          rfl
      | some v =>
        obtain ⟨V, h1, h2⟩ := ht.some d v hv
        rw [h1]
        have key : ∀ b, v = .bool b → V = .bool b := fun b e => by subst e; exact h2.scal rfl
        cases v with
        | bool b => rw [key b rfl]; cases b <;> cases want <;> rfl
        | _ => cases h2 <;> first | rfl | (rename_i hh; simp [Ex.scal] at hh; done)
theorem exitA_ok {σ : Sg} {id : Nat} {td : List It} {todo : List Item} (h : TdRel σ td todo) :
    (∀ td', exitA id td = some td' → ∃ todo', exitTo id todo = some todo' ∧ TdRel σ td' todo') ∧ (exitA id td = none → exitTo id todo = none) := by
  induction h with
  | nil => exact ⟨fun _ h => (by cases h), fun _ => rfl⟩
  | cons x y xs ys h t ih =>
    cases h with
    | inBlock j =>
      unfold exitA exitTo
      by_cases e : j = id
      · subst e; simp only [Nat.beq_refl, beq_self_eq_true, if_true]
        exact ⟨fun td' h => (by cases h; exact ⟨ys, rfl, t⟩), fun h => (by cases h)⟩
      · have h1 : Nat.beq j id = false := by
          cases hb : Nat.beq j id with
          | false => rfl
          | true => exact absurd (Nat.eq_of_beq_eq_true hb) e
        have h2 : (j == id) = false := by simpa using e
        rw [h1, h2]; exact ih
    | _ => exact ih
theorem gotoA_ok {σ : Sg} {l : Nat} {td : List It} {todo : List Item} (h : TdRel σ td todo) :
    (∀ td', gotoA l td = some td' → ∃ todo', gotoIn l todo = some todo' ∧ TdRel σ td' todo') ∧ (gotoA l td = none → gotoIn l todo = none) := by
  induction h with
  | nil => exact ⟨fun _ h => (by cases h), fun _ => rfl⟩
  | cons x y xs ys h t ih =>
    cases h with
    | inScope body =>
      unfold gotoA gotoIn
      cases hf : findLabel body l with
      | some rest => exact ⟨fun td' h => (by cases h; exact ⟨_, rfl, .cons _ _ _ _ (.code rest) (.cons _ _ _ _ (.inScope body) t)⟩), fun h => (by cases h)⟩
      | none => exact ih
    | _ => exact ih
end help
section leave
variable {E : Env} (hE : EnvOK E) {B : Nat} {nest : Nest} (hN : NestOK E B nest)
theorem loop_con {σ : Sg} {H : Heap} {w : World} (rel : Rel B σ H w) {l : Nat} {lo : Loc} {st : LoopState} {pend : Option Code} {fn : FuncId} {tm : Tr Value} {nt : Nat} {params : Array Tmp} {assign body : Code} {defers : Nat}
    (hg : get H l = some (.loop st pend fn tm nt params assign body defers)) (hl : σ l = some lo) :
    ∃ T lD, w.heap[lo.block]? = some (.loop { state := st, pending := pend, fn, tmps := T, params, assign, body, defers := lD.block }) ∧ TRel σ tm nt T ∧ σ defers = some lD := by
  obtain ⟨l', hl', hO, _⟩ := rel.obj _ _ hg
  rw [hl] at hl'; cases hl'
  exact hO
include hE hN in
theorem leaveK_ok {fi : FI} {jump : Option Code} {td : List It} {tm : Tr Value} {H : Heap} {nx : Nat} {ds : List ADef} {rc : Bool} {out : Out} (h : leaveK E nest fi jump tm H nx ds rc = out) (hr : out ≠ .fail)
    {σ : Sg} {b : Frame} {par : Option Value} {a : Act} {todo : List Item} {w : World} {c : Frame} {cs : List Frame} (m : MR E B fi σ b par td tm H ds a todo w) (hrc : rc = true → fi.dfr = true ∧ par.isSome = true)
    (hj : (jump = none ∧ todo = []) ∨ (jump = some .ret ∧ ∃ k, todo = .code .ret :: k) ∨ (∃ id k, jump = some (.exit id) ∧ todo = .code (.exit id) :: k ∧ exitTo id k = none) ∨ (∃ l k, jump = some (.goto l) ∧ todo = .code (.goto l) :: k ∧ gotoIn l k = none)) :
    ∃ r, out = .fin r ∧ (r ≠ .fail → Ends E B fi σ w c cs par (lone (b.atR a todo) (curCs fi c cs par rc) w) r) := by
  unfold leaveK at h
  cases hro : fi.ro with
  | none =>
    rw [hro] at h
    have hround := m.si.round
    rw [hro] at hround
    obtain ⟨hb, f, hf, hres⟩ := hround
    have main : ∀ todo', (Steps E.P (lone (b.atR a todo) (curCs fi c cs par rc) w) (lone { b.atR a todo' with mode := .returning } (curCs fi c cs par rc) w)) → ∀ r, unw E nest fi tm rc ds none H nx = r → r ≠ .fail →
        Ends E B fi σ w c cs par (lone (b.atR a todo) (curCs fi c cs par rc) w) r := by
      intro todo' hst r hu hrf
      refine Ends.of_steps (Sg.le_refl σ) (Below.refl B w) hst (unw_ok hE hN fi hro hu hrf ⟨m.si.fn, m.si.kind, ⟨f, hf, hres⟩, m.rel, m.hB, ⟨fi.nt, m.tm⟩, m.ds, rfl, hrc⟩)
    rcases hj with ⟨rfl, rfl⟩ | ⟨rfl, k, rfl⟩ | ⟨id, k, rfl, rfl, hx⟩ | ⟨l, k, rfl, rfl, hx⟩
    · exact ⟨_, h.symm, main [] (.one (stepR_end hb)) _ rfl⟩
    · exact ⟨_, h.symm, main _ (.one (stepR_ret hb)) _ rfl⟩
    · exact absurd h.symm hr
    · exact absurd h.symm hr
  | some l =>
    rw [hro] at h
    have hround := m.si.round
    rw [hro] at hround
    obtain ⟨lo, hl, hb, hdf, _⟩ := hround
    simp only at h
    split at h
    · rename_i st pend fn tmps nt params assign body defers hg
      obtain ⟨H', hs, h1⟩ := setK_spec h hr
      obtain ⟨T, lD, hh, htr, hd⟩ := loop_con m.rel hg hl
      have hrun : (Instr.endRound lo.block jump).run E.P w = .ok (.bool jump.isNone) { w with heap := w.heap.setIfInBounds lo.block (.loop { state := if jump.isNone then .ready else .done, pending := jump, fn, tmps := T, params, assign, body, defers := lD.block }) } := by
        unfold Instr.endRound
        simp only [Sem.run_bind, run_getLoop hh, Result.andThen_ok, setObj_run hh (by simp), Sem.run_pure]
      obtain ⟨h2, h3⟩ := m.rel.setO hg rfl hl hs
        (.loop { state := if jump.isNone then .ready else .done, pending := jump, fn, tmps := T, params, assign, body, defers := lD.block }) fun w' hw' => by
          refine ⟨T, lD, ?_, htr, hd⟩
          rw [hw']; cases jump <;> rfl
      have hk : b.kind = .normal := by rw [m.si.kind, hdf]; rfl
      have hcs : curCs fi c cs par rc = c :: cs := by unfold curCs; rw [hdf, hro]
      refine ⟨_, h1.symm, fun _ => ?_⟩
      simp only [Ends, hro]
      refine ⟨σ, .bool jump.isNone, _, Sg.le_refl σ, h2, h3, ?_, ?_⟩
      · cases jump <;> exact .sc _ rfl
      rw [hcs]
      rcases hj with ⟨rfl, rfl⟩ | ⟨rfl, k, rfl⟩ | ⟨id, k, rfl, rfl, hx⟩ | ⟨l, k, rfl, rfl, hx⟩
      · exact .one (stepR_round_end hb hk hrun)
      · exact .one (stepR_round_ret hb hk hrun)
      · exact .one (stepR_round_exit hb hk hx hrun)
      · exact .one (stepR_round_goto hb hk hx hrun)
    · exact absurd h.symm hr
end leave
end Go.Ex
namespace Go.Ex
open Go Go.RowKit
def DrawOK (E : Env) (B : Nat) (nest : Nest) : Prop :=
  ∀ {ops : Array Oper} {nt : Nat} {tm : Tr Value} {H : Heap} {nx : Nat} {k : Tr Value → Heap → Nat → Out} {out : Out}, drawK E nest ops nt tm H nx k = out → out ≠ .fail →
    ∃ tm' H' nx', k tm' H' nx' = out ∧ ∀ {id : Nat} {σ : Sg} {b : Frame} {a : Act} {items : List Item} {cs : List Frame} {w : World}, Rel B σ H w → B ≤ w.heap.size → TRel σ tm nt a.tmps →
      ∃ τ a' w', Sg.le σ τ ∧ Rel B τ H' w' ∧ Below B w w' ∧ TRel τ tm' nt a'.tmps ∧ a'.defers = a.defers ∧
        Steps E.P (lone (b.atR a (.code (.region id ops true) :: items)) cs w) (lone (b.atR a' items) cs w')
/-- The claim of one step. -/
def StepOK (E : Env) (B : Nat) (fi : FI) (σ : Sg) (b : Frame) (par : Option Value) (a : Act) (todo : List Item) (rc : Bool) (w : World) (c : Frame) (cs : List Frame) : Out → Prop
  | .fail => False
  | .fin r => r ≠ .fail → Ends E B fi σ w c cs par (lone (b.atR a todo) (curCs fi c cs par rc) w) r
  | .cont td' tm' H' _ ds' rc' => ∃ τ a' todo' w', Sg.le σ τ ∧ Below B w w' ∧ MR E B fi τ b par td' tm' H' ds' a' todo' w' ∧ (rc' = true → fi.dfr = true ∧ par.isSome = true) ∧
      Steps E.P (lone (b.atR a todo) (curCs fi c cs par rc) w) (lone (b.atR a' todo') (curCs fi c cs par rc') w')
section step
variable {E : Env} (hE : EnvOK E) {B : Nat} {nest : Nest} (hN : NestOK E B nest) (hD : DrawOK E B nest)
variable {fi : FI} {tm : Tr Value} {H : Heap} {nx : Nat} {ds : List ADef} {rc : Bool} {out : Out} {σ : Sg} {b : Frame} {par : Option Value} {a : Act} {w : World} {c : Frame} {cs : List Frame}
/-- A step that only turns what is to be done. -/
theorem stay {td td' : List It} {todo todo' : List Item} (m : MR E B fi σ b par td tm H ds a todo w) (hrc : rc = true → fi.dfr = true ∧ par.isSome = true) (ht : TdRel σ td' todo')
    (hs : Go.step E.P (lone (b.atR a todo) (curCs fi c cs par rc) w) = .next (lone (b.atR a todo') (curCs fi c cs par rc) w)) : StepOK E B fi σ b par a todo rc w c cs (.cont td' tm H nx ds rc) :=
  ⟨σ, a, todo', w, Sg.le_refl σ, Below.refl B w, ⟨m.si, m.rel, m.hB, m.tm, ht, m.ds⟩, hrc, .one hs⟩
theorem inRegion_cons {ops : Array Oper} {o : Oper} {rest : List Oper} {is : List Nat} (h : is.map (fun i => ops[i]?) = (o :: rest).map some) : ∃ i is', is = i :: is' ∧ ops[i]? = some o ∧ is'.map (fun i => ops[i]?) = rest.map some := by
  cases is with
  | nil => simp at h
  | cons i is' => simp at h; exact ⟨i, is', rfl, h.1, h.2⟩
theorem range_map (ops : Array Oper) : (List.range ops.size).map (fun i => ops[i]?) = ops.toList.map some := by
  apply List.ext_getElem?
  intro i
  by_cases hi : i < ops.size
  · simp [hi]
  · simp [hi]
include hE hN in
/-- One operation of a region in the order of the text. -/
theorem step_op {ops : Array Oper} {o : Oper} {rest : List Oper} {k : List It} {todo : List Item} (h : step E nest fi (.inRegion ops (o :: rest) :: k) tm H nx ds rc = out) (hr : out ≠ .fail)
    (m : MR E B fi σ b par (.inRegion ops (o :: rest) :: k) tm H ds a todo w) (hrc : rc = true → fi.dfr = true ∧ par.isSome = true) : StepOK E B fi σ b par a todo rc w c cs out := by
  have htd := m.td
  cases htd with
  | cons _ y _ items hy hk =>
  cases hy with
  | inRegion _ _ is his =>
  obtain ⟨i, is', rfl, hoi, his'⟩ := inRegion_cons his
  unfold step at h
  dsimp only at h
  have hcont : ∀ {τ : Sg} {tm' : Tr Value} {H' : Heap} {ds' : List ADef} {a' : Act} {w' : World}, Sg.le σ τ → Rel B τ H' w' → Below B w w' → TRel τ tm' fi.nt a'.tmps → DsRel τ ds' a'.defers →
      MR E B fi τ b par (.inRegion ops rest :: k) tm' H' ds' a' (.inRegion ops is' :: items) w' := fun hle hrel hbel htm hds =>
    ⟨m.si.mono hle, hrel, Nat.le_trans m.hB hbel.size, htm, .cons _ _ _ _ (.inRegion ops rest is' his') (hk.mono hle), hds⟩
  cases hw : wantedA ops tm o with
  | false =>
    rw [hw] at h
    obtain ⟨tm', h1, h2⟩ := putK_some h hr
    subst h1
    have hstep := stepR_op_skip (P := E.P) (b := b) (a := a) (k := items) (cs := curCs fi c cs par rc) (w := w) (ops := ops) (i := i) (rest := is') (by rw [hoi]; simp only [Option.map_some, Option.getD_some]; rw [wantedA_eq m.tm, hw])
    rw [hoi] at hstep
    exact ⟨σ, a.put o.dst undef, _, w, Sg.le_refl σ, Below.refl B w, hcont (Sg.le_refl σ) m.rel (Below.refl B w) (h2 m.tm .undef) (by rw [put_defers]; exact m.ds), hrc, .one hstep⟩
  | true =>
    rw [hw] at h
    dsimp only at h
    have hwant : Region.wanted o (yielded ops a.tmps) = true := by rw [wantedA_eq m.tm, hw]
    -- an operation that opR carries out
    have general : ∀ {out : Out}, genOp E nest fi ops o rest k tm H nx ds rc = out → out ≠ .fail → StepOK E B fi σ b par a (.inRegion ops (i :: is') :: items) rc w c cs out := by
      intro out h hr
      unfold genOp at h
      have hop : opR E nest o tm H nx ≠ .fail := fun e => by rw [e] at h; exact hr h.symm
      have hst := opR_ok hE hN rfl hop σ w fi.nt b a items (curCs fi c cs par rc) ops i is' hoi hwant m.rel m.hB m.tm
      cases hv : opR E nest o tm H nx with
      | fail => exact absurd hv hop
      | vrec v H' nx' => rw [hv] at h; exact absurd h.symm hr
      | val v H' nx' =>
        rw [hv] at h hst
        obtain ⟨tm', h1, h2⟩ := putK_some h hr
        subst h1
        obtain ⟨τ, V, w', g1, g2, g3, g4, g5⟩ := hst
        exact ⟨τ, _, _, w', g1, g4, hcont g1 g3 g4 (h2 (m.tm.mono g1) g2) (by rw [put_defers]; exact m.ds.mono g1), hrc, g5⟩
      | pan v H' nx' =>
        rw [hv] at h hst
        obtain ⟨τ, V, w', g1, g2, g3, g4, g5⟩ := hst
        cases hro : fi.ro with
        | none =>
          rw [hro] at h
          have hround := m.si.round
          rw [hro] at hround
          obtain ⟨hb, f, hf, hres⟩ := hround
          subst h
          intro hrf
          refine Ends.of_steps g1 g4 g5 (unw_ok hE hN fi hro rfl hrf ⟨m.si.fn, m.si.kind, ⟨f, hf, hres⟩, g3, Nat.le_trans m.hB g4.size, ⟨fi.nt, m.tm.mono g1⟩, m.ds.mono g1, ⟨V, rfl, g2⟩, hrc⟩)
        | some l =>
          rw [hro] at h
          simp only at h
          split at h
          · subst h
            intro _
            have hround := m.si.round
            rw [hro] at hround
            obtain ⟨lo, hl, hb, hdf, ff, hff⟩ := hround
            have hdem : a.defers = [] := by have := m.ds; generalize a.defers = d at this; cases this; rfl
            have hcs : curCs fi c cs par false = c :: cs := by unfold curCs; rw [hdf, hro]
            simp only [Ends, hro]
            refine ⟨τ, V, w', g1, g3, g4, g2, Steps.trans g5 (.one ?_)⟩
            rw [hcs]
            have hfun : ∃ fn, E.P.funcs[b.fn]? = some fn := ⟨ff, by rw [m.si.fn]; exact hff⟩
            exact step_leave_panicked (P := E.P) ⟨rfl, hdem, hfun⟩
          · exact absurd h.symm hr
    cases hop : o.op with
    | defer cl =>
      rw [hop] at h
      dsimp only at h
      cases hcal : cl.callee with
      | value f =>
        cases hro : fi.ro with
        | some l => rw [hcal, hro] at h; exact absurd h.symm hr
        | none =>
          rw [hcal, hro] at h
          dsimp only at h
          obtain ⟨fv, hf, h1⟩ := evK_some h hr
          clear h
          obtain ⟨vs, hv, h2⟩ := evLK_some h1 hr
          clear h1
          split at h2
          · rename_i g first cap
            obtain ⟨tm', h3, h4⟩ := putK_some h2 hr
            subst h3
            have hround := m.si.round
            rw [hro] at hround
            obtain ⟨hb, _⟩ := hround
            obtain ⟨xs, ys, he, h5, h6⟩ := fn_con (evA_ok m.tm hf)
            let d : Deferred := { target := .fn (.func g) ⟨ys⟩, args := ⟨xs⟩ ++ cl.args.map a.eval }
            have hrun : (execOp a.eval o).run E.P w = .ok (.defer d) w := by
              rw [exec_eq hop]
              obtain ⟨callee, args, ats⟩ := cl
              simp only at hcal
              subst hcal
              simp only [execOp, Sem.run_bind, resolve_value he, Result.andThen_ok]
              rfl
            have hstep : Go.step E.P (lone (b.atR a (.inRegion ops (i :: is') :: items)) (curCs fi c cs par rc) w) = .next (lone (b.atR (({ a with defers := d :: a.defers } : Act).put o.dst undef) (.inRegion ops is' :: items)) (curCs fi c cs par rc) w) := by
              refine step_lone_go ?_
              rw [stepGR_op hoi hwant, hb, Oper.semAt_none]
              simp only [stepG.apply, Sem.runT_eq, hrun, if_true, GStep.bare_after, GStep.bare_go]
              have hfin := Frame.finish_atR b ({ a with defers := d :: a.defers } : Act) ops i is' items undef
              rw [hoi] at hfin
              simp only [Option.bind_some] at hfin
              rw [← hfin]
              rfl
            refine ⟨σ, _, _, w, Sg.le_refl σ, Below.refl B w, hcont (Sg.le_refl σ) m.rel (Below.refl B w) (h4 (a := { a with defers := d :: a.defers }) m.tm .undef) ?_, hrc, .one hstep⟩
            rw [put_defers]
            refine .fn g _ _ _ _ _ ?_ m.ds
            simpa using h5.append ((hv m.tm).append h6)
          · exact absurd h2.symm hr
      | invoke r n => rw [hcal] at h; exact absurd h.symm hr
      | builtin bi => rw [hcal] at h; exact absurd h.symm hr
    | panic x =>
      rw [hop] at h
      dsimp only at h
      obtain ⟨v, hv, h1⟩ := evK_some h hr
      clear h
      split at h1
      · rename_i t u hro
        subst h1
        intro hrf
        have hround := m.si.round
        rw [hro] at hround
        obtain ⟨hb, f, hf, hres⟩ := hround
        have hc := evA_ok m.tm hv
        generalize hX : a.eval x = X at hc
        cases hc with
        | sc _ h => simp [Ex.scal] at h
        | iface _ _ u' hu =>
        have hrun : (execOp a.eval o).run E.P w = .halt (.panic (.iface t u')) w := by
          rw [exec_eq hop]
          simp [execOp, Instr.panic, hX]
        have hstep : Go.step E.P (lone (b.atR a (.inRegion ops (i :: is') :: items)) (curCs fi c cs par rc) w) = .next (lone { b.atR a (.inRegion ops (i :: is') :: items) with mode := .panicking [{ v := .iface t u', recovered := false }] } (curCs fi c cs par rc) w) := by
          refine step_lone_go ?_
          rw [stepGR_op hoi hwant, hb, Oper.semAt_none]
          simp only [stepG.apply, Sem.runT_eq, hrun, if_true, GStep.bare_after, GStep.bare_go]
          rfl
        exact Ends.of_steps (Sg.le_refl σ) (Below.refl B w) (.one hstep) (unw_ok hE hN fi hro rfl hrf ⟨m.si.fn, m.si.kind, ⟨f, hf, hres⟩, m.rel, m.hB, ⟨fi.nt, m.tm⟩, m.ds, ⟨_, rfl, .iface t u u' hu⟩, hrc⟩)
      · exact absurd h1.symm hr
    | call cl =>
      rw [hop] at h
      obtain ⟨callee, args, ats⟩ := cl
      cases callee with
      | value f => exact general h hr
      | invoke r n => exact general h hr
      | builtin bi =>
        cases bi
        case recover =>
          dsimp only at h
          split at h
          · rename_i v hro hdf hp
            obtain ⟨tm', h3, h4⟩ := putK_some h hr
            subst h3
            have hround := m.si.round
            rw [hro] at hround
            obtain ⟨hb, _⟩ := hround
            have hpar := m.si.par
            rw [hp] at hpar
            cases par with
            | none => exact hpar.elim
            | some V =>
            have hrun : (execOp a.eval o).run E.P w = .ok .recover w := by rw [exec_eq hop]; rfl
            have hk : b.kind = .deferred := by rw [m.si.kind, hdf]; rfl
            have hstep : Go.step E.P (lone (b.atR a (.inRegion ops (i :: is') :: items)) (curCs fi c cs (some V) false) w) = .next (lone (b.atR (a.put o.dst V) (.inRegion ops is' :: items)) (curCs fi c cs (some V) true) w) := by
              refine step_lone_go ?_
              rw [stepGR_op hoi hwant, hb, Oper.semAt_none]
              simp only [stepG.apply, Sem.runT_eq, hrun, if_true, GStep.bare_after]
              simp only [Frame.atR, hb, curCs, hdf, tryRecover, hk, parMode]
              have hfin := Frame.finish_atR b a ops i is' items V
              rw [hoi] at hfin
              simp only [Option.bind_some, Frame.atR, hb, hk] at hfin
              simp only [GStep.bare_go, hfin]
            exact ⟨σ, _, _, w, Sg.le_refl σ, Below.refl B w, hcont (Sg.le_refl σ) m.rel (Below.refl B w) (h4 m.tm hpar) (by rw [put_defers]; exact m.ds), fun _ => ⟨hdf, rfl⟩, .one hstep⟩
          · rename_i rc _ hro hdf hp
            obtain ⟨tm', h3, h4⟩ := putK_some h hr
            subst h3
            have hround := m.si.round
            rw [hro] at hround
            obtain ⟨hb, _⟩ := hround
            have hpar := m.si.par
            rw [hp] at hpar
            cases par with
            | some V => exact hpar.elim
            | none =>
            have hrun : (execOp a.eval o).run E.P w = .ok .recover w := by rw [exec_eq hop]; rfl
            have hk : b.kind = .deferred := by rw [m.si.kind, hdf]; rfl
            have hstep : Go.step E.P (lone (b.atR a (.inRegion ops (i :: is') :: items)) (curCs fi c cs none rc) w) = .next (lone (b.atR (a.put o.dst .nilIface) (.inRegion ops is' :: items)) (curCs fi c cs none rc) w) := by
              refine step_lone_go ?_
              rw [stepGR_op hoi hwant, hb, Oper.semAt_none]
              simp only [stepG.apply, Sem.runT_eq, hrun, if_true, GStep.bare_after]
              simp only [Frame.atR, hb, curCs, hdf, tryRecover, hk, parMode]
              have hfin := Frame.finish_atR b a ops i is' items .nilIface
              rw [hoi] at hfin
              simp only [Option.bind_some, Frame.atR, hb, hk] at hfin
              simp only [GStep.bare_go, hfin]
            exact ⟨σ, _, _, w, Sg.le_refl σ, Below.refl B w, hcont (Sg.le_refl σ) m.rel (Below.refl B w) (h4 m.tm (.sc _ rfl)) (by rw [put_defers]; exact m.ds), hrc, .one hstep⟩
          · exact absurd h.symm hr
        all_goals exact general h hr
    | _ => rw [hop] at h; exact general h hr
end step
end Go.Ex
namespace Go.Ex
open Go Go.RowKit
section step
variable {E : Env} (hE : EnvOK E) {B : Nat} {nest : Nest} (hN : NestOK E B nest) (hD : DrawOK E B nest)
variable {fi : FI} {tm : Tr Value} {H : Heap} {nx : Nat} {ds : List ADef} {rc : Bool} {out : Out} {σ : Sg} {b : Frame} {par : Option Value} {a : Act} {w : World} {c : Frame} {cs : List Frame}
include hE hN in
theorem step_range {f : Operand} {params : Array Tmp} {assign body : Code} {k : List It} {todo : List Item} (h : step E nest fi (.code (.rangeFunc f params assign body) :: k) tm H nx ds rc = out) (hr : out ≠ .fail)
    (m : MR E B fi σ b par (.code (.rangeFunc f params assign body) :: k) tm H ds a todo w) (hrc : rc = true → fi.dfr = true ∧ par.isSome = true) : StepOK E B fi σ b par a todo rc w c cs out := by
  have htd := m.td
  cases htd with
  | cons _ y _ items hy hk =>
  cases hy with
  | code _ =>
  unfold step at h
  dsimp only at h
  obtain ⟨fv, hf, h1⟩ := evK_some h hr
  clear h
  split at h1
  · rename_i g first cap
    obtain ⟨xs, ys, he, h5, h6⟩ := fn_con (evA_ok m.tm hf)
    -- the call that follows, from whatever world the record was laid in
    have follow : ∀ {l : Nat} {lo : Loc} {τ : Sg} {w1 : World} {H2 : Heap} {n2 : Nat} {ds' : List ADef} {mark : List Deferred},
        Sg.le σ τ → τ l = some lo → Rel B τ H2 w1 → Below B w w1 → DsRel τ ds' (mark ++ a.defers) →
        (Instr.enterLoop b.fn a.tmps params assign body b.roundOf).run E.P w = .ok (lo.block, mark) w1 →
        (match callK E g (nest (.fn g) (first.toList ++ (.func (.yield l) #[] #[] :: cap.toList)) none H2 n2) with
              | .val _ H3 n3 => .cont (.endRF l :: k) tm H3 n3 ds' rc
              | _ => .fail) = out → StepOK E B fi σ b par a (.code (.rangeFunc f params assign body) :: items) rc w c cs out := by
      intro l lo τ w1 H2 n2 ds' mark hle hl hrel hbel hds hent h
      have hne : callK E g (nest (.fn g) (first.toList ++ (.func (.yield l) #[] #[] :: cap.toList)) none H2 n2) ≠ .fail := fun e => by rw [e] at h; exact hr h.symm
      obtain ⟨hck, henter⟩ := callK_some hE rfl hne
      rw [← hck] at h
      have hargs : ConL τ (first.toList ++ (.func (.yield l) #[] #[] :: cap.toList)) (xs ++ (.func (.yield lo.block) #[] #[] :: ys)) :=
        (h5.mono hle).append (.cons _ _ _ _ (.yld l lo [] [] [] [] hl .nil .nil) (h6.mono hle))
      have hcame := hN.call (r := nest (.fn g) (first.toList ++ (.func (.yield l) #[] #[] :: cap.toList)) none H2 n2) rfl (fun e => hne (hck.symm.trans e)) hrel (Nat.le_trans m.hB hbel.size) hargs
      have hstep := stepR_rangeFunc (P := E.P) (b := b) (a := a) (k := items) (cs := curCs fi c cs par rc) (g := f) hent
        (d := { target := .fn (.func g) ⟨ys⟩, args := ⟨xs⟩ ++ #[.func (.yield lo.block) #[] #[]] }) (w₁' := w1) (f := g) (args := (xs ++ (.func (.yield lo.block) #[] #[] :: ys)).toArray) (w₂ := w1)
        (by
          unfold rangeCall
          rw [resolve_value (P := E.P) (w := w1) he]
          simp [Act.eval])
        (by
          show (callFunc g ((⟨xs⟩ ++ #[Value.func (.yield lo.block) #[] #[]]) ++ ⟨ys⟩)).run E.P w1 = _
          have harr : (⟨xs⟩ ++ #[Value.func (.yield lo.block) #[] #[]]) ++ ⟨ys⟩ = (xs ++ (.func (.yield lo.block) #[] #[] :: ys)).toArray := by apply Array.toList_inj.1; simp
          rw [harr]; exact henter _ w1)
      cases hv : nest (.fn g) (first.toList ++ (.func (.yield l) #[] #[] :: cap.toList)) none H2 n2 with
      | fail => rw [hv] at h; exact absurd h.symm hr
      | vrec v H' nx' => rw [hv] at h; exact absurd h.symm hr
      | pan v H' nx' => rw [hv] at h; exact absurd h.symm hr
      | val v H' nx' =>
        rw [hv] at h hcame
        simp only at h
        subst h
        obtain ⟨e, w', fr, ⟨τ', V, g1, g2, g3, rfl, g4⟩, hcome, hfn, hleave⟩ := hcame (b.atR { a with defers := mark ++ a.defers } (.inRangeFunc lo.block :: items) :: curCs fi c cs par rc)
        have hback := step_leave_returned (P := E.P) hleave (c := b.atR { a with defers := mark ++ a.defers } (.inRangeFunc lo.block :: items)) (cs := curCs fi c cs par rc)
        rw [finish_atR_inRangeFunc] at hback
        refine ⟨τ', { a with defers := mark ++ a.defers }, .endRangeFunc lo.block :: items, w', hle.trans' g1, hbel.trans g3, ⟨m.si.mono (hle.trans' g1), g2, Nat.le_trans (Nat.le_trans m.hB hbel.size) g3.size, m.tm.mono (hle.trans' g1), ?_, hds.mono g1⟩, hrc, .head hstep (Steps.trans hcome (.one hback))⟩
        exact .cons _ _ _ _ (.endRF l lo (g1 _ _ hl)) (hk.mono (hle.trans' g1))
    unfold rfNew at h1
    cases hro : fi.ro with
    | none =>
      rw [hro] at h1
      dsimp only at h1
      have hround := m.si.round
      rw [hro] at hround
      obtain ⟨hb, ff, hff, _⟩ := hround
      obtain ⟨H1, hn1, hs1, h2⟩ := newK_some h1 hr
      obtain ⟨H2, hn2, hs2, h3⟩ := newK_some h2 hr
      obtain ⟨τ1, t1, t2, t3, t4⟩ := m.rel.alloc m.hB hn1 hs1 (.deferred (some [])) 0 fun τ _ _ => alloc_new _ _
      obtain ⟨τ2, u1, u2, u3, u4⟩ := t3.alloc (by rw [alloc_size]; have := m.hB; omega) hn2 hs2 (.loop { state := .ready, pending := none, fn := b.fn, tmps := a.tmps, params, assign, body, defers := w.heap.size }) 0 fun τ hle hτ => by
        refine ⟨a.tmps, ⟨w.heap.size, 0, 0⟩, ?_, m.tm.mono (t1.trans' hle), hle _ _ t2⟩
        rw [alloc_new, m.si.fn]
      refine follow (mark := [{ target := .collected w.heap.size, args := #[] }]) (t1.trans' u1) u2 u3 (t4.trans u4) (.coll nx ⟨w.heap.size, 0, 0⟩ _ _ _ (u1 _ _ t2) (m.ds.mono (t1.trans' u1))) ?_ h3
      rw [hb, run_enterLoop_outer, alloc_size]
    | some l0 =>
      rw [hro] at h1
      dsimp only at h1
      have hround := m.si.round
      rw [hro] at hround
      obtain ⟨lo, hl, hb, hdf, ff, hff⟩ := hround
      split at h1
      · rename_i st pend fn tmps nt params' assign' body' dfs hg
        obtain ⟨H1, hn1, hs1, h2⟩ := newK_some h1 hr
        obtain ⟨T, lD, hh, htr, hd⟩ := loop_con m.rel hg hl
        obtain ⟨τ1, t1, t2, t3, t4⟩ := m.rel.alloc m.hB hn1 hs1 (.loop { state := .ready, pending := none, fn := b.fn, tmps := a.tmps, params, assign, body, defers := lD.block }) 0 fun τ hle hτ => by
          refine ⟨a.tmps, lD, ?_, m.tm.mono hle, hle _ _ hd⟩
          rw [alloc_new, m.si.fn]
        refine follow (mark := []) t1 t2 t3 t4 (by simpa using m.ds.mono t1) ?_ h2
        rw [hb, run_enterLoop_inner hh]
      · exact absurd h1.symm hr
  · exact absurd h1.symm hr
include hE hN hD in
/-- Every step. -/
theorem step_ok {td : List It} {todo : List Item} (h : step E nest fi td tm H nx ds rc = out) (hr : out ≠ .fail)
    (m : MR E B fi σ b par td tm H ds a todo w) (hrc : rc = true → fi.dfr = true ∧ par.isSome = true) : StepOK E B fi σ b par a todo rc w c cs out := by
  have fin : ∀ {r : R}, out = .fin r → (r ≠ .fail → Ends E B fi σ w c cs par (lone (b.atR a todo) (curCs fi c cs par rc) w) r) → StepOK E B fi σ b par a todo rc w c cs out := fun he hh => by subst he; exact hh
  have htd := m.td
  cases htd with
  | nil =>
    obtain ⟨r, h1, h2⟩ := leaveK_ok hE hN (show leaveK E nest fi none tm H nx ds rc = out from h) hr m hrc (.inl ⟨rfl, rfl⟩) (c := c) (cs := cs)
    exact fin h1 h2
  | cons x y k items hy hk =>
    cases hy with
    | inBlock id => subst h; exact stay m hrc hk stepR_inBlock
    | inScope cc => subst h; exact stay m hrc hk (step_lone_go (by simp [stepG, stepG.exec, Frame.atR]))
    | inLoop cc => subst h; exact stay m hrc (.cons _ _ _ _ (.code cc) (.cons _ _ _ _ (.inLoop cc) hk)) stepR_inLoop
    | inRegion ops rest is his =>
      cases rest with
      | nil =>
        subst h
        have : is = [] := by cases is with | nil => rfl | cons _ _ => simp at his
        subst this
        exact stay m hrc hk stepR_region_end
      | cons o rest => exact step_op hE hN h hr m hrc
    | endRF l lo hl =>
      unfold step at h
      dsimp only at h
      split at h
      · rename_i st pend fn tmps nt params assign body defers hg
        obtain ⟨T, lD, hh, htr, hd⟩ := loop_con m.rel hg hl
        split at h
        · exact absurd h.symm hr
        · rename_i hnb
          obtain ⟨H', hs, h1⟩ := setK_spec h hr
          subst h1
          have hrun : (Instr.endLoop lo.block).run E.P w = .ok pend { w with heap := w.heap.setIfInBounds lo.block (.loop { state := .exhausted, pending := pend, fn, tmps := T, params, assign, body, defers := lD.block }) } := by
            unfold Instr.endLoop
            simp only [Sem.run_bind, run_getLoop hh, Result.andThen_ok]
            have : (st == LoopState.busy) = false := by cases st <;> first | rfl | exact absurd rfl hnb
            rw [this]
            simp only [Bool.false_eq_true, if_false, Sem.run_bind, setObj_run hh (by simp), Result.andThen_ok, Sem.run_pure]
          obtain ⟨h2, h3⟩ := m.rel.setO hg rfl hl hs (.loop { state := .exhausted, pending := pend, fn, tmps := T, params, assign, body, defers := lD.block }) fun w' hw' => trivial
          refine ⟨σ, a, _, _, Sg.le_refl σ, h3, ⟨m.si, h2, by simpa using m.hB, m.tm, ?_, m.ds⟩, hrc, .one (stepR_endRangeFunc hrun)⟩
          cases pend with
          | none => exact hk
          | some cc => exact .cons _ _ _ _ (.code cc) hk
      · exact absurd h.symm hr
    | beginRound =>
      unfold step at h
      dsimp only at h
      cases hro : fi.ro with
      | none => rw [hro] at h; exact absurd h.symm hr
      | some l =>
        rw [hro] at h
        dsimp only at h
        have hround := m.si.round
        rw [hro] at hround
        obtain ⟨lo, hl, hb, hdf, _⟩ := hround
        split at h
        · rename_i st pend fn tmps nt params assign body defers hg
          obtain ⟨T, lD, hh, htr, hd⟩ := loop_con m.rel hg hl
          split at h
          · obtain ⟨H', hs, h1⟩ := setK_spec h hr
            subst h1
            have hrun : (Instr.beginRound lo.block).run E.P w = .ok () { w with heap := w.heap.setIfInBounds lo.block (.loop { state := .busy, pending := pend, fn, tmps := T, params, assign, body, defers := lD.block }) } := by
              unfold Instr.beginRound
              simp only [Sem.run_bind, run_getLoop hh, Result.andThen_ok, setObj_run hh (by simp), Sem.run_pure]
            obtain ⟨h2, h3⟩ := m.rel.setO hg rfl hl hs (.loop { state := .busy, pending := pend, fn, tmps := T, params, assign, body, defers := lD.block }) fun w' hw' => ⟨T, lD, hw', htr, hd⟩
            exact ⟨σ, a, _, _, Sg.le_refl σ, h3, ⟨m.si, h2, by simpa using m.hB, m.tm, hk, m.ds⟩, hrc, .one (stepR_beginRound hb hrun)⟩
          · exact absurd h.symm hr
        · exact absurd h.symm hr
    | code cc =>
      cases cc with
      | skip => subst h; exact stay m hrc hk stepR_skip
      | label l => subst h; exact stay m hrc hk stepR_label
      | seq x y => subst h; exact stay m hrc (.cons _ _ _ _ (.code x) (.cons _ _ _ _ (.code y) hk)) stepR_seq
      | block id x => subst h; exact stay m hrc (.cons _ _ _ _ (.code x) (.cons _ _ _ _ (.inBlock id) hk)) stepR_block
      | loop x => subst h; exact stay m hrc (.cons _ _ _ _ (.code x) (.cons _ _ _ _ (.inLoop x) hk)) stepR_loop
      | scope x => subst h; exact stay m hrc (.cons _ _ _ _ (.code x) (.cons _ _ _ _ (.inScope x) hk)) (step_lone_go (by simp [stepG, stepG.exec, Frame.atR]))
      | cond x y z =>
        unfold step at h
        dsimp only at h
        obtain ⟨v, hv, h1⟩ := evK_some h hr
        clear h
        split at h1
        · subst h1
          exact stay m hrc (.cons _ _ _ _ (.code y) hk) (stepR_cond (t := true) ((evA_ok m.tm hv).scal rfl))
        · subst h1
          exact stay m hrc (.cons _ _ _ _ (.code z) hk) (stepR_cond (t := false) ((evA_ok m.tm hv).scal rfl))
        · exact absurd h1.symm hr
      | exit id =>
        unfold step at h
        dsimp only at h
        split at h
        · rename_i k' hx
          subst h
          obtain ⟨todo', h1, h2⟩ := (exitA_ok hk).1 _ hx
          exact stay m hrc h2 (stepR_exit h1)
        · rename_i hx
          obtain ⟨r, h1, h2⟩ := leaveK_ok hE hN h hr m hrc (.inr (.inr (.inl ⟨id, items, rfl, rfl, (exitA_ok hk).2 hx⟩))) (c := c) (cs := cs)
          exact fin h1 h2
      | goto l =>
        unfold step at h
        dsimp only at h
        split at h
        · rename_i k' hx
          subst h
          obtain ⟨todo', h1, h2⟩ := (gotoA_ok hk).1 _ hx
          exact stay m hrc h2 (stepR_goto h1)
        · rename_i hx
          obtain ⟨r, h1, h2⟩ := leaveK_ok hE hN h hr m hrc (.inr (.inr (.inr ⟨l, items, rfl, rfl, (gotoA_ok hk).2 hx⟩))) (c := c) (cs := cs)
          exact fin h1 h2
      | ret =>
        obtain ⟨r, h1, h2⟩ := leaveK_ok hE hN (show leaveK E nest fi (some .ret) tm H nx ds rc = out from h) hr m hrc (.inr (.inl ⟨rfl, items, rfl⟩)) (c := c) (cs := cs)
        exact fin h1 h2
      | refuse s => exact absurd (show Out.fail = out from h).symm hr
      | region id ops draw =>
        unfold step at h
        dsimp only at h
        cases draw with
        | false => subst h; exact stay m hrc (.cons _ _ _ _ (.inRegion ops ops.toList (List.range ops.size) (range_map ops)) hk) stepR_region
        | true =>
          obtain ⟨tm', H', nx', h1, h2⟩ := hD h hr
          subst h1
          obtain ⟨τ, a', w', g1, g2, g3, g4, g5, g6⟩ := h2 (b := b) (items := items) (cs := curCs fi c cs par rc) (id := id) m.rel m.hB m.tm
          exact ⟨τ, a', items, w', g1, g3, ⟨m.si.mono g1, g2, Nat.le_trans m.hB g3.size, g4, hk.mono g1, by rw [g5]; exact m.ds.mono g1⟩, hrc, g6⟩
      | rangeFunc f params assign body => exact step_range hE hN h hr m hrc
end step
end Go.Ex
namespace Go.Ex
open Go Go.RowKit
section run
variable {E : Env} (hE : EnvOK E) {B : Nat} {nest : Nest}
theorem iter_succ (st : List It → Tr Value → Heap → Nat → List ADef → Bool → Out) (n : Nat) (td : List It) (tm : Tr Value) (H : Heap) (nx : Nat) (ds : List ADef) (rc : Bool) :
    iter st (n + 1) td tm H nx ds rc = (match iter st n td tm H nx ds rc with | .cont td tm H nx ds rc => iter st n td tm H nx ds rc | o => o) := by
  show Out.rec (motive := fun _ => Out) .fail (fun td tm H nx ds rc => iter st n td tm H nx ds rc) .fin (iter st n td tm H nx ds rc) = _
  cases iter st n td tm H nx ds rc <;> rfl
theorem iter_ok (hN : NestOK E B nest) (hE : EnvOK E) (hD : DrawOK E B nest) {fi : FI} {b : Frame} {par : Option Value} {c : Frame} {cs : List Frame} (n : Nat) : ∀ {td : List It} {tm : Tr Value} {H : Heap} {nx : Nat} {ds : List ADef} {rc : Bool} {out : Out} {σ : Sg} {a : Act} {todo : List Item} {w : World},
    iter (step E nest fi) n td tm H nx ds rc = out → out ≠ .fail → MR E B fi σ b par td tm H ds a todo w → (rc = true → fi.dfr = true ∧ par.isSome = true) → StepOK E B fi σ b par a todo rc w c cs out := by
  induction n with
  | zero => intro td tm H nx ds rc out σ a todo w h hr m hrc; exact step_ok hE hN hD h hr m hrc
  | succ n ih =>
    intro td tm H nx ds rc out σ a todo w h hr m hrc
    rw [iter_succ] at h
    cases hi : iter (step E nest fi) n td tm H nx ds rc with
    | fail => rw [hi] at h; exact absurd h.symm hr
    | fin r => rw [hi] at h; subst h; exact ih hi hr m hrc
    | cont td1 tm1 H1 nx1 ds1 rc1 =>
      rw [hi] at h
      simp only at h
      obtain ⟨τ, a1, todo1, w1, g1, g2, g3, g4, g5⟩ := ih hi (by simp) m hrc
      have h2 := ih h hr g3 g4
      cases out with
      | fail => exact h2.elim
      | fin r => exact fun hrf => Ends.of_steps g1 g2 g5 (h2 hrf)
      | cont td2 tm2 H2 nx2 ds2 rc2 =>
        obtain ⟨τ', a2, todo2, w2, f1, f2, f3, f4, f5⟩ := h2
        exact ⟨τ', a2, todo2, w2, g1.trans' f1, g2.trans f2, f3, f4, Steps.trans g5 f5⟩
theorem begin_ok (hN : NestOK E B nest) (hE : EnvOK E) (hD : DrawOK E B nest) {fi : FI} {b : Frame} {par : Option Value} {c : Frame} {cs : List Frame} {td : List It} {tm : Tr Value} {H : Heap} {nx : Nat} {r : R} {σ : Sg} {a : Act} {todo : List Item} {w : World}
    (h : begin E nest fi td tm H nx = r) (hr : r ≠ .fail) (m : MR E B fi σ b par td tm H [] a todo w) : Ends E B fi σ w c cs par (lone (b.atR a todo) (curCs fi c cs par false) w) r := by
  unfold begin at h
  cases hi : iter (step E nest fi) ITER td tm H nx [] false with
  | fail => rw [hi] at h; exact absurd h.symm hr
  | cont td1 tm1 H1 nx1 ds1 rc1 => rw [hi] at h; exact absurd h.symm hr
  | fin q =>
    rw [hi] at h
    have h : q = r := h
    subst h
    exact iter_ok hN hE hD ITER hi (by simp) m (fun h => by cases h) hr

/-- What a summary is asked. -/
def HookOK (E : Env) : Prop := ∀ {f : FuncId} {args : List Value} {H : Heap} {nx : Nat} {v : Value} {H' : Heap} {nx' : Nat}, E.hook f args H nx = .val v H' nx' →
  ∀ {B : Nat} {σ : Sg} {w : World} {args' : List Value}, Rel B σ H w → B ≤ w.heap.size → ConL σ args args' → Came E B σ w f args' (.val v H' nx')

theorem args0_some : ∀ {args : List Value} {i : Nat} {t : Tr Value} {k : Tr Value → R} {r : R}, args0 args i t k = r → r ≠ .fail →
    ∃ t', k t' = r ∧ ∀ m, get t' m = if i ≤ m ∧ m < i + args.length then args[m - i]? else get t m := by
  intro args
  induction args with
  | nil => intro i t k r h _; exact ⟨t, h, fun m => by rw [if_neg (by simp)]⟩
  | cons v args ih =>
    intro i t k r h hr
    unfold args0 at h
    obtain ⟨t1, h1, h2⟩ := setK_spec h hr
    obtain ⟨t', h3, h4⟩ := ih h2 hr
    refine ⟨t', h3, fun m => ?_⟩
    rw [h4 m, h1 m]
    by_cases e : m = i
    · subst e; rw [if_neg (by omega), if_pos rfl, if_pos (by simp)]; simp
    · by_cases e1 : i + 1 ≤ m ∧ m < i + 1 + args.length
      · rw [if_pos e1, if_pos (by simp; omega)]
        obtain ⟨j, rfl⟩ : ∃ j, m = i + 1 + j := ⟨m - (i + 1), by omega⟩
        rw [show i + 1 + j - (i + 1) = j by omega, show i + 1 + j - i = j + 1 by omega]; simp
      · rw [if_neg e1, if_neg e, if_neg (by simp; omega)]
theorem enter_trel {σ : Sg} {args args' : List Value} (hc : ConL σ args args') {tm : Tr Value} (h : ∀ m, get tm m = if 0 ≤ m ∧ m < 0 + args.length then args[m - 0]? else get Tr.nil m) (n : Nat) :
    TRel σ tm (max n args.length) (args'.toArray ++ Array.replicate (n - args'.toArray.size) undef) := by
  have hl := hc.length
  refine ⟨by simp [hl]; omega, fun i v hv => ?_, fun i hv => ?_⟩
  · rw [h i] at hv
    by_cases e : 0 ≤ i ∧ i < 0 + args.length
    · rw [if_pos e, Nat.sub_zero] at hv
      obtain ⟨V, h1, h2⟩ := hc.get hv
      exact ⟨V, by rw [Array.getElem?_append_left (by simp; omega)]; simpa using h1, h2⟩
    · rw [if_neg e] at hv; simp at hv
  · rw [h i] at hv
    by_cases e : 0 ≤ i ∧ i < 0 + args.length
    · rw [if_pos e, Nat.sub_zero, List.getElem?_eq_getElem (by omega)] at hv; cases hv
    · rw [Array.getD_eq_getD_getElem?, Array.getElem?_append_right (by simp; omega)]
      by_cases e2 : i - args'.toArray.size < n - args'.toArray.size
      · rw [Array.getElem?_replicate, if_pos e2]; rfl
      · rw [Array.getElem?_replicate, if_neg e2]; rfl
theorem setParams_some {nt : Nat} : ∀ {ps : List Tmp} {vs : List Value} {t : Tr Value} {k : Tr Value → R} {r : R}, setParams nt ps vs t k = r → r ≠ .fail →
    ∃ t', k t' = r ∧ ps.length = vs.length ∧ ∀ {σ : Sg} {T : Array Value} {Vs : List Value}, TRel σ t nt T → ConL σ vs Vs → TRel σ t' nt ((ps.zip Vs).foldl (fun tmps (x : Tmp × Value) => tmps.setIfInBounds x.1 x.2) T) := by
  intro ps
  induction ps with
  | nil =>
    intro vs t k r h hr
    cases vs with
    | nil => exact ⟨t, h, rfl, fun ht _ => by simpa using ht⟩
    | cons _ _ => exact absurd h.symm hr
  | cons d ps ih =>
    intro vs t k r h hr
    cases vs with
    | nil => exact absurd h.symm hr
    | cons v vs =>
      unfold setParams at h
      obtain ⟨t1, h1, h2⟩ := putK_some h hr
      obtain ⟨t', h3, h4, h5⟩ := ih h1 hr
      refine ⟨t', h3, by simp [h4], fun {σ T Vs} ht hc => ?_⟩
      cases hc with
      | cons _ V _ Vs' hv hvs =>
        exact h5 (h2 (a := { tmps := T, defers := [] }) ht hv) hvs
end run
end Go.Ex
namespace Go.Ex
open Go Go.RowKit
section run
variable {E : Env} (hE : EnvOK E) {B : Nat}
theorem enter_atR {f : FuncId} {fn : Func} {c : Code} {args' : List Value} {P : Program} (hf : P.funcs[f]? = some fn) (hb : fn.body = some c) (kind : CallKind) :
    Frame.enter P f args'.toArray kind = (Frame.enter P f args'.toArray kind).atR { tmps := args'.toArray ++ Array.replicate (fn.ntmps - args'.toArray.size) undef, defers := [] } [.code c] := by
  unfold Frame.enter Frame.atR
  simp [hf, hb]
include hE in
/-- A call's frame at its beginning. -/
theorem enter_mr {f : FuncId} {fn : Func} {c : Code} {args args' : List Value} {H : Heap} {σ : Sg} {w : World} {tm : Tr Value} {dfr : Bool} {fp par : Option Value}
    (hf : get E.fn f = some fn) (rel : Rel B σ H w) (hB : B ≤ w.heap.size) (hc : ConL σ args args')
    (htm : ∀ m, get tm m = if 0 ≤ m ∧ m < 0 + args.length then args[m - 0]? else get Tr.nil m) (hp : OptCon σ fp par) (hd : dfr = false → fp = none) :
    MR E B ⟨dfr, fp, none, max fn.ntmps args.length, f, tm, fn.results.toList⟩ σ (Frame.enter E.P f args'.toArray (if dfr then .deferred else .normal)) par [.code c] tm H []
      { tmps := args'.toArray ++ Array.replicate (fn.ntmps - args'.toArray.size) undef, defers := [] } [.code c] w := by
  refine ⟨⟨rfl, by unfold Frame.enter; rfl, ?_, hp, hd⟩, rel, hB, enter_trel hc htm fn.ntmps, .cons _ _ _ _ (.code c) .nil, .nil⟩
  exact ⟨rfl, fn, (hE.fn _ _ hf).1, rfl⟩
theorem optcon_mode {σ : Sg} {fp par : Option Value} (h : OptCon σ fp par) : fp.isSome = par.isSome := by
  cases fp <;> cases par <;> first | rfl | exact h.elim
include hE in
theorem run_ok (hH : HookOK E) (hD : ∀ nest, NestOK E B nest → DrawOK E B nest) : ∀ d, NestOK E B (run E d) := by
  intro d
  induction d with
  | zero => exact ⟨fun h hr => absurd h.symm hr, fun h hr => absurd h.symm hr, fun h hr => absurd h.symm hr⟩
  | succ d ih =>
    have hDd : DrawOK E B (run E d) := @hD _ ih
    refine ⟨?_, ?_, ?_⟩
    · intro f args H nx r h hr σ w args' rel hB hc
      unfold run at h
      dsimp only at h
      have body : ∀ {r}, (match get E.fn f with
           | some fn => (match fn.body with
             | some c => args0 args 0 .nil fun tm => (match begin E (run E d) ⟨false, none, none, max fn.ntmps args.length, f, tm, fn.results.toList⟩ [.code c] tm H nx with
               | .vrec _ _ _ => .fail
               | r => r)
             | none => .fail)
           | none => .fail) = r → r ≠ .fail → Came E B σ w f args' r := by
        intro r h hr
        split at h
        · rename_i fn hf
          split at h
          · rename_i c hb
            obtain ⟨tm, h1, h2⟩ := args0_some h hr
            clear h
            have hf1 := (hE.fn _ _ hf).1
            have mr := enter_mr (dfr := false) (fp := none) (par := none) (c := c) hE hf rel hB hc h2 trivial (fun _ => rfl)
            cases hbg : begin E (run E d) ⟨false, none, none, max fn.ntmps args.length, f, tm, fn.results.toList⟩ [.code c] tm H nx with
            | fail => rw [hbg] at h1; exact absurd h1.symm hr
            | vrec v H' nx' => rw [hbg] at h1; exact absurd h1.symm hr
            | val v H' nx' =>
              rw [hbg] at h1
              simp only at h1
              subst h1
              intro cs
              obtain ⟨τ, V, w', fr, g1, g2, g3, g4, g5, g6, g7⟩ := begin_ok (c := Frame.enter E.P f args'.toArray .normal) (cs := cs) ih hE hDd hbg (by simp) mr
              refine ⟨.returned V, w', fr, ⟨τ, V, g1, g2, g3, rfl, g4⟩, ?_, g6, g7⟩
              show Steps _ _ _
              rw [enter_atR hf1 hb]
              exact g5
            | pan v H' nx' =>
              rw [hbg] at h1
              simp only at h1
              subst h1
              intro cs
              obtain ⟨τ, V, w', fr, g1, g2, g3, g4, g5, g6, g7⟩ := begin_ok (c := Frame.enter E.P f args'.toArray .normal) (cs := cs) ih hE hDd hbg (by simp) mr
              refine ⟨.panicked [{ v := V, recovered := false }], w', fr, ⟨τ, V, g1, g2, g3, rfl, g4⟩, ?_, g6, g7 rfl⟩
              show Steps _ _ _
              rw [enter_atR hf1 hb]
              exact g5
          · exact absurd h.symm hr
        · exact absurd h.symm hr
      split at h
      · rename_i v H' nx' hh
        subst h
        exact hH hh rel hB hc
      · exact body h hr
    · intro l args H nx r h hr σ w args' lo rel hB hc hl
      unfold run at h
      dsimp only at h
      split at h
      · rename_i st pend fn tmps nt params assign body dfs hg _
        split at h
        · exact absurd h.symm hr
        · rename_i ff hff
          obtain ⟨tm, h1, h2, h3⟩ := setParams_some h hr
          clear h
          obtain ⟨lo', hl', hor, _⟩ := rel.obj _ _ hg
          rw [hl] at hl'
          cases hl'
          obtain ⟨T, lD, hw, ht, hdl⟩ := hor
          have hsz : args'.toArray.size = params.size := by simp [hc.length, ← h2]
          have hrun := run_yield (P := E.P) hw (args := args'.toArray) hsz
          have htm := h3 ht hc
          have hfold : (params.zip args'.toArray).foldl (fun tmps (t, a) => tmps.setIfInBounds t a) T = (params.toList.zip args').foldl (fun tmps (x : Tmp × Value) => tmps.setIfInBounds x.1 x.2) T := by
            rw [← Array.foldl_toList, Array.toList_zip]
          dsimp only at hrun
          rw [hfold] at hrun
          have mr : ∀ c : Frame, MR E B ⟨false, none, some l, nt, fn, tm, []⟩ σ (Frame.round lo.block fn ((params.toList.zip args').foldl (fun tmps (x : Tmp × Value) => tmps.setIfInBounds x.1 x.2) T) assign body .normal) none [.code assign, .beginRound, .code body] tm H []
              { tmps := (params.toList.zip args').foldl (fun tmps (x : Tmp × Value) => tmps.setIfInBounds x.1 x.2) T, defers := [] } [.code assign, .beginRound, .code body] w := fun c => by
            refine ⟨⟨rfl, rfl, ⟨lo, hl, rfl, rfl, ff, (hE.fn _ _ hff).1⟩, trivial, fun _ => rfl⟩, rel, hB, htm, ?_, .nil⟩
            exact .cons _ _ _ _ (.code _) (.cons _ _ _ _ .beginRound (.cons _ _ _ _ (.code _) .nil))
          cases hbg : begin E (run E d) ⟨false, none, some l, nt, fn, tm, []⟩ [.code assign, .beginRound, .code body] tm H nx with
          | fail => rw [hbg] at h1; exact absurd h1.symm hr
          | vrec v H' nx' => rw [hbg] at h1; exact absurd h1.symm hr
          | val v H' nx' =>
            rw [hbg] at h1
            simp only at h1
            subst h1
            intro c cs
            obtain ⟨τ, V, w', g1, g2, g3, g4, g5⟩ := begin_ok (c := c) (cs := cs) ih hE hDd hbg (by simp) (mr c)
            exact ⟨τ, V, w', _, _, _, _, g1, g2, g3, g4, hrun, g5⟩
          | pan v H' nx' =>
            rw [hbg] at h1
            simp only at h1
            subst h1
            intro c cs
            obtain ⟨τ, V, w', g1, g2, g3, g4, g5⟩ := begin_ok (c := c) (cs := cs) ih hE hDd hbg (by simp) (mr c)
            exact ⟨τ, V, w', _, _, _, _, g1, g2, g3, g4, hrun, g5⟩
      · exact absurd h.symm hr
    · intro f args chain H nx r h hr σ w args' chain' rel hB hc hch
      unfold run at h
      dsimp only at h
      split at h
      · rename_i fn hf
        split at h
        · rename_i c hb
          obtain ⟨tm, h1, h2⟩ := args0_some h hr
          clear h
          have hf1 := (hE.fn _ _ hf).1
          have mr := enter_mr (dfr := true) (fp := chain) (par := chain') (c := c) hE hf rel hB hc h2 hch (fun h => by cases h)
          have hcur : ∀ {c : Frame} {cs : List Frame} {n : Nat} {tm : Tr Value} {rs : List ResultVar} {rc : Bool}, curCs ⟨true, chain, none, n, f, tm, rs⟩ c cs chain' rc = { c with mode := parMode chain' rc } :: cs := rfl
          cases hbg : begin E (run E d) ⟨true, chain, none, max fn.ntmps args.length, f, tm, fn.results.toList⟩ [.code c] tm H nx with
          | fail => rw [hbg] at h1; exact absurd h1.symm hr
          | pan v H' nx' => rw [hbg] at h1; exact absurd h1.symm hr
          | val v H' nx' =>
            rw [hbg] at h1
            simp only at h1
            subst h1
            intro cf cs hmode
            obtain ⟨τ, V, w', fr, g1, g2, g3, g4, g5, g6, g7, g8⟩ := begin_ok (c := cf) (cs := cs) ih hE hDd hbg (by simp) mr
            refine ⟨.returned V, parMode chain' false, w', fr, ⟨τ, V, g1, g2, g3, rfl, rfl⟩, ?_, g7, g8⟩
            show Steps _ _ _
            rw [enter_atR hf1 hb]
            rw [hcur] at g5
            rw [← hmode] at g5 ⊢
            exact g5
          | vrec v H' nx' =>
            rw [hbg] at h1
            simp only at h1
            subst h1
            cases chain' with
            | none =>
              obtain ⟨_, τ, V, w', fr, g1, g2, g3, g4, _⟩ := begin_ok (c := Frame.enter E.P f args'.toArray .normal) (cs := []) ih hE hDd hbg (by simp) mr
              simp at g4
            | some v' =>
            refine ⟨v', rfl, fun cf cs hmode => ?_⟩
            obtain ⟨_, τ, V, w', fr, g1, g2, g3, g4, g5, g7, g8⟩ := begin_ok (c := cf) (cs := cs) ih hE hDd hbg (by simp) mr
            refine ⟨.returned V, _, w', fr, ⟨τ, V, g1, g2, g3, rfl, rfl⟩, ?_, g7, g8⟩
            show Steps _ _ _
            rw [enter_atR hf1 hb]
            rw [hcur, hcur] at g5
            have : ({ cf with mode := parMode (some v') false } : Frame) = cf := by
              rw [show parMode (some v') false = cf.mode from hmode.symm]
            rw [this] at g5
            exact g5
        · exact absurd h.symm hr
      · exact absurd h.symm hr
end run
end Go.Ex
namespace Go.Ex
open Go Go.RowKit

/-! what is found equal is equal -/
theorem beq_eq {a b : Nat} (h : Nat.beq a b = true) : a = b := Nat.eq_of_beq_eq_true h
theorem leq_eq {α : Type} {eq : α → α → Bool} (he : ∀ a b, eq a b = true → a = b) : ∀ {xs ys : List α}, leq eq xs ys = true → xs = ys := by
  intro xs
  induction xs with
  | nil => intro ys h; cases ys with | nil => rfl | cons _ _ => exact absurd h (by simp [leq])
  | cons a xs ih =>
    intro ys h
    cases ys with
    | nil => exact absurd h (by simp [leq])
    | cons b ys =>
      unfold leq at h
      split at h
      · rename_i hab; rw [he _ _ hab, ih h]
      · cases h
theorem aeq_eq {a b : Option Addr} (h : aeq a b = true) : a = b := by
  unfold aeq at h
  split at h
  · rfl
  · simp only [Bool.and_eq_true] at h; rw [beq_eq h.1, beq_eq h.2]
  · cases h
theorem ieq_eq' {a b : Int} (h : ieq a b = true) : a = b := by
  unfold ieq at h
  split at h
  · rw [beq_eq h]
  · rw [beq_eq h]
  · cases h
theorem veq_eq : ∀ (f : Nat) {a b : Value}, veq f a b = true → a = b := by
  intro f
  induction f with
  | zero => intro a b h; cases h
  | succ f ih =>
    intro a b h
    have hl : ∀ {xs ys : Array Value}, leq (veq f) xs.toList ys.toList = true → xs = ys := fun h => Array.toList_inj.1 (leq_eq (fun a b => ih) h)
    unfold veq at h
    split at h
    · split at h <;> first | rfl | cases h
    · simp only [Bool.and_eq_true] at h; rw [kbeq_eq h.1, ieq_eq' h.2]
    · rename_i s t
      have h1 := leq_eq (fun (a b : UInt8) h => UInt8.toNat_inj.1 (beq_eq h)) h
      have : s.data = t.data := Array.toList_inj.1 h1
      obtain ⟨s⟩ := s; obtain ⟨t⟩ := t
      simp only at this
      rw [this]
    · rw [aeq_eq h]
    · simp only [Bool.and_eq_true] at h; rw [aeq_eq h.1.1, beq_eq h.1.2, beq_eq h.2]
    · rfl
    · rw [beq_eq h]
    · simp only [Bool.and_eq_true] at h; rw [beq_eq h.1.1, hl h.1.2, hl h.2]
    · simp only [Bool.and_eq_true] at h; rw [beq_eq h.1.1, hl h.1.2, hl h.2]
    · rfl
    · simp only [Bool.and_eq_true] at h; rw [beq_eq h.1, ih h.2]
    · rfl
    · rw [hl h]
    · rw [hl h]
    · cases h
theorem treq_eq {α : Type} {eq : α → α → Bool} (he : ∀ a b, eq a b = true → a = b) : ∀ {t u : Tr α}, treq eq t u = true → t = u := by
  intro t
  induction t with
  | nil => intro u h; cases u with | nil => rfl | node _ _ _ => cases h
  | node v l r ih1 ih2 =>
    intro u h
    cases u with
    | nil => cases h
    | node v' l' r' =>
      unfold treq at h
      simp only [Bool.and_eq_true] at h
      rw [ih1 h.1.2, ih2 h.2]
      have h1 := h.1.1
      split at h1
      · rfl
      · rw [he _ _ h1]
      · cases h1
theorem oeq_eq {a b : AObj} (h : oeq a b = true) : a = b := by
  unfold oeq at h
  split at h
  · rfl
  · rename_i ro s p rs c ro' s' p' rs' c'
    simp only [Bool.and_eq_true] at h
    obtain ⟨⟨⟨⟨h1, h2⟩, h3⟩, h4⟩, h5⟩ := h
    have hro : ro = ro' := by cases ro <;> cases ro' <;> first | rfl | cases h1
    rw [hro, beq_eq h2, beq_eq h3, treq_eq (fun a b => veq_eq 6) h5]
    rw [leq_eq (fun (a b : Nat × Value) h => by
      simp only [Bool.and_eq_true] at h
      exact Prod.ext (beq_eq h.1) (veq_eq 4 h.2)) h4]
  · rename_i es k es' k'
    simp only [Bool.and_eq_true] at h
    rw [beq_eq h.1, leq_eq (fun (a b : AEnt) h => by
      simp only [Bool.and_eq_true] at h
      obtain ⟨k1, v1, b1⟩ := a; obtain ⟨k2, v2, b2⟩ := b
      simp only at h
      rw [veq_eq 4 h.1.1, veq_eq 6 h.1.2, beq_eq h.2]) h.2]
  · rfl
  · rfl
  · cases h

/-! an operation asks its operands alone -/
theorem evK_congr {β : Type} {z : β} {tm tm' : Tr Value} {x : Operand} (h : ∀ t, x = .tmp t → get tm t = get tm' t) (k : Value → β) : evK z tm x k = evK z tm' x k := by
  cases x with
  | tmp t => unfold evK; dsimp only; rw [h t rfl]
  | _ => rfl
theorem evLK_congr {β : Type} {z : β} {tm tm' : Tr Value} : ∀ {l : List Operand} (_h : ∀ x ∈ l, ∀ t, x = .tmp t → get tm t = get tm' t) (k : List Value → β), evLK z tm l k = evLK z tm' l k := by
  intro l
  induction l with
  | nil => intro h k; rfl
  | cons x l ih =>
    intro h k
    rw [evLK_cons, evLK_cons, evK_congr (h x (by simp))]
    congr 1
    funext v
    exact ih (fun y hy => h y (by simp [hy])) _
theorem partsK_congr {β : Type} {z : β} {tm tm' : Tr Value} : ∀ {l : List (Nat × Operand)} (_h : ∀ p ∈ l, ∀ t, p.2 = .tmp t → get tm t = get tm' t) (k : List (Nat × Value) → β), partsK z tm l k = partsK z tm' l k := by
  intro l
  induction l with
  | nil => intro h k; rfl
  | cons x l ih =>
    intro h k
    obtain ⟨i, x⟩ := x
    unfold partsK
    rw [evK_congr (h (i, x) (by simp))]
    congr 1
    funext v
    exact ih (fun y hy => h y (by simp [hy])) _
theorem optK_congr {β : Type} {z : β} {tm tm' : Tr Value} {x : Option Operand} (h : ∀ y, x = some y → ∀ t, y = .tmp t → get tm t = get tm' t) (k : Option Value → β) : optK z tm x k = optK z tm' x k := by
  cases x with
  | none => rfl
  | some y => unfold optK; exact evK_congr (h y rfl) _
section congr
set_option linter.unusedVariables false
variable {E : Env} {nest : Nest} {tm tm' : Tr Value} {H H' : Heap} {nx : Nat}
def Same (op : Op) (tm tm' : Tr Value) : Prop := ∀ x ∈ op.operands, ∀ t, x = .tmp t → get tm t = get tm' t
theorem xq_congr {op : Op} (h : Same op tm tm') (k : Value → R) : xq E op tm H k = xq E op tm' H k := by
  unfold Same at h
  cases op <;> first | rfl | skip
  all_goals simp only [Op.operands] at h
  all_goals unfold xq
  all_goals try dsimp only
  case move x => exact evK_congr (h x (by simp)) _
  case assign x => exact evK_congr (h x (by simp)) _
  case pick c a b =>
    rw [evK_congr (h c (by simp))]
    congr 1; funext v
    rw [evK_congr (h a (by simp)), evK_congr (h b (by simp))]
  case build t ps =>
    congr 1; funext i
    congr 1
    rw [partsK_congr (l := ps.toList) fun p hp => h p.2 (by simp; exact ⟨p.1, by simpa using hp⟩)]
  case load t a => rw [evK_congr (h a (by simp))]
  case nilCheck x => exact evK_congr (h x (by simp)) _
  case binOp op t x y e =>
    rw [evK_congr (h x (by simp))]
    congr 1; funext v
    rw [evK_congr (h y (by simp))]
  case unOp op t x => exact evK_congr (h x (by simp)) _
  case makeInterface t x => exact evK_congr (h x (by simp)) _
  case makeFunc fn first captured =>
    congr 1; funext f
    rw [evLK_congr (l := first.toList) fun x hx => h x (by simp; exact .inl (by simpa using hx))]
    congr 1; funext v
    rw [evLK_congr (l := captured.toList) fun x hx => h x (by simp; exact .inr (by simpa using hx))]
  case slice t x lo hi mx =>
    cases mx with
    | some _ => rfl
    | none =>
      dsimp only
      rw [evK_congr (h x (by simp))]
      congr 1; funext v
      rw [optK_congr (x := lo) fun y hy => h y (by simp [hy])]
      congr 1; funext v
      rw [optK_congr (x := hi) fun y hy => h y (by simp [hy])]
  case fieldAddr s x f => exact evK_congr (h x (by simp)) _
  case field s x f => exact evK_congr (h x (by simp)) _
  case indexAddr t x i =>
    rw [evK_congr (h x (by simp))]
    congr 1; funext v
    rw [evK_congr (h i (by simp))]
  case index t x i =>
    rw [evK_congr (h x (by simp))]
    congr 1; funext v
    rw [evK_congr (h i (by simp))]
  case lookup t x i ok =>
    rw [evK_congr (h x (by simp))]
    congr 1; funext v
    rw [evK_congr (h i (by simp))]
  case typeAssert x a t ok => exact evK_congr (h x (by simp)) _
  case extract x i => exact evK_congr (h x (by simp)) _
  case call c =>
    obtain ⟨callee, args, ats⟩ := c
    have ha : ∀ x ∈ args.toList, ∀ t, x = .tmp t → get tm t = get tm' t := fun x hx => h x (by simp [Call.operands]; exact .inr (by simpa using hx))
    cases callee <;> first | rfl | skip
    rename_i b
    cases b <;> first | rfl | skip
    all_goals dsimp only
    case len =>
      split
      · rename_i x t l h1 h2
        exact evK_congr (ha x (by rw [h1]; simp)) _
      · rfl
    case max => rw [evLK_congr ha]
    case min => rw [evLK_congr ha]
theorem xl_congr {op : Op} (h : Same op tm tm') : xl E nest op tm H nx = xl E nest op tm' H nx := by
  unfold Same at h
  cases op <;> first | rfl | skip
  all_goals simp only [Op.operands] at h
  all_goals unfold xl
  all_goals try dsimp only
  case box t x => exact evK_congr (h x (by simp)) _
  case buildSlice t n ps =>
    have hp : ∀ k : List (Nat × Value) → R, partsK R.fail tm ps.toList k = partsK R.fail tm' ps.toList k := fun k => partsK_congr (l := ps.toList) (fun p hp => h p.2 (by simp; exact ⟨p.1, by simpa using hp⟩)) k
    simp only [hp]
  case insert t m k x =>
    rw [evK_congr (h m (by simp))]
    congr 1; funext v
    rw [evK_congr (h k (by simp))]
    congr 1; funext v
    rw [evK_congr (h x (by simp))]
  case mapUpdate t m k x =>
    rw [evK_congr (h m (by simp))]
    congr 1; funext v
    rw [evK_congr (h k (by simp))]
    congr 1; funext v
    rw [evK_congr (h x (by simp))]
  case store t a x =>
    rw [evK_congr (h a (by simp))]
    congr 1; funext v
    rw [evK_congr (h x (by simp))]
  case convert s d x => exact evK_congr (h x (by simp)) _
  case makeSlice t l c =>
    rw [evK_congr (h l (by simp))]
    congr 1; funext v
    rw [evK_congr (h c (by simp))]
  case call c =>
    obtain ⟨callee, args, ats⟩ := c
    have ha : ∀ x ∈ args.toList, ∀ t, x = .tmp t → get tm t = get tm' t := fun x hx => h x (by simp [Call.operands]; exact .inr (by simpa using hx))
    cases callee with
    | value f =>
      dsimp only
      rw [evK_congr (h f (by simp [Call.operands]))]
      congr 1; funext v
      rw [evLK_congr ha]
    | invoke r n =>
      dsimp only
      rw [evK_congr (h r (by simp [Call.operands]))]
      congr 1; funext v
      rw [evLK_congr ha]
    | builtin b =>
      dsimp only
      cases b <;> first | rfl | skip
      all_goals dsimp only
      case append =>
        split
        · rename_i s x st xt h1 h2
          rw [evK_congr (ha s (by rw [h1]; simp))]
          congr 1; funext v
          rw [evK_congr (ha x (by rw [h1]; simp))]
        · rfl
      case copy =>
        split
        · rename_i s x st xt h1 h2
          rw [evK_congr (ha s (by rw [h1]; simp))]
          congr 1; funext v
          rw [evK_congr (ha x (by rw [h1]; simp))]
        · rfl
theorem opR_congr {o : Oper} (h : Same o.op tm tm') : opR E nest o tm H nx = opR E nest o tm' H nx := by
  unfold opR
  rw [xq_congr h, xl_congr h]
/-- Who does not read the heap does not ask for it. -/
theorem xq_heap {op : Op} (h : readsH op = false) (k : Value → R) : xq E op tm H k = xq E op tm H' k := by
  cases op <;> first | rfl | cases h | skip
  rename_i c
  obtain ⟨callee, args, ats⟩ := c
  cases callee <;> first | rfl | skip
  rename_i b
  cases b <;> first | rfl | cases h
end congr
end Go.Ex
namespace Go.Ex
open Go Go.RowKit

/-! what must stand before an operation -/
theorem maskOf_spec {ms : List Nat} : ∀ {es : List Edge} {m M : Nat}, maskOf ms es m = some M →
    (∀ i, m.testBit i = true → M.testBit i = true) ∧
    (∀ e ∈ es, Region.binds .any e = true → e.on < ms.length ∧ M.testBit e.on = true) ∧
    (∀ i, M.testBit i = true → m.testBit i = true ∨ ∃ e ∈ es, Region.binds .any e = true ∧ e.on < ms.length ∧ (i = e.on ∨ (ms.getD e.on 0).testBit i = true)) := by
  intro es
  induction es with
  | nil => intro m M h; simp [maskOf] at h; subst h; exact ⟨fun _ h => h, by simp, fun _ h => .inl h⟩
  | cons e es ih =>
    intro m M h
    unfold maskOf at h
    split at h
    · rename_i hb
      split at h
      · rename_i hl
        have hl := Nat.le_of_ble_eq_true hl
        obtain ⟨h1, h2, h3⟩ := ih h
        refine ⟨fun i hi => h1 i (by simp [hi]), fun e' he' hb' => ?_, fun i hi => ?_⟩
        · rcases List.mem_cons.1 he' with rfl | he'
          · exact ⟨hl, h1 _ (by simp [])⟩
          · exact h2 _ he' hb'
        · rcases h3 i hi with h4 | ⟨e', h4, h5⟩
          · simp only [Nat.testBit_or, Bool.or_eq_true, Nat.testBit_two_pow, decide_eq_true_eq] at h4
            rcases h4 with (h4 | h4) | h4
            · exact .inl h4
            · exact .inr ⟨e, by simp, hb, hl, .inl h4.symm⟩
            · exact .inr ⟨e, by simp, hb, hl, .inr h4⟩
          · exact .inr ⟨e', by simp [h4], h5⟩
      · cases h
    · rename_i hb
      obtain ⟨h1, h2, h3⟩ := ih h
      refine ⟨h1, fun e' he' hb' => ?_, fun i hi => ?_⟩
      · rcases List.mem_cons.1 he' with rfl | he'
        · rw [hb'] at hb; cases hb
        · exact h2 _ he' hb'
      · rcases h3 i hi with h4 | ⟨e', h4, h5⟩
        · exact .inl h4
        · exact .inr ⟨e', by simp [h4], h5⟩
theorem masks_spec : ∀ {ops : List Oper} {ms ms' : List Nat}, masks ops ms = some ms' →
    (∃ r, ms' = ms ++ r) ∧ ms'.length = ms.length + ops.length ∧
    ∀ (j : Nat) o, ops[j]? = some o → ∃ M, ms'[ms.length + j]? = some M ∧ maskOf (ms'.take (ms.length + j)) o.after.toList 0 = some M := by
  intro ops
  induction ops with
  | nil => intro ms ms' h; simp [masks] at h; subst h; exact ⟨⟨[], by simp⟩, by simp, by simp⟩
  | cons o ops ih =>
    intro ms ms' h
    unfold masks at h
    split at h
    · rename_i m hm
      obtain ⟨⟨r, h1⟩, h2, h3⟩ := ih h
      refine ⟨⟨m :: r, by rw [h1]; simp⟩, by rw [h2]; simp; omega, fun j o' ho' => ?_⟩
      cases j with
      | zero =>
        simp at ho'
        subst ho'
        refine ⟨m, by rw [h1]; simp, ?_⟩
        rw [h1]
        simpa using hm
      | succ j =>
        have := h3 j o' (by simpa using ho')
        simpa [Nat.add_assoc, Nat.add_comm 1 j] using this
    · cases h
/-- What 'dinfo' has looked at. -/
structure DI (ops : Array Oper) (all : List (Oper × Nat)) : Prop where
  fst : all.map (·.1) = ops.toList
  edge : ∀ (j : Nat) o M, all[j]? = some (o, M) → ∀ e ∈ o.after.toList, Region.binds .any e = true → e.on < j ∧ M.testBit e.on = true
  mask : ∀ (j : Nat) o M, all[j]? = some (o, M) → ∀ i, M.testBit i = true → ∃ e ∈ o.after.toList, Region.binds .any e = true ∧ e.on < j ∧ (i = e.on ∨ ∃ o' M', all[e.on]? = some (o', M') ∧ M'.testBit i = true)
  guard : ∀ (j : Nat) o M, all[j]? = some (o, M) → ∀ g want, o.guard = some (g, want) → M.testBit g = true
  apart : ∀ (j : Nat) o M, all[j]? = some (o, M) → ∀ (k : Nat) o' M', all[k]? = some (o', M') → j ≠ k → ∀ d, o'.dst = some d → o.dst ≠ some d ∧ (d ∈ tmpsOf o.op → M.testBit k = true ∨ M'.testBit j = true)
theorem DI.lt {ops : Array Oper} {all : List (Oper × Nat)} (h : DI ops all) : ∀ (j : Nat) o M, all[j]? = some (o, M) → ∀ i, M.testBit i = true → i < j := by
  intro j
  induction j using Nat.strongRecOn with
  | ind j ih =>
    intro o M ho i hi
    obtain ⟨e, _, _, he, h1 | ⟨o', M', h1, h2⟩⟩ := h.mask j o M ho i hi
    · omega
    · have := ih _ he _ _ h1 i h2; omega
theorem apartAll_spec {i m : Nat} {ts : List Tmp} {dst : Option Tmp} : ∀ {l : List (Oper × Nat)} {j : Nat}, apartAll i m ts dst l j = true →
    ∀ (k : Nat) o M, l[k]? = some (o, M) → i ≠ j + k → ∀ d, o.dst = some d → dst ≠ some d ∧ (d ∈ ts → m.testBit (j + k) = true ∨ M.testBit i = true) := by
  intro l
  induction l with
  | nil => intro j h k o M hk; simp at hk
  | cons x l ih =>
    intro j h k o M hk hne d hd
    obtain ⟨o0, M0⟩ := x
    unfold apartAll at h
    simp only [Bool.and_eq_true] at h
    cases k with
    | zero =>
      simp at hk
      obtain ⟨rfl, rfl⟩ := hk
      have h1 := h.1
      split at h1
      · rename_i he; exact absurd (beq_eq he) hne
      · rw [hd] at h1
        simp only [Bool.and_eq_true, Bool.not_eq_true', Bool.or_eq_true] at h1
        obtain ⟨h2, h3⟩ := h1
        refine ⟨fun e => ?_, fun hm => ?_⟩
        · rw [e] at h2; simp [dstIs] at h2
        · rcases h3 with (h3 | h3) | h3
          · have : ts.any (Nat.beq d) = true := List.any_eq_true.2 ⟨d, hm, by simp⟩
            rw [this] at h3; cases h3
          · exact .inl h3
          · exact .inr h3
    | succ k =>
      have := ih h.2 k o M (by simpa using hk) (by omega) d hd
      rwa [show j + 1 + k = j + (k + 1) by omega] at this
theorem allApart_spec {all : List (Oper × Nat)} : ∀ {l : List (Oper × Nat)} {i : Nat}, allApart all l i = true →
    ∀ (k : Nat) o M, l[k]? = some (o, M) → guardOk M o.guard = true ∧ apartAll (i + k) M (tmpsOf o.op) o.dst all 0 = true := by
  intro l
  induction l with
  | nil => intro i h k o M hk; simp at hk
  | cons x l ih =>
    intro i h k o M hk
    obtain ⟨o0, M0⟩ := x
    unfold allApart at h
    simp only [Bool.and_eq_true] at h
    cases k with
    | zero =>
      simp at hk
      obtain ⟨rfl, rfl⟩ := hk
      exact ⟨h.1.1, h.1.2⟩
    | succ k =>
      have := ih h.2 k o M (by simpa using hk)
      rwa [show i + 1 + k = i + (k + 1) by omega] at this
theorem dinfo_spec {ops : Array Oper} {all : List (Oper × Nat)} (h : dinfo ops = some all) : DI ops all := by
  unfold dinfo at h
  split at h
  · rename_i ms hms
    split at h
    · rename_i hap
      simp at h
      subst h
      obtain ⟨_, h2, h3⟩ := masks_spec hms
      simp at h2
      have get : ∀ (j : Nat) o M, (ops.toList.zip ms)[j]? = some (o, M) → maskOf (ms.take j) o.after.toList 0 = some M ∧ j < ops.size := by
        intro j o M hj
        rw [List.getElem?_zip_eq_some] at hj
        obtain ⟨M', h4, h5⟩ := h3 j o hj.1
        simp at h4 h5
        rw [hj.2] at h4
        cases h4
        exact ⟨h5, by have := hj.1; rcases Nat.lt_or_ge j ops.size with h | h
                      · exact h
                      · simp [Array.getElem?_eq_none h] at this⟩
      refine ⟨?_, fun j o M hj e he hb => ?_, fun j o M hj i hi => ?_, fun j o M hj g want hg => ?_, fun j o M hj k o' M' hk hne d hd => ?_⟩
      · rw [List.map_fst_zip]; simp [h2]
      · obtain ⟨h4, _⟩ := get j o M hj
        obtain ⟨h5, h6⟩ := (maskOf_spec h4).2.1 e he hb
        rw [List.length_take] at h5
        exact ⟨by omega, h6⟩
      · obtain ⟨h4, hlt⟩ := get j o M hj
        rcases (maskOf_spec h4).2.2 i hi with h5 | ⟨e, he, hb, h5, h6⟩
        · simp at h5
        · rw [List.length_take] at h5
          have h51 : e.on < j := by omega
          refine ⟨e, he, hb, h51, h6.imp_right fun h6 => ?_⟩
          have hon : e.on < ms.length := by omega
          have ho' : e.on < ops.toList.length := by simp; omega
          refine ⟨ops.toList[e.on], ms[e.on], by rw [List.getElem?_zip_eq_some]; exact ⟨List.getElem?_eq_getElem ho', List.getElem?_eq_getElem hon⟩, ?_⟩
          rw [List.getD_eq_getElem?_getD, List.getElem?_take, if_pos h51, List.getElem?_eq_getElem hon] at h6
          exact h6
      · have := (allApart_spec hap j o M hj).1
        rw [hg] at this
        exact this
      · have h4 := (allApart_spec hap j o M hj).2
        have := apartAll_spec h4 k o' M' hk (by omega) d hd
        simpa using this
    · cases h
  · cases h
end Go.Ex
namespace Go.Ex
open Go Go.RowKit

/-- One operation, in the order of the text. -/
def RcOK (E : Env) (nest : Nest) (ops : Array Oper) (r : Rc) : Prop :=
  (r.kd = 0 ∧ wantedA ops r.tm r.o = false ∧ r.v = undef ∧ r.H' = r.H) ∨
  (r.kd = 1 ∧ isQ r.o.op = true ∧ wantedA ops r.tm r.o = true ∧ opR E nest r.o r.tm r.H r.nx = .val r.v r.H' r.nx' ∧ r.H' = r.H) ∨
  (r.kd = 2 ∧ isQ r.o.op = false ∧ wantedA ops r.tm r.o = true ∧ opR E nest r.o r.tm r.H r.nx = .val r.v r.H' r.nx')
def PutTo (nt : Nat) (tm : Tr Value) (dst : Option Tmp) (v : Value) (tm' : Tr Value) : Prop :=
  match dst with
  | none => tm' = tm
  | some d => (d < nt ∧ IsSet tm d v tm') ∨ (nt ≤ d ∧ tm' = tm)
inductive Chain (E : Env) (nest : Nest) (ops : Array Oper) (nt : Nat) : List (Oper × Nat) → Nat → Tr Value → Heap → List Rc → Tr Value → Heap → Prop where
  | nil (i : Nat) (tm : Tr Value) (H : Heap) : Chain E nest ops nt [] i tm H [] tm H
  | cons (r : Rc) (tm' : Tr Value) (l : List (Oper × Nat)) (rs : List Rc) (tmE : Tr Value) (HE : Heap) (hr : RcOK E nest ops r) (hp : PutTo nt r.tm r.o.dst r.v tm') (ht : Chain E nest ops nt l (r.i + 1) tm' r.H' rs tmE HE) :
      Chain E nest ops nt ((r.o, r.mask) :: l) r.i r.tm r.H (r :: rs) tmE HE
theorem putK_to {β : Type} {z r : β} {nt : Nat} {tm : Tr Value} {dst : Option Tmp} {v : Value} {k : Tr Value → β} (h : putK z nt tm dst v k = r) (hr : r ≠ z) : ∃ tm', k tm' = r ∧ PutTo nt tm dst v tm' := by
  unfold putK at h
  cases dst with
  | none => exact ⟨tm, h, rfl⟩
  | some d =>
    simp only at h
    split at h
    · rename_i hd
      obtain ⟨tm', h1, h2⟩ := setK_spec h hr
      exact ⟨tm', h2, .inl ⟨Nat.le_of_ble_eq_true hd, h1⟩⟩
    · rename_i hd
      have : ¬ d + 1 ≤ nt := fun e => by rw [Nat.ble_eq_true_of_le e] at hd; cases hd
      exact ⟨tm, h, .inr ⟨Nat.le_of_not_lt this, rfl⟩⟩
section canon
variable {E : Env} (hE : EnvOK E) {nest : Nest} {ops : Array Oper} {nt : Nat}
include hE in
theorem canon_some : ∀ {l : List (Oper × Nat)} {i : Nat} {tm : Tr Value} {H : Heap} {nx : Nat} {acc : List Rc} {k : List Rc → Tr Value → Heap → Nat → Out} {out : Out},
    canon E nest ops nt l i tm H nx acc k = out → out ≠ .fail → ∃ recs tm' H' nx', Chain E nest ops nt l i tm H recs tm' H' ∧ k (acc.reverse ++ recs) tm' H' nx' = out := by
  intro l
  induction l with
  | nil => intro i tm H nx acc k out h _; exact ⟨[], tm, H, nx, .nil _ _ _, by simpa using (show k acc.reverse tm H nx = out from h)⟩
  | cons x l ih =>
    intro i tm H nx acc k out h hr
    obtain ⟨o, m⟩ := x
    unfold canon at h
    split at h
    · rename_i hw
      obtain ⟨tm', h1, h2⟩ := putK_to h hr
      obtain ⟨recs, tmE, HE, nxE, h3, h4⟩ := ih h1 hr
      refine ⟨_, tmE, HE, nxE, .cons ⟨o, i, m, tm, H, nx, undef, H, nx, 0⟩ tm' l recs tmE HE (.inl ⟨rfl, hw, rfl, rfl⟩) h2 h3, by simpa using h4⟩
    · rename_i hw
      split at h
      · rename_i v H' nx' hop
        obtain ⟨tm', h1, h2⟩ := putK_to h hr
        obtain ⟨recs, tmE, HE, nxE, h3, h4⟩ := ih h1 hr
        refine ⟨_, tmE, HE, nxE, .cons ⟨o, i, m, tm, H, nx, v, H', nx', match isQ o.op with | true => 1 | false => 2⟩ tm' l recs tmE HE ?_ h2 h3, by rw [← h4, List.reverse_cons, List.append_assoc]; rfl⟩
        cases hq : isQ o.op with
        | true =>
          refine .inr (.inl ⟨rfl, hq, hw, hop, ?_⟩)
          unfold opR at hop
          rw [hq] at hop
          obtain ⟨v', h5, _⟩ := xq_ok hE hop (by simp)
          cases h5; rfl
        | false => exact .inr (.inr ⟨rfl, hq, hw, hop⟩)
      · exact absurd h.symm hr
theorem Chain.length {l : List (Oper × Nat)} {i : Nat} {tm tmE : Tr Value} {H HE : Heap} {recs : List Rc} (h : Chain E nest ops nt l i tm H recs tmE HE) : recs.length = l.length := by
  induction h with
  | nil => rfl
  | cons r tm' l rs tmE HE hr hp ht ih => simp [ih]
theorem Chain.at {l : List (Oper × Nat)} {i : Nat} {tm tmE : Tr Value} {H HE : Heap} {recs : List Rc} (h : Chain E nest ops nt l i tm H recs tmE HE) :
    ∀ (j : Nat) r, recs[j]? = some r → l[j]? = some (r.o, r.mask) ∧ r.i = i + j ∧ RcOK E nest ops r := by
  induction h with
  | nil => intro j r hr; simp at hr
  | cons r0 tm' l rs tmE HE hr hp ht ih =>
    intro j r hj
    cases j with
    | zero => simp at hj; subst hj; exact ⟨rfl, by simp, hr⟩
    | succ j =>
      obtain ⟨h1, h2, h3⟩ := ih j r (by simpa using hj)
      exact ⟨by simpa using h1, by omega, h3⟩
/-- The slots, when the operations of S are done. -/
def Slots (nt : Nat) (recs : List Rc) (S : Nat → Prop) (tm t : Tr Value) : Prop :=
  ∀ m, (m < nt → ∀ r ∈ recs, S r.i → r.o.dst = some m → get t m = some r.v) ∧ ((∀ r ∈ recs, S r.i → r.o.dst ≠ some m) ∨ nt ≤ m → get t m = get tm m)
/-- No two write one slot. -/
def Sole (recs : List Rc) : Prop := ∀ (j k : Nat) r s d, recs[j]? = some r → recs[k]? = some s → j ≠ k → r.o.dst = some d → s.o.dst ≠ some d
theorem Sole.tail {r : Rc} {rs : List Rc} (h : Sole (r :: rs)) : Sole rs := fun j k a b d h1 h2 hne h3 => h (j + 1) (k + 1) a b d (by simpa using h1) (by simpa using h2) (by omega) h3
theorem PutTo.get_ne {tm tm' : Tr Value} {dst : Option Tmp} {v : Value} (h : PutTo nt tm dst v tm') {m : Nat} (hm : dst ≠ some m ∨ nt ≤ m) : get tm' m = get tm m := by
  cases dst with
  | none => rw [show tm' = tm from h]
  | some d =>
    rcases h with h | h
    · rw [h.2 m, if_neg (fun e => by
        rcases hm with hm | hm
        · exact hm (by rw [e])
        · subst e; exact absurd h.1 (Nat.not_lt.2 hm))]
    · rw [h.2]
theorem PutTo.get_eq {tm tm' : Tr Value} {d : Tmp} {v : Value} (h : PutTo nt tm (some d) v tm') (hd : d < nt) : get tm' d = some v := by
  rcases h with h | h
  · rw [h.2 d, if_pos rfl]
  · exact absurd hd (Nat.not_lt.2 h.1)
theorem Chain.idx {l : List (Oper × Nat)} {i : Nat} {tm tmE : Tr Value} {H HE : Heap} {recs : List Rc} (h : Chain E nest ops nt l i tm H recs tmE HE) : ∀ r ∈ recs, i ≤ r.i := by
  intro r hr
  obtain ⟨j, hj⟩ := List.mem_iff_getElem?.1 hr
  have := (h.at j r hj).2.1
  omega
theorem Chain.slots {l : List (Oper × Nat)} {i : Nat} {tm tmE : Tr Value} {H HE : Heap} {recs : List Rc} (h : Chain E nest ops nt l i tm H recs tmE HE) : Sole recs →
    (∀ r ∈ recs, Slots nt recs (fun j => j < r.i) tm r.tm) ∧ Slots nt recs (fun _ => True) tm tmE := by
  induction h with
  | nil i tm H => intro _; exact ⟨by simp, fun m => ⟨fun _ r hr => by simp at hr, fun _ => rfl⟩⟩
  | cons r0 tm' l rs tmE HE hr hp ht ih =>
    intro hs
    obtain ⟨h1, h2⟩ := ih hs.tail
    have others : ∀ d, r0.o.dst = some d → ∀ r ∈ rs, r.o.dst ≠ some d := fun d hd r hr => by
      obtain ⟨j, hj⟩ := List.mem_iff_getElem?.1 hr
      exact hs 0 (j + 1) r0 r d rfl (by simpa using hj) (by omega) hd
    have step : ∀ {S : Nat → Prop} {t : Tr Value}, S r0.i → Slots nt rs S tm' t → Slots nt (r0 :: rs) S r0.tm t := by
      intro S t h0 hsl m
      refine ⟨fun hm r hr hS hd => ?_, fun hno => ?_⟩
      · rcases List.mem_cons.1 hr with rfl | hr
        · rw [(hsl m).2 (.inl fun s hs' _ => others m hd s hs')]
          rw [hd] at hp
          exact hp.get_eq hm
        · exact (hsl m).1 hm r hr hS hd
      · rcases hno with hno | hno
        · rw [(hsl m).2 (.inl fun s hs' hS => hno s (by simp [hs']) hS)]
          exact hp.get_ne (.inl (hno r0 (by simp) h0))
        · rw [(hsl m).2 (.inr hno)]
          exact hp.get_ne (.inr hno)
    refine ⟨fun r hr => ?_, step trivial h2⟩
    rcases List.mem_cons.1 hr with rfl | hr
    · intro m
      refine ⟨fun _ s hs' hlt => ?_, fun _ => rfl⟩
      rcases List.mem_cons.1 hs' with rfl | hs'
      · exact absurd hlt (Nat.lt_irrefl _)
      · have := ht.idx s hs'; omega
    · have := ht.idx r hr
      exact step (by omega) (h1 r hr)
/-- The heap before loud operation k. -/
def hs (H : Heap) (loud : List Rc) (k : Nat) : Heap :=
  match k with
  | 0 => H
  | k + 1 => match loud[k]? with | some r => r.H' | none => H
def louds (recs : List Rc) : List Rc := recs.filter fun r => Nat.beq r.kd 2
theorem Chain.heaps {l : List (Oper × Nat)} {i : Nat} {tm tmE : Tr Value} {H HE : Heap} {recs : List Rc} (h : Chain E nest ops nt l i tm H recs tmE HE) :
    (∀ (k : Nat) r, (louds recs)[k]? = some r → r.H = hs H (louds recs) k) ∧ HE = hs H (louds recs) (louds recs).length ∧ (louds recs = [] → ∀ q ∈ recs, q.H = H) := by
  induction h with
  | nil i tm H => exact ⟨by simp [louds], rfl, by simp⟩
  | cons r0 tm' l rs tmE HE hr hp ht ih =>
    obtain ⟨h1, h2, h3⟩ := ih
    by_cases hk : Nat.beq r0.kd 2 = true
    · have hl : louds (r0 :: rs) = r0 :: louds rs := by simp only [louds, List.filter_cons, hk, if_true]
      rw [hl]
      have hsh : ∀ k, hs r0.H (r0 :: louds rs) (k + 1) = hs r0.H' (louds rs) k ∨ (louds rs).length < k := by
        intro k
        cases k with
        | zero => exact .inl rfl
        | succ k =>
          simp only [hs, List.getElem?_cons_succ]
          cases hg : (louds rs)[k]? with
          | some r => exact .inl rfl
          | none => exact .inr (by have := List.getElem?_eq_none_iff.1 hg; omega)
      refine ⟨fun k r hr' => ?_, ?_, fun h => by cases h⟩
      · cases k with
        | zero => simp at hr'; subst hr'; rfl
        | succ k =>
          have hr'' : (louds rs)[k]? = some r := by simpa using hr'
          rcases hsh k with h | h
          · rw [h]; exact h1 k r hr''
          · have := (List.getElem?_eq_some_iff.1 hr'').1; omega
      · rw [h2]
        rcases hsh (louds rs).length with h | h
        · exact h.symm
        · omega
    · have hl : louds (r0 :: rs) = louds rs := by simp only [louds, List.filter_cons, hk, Bool.false_eq_true, if_false]
      have hH : r0.H' = r0.H := by
        rcases hr with ⟨_, _, _, h⟩ | ⟨_, _, _, _, h⟩ | ⟨h, _⟩
        · exact h
        · exact h
        · rw [h] at hk; exact absurd rfl hk
      rw [hl]
      rw [hH] at h1 h2 h3
      refine ⟨h1, h2, fun h q hq => ?_⟩
      rcases List.mem_cons.1 hq with rfl | hq
      · rfl
      · exact h3 h q hq
end canon

/-! sets of loud operations, as numbers -/
def dn (p : Rc → Bool) : List Rc → Nat → Nat
  | [], _ => 0
  | r :: l, bit => (match p r with | true => bit | false => 0) + dn p l (2 * bit)
theorem plm_dn (m : Nat) : ∀ (l : List Rc) (bit : Nat), plm m l bit = dn (fun r => m.testBit r.i) l bit := by
  intro l
  induction l with
  | nil => intro bit; rfl
  | cons r l ih => intro bit; unfold plm dn; rw [ih]; cases m.testBit r.i <;> rfl
theorem slm_dn (i : Nat) : ∀ (l : List Rc) (bit : Nat), slm i l bit = dn (fun r => r.mask.testBit i) l bit := by
  intro l
  induction l with
  | nil => intro bit; rfl
  | cons r l ih => intro bit; unfold slm dn; rw [ih]; cases r.mask.testBit i <;> rfl
theorem dn_mul (p : Rc → Bool) : ∀ (l : List Rc) (b c : Nat), dn p l (b * c) = b * dn p l c := by
  intro l
  induction l with
  | nil => intro b c; rfl
  | cons r l ih =>
    intro b c
    unfold dn
    rw [show 2 * (b * c) = b * (2 * c) by rw [Nat.mul_left_comm], ih, Nat.mul_add]
    cases p r <;> rfl
theorem dn_cons (p : Rc → Bool) (r : Rc) (l : List Rc) : dn p (r :: l) 1 = (match p r with | true => 1 | false => 0) + 2 * dn p l 1 := by
  conv => lhs; unfold dn
  rw [dn_mul]
theorem dn_bit (p : Rc → Bool) : ∀ (l : List Rc) (n : Nat), (dn p l 1).testBit n = (match l[n]? with | some r => p r | none => false) := by
  intro l
  induction l with
  | nil => intro n; simp [dn]
  | cons r l ih =>
    intro n
    rw [dn_cons]
    cases n with
    | zero =>
      cases hp : p r with
      | true => simp [Nat.testBit_zero, hp]
      | false => simp [Nat.testBit_zero, hp]
    | succ n =>
      rw [Nat.testBit_succ]
      rw [show ((match p r with | true => 1 | false => 0) + 2 * dn p l 1) / 2 = dn p l 1 by cases p r <;> (dsimp only; omega)]
      simp [ih]
theorem dn_congr {p q : Rc → Bool} : ∀ {l : List Rc} (_h : ∀ r ∈ l, p r = q r) (bit : Nat), dn p l bit = dn q l bit := by
  intro l
  induction l with
  | nil => intro _ bit; rfl
  | cons r l ih =>
    intro h bit
    unfold dn
    rw [h r (by simp), ih fun s hs => h s (by simp [hs])]
theorem dn_add {p q : Rc → Bool} : ∀ {l : List Rc} {k : Nat} (_h : ∀ (n : Nat) r, l[n]? = some r → q r = (p r || decide (n = k))) {rk : Rc} (_hk : l[k]? = some rk) (_hp : p rk = false) (bit : Nat), dn q l bit = dn p l bit + bit * 2 ^ k := by
  intro l
  induction l with
  | nil => intro k _ rk hk; simp at hk
  | cons r l ih =>
    intro k h rk hk hp bit
    unfold dn
    cases k with
    | zero =>
      simp at hk
      subst hk
      have h0 := h 0 r rfl
      rw [hp] at h0
      simp at h0
      rw [h0, hp, dn_congr (p := q) (q := p) fun s hs => by
        obtain ⟨n, hn⟩ := List.mem_iff_getElem?.1 hs
        have := h (n + 1) s (by simpa using hn)
        simpa using this]
      simp; omega
    | succ k =>
      have h0 := h 0 r rfl
      simp at h0
      rw [h0, ih (k := k) (fun n s hn => by have := h (n + 1) s (by simpa using hn); simpa using this) (by simpa using hk) hp (2 * bit)]
      rw [Nat.pow_succ]
      have : 2 * bit * 2 ^ k = bit * (2 ^ k * 2) := by rw [Nat.mul_comm 2 bit, Nat.mul_assoc, Nat.mul_comm 2]
      omega
end Go.Ex
namespace Go.Ex
open Go Go.RowKit

/-- The heaps between the loud operations, by the set of those that are done. -/
structure TabOK (E : Env) (nest : Nest) (recs : List Rc) (H HE : Heap) (T : Nat → Option Heap) : Prop where
  zero : T 0 = some H
  quiet : ∀ D h, D < 2 ^ (louds recs).length → T D = some h → ∀ q ∈ recs, q.kd = 1 → readsH q.o.op = true → plm q.mask (louds recs) 1 &&& D = plm q.mask (louds recs) 1 → slm q.i (louds recs) 1 &&& D = 0 →
    ∃ (k : Value → R) (r : R), r ≠ .fail ∧ xq E q.o.op q.tm h k = r ∧ ∀ v, k v = r → v = q.v
  edge : ∀ D h, D < 2 ^ (louds recs).length → T D = some h → ∀ (k : Nat) r, (louds recs)[k]? = some r → D.testBit k = false → plm r.mask (louds recs) 1 &&& D = plm r.mask (louds recs) 1 →
    ∃ H' nx', opR E nest r.o r.tm h r.nx = .val r.v H' nx' ∧ T (D + 2 ^ k) = some H'
  last : T (2 ^ (louds recs).length - 1) = some HE
section tab
variable {E : Env} {nest : Nest} {loud : List Rc}
theorem quietAt_spec {D : Nat} {H : Heap} : ∀ {recs : List Rc}, quietAt E loud D H recs = true → ∀ q ∈ recs, q.kd = 1 → readsH q.o.op = true → plm q.mask loud 1 &&& D = plm q.mask loud 1 → slm q.i loud 1 &&& D = 0 →
    ∃ (k : Value → R) (r : R), r ≠ .fail ∧ xq E q.o.op q.tm H k = r ∧ ∀ v, k v = r → v = q.v := by
  intro recs
  induction recs with
  | nil => intro _ q hq; simp at hq
  | cons r recs ih =>
    intro h q hq hk hr h1 h2
    unfold quietAt at h
    simp only [Bool.and_eq_true] at h
    rcases List.mem_cons.1 hq with rfl | hq
    · have h3 := h.1
      have e1 : (Nat.beq q.kd 1 && readsH q.o.op) = true := by rw [hk, hr]; rfl
      rw [e1] at h3
      have e2 : (Nat.beq (plm q.mask loud 1 &&& D) (plm q.mask loud 1) && Nat.beq (slm q.i loud 1 &&& D) 0) = true := by
        rw [h1, h2]; simp
      rw [e2] at h3
      dsimp only at h3
      split at h3
      · rename_i v x y hx
        refine ⟨_, _, ?_, hx, fun v' hv' => ?_⟩
        · simp
        · cases hv'; exact veq_eq 6 h3
      · cases h3
    · exact ih h.2 q hq hk hr h1 h2
/-- What comes of loud operation r at the set D. -/
def EdgeR (E : Env) (nest : Nest) (D : Nat) (HD : Heap) (r : Rc) (bit : Nat) (H' : Heap) : Prop :=
  (D + 1 = bit ∧ H' = r.H') ∨ ∃ nx', opR E nest r.o r.tm HD r.nx = .val r.v H' nx'
theorem edges_spec {D : Nat} {HD : Heap} : ∀ {l : List Rc} {bit : Nat} {tb tb' : Tr Heap}, 0 < bit → edges E nest loud D HD l bit tb = some tb' →
    (∀ X h, get tb X = some h → get tb' X = some h) ∧ (∀ X, X ≤ D → get tb' X = get tb X) ∧
    ∀ (k : Nat) r, l[k]? = some r → D &&& (bit * 2 ^ k) = 0 → plm r.mask loud 1 &&& D = plm r.mask loud 1 → ∃ H', EdgeR E nest D HD r (bit * 2 ^ k) H' ∧ get tb' (D + bit * 2 ^ k) = some H' := by
  intro l
  induction l with
  | nil => intro bit tb tb' hb h; simp [edges] at h; subst h; exact ⟨fun _ _ h => h, fun _ _ => rfl, by simp⟩
  | cons r l ih =>
    intro bit tb tb' hb h
    have tail : ∀ {tb1 : Tr Heap}, edges E nest loud D HD l (2 * bit) tb1 = some tb' → (∀ X h, get tb X = some h → get tb1 X = some h) → (∀ X, X ≤ D → get tb1 X = get tb X) →
        (D &&& bit = 0 → plm r.mask loud 1 &&& D = plm r.mask loud 1 → ∃ H', EdgeR E nest D HD r bit H' ∧ get tb1 (D + bit) = some H') →
        (∀ X h, get tb X = some h → get tb' X = some h) ∧ (∀ X, X ≤ D → get tb' X = get tb X) ∧
        ∀ (k : Nat) s, (r :: l)[k]? = some s → D &&& (bit * 2 ^ k) = 0 → plm s.mask loud 1 &&& D = plm s.mask loud 1 → ∃ H', EdgeR E nest D HD s (bit * 2 ^ k) H' ∧ get tb' (D + bit * 2 ^ k) = some H' := by
      intro tb1 h1 hm hk he
      obtain ⟨g1, g2, g3⟩ := ih (by omega) h1
      refine ⟨fun X h hX => g1 X h (hm X h hX), fun X hX => (g2 X hX).trans (hk X hX), fun k s hs hd hp => ?_⟩
      cases k with
      | zero =>
        simp at hs
        subst hs
        rw [Nat.pow_zero, Nat.mul_one] at hd ⊢
        obtain ⟨H', f1, f2⟩ := he hd hp
        exact ⟨H', f1, g1 _ _ f2⟩
      | succ k =>
        have e : bit * 2 ^ (k + 1) = 2 * bit * 2 ^ k := by rw [Nat.pow_succ, Nat.mul_comm 2 bit, Nat.mul_assoc, Nat.mul_comm 2]
        rw [e] at hd ⊢
        exact g3 k s (by simpa using hs) hd hp
    unfold edges at h
    split at h
    · rename_i hc
      refine tail h (fun _ _ h => h) (fun _ _ => rfl) fun hd hp => ?_
      rw [hd, hp] at hc
      simp at hc
    · rename_i hc
      split at h
      · rename_i v H' nx' hv
        split at h
        · rename_i hveq
          simp only [Bool.and_eq_true] at hveq
          have hvv := veq_eq 6 hveq.1
          have hedge : EdgeR E nest D HD r bit H' := by
            split at hv
            · rename_i hb1
              cases hv
              exact .inl ⟨beq_eq hb1, rfl⟩
            · rw [hvv] at hv
              exact .inr ⟨nx', hv⟩
          split at h
          · rename_i hnone
            obtain ⟨tb1, h1, h2⟩ := setK_spec h (by simp)
            refine tail h2 (fun X h hX => ?_) (fun X hX => ?_) fun _ _ => ⟨H', hedge, ?_⟩
            · rw [h1 X]
              split
              · rename_i e; subst e; rw [hX] at hnone; cases hnone
              · exact hX
            · rw [h1 X, if_neg (by omega)]
            · rw [h1 _, if_pos rfl]
          · rename_i Tx hTx
            split at h
            · rename_i hteq
              have := treq_eq (fun a b => oeq_eq) hteq
              subst this
              exact tail h (fun _ _ h => h) (fun _ _ => rfl) fun _ _ => ⟨H', hedge, hTx⟩
            · cases h
        · cases h
      · cases h
theorem explore_spec {recs : List Rc} : ∀ {f D : Nat} {tb : Tr Heap}, explore E nest recs loud f D tb = true →
    ∃ T : Tr Heap, (∀ X h, get tb X = some h → get T X = some h) ∧ (∀ X, X ≤ D → get T X = get tb X) ∧
      ∀ X h, D ≤ X → X < D + f → get T X = some h → quietAt E loud X h recs = true ∧
        ∀ (k : Nat) r, loud[k]? = some r → X &&& (2 ^ k) = 0 → plm r.mask loud 1 &&& X = plm r.mask loud 1 → ∃ H', EdgeR E nest X h r (2 ^ k) H' ∧ get T (X + 2 ^ k) = some H' := by
  intro f
  induction f with
  | zero => intro D tb h; exact ⟨tb, fun _ _ h => h, fun _ _ => rfl, fun X h h1 h2 => by omega⟩
  | succ f ih =>
    intro D tb h
    unfold explore at h
    split at h
    · rename_i hnone
      obtain ⟨T, h1, h2, h3⟩ := ih h
      refine ⟨T, h1, fun X hX => h2 X (by omega), fun X hh hD hX hg => ?_⟩
      by_cases e : X = D
      · subst e; rw [h2 X (by omega), hnone] at hg; cases hg
      · exact h3 X hh (by omega) (by omega) hg
    · rename_i HD hHD
      split at h
      · rename_i hq
        split at h
        · rename_i tb' htb
          obtain ⟨g1, g2, g3⟩ := edges_spec (by omega) htb
          obtain ⟨T, h1, h2, h3⟩ := ih h
          refine ⟨T, fun X hh hX => h1 X hh (g1 X hh hX), fun X hX => (h2 X (by omega)).trans (g2 X hX), fun X hh hD hX hg => ?_⟩
          by_cases e : X = D
          · subst e
            rw [h2 X (by omega), g2 X (by omega), hHD] at hg
            cases hg
            refine ⟨hq, fun k r hr hd hp => ?_⟩
            obtain ⟨H', f1, f2⟩ := g3 k r hr (by rw [Nat.one_mul]; exact hd) hp
            rw [Nat.one_mul] at f1 f2
            exact ⟨H', f1, h1 _ _ f2⟩
          · exact h3 X hh (by omega) (by omega) hg
        · cases h
      · cases h
theorem and_pow_zero {D k : Nat} (h : D.testBit k = false) : D &&& 2 ^ k = 0 := by
  apply Nat.eq_of_testBit_eq
  intro i
  rw [Nat.testBit_and, Nat.testBit_two_pow, Nat.zero_testBit]
  by_cases e : k = i
  · subst e; simp [h]
  · simp [e]
theorem inLine_spec : ∀ {l : List Rc} {bit : Nat}, inLine loud l bit = true → ∀ (k : Nat) r, l[k]? = some r → plm r.mask loud 1 + 1 = bit * 2 ^ k := by
  intro l
  induction l with
  | nil => intro bit _ k r hr; simp at hr
  | cons s l ih =>
    intro bit h k r hr
    unfold inLine at h
    simp only [Bool.and_eq_true] at h
    cases k with
    | zero => simp at hr; subst hr; rw [beq_eq h.1]; simp
    | succ k =>
      have := ih h.2 k r (by simpa using hr)
      rw [this, Nat.pow_succ, Nat.mul_comm 2 bit, Nat.mul_assoc, Nat.mul_comm 2]
theorem lineOk_spec {recs : List Rc} : ∀ {l : List Rc} {bit : Nat}, lineOk E recs loud l bit = true → ∀ (k : Nat) r, l[k]? = some r →
    quietAt E loud (bit * 2 ^ k - 1) r.H recs = true ∧ quietAt E loud (bit * 2 ^ (k + 1) - 1) r.H' recs = true := by
  intro l
  induction l with
  | nil => intro bit _ k r hr; simp at hr
  | cons s l ih =>
    intro bit h k r hr
    unfold lineOk at h
    simp only [Bool.and_eq_true] at h
    cases k with
    | zero => simp at hr; subst hr; rw [Nat.pow_zero, Nat.mul_one, Nat.zero_add, Nat.pow_one, Nat.mul_comm]; exact h.1
    | succ k =>
      have := ih h.2 k r (by simpa using hr)
      have e : ∀ k, bit * 2 ^ (k + 1) = 2 * bit * 2 ^ k := fun k => by rw [Nat.pow_succ, Nat.mul_comm 2 bit, Nat.mul_assoc, Nat.mul_comm 2]
      rw [e k, e (k + 1)]
      exact this
end tab
section order
variable {E : Env} {nest : Nest} {ops : Array Oper} {nt i : Nat} {all : List (Oper × Nat)} {tm tmE : Tr Value} {H HE : Heap} {recs : List Rc}
theorem louds_mem {r : Rc} (h : r ∈ louds recs) : r ∈ recs ∧ r.kd = 2 := by
  unfold louds at h
  rw [List.mem_filter] at h
  exact ⟨h.1, beq_eq h.2⟩
theorem louds_sorted (hc : Chain E nest ops nt all i tm H recs tmE HE) : ∀ (j k : Nat) r s, (louds recs)[j]? = some r → (louds recs)[k]? = some s → j < k → r.i < s.i := by
  have hp : recs.Pairwise fun a b => a.i < b.i := by
    rw [List.pairwise_iff_getElem]
    intro a b ha hb hab
    have h1 := (hc.at a recs[a] (List.getElem?_eq_getElem ha)).2.1
    have h2 := (hc.at b recs[b] (List.getElem?_eq_getElem hb)).2.1
    omega
  have hp2 := hp.filter (fun r => Nat.beq r.kd 2)
  rw [List.pairwise_iff_getElem] at hp2
  intro j k r s hj hk hlt
  obtain ⟨h1, rfl⟩ := List.getElem?_eq_some_iff.1 hj
  obtain ⟨h2, rfl⟩ := List.getElem?_eq_some_iff.1 hk
  exact hp2 j k h1 h2 hlt
theorem louds_op (hc : Chain E nest ops nt all i tm H recs tmE HE) {r : Rc} (h : r ∈ louds recs) : opR E nest r.o r.tm r.H r.nx = .val r.v r.H' r.nx' := by
  obtain ⟨h1, h2⟩ := louds_mem h
  obtain ⟨j, hj⟩ := List.mem_iff_getElem?.1 h1
  rcases (hc.at j r hj).2.2 with ⟨h3, _⟩ | ⟨h3, _⟩ | ⟨_, _, _, h4⟩
  · omega
  · omega
  · exact h4
/-- Loud operations before k alone stand before k. -/
theorem plm_below (hd : DI ops all) (hc : Chain E nest ops nt all 0 tm H recs tmE HE) {k : Nat} {r : Rc} (hr : (louds recs)[k]? = some r) : plm r.mask (louds recs) 1 &&& (2 ^ k - 1) = plm r.mask (louds recs) 1 := by
  apply Nat.eq_of_testBit_eq
  intro n
  rw [Nat.testBit_and, plm_dn, dn_bit, Nat.testBit_two_pow_sub_one]
  cases hn : (louds recs)[n]? with
  | none => rfl
  | some s =>
    dsimp only
    cases hb : r.mask.testBit s.i with
    | false => rfl
    | true =>
      obtain ⟨j, hj⟩ := List.mem_iff_getElem?.1 (louds_mem (List.mem_of_getElem? hr)).1
      obtain ⟨h1, h2, _⟩ := hc.at j r hj
      have h3 := hd.lt j _ _ h1 _ hb
      have : n < k := by
        rcases Nat.lt_trichotomy n k with h | h | h
        · exact h
        · subst h; rw [hn] at hr; cases hr; omega
        · have := louds_sorted hc k n r s hr hn h; omega
      simp [this]
theorem order_tab (hd : DI ops all) (hc : Chain E nest ops nt all 0 tm H recs tmE HE) (h : orderOk E nest H recs = true) : ∃ T, TabOK E nest recs H HE T := by
  obtain ⟨c1, c2, c3⟩ := hc.heaps
  unfold orderOk at h
  rw [show (recs.filter fun r => Nat.beq r.kd 2) = louds recs from rfl] at h
  generalize hL : louds recs = loud at h
  split at h
  · rename_i hl
    refine ⟨fun D => if D = 0 then some H else none, by simp, fun D hh hD hT q hq hk hr h1 h2 => ?_, fun D hh hD hT k r hr => by rw [hL] at hr; simp at hr, by rw [hL] at c2 ⊢; simp [c2, hs]⟩
    split at hT
    · cases hT
      obtain ⟨j, hj⟩ := List.mem_iff_getElem?.1 hq
      rcases (hc.at j q hj).2.2 with ⟨h3, _⟩ | ⟨_, hq', _, h4, _⟩ | ⟨h3, _⟩
      · omega
      · unfold opR at h4
        rw [hq'] at h4
        dsimp only at h4
        rw [c3 hL q hq] at h4
        exact ⟨_, _, by simp, h4, fun v hv => (R.val.inj hv).1⟩
      · omega
    · cases hT
  · rename_i hne
    subst hL
    split at h
    · rename_i hin
      have hline := fun k r => inLine_spec hin k r
      have hlo := fun k r => lineOk_spec h k r
      have hn : 0 < (louds recs).length := by
        cases hl : louds recs with
        | nil => exact absurd hl (by first | exact hne | exact fun h => hne h)
        | cons _ _ => simp
      -- the table: the prefixes
      refine ⟨fun D => if 2 ^ Nat.log2 (D + 1) = D + 1 ∧ Nat.log2 (D + 1) ≤ (louds recs).length then some (hs H (louds recs) (Nat.log2 (D + 1))) else none, ?_, ?_, ?_, ?_⟩
      · have : Nat.log2 1 = 0 := by decide
        simp [this, hs]
      · intro D hh hD hT q hq hk hr h1 h2
        split at hT
        · rename_i hlog
          cases hT
          generalize Nat.log2 (D + 1) = m at hlog h1 h2 ⊢
          have hDm : D = 2 ^ m - 1 := by omega
          subst hDm
          cases m with
          | zero =>
            have h3 := (hlo 0 (louds recs)[0] (List.getElem?_eq_getElem hn)).1
            rw [c1 0 _ (List.getElem?_eq_getElem hn), Nat.one_mul] at h3
            exact quietAt_spec h3 q hq hk hr h1 h2
          | succ m =>
            have hm : m < (louds recs).length := by omega
            have h3 := (hlo m (louds recs)[m] (List.getElem?_eq_getElem hm)).2
            rw [Nat.one_mul] at h3
            have : hs H (louds recs) (m + 1) = ((louds recs)[m]).H' := by simp only [hs]; rw [List.getElem?_eq_getElem hm]
            rw [this]
            exact quietAt_spec h3 q hq hk hr h1 h2
        · cases hT
      · intro D hh hD hT k r hr hbit hp
        split at hT
        · rename_i hlog
          cases hT
          generalize Nat.log2 (D + 1) = m at hlog ⊢
          have hDm : D = 2 ^ m - 1 := by omega
          subst hDm
          have h1 : ¬ k < m := by rw [Nat.testBit_two_pow_sub_one] at hbit; simpa using hbit
          have h2 := hline k r hr
          rw [Nat.one_mul] at h2
          have h2' : plm r.mask (louds recs) 1 = 2 ^ k - 1 := by omega
          have h3 : ¬ m < k := fun hmk => by
            have := congrArg (fun x => x.testBit m) hp
            simp only [Nat.testBit_and, h2', Nat.testBit_two_pow_sub_one] at this
            simp [hmk] at this
          have : m = k := by omega
          subst this
          refine ⟨r.H', r.nx', ?_, ?_⟩
          · have := louds_op hc (List.mem_of_getElem? hr)
            rw [c1 _ _ hr] at this
            exact this
          · have hpos : 0 < 2 ^ m := Nat.two_pow_pos m
            have e : 2 ^ m - 1 + 2 ^ m + 1 = 2 ^ (m + 1) := by rw [Nat.pow_succ]; omega
            rw [e, Nat.log2_two_pow]
            have hlt := (List.getElem?_eq_some_iff.1 hr).1
            rw [if_pos ⟨rfl, by omega⟩]
            simp only [hs, hr]
        · cases hT
      · have hpos : 0 < 2 ^ (louds recs).length := Nat.two_pow_pos _
        rw [show 2 ^ (louds recs).length - 1 + 1 = 2 ^ (louds recs).length by omega, Nat.log2_two_pow, if_pos ⟨rfl, Nat.le_refl _⟩, ← c2]
    · obtain ⟨tb, h1, h2⟩ := setK_spec h (by simp)
      obtain ⟨T, g1, g2, g3⟩ := explore_spec h2
      have hT0 : get T 0 = some H := g1 0 H (by rw [h1 0, if_pos rfl])
      have pre : ∀ k, k ≤ (louds recs).length → get T (2 ^ k - 1) = some (hs H (louds recs) k) := by
        intro k
        induction k with
        | zero => intro _; exact hT0
        | succ k ih =>
          intro hk
          have h3 := ih (by omega)
          have hpos : 0 < 2 ^ k := Nat.two_pow_pos k
          have hlt : 2 ^ k ≤ 2 ^ (louds recs).length := Nat.pow_le_pow_right (by omega) (by omega)
          have hr : (louds recs)[k]? = some (louds recs)[k] := List.getElem?_eq_getElem (by omega)
          obtain ⟨H', h4, h5⟩ := (g3 _ _ (by omega) (by omega) h3).2 k _ hr (and_pow_zero (by rw [Nat.testBit_two_pow_sub_one]; simp)) (plm_below hd hc hr)
          have e : 2 ^ k - 1 + 2 ^ k = 2 ^ (k + 1) - 1 := by rw [Nat.pow_succ]; omega
          rw [e] at h5
          have e2 : hs H (louds recs) (k + 1) = ((louds recs)[k]).H' := by simp only [hs]; rw [hr]
          rw [e2, h5]
          rcases h4 with ⟨_, h4⟩ | ⟨nx', h4⟩
          · rw [h4]
          · have := louds_op hc (List.mem_of_getElem? hr)
            rw [c1 _ _ hr] at this
            rw [this] at h4
            cases h4; rfl
      refine ⟨fun X => get T X, hT0, fun D hh hD hT => ?_, fun D hh hD hT k r hr hbit hp => ?_, by rw [c2]; exact pre _ (Nat.le_refl _)⟩
      · exact quietAt_spec (g3 D hh (by omega) (by omega) hT).1
      · obtain ⟨H', h4, h5⟩ := (g3 D hh (by omega) (by omega) hT).2 k r hr (and_pow_zero hbit) hp
        rcases h4 with ⟨h6, h7⟩ | ⟨nx', h4⟩
        · have hlt := (List.getElem?_eq_some_iff.1 hr).1
          have h8 := pre k (by omega)
          rw [show 2 ^ k - 1 = D by omega] at h8
          have h9 : hh = hs H (louds recs) k := by
            have : get T D = some hh := hT
            rw [h8] at this
            cases this; rfl
          have := louds_op hc (List.mem_of_getElem? hr)
          rw [c1 _ _ hr, ← h9] at this
          exact ⟨r.H', r.nx', this, by rw [← h7]; exact h5⟩
        · exact ⟨H', nx', h4, h5⟩
end order
end Go.Ex
