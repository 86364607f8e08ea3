/- Proved here, with no condition of its own: the evaluator: its operations are right. -/
import Derived.Test.YtojicidicefdjaaGreatExA
import Derived.Laws.BytesString
import Derived.RangeFuncLeaves
import Derived.RangeFuncRecord
namespace Go.Ex
open Go Go.RowKit
/-- The same place found, the one list's value in place of the other's. -/
def FRel (L : List MapEntry) (i : Nat) : Option (Nat × Value) → Option (Nat × Value) → Prop
  | none, none => True
  | some (j, _), some (j', v) => j' = j ∧ i ≤ j ∧ ∃ e, L[j - i]? = some e ∧ v = e.val
  | _, _ => False
theorem FRel.cons {L : List MapEntry} {e : MapEntry} {i : Nat} {a b : Option (Nat × Value)} (h : FRel L (i + 1) a b) : FRel (e :: L) i a b := by
  cases a with
  | none => cases b with | none => trivial | some _ => exact h.elim
  | some a => cases b with
    | none => exact h.elim
    | some b =>
      obtain ⟨h0, h1, e', h2, h3⟩ := h
      refine ⟨h0, by omega, e', ?_, h3⟩
      obtain ⟨m, hm⟩ : ∃ m, a.1 = i + 1 + m := ⟨a.1 - (i + 1), by omega⟩
      rw [hm] at h2 ⊢
      rw [show i + 1 + m - (i + 1) = m by omega] at h2
      rw [show i + 1 + m - i = m + 1 by omega]
      simpa using h2
def FRelO (L : List MapEntry) (i : Nat) : Option (Option (Nat × Value)) → Option (Option (Nat × Value)) → Prop
  | none, none => True
  | some a, some b => FRel L i a b
  | _, _ => False
theorem findNow_rel (kind : TypeDesc) (key : Value) : ∀ (S L : List MapEntry) (i : Nat), S.map (·.key) = L.map (·.key) → FRelO L i (Instr.findNow kind key S i) (Instr.findNow kind key L i)
  | [], [], i, _ => trivial
  | [], _ :: _, _, h => by simp at h
  | _ :: _, [], _, h => by simp at h
  | s :: S, l :: L, i, h => by
    simp at h
    unfold Instr.findNow
    rw [h.1]
    cases hs : Instr.sameNow kind key l.key with
    | none => trivial
    | some b =>
      cases b with
      | true => exact ⟨rfl, Nat.le_refl _, l, by simp, rfl⟩
      | false =>
        have ih := findNow_rel kind key S L (i + 1) h.2
        simp only
        generalize Instr.findNow kind key S (i + 1) = a at ih ⊢
        generalize Instr.findNow kind key L (i + 1) = b at ih ⊢
        cases a <;> cases b <;> first | trivial | exact ih.elim | exact FRel.cons ih
theorem findAsking_rel {P : Program} (kt : TypeId) (key : Value) : ∀ (S L : List MapEntry) (i : Nat) (a : Option (Nat × Value)), S.map (·.key) = L.map (·.key) →
    pureO P (Instr.findAsking kt key S i) = some a → ∃ b, pureO P (Instr.findAsking kt key L i) = some b ∧ FRel L i a b
  | [], [], i, a, _, h => by cases h; exact ⟨none, rfl, trivial⟩
  | [], _ :: _, _, _, h, _ => by simp at h
  | _ :: _, [], _, _, h, _ => by simp at h
  | s :: S, l :: L, i, a, h, hp => by
    simp at h
    unfold Instr.findAsking at hp ⊢
    rw [pureO_bind] at hp ⊢
    rw [h.1] at hp
    cases he : pureO P (Op.equal kt key l.key) with
    | none => rw [he] at hp; cases hp
    | some t =>
      rw [he] at hp
      simp only [Option.bind_some] at hp ⊢
      cases t with
      | true =>
        simp at hp
        cases hp
        exact ⟨some (i, l.val), rfl, rfl, Nat.le_refl _, l, by simp, rfl⟩
      | false =>
        simp at hp
        obtain ⟨b, h1, h2⟩ := findAsking_rel kt key S L (i + 1) a h.2 hp
        exact ⟨b, by simpa using h1, FRel.cons h2⟩
theorem findKey_rel {P : Program} {kt : TypeId} {key : Value} {S L : List MapEntry} {a : Option (Nat × Value)} (h : S.map (·.key) = L.map (·.key))
    (hp : pureO P (Instr.findKey kt key S) = some a) : ∃ b, pureO P (Instr.findKey kt key L) = some b ∧ FRel L 0 a b := by
  unfold Instr.findKey at hp ⊢
  rw [pureO_bind] at hp ⊢
  cases hu : pureO P (underlying kt) with
  | none => rw [hu] at hp; cases hp
  | some d =>
    rw [hu] at hp
    simp only [Option.bind_some] at hp ⊢
    have hr := findNow_rel d key S L 0 h
    cases h1 : Instr.findNow d key S 0 with
    | none =>
      rw [h1] at hp hr
      cases h2 : Instr.findNow d key L 0 with
      | none => simp only at hp ⊢; exact findAsking_rel kt key S L 0 a h hp
      | some b => rw [h2] at hr; exact hr.elim
    | some a' =>
      rw [h1] at hp hr
      cases h2 : Instr.findNow d key L 0 with
      | none => rw [h2] at hr; exact hr.elim
      | some b =>
        rw [h2] at hr
        simp only at hp ⊢
        cases hp
        exact ⟨b, rfl, hr⟩
theorem EntsRel.keys {σ : Sg} {es : List AEnt} {L : List MapEntry} (h : EntsRel σ es L) : (es.map fun e => ({ key := e.key, val := undef, born := e.born } : MapEntry)).map (·.key) = L.map (·.key) := by
  apply List.ext_getElem?
  intro i
  by_cases hi : i < es.length
  · obtain ⟨e', h1, h2, _⟩ := h.2 i es[i] (by simp [hi])
    simp [List.getElem?_eq_getElem hi, h1, h2]
  · have : L.length ≤ i := by rw [h.1]; omega
    simp [List.getElem?_eq_none (by omega : es.length ≤ i), List.getElem?_eq_none this]
section quiet
variable {E : Env} (hE : EnvOK E) {tm : Tr Value} {H : Heap} {k : Value → R} {r : R}
theorem map_con {B : Nat} {σ : Sg} {w : World} (rel : Rel B σ H w) {rr : Nat} {es : List AEnt} {clock : Nat} (hg : get H rr = some (.map es clock)) {V : Value} (hc : Con σ (.map (some rr)) V) :
    ∃ l es', σ rr = some l ∧ V = .map (some l.block) ∧ w.heap[l.block]? = some (.map es' clock) ∧ EntsRel σ es es'.toList := by
  obtain ⟨l, hl, hO, _⟩ := rel.obj _ _ hg
  obtain ⟨es', hh, hes⟩ := hO
  refine ⟨l, es', hl, ?_, hh, hes⟩
  cases hc with
  | sc _ h => simp [Ex.scal] at h
  | map _ l' h => rw [hl] at h; cases h; rfl

theorem getObj_run {P : Program} {w : World} {b : Nat} {o : Obj} (h : w.heap[b]? = some o) (hn : ∀ c t f, o ≠ .cells c t f) : (getObj b).run P w = .ok o w := by
  simp only [getObj, Sem.run, h]
include hE in
theorem q_lookup {t : TypeId} {x ix : Operand} {ok : Bool} (h : xq E (.lookup t x ix ok) tm H k = r) (hr : r ≠ .fail) : ∃ v, k v = r ∧ QOK E (.lookup t x ix ok) tm H v := by
  unfold xq at h
  dsimp only at h
  obtain ⟨m, hm, h1⟩ := evK_some h hr
  clear h
  obtain ⟨key, hk, h2⟩ := evK_some h1 hr
  clear h1
  split at h2
  · rename_i kt et rr hu hlit
    split at h2
    · rename_i es clock j hg hj
      obtain ⟨tj, zj, dj, hjo, hd, hag⟩ := inf_ok hE hj
      obtain ⟨a, h3, hp⟩ := pureK_pure h2 hr
      clear h2
      -- what the model's lookup comes to
      have main : ∀ {B : Nat} {σ : Sg} {w : World} {nt : Nat} {ac : Act} (o : Oper), o.op = .lookup t x ix ok → Rel B σ H w → TRel σ tm nt ac.tmps →
          ∃ (L : List MapEntry) (b : Option (Nat × Value)), EntsRel σ es L ∧ FRel L 0 a b ∧
            (execOp ac.eval o).run E.P w = .ok (.value (match b with | some (_, v) => (if ok then .tuple #[v, .bool true] else v) | none => (if ok then .tuple #[zj, .bool false] else zj))) w := by
        intro B σ w nt ac o ho rel ht
        obtain ⟨l, es', hl, he, hh, hes⟩ := map_con rel hg (evA_ok ht hm)
        have hkey := (evA_ok ht hk).lit hlit
        have hget := getObj_run (P := E.P) hh (by simp)
        rw [pureO_bind] at hp
        have hemp : es'.isEmpty = es.isEmpty := by
          have h1 := hes.1
          simp only [Array.length_toList] at h1
          cases es with
          | nil => simp at h1; simp [h1]
          | cons e es => simp at h1; cases hb : es'.isEmpty with
                         | false => rfl
                         | true => have := Array.isEmpty_iff_size_eq_zero.1 hb; omega
        cases hck : pureO E.P (Instr.checkKey es.isEmpty 10000 kt key) with
        | none => rw [hck] at hp; cases hp
        | some u =>
          rw [hck] at hp
          obtain ⟨b, hb, hrel⟩ := findKey_rel hes.keys hp
          refine ⟨es'.toList, b, hes, hrel, ?_⟩
          rw [exec_eq ho]
          simp only [execOp, Instr.lookup, Sem.run_bind, und_run hE hu, Result.andThen_ok, he, hget, hkey, Sem.run_pure]
          rw [hemp, pureO_run hck w]
          simp only [Result.andThen_ok, pureO_run hb w]
          cases b with
          | none => simp [hjo.zeroValue]
          | some b => cases ok <;> rfl
      cases a with
      | some ia =>
        obtain ⟨i, u⟩ := ia
        simp only at h3
        split at h3
        · rename_i e he
          have fin : ∀ v, (v = if ok then .tuple #[e.val, .bool true] else e.val) → QOK E (.lookup t x ix ok) tm H v := by
            intro v hv B σ w nt ac o ho rel ht
            obtain ⟨L, b, hes, hrel, hrun⟩ := main o ho rel ht
            cases b with
            | none => exact hrel.elim
            | some b =>
              obtain ⟨b1, b2⟩ := b
              obtain ⟨_, _, e', h4, h5⟩ := hrel
              obtain ⟨e'', h6, _, h7, _⟩ := hes.2 _ e he
              rw [Nat.sub_zero, h6] at h4
              cases h4
              subst h5
              refine ⟨_, ?_, hrun⟩
              subst hv
              cases ok
              · exact h7
              · exact .tup _ _ (.cons _ _ _ _ h7 (.cons _ _ _ _ (.sc _ rfl) .nil))
          split at h3
          · exact ⟨_, h3, fin _ rfl⟩
          · exact ⟨_, h3, fin _ rfl⟩
        · exact absurd h3.symm hr
      | none =>
        simp only at h3
        split at h3
        · exact absurd h3.symm hr
        · rename_i hag'
          split at h3
          · rename_i z hz
            have hzj : zj = z ∧ Ex.scal z = true := by
              have h5 := hjo.scal
              rw [hz] at h5
              have h6 := hjo.runs
              rw [hz] at h6
              have h7 : Ex.scal z = true := by simpa using h5
              refine ⟨?_, h7⟩
              cases zj with
              | agg cs => have h8 := hjo.zagg; simp_all [aggV]
              | _ => simp [Value.cells] at h6; exact h6.symm
            have fin : ∀ v, (v = if ok then .tuple #[z, .bool false] else z) → QOK E (.lookup t x ix ok) tm H v := by
              intro v hv B σ w nt ac o ho rel ht
              obtain ⟨L, b, hes, hrel, hrun⟩ := main o ho rel ht
              cases b with
              | some b => exact hrel.elim
              | none =>
                refine ⟨_, ?_, hrun⟩
                subst hv
                rw [hzj.1]
                cases ok
                · exact .sc _ hzj.2
                · exact .tup _ _ (.cons _ _ _ _ (.sc _ hzj.2) (.cons _ _ _ _ (.sc _ rfl) .nil))
            split at h3
            · exact ⟨_, h3, fin _ rfl⟩
            · exact ⟨_, h3, fin _ rfl⟩
          · exact absurd h3.symm hr
    · exact absurd h2.symm hr
  · exact absurd h2.symm hr
end quiet
end Go.Ex
namespace Go.Ex
open Go Go.RowKit
section quiet
variable {E : Env} (hE : EnvOK E) {tm : Tr Value} {H : Heap} {k : Value → R} {r : R}
theorem zero_con {P : Program} {t : TypeId} {i : AInfo} {ti : TypeInfo} {z : Value} (h : InfOK P t i ti z) {σ : Sg} :
    (i.agg = true → Con σ (.agg (rexpand i.runs).toArray) z) ∧ (i.agg = false → ∀ u, rexpand i.runs = [u] → Con σ u z) := by
  constructor
  · intro ha
    have h1 := h.zagg
    rw [ha] at h1
    cases z <;> simp [aggV] at h1
    rename_i cs
    have h2 := h.runs
    rw [h2]
    have h3 := h.scal
    rw [h2] at h3
    exact Con.agg _ _ (ConL.of_scal h3)
  · intro ha u hu
    have h1 := h.zagg
    rw [ha] at h1
    have h2 := h.runs
    have h3 := h.scal
    rw [hu] at h2 h3
    have : z = u := by
      cases z <;> simp [aggV] at h1 <;> simp [Value.cells] at h2 <;> exact h2.symm
    rw [this]
    exact .sc _ (by simpa using h3)
include hE in
theorem q_typeAssert {x : Operand} {xt t : TypeId} {ok : Bool} (h : xq E (.typeAssert x xt t ok) tm H k = r) (hr : r ≠ .fail) : ∃ v, k v = r ∧ QOK E (.typeAssert x xt t ok) tm H v := by
  unfold xq at h
  dsimp only at h
  obtain ⟨v, hv, h1⟩ := evK_some h hr
  clear h
  split at h1
  · exact absurd h1.symm hr
  · rename_i d j hni hd hj
    obtain ⟨tj, zj, dj, hjo, hd', hag⟩ := inf_ok hE hj
    have run0 : ∀ {V : Value} (w : World), (∀ m, d ≠ .interface m) → (Instr.typeAssert V xt t ok).run E.P w = ((match V with
        | .nilIface => (if ok then (do pure (.tuple #[← zeroValue t, .bool false]) : Sem Value) else runtimePanic (.typeAssertion (some xt) none t ""))
        | .iface u y => (if u = t then pure (if ok then .tuple #[y, .bool true] else y) else (if ok then (do pure (.tuple #[← zeroValue t, .bool false]) : Sem Value) else runtimePanic (.typeAssertion (some xt) (some u) t "")))
        | _ => stuck "TypeAssert: interface value expected") : Sem Value).run E.P w := by
      intro V w hn
      unfold Instr.typeAssert
      simp only [Sem.run_bind, und_run hE hd, Result.andThen_ok]
      cases V <;> cases d <;> first | rfl | exact absurd rfl (hn _)
    have hni' : ∀ m, d ≠ .interface m := fun m e => hni m (by rw [e])
    have zfail : ∀ (v' : Value), ok = true → (v' = (if j.agg then .tuple #[.agg (rexpand j.runs).toArray, .bool false] else v')) → (j.agg = false → ∃ z, rexpand j.runs = [z] ∧ v' = .tuple #[z, .bool false]) →
        (∀ {σ : Sg} {V : Value}, Con σ v V → (V = .nilIface ∨ ∃ u y, V = .iface u y ∧ u ≠ t)) → QOK E (.typeAssert x xt t ok) tm H v' := by
      intro v' hok hv1 hv2 hV B σ w nt ac o ho _ ht
      refine ⟨.tuple #[zj, .bool false], ?_, ?_⟩
      · have hz := zero_con hjo (σ := σ)
        cases ha : j.agg with
        | true => rw [ha] at hv1; simp at hv1; rw [hv1]; exact .tup _ _ (.cons _ _ _ _ (hz.1 ha) (.cons _ _ _ _ (.sc _ rfl) .nil))
        | false => obtain ⟨z, h1, h2⟩ := hv2 ha; rw [h2]; exact .tup _ _ (.cons _ _ _ _ (hz.2 ha z h1) (.cons _ _ _ _ (.sc _ rfl) .nil))
      · rw [exec_eq ho]
        simp only [execOp, Sem.run_bind, run0 w hni']
        rcases hV (evA_ok ht hv) with h | ⟨u, y, h, hu⟩
        · rw [h]; simp [hok, hjo.zeroValue]
        · rw [h]; simp [hok, hjo.zeroValue, hu]
    split at h1
    · rename_i u y
      split at h1
      · rename_i hut
        have hut := Nat.eq_of_beq_eq_true hut
        refine ⟨_, h1, fun {B σ w nt ac} o ho _ ht => ?_⟩
        have hc := evA_ok ht hv
        generalize hX : ac.eval x = X at hc
        cases hc with
        | sc _ h => simp [Ex.scal] at h
        | iface _ _ y' hy =>
          refine ⟨.tuple #[y', .bool true], .tup _ _ (.cons _ _ _ _ hy (.cons _ _ _ _ (.sc _ rfl) .nil)), ?_⟩
          rw [exec_eq ho]
          simp only [execOp, Sem.run_bind, hX, run0 w hni']
          simp [hut]
      · rename_i hut
        have hut : u ≠ t := fun e => by subst e; simp at hut
        have hV : ∀ {σ : Sg} {V : Value}, Con σ (.iface u y) V → (V = .nilIface ∨ ∃ u y, V = .iface u y ∧ u ≠ t) := fun {σ V} hc => by
          cases hc with
          | sc _ h => simp [Ex.scal] at h
          | iface _ _ y' hy => exact .inr ⟨_, _, rfl, hut⟩
        split at h1
        · rename_i ha; exact ⟨_, h1, zfail _ rfl (by simp [ha]) (fun h => by simp [ha] at h) hV⟩
        · rename_i ha
          split at h1
          · rename_i z hz; exact ⟨_, h1, zfail _ rfl (by simp [ha]) (fun _ => ⟨z, hz, rfl⟩) hV⟩
          · exact absurd h1.symm hr
    · have hV : ∀ {σ : Sg} {V : Value}, Con σ .nilIface V → (V = .nilIface ∨ ∃ u y, V = .iface u y ∧ u ≠ t) := fun {σ V} hc => .inl (hc.scal rfl)
      split at h1
      · rename_i ha; exact ⟨_, h1, zfail _ rfl (by simp [ha]) (fun h => by simp [ha] at h) hV⟩
      · rename_i ha
        split at h1
        · rename_i z hz; exact ⟨_, h1, zfail _ rfl (by simp [ha]) (fun _ => ⟨z, hz, rfl⟩) hV⟩
        · exact absurd h1.symm hr
    · rename_i u y
      split at h1
      · rename_i hut
        have hut := Nat.eq_of_beq_eq_true hut
        refine ⟨_, h1, fun {B σ w nt ac} o ho _ ht => ?_⟩
        have hc := evA_ok ht hv
        generalize hX : ac.eval x = X at hc
        cases hc with
        | sc _ h => simp [Ex.scal] at h
        | iface _ _ y' hy =>
          refine ⟨y', hy, ?_⟩
          rw [exec_eq ho]
          simp only [execOp, Sem.run_bind, hX, run0 w hni']
          simp [hut]
      · exact absurd h1.symm hr
    · exact absurd h1.symm hr
  · exact absurd h1.symm hr
include hE in
/-- Every quiet operation. -/
theorem xq_ok {op : Op} (h : xq E op tm H k = r) (hr : r ≠ .fail) : ∃ v, k v = r ∧ QOK E op tm H v := by
  cases op with
  | move x => exact q_move h hr
  | assign x => exact q_assign h hr
  | pick c a b => exact q_pick h hr
  | build t ps => exact q_build hE h hr
  | load t a => exact q_load hE h hr
  | nilCheck x => exact q_nilCheck h hr
  | binOp op t x y yt => exact q_binOp hE h hr
  | unOp op t x => exact q_unOp h hr
  | makeInterface t x => exact q_makeInterface hE h hr
  | makeFunc f a b => exact q_makeFunc h hr
  | slice t x lo hi mx => exact q_slice hE h hr
  | fieldAddr s x f => exact q_fieldAddr hE h hr
  | field t x f => exact q_field hE h hr
  | indexAddr t x i => exact q_indexAddr hE h hr
  | index t x i => exact q_index hE h hr
  | lookup t x i ok => exact q_lookup hE h hr
  | typeAssert x xt t ok => exact q_typeAssert hE h hr
  | extract x i => exact q_extract h hr
  | call c =>
    obtain ⟨b, hb, h3⟩ := q_call h hr
    obtain ⟨callee, args, argTypes⟩ := c
    simp only at hb
    subst hb
    rcases h3 with rfl | rfl | rfl
    · exact q_len hE h hr
    · exact q_max h hr
    · exact q_min h hr
  | _ => exact absurd (show R.fail = r from h).symm hr
end quiet
end Go.Ex
namespace Go.Ex
open Go Go.RowKit

/-- The operation comes to V in w'. -/
def OpTo (P : Program) (ρ : Operand → Value) (o : Oper) (w : World) (V : Value) (w' : World) : Prop :=
  (execOp ρ o).run P w = .ok (.value V) w' ∨ ((execOp ρ o).run P w = .ok .skip w' ∧ V = undef)
/-- What is claimed of an operation that came to v and the heap H'. -/
def LOK (E : Env) (op : Op) (tm : Tr Value) (H : Heap) (v : Value) (H' : Heap) : Prop :=
  ∀ {B : Nat} {σ : Sg} {w : World} {nt : Nat} {a : Act} (o : Oper), o.op = op → Rel B σ H w → B ≤ w.heap.size → TRel σ tm nt a.tmps →
    ∃ τ V w', Sg.le σ τ ∧ Con τ v V ∧ Rel B τ H' w' ∧ Below B w w' ∧ OpTo E.P a.eval o w V w'

section loud
variable {E : Env} (hE : EnvOK E) {nest : Nest} {tm : Tr Value} {H : Heap} {nx : Nat} {r : R}

theorem newK_some {β : Type} {z r : β} {H : Heap} {nx : Nat} {o : AObj} {k : Heap → Nat → β} (h : newK z H nx o k = r) (hr : r ≠ z) :
    ∃ H', get H nx = none ∧ IsSet H nx o H' ∧ k H' (nx + 1) = r := by
  unfold newK at h
  split at h
  · rename_i hn
    obtain ⟨H', h1, h2⟩ := setK_spec h hr
    exact ⟨H', hn, h1, h2⟩
  · exact absurd h.symm hr
/-- A new row of cells is what its abstract object says. -/
theorem orel_new {τ : Sg} {w : World} {c : Array Value} {t : TypeId} {fr : Nat × Nat} {ro : Bool} (hro : ro = false → fr = (0, 0)) {size per : Nat} {runs : List (Nat × Value)} {cells : Tr Value} (hsz : size ≤ c.size)
    (hc : ∀ i v, cellOf size per runs cells i = some v → ∃ V, c[i]? = some V ∧ Con τ v V) (hw : w.heap[w.heap.size - 1]? = some (.cells c t fr)) :
    ORel τ w ⟨w.heap.size - 1, 0, c.size⟩ (.blk ro size per runs cells) :=
  ⟨by simpa using hsz, c, t, fr, hw, rfl, hro, fun i v hi => by obtain ⟨V, h1, h2⟩ := hc i v hi; exact ⟨V, by simpa using h1, h2⟩⟩
theorem alloc_blk {B : Nat} {σ : Sg} {w : World} (rel : Rel B σ H w) (hB : B ≤ w.heap.size) {H' : Heap} {ro : Bool} {size per : Nat} {runs : List (Nat × Value)} {cells : Tr Value}
    (hn : get H nx = none) (hs : IsSet H nx (.blk ro size per runs cells) H') (c : Array Value) (t : TypeId) (fr : Nat × Nat) (hro : ro = false → fr = (0, 0)) (hsz : size ≤ c.size)
    (hc : ∀ i v, cellOf size per runs cells i = some v → ∃ V, c[i]? = some V ∧ Con σ v V) :
    ∃ τ, Sg.le σ τ ∧ τ nx = some ⟨w.heap.size, 0, c.size⟩ ∧ Rel B τ H' (w.alloc (.cells c t fr)) ∧ Below B w (w.alloc (.cells c t fr)) :=
  rel.alloc hB hn hs (.cells c t fr) c.size fun τ hle _ =>
    ⟨by simpa using hsz, c, t, fr, alloc_new _ _, rfl, hro, fun i v hi => by obtain ⟨V, h1, h2⟩ := hc i v hi; exact ⟨V, by simpa using h1, h2.mono hle⟩⟩
/-- The cells of a list. -/
theorem cellOf_list {vs : List Value} {c : Tr Value} (hc : ∀ m, get c m = if 0 ≤ m ∧ m < 0 + vs.length then vs[m - 0]? else get Tr.nil m) {i : Nat} {v : Value}
    (h : cellOf vs.length 1 [] c i = some v) : vs[i]? = some v := by
  unfold cellOf at h
  split at h
  · rename_i hi
    rw [hc i, if_pos (by omega)] at h
    simp only [Nat.sub_zero] at h
    rw [List.getElem?_eq_getElem hi] at h ⊢
    simpa using h
  · simp at h
theorem newL_some {β : Type} {z r : β} {vs : List Value} {k : Value → Heap → Nat → β} (h : newL z H nx vs k = r) (hr : r ≠ z) :
    ∃ H', k (.pointer (some ⟨nx, 0, none⟩)) H' (nx + 1) = r ∧ vs.all one = true ∧
      ∀ {B : Nat} {σ : Sg} {w : World}, Rel B σ H w → B ≤ w.heap.size → ∀ (Vs : List Value) (t : TypeId), ConL σ vs Vs →
        ∃ τ, Sg.le σ τ ∧ τ nx = some ⟨w.heap.size, 0, Vs.length⟩ ∧ Rel B τ H' (w.alloc (.cells Vs.toArray t)) ∧ Below B w (w.alloc (.cells Vs.toArray t)) := by
  unfold newL at h
  obtain ⟨h1, h2, c, h3, h4⟩ := wrF_some h hr
  obtain ⟨H', hn, hs, h5⟩ := newK_some h4 hr
  refine ⟨H', h5, h2, fun {B σ w} rel hB Vs t hV => ?_⟩
  obtain ⟨τ, ht1, ht2, ht3, ht4⟩ := alloc_blk rel hB hn hs Vs.toArray t (0, 0) (fun _ => rfl) (by simp [hV.length]) fun i v hi => by
    obtain ⟨V, h6, h7⟩ := hV.get (cellOf_list h3 hi)
    exact ⟨V, by simpa using h6, h7⟩
  exact ⟨τ, ht1, by simpa using ht2, ht3, ht4⟩
theorem newVar_run (P : Program) (w : World) (t : TypeId) (V : Value) : (newVar t V).run P w = .ok ⟨w.heap.size, 0, none⟩ (w.alloc (.cells V.cells t)) := rfl

theorem cellOf_zero {size per : Nat} {runs : List (Nat × Value)} {i : Nat} {v : Value} (h : cellOf size per runs .nil i = some v) : i < size ∧ (rexpand runs)[i % per]? = some v := by
  unfold cellOf at h
  split at h
  · rename_i hi
    simp only [get_nil] at h
    exact ⟨hi, by rw [← rget_expand]; exact h⟩
  · simp at h
include hE in
theorem l_alloc {t : TypeId} (h : xl E nest (.alloc t) tm H nx = r) (hr : r ≠ .fail) : ∃ v H' nx', r = .val v H' nx' ∧ LOK E (.alloc t) tm H v H' := by
  unfold xl at h
  dsimp only at h
  split at h
  · rename_i i hi
    obtain ⟨ti, z, d, hio, _, _⟩ := inf_ok hE hi
    obtain ⟨H', hn, hs, h1⟩ := newK_some h hr
    refine ⟨_, _, _, h1.symm, fun {B σ w nt a} o ho rel hB ht => ?_⟩
    have hzl : z.cells.size = i.size := by rw [← hio.len, hio.runs]; simp
    obtain ⟨τ, h2, h3, h4, h5⟩ := alloc_blk rel hB hn hs z.cells t (0, 0) (fun _ => rfl) (by omega) fun j v hj => by
      obtain ⟨h6, h7⟩ := cellOf_zero hj
      rw [Nat.mod_eq_of_lt h6, hio.runs] at h7
      refine ⟨v, by simpa using h7, .sc _ ?_⟩
      have := hio.scal
      rw [hio.runs, List.all_eq_true] at this
      exact this v (List.mem_of_getElem? h7)
    refine ⟨τ, _, _, h2, .ptr nx 0 _ h3, h4, h5, .inl ?_⟩
    rw [exec_eq ho]
    simp only [execOp, Instr.alloc, Sem.run_bind, hio.zeroValue, Result.andThen_ok, newVar_run, Sem.run_pure]
  · exact absurd h.symm hr
theorem l_box {t : TypeId} {x : Operand} (h : xl E nest (.box t x) tm H nx = r) (hr : r ≠ .fail) : ∃ v H' nx', r = .val v H' nx' ∧ LOK E (.box t x) tm H v H' := by
  unfold xl at h
  dsimp only at h
  obtain ⟨v, hv, h1⟩ := evK_some h hr
  clear h
  obtain ⟨H', h2, h3, h4⟩ := newL_some h1 hr
  refine ⟨_, _, _, h2.symm, fun {B σ w nt a} o ho rel hB ht => ?_⟩
  obtain ⟨τ, h5, h6, h7, h8⟩ := h4 rel hB _ t (evA_ok ht hv).cells
  refine ⟨τ, _, _, h5, .ptr nx 0 _ h6, h7, h8, .inl ?_⟩
  rw [exec_eq ho]
  simp only [execOp, Instr.box, Sem.run_bind, newVar_run, Result.andThen_ok, Sem.run_pure]
theorem repL_length (n : Nat) (l : List Value) : (repL n l).length = n * l.length := by
  induction n with
  | zero => simp [repL]
  | succ n ih => simp [repL, ih, Nat.add_mul]; omega
theorem repL_get (n : Nat) (l : List Value) (i : Nat) (hi : i < n * l.length) : (repL n l)[i]? = l[i % l.length]? := by
  induction n generalizing i with
  | zero => omega
  | succ n ih =>
    unfold repL
    have hl : 0 < l.length := by
      cases hl : l.length with
      | zero => rw [hl] at hi; omega
      | succ m => omega
    by_cases h : i < l.length
    · rw [List.getElem?_append_left h, Nat.mod_eq_of_lt h]
    · rw [List.getElem?_append_right (by omega), ih (i - l.length) (by rw [Nat.add_mul] at hi; omega)]
      rw [← Nat.mod_eq_sub_mod (by omega)]
/-- The model's row of zeros. -/
theorem zeros_toList (z : Array Value) (n : Nat) (h : 0 < z.size ∨ n = 0) : ((Array.range (n * z.size)).map (z[· % z.size]!)).toList = repL n z.toList := by
  apply List.ext_getElem?
  intro i
  by_cases hi : i < n * z.size
  · rw [repL_get n z.toList i (by simpa using hi)]
    have hz : 0 < z.size := by rcases h with h | h; exact h; subst h; omega
    simp only [Array.toList_map, Array.toList_range, List.getElem?_map, List.getElem?_range hi, Option.map_some, Array.length_toList]
    have hm : i % z.size < z.size := Nat.mod_lt _ hz
    rw [Array.getElem?_toList, Array.getElem?_eq_getElem hm]
    simp [getElem!_pos, hm]
  · rw [List.getElem?_eq_none (by simp; omega), List.getElem?_eq_none (by rw [repL_length]; simp; omega)]
include hE in
theorem l_buildSlice {t : TypeId} {n : Nat} {parts : Array (Nat × Operand)} (h : xl E nest (.buildSlice t n parts) tm H nx = r) (hr : r ≠ .fail) :
    ∃ v H' nx', r = .val v H' nx' ∧ LOK E (.buildSlice t n parts) tm H v H' := by
  unfold xl at h
  dsimp only at h
  split at h
  · rename_i e hu
    split at h
    · rename_i j hj
      obtain ⟨tj, z, d, hio, _, _⟩ := inf_ok hE hj
      split at h
      · rename_i hb
        simp only [Bool.and_eq_true] at hb
        have hb2 := Nat.le_of_ble_eq_true hb.2
        have hb := Nat.le_of_ble_eq_true hb.1
        obtain ⟨ps, hp1, hp2, h1⟩ := partsK_some h hr
        clear h
        split at h1
        · rename_i cs hcs
          obtain ⟨H', h2, h3, h4⟩ := newL_some h1 hr
          dsimp only at h2
          have hcl : cs.length = n * j.size := by
            have : ∀ {place : Nat → Option (Nat × Nat)} {ps : List (Nat × Value)} {zs cs : List Value}, spliceAll place ps zs = some cs → cs.length = zs.length := by
              intro place ps
              induction ps with
              | nil => intro zs cs h; simp [spliceAll] at h; rw [h]
              | cons p ps ih =>
                intro zs cs h
                unfold spliceAll at h
                split at h
                · split at h
                  · split at h
                    · rename_i zs' hs
                      rw [ih h]
                      unfold splice at hs
                      split at hs
                      · rename_i hble
                        have := Nat.le_of_ble_eq_true hble
                        simp at hs; rw [← hs]; simp; omega
                      · simp at hs
                    · simp at h
                  · simp at h
                · simp at h
            rw [this hcs, repL_length, hio.len]
          refine ⟨_, _, _, h2.symm, fun {B σ w nt a} o ho rel hB ht => ?_⟩
          have hz : z.cells.toList = rexpand j.runs := hio.runs.symm
          have hzs : z.cells.size = j.size := by rw [← hio.len, ← hz]; simp
          -- the model's zeros
          let Z : Array Value := (Array.range (n * j.size)).map ((if n * j.size = 0 then #[] else z.cells)[· % (if n * j.size = 0 then #[] else z.cells).size]!)
          have hZ : Z.toList = repL n (rexpand j.runs) := by
            show ((Array.range (n * j.size)).map _).toList = _
            by_cases h0 : n * j.size = 0
            · rw [if_pos h0, h0]
              have : (repL n (rexpand j.runs)).length = 0 := by rw [repL_length, hio.len, h0]
              rw [List.eq_nil_of_length_eq_zero this]; simp
            · rw [if_neg h0, ← hz]
              have := zeros_toList z.cells n (by left; rw [hzs]; exact Nat.pos_of_ne_zero fun e => h0 (by rw [e]; simp))
              rw [hzs] at this ⊢
              exact this
          have hzc : ConL σ (repL n (rexpand j.runs)) Z.toList := by
            rw [hZ]
            apply ConL.of_scal
            rw [List.all_eq_true]
            intro x hx
            have hs := hio.scal
            rw [List.all_eq_true] at hs
            have : ∀ m, x ∈ repL m (rexpand j.runs) → x ∈ rexpand j.runs := by
              intro m
              induction m with
              | zero => intro h; simp [repL] at h
              | succ m ih => intro h; simp [repL] at h; rcases h with h | h; exact h; exact ih h
            exact hs x (this n hx)
          obtain ⟨C, h5, h6⟩ := fill_ok (qs := parts.toList.map fun x => (x.1, a.eval x.2)) (by simp [hp1, Function.comp_def]) (by simpa [Function.comp_def] using hp2 ht) hzc hcs
          obtain ⟨τ, h7, h8, h9, h10⟩ := h4 rel hB C.toList e h6
          have hCs : C.toList.length = n * j.size := by rw [h6.length, hcl]
          refine ⟨τ, _, _, h7, .slice nx 0 n n _ h8 (Nat.le_refl _) ?_, h9, h10, .inl ?_⟩
          · exact Nat.lt_of_le_of_lt hb2 (by unfold UNK; omega)
          · rw [exec_eq ho]
            simp only [execOp, Instr.buildSlice, Sem.run_bind, und_run hE hu, Result.andThen_ok, hio.sizeOf]
            rw [if_neg (by omega)]
            have hf : ∀ zero : Array Value, zero = (if n * j.size = 0 then #[] else z.cells) →
                Instr.fill (fun i => some (i * j.size, j.size)) (Array.map (fun x => zero[x % zero.size]!) (Array.range (n * j.size))) (Array.map (fun x => (x.fst, a.eval x.snd)) parts).toList = some C := by
              intro zero hz; subst hz; rw [Array.toList_map]; exact h5
            have hnew : (newRow e C).run E.P w = .ok ⟨w.heap.size, 0, none⟩ (w.alloc (.cells C.toList.toArray e)) := by
              rw [Array.toArray_toList]; rfl
            by_cases h0 : n * j.size = 0
            · rw [if_pos h0]
              simp only [Sem.run_bind, Sem.run_pure, Result.andThen_ok, hf #[] (by rw [if_pos h0]), hnew]
            · rw [if_neg h0]
              simp only [Sem.run_bind, hio.zeroValue, Sem.run_pure, Result.andThen_ok, hf z.cells (by rw [if_neg h0]), hnew]
        · exact absurd h1.symm hr
      · exact absurd h.symm hr
    · exact absurd h.symm hr
  · exact absurd h.symm hr
end loud
end Go.Ex
namespace Go.Ex
open Go Go.RowKit
section loud
variable {E : Env} (hE : EnvOK E) {nest : Nest} {tm : Tr Value} {H : Heap} {nx : Nat} {r : R}

include hE in
theorem l_store {t : TypeId} {x y : Operand} (h : xl E nest (.store t x y) tm H nx = r) (hr : r ≠ .fail) : ∃ v H' nx', r = .val v H' nx' ∧ LOK E (.store t x y) tm H v H' := by
  unfold xl at h
  dsimp only at h
  obtain ⟨p, hp, h1⟩ := evK_some h hr
  clear h
  obtain ⟨v, hv, h2⟩ := evK_some h1 hr
  clear h1
  split at h2
  · rename_i b o
    split at h2
    · rename_i i hi
      obtain ⟨ti, z, d, hio, _, _⟩ := inf_ok hE hi
      split at h2
      · rename_i hsz
        have hsz := Nat.eq_of_beq_eq_true hsz
        obtain ⟨size, per, runs, cells, c', H', hg, hin, h1, hc, hs, h3⟩ := wrN_some h2 hr
        refine ⟨_, _, _, h3.symm, fun {B σ w nt a} op ho rel hB ht => ?_⟩
        obtain ⟨l, hl, he⟩ := ptr_con (evA_ok ht hp)
        have hvc := (evA_ok ht hv).cells
        obtain ⟨w', h4, h5, h6⟩ := rel.write (P := E.P) hg hl hin h1 hc hs hvc
        refine ⟨σ, undef, w', Sg.le_refl σ, .undef, h5, h6, .inr ⟨?_, rfl⟩⟩
        rw [exec_eq ho]
        have hlen : (a.eval y).cells.size = i.size := by have := hvc.length; simpa [hsz] using this
        simp only [execOp, Instr.storeAt, Sem.run_bind, he, sure_addr, Result.andThen_ok, storeVar, hio.sizeOf]
        rw [if_neg (by simp [hlen])]
        rw [h4]
        rfl
      · exact absurd h2.symm hr
    · exact absurd h2.symm hr
  · exact absurd h2.symm hr
theorem l_makeMap {t : TypeId} {rs : Option Operand} (h : xl E nest (.makeMap t rs) tm H nx = r) (hr : r ≠ .fail) : ∃ v H' nx', r = .val v H' nx' ∧ LOK E (.makeMap t rs) tm H v H' := by
  unfold xl at h
  dsimp only at h
  split at h
  · obtain ⟨H', hn, hs, h1⟩ := newK_some h hr
    refine ⟨_, _, _, h1.symm, fun {B σ w nt a} o ho rel hB ht => ?_⟩
    obtain ⟨τ, h2, h3, h4, h5⟩ := rel.alloc hB hn hs (.map #[] 0) 0 fun τ _ _ => ⟨#[], alloc_new _ _, rfl, fun i e he => by simp at he⟩
    refine ⟨τ, .map (some w.heap.size), _, h2, .map nx _ h3, h4, h5, .inl ?_⟩
    rw [exec_eq ho]
    simp [execOp, Instr.makeMap]
  · exact absurd h.symm hr
include hE in
theorem l_makeSlice {t : TypeId} {l c : Operand} (h : xl E nest (.makeSlice t l c) tm H nx = r) (hr : r ≠ .fail) : ∃ v H' nx', r = .val v H' nx' ∧ LOK E (.makeSlice t l c) tm H v H' := by
  unfold xl at h
  dsimp only at h
  obtain ⟨lv, hl, h1⟩ := evK_some h hr
  clear h
  obtain ⟨cv, hc, h2⟩ := evK_some h1 hr
  clear h1
  split at h2
  · rename_i e kl ln kc cn hu
    split at h2
    · rename_i j hj
      obtain ⟨tj, z, d, hio, _, _⟩ := inf_ok hE hj
      split at h2
      · rename_i hb
        simp only [Bool.and_eq_true] at hb
        have hb1 := Nat.le_of_ble_eq_true hb.1
        have hb2 := Nat.le_of_ble_eq_true hb.2
        obtain ⟨H', hn, hs, h3⟩ := newK_some h2 hr
        refine ⟨_, _, _, h3.symm, fun {B σ w nt a} o ho rel hB ht => ?_⟩
        have hzs : z.cells.size = j.size := by rw [← hio.len, hio.runs]; simp
        have hcj : cn * j.size ≤ 1048576 := Nat.le_trans (Nat.mul_le_mul_left _ (by omega)) hb2
        have hcb : cn * j.bytes ≤ 1048576 := Nat.le_trans (Nat.mul_le_mul_left _ (by omega)) hb2
        have hcn : cn ≤ 1048576 := Nat.le_trans (Nat.le_mul_of_pos_right cn (by omega : 0 < j.size + j.bytes + 1)) hb2
        let zero : Array Value := if cn * j.size = 0 then #[] else z.cells
        let C : Array Value := (Array.range (cn * j.size)).map (zero[· % zero.size]!)
        have hC : ∀ i, i < cn * j.size → C[i]? = (rexpand j.runs)[i % j.size]? := by
          intro i hi
          have h0 : cn * j.size ≠ 0 := by omega
          have hj0 : 0 < j.size := Nat.pos_of_ne_zero fun e => h0 (by rw [e]; simp)
          have hzero : zero = z.cells := if_neg h0
          have h1 : C.toList = repL cn z.cells.toList := by
            have := zeros_toList z.cells cn (.inl (by rw [hzs]; exact hj0))
            rw [hzs] at this
            show ((Array.range (cn * j.size)).map (zero[· % zero.size]!)).toList = _
            rw [hzero, hzs]; exact this
          rw [← Array.getElem?_toList, h1, repL_get cn _ i (by simpa [hzs] using hi), hio.runs]
          simp [hzs]
        obtain ⟨τ, h4, h5, h6, h7⟩ := alloc_blk rel hB hn hs C e (0, 0) (fun _ => rfl) (by simp [C]) fun i v hi => by
          obtain ⟨h8, h9⟩ := cellOf_zero hi
          refine ⟨v, by rw [hC i h8, h9], .sc _ ?_⟩
          have := hio.scal
          rw [List.all_eq_true] at this
          exact this v (List.mem_of_getElem? h9)
        refine ⟨τ, _, _, h4, .slice nx 0 ln cn _ h5 hb1 ?_, h6, h7, .inl ?_⟩
        · exact Nat.lt_of_le_of_lt hcn (by unfold UNK; omega)
        · rw [exec_eq ho]
          have e1 := (evA_ok ht hl).scal rfl
          have e2 := (evA_ok ht hc).scal rfl
          have w1 : IntKind.i64.wrap (Int.ofNat ln) = (ln : Int) := IntWalk.i64_in _ ⟨by simp only [Int.ofNat_eq_natCast]; omega, by simp only [Int.ofNat_eq_natCast]; omega⟩
          have w2 : IntKind.i64.wrap (Int.ofNat cn) = (cn : Int) := IntWalk.i64_in _ ⟨by simp only [Int.ofNat_eq_natCast]; omega, by simp only [Int.ofNat_eq_natCast]; omega⟩
          simp only [execOp, Instr.makeSlice, Sem.run_bind, und_run hE hu, Result.andThen_ok, e1, e2, asInt, asIntOf, Sem.run_pure, hio.typeInfo, hio.bytes, w1, w2]
          have hbytes : (j.bytes : Int) * (cn : Int) ≤ 1048576 := by rw [Int.mul_comm, ← Int.natCast_mul]; omega
          have hpow : (2 : Int) ^ 48 = 281474976710656 := rfl
          rw [if_neg ?cond]
          case cond =>
            rw [hpow]
            simp only [Bool.or_eq_true, decide_eq_true_eq, not_or]
            exact ⟨⟨⟨by omega, by omega⟩, by omega⟩, by omega⟩
          simp only [Sem.run_bind, run_askRoom, Result.andThen_ok, hio.sizeOf, Int.toNat_natCast]
          by_cases h0 : cn * j.size = 0
          · have hzero : zero = #[] := if_pos h0
            rw [if_pos h0]
            simp only [Sem.run_bind, Sem.run_pure, Result.andThen_ok]
            show (Result.andThen ((newRow e ((Array.range (cn * j.size)).map ((#[] : Array Value)[· % (#[] : Array Value).size]!))).run E.P w) _).andThen _ = _
            rw [← hzero]
            rfl
          · have hzero : zero = z.cells := if_neg h0
            rw [if_neg h0]
            simp only [Sem.run_bind, hio.zeroValue, Sem.run_pure, Result.andThen_ok]
            show (Result.andThen ((newRow e ((Array.range (cn * j.size)).map (z.cells[· % z.cells.size]!))).run E.P w) _).andThen _ = _
            rw [← hzero]
            rfl
      · exact absurd h2.symm hr
    · exact absurd h2.symm hr
  · exact absurd h2.symm hr
end loud
end Go.Ex
namespace Go.Ex
open Go Go.RowKit
theorem freeze_alloc (w : World) (C : Array Value) (t : TypeId) : (w.alloc (.cells C t (0, 0))).freeze ⟨w.heap.size, C.size, none⟩ 1 = w.alloc (.cells C t (C.size, C.size + 1)) := by
  unfold World.freeze
  rw [if_neg (by simp)]
  unfold World.alloc
  congr 1
  apply Array.ext
  · simp
  · intro i h1 h2
    simp only [Array.getElem_modify, Array.getElem_push]
    by_cases e : w.heap.size = i
    · subst e; simp
    · have hi : i < w.heap.size := by simp at h2; omega
      simp [if_neg e, hi]
/-- A draw turns nothing that is asked. -/
theorem Rel.drew {B : Nat} {σ : Sg} {H : Heap} {w : World} (r : Rel B σ H w) : Rel B σ H w.drew := ⟨r.obj, r.dom, r.uniq⟩
theorem below_drew {B : Nat} (w : World) : Below B w w.drew := (Below.refl B w).drew
section loud
variable {E : Env} (hE : EnvOK E) {nest : Nest} {tm : Tr Value} {H : Heap} {nx : Nat} {r : R}
theorem lit_of_ints (bs : List UInt8) : (bs.map fun b => Value.int .u8 b.toNat).all Ex.scal = true := by
  rw [List.all_eq_true]; intro x hx; rw [List.mem_map] at hx; obtain ⟨b, _, rfl⟩ := hx; rfl
theorem bytesOf_some : ∀ {vs : List Value} {bs : List UInt8}, bytesOf vs = some bs → (vs.all Ex.scal = true) ∧ ∃ ns : List Int, vs = ns.map (Value.int .u8) ∧ bs = ns.map fun n => UInt8.ofNat n.toNat
  | [], bs, h => by simp [bytesOf] at h; subst h; exact ⟨rfl, [], rfl, rfl⟩
  | v :: vs, bs, h => by
    unfold bytesOf at h
    split at h
    · simp at *
    · rename_i n rest heq
      simp at heq
      obtain ⟨rfl, rfl⟩ := heq
      split at h
      · rename_i bs' hb
        simp at h
        subst h
        obtain ⟨h1, ns, h2, h3⟩ := bytesOf_some hb
        refine ⟨by rw [List.all_cons, h1]; rfl, (n : Int) :: ns, by rw [h2]; rfl, by rw [h3]; simp⟩
      · simp at h
    · simp at h
include hE in
theorem l_convert {src dst : TypeId} {x : Operand} (h : xl E nest (.convert src dst x) tm H nx = r) (hr : r ≠ .fail) : ∃ v H' nx', r = .val v H' nx' ∧ LOK E (.convert src dst x) tm H v H' := by
  unfold xl at h
  dsimp only at h
  obtain ⟨v, hv, h1⟩ := evK_some h hr
  clear h
  have stay : ∀ u, Con (fun _ => none) u u → (∀ {σ : Sg}, Con σ u u) → (∀ {B : Nat} {σ : Sg} {w : World} {V : Value}, Rel B σ H w → Con σ v V → (convert src dst V).run E.P w = .ok u w) → LOK E (.convert src dst x) tm H u H := by
    intro u _ hu hrun B σ w nt a o ho rel hB ht
    refine ⟨σ, u, w, Sg.le_refl σ, hu, rel, Below.refl B w, .inl ?_⟩
    rw [exec_eq ho]
    simp only [execOp, Sem.run_bind, hrun rel (evA_ok ht hv)]
    rfl
  split at h1
  · rename_i k1 kd ks n h2 h3
    refine ⟨_, _, _, h1.symm, stay _ (.sc _ rfl) (.sc _ rfl) fun {B σ w V} _ hc => ?_⟩
    rw [hc.scal rfl]
    unfold convert
    simp only [Sem.run_bind, und_run hE h2, und_run hE h3, Result.andThen_ok]
    simp [Conv.intToInt, wrapF_eq]
  · rename_i e s h2 h3
    split at h1
    · rename_i h4
      obtain ⟨_, h5, c, h6, h7⟩ := wrF_some h1 hr
      obtain ⟨H', hn, hs, h8⟩ := newK_some h7 hr
      refine ⟨_, _, _, h8.symm, fun {B σ w nt a} o ho rel hB ht => ?_⟩
      let cap : Nat := Question.cut (.appendCap s.size 0 e) (w.tape w.drawn (.appendCap s.size 0 e))
      have hcap : s.size ≤ cap := by show s.size ≤ s.size + _; omega
      let C : Array Value := (s.data.map fun b => Value.int .u8 b.toNat) ++ Array.replicate (cap - s.size) (.int .u8 0)
      have hCs : C.size = cap := by show ((s.data.map _) ++ Array.replicate _ _).size = cap; rw [Array.size_append, Array.size_map, Array.size_replicate]; have : s.data.size = s.size := rfl; omega
      have hlist : (s.data.toList.map fun b => Value.int .u8 b.toNat).length = s.size := by simp
      obtain ⟨τ, t1, t2, t3, t4⟩ := alloc_blk (rel.drew) (w := w.drew) hB hn hs C e (C.size, C.size + 1) (fun h => by cases h) (by omega) fun i v hi => by
        rw [← hlist] at hi
        have h9 := cellOf_list (by simpa [hlist] using h6) hi
        refine ⟨v, ?_, .sc _ ?_⟩
        · show ((s.data.map _) ++ Array.replicate _ _)[i]? = _
          have hil : i < s.data.size := by have := (List.getElem?_eq_some_iff.1 h9).1; simpa using this
          rw [Array.getElem?_append_left (by simpa using hil)]
          rw [← Array.getElem?_toList]
          simpa using h9
        · have := lit_of_ints s.data.toList
          rw [List.all_eq_true] at this
          exact this v (List.mem_of_getElem? h9)
      refine ⟨τ, .slice (some ⟨w.heap.size, 0, none⟩) s.size cap, _, t1, ?_, t3, (below_drew w).trans t4, .inl ?_⟩
      · refine .sliceU nx 0 s.size (UNK + 1) _ 0 cap t2 (by omega) hcap (fun _ => rfl) ?_
        show 0 + cap * (UNK + 1 - UNK) ≤ C.size
        rw [show UNK + 1 - UNK = 1 by omega]; omega
      · rw [exec_eq ho]
        have hV := (evA_ok ht hv).scal rfl
        have hrun : (convert src dst (.string s)).run E.P w = .ok (.slice (some ⟨w.heap.size, 0, none⟩) s.size cap) (w.drew.alloc (.cells C e (C.size, C.size + 1))) := by
          unfold convert
          simp only [Sem.run_bind, und_run hE h2, und_run hE h3, Result.andThen_ok, und_run hE h4]
          unfold Conv.stringToBytes
          simp only [Sem.run_bind, run_choose]
          rw [if_neg (by simp [Question.forced])]
          simp only [Result.andThen_ok]
          show (Result.andThen ((newRow e C).run E.P w.drew) _) = _
          have hnew : (newRow e C).run E.P w.drew = .ok ⟨w.heap.size, 0, none⟩ (w.drew.alloc (.cells C e (0, 0))) := rfl
          rw [hnew]
          simp only [Result.andThen_ok]
          have hmark : (markStringish ⟨w.heap.size, 0, none⟩).run E.P (w.drew.alloc (.cells C e (0, 0))) = .ok () ((w.drew.alloc (.cells C e (0, 0))).freeze ⟨w.heap.size, C.size, none⟩ 1) := by
            unfold markStringish
            simp only [Sem.run_bind, run_shape, Result.andThen_ok]
            have : (w.drew.alloc (.cells C e (0, 0))).shape? w.heap.size = some (e, C.size) := by
              unfold World.shape?
              have := alloc_new w.drew (.cells C e (0, 0))
              rw [show w.heap.size = w.drew.heap.size from rfl, this]
            rw [this]
            rfl
          rw [hmark]
          simp only [Result.andThen_ok, Sem.run_pure]
          have := freeze_alloc w.drew C e
          rw [show w.drew.heap.size = w.heap.size from rfl] at this
          rw [this]
        simp only [execOp, Sem.run_bind, hV, hrun]
        rfl
    · exact absurd h1.symm hr
  · rename_i e h2 h3
    split at h1
    · rename_i h4
      refine ⟨_, _, _, h1.symm, stay _ (.sc _ rfl) (.sc _ rfl) fun {B σ w V} _ hc => ?_⟩
      have hV : ∃ n c, V = .slice none n c := by cases hc; exact ⟨_, _, rfl⟩
      obtain ⟨n, c, rfl⟩ := hV
      unfold convert
      simp only [Sem.run_bind, und_run hE h2, und_run hE h3, Result.andThen_ok, und_run hE h4]
      rfl
    · exact absurd h1.symm hr
  · rename_i e b o n c h2 h3
    split at h1
    · rename_i h4
      obtain ⟨_, vs, hvl, hvs, h5⟩ := rdN_some h1 hr
      split at h5
      · rename_i bs hbs
        obtain ⟨hsc, ns, hns, hbs'⟩ := bytesOf_some hbs
        refine ⟨_, _, _, h5.symm, stay _ (.sc _ rfl) (.sc _ rfl) fun {B σ w V} rel hc => ?_⟩
        have hV : ∃ a c', V = .slice (some a) n c' ∧ (loadCells a n).run E.P w = .ok vs.toArray w := by
          have hld : ∀ l, σ b = some l → (loadCells ⟨l.block, l.shift + o, none⟩ n).run E.P w = .ok vs.toArray w := fun l hl => by
            obtain ⟨Vs, h6, h7⟩ := rel.cells hl hvs
            rw [h6.scal hsc, hvl] at h7
            exact h7 E.P
          cases hc with
          | sc _ h => simp [Ex.scal] at h
          | slice _ _ _ _ l h _ _ => exact ⟨_, _, rfl, hld l h⟩
          | sliceU _ _ _ _ l o' c' h _ _ hoo _ =>
            by_cases h0 : n = 0
            · subst h0
              have : vs = [] := List.eq_nil_of_length_eq_zero hvl
              subst this
              exact ⟨_, _, rfl, rfl⟩
            · rw [hoo h0]; exact ⟨_, _, rfl, hld l h⟩
        obtain ⟨a, c', rfl, hld⟩ := hV
        rw [hns] at hld
        unfold convert
        simp only [Sem.run_bind, und_run hE h2, und_run hE h3, Result.andThen_ok, und_run hE h4]
        rw [run_bytesToString w a n c' ns hld, hbs']
        have : ∀ (ns : List Int) (s : ByteArray), ns.foldl (fun r n => r.push (UInt8.ofNat n.toNat)) s = ⟨s.data ++ (ns.map fun n => UInt8.ofNat n.toNat).toArray⟩ := by
          intro ns
          induction ns with
          | nil => intro s; simp
          | cons n ns ih => intro s; simp only [List.foldl_cons, ih]; congr 1; apply Array.toList_inj.1; simp [ByteArray.push]
        rw [this]
        have h9 : ∀ l : Array UInt8, (ByteArray.empty.data ++ l) = l := fun l => by show (#[] : Array UInt8) ++ l = l; simp
        rw [h9]
      · exact absurd h5.symm hr
    · exact absurd h1.symm hr
  · split at h1
    · rename_i hl
      obtain ⟨u, h2, hrun⟩ := pureK_some h1 hr
      obtain ⟨h3, hlv⟩ := litK_some (k := fun v => R.val v H nx) h2 hr
      refine ⟨_, _, _, h3.symm, stay _ (Con.of_lit hlv) (Con.of_lit hlv) fun {B σ w V} _ hc => ?_⟩
      rw [hc.lit hl]
      exact hrun w
    · exact absurd h1.symm hr
end loud
end Go.Ex
namespace Go.Ex
open Go Go.RowKit
theorem setObj_run {P : Program} {w : World} {b : Nat} {o o' : Obj} (h : w.heap[b]? = some o) (hn : ∀ c t f, o ≠ .cells c t f) :
    (setObj b o').run P w = .ok () { w with heap := w.heap.setIfInBounds b o' } := by
  simp only [setObj, Sem.run, h]
/-- An object that is no row of cells is turned. -/
theorem Rel.setO {B : Nat} {σ : Sg} {H : Heap} {w : World} (r : Rel B σ H w) {b : Nat} {o o' : AObj} {l : Loc} {H' : Heap} (hg : get H b = some o) (ho : o.own = true) (hl : σ b = some l) (hs : IsSet H b o' H')
    (ob : Obj) (hO : ∀ w' : World, w'.heap[l.block]? = some ob → ORel σ w' l o') :
    Rel B σ H' { w with heap := w.heap.setIfInBounds l.block ob } ∧ Below B w { w with heap := w.heap.setIfInBounds l.block ob } := by
  have hlt : l.block < w.heap.size := (r.dom _ _ hl).2
  refine ⟨r.upd hg ho hl hs (by simp) (fun k hk => by simp [Array.getElem?_setIfInBounds_ne (Ne.symm hk)]) (hO _ (by simp [hlt])),
    below_upd (r.own_block hg ho hl) rfl rfl rfl (by simp) (fun k hk => by simp [Array.getElem?_setIfInBounds_ne (Ne.symm hk)])⟩
section loud
variable {E : Env} (hE : EnvOK E) {nest : Nest} {tm : Tr Value} {H : Heap} {nx : Nat} {r : R}
include hE in
theorem l_mapUpd {t : TypeId} {m key x : Operand} {op : Op} (hop : op = .mapUpdate t m key x ∨ op = .insert t m key x) (h : xl E nest op tm H nx = r) (hr : r ≠ .fail) : ∃ v H' nx', r = .val v H' nx' ∧ LOK E op tm H v H' := by
  have hexec : ∀ (ρ : Operand → Value) (o : Oper), o.op = op → execOp ρ o = (do Instr.mapUpdate t (ρ m) (ρ key) (ρ x); pure .skip) := by
    intro ρ o ho
    rw [exec_eq ho]
    rcases hop with rfl | rfl <;> rfl
  have h : (evK R.fail tm m fun m => evK .fail tm key fun key => evK .fail tm x fun v => (match und E t, m, lit key with
    | some (.map kt _), .map (some r), true => (match get H r with
      | some (.map es clock) => pureK E.P (do Instr.checkKey false 10000 kt key; Instr.findKey kt key (es.map fun e => { key := e.key, val := undef, born := e.born })) fun a =>
        (match a with
         | some (i, _) => (match es.drop i with
           | e :: rest => (match Instr.sameBits 10000 e.key key with
             | true => setK H r (.map (es.take i ++ { e with key, val := v } :: rest) clock) (fun H' => .val undef H' nx) .fail
             | false => .fail)
           | [] => .fail)
         | none => setK H r (.map (es ++ [{ key, val := v, born := clock }]) (clock + 1)) (fun H' => .val undef H' nx) .fail)
      | _ => .fail)
    | _, _, _ => .fail)) = r := by rcases hop with rfl | rfl <;> exact h
  obtain ⟨mv, hm, h1⟩ := evK_some h hr
  clear h
  obtain ⟨kv, hk, h2⟩ := evK_some h1 hr
  clear h1
  obtain ⟨v, hv, h3⟩ := evK_some h2 hr
  clear h2
  split at h3
  · rename_i kt et rr hu hlit
    split at h3
    · rename_i es clock hg
      obtain ⟨a, h4, hp⟩ := pureK_pure h3 hr
      clear h3
      rw [pureO_bind] at hp
      cases hck : pureO E.P (Instr.checkKey false 10000 kt kv) with
      | none => rw [hck] at hp; cases hp
      | some u =>
      rw [hck] at hp
      have common : ∀ {B : Nat} {σ : Sg} {w : World} {nt : Nat} {ac : Act}, Rel B σ H w → TRel σ tm nt ac.tmps →
          ∃ l es' b, σ rr = some l ∧ w.heap[l.block]? = some (.map es' clock) ∧ EntsRel σ es es'.toList ∧ FRel es'.toList 0 a b ∧
            (Instr.mapUpdate t (ac.eval m) (ac.eval key) (ac.eval x)).run E.P w = (match b with
              | some (i, _) => (do let k ← Instr.keyThatStays (((es'[i]?).map (·.key)).getD kv) kv; setObj l.block (.map (es'.modify i fun e => { e with key := k, val := ac.eval x }) clock))
              | none => setObj l.block (.map (es'.push { key := kv, val := ac.eval x, born := clock }) (clock + 1)) : Sem Unit).run E.P w := by
        intro B σ w nt ac rel ht
        obtain ⟨l, es', hl, he, hh, hes⟩ := map_con rel hg (evA_ok ht hm)
        obtain ⟨b, hb, hrel⟩ := findKey_rel hes.keys hp
        refine ⟨l, es', b, hl, hh, hes, hrel, ?_⟩
        have hkey := (evA_ok ht hk).lit hlit
        have hget := getObj_run (P := E.P) hh (by simp)
        unfold Instr.mapUpdate
        simp only [Sem.run_bind, und_run hE hu, Result.andThen_ok, he, hget, hkey, pureO_run hck w, pureO_run hb w]
        cases b <;> rfl
      cases a with
      | some ia =>
        obtain ⟨i, u'⟩ := ia
        simp only at h4
        split at h4
        · rename_i e rest hd
          split at h4
          · rename_i hsame
            obtain ⟨H', hs, h5⟩ := setK_spec h4 hr
            refine ⟨_, _, _, h5.symm, fun {B σ w nt ac} o ho rel hB ht => ?_⟩
            obtain ⟨l, es', b, hl, hh, hes, hrel, hrun⟩ := common rel ht
            cases b with
            | none => exact hrel.elim
            | some b =>
              obtain ⟨b1, b2⟩ := b
              obtain ⟨hb1, _, e', h6, _⟩ := hrel
              subst hb1
              rw [Nat.sub_zero] at h6
              have he0 : es[b1]? = some e := by
                have := congrArg List.head? hd
                rw [List.head?_drop] at this
                simpa using this
              obtain ⟨e'', h7, h8, h9, h10⟩ := hes.2 _ e he0
              rw [h6] at h7
              cases h7
              have hval := evA_ok ht hv
              have hmod : (es'.modify b1 fun e => { e with key := kv, val := ac.eval x }).toList = es'.toList.take b1 ++ { e' with key := kv, val := ac.eval x } :: es'.toList.drop (b1 + 1) := by
                have hlt : b1 < es'.toList.length := (List.getElem?_eq_some_iff.1 h6).1
                have hge : es'.toList[b1] = e' := (List.getElem?_eq_some_iff.1 h6).2
                rw [Array.toList_modify, List.modify_eq_take_cons_drop hlt, hge]
              obtain ⟨h11, h12⟩ := rel.setO hg rfl hl hs (.map (es'.modify b1 fun e => { e with key := kv, val := ac.eval x }) clock) fun w' hw' => by
                refine ⟨_, hw', ?_⟩
                rw [hmod]
                have hlen := hes.1
                have hel : b1 < es.length := (List.getElem?_eq_some_iff.1 he0).1
                have hrest : rest = es.drop (b1 + 1) := by
                  have h13 := List.drop_eq_getElem_cons hel
                  rw [hd] at h13
                  injection h13
                have hlen' : es'.size = es.length := by simpa using hlen
                refine ⟨by simp [hrest]; omega, fun j f hf => ?_⟩
                by_cases e1 : j < b1
                · rw [List.getElem?_append_left (by simp; omega), List.getElem?_take, if_pos e1] at hf
                  obtain ⟨f', h14, h15⟩ := hes.2 j f hf
                  exact ⟨f', by rw [List.getElem?_append_left (by simp; omega), List.getElem?_take, if_pos e1]; exact h14, h15⟩
                · by_cases e2 : j = b1
                  · subst e2
                    rw [List.getElem?_append_right (by simp; omega)] at hf
                    simp [show min j es.length = j by omega] at hf
                    subst hf
                    refine ⟨_, by rw [List.getElem?_append_right (by simp; omega)]; simp [show min j es'.size = j by omega]; rfl, rfl, hval, ?_⟩
                    exact h10
                  · obtain ⟨q, rfl⟩ : ∃ q, j = b1 + 1 + q := ⟨j - (b1 + 1), by omega⟩
                    rw [List.getElem?_append_right (by simp; omega)] at hf
                    rw [List.length_take, show b1 + 1 + q - min b1 es.length = q + 1 by omega, List.getElem?_cons_succ, hrest, List.getElem?_drop] at hf
                    obtain ⟨f', h14, h15⟩ := hes.2 _ f hf
                    refine ⟨f', ?_, h15⟩
                    rw [List.getElem?_append_right (by simp; omega), List.length_take, show b1 + 1 + q - min b1 es'.toList.length = q + 1 by omega, List.getElem?_cons_succ, List.getElem?_drop]
                    exact h14
              refine ⟨σ, undef, _, Sg.le_refl σ, .undef, h11, h12, .inr ⟨?_, rfl⟩⟩
              rw [hexec ac.eval o ho]
              simp only [Sem.run_bind, hrun]
              have hk0 : ((es'[b1]?).map (·.key)).getD kv = e.key := by
                rw [← Array.getElem?_toList, h6]; simp [h8]
              rw [hk0]
              simp only [Instr.keyThatStays, hsame, if_true, Sem.run_pure, Result.andThen_ok]
              rw [setObj_run hh (by simp)]
              rfl
          · exact absurd h4.symm hr
        · exact absurd h4.symm hr
      | none =>
        simp only at h4
        obtain ⟨H', hs, h5⟩ := setK_spec h4 hr
        refine ⟨_, _, _, h5.symm, fun {B σ w nt ac} o ho rel hB ht => ?_⟩
        obtain ⟨l, es', b, hl, hh, hes, hrel, hrun⟩ := common rel ht
        cases b with
        | some b => exact hrel.elim
        | none =>
          have hval := evA_ok ht hv
          obtain ⟨h11, h12⟩ := rel.setO hg rfl hl hs (.map (es'.push { key := kv, val := ac.eval x, born := clock }) (clock + 1)) fun w' hw' => by
            refine ⟨_, hw', ?_⟩
            rw [Array.toList_push]
            have hlen := hes.1
            refine ⟨by simp; simpa using hlen, fun j f hf => ?_⟩
            by_cases e1 : j < es.length
            · rw [List.getElem?_append_left e1] at hf
              obtain ⟨f', h14, h15⟩ := hes.2 j f hf
              exact ⟨f', by rw [List.getElem?_append_left (by omega)]; exact h14, h15⟩
            · rw [List.getElem?_append_right (by omega)] at hf
              have : j - es.length = 0 := by
                have := (List.getElem?_eq_some_iff.1 hf).1
                simp at this; omega
              rw [this] at hf
              simp at hf
              subst hf
              exact ⟨_, by rw [List.getElem?_append_right (by omega), hlen, this]; rfl, rfl, hval, rfl⟩
          refine ⟨σ, undef, _, Sg.le_refl σ, .undef, h11, h12, .inr ⟨?_, rfl⟩⟩
          rw [hexec ac.eval o ho]
          simp only [Sem.run_bind, hrun]
          rw [setObj_run hh (by simp)]
          rfl
    · exact absurd h3.symm hr
  · exact absurd h3.symm hr
end loud
end Go.Ex
namespace Go.Ex
open Go Go.RowKit
section app
variable {E : Env} (hE : EnvOK E) {nest : Nest} {tm : Tr Value} {H : Heap} {nx : Nat} {r : R}

theorem srcK_some {size : Nat} {x : Value} {k : Nat → List Value → R} (h : srcK H size x k = r) (hr : r ≠ .fail) :
    ∃ n vs, k n vs = r ∧ vs.length = n * size ∧ ∀ {B : Nat} {σ : Sg} {w : World} {X : Value}, Rel B σ H w → Con σ x X →
      (∀ P, (Builtin.lenOf X).run P w = .ok n w) ∧ ∃ Vs, ConL σ vs Vs ∧ ∀ P, (Builtin.firstCells size n X).run P w = .ok Vs.toArray w := by
  unfold srcK at h
  split at h
  · rename_i c
    refine ⟨0, [], h, by simp, fun {B σ w X} _ hc => ?_⟩
    cases hc with
    | sc _ h => exact ⟨fun P => rfl, [], .nil, fun P => rfl⟩
  · rename_i b o n c
    obtain ⟨_, vs, hvl, hvs, h1⟩ := rdN_some h hr
    refine ⟨n, vs, h1, hvl, fun {B σ w X} rel hc => ?_⟩
    have hld : ∀ l, σ b = some l → ∃ Vs, ConL σ vs Vs ∧ ∀ P, (loadCells ⟨l.block, l.shift + o, none⟩ (n * size)).run P w = .ok Vs.toArray w := fun l hl => by
      obtain ⟨Vs, h6, h7⟩ := rel.cells hl hvs
      rw [hvl] at h7
      exact ⟨Vs, h6, h7⟩
    cases hc with
    | sc _ h => simp [Ex.scal] at h
    | slice _ _ _ _ l h _ _ =>
      obtain ⟨Vs, h2, h3⟩ := hld l h
      exact ⟨fun P => rfl, Vs, h2, fun P => h3 P⟩
    | sliceU _ _ _ _ l o' c' h _ _ hoo _ =>
      by_cases h0 : n = 0
      · subst h0
        have : vs = [] := List.eq_nil_of_length_eq_zero (by simpa using hvl)
        subst this
        refine ⟨fun P => rfl, [], .nil, fun P => ?_⟩
        show (loadCells _ (0 * size)).run P w = _
        rw [Nat.zero_mul]; rfl
      · rw [hoo h0]
        obtain ⟨Vs, h2, h3⟩ := hld l h
        exact ⟨fun P => rfl, Vs, h2, fun P => h3 P⟩
  · rename_i s
    split at h
    · rename_i hs
      have hs := Nat.eq_of_beq_eq_true hs
      refine ⟨s.size, _, h, by simp [hs], fun {B σ w X} _ hc => ?_⟩
      rw [hc.scal rfl]
      refine ⟨fun P => rfl, _, ConL.of_scal (lit_of_ints _), fun P => ?_⟩
      show (pure ((s.extract 0 s.size).data.map fun b => Value.int .u8 b.toNat) : Sem (Array Value)).run P w = _
      have : s.extract 0 s.size = s := by
        apply ByteArray.ext
        simp
      rw [this]
      simp only [Sem.run_pure]
      congr 1
      apply Array.toList_inj.1
      simp
    · exact absurd h.symm hr
  · exact absurd h.symm hr
theorem growK_some {need size : Nat} {cs : List Value} (h : growK H nx need size cs = r) (hr : r ≠ .fail) :
    ∃ H' c, r = .val (.slice (some ⟨nx, 0, none⟩) need (UNK + size)) H' (nx + 1) ∧ get H nx = none ∧ IsSet H nx (.blk false (need * size) 1 [] c) H' ∧ cs.all one = true ∧
      (∀ i v, cellOf (need * size) 1 [] c i = some v → cs[i]? = some v) := by
  unfold growK at h
  obtain ⟨_, h1, c, h2, h3⟩ := wrF_some h hr
  obtain ⟨H', hn, hs, h4⟩ := newK_some h3 hr
  refine ⟨H', c, h4.symm, hn, hs, h1, fun i v hi => ?_⟩
  unfold cellOf at hi
  split at hi
  · rw [h2 i] at hi
    by_cases e : 0 ≤ i ∧ i < 0 + cs.length
    · rw [if_pos e, Nat.sub_zero, List.getElem?_eq_getElem (by omega)] at hi
      rw [List.getElem?_eq_getElem (by omega)]
      simpa using hi
    · rw [if_neg e] at hi
      simp [rget_nil] at hi
  · simp at hi
/-- A store anywhere into a block of the run's own. -/
theorem Rel.store {B : Nat} {σ : Sg} {H : Heap} {w : World} (rel : Rel B σ H w) {b : Nat} {size per : Nat} {runs : List (Nat × Value)} {cells : Tr Value} {l : Loc}
    (hg : get H b = some (.blk false size per runs cells)) (hl : σ b = some l) {Vs : List Value} (h1 : ∀ V ∈ Vs, V.oneCell' = true) (p : Nat) (hp : p + Vs.length ≤ l.size) :
    ∃ w' c c' elem, w.heap[l.block]? = some (.cells c elem (0, 0)) ∧ (∀ P, (storeCells ⟨l.block, p, none⟩ Vs).run P w = .ok () w') ∧ w'.heap[l.block]? = some (.cells c' elem (0, 0)) ∧ c'.size = l.size ∧
      (∀ i, i < p → c'[i]? = c[i]?) ∧ (∀ i V, Vs[i]? = some V → c'[p + i]? = some V) ∧ w'.heap.size = w.heap.size ∧ (∀ k, k ≠ l.block → w'.heap[k]? = w.heap[k]?) ∧ Below B w w' ∧
      (∀ i v, cellOf size per runs cells i = some v → ∃ V, c[l.shift + i]? = some V ∧ Con σ v V) := by
  obtain ⟨l', h2, hO, _⟩ := rel.obj _ _ hg
  rw [hl] at h2; cases h2
  obtain ⟨h0, c, elem, fr, h3, h4, h5, h6⟩ := hO
  have h5 := h5 rfl
  subst h5
  have hclen : c.toList.length = l.size := by simpa using h4
  refine ⟨_, c, _, elem, h3, fun P => run_storeCells_at (P := P) l.block p elem Vs 0 c w h3 (by omega) h1, setRow_heap w l.block c _ elem (0, 0) h3, ?_, ?_, ?_, by simp, fun k hk => setRow_other _ _ _ _ hk,
    below_upd (rel.own_block hg rfl hl) rfl rfl rfl (by simp) (fun k hk => setRow_other _ _ _ _ hk), h6⟩
  · simp; omega
  · intro i hi
    simp only [Nat.add_zero, List.getElem?_toArray, List.append_assoc]
    rw [List.getElem?_append_left (by simp; omega), List.getElem?_take, if_pos hi]
    simp
  · intro i V hV
    have hil : i < Vs.length := (List.getElem?_eq_some_iff.1 hV).1
    simp only [Nat.add_zero, List.getElem?_toArray, List.append_assoc]
    rw [List.getElem?_append_right (by simp; omega), List.getElem?_append_left (by simp; omega)]
    rw [show p + i - (c.toList.take p).length = i by simp; omega]
    exact hV
theorem nsc_le {need cap : Nat} (h1 : ¬ need ≤ cap) (h2 : need ≤ 255) : Builtin.nextslicecap need cap ≤ 510 := by
  unfold Builtin.nextslicecap
  split
  · omega
  · rw [if_pos (by omega)]; omega
set_option maxHeartbeats 2000000 in
/-- A row that had no room: what is handed back lies in a new block. -/
theorem run_grow {P : Program} {w : World} {e : TypeId} {st xt ty : TypeId} {j : AInfo} {tj : TypeInfo} {z : Value} (hio : InfOK P e j tj z) (hst : P.underlying st = some (.slice e))
    {xd : TypeDesc} (hxt : P.underlying xt = some xd) (hni : ∀ k, xd ≠ .int k) (base : Option Addr) (sLen sCap n : Nat) (X : Value) (olds news : List Value)
    (hlen : (Builtin.lenOf X).run P w = .ok n w) (hneed : ¬ sLen + n ≤ sCap) (hsmall : sLen + n ≤ 255) (hb : j.bytes ≤ 65536)
    (hold : (Builtin.firstCells j.size sLen (.slice base sLen sCap)).run P w.drew = .ok olds.toArray w.drew)
    (hnew : (Builtin.firstCells j.size n X).run P w.drew = .ok news.toArray w.drew) :
    ∃ cap, sLen + n ≤ cap ∧ ∃ C : Array Value, C = (olds ++ news).toArray ++ Builtin.zeroCells z.cells (cap - (sLen + n)) ∧
      (Builtin.append_ #[st, xt] ty #[.slice base sLen sCap, X]).run P w = .ok (.slice (some ⟨w.heap.size, 0, none⟩) (sLen + n) cap) (w.drew.alloc (.cells C e)) := by
  refine ⟨Question.cut (.appendCap (sLen + n) sCap e) (w.tape w.drawn (.appendCap (sLen + n) sCap e)), by show _ ≤ sLen + n + _; omega, _, rfl, ?_⟩
  have h63 : ¬ ((sLen : Int) + (n : Int) > IntKind.i64.max ∧ j.bytes = 0) := by
    have : IntKind.i64.max = 9223372036854775807 := rfl
    rw [this]; omega
  have h63' : ¬ (9223372036854775807 < (sLen : Int) + (n : Int) ∧ j.bytes = 0) := by omega
  have h48 : ¬ (Builtin.nextslicecap (sLen + n) sCap * j.bytes > 2 ^ 48) := by
    have h1 := nsc_le hneed hsmall
    have h2 : Builtin.nextslicecap (sLen + n) sCap * j.bytes ≤ 510 * 65536 := Nat.mul_le_mul h1 hb
    have h3 : (2 : Nat) ^ 48 = 281474976710656 := rfl
    rw [h3]; omega
  have hd : ({ w with drawn := w.drawn + 1 } : World) = w.drew := rfl
  cases xd with
  | int k => exact absurd rfl (hni k)
  | _ =>
    simp [Builtin.append_, run_underlying hst, run_underlying hxt, sizeOf, typeInfo, zeroValue, hio.info, hio.zero, hio.size, hio.bytes, hlen, hneed, h48, Question.forced, hold, hnew, newRow, h63']
    rw [← Array.append_assoc]; simp
end app
set_option maxHeartbeats 2000000 in
theorem run_room {P : Program} {w w' : World} {e : TypeId} {st xt ty : TypeId} {j : AInfo} {tj : TypeInfo} {z : Value} (hio : InfOK P e j tj z) (hst : P.underlying st = some (.slice e))
    {xd : TypeDesc} (hxt : P.underlying xt = some xd) (hni : ∀ k, xd ≠ .int k) (base : Option Addr) (sLen sCap n : Nat) (X : Value) (news : List Value)
    (hlen : (Builtin.lenOf X).run P w = .ok n w) (hneed : sLen + n ≤ sCap)
    (hnew : (Builtin.firstCells j.size n X).run P w = .ok news.toArray w)
    (hw : base = none ∧ w' = w ∨ ∃ a, base = some a ∧ (storeCells (a.add (sLen * j.size)) news).run P w = .ok () w') :
    (Builtin.append_ #[st, xt] ty #[.slice base sLen sCap, X]).run P w = .ok (.slice base (sLen + n) sCap) w' := by
  cases xd with
  | int k => exact absurd rfl (hni k)
  | _ =>
    rcases hw with ⟨rfl, rfl⟩ | ⟨a, rfl, hs⟩
    · simp [Builtin.append_, run_underlying hst, run_underlying hxt, sizeOf, typeInfo, hio.info, hio.size, hlen, hneed, hnew]
    · simp [Builtin.append_, run_underlying hst, run_underlying hxt, sizeOf, typeInfo, hio.info, hio.size, hlen, hneed, hnew, hs]
/-- What append comes to in a new block. -/
theorem grow_rel {B : Nat} {σ : Sg} {H H' : Heap} {w : World} {nx : Nat} {need size : Nat} {cs : List Value} {c : Tr Value} (rel : Rel B σ H w) (hB : B ≤ w.heap.size) (hn : get H nx = none)
    (hs : IsSet H nx (.blk false (need * size) 1 [] c) H') (hc : ∀ i v, cellOf (need * size) 1 [] c i = some v → cs[i]? = some v) {Cs : List Value} (hcs : ConL σ cs Cs) (hlen : cs.length = need * size)
    {z : Array Value} (hz : z.size = size) {cap : Nat} (hcap : need ≤ cap) (e : TypeId) :
    ∃ τ, Sg.le σ τ ∧ Con τ (.slice (some ⟨nx, 0, none⟩) need (UNK + size)) (.slice (some ⟨w.heap.size, 0, none⟩) need cap) ∧
      Rel B τ H' (w.alloc (.cells (Cs.toArray ++ Builtin.zeroCells z (cap - need)) e)) ∧ Below B w (w.alloc (.cells (Cs.toArray ++ Builtin.zeroCells z (cap - need)) e)) := by
  have hsz : (Cs.toArray ++ Builtin.zeroCells z (cap - need)).size = cap * size := by
    rw [Array.size_append, size_zeroCells, hz]
    simp only [List.size_toArray]
    rw [hcs.length, hlen, ← Nat.add_mul]
    congr 1; omega
  obtain ⟨τ, h1, h2, h3, h4⟩ := alloc_blk rel hB hn hs (Cs.toArray ++ Builtin.zeroCells z (cap - need)) e (0, 0) (fun _ => rfl) (by rw [hsz]; exact Nat.mul_le_mul_right _ hcap) fun i v hi => by
    obtain ⟨V, h5, h6⟩ := hcs.get (hc i v hi)
    have hil : i < Cs.length := (List.getElem?_eq_some_iff.1 h5).1
    exact ⟨V, by rw [Array.getElem?_append_left (by simpa using hil)]; simpa using h5, h6⟩
  refine ⟨τ, h1, .sliceU nx 0 need (UNK + size) _ 0 cap h2 (by omega) hcap (fun _ => rfl) ?_, h3, h4⟩
  rw [Nat.add_sub_cancel_left, hsz]; simp
end Go.Ex
namespace Go.Ex
open Go Go.RowKit
section app
variable {E : Env} (hE : EnvOK E) {nest : Nest} {tm : Tr Value} {H : Heap} {nx : Nat} {r : R}
include hE in
/-- append. -/
theorem appendK_ok {st xt : TypeId} {s x : Value} (h : appendK E st xt s x H nx = r) (hr : r ≠ .fail) :
    ∃ v H' nx', r = .val v H' nx' ∧ ∀ {B : Nat} {σ : Sg} {w : World} {S X : Value} (ty : TypeId), Rel B σ H w → B ≤ w.heap.size → Con σ s S → Con σ x X →
      ∃ τ V w', Sg.le σ τ ∧ Con τ v V ∧ Rel B τ H' w' ∧ Below B w w' ∧ (Builtin.append_ #[st, xt] ty #[S, X]).run E.P w = .ok V w' := by
  unfold appendK at h
  split at h
  · rename_i e xd hst hxt
    split at h
    · exact absurd h.symm hr
    rename_i hni
    have hst' := und_ok hE hst
    have hxt' := und_ok hE hxt
    have hni' : ∀ k, xd ≠ .int k := fun k e => hni k e
    split at h
    · rename_i j hj
      obtain ⟨tj, z, d, hio, _, _⟩ := inf_ok hE hj
      split at h
      · rename_i hb
        simp only [Bool.and_eq_true] at hb
        have hb1 := Nat.le_of_ble_eq_true hb.1
        have hb2 := Nat.le_of_ble_eq_true hb.2
        obtain ⟨n, new, h1, hnl, hsrc⟩ := srcK_some h hr
        clear h
        have hzs : z.cells.size = j.size := by rw [← hio.len, hio.runs]; simp
        split at h1
        · -- nothing is appended
          have hn0 : new = [] := List.eq_nil_of_length_eq_zero (by simpa using hnl)
          subst hn0
          split at h1
          · refine ⟨_, _, _, h1.symm, fun {B σ w S X} ty rel hB hS hX => ?_⟩
            obtain ⟨h2, Vs, h3, h4⟩ := hsrc rel hX
            cases h3
            refine ⟨σ, S, w, Sg.le_refl σ, hS, rel, Below.refl B w, ?_⟩
            rw [hS.scal rfl]
            exact run_room (ty := ty) hio hst' hxt' hni' none 0 0 0 X [] (h2 E.P) (by omega) (h4 E.P) (.inl ⟨rfl, rfl⟩)
          · rename_i b o len c
            refine ⟨_, _, _, h1.symm, fun {B σ w S X} ty rel hB hS hX => ?_⟩
            obtain ⟨h2, Vs, h3, h4⟩ := hsrc rel hX
            cases h3
            refine ⟨σ, S, w, Sg.le_refl σ, hS, rel, Below.refl B w, ?_⟩
            have : ∃ a c', S = .slice (some a) len c' ∧ len ≤ c' := by
              cases hS with
              | sc _ h => simp [Ex.scal] at h
              | slice _ _ _ _ l h hn _ => exact ⟨_, _, rfl, hn⟩
              | sliceU _ _ _ _ l o' c' h _ hn _ _ => exact ⟨_, _, rfl, hn⟩
            obtain ⟨a, c', rfl, hle⟩ := this
            exact run_room (ty := ty) hio hst' hxt' hni' (some a) len c' 0 X [] (h2 E.P) (by omega) (h4 E.P) (.inr ⟨a, rfl, rfl⟩)
          · exact absurd h1.symm hr
        · rename_i hn0
          have hnn : n ≠ 0 := fun e => hn0 e
          split at h1
          · -- onto nil
            split at h1
            · rename_i hn255
              have hn255 := Nat.le_of_ble_eq_true hn255
              obtain ⟨H', c, h2, hn, hs, _, hc⟩ := growK_some h1 hr
              refine ⟨_, _, _, h2, fun {B σ w S X} ty rel hB hS hX => ?_⟩
              rw [hS.scal rfl]
              obtain ⟨_, Vs, h3, h4⟩ := hsrc rel.drew hX
              obtain ⟨cap, h5, C, h6, h7⟩ := run_grow (ty := ty) hio hst' hxt' hni' none 0 0 n X [] Vs ((hsrc rel hX).1 E.P) (by omega) (by omega) hb2 (by simp [Builtin.firstCells]) (h4 E.P)
              obtain ⟨τ, h8, h9, h10, h11⟩ := grow_rel (w := w.drew) (need := n) rel.drew hB hn hs hc h3 hnl hzs (by omega : n ≤ cap) e
              refine ⟨τ, _, _, h8, h9, h10, (below_drew w).trans h11, ?_⟩
              rw [h7, h6]
              simp
            · exact absurd h1.symm hr
          · rename_i b o len c
            split at h1
            · rename_i hn255
              have hn255 := Nat.le_of_ble_eq_true hn255
              split at h1
              · -- the capacity is known
                rename_i hkn
                have hcU : c < UNK := by rw [ble_decide] at hkn; simp at hkn; exact hkn
                have hS0 : ∀ {σ : Sg} {S : Value}, Con σ (.slice (some ⟨b, o, none⟩) len c) S → ∃ l, σ b = some l ∧ S = .slice (some ⟨l.block, l.shift + o, none⟩) len c ∧ len ≤ c := by
                  intro σ S hS
                  cases hS with
                  | sc _ h => simp [Ex.scal] at h
                  | slice _ _ _ _ l h hn _ => exact ⟨l, h, rfl, hn⟩
                  | sliceU _ _ _ _ l o' c' h hU hn _ _ => omega
                split at h1
                · -- room
                  rename_i hroom
                  have hroom := Nat.le_of_ble_eq_true hroom
                  obtain ⟨size, per, runs, cells, c', H', hg, hin, ho1, hc, hs, h2⟩ := wrN_some h1 hr
                  refine ⟨_, _, _, h2.symm, fun {B σ w S X} ty rel hB hS hX => ?_⟩
                  obtain ⟨l, hl, rfl, hle⟩ := hS0 hS
                  obtain ⟨h3, Vs, h4, h5⟩ := hsrc rel hX
                  obtain ⟨w', h6, h7, h8⟩ := rel.write (P := E.P) hg hl hin ho1 hc hs h4
                  refine ⟨σ, .slice (some ⟨l.block, l.shift + o, none⟩) (len + n) c, w', Sg.le_refl σ, .slice b o _ _ l hl hroom hcU, h7, h8, ?_⟩
                  refine run_room (ty := ty) hio hst' hxt' hni' _ len c n X Vs (h3 E.P) hroom (h5 E.P) (.inr ⟨_, rfl, ?_⟩)
                  rw [add_flat, Nat.add_assoc]; exact h6
                · -- none
                  rename_i hroom
                  have hroom : ¬ len + n ≤ c := by rw [ble_decide] at hroom; simp at hroom; omega
                  obtain ⟨_, old, hol, hoc, h2⟩ := rdN_some h1 hr
                  obtain ⟨H', cc, h3, hn, hs, _, hc⟩ := growK_some h2 hr
                  refine ⟨_, _, _, h3, fun {B σ w S X} ty rel hB hS hX => ?_⟩
                  obtain ⟨l, hl, rfl, hle⟩ := hS0 hS
                  obtain ⟨_, Vs, h4, h5⟩ := hsrc rel.drew hX
                  obtain ⟨Os, h6, h7⟩ := rel.drew.cells hl hoc
                  rw [hol] at h7
                  obtain ⟨cap, h8, C, h9, h10⟩ := run_grow (ty := ty) hio hst' hxt' hni' (some ⟨l.block, l.shift + o, none⟩) len c n X Os Vs ((hsrc rel hX).1 E.P) hroom hn255 hb2 (h7 E.P) (h5 E.P)
                  obtain ⟨τ, h11, h12, h13, h14⟩ := grow_rel (w := w.drew) (need := len + n) rel.drew hB hn hs hc (h6.append h4) (by simp [hol, hnl, Nat.add_mul]) hzs h8 e
                  refine ⟨τ, _, _, h11, h12, h13, (below_drew w).trans h14, ?_⟩
                  rw [h10, h9]
                  rfl
              · -- it is not
                rename_i hkn
                have hcU : UNK ≤ c := Nat.le_of_ble_eq_true hkn
                split at h1
                · rename_i size per runs cells hce hg
                  have hce := Nat.eq_of_beq_eq_true hce
                  obtain ⟨old, hol, hoc, h2⟩ := rdF_some h1 hr
                  obtain ⟨H1, hs1, h3⟩ := setK_spec h2 hr
                  obtain ⟨H', cc, h4, hn, hs, ho1, hc⟩ := growK_some h3 hr
                  have hn' : get H nx = none := by
                    have hnb : nx ≠ b := fun e => by subst e; rw [hs1.same] at hn; cases hn
                    rw [← hs1.other hnb]; exact hn
                  refine ⟨_, _, _, h4, fun {B σ w S X} ty rel hB hS hX => ?_⟩
                  have hS0 : ∃ l o' c', σ b = some l ∧ S = .slice (some ⟨l.block, o', none⟩) len c' ∧ len ≤ c' ∧ (len ≠ 0 → o' = l.shift + o) ∧ o' + c' * j.size ≤ l.size := by
                    cases hS with
                    | sc _ h => simp [Ex.scal] at h
                    | slice _ _ _ _ l h hn _ => omega
                    | sliceU _ _ _ _ l o' c' h hU hn hoo hsz => exact ⟨l, o', c', h, rfl, hn, hoo, by rw [hce, Nat.add_sub_cancel_left] at hsz; exact hsz⟩
                  obtain ⟨l, o', c', hl, rfl, hlc, hoo, hsz⟩ := hS0
                  have hoat : ∀ (i : Nat) v, old[i]? = some v → cellAt H b (o + i) = some v := fun i v hv => by simp [cellAt, hg, hoc i v hv]
                  by_cases hroom : len + n ≤ c'
                  · -- it was there: the row goes on under a new name
                    obtain ⟨h5, Vs, h6, h7⟩ := hsrc rel hX
                    have hVl : Vs.length = n * j.size := by rw [h6.length, hnl]
                    have hVone : ∀ V ∈ Vs, V.oneCell' = true := oneCell_of h6 (by rw [List.all_append] at ho1; simp only [Bool.and_eq_true] at ho1; exact ho1.2)
                    have hfit : o' + len * j.size + Vs.length ≤ l.size := by
                      rw [hVl, Nat.add_assoc, ← Nat.add_mul]
                      exact Nat.le_trans (Nat.add_le_add_left (Nat.mul_le_mul_right _ hroom) _) hsz
                    obtain ⟨w', c0, c1, elem, h8, h9, h10, h11, h12, h13, h14, h15, h16, h17⟩ := rel.store hg hl hVone (o' + len * j.size) hfit
                    obtain ⟨τ, h18, h19, h20⟩ := rel.moved hg rfl hl hs1 hn hs o' l.size h14 h15 fun τ hle hτ => by
                      refine ⟨?_, c1, elem, (0, 0), h10, h11, fun _ => rfl, fun i v hi => ?_⟩
                      · show o' + (len + n) * j.size ≤ l.size
                        exact Nat.le_trans (Nat.add_le_add_left (Nat.mul_le_mul_right _ hroom) _) hsz
                      · have hi' := hc i v hi
                        by_cases e1 : i < len * j.size
                        · rw [List.getElem?_append_left (by omega)] at hi'
                          obtain ⟨V, h21, h22⟩ := h17 (o + i) v (hoc i v hi')
                          have hl0 : len ≠ 0 := fun e => by subst e; simp at e1
                          refine ⟨V, ?_, h22.mono hle⟩
                          show c1[o' + i]? = some V
                          rw [h12 (o' + i) (by omega), hoo hl0, Nat.add_assoc]
                          exact h21
                        · rw [List.getElem?_append_right (by omega), hol] at hi'
                          obtain ⟨V, h21, h22⟩ := h6.get hi'
                          refine ⟨V, ?_, h22.mono hle⟩
                          show c1[o' + i]? = some V
                          have := h13 _ V h21
                          rwa [show o' + len * j.size + (i - len * j.size) = o' + i by omega] at this
                    refine ⟨τ, .slice (some ⟨l.block, o', none⟩) (len + n) c', w', h18, .sliceU nx 0 _ _ ⟨l.block, o', l.size⟩ o' c' h19 (by omega) hroom (fun _ => rfl) ?_, h20, h16, ?_⟩
                    · rw [Nat.add_sub_cancel_left]; exact hsz
                    · refine run_room (ty := ty) hio hst' hxt' hni' _ len c' n X Vs (h5 E.P) hroom (h7 E.P) (.inr ⟨_, rfl, ?_⟩)
                      rw [add_flat]; exact h9 E.P
                  · -- a new row
                    obtain ⟨_, Vs, h4, h5⟩ := hsrc rel.drew hX
                    obtain ⟨Os, h6, h7⟩ := rel.drew.cells hl hoat
                    rw [hol] at h7
                    have hold : (Builtin.firstCells j.size len (.slice (some ⟨l.block, o', none⟩) len c')).run E.P w.drew = .ok Os.toArray w.drew := by
                      by_cases hl0 : len = 0
                      · subst hl0
                        have : Os = [] := List.eq_nil_of_length_eq_zero (by rw [h6.length, hol]; simp)
                        subst this
                        show (loadCells _ (0 * j.size)).run E.P _ = _
                        rw [Nat.zero_mul]; rfl
                      · rw [hoo hl0]; exact h7 E.P
                    obtain ⟨cap, h8, C, h9, h10⟩ := run_grow (ty := ty) hio hst' hxt' hni' (some ⟨l.block, o', none⟩) len c' n X Os Vs ((hsrc rel hX).1 E.P) hroom hn255 hb2 hold (h5 E.P)
                    -- the old name is let go
                    have relD : Rel B σ H1 w.drew := by
                      refine ⟨fun i oi hi => ?_, fun i li hi => ?_, fun i k oi ok li lk hi hk a1 a2 hne hli hlk => ?_⟩
                      · by_cases e1 : i = b
                        · subst e1; rw [hs1.same] at hi; cases hi; exact ⟨l, hl, trivial, fun h => by simp [AObj.mine] at h⟩
                        · rw [hs1.other e1] at hi; exact rel.drew.obj i oi hi
                      · obtain ⟨⟨oi, ho⟩, hlt⟩ := rel.drew.dom i li hi
                        by_cases e1 : i = b
                        · subst e1; exact ⟨⟨_, hs1.same⟩, hlt⟩
                        · exact ⟨⟨oi, by rw [hs1.other e1]; exact ho⟩, hlt⟩
                      · have hib : i ≠ b := fun e => by subst e; rw [hs1.same] at hi; cases hi; simp [AObj.own] at a1
                        have hkb : k ≠ b := fun e => by subst e; rw [hs1.same] at hk; cases hk; simp [AObj.live] at a2
                        rw [hs1.other hib] at hi; rw [hs1.other hkb] at hk
                        exact rel.drew.uniq i k oi ok li lk hi hk a1 a2 hne hli hlk
                    obtain ⟨τ, h11, h12, h13, h14⟩ := grow_rel (w := w.drew) (need := len + n) relD hB hn hs hc (h6.append h4) (by simp [hol, hnl, Nat.add_mul]) hzs h8 e
                    refine ⟨τ, _, _, h11, h12, h13, (below_drew w).trans h14, ?_⟩
                    rw [h10, h9]
                    rfl
                · exact absurd h1.symm hr
            · exact absurd h1.symm hr
          · exact absurd h1.symm hr
      · exact absurd h.symm hr
    · exact absurd h.symm hr
  · exact absurd h.symm hr
end app
end Go.Ex
namespace Go.Ex
open Go Go.RowKit
section app
variable {E : Env} (hE : EnvOK E) {nest : Nest} {tm : Tr Value} {H : Heap} {nx : Nat} {r : R}
theorem slice_con {σ : Sg} {b o n c : Nat} {V : Value} (h : Con σ (.slice (some ⟨b, o, none⟩) n c) V) :
    ∃ l o' c', σ b = some l ∧ V = .slice (some ⟨l.block, o', none⟩) n c' ∧ (n ≠ 0 → o' = l.shift + o) := by
  cases h with
  | sc _ h => simp [Ex.scal] at h
  | slice _ _ _ _ l h _ _ => exact ⟨l, _, _, h, rfl, fun _ => rfl⟩
  | sliceU _ _ _ _ l o' c' h _ _ hoo _ => exact ⟨l, o', c', h, rfl, hoo⟩
include hE in
theorem copyK_ok {dt : TypeId} {s x : Value} (h : copyK E dt s x H nx = r) (hr : r ≠ .fail) :
    ∃ v H' nx', r = .val v H' nx' ∧ ∀ {B : Nat} {σ : Sg} {w : World} {S X : Value} (ty : TypeId) (ts : List TypeId), Rel B σ H w → B ≤ w.heap.size → Con σ s S → Con σ x X →
      ∃ τ V w', Sg.le σ τ ∧ Con τ v V ∧ Rel B τ H' w' ∧ Below B w w' ∧ (Builtin.copy_ ⟨dt :: ts⟩ ty #[S, X]).run E.P w = .ok V w' := by
  unfold copyK at h
  split at h
  · rename_i e b o dn dc b' o' xn xc hu
    have hu' := und_ok hE hu
    split at h
    · rename_i j hj
      obtain ⟨tj, z, d, hio, _, _⟩ := inf_ok hE hj
      obtain ⟨_, vs, hvl, hvs, h1⟩ := rdN_some h hr
      obtain ⟨size, per, runs, cells, c', H', hg, hin, ho1, hc, hs, h2⟩ := wrN_some h1 hr
      refine ⟨_, _, _, h2.symm, fun {B σ w S X} ty ts rel hB hS hX => ?_⟩
      obtain ⟨l, p, cp, hl, rfl, hp⟩ := slice_con hS
      obtain ⟨l', p', cp', hl', rfl, hp'⟩ := slice_con hX
      obtain ⟨Vs, h3, h4⟩ := rel.cells hl' hvs
      obtain ⟨w', h5, h6, h7⟩ := rel.write (P := E.P) hg hl hin ho1 hc hs h3
      refine ⟨σ, .int .i64 (Nat.min xn dn : Nat), w', Sg.le_refl σ, .sc _ rfl, h6, h7, ?_⟩
      have hld : (loadCells ⟨l'.block, p', none⟩ (Nat.min xn dn * j.size)).run E.P w = .ok Vs.toArray w := by
        by_cases h0 : xn = 0
        · have hm : Nat.min xn dn = 0 := by rw [h0]; exact Nat.zero_min dn
          have : Vs = [] := List.eq_nil_of_length_eq_zero (by rw [h3.length, hvl, hm]; simp)
          rw [hm, this, Nat.zero_mul]; rfl
        · rw [hp' h0]; rw [hvl] at h4; exact h4 E.P
      have hst : (storeCells ⟨l.block, p, none⟩ Vs).run E.P w = .ok () w' := by
        by_cases h0 : dn = 0
        · have hm : Nat.min xn dn = 0 := by rw [h0]; exact Nat.min_zero xn
          have : Vs = [] := List.eq_nil_of_length_eq_zero (by rw [h3.length, hvl, hm]; simp)
          subst this
          have e : (storeCells ⟨l.block, l.shift + o, none⟩ []).run E.P w = .ok () w := rfl
          rw [e] at h5
          cases h5
          rfl
        · rw [hp h0]; exact h5
      simp [Builtin.copy_, run_underlying hu', Builtin.lenOf, hio.sizeOf, Builtin.firstCells, hld, hst, goInt]
    · exact absurd h.symm hr
  · rename_i e dn dc xn xc hu
    have hu' := und_ok hE hu
    split at h
    · rename_i j hj
      obtain ⟨tj, z, d, hio, _, _⟩ := inf_ok hE hj
      refine ⟨_, _, _, h.symm, fun {B σ w S X} ty ts rel hB hS hX => ?_⟩
      cases hS with
      | sc _ h1 =>
      cases hX with
      | sc _ h2 =>
      have e1 : dn = 0 ∧ dc = 0 := by unfold Ex.scal at h1; split at h1 <;> simp_all
      have e2 : xn = 0 ∧ xc = 0 := by unfold Ex.scal at h2; split at h2 <;> simp_all
      obtain ⟨rfl, rfl⟩ := e1
      obtain ⟨rfl, rfl⟩ := e2
      refine ⟨σ, .int .i64 (0 : Nat), w, Sg.le_refl σ, .sc _ rfl, rel, Below.refl B w, ?_⟩
      simp [Builtin.copy_, run_underlying hu', Builtin.lenOf, hio.sizeOf, Builtin.firstCells, goInt]
    · exact absurd h.symm hr
  · exact absurd h.symm hr
def parMode (par : Option Value) (rc : Bool) : FrameMode :=
  match par with
  | none => .returning
  | some v => .panicking [{ v, recovered := rc }]
/-- What a call comes to. -/
def Came (E : Env) (B : Nat) (σ : Sg) (w : World) (f : FuncId) (args : List Value) : R → Prop
  | .val v H' _ => Calls E.P f args.toArray w fun e w' => ∃ τ V, Sg.le σ τ ∧ Rel B τ H' w' ∧ Below B w w' ∧ e = .returned V ∧ Con τ v V
  | .pan v H' _ => Calls E.P f args.toArray w fun e w' => ∃ τ V, Sg.le σ τ ∧ Rel B τ H' w' ∧ Below B w w' ∧ e = .panicked [{ v := V, recovered := false }] ∧ Con τ v V
  | _ => False
/-- What a round comes to: it is entered by yield and hands back to its caller. -/
def CameY (E : Env) (B : Nat) (σ : Sg) (w : World) (l : Nat) (args : List Value) : R → Prop
  | .val v H' _ => ∀ (c : Frame) (cs : List Frame), ∃ τ V w' fn tmps assign body, Sg.le σ τ ∧ Rel B τ H' w' ∧ Below B w w' ∧ Con τ v V ∧
      (Instr.yield l args.toArray).run E.P w = .ok (.round l fn tmps assign body) w ∧ Steps E.P (lone (Frame.round l fn tmps assign body .normal) (c :: cs) w) (lone (c.finish V) cs w')
  | .pan v H' _ => ∀ (c : Frame) (cs : List Frame), ∃ τ V w' fn tmps assign body, Sg.le σ τ ∧ Rel B τ H' w' ∧ Below B w w' ∧ Con τ v V ∧
      (Instr.yield l args.toArray).run E.P w = .ok (.round l fn tmps assign body) w ∧ Steps E.P (lone (Frame.round l fn tmps assign body .normal) (c :: cs) w) (lone (c.raise [{ v := V, recovered := false }]) cs w')
  | _ => False
/-- What a deferred call comes to: 'chain' is what its caller is panicking with. -/
def CameD (E : Env) (B : Nat) (σ : Sg) (w : World) (f : FuncId) (args : List Value) (chain : Option Value) : R → Prop
  | .val _ H' _ => CallsD E.P f args.toArray (parMode chain false) w fun e u' w' =>
      ∃ τ V, Sg.le σ τ ∧ Rel B τ H' w' ∧ Below B w w' ∧ e = .returned V ∧ u' = (parMode chain false)
  | .vrec _ H' _ => ∃ v, chain = some v ∧ CallsD E.P f args.toArray (.panicking [{ v, recovered := false }]) w fun e u' w' =>
      ∃ τ V, Sg.le σ τ ∧ Rel B τ H' w' ∧ Below B w w' ∧ e = .returned V ∧ u' = .panicking [{ v, recovered := true }]
  | _ => False
def OptCon (σ : Sg) : Option Value → Option Value → Prop
  | none, none => True
  | some v, some V => Con σ v V
  | _, _ => False
structure NestOK (E : Env) (B : Nat) (nest : Nest) : Prop where
  call : ∀ {f : FuncId} {args : List Value} {H : Heap} {nx : Nat} {r : R}, nest (.fn f) args none H nx = r → r ≠ .fail →
    ∀ {σ : Sg} {w : World} {args' : List Value}, Rel B σ H w → B ≤ w.heap.size → ConL σ args args' → Came E B σ w f args' r
  yld : ∀ {l : Nat} {args : List Value} {H : Heap} {nx : Nat} {r : R}, nest (.yld l) args none H nx = r → r ≠ .fail →
    ∀ {σ : Sg} {w : World} {args' : List Value} {lo : Loc}, Rel B σ H w → B ≤ w.heap.size → ConL σ args args' → σ l = some lo → CameY E B σ w lo.block args' r
  dfr : ∀ {f : FuncId} {args : List Value} {chain : Option Value} {H : Heap} {nx : Nat} {r : R}, nest (.fn f) args (some chain) H nx = r → r ≠ .fail →
    ∀ {σ : Sg} {w : World} {args' : List Value} {chain' : Option Value}, Rel B σ H w → B ≤ w.heap.size → ConL σ args args' →
      OptCon σ chain chain' → CameD E B σ w f args' chain' r
end app
end Go.Ex
namespace Go.Ex
open Go Go.RowKit
section steps
variable {P : Program} {b : Frame} {a : Act} {k : List Item} {cs : List Frame} {w w' : World} {ops : Array Oper} {i : Nat} {rest : List Nat} {o : Oper}
theorem stepR_value (ho : ops[i]? = some o) (hw : Region.wanted o (yielded ops a.tmps) = true) (hnd : ∀ c, o.op ≠ .defer c) {V : Value} (hr : (execOp a.eval o).run P w = .ok (.value V) w') :
    Go.step P (lone (b.atR a (.inRegion ops (i :: rest) :: k)) cs w) = .next (lone (b.atR (a.put o.dst V) (.inRegion ops rest :: k)) cs w') := by
  refine step_lone_go ?_
  rw [stepGR_op ho hw, Oper.semAt_eq _ _ _ hnd]
  simp only [stepG.apply, Sem.runT_eq, hr, if_true, GStep.bare_after, GStep.bare_go, Frame.finish_atR, ho, Option.bind_some]
theorem stepR_skip' (ho : ops[i]? = some o) (hw : Region.wanted o (yielded ops a.tmps) = true) (hnd : ∀ c, o.op ≠ .defer c) (hr : (execOp a.eval o).run P w = .ok .skip w') :
    Go.step P (lone (b.atR a (.inRegion ops (i :: rest) :: k)) cs w) = .next (lone (b.atR (a.put o.dst undef) (.inRegion ops rest :: k)) cs w') := by
  refine step_lone_go ?_
  rw [stepGR_op ho hw, Oper.semAt_eq _ _ _ hnd]
  simp only [stepG.apply, Sem.runT_eq, hr, if_true, GStep.bare_after, GStep.bare_go, Frame.finish_atR, ho, Option.bind_some]
theorem stepR_enter (ho : ops[i]? = some o) (hw : Region.wanted o (yielded ops a.tmps) = true) (hnd : ∀ c, o.op ≠ .defer c) {f : FuncId} {args : Array Value} (hr : (execOp a.eval o).run P w = .ok (.enter f args) w') :
    Go.step P (lone (b.atR a (.inRegion ops (i :: rest) :: k)) cs w) = .next (lone (Frame.enter P f args .normal) (b.atR a (.inRegion ops (i :: rest) :: k) :: cs) w') := by
  refine step_lone_go ?_
  rw [stepGR_op ho hw, Oper.semAt_eq _ _ _ hnd]
  simp only [stepG.apply, Sem.runT_eq, hr, if_true, GStep.bare_after, GStep.bare_go, Frame.atR]
theorem stepR_round (ho : ops[i]? = some o) (hw : Region.wanted o (yielded ops a.tmps) = true) (hnd : ∀ c, o.op ≠ .defer c) {l f : Nat} {tmps : Array Value} {assign body : Code}
    (hr : (execOp a.eval o).run P w = .ok (.round l f tmps assign body) w') :
    Go.step P (lone (b.atR a (.inRegion ops (i :: rest) :: k)) cs w) = .next (lone (Frame.round l f tmps assign body .normal) (b.atR a (.inRegion ops (i :: rest) :: k) :: cs) w') := by
  refine step_lone_go ?_
  rw [stepGR_op ho hw, Oper.semAt_eq _ _ _ hnd]
  simp only [stepG.apply, Sem.runT_eq, hr, if_true, GStep.bare_after, GStep.bare_go, Frame.atR]
theorem finish_op (ho : ops[i]? = some o) (V : Value) : (b.atR a (.inRegion ops (i :: rest) :: k)).finish V = b.atR (a.put o.dst V) (.inRegion ops rest :: k) := by
  rw [Frame.finish_atR, ho]; rfl
end steps

section op
variable {E : Env} (hE : EnvOK E) {B : Nat} {nest : Nest} (hN : NestOK E B nest) {H : Heap} {nx : Nat}
/-- What an operation comes to, in the machine. -/
def OpStep (E : Env) (B : Nat) (o : Oper) (tm : Tr Value) (H : Heap) (r : R) : Prop :=
  ∀ (σ : Sg) (w : World) (nt : Nat) (b : Frame) (a : Act) (k : List Item) (cs : List Frame) (ops : Array Oper) (i : Nat) (rest : List Nat),
    ops[i]? = some o → Region.wanted o (yielded ops a.tmps) = true → Rel B σ H w → B ≤ w.heap.size → TRel σ tm nt a.tmps →
    match r with
    | .val v H' _ => ∃ τ V w', Sg.le σ τ ∧ Con τ v V ∧ Rel B τ H' w' ∧ Below B w w' ∧
        Steps E.P (lone (b.atR a (.inRegion ops (i :: rest) :: k)) cs w) (lone (b.atR (a.put o.dst V) (.inRegion ops rest :: k)) cs w')
    | .pan v H' _ => ∃ τ V w', Sg.le σ τ ∧ Con τ v V ∧ Rel B τ H' w' ∧ Below B w w' ∧
        Steps E.P (lone (b.atR a (.inRegion ops (i :: rest) :: k)) cs w) (lone { b.atR a (.inRegion ops (i :: rest) :: k) with mode := .panicking [{ v := V, recovered := false }] } cs w')
    | _ => False
theorem OpStep.of_lok {o : Oper} {tm : Tr Value} {v : Value} {H' : Heap} {nx' : Nat} (hnd : ∀ c, o.op ≠ .defer c) (h : LOK E o.op tm H v H') : OpStep E B o tm H (.val v H' nx') := by
  intro σ w nt b a k cs ops i rest ho hw rel hB ht
  obtain ⟨τ, V, w', h1, h2, h3, h4, h5⟩ := h o rfl rel hB ht
  refine ⟨τ, V, w', h1, h2, h3, h4, .one ?_⟩
  rcases h5 with h5 | ⟨h5, rfl⟩
  · exact stepR_value ho hw hnd h5
  · exact stepR_skip' ho hw hnd h5
/-- A call of a function. -/
theorem OpStep.of_call {o : Oper} {tm : Tr Value} {f : FuncId} {args : List Value} {r : R} (hnd : ∀ c, o.op ≠ .defer c) (hr : r ≠ .fail) (hN : NestOK E B nest) (h : nest (.fn f) args none H nx = r)
    (hexec : ∀ {σ : Sg} {w : World} {nt : Nat} {a : Act}, Rel B σ H w → TRel σ tm nt a.tmps → ∃ args', ConL σ args args' ∧ (execOp a.eval o).run E.P w = .ok (.enter f args'.toArray) w) : OpStep E B o tm H r := by
  intro σ w nt b a k cs ops i rest ho hw rel hB ht
  obtain ⟨args', h1, h2⟩ := hexec rel ht
  have h3 := hN.call h hr rel hB h1
  cases r with
  | fail => exact absurd rfl hr
  | vrec v H' nx' => exact h3.elim
  | val v H' nx' =>
    obtain ⟨e, w', fr, ⟨τ, V, g1, g2, g3, rfl, g4⟩, hcome, hfn, hleave⟩ := h3 (b.atR a (.inRegion ops (i :: rest) :: k) :: cs)
    refine ⟨τ, V, w', g1, g4, g2, g3, .head (stepR_enter ho hw hnd h2) (Steps.trans hcome (.one ?_))⟩
    rw [step_leave_returned hleave, finish_op ho]
  | pan v H' nx' =>
    obtain ⟨e, w', fr, ⟨τ, V, g1, g2, g3, rfl, g4⟩, hcome, hfn, hleave⟩ := h3 (b.atR a (.inRegion ops (i :: rest) :: k) :: cs)
    refine ⟨τ, V, w', g1, g4, g2, g3, .head (stepR_enter ho hw hnd h2) (Steps.trans hcome (.one ?_))⟩
    rw [step_leave_panicked hleave, Frame.raise_atR]
theorem callK_some (hE : EnvOK E) {f : FuncId} {r r' : R} (h : callK E f r = r') (hr : r' ≠ .fail) : r = r' ∧ ∀ (args : Array Value) (w : World), (callFunc f args).run E.P w = .ok (.enter f args) w := by
  unfold callK at h
  split at h
  · rename_i fn hf
    split at h
    · rename_i c hb
      obtain ⟨h1, h2⟩ := hE.fn _ _ hf
      refine ⟨h, fun args w => ?_⟩
      unfold callFunc
      simp only [Sem.run_bind, run_program, Result.andThen_ok, h1]
      have h3 : (fn.name == "runtime.NumGoroutine") = false := by simpa using h2
      simp [h3, hb]
    · exact absurd h.symm hr
  · exact absurd h.symm hr
theorem fn_con {σ : Sg} {g : FuncId} {first cap : Array Value} {V : Value} (h : Con σ (.func (.func g) first cap) V) :
    ∃ xs ys, V = .func (.func g) ⟨xs⟩ ⟨ys⟩ ∧ ConL σ first.toList xs ∧ ConL σ cap.toList ys := by
  cases h with
  | sc _ h => simp [Ex.scal] at h
  | fn f xs ys xs' ys' h1 h2 => exact ⟨xs', ys', rfl, h1, h2⟩
theorem yld_con {σ : Sg} {l : Nat} {first cap : Array Value} {V : Value} (h : Con σ (.func (.yield l) first cap) V) :
    ∃ lo xs ys, σ l = some lo ∧ V = .func (.yield lo.block) ⟨xs⟩ ⟨ys⟩ ∧ ConL σ first.toList xs ∧ ConL σ cap.toList ys := by
  cases h with
  | sc _ h => simp [Ex.scal] at h
  | yld r l xs ys xs' ys' h h1 h2 => exact ⟨l, xs', ys', h, rfl, h1, h2⟩
/-- A method is found. -/
theorem mth_ok (hE : EnvOK E) {t : TypeId} {name : String} {f : FuncId} (h : mth E t name = some f) (v : Value) (fuel : Nat) (w : World) : (method (fuel + 1) t v name).run E.P w = .ok (f, v) w := by
  unfold mth at h
  split at h
  · rename_i i hi
    split at h
    · rename_i m hm hagg
      split at h
      · rename_i hp hf
        simp at h
        subst h
        have h1 := hE.ty _ _ hi
        have hfind : i.methods.find? (fun m => m.name == name) = some m := by rw [← Array.find?_toList]; exact hm
        have hund : ∃ d, E.P.underlying t = some d ∧ (∀ e, d ≠ .pointer e) := by
          simp only [Bool.or_eq_true] at hagg
          rcases hagg with h | h
          · unfold Program.underlying
            rw [h1]
            obtain ⟨desc, _, _, _, _, _, _, _, _, _⟩ := i
            cases desc <;> simp [isAggD] at h <;> exact ⟨_, rfl, by simp⟩
          · cases hu : und E t with
            | none => rw [hu] at h; simp at h
            | some d => rw [hu] at h
                        cases d <;> simp at h
                        exact ⟨_, und_ok hE hu, by simp⟩
        obtain ⟨d, hd, hnp⟩ := hund
        unfold method
        simp only [Sem.run_bind, run_typeInfo w h1, Result.andThen_ok, hfind, hp, follow, Sem.run_pure, hf]
        unfold receiverAt
        simp only [Sem.run_bind, run_underlying hd, Result.andThen_ok]
        cases d <;> first | exact absurd rfl (hnp _) | rfl
      · simp at h
    · simp at h
  · simp at h
end op
end Go.Ex
namespace Go.Ex
open Go Go.RowKit
section op
variable {E : Env} (hE : EnvOK E) {B : Nat} {nest : Nest} (hN : NestOK E B nest) {tm : Tr Value} {H : Heap} {nx : Nat} {r : R}
theorem resolve_value {ρ : Operand → Value} {f : Operand} {args : Array Operand} {ats : Array TypeId} {ty : TypeId} {fn : Fn} {xs ys : List Value} (h : ρ f = .func fn ⟨xs⟩ ⟨ys⟩) (P : Program) (w : World) :
    (resolve ρ { callee := .value f, args, argTypes := ats } ty).run P w = .ok { target := .fn fn ⟨ys⟩, args := ⟨xs⟩ ++ args.map ρ } w := by
  unfold resolve Deferred.ofValue
  simp [h]
include hE hN in
theorem call_ok {o : Oper} {c : Call} (ho : o.op = .call c) (h : xl E nest (.call c) tm H nx = r) (hr : r ≠ .fail) : OpStep E B o tm H r := by
  have hnd : ∀ c, o.op ≠ .defer c := fun c e => by rw [ho] at e; cases e
  have hsel : ∀ cs b, o.op ≠ .select cs b := fun c b e => by rw [ho] at e; cases e
  have hex : ∀ ρ, execOp ρ o = (do let d ← resolve ρ c o.type; invoke d.target d.args) := fun ρ => by rw [exec_eq ho]; rfl
  obtain ⟨callee, args, ats⟩ := c
  unfold xl at h
  dsimp only at h
  cases callee with
  | value f =>
    dsimp only at h
    obtain ⟨fv, hf, h1⟩ := evK_some h hr
    clear h
    obtain ⟨vs, hv, h2⟩ := evLK_some h1 hr
    clear h1
    split at h2
    · rename_i g first cap
      obtain ⟨h3, h4⟩ := callK_some hE h2 hr
      refine OpStep.of_call hnd hr hN h3 fun {σ w nt a} rel ht => ?_
      obtain ⟨xs, ys, he, h5, h6⟩ := fn_con (evA_ok ht hf)
      refine ⟨xs ++ (args.toList.map a.eval ++ ys), h5.append ((hv ht).append h6), ?_⟩
      rw [hex]
      simp only [Sem.run_bind, resolve_value he, Result.andThen_ok, invoke]
      have harr : (⟨xs⟩ ++ args.map a.eval) ++ ⟨ys⟩ = (xs ++ (args.toList.map a.eval ++ ys)).toArray := by
        apply Array.toList_inj.1; simp
      rw [harr]
      exact h4 _ w
    · rename_i l first cap
      split at h2
      · rename_i hfi hca
        intro σ w nt b a k cs ops i rest hoi hw rel hB ht
        obtain ⟨lo, xs, ys, hl, he, h5, h6⟩ := yld_con (evA_ok ht hf)
        rw [hfi] at h5; rw [hca] at h6
        cases h5; cases h6
        have h7 := hN.yld h2 hr rel hB (hv ht) hl
        have hrun : ∀ {l2 fn tmps assign body}, (Instr.yield lo.block (args.toList.map a.eval).toArray).run E.P w = .ok (.round l2 fn tmps assign body) w → (execOp a.eval o).run E.P w = .ok (.round l2 fn tmps assign body) w := by
          intro l2 fn tmps assign body hy
          rw [hex]
          simp only [Sem.run_bind, resolve_value he, Result.andThen_ok, invoke]
          have harr : (⟨[]⟩ : Array Value) ++ args.map a.eval = (args.toList.map a.eval).toArray := by
            apply Array.toList_inj.1; simp
          rw [harr]; exact hy
        cases r with
        | fail => exact absurd rfl hr
        | vrec v H' nx' => exact h7.elim
        | val v H' nx' =>
          obtain ⟨τ, V, w', fn, tmps, assign, body, g1, g2, g3, g4, g5, g6⟩ := h7 (b.atR a (.inRegion ops (i :: rest) :: k)) cs
          refine ⟨τ, V, w', g1, g4, g2, g3, .head (stepR_round hoi hw hnd (hrun g5)) ?_⟩
          rw [finish_op hoi] at g6; exact g6
        | pan v H' nx' =>
          obtain ⟨τ, V, w', fn, tmps, assign, body, g1, g2, g3, g4, g5, g6⟩ := h7 (b.atR a (.inRegion ops (i :: rest) :: k)) cs
          refine ⟨τ, V, w', g1, g4, g2, g3, .head (stepR_round hoi hw hnd (hrun g5)) ?_⟩
          rw [Frame.raise_atR] at g6; exact g6
      · exact absurd h2.symm hr
    · exact absurd h2.symm hr
  | invoke recv name =>
    dsimp only at h
    obtain ⟨rv, hrv, h1⟩ := evK_some h hr
    clear h
    obtain ⟨vs, hv, h2⟩ := evLK_some h1 hr
    clear h1
    split at h2
    · rename_i t v
      split at h2
      · rename_i f hm
        obtain ⟨h3, h4⟩ := callK_some hE h2 hr
        refine OpStep.of_call hnd hr hN h3 fun {σ w nt a} rel ht => ?_
        have hc := evA_ok ht hrv
        generalize hX : a.eval recv = X at hc
        cases hc with
        | sc _ h => simp [Ex.scal] at h
        | iface _ _ v' hv' =>
          refine ⟨v' :: args.toList.map a.eval, .cons _ _ _ _ hv' (hv ht), ?_⟩
          rw [hex]
          unfold resolve
          simp only [Sem.run_bind, Sem.run_pure, Result.andThen_ok, hX, invoke]
          have h0 : (#[Value.iface t v'] ++ args.map a.eval)[0]? = some (.iface t v') := by rw [Array.getElem?_append_left (by simp)]; rfl
          rw [h0]
          unfold callMethod
          simp only [Sem.run_bind, run_program, Result.andThen_ok]
          rw [show E.P.types.size + Made.depth = (E.P.types.size + (Made.depth - 1)) + 1 by unfold Made.depth; omega]
          rw [mth_ok hE hm v' _ w]
          simp only [Result.andThen_ok]
          have harr : #[v'] ++ (#[Value.iface t v'] ++ args.map a.eval).extract 1 (#[Value.iface t v'] ++ args.map a.eval).size = (v' :: args.toList.map a.eval).toArray := by
            apply Array.toList_inj.1
            simp [List.extract]
            exact List.take_of_length_le (by simp)
          rw [harr]
          exact h4 _ w
      · exact absurd h2.symm hr
    · exact absurd h2.symm hr
  | builtin bi =>
    cases bi <;> try exact absurd h.symm hr
    case append =>
      try dsimp only at h
      split at h
      · rename_i s x st xt hargs hats
        obtain ⟨sv, hs, h1⟩ := evK_some h hr
        clear h
        obtain ⟨xv, hx, h2⟩ := evK_some h1 hr
        clear h1
        obtain ⟨v, H', nx', rfl, h3⟩ := appendK_ok hE h2 hr
        refine OpStep.of_lok hnd fun {B σ w nt a} o' ho' rel hB ht => ?_
        obtain ⟨τ, V, w', g1, g2, g3, g4, g5⟩ := h3 o'.type rel hB (evA_ok ht hs) (evA_ok ht hx)
        refine ⟨τ, V, w', g1, g2, g3, g4, .inl ?_⟩
        have hA : args = #[s, x] := Array.toList_inj.1 hargs
        have hT : ats = #[st, xt] := Array.toList_inj.1 hats
        rw [exec_eq (ho'.trans ho)]
        simp only [execOp, resolve, invoke, builtin, Sem.run_bind, Sem.run_pure, Result.andThen_ok]
        rw [hA, hT]
        rw [show Array.map a.eval #[s, x] = #[a.eval s, a.eval x] by simp]
        rw [g5]
        rfl
      · exact absurd h.symm hr
    case copy =>
      try dsimp only at h
      split at h
      · rename_i s x st ts hargs hats
        obtain ⟨sv, hs, h1⟩ := evK_some h hr
        clear h
        obtain ⟨xv, hx, h2⟩ := evK_some h1 hr
        clear h1
        obtain ⟨v, H', nx', rfl, h3⟩ := copyK_ok hE h2 hr
        refine OpStep.of_lok hnd fun {B σ w nt a} o' ho' rel hB ht => ?_
        obtain ⟨τ, V, w', g1, g2, g3, g4, g5⟩ := h3 o'.type ts rel hB (evA_ok ht hs) (evA_ok ht hx)
        refine ⟨τ, V, w', g1, g2, g3, g4, .inl ?_⟩
        have hA : args = #[s, x] := Array.toList_inj.1 hargs
        have hT : ats = ⟨st :: ts⟩ := Array.toList_inj.1 hats
        rw [exec_eq (ho'.trans ho)]
        simp only [execOp, resolve, invoke, builtin, Sem.run_bind, Sem.run_pure, Result.andThen_ok]
        rw [hA, hT]
        rw [show Array.map a.eval #[s, x] = #[a.eval s, a.eval x] by simp]
        rw [g5]
        rfl
      · exact absurd h.symm hr
include hE hN in
/-- Every operation but 'defer', 'panic', 'recover'. -/
theorem opR_ok {o : Oper} (h : opR E nest o tm H nx = r) (hr : r ≠ .fail) : OpStep E B o tm H r := by
  unfold opR at h
  split at h
  · rename_i hq
    obtain ⟨v, h1, h2⟩ := xq_ok hE h hr
    subst h1
    have hnd : ∀ c, o.op ≠ .defer c := fun c e => by rw [e] at hq; simp [isQ] at hq
    refine OpStep.of_lok hnd fun {B σ w nt a} o' ho' rel hB ht => ?_
    obtain ⟨V, h3, h4⟩ := h2 o' ho' rel ht
    exact ⟨σ, V, w, Sg.le_refl σ, h3, rel, Below.refl B w, .inl h4⟩
  · have lokc : ∀ {op : Op}, o.op = op → (∀ c, op ≠ .defer c) → (∃ v H' nx', r = .val v H' nx' ∧ LOK E op tm H v H') → OpStep E B o tm H r := by
      intro op ho hnd ⟨v, H', nx', hv, hl⟩
      subst hv
      subst ho
      exact OpStep.of_lok hnd hl
    cases hop : o.op with
    | alloc t => rw [hop] at h; exact lokc hop (by simp) (l_alloc hE h hr)
    | box t x => rw [hop] at h; exact lokc hop (by simp) (l_box h hr)
    | buildSlice t n ps => rw [hop] at h; exact lokc hop (by simp) (l_buildSlice hE h hr)
    | store t x y => rw [hop] at h; exact lokc hop (by simp) (l_store hE h hr)
    | convert s d x => rw [hop] at h; exact lokc hop (by simp) (l_convert hE h hr)
    | makeMap t x => rw [hop] at h; exact lokc hop (by simp) (l_makeMap h hr)
    | makeSlice t l c => rw [hop] at h; exact lokc hop (by simp) (l_makeSlice hE h hr)
    | mapUpdate t m k x => rw [hop] at h; exact lokc hop (by simp) (l_mapUpd hE (.inl rfl) h hr)
    | insert t m k x => rw [hop] at h; exact lokc hop (by simp) (l_mapUpd hE (.inr rfl) h hr)
    | call c => rw [hop] at h; exact call_ok hE hN hop h hr
    | _ => rw [hop] at h; exact absurd (show R.fail = r from h).symm hr
end op
end Go.Ex
namespace Go.Ex
open Go Go.RowKit

/-- What is to be done, abstractly and in the machine. -/
inductive ItRel (σ : Sg) : It → Item → Prop where
  | code (c : Code) : ItRel σ (.code c) (.code c)
  | inBlock (id : Nat) : ItRel σ (.inBlock id) (.inBlock id)
  | inLoop (c : Code) : ItRel σ (.inLoop c) (.inLoop c)
  | inScope (c : Code) : ItRel σ (.inScope c) (.inScope c)
  | inRegion (ops : Array Oper) (rest : List Oper) (is : List Nat) (h : is.map (fun i => ops[i]?) = rest.map some) : ItRel σ (.inRegion ops rest) (.inRegion ops is)
  | endRF (l : Nat) (lo : Loc) (h : σ l = some lo) : ItRel σ (.endRF l) (.endRangeFunc lo.block)
  | beginRound : ItRel σ .beginRound .beginRound
inductive TdRel (σ : Sg) : List It → List Item → Prop where
  | nil : TdRel σ [] []
  | cons (x : It) (y : Item) (xs : List It) (ys : List Item) (h : ItRel σ x y) (t : TdRel σ xs ys) : TdRel σ (x :: xs) (y :: ys)
inductive DsRel (σ : Sg) : List ADef → List Deferred → Prop where
  | nil : DsRel σ [] []
  | coll (r : Nat) (lo : Loc) (as : Array Value) (xs : List ADef) (ys : List Deferred) (h : σ r = some lo) (t : DsRel σ xs ys) : DsRel σ (.coll r :: xs) ({ target := .collected lo.block, args := as } :: ys)
  | fn (f : FuncId) (args : List Value) (as cap : Array Value) (xs : List ADef) (ys : List Deferred) (h : ConL σ args (as ++ cap).toList) (t : DsRel σ xs ys) : DsRel σ (.fn f args :: xs) ({ target := .fn (.func f) cap, args := as } :: ys)
theorem ItRel.mono {σ τ : Sg} (h : Sg.le σ τ) {x : It} {y : Item} (r : ItRel σ x y) : ItRel τ x y := by
  cases r with
  | code c => exact .code c
  | inBlock id => exact .inBlock id
  | inLoop c => exact .inLoop c
  | inScope c => exact .inScope c
  | inRegion ops rest is h => exact .inRegion ops rest is h
  | endRF l lo h' => exact .endRF l lo (h _ _ h')
  | beginRound => exact .beginRound
theorem TdRel.mono {σ τ : Sg} (h : Sg.le σ τ) {x : List It} {y : List Item} (r : TdRel σ x y) : TdRel τ x y := by
  induction r with
  | nil => exact .nil
  | cons x y xs ys h' t ih => exact .cons _ _ _ _ (h'.mono h) ih
theorem DsRel.mono {σ τ : Sg} (h : Sg.le σ τ) {x : List ADef} {y : List Deferred} (r : DsRel σ x y) : DsRel τ x y := by
  induction r with
  | nil => exact .nil
  | coll r lo as xs ys h' t ih => exact .coll r lo as xs ys (h _ _ h') ih
  | fn f args as cap xs ys h' t ih => exact .fn f args as cap xs ys (h'.mono h) ih

/-- The callers, as the frame's own 'recover' leaves them. -/
def curCs (fi : FI) (c : Frame) (cs : List Frame) (par : Option Value) (rc : Bool) : List Frame :=
  match fi.dfr with
  | true => { c with mode := parMode par rc } :: cs
  | false => (match fi.ro with | none => cs | some _ => c :: cs)

/-- The frame's own facts, which do not turn. 'dfr': the caller that is on its way out stands at the head; else whatever stands there. -/
structure SI (E : Env) (fi : FI) (σ : Sg) (b : Frame) (par : Option Value) : Prop where
  fn : b.fn = fi.fn
  kind : b.kind = (if fi.dfr then .deferred else .normal)
  round : match fi.ro with
    | none => b.roundOf = none ∧ ∃ f, E.P.funcs[fi.fn]? = some f ∧ f.results.toList = fi.results
    | some l => ∃ lo, σ l = some lo ∧ b.roundOf = some lo.block ∧ fi.dfr = false ∧ ∃ f, E.P.funcs[fi.fn]? = some f
  par : OptCon σ fi.par par
  parD : fi.dfr = false → fi.par = none
theorem SI.mono {E : Env} {fi : FI} {σ τ : Sg} (hle : Sg.le σ τ) {b : Frame} {par : Option Value} (h : SI E fi σ b par) : SI E fi τ b par := by
  refine ⟨h.fn, h.kind, ?_, ?_, h.parD⟩
  · have := h.round
    cases hr : fi.ro with
    | none => rw [hr] at this; exact this
    | some l => rw [hr] at this; obtain ⟨lo, h1, h2⟩ := this; exact ⟨lo, hle _ _ h1, h2⟩
  · have := h.par
    generalize fi.par = q at this ⊢
    cases q <;> cases par <;> first | trivial | exact this.elim | exact Con.mono hle this
/-- The frame's run is under way. -/
structure MR (E : Env) (B : Nat) (fi : FI) (σ : Sg) (b : Frame) (par : Option Value) (td : List It) (tm : Tr Value) (H : Heap) (ds : List ADef) (a : Act) (todo : List Item) (w : World) : Prop where
  si : SI E fi σ b par
  rel : Rel B σ H w
  hB : B ≤ w.heap.size
  tm : TRel σ tm fi.nt a.tmps
  td : TdRel σ td todo
  ds : DsRel σ ds a.defers
/-- What the frame comes to in the end. -/
def Ends (E : Env) (B : Nat) (fi : FI) (σ : Sg) (w : World) (c : Frame) (cs : List Frame) (par : Option Value) (m : Machine) : R → Prop
  | .val v H' _ => (match fi.ro with
    | none => ∃ τ V w' fr, Sg.le σ τ ∧ Rel B τ H' w' ∧ Below B w w' ∧ Con τ v V ∧ Steps E.P m (lone fr (curCs fi c cs par false) w') ∧ fr.fn = fi.fn ∧
        (match fi.dfr with | true => fr.kind = .deferred ∧ fr.going E.P w' (.returned V) | false => fr.leaving E.P w' (.returned V))
    | some _ => ∃ τ V w', Sg.le σ τ ∧ Rel B τ H' w' ∧ Below B w w' ∧ Con τ v V ∧ Steps E.P m (lone (c.finish V) cs w'))
  | .vrec _ H' _ => fi.dfr = true ∧ ∃ τ V w' fr, Sg.le σ τ ∧ Rel B τ H' w' ∧ Below B w w' ∧ par.isSome = true ∧ Steps E.P m (lone fr (curCs fi c cs par true) w') ∧ fr.kind = .deferred ∧ fr.going E.P w' (.returned V)
  | .pan v H' _ => (match fi.ro with
    | none => ∃ τ V w' fr, Sg.le σ τ ∧ Rel B τ H' w' ∧ Below B w w' ∧ Con τ v V ∧ Steps E.P m (lone fr (curCs fi c cs par false) w') ∧ fr.fn = fi.fn ∧
        (fi.dfr = false → fr.leaving E.P w' (.panicked [{ v := V, recovered := false }]))
    | some _ => ∃ τ V w', Sg.le σ τ ∧ Rel B τ H' w' ∧ Below B w w' ∧ Con τ v V ∧ Steps E.P m (lone (c.raise [{ v := V, recovered := false }]) cs w'))
  | .fail => False
theorem Ends.of_steps {E : Env} {B : Nat} {fi : FI} {σ τ : Sg} {w w1 : World} {c : Frame} {cs : List Frame} {par : Option Value} {m m1 : Machine} {r : R} (hle : Sg.le σ τ) (hb : Below B w w1) (hs : Steps E.P m m1)
    (h : Ends E B fi τ w1 c cs par m1 r) : Ends E B fi σ w c cs par m r := by
  cases r with
  | fail => exact h
  | val v H' nx' =>
    cases hro : fi.ro with
    | none =>
      simp only [Ends, hro] at h ⊢
      obtain ⟨τ', V, w', fr, h1, h2, h3, h4, h5, h6⟩ := h
      exact ⟨τ', V, w', fr, hle.trans' h1, h2, hb.trans h3, h4, Steps.trans hs h5, h6⟩
    | some l =>
      simp only [Ends, hro] at h ⊢
      obtain ⟨τ', V, w', h1, h2, h3, h4, h5⟩ := h
      exact ⟨τ', V, w', hle.trans' h1, h2, hb.trans h3, h4, Steps.trans hs h5⟩
  | vrec v H' nx' =>
    obtain ⟨h0, τ', V, w', fr, h1, h2, h3, h4, h5, h6⟩ := h
    exact ⟨h0, τ', V, w', fr, hle.trans' h1, h2, hb.trans h3, h4, Steps.trans hs h5, h6⟩
  | pan v H' nx' =>
    cases hro : fi.ro with
    | none =>
      simp only [Ends, hro] at h ⊢
      obtain ⟨τ', V, w', fr, h1, h2, h3, h4, h5, h6⟩ := h
      exact ⟨τ', V, w', fr, hle.trans' h1, h2, hb.trans h3, h4, Steps.trans hs h5, h6⟩
    | some l =>
      simp only [Ends, hro] at h ⊢
      obtain ⟨τ', V, w', h1, h2, h3, h4, h5⟩ := h
      exact ⟨τ', V, w', hle.trans' h1, h2, hb.trans h3, h4, Steps.trans hs h5⟩
end Go.Ex
namespace Go.Ex
open Go Go.RowKit
section unw
variable {E : Env} (hE : EnvOK E) {B : Nat} {nest : Nest} (hN : NestOK E B nest) {tm : Tr Value} {nx : Nat}

/-- One result variable, as 'results' reads it. -/
def resOne (tmps : Array Value) : ResultVar → Sem Value
  | .tmp t => pure (tmps.getD t undef)
  | .cell a t => do loadVar t (← asAddr (tmps.getD a undef))
include hE in
theorem resK_some : ∀ {rs : List ResultVar} {k : List Value → R} {H : Heap} {r : R}, resK E tm H rs k = r → r ≠ .fail →
    ∃ vs, vs.length = rs.length ∧ k vs = r ∧ ∀ {B : Nat} {σ : Sg} {w : World} {nt : Nat} {T : Array Value}, Rel B σ H w → TRel σ tm nt T → ∃ Vs, ConL σ vs Vs ∧ (rs.mapM (resOne T)).run E.P w = .ok Vs w := by
  intro rs
  induction rs with
  | nil => intro k H r h _; exact ⟨[], rfl, h, fun _ _ => ⟨[], .nil, rfl⟩⟩
  | cons x rs ih =>
    intro k H r h hr
    cases x with
    | tmp t =>
      unfold resK at h
      split at h
      · rename_i v hv
        obtain ⟨vs, hl, h1, h2⟩ := ih h hr
        refine ⟨v :: vs, by simp [hl], h1, fun {B σ w nt T} rel ht => ?_⟩
        obtain ⟨Vs, h3, h4⟩ := h2 rel ht
        obtain ⟨V, h5, h6⟩ := ht.some t v hv
        refine ⟨V :: Vs, .cons _ _ _ _ h6 h3, ?_⟩
        have h7 : T.getD t undef = V := by rw [Array.getD_eq_getD_getElem?, h5]; rfl
        simp [List.mapM_cons, resOne, h7, h4]
      · exact absurd h.symm hr
    | cell p t =>
      unfold resK at h
      split at h
      · rename_i b o i hv hi
        have addr : ∀ {B : Nat} {σ : Sg} {w : World} {nt : Nat} {T : Array Value}, Rel B σ H w → TRel σ tm nt T → ∃ l, σ b = some l ∧ T.getD p undef = .pointer (some ⟨l.block, l.shift + o, none⟩) := fun {B σ w nt T} rel ht => by
          obtain ⟨V, h5, h6⟩ := ht.some p _ hv
          obtain ⟨l, hl, he⟩ := ptr_con h6
          exact ⟨l, hl, by rw [Array.getD_eq_getD_getElem?, h5, ← he]; rfl⟩
        split at h
        · rename_i ha
          obtain ⟨_, us, hul, huc, h0⟩ := rdN_some h hr
          obtain ⟨vs, hl, h1, h2⟩ := ih h0 hr
          refine ⟨.agg us.toArray :: vs, by simp [hl], h1, fun {B σ w nt T} rel ht => ?_⟩
          obtain ⟨Vs, h3, h4⟩ := h2 rel ht
          obtain ⟨l, hl, he⟩ := addr rel ht
          obtain ⟨V, h5, h6⟩ := (loadVar_ok hE rel hi hl).2 ha us hul huc
          refine ⟨V :: Vs, .cons _ _ _ _ h5 h3, ?_⟩
          simp [List.mapM_cons, resOne, he, asAddr, h6, h4]
        · rename_i ha
          obtain ⟨v, huc, h0⟩ := rd1_some h hr
          obtain ⟨vs, hl, h1, h2⟩ := ih h0 hr
          refine ⟨v :: vs, by simp [hl], h1, fun {B σ w nt T} rel ht => ?_⟩
          obtain ⟨Vs, h3, h4⟩ := h2 rel ht
          obtain ⟨l, hl, he⟩ := addr rel ht
          obtain ⟨V, h5, h6⟩ := (loadVar_ok hE rel hi hl).1 ha v huc
          refine ⟨V :: Vs, .cons _ _ _ _ h5 h3, ?_⟩
          simp [List.mapM_cons, resOne, he, asAddr, h6, h4]
      · exact absurd h.symm hr
def resVal (vs : List Value) : Value := match vs with | [v] => v | vs => .tuple vs.toArray
theorem results_run {P : Program} {fn : Func} {T : Array Value} {w : World} {Vs : List Value} (h : (fn.results.toList.mapM (resOne T)).run P w = .ok Vs w) : (results fn T).run P w = .ok (resVal Vs) w := by
  have e : results fn T = (do let vs ← fn.results.mapM (resOne T); pure (if h : vs.size = 1 then vs[0] else .tuple vs)) := rfl
  rw [e, Array.mapM_eq_mapM_toList]
  simp only [Sem.run_bind, Sem.run_map, h, Result.andThen_ok, Sem.run_pure]
  congr 1
  match Vs with
  | [] => rfl
  | [v] => rfl
  | _ :: _ :: _ => simp [resVal]
theorem resVal_con {σ : Sg} {vs Vs : List Value} (h : ConL σ vs Vs) : Con σ (resVal vs) (resVal Vs) := by
  cases h with
  | nil => exact .tup _ _ .nil
  | cons v V xs Xs h t =>
    cases t with
    | nil => exact h
    | cons u U ys Ys h' t' => exact .tup _ _ (.cons _ _ _ _ h (.cons _ _ _ _ h' t'))
end unw
end Go.Ex
