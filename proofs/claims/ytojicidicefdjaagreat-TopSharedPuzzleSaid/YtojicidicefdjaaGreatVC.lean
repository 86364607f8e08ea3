/- Proved here, with no condition of its own: the executor over typed memory is right; calls by summary; closures. -/
import Derived.Test.YtojicidicefdjaaGreatVB
import Derived.LoopN
import Derived.Scope
import Derived.Test.YtojicidicefdjaaGreatExD
import Derived.Test.YtojicidicefdjaaGreatHA
/- Parts of slices; maps that are known entry by entry. -/
namespace Go.Vg
open Go Go.RowKit Go.Hs Go.Ty Go.Ex
noncomputable def bndS (σ : St) (x : Option Operand) (dflt : Tm) : Option Tm := match x with
  | none => some dflt
  | some x => match evS σ x with | some (.int _ t) => some t | _ => none
theorem bndS_ok {C : Cx} {E : Ev} {σ : St} {a : Act} {w : World} (h : Inv C E σ a w) {x : Option Operand} {dflt t : Tm} (hb : bndS σ x dflt = some t) : (x.map a.eval = none ∧ t = dflt) ∨ ∃ kd i, x.map a.eval = some (.int kd i) ∧ t.ev E.ρ = some i := by
  unfold bndS at hb
  split at hb
  · cases hb; exact .inl ⟨rfl, rfl⟩
  · split at hb
    · rename_i x _ k t' hx
      cases hb
      have h1 := evS_den h hx
      simp only [Den] at h1
      obtain ⟨n, h2, h3⟩ := h1
      exact .inr ⟨k, n, by simp [h3], h2⟩
    · cases hb
section
variable {E0 : Env} (hE0 : EnvOK E0)
include hE0
theorem op_slice_own {o : Oper} {σ : St} {t e : TypeId} {x : Operand} {lo hi : Option Operand} {id : Nat} {d : DT} {n l h : Tm} {j : AInfo}
    (ho : o.op = .slice t x lo hi none) (hx : evS σ x = some (.sl id .own d n)) (hu : und E0 t = some (.slice e)) (hj : inf E0 e = some j) (hds : d.size = j.size) (hl : bndS σ lo (.c 0) = some l) (hh : bndS σ hi n = some h)
    (g : Goal.ok ⟨σ.hy, .and (.le (.c 0) l) (.and (.le l h) (.le h n))⟩) : OpOK E0.P o σ [grown σ d (.sub h l)] := by
  refine opOK_pure fun C E a w hinv => ?_
  have h1 := evS_den hinv hx
  simp only [Den] at h1
  obtain ⟨_, u, kn, hu', hn, hat⟩ := h1
  obtain ⟨A, k, c, hev, k1, k2, k3, hown⟩ := at_ownSl hat
  have hkn : kn = (k : Int) := by omega
  subst hkn
  have gg := g (tot E.ρ) fun x hx => (hinv.hy x hx).2
  simp only [Hy.holds, Tm.val, ev_val hn] at gg
  have hle : ∃ lv : Int, l.ev E.ρ = some lv := by
    rcases bndS_ok hinv hl with ⟨_, e⟩ | ⟨_, i, _, e⟩
    · exact ⟨0, by rw [e]; rfl⟩
    · exact ⟨i, e⟩
  have hhe : ∃ hv : Int, h.ev E.ρ = some hv := by
    rcases bndS_ok hinv hh with ⟨_, e⟩ | ⟨_, i, _, e⟩
    · exact ⟨k, by rw [e]; exact hn⟩
    · exact ⟨i, e⟩
  obtain ⟨lv, hlv⟩ := hle
  obtain ⟨hv, hhv⟩ := hhe
  simp only [ev_val hlv, ev_val hhv] at gg
  obtain ⟨L, rfl⟩ := Int.eq_ofNat_of_zero_le gg.1
  obtain ⟨H, rfl⟩ := Int.eq_ofNat_of_zero_le (Int.le_trans gg.1 gg.2.1)
  have hLH : L ≤ H := by have := gg.2.1; omega
  have hHk : H ≤ k := by have := gg.2.2; omega
  have hkc : k ≤ c := by rcases hown with ⟨_, e1, e2⟩ | ⟨_, _, _, e, _⟩ <;> omega
  obtain ⟨tj, zj, dj, hjo, _, _⟩ := inf_ok hE0 hj
  have hus : u.size = j.size := (inst_size hu').trans hds
  have bounds : ∀ (bb : Bool), (Instr.sliceBounds bb k c (lo.map a.eval) (hi.map a.eval) none).run E0.P w = .ok (L, H, c) w := by
    intro bb
    refine run_sliceBounds E0.P w bb k c H L _ _ ?_ ?_
    · rcases bndS_ok hinv hh with ⟨e1, e2⟩ | ⟨kd, i, e1, e2⟩
      · subst e2
        rw [hn] at hhv
        exact .inl ⟨e1, by simp only [Option.some.injEq] at hhv; omega⟩
      · rw [hhv] at e2; cases e2
        exact .inr ⟨kd, e1, by omega⟩
    · rcases bndS_ok hinv hl with ⟨e1, e2⟩ | ⟨kd, i, e1, e2⟩
      · subst e2
        simp only [Tm.ev, Option.some.injEq] at hlv
        exact .inl ⟨e1, by omega⟩
      · rw [hlv] at e2; cases e2
        exact .inr ⟨kd, e1, hLH⟩
  have hev2 : (Tm.sub h l).ev E.ρ = some ((H - L : Nat) : Int) := by simp only [Tm.ev, hlv, hhv]; congr 1; omega
  by_cases hcl : c = L
  · have hs : OwnSl C u A (H - L) (c - L) := by
      rcases hown with ⟨e1, e2, e3⟩ | ⟨b, o', e1, e2, e3, e4, e5⟩
      · exact .inl ⟨e1, by omega, by omega⟩
      · refine .inr ⟨b, o', e1, by omega, e3, fun i hi => ?_, by have := e5.1; omega, fun i hi => ?_⟩
        · rw [show H - L = 0 by omega, Nat.zero_mul] at hi; omega
        · rw [show c - L = 0 by omega, Nat.zero_mul] at hi; omega
    obtain ⟨E', f1, f2, f3⟩ := grown_inv hinv hu' hev2 hs (by omega)
    refine ⟨.slice A (H - L) (c - L), _, _, ?_, List.mem_cons_self .., C, E', .refl _, f1, f2, f3⟩
    rw [exec_eq ho]
    simp only [execOp, Instr.sliceAt, Instr.slice, hev, und_run hE0 hu, Sem.run_bind, Result.andThen_ok, Option.map_none, bounds true, hjo.sizeOf, Sem.run_pure]
    rw [if_pos hcl]
  · rcases hown with ⟨e1, e2, e3⟩ | ⟨b, o', e1, e2, e3, e4, e5⟩
    · omega
    · subst e1
      have hs : OwnSl C u (some ⟨b, o' + L * j.size, none⟩) (H - L) (c - L) := by
        have key : ∀ m i, L + m ≤ m + L → i < m * u.size → L * u.size + i < (L + m) * u.size := fun m i _ hi => by rw [Nat.add_mul]; omega
        refine .inr ⟨b, _, rfl, by omega, e3, fun i hi => ?_, by have := e5.1; omega, fun i hi => ?_⟩
        · have h5 := key (H - L) i (by omega) hi
          have h6 : (L + (H - L)) * u.size ≤ k * u.size := Nat.mul_le_mul_right _ (by omega)
          have := e4 (L * u.size + i) (by omega)
          rw [← hus, Nat.add_assoc, this, show (L * u.size + i) % u.size = i % u.size by rw [Nat.mul_comm, Nat.mul_add_mod]]
        · have h5 := key (c - L) i (by omega) hi
          have h6 : (L + (c - L)) * u.size ≤ c * u.size := Nat.mul_le_mul_right _ (by omega)
          have := e5.2 (L * u.size + i) (by omega)
          rw [← hus, Nat.add_assoc, this, show (L * u.size + i) % u.size = i % u.size by rw [Nat.mul_comm, Nat.mul_add_mod]]
      obtain ⟨E', f1, f2, f3⟩ := grown_inv hinv hu' hev2 hs (by omega)
      refine ⟨.slice (some ⟨b, o' + L * j.size, none⟩) (H - L) (c - L), _, _, ?_, List.mem_cons_self .., C, E', .refl _, f1, f2, f3⟩
      rw [exec_eq ho]
      simp only [execOp, Instr.sliceAt, Instr.slice, hev, und_run hE0 hu, Sem.run_bind, Result.andThen_ok, Option.map_none, bounds true, hjo.sizeOf, Sem.run_pure]
      rw [if_neg hcl]
      simp [add_flat]
/-! maps that are known -/
omit hE0 in
theorem op_makeKMap {P : Program} {o : Oper} {σ : St} {t : TypeId} (ho : o.op = .makeMap t none) : OpOK P o σ [(.kmap σ.hp.length, addB σ (.kmap []))] := by
  refine opOK_step fun C E a w hinv => ?_
  obtain ⟨e1, e2, e3⟩ := new_inv hinv (x0 := .kmap []) (ob := .map #[] 0) (by show DenM C E [] [] ; rfl)
  refine ⟨.map (some w.heap.size), _, _, w.alloc (.map #[] 0), ?_, List.mem_cons_self .., C, _, .refl _, e1, e2, by simp only [Den]; exact ⟨_, e3, rfl⟩⟩
  rw [exec_eq ho]
  simp [execOp, Instr.makeMap]
omit hE0 in
theorem kmap_of {C : Cx} {E : Ev} {σ : St} {a : Act} {w : World} (h : Inv C E σ a w) {id : Nat} {l : List (SV × SV)} (hx : σ.hp[id]? = some (.kmap l)) : ∃ b es cl, E.b[id]? = some b ∧ w.heap[b]? = some (Obj.map es cl) ∧ DenM C E l es.toList := by
  obtain ⟨b, ob, h1, h2, h3, h4, h5, h6⟩ := h.hp id _ hx (by intro e; cases e)
  cases ob <;> first | exact h6.elim | skip
  exact ⟨b, _, _, h1, h5, h6⟩
/-- A string's entry. -/
def kfind (s : ByteArray) : List (SV × SV) → Option (Option (Nat × SV))
  | [] => some none
  | (.lit (.string t), x) :: r => (match leq beqU s.data.toList t.data.toList with
    | true => some (some (0, x))
    | false => (match kfind s r with | some (some (i, y)) => some (some (i + 1, y)) | some none => some none | none => none))
  | _ => none
omit hE0 in
theorem leq_ne {l : List UInt8} : ∀ {m : List UInt8}, leq beqU l m = false → l ≠ m := by
  induction l with
  | nil => intro m h e; subst e; simp [leq] at h
  | cons a l ih =>
    intro m h e
    subst e
    simp only [leq] at h
    split at h
    · exact ih h rfl
    · rename_i hb
      simp [beqU] at hb
omit hE0 in
theorem kfind_ok {C : Cx} {E : Ev} {s : ByteArray} : ∀ {l : List (SV × SV)} {es : List MapEntry} {r : Option (Nat × SV)} (i : Nat), DenM C E l es → kfind s l = some r →
    match r with
    | none => Instr.findNow .string (.string s) es i = some none
    | some (j, x) => ∃ e, Instr.findNow .string (.string s) es i = some (some (i + j, e.val)) ∧ es[j]? = some e ∧ Den C E x e.val := by
  intro l
  induction l with
  | nil => intro es r i h hk; cases hk; have h' : es = [] := h; subst h'; rfl
  | cons p l ih =>
    intro es r i h hk
    obtain ⟨k, x⟩ := p
    obtain ⟨e, q, rfl, h1, h2, h3⟩ := h
    unfold kfind at hk
    split at hk
    · cases ‹(k, x) :: l = []›
    · rename_i t y r' heq
      simp only [List.cons.injEq, Prod.mk.injEq] at heq
      obtain ⟨⟨rfl, rfl⟩, rfl⟩ := heq
      simp only [Den] at h1
      obtain ⟨hkey, _⟩ := h1
      unfold Instr.findNow
      rw [hkey]
      simp only [Instr.sameNow]
      split at hk
      · rename_i hb
        cases hk
        have hst : s = t := by
          have := Array.toList_inj.1 (leq_eq hb)
          cases s; cases t; simp only at this; rw [this]
        subst hst
        have : (s == s) = true := (MapKept.bytes_beq s s).2 rfl
        rw [this]
        exact ⟨e, by simp, rfl, h2⟩
      · rename_i hb
        have hne : s ≠ t := fun e => leq_ne hb (by rw [e])
        have : (s == t) = false := by
          cases hq : (s == t) with
          | false => rfl
          | true => exact absurd ((MapKept.bytes_beq s t).1 hq) hne
        rw [this]
        simp only
        split at hk
        · rename_i i' y' hk'
          cases hk
          obtain ⟨e', p1, p2, p3⟩ := ih (i + 1) h3 hk'
          exact ⟨e', by rw [p1, show i + 1 + i' = i + (i' + 1) by omega], by simpa using p2, p3⟩
        · rename_i hk'
          cases hk
          exact ih (i + 1) h3 hk'
        · cases hk
    · cases hk
omit hE0 in
theorem denM_snoc {C : Cx} {E : Ev} : ∀ {l : List (SV × SV)} {es : List MapEntry} {k x : SV} {e : MapEntry}, DenM C E l es → Den C E k e.key → Den C E x e.val → DenM C E (l ++ [(k, x)]) (es ++ [e]) := by
  intro l
  induction l with
  | nil => intro es k x e h h1 h2; have h' : es = [] := h; subst h'; exact ⟨e, [], rfl, h1, h2, rfl⟩
  | cons p l ih =>
    intro es k x e h h1 h2
    obtain ⟨e', r, rfl, q1, q2, q3⟩ := h
    exact ⟨e', r ++ [e], rfl, q1, q2, ih q3 h1 h2⟩
theorem op_insertK {o : Oper} {σ : St} {t kt et : TypeId} {m ix y : Operand} {id : Nat} {l : List (SV × SV)} {s : ByteArray} {sv : SV}
    (ho : o.op = .mapUpdate t m ix y ∨ o.op = .insert t m ix y) (hx : evS σ m = some (.kmap id)) (hi : evS σ ix = some (.lit (.string s))) (hy : evS σ y = some sv) (hl : σ.hp[id]? = some (.kmap l)) (ht : und E0 t = some (.map kt et)) (hk : und E0 kt = some .string) (hf : kfind s l = some none) :
    OpOK E0.P o σ [(.tup [], { σ with hp := σ.hp.set id (.kmap (l ++ [(.lit (.string s), sv)])) })] := by
  refine opOK_skip fun C E a w hinv => ?_
  have h1 := evS_den hinv hx
  have h2 := evS_den hinv hi
  have h3 := evS_den hinv hy
  simp only [Den] at h1 h2
  obtain ⟨b, hbb, hb1⟩ := h1
  obtain ⟨hkey, hone⟩ := h2
  obtain ⟨b', es, cl, q1, hh, q3⟩ := kmap_of hinv hl
  rw [hbb] at q1; cases q1
  have hfn := kfind_ok 0 q3 hf
  simp only at hfn
  have hlt : b < w.heap.size := (Array.getElem?_eq_some_iff.1 hh).1
  have hexec : (execOp a.eval o).run E0.P w = ((Instr.mapUpdate t (a.eval m) (a.eval ix) (a.eval y)).run E0.P w).andThen fun _ w' => .ok .skip w' := by
    rcases ho with ho | ho <;> (rw [exec_eq ho]; simp only [execOp, Sem.run_bind]; rfl)
  refine ⟨{ w with heap := w.heap.setIfInBounds b (.map (es.push { key := a.eval ix, val := a.eval y, born := cl }) (cl + 1)) }, ?_, C, E, .refl _, .refl _, setobj_inv hinv hl (by intro e; cases e) hbb (x1 := .kmap _) rfl rfl rfl (by simp) (fun k hk => set_heap_get k hk) (ob := .map (es.push { key := a.eval ix, val := a.eval y, born := cl }) (cl + 1)) (by show (w.heap.setIfInBounds b _)[b]? = _; simp [hlt]) ?_⟩
  · rw [hexec, hb1, hkey]
    simp [Instr.mapUpdate, run_underlying (und_ok hE0 ht), MapKept.run_getObj_map hh, MapKept.run_checkKey (k := .string s) (und_ok hE0 hk) trivial, MapKept.run_findKey (und_ok hE0 hk) hfn, MapKept.run_setObj_map _ hh, Result.andThen]
  · show DenM C E _ _
    rw [Array.toList_push]
    exact denM_snoc q3 (by simp only [Den]; exact ⟨hkey, hone⟩) h3
theorem op_lookupK {o : Oper} {σ : St} {t kt et : TypeId} {m ix : Operand} {id i : Nat} {l : List (SV × SV)} {s : ByteArray} {sv : SV}
    (ho : o.op = .lookup t m ix false) (hx : evS σ m = some (.kmap id)) (hi : evS σ ix = some (.lit (.string s))) (hl : σ.hp[id]? = some (.kmap l)) (ht : und E0 t = some (.map kt et)) (hk : und E0 kt = some .string) (hf : kfind s l = some (some (i, sv))) :
    OpOK E0.P o σ [(sv, σ)] := by
  refine opOK_pure fun C E a w hinv => ?_
  have h1 := evS_den hinv hx
  have h2 := evS_den hinv hi
  simp only [Den] at h1 h2
  obtain ⟨b, hbb, hb1⟩ := h1
  obtain ⟨hkey, hone⟩ := h2
  obtain ⟨b', es, cl, q1, hh, q3⟩ := kmap_of hinv hl
  rw [hbb] at q1; cases q1
  obtain ⟨e, p1, p2, p3⟩ := kfind_ok 0 q3 hf
  refine ⟨e.val, sv, σ, ?_, List.mem_cons_self .., C, E, .refl _, .refl _, hinv, p3⟩
  rw [exec_eq ho]
  simp only [execOp, Sem.run_bind]
  rw [hb1, hkey]
  simp [Instr.lookup, run_underlying (und_ok hE0 ht), MapKept.run_getObj_map hh, MapKept.run_checkKey (k := .string s) (und_ok hE0 hk) trivial, MapKept.run_findKey (und_ok hE0 hk) p1, Result.andThen]
end
end Go.Vg
/- Calls by what is known of them: the arguments, the results. -/
namespace Go.Vg
open Go Go.RowKit Go.Hs Go.Ty Go.Ex
/-- The arguments, as a call finds them: of each its type, and whether it is an aggregate. -/
def startA : List (DT × Bool) → St → Option (List SV × St)
  | [], σ => some ([], σ)
  | (d, b) :: r, σ => match freshOf σ d with
    | some (l, σ1) => (match packS b l, startA r σ1 with | some s, some (ss, σ2) => some (s :: ss, σ2) | _, _ => none)
    | none => none
def st0 : St := ⟨.nil, 0, [], 0, 0, [], [], []⟩
/-- The argument's value. -/
def ArgV (C : Cx) (d : DT × Bool) (v : Value) : Prop := ∃ u, d.1.inst [] = some u ∧ match d.2 with
  | true => ∃ cs, v = .agg cs ∧ cs.size = u.size ∧ At C u (fun j => cs[j]?)
  | false => u.size = 1 ∧ At C u (Ty.one v)
def ArgsV (C : Cx) : List (DT × Bool) → List Value → Prop
  | [], vs => vs = []
  | d :: r, vs => ∃ v l, vs = v :: l ∧ ArgV C d v ∧ ArgsV C r l
theorem startA_ok {C : Cx} {a : Act} {w : World} : ∀ {ds : List (DT × Bool)} {E : Ev} {σ σ' : St} {ss : List SV} {vs : List Value}, startA ds σ = some (ss, σ') → Inv C E σ a w → ArgsV C ds vs → ∃ E', E.le E' ∧ Inv C E' σ' a w ∧ DenL C E' ss vs := by
  intro ds
  induction ds with
  | nil =>
    intro E σ σ' ss vs h hi hv
    simp only [startA, Option.some.injEq, Prod.mk.injEq] at h
    obtain ⟨rfl, rfl⟩ := h
    have hv' : vs = [] := hv
    exact ⟨E, .refl _, hi, by rw [hv']; simp [DenL]⟩
  | cons x r ih =>
    obtain ⟨d, b⟩ := x
    intro E σ σ' ss vs h hi hv
    obtain ⟨v, l, rfl, ⟨u, hu, hx⟩, hr⟩ := hv
    simp only [startA] at h
    split at h
    · rename_i l1 σ1 hf
      split at h
      · rename_i s ss' σ2 hp hs
        simp only [Option.some.injEq, Prod.mk.injEq] at h
        obtain ⟨rfl, rfl⟩ := h
        have hu' : d.inst E.ρ = some u := by have := inst_grow (l := E.ρ) hu; simpa using this
        cases b with
        | true =>
          obtain ⟨cs, rfl, hcs, hat⟩ := hx
          obtain ⟨E1, e1, e2, us, e3, e4, e5⟩ := fresh_den hi hu' hat hf
          cases hp
          have hus : us = cs.toList := by
            apply List.ext_getElem?
            intro j
            rcases Nat.lt_or_ge j u.size with hj | hj
            · rw [← e5 j hj, Array.getElem?_toList]
            · rw [List.getElem?_eq_none (by omega), List.getElem?_eq_none (by simp; omega)]
          subst hus
          obtain ⟨E2, f1, f2, f3⟩ := ih hs e2 hr
          refine ⟨E2, e1.trans f1, f2, ?_⟩
          simp only [DenL]
          exact ⟨_, _, rfl, den_mono (.refl C) f1 _ _ (by simp only [Den]; exact ⟨cs, rfl, e3⟩), f3⟩
        | false =>
          obtain ⟨hsz, hat⟩ := hx
          obtain ⟨E1, e1, e2, us, e3, e4, e5⟩ := fresh_den hi hu' hat hf
          unfold packS at hp
          split at hp
          · rename_i h0; cases h0
          · split at hp
            · cases hp
              simp only [DenL] at e3
              obtain ⟨v', r', rfl, e6, rfl⟩ := e3
              have hv0 := e5 0 (by omega)
              have : v' = v := by simpa [Ty.one] using hv0.symm
              subst this
              obtain ⟨E2, f1, f2, f3⟩ := ih hs e2 hr
              refine ⟨E2, e1.trans f1, f2, ?_⟩
              simp only [DenL]
              exact ⟨_, _, rfl, den_mono (.refl C) f1 _ _ e6, f3⟩
            · cases hp
      · cases h
    · cases h
/-! results -/
/-- A part of the result within a type. -/
def fitR (σ : St) (d : DT × Bool) (s : SV) : Option (List Goal) := match d.2 with
  | true => (match s with
    | .agg l => (match fitL σ d.1 l with | some (gs, []) => some gs | _ => none)
    | _ => none)
  | false => fit1 σ d.1 s
def fitRs (σ : St) : List (DT × Bool) → List SV → Option (List Goal)
  | [], [] => some []
  | d :: r, s :: l => match fitR σ d s, fitRs σ r l with | some g, some g' => some (g ++ g') | _, _ => none
  | _, _ => none
def resParts : SV → List SV
  | .tup l => l
  | s => [s]
theorem fitR_ok {C : Cx} {E : Ev} {σ : St} (hh : Kn C E σ) {d : DT × Bool} {s : SV} {gs : List Goal} {v : Value} {u : T} (h : fitR σ d s = some gs) (hg : ∀ g ∈ gs, g.ok) (hu : d.1.inst E.ρ = some u) (hd : Den C E s v) :
    match d.2 with
    | true => ∃ cs, v = .agg cs ∧ cs.size = u.size ∧ At C u (fun j => cs[j]?)
    | false => u.size = 1 ∧ At C u (Ty.one v) := by
  unfold fitR at h
  split at h
  · rename_i hb
    split at h
    · rename_i l
      split at h
      · rename_i g hf
        cases h
        simp only [Den] at hd
        obtain ⟨cs, rfl, hl⟩ := hd
        obtain ⟨us, rs, h1, h2, h3, h4⟩ := fitL_ok hh hf hg hu hl
        simp only [DenL] at h4
        subst h4
        rw [List.append_nil] at h1
        refine ⟨cs, rfl, by rw [← h2, ← h1]; simp, (at_cells u _).2 fun j t hj => ?_⟩
        obtain ⟨v, q1, q2⟩ := h3 j t hj
        exact ⟨v, by rw [← h1, Array.getElem?_toList] at q1; exact q1, q2⟩
      · cases h
    · cases h
  · rename_i hb
    obtain ⟨q1, q2⟩ := fit1_ok hh h hg hu hd
    exact ⟨leaf_size q1, q2⟩
theorem fitRs_ok {C : Cx} {E : Ev} {σ : St} (hh : Kn C E σ) : ∀ {rs : List (DT × Bool)} {l : List SV} {gs : List Goal} {vs : List Value}, fitRs σ rs l = some gs → (∀ g ∈ gs, g.ok) → (∀ d ∈ rs, d.1.sc 0 = true) → DenL C E l vs → ArgsV C rs vs := by
  intro rs
  induction rs with
  | nil =>
    intro l gs vs h _ _ hd
    cases l with
    | nil => simp only [DenL] at hd; exact hd
    | cons _ _ => simp [fitRs] at h
  | cons d r ih =>
    intro l gs vs h hg hsc hd
    cases l with
    | nil => simp [fitRs] at h
    | cons s l =>
      simp only [fitRs] at h
      split at h
      · rename_i g g' h1 h2
        cases h
        simp only [DenL] at hd
        obtain ⟨v, q, rfl, hv, hq⟩ := hd
        obtain ⟨u, hu⟩ : ∃ u, d.1.inst ([] : List Int) = some u := sc_inst (hsc d (List.mem_cons_self ..))
        have hu' : d.1.inst E.ρ = some u := by have := inst_grow (l := E.ρ) hu; simpa using this
        exact ⟨v, q, rfl, ⟨u, hu, fitR_ok hh h1 (fun g hg' => hg g (List.mem_append_left _ hg')) hu' hv⟩, ih h2 (fun g hg' => hg g (List.mem_append_right _ hg')) (fun d hd => hsc d (List.mem_cons_of_mem _ hd)) hq⟩
      · cases h
/-! a call by its summary -/
def _root_.Go.Ty.T.mode (m : Md) : T → T
  | .sl _ lo hi t => .sl m lo hi (t.mode m)
  | .pair a b => .pair (a.mode m) (b.mode m)
  | .rep n t => .rep n (t.mode m)
  | .ptr t => .ptr t
  | .map k v => .map k v
  | .int k lo hi => .int k lo hi
  | .bool => .bool
  | .str => .str
  | .any => .any
  | .nil => .nil
def DT.mode (m : Md) : DT → DT
  | .sl _ lo hi t => .sl m lo hi (t.mode m)
  | .pair a b => .pair (a.mode m) (b.mode m)
  | .rep n t => .rep n (t.mode m)
  | .ptr t => .ptr t
  | .map k v => .map k v
  | .int k lo hi => .int k lo hi
  | .bool => .bool
  | .str => .str
  | .any => .any
  | .nil => .nil
theorem mode_inst (m : Md) {ρ : List Int} : ∀ {d : DT} {u : T}, d.inst ρ = some u → (d.mode m).inst ρ = some (u.mode m) := by
  intro d
  induction d with
  | sl m' lo hi t ih =>
    intro u h
    simp only [DT.inst] at h
    split at h
    · rename_i a b c ha hb hc
      cases h
      simp only [DT.mode, DT.inst, ha, hb, ih hc]; rfl
    · cases h
  | pair a b iha ihb =>
    intro u h
    simp only [DT.inst] at h
    split at h
    · rename_i x y hx hy
      cases h
      simp only [DT.mode, DT.inst, iha hx, ihb hy]; rfl
    · cases h
  | rep n t ih =>
    intro u h
    simp only [DT.inst, Option.map_eq_some_iff] at h
    obtain ⟨a, ha, rfl⟩ := h
    simp only [DT.mode, DT.inst, ih ha]; rfl
  | int k lo hi =>
    intro u h
    simp only [DT.inst] at h
    split at h
    · rename_i a b ha hb; cases h; simp only [DT.mode, DT.inst, ha, hb]; rfl
    · cases h
  | map k v _ _ =>
    intro u h
    simp only [DT.inst] at h
    split at h
    · rename_i a b ha hb; cases h; simp only [DT.mode, DT.inst, ha, hb]; rfl
    · cases h
  | ptr t _ =>
    intro u h
    simp only [DT.inst, Option.map_eq_some_iff] at h
    obtain ⟨a, ha, rfl⟩ := h
    simp only [DT.mode, DT.inst, ha]; rfl
  | bool | str | nil | any => intro u h; cases h; rfl
theorem mode_size (m : Md) : ∀ t : T, (t.mode m).size = t.size := by
  intro t
  induction t with
  | pair a b iha ihb => simp [T.mode, T.size, iha, ihb]
  | rep n t ih => simp [T.mode, T.size, ih]
  | _ => rfl
/-- No pointers, no maps. -/
def _root_.Go.Ty.T.plain : T → Bool
  | .ptr _ | .map _ _ => false
  | .sl _ _ _ t => t.plain && Nat.ble 1 t.size
  | .pair a b => a.plain && b.plain
  | .rep _ t => t.plain
  | _ => true
def DT.plain : DT → Bool
  | .ptr _ | .map _ _ => false
  | .sl _ _ _ t => t.plain && Nat.ble 1 t.size
  | .pair a b => a.plain && b.plain
  | .rep _ t => t.plain
  | _ => true
theorem plain_inst {ρ : List Int} : ∀ {d : DT} {u : T}, d.inst ρ = some u → d.plain = true → u.plain = true := by
  intro d
  induction d with
  | sl m' lo hi t ih =>
    intro u h hp
    simp only [DT.inst] at h
    split at h
    · rename_i a b c ha hb hc; cases h
      simp only [DT.plain, Bool.and_eq_true] at hp
      simp only [T.plain, ih hc hp.1, inst_size hc, hp.2, Bool.and_self]
    · cases h
  | pair a b iha ihb =>
    intro u h hp
    simp only [DT.plain, Bool.and_eq_true] at hp
    simp only [DT.inst] at h
    split at h
    · rename_i x y hx hy; cases h; simp only [T.plain, iha hx hp.1, ihb hy hp.2, Bool.and_self]
    · cases h
  | rep n t ih =>
    intro u h hp
    simp only [DT.inst, Option.map_eq_some_iff] at h
    obtain ⟨a, ha, rfl⟩ := h
    show a.plain = true
    exact ih ha hp
  | int k lo hi =>
    intro u h _
    simp only [DT.inst] at h
    split at h
    · cases h; rfl
    · cases h
  | map k v _ _ => intro u h hp; cases hp
  | ptr t _ => intro u h hp; cases hp
  | bool | str | nil | any => intro u h _; cases h; rfl
abbrev Cx0 (w : World) : Cx := ⟨w, fun _ _ => none, fun _ => none, fun _ _ => none⟩
/-- What a callee is handed was there before it. -/
theorem at_call {C : Cx} {w : World} (hw : WT C w) : ∀ (t : T), t.plain = true → ∀ {rd : Nat → Option Value}, At C t rd → At (Cx0 w) (t.mode .old) rd := by
  intro t
  induction t with
  | sl m lo hi t ih =>
    intro hp0 rd h
    simp only [T.plain, Bool.and_eq_true] at hp0
    obtain ⟨hp, hz⟩ := hp0
    have hz : 0 < t.size := Nat.le_of_ble_eq_true hz
    obtain ⟨A, n, c, h1, h2, h3, h4, h5⟩ := h
    refine ⟨A, n, c, h1, h2, h3, h4, .inr ⟨(by intro e; cases e), fun i hi => ?_⟩⟩
    rcases h5 with ⟨_, h5⟩ | ⟨_, h5⟩
    · rcases h5 with ⟨_, h6, _⟩ | ⟨b, o, e1, e2, e3, e4, _⟩
      · omega
      · have key : ∀ j y, t.cell j = some y → ∃ v, w.cell? ⟨b, o + (i * t.size + j), none⟩ = some v ∧ At C y (Ty.one v) := fun j y hj => by
          have hjs : j < t.size := (cell_some _ _).2 ⟨y, hj⟩
          have hlt : i * t.size + j < n * t.size := by
            have : (i + 1) * t.size ≤ n * t.size := Nat.mul_le_mul_right _ hi
            rw [Nat.succ_mul] at this; omega
          have := e4 _ hlt
          rw [show (i * t.size + j) % t.size = j by rw [Nat.mul_comm, Nat.mul_add_mod]; exact Nat.mod_eq_of_lt hjs, hj] at this
          obtain ⟨_, _, v, k1, _, k3⟩ := hw.cell _ _ _ this
          exact ⟨v, k1, k3⟩
        refine ⟨b, o, e1, ?_, ?_⟩
        · obtain ⟨y, hy⟩ := (cell_some t 0).1 hz
          obtain ⟨v, k1, _⟩ := key 0 y hy
          exact cell_lt' k1
        · rw [mode_size]
          exact ih hp ((at_cells _ _).2 fun j y hy => key j y hy)
    · obtain ⟨b, o, e1, e2, e3⟩ := h5 i hi
      refine ⟨b, o, e1, Nat.lt_of_lt_of_le e2 hw.below.size, ?_⟩
      rw [mode_size]
      refine ih hp ((at_cells _ _).2 fun j y hy => ?_)
      obtain ⟨v, k1, k2⟩ := (at_cells _ _).1 e3 j y hy
      exact ⟨v, (World.cell?_of_block (a := ⟨b, o + (i * t.size + j), none⟩) (hw.below.block b e2)).trans k1, k2⟩
  | pair a b iha ihb =>
    intro hp rd h
    simp only [T.plain, Bool.and_eq_true] at hp
    refine ⟨iha hp.1 h.1, ?_⟩
    have := ihb hp.2 h.2
    rw [mode_size]
    exact this
  | rep n t ih =>
    intro hp rd h i hi
    have := ih hp (h i hi)
    rw [mode_size]
    exact this
  | ptr t _ => intro hp; cases hp
  | map k v _ _ => intro hp; cases hp
  | int k lo hi => intro _ rd h; exact h
  | bool => intro _ rd h; exact h
  | str => intro _ rd h; exact h
  | any => intro _ rd h; exact h
  | nil => intro _ rd h; exact h
/-- What is read as of the one type may be read as of the other. -/
def _root_.Go.Ty.T.sub : T → T → Prop
  | .int k lo hi, .int k' lo' hi' => k = k' ∧ lo' ≤ lo ∧ hi ≤ hi'
  | .sl _ lo hi t, .sl _ lo' hi' t' => (∀ n, LoOK lo n → LoOK lo' n) ∧ hi ≤ hi' ∧ t.sub t'
  | .pair a b, .pair a' b' => a.sub a' ∧ b.sub b'
  | .rep n t, .rep n' t' => n = n' ∧ t.sub t'
  | .bool, .bool => True
  | .str, .str => True
  | .any, .any => True
  | .nil, .nil => True
  | _, _ => False
theorem sub_size : ∀ {s t : T}, s.sub t → s.size = t.size := by
  intro s
  induction s with
  | pair a b iha ihb =>
    intro t h
    cases t <;> simp only [T.sub] at h
    simp only [T.size, iha h.1, ihb h.2]
  | rep n a ih =>
    intro t h
    cases t <;> simp only [T.sub] at h
    simp only [T.size, h.1, ih h.2]
  | _ =>
    intro t h
    cases t <;> first | (simp only [T.sub] at h; done) | rfl
theorem at_sub {C : Cx} : ∀ {s t : T}, s.sub t → ∀ {rd : Nat → Option Value}, At C (s.mode .old) rd → At C (t.mode .old) rd := by
  intro s
  induction s with
  | pair a b iha ihb =>
    intro t h rd hat
    cases t <;> simp only [T.sub] at h
    refine ⟨iha h.1 hat.1, ?_⟩
    have := ihb h.2 hat.2
    rw [mode_size, sub_size h.1] at this
    rw [mode_size]; exact this
  | rep n a ih =>
    intro t h rd hat
    cases t <;> simp only [T.sub] at h
    intro i hi
    have := ih h.2 (hat i (by rw [h.1]; exact hi))
    rw [mode_size, sub_size h.2] at this
    rw [mode_size]; exact this
  | sl m lo hi a ih =>
    intro t h rd hat
    cases t <;> simp only [T.sub] at h
    obtain ⟨A, n, c, h1, h2, h3, h4, h5⟩ := hat
    refine ⟨A, n, c, h1, h.1 _ h2, Int.le_trans h3 h.2.1, h4, ?_⟩
    rcases h5 with ⟨h5, _⟩ | ⟨_, h5⟩
    · exact absurd rfl h5
    · refine .inr ⟨(by intro e; cases e), fun i hi => ?_⟩
      obtain ⟨b, o, e1, e2, e3⟩ := h5 i hi
      have := ih h.2.2 e3
      rw [mode_size, sub_size h.2.2] at this
      exact ⟨b, o, e1, e2, by rw [mode_size]; exact this⟩
  | int k lo hi =>
    intro t h rd hat
    cases t <;> simp only [T.sub] at h
    obtain ⟨rfl, h1, h2⟩ := h
    obtain ⟨x, q1, q2, q3⟩ := hat
    exact ⟨x, q1, Int.le_trans h1 q2, Int.le_trans q3 h2⟩
  | bool => intro t h rd hat; cases t <;> simp only [T.sub] at h; exact hat
  | str => intro t h rd hat; cases t <;> simp only [T.sub] at h; exact hat
  | any => intro t h rd hat; cases t <;> simp only [T.sub] at h; exact hat
  | nil => intro t h rd hat; cases t <;> simp only [T.sub] at h; exact hat
  | ptr a _ => intro t h; cases t <;> simp only [T.sub] at h
  | map k v _ _ => intro t h; cases t <;> simp only [T.sub] at h
def wkO (hy : List Hy) : DT → DT → Option (List Goal)
  | .int k lo hi, .int k' lo' hi' => match kbeq k k' with | true => some [⟨hy, .le lo' lo⟩, ⟨hy, .le hi hi'⟩] | false => none
  | .sl _ lo hi t, .sl _ lo' hi' t' => match wkO hy t t' with | some l => some (⟨hy, wkLo lo' lo⟩ :: ⟨hy, .le hi hi'⟩ :: l) | none => none
  | .pair a b, .pair a' b' => match wkO hy a a', wkO hy b b' with | some x, some y => some (x ++ y) | _, _ => none
  | .rep n t, .rep n' t' => match Nat.beq n n' with | true => wkO hy t t' | false => none
  | .bool, .bool | .str, .str | .any, .any | .nil, .nil => some []
  | _, _ => none
theorem wkO_ok {hy : List Hy} {ρ : List Int} (hh : ∀ x ∈ hy, x.holds (tot ρ)) : ∀ {s t : DT} {l : List Goal} {u v : T}, wkO hy s t = some l → (∀ g ∈ l, g.ok) → s.inst ρ = some u → t.inst ρ = some v → u.sub v := by
  intro s
  induction s with
  | int k lo hi =>
    intro t l u v h hg hu hv
    cases t <;> simp only [wkO] at h <;> try (cases h; done)
    split at h
    · rename_i hk
      cases h
      simp only [DT.inst] at hu hv
      split at hu
      · rename_i a b ha hb
        split at hv
        · rename_i c d hc hd
          cases hu; cases hv
          have g1 := hg _ (List.mem_cons_self ..) (tot ρ) hh
          have g2 := hg _ (List.mem_cons_of_mem _ (List.mem_cons_self ..)) (tot ρ) hh
          simp only [Hy.holds, ev_val ha, ev_val hb, ev_val hc, ev_val hd] at g1 g2
          exact ⟨kbeq_eq hk, g1, g2⟩
        · cases hv
      · cases hu
    · cases h
  | sl m lo hi a ih =>
    intro t l u v h hg hu hv
    cases t <;> simp only [wkO] at h <;> try (cases h; done)
    split at h
    · rename_i l' hl
      cases h
      simp only [DT.inst] at hu hv
      split at hu
      · rename_i x y z hx hy' hz
        split at hv
        · rename_i x' y' z' hx' hy2 hz'
          cases hu; cases hv
          have g1 := hg _ (List.mem_cons_self ..) (tot ρ) hh
          have g2 := hg _ (List.mem_cons_of_mem _ (List.mem_cons_self ..)) (tot ρ) hh
          have g1 := fun n hn => wkLo_ok g1 (n := n) hn
          simp only [ev_val hx, ev_val hx'] at g1
          simp only [Hy.holds, ev_val hy', ev_val hy2] at g2
          exact ⟨g1, g2, ih hl (fun g hgm => hg g (List.mem_cons_of_mem _ (List.mem_cons_of_mem _ hgm))) hz hz'⟩
        · cases hv
      · cases hu
    · cases h
  | pair a b iha ihb =>
    intro t l u v h hg hu hv
    cases t <;> simp only [wkO] at h <;> try (cases h; done)
    split at h
    · rename_i x y hx hy'
      cases h
      obtain ⟨u1, u2, e1, e2, rfl⟩ := inst_pair hu
      obtain ⟨v1, v2, f1, f2, rfl⟩ := inst_pair hv
      exact ⟨iha hx (fun g hgm => hg g (List.mem_append_left _ hgm)) e1 f1, ihb hy' (fun g hgm => hg g (List.mem_append_right _ hgm)) e2 f2⟩
    · cases h
  | rep n a ih =>
    intro t l u v h hg hu hv
    cases t <;> simp only [wkO] at h <;> try (cases h; done)
    split at h
    · rename_i hn
      simp only [DT.inst, Option.map_eq_some_iff] at hu hv
      obtain ⟨x, hx, rfl⟩ := hu
      obtain ⟨y, hy', rfl⟩ := hv
      exact ⟨Nat.eq_of_beq_eq_true hn, ih h hg hx hy'⟩
    · cases h
  | bool => intro t l u v h hg hu hv; cases t <;> first | (simp only [wkO] at h; cases h; done) | (cases hu; cases hv; trivial)
  | str => intro t l u v h hg hu hv; cases t <;> first | (simp only [wkO] at h; cases h; done) | (cases hu; cases hv; trivial)
  | any => intro t l u v h hg hu hv; cases t <;> first | (simp only [wkO] at h; cases h; done) | (cases hu; cases hv; trivial)
  | nil => intro t l u v h hg hu hv; cases t <;> first | (simp only [wkO] at h; cases h; done) | (cases hu; cases hv; trivial)
  | ptr a _ => intro t l u v h; cases t <;> simp only [wkO] at h <;> cases h
  | map k v _ _ => intro t l u v h; cases t <;> simp only [wkO] at h <;> cases h
/-- One cell that is handed to a callee. -/
def fitA1 (hy : List Hy) (d : DT) (s : SV) : Option (List Goal) := match d, s with
  | .int k lo hi, .int k' x => match kbeq k' k with | true => some [⟨hy, .le lo x⟩, ⟨hy, .le x hi⟩] | false => none
  | .bool, .bool _ | .bool, .cmp _ | .str, .str => some []
  | .sl _ lo hi t, .sl _ _ t' n => match wkO hy t' t, t'.plain && Nat.ble 1 t'.size with | some l, true => some (⟨hy, loG lo n⟩ :: ⟨hy, .le n hi⟩ :: l) | _, _ => none
  | .sl _ lo hi _, .nilv 0 => some [⟨hy, loG lo (.c 0)⟩, ⟨hy, .le (.c 0) hi⟩]
  | _, _ => none
theorem fitA1_ok {C : Cx} {E : Ev} {w : World} (hw : WT C w) {hy : List Hy} (hh : ∀ x ∈ hy, x.holds (tot E.ρ)) {d : DT} {s : SV} {gs : List Goal} {u : T} {v : Value} (hf : fitA1 hy d s = some gs) (hg : ∀ g ∈ gs, g.ok) (hu : d.inst E.ρ = some u) (hd : Den C E s v) :
    u.leaf = true ∧ At (Cx0 w) (u.mode .old) (Ty.one v) := by
  unfold fitA1 at hf
  split at hf
  · rename_i k lo hi k' x
    split at hf
    · rename_i hk
      cases hf
      simp only [DT.inst] at hu
      split at hu
      · rename_i a b ha hb
        cases hu
        simp only [Den] at hd
        obtain ⟨n, hn, rfl⟩ := hd
        have g1 := hg _ (List.mem_cons_self ..) (tot E.ρ) hh
        have g2 := hg _ (List.mem_cons_of_mem _ (List.mem_cons_self ..)) (tot E.ρ) hh
        simp only [Hy.holds, ev_val ha, ev_val hb, ev_val hn] at g1 g2
        rw [kbeq_eq hk]
        exact ⟨rfl, n, rfl, g1, g2⟩
      · cases hu
    · cases hf
  · cases hu; simp only [Den] at hd; subst hd; exact ⟨rfl, _, rfl⟩
  · cases hu; simp only [Den] at hd; obtain ⟨b, rfl, _⟩ := hd; exact ⟨rfl, _, rfl⟩
  · cases hu; simp only [Den] at hd; obtain ⟨b, rfl⟩ := hd; exact ⟨rfl, _, rfl⟩
  · rename_i _ lo hi t _ m t' n
    split at hf
    · rename_i l hl hp
      cases hf
      rw [Bool.and_eq_true] at hp
      simp only [DT.inst] at hu
      split at hu
      · rename_i a b c ha hb hc
        cases hu
        simp only [Den] at hd
        obtain ⟨_, u', k, hu', hk, hat⟩ := hd
        have g1 := hg _ (List.mem_cons_self ..) (tot E.ρ) hh
        have g2 := hg _ (List.mem_cons_of_mem _ (List.mem_cons_self ..)) (tot E.ρ) hh
        simp only [Hy.holds, loG_holds, ev_val ha, ev_val hb, ev_val hk] at g1 g2
        have hsub := wkO_ok hh hl (fun g hgm => hg g (List.mem_cons_of_mem _ (List.mem_cons_of_mem _ hgm))) hu' hc
        have hpl : (T.sl m k k u').plain = true := by
          simp only [T.plain, Bool.and_eq_true]
          exact ⟨plain_inst hu' hp.1, by rw [inst_size hu']; exact hp.2⟩
        have h1 := at_call hw (.sl m k k u') hpl hat
        have h2 : At (Cx0 w) ((T.sl m a b u').mode .old) (Ty.one v) := at_sl_widen h1 (by rfl) g1 g2
        have h3 : At (Cx0 w) ((T.sl m a b c).mode .old) (Ty.one v) := at_sub (s := .sl m a b u') (t := .sl m a b c) (show _ ∧ _ ∧ _ from ⟨fun _ h => h, Int.le_refl _, hsub⟩) h2
        exact ⟨rfl, h3⟩
      · cases hu
    · cases hf
  · cases hf
    simp only [DT.inst] at hu
    split at hu
    · rename_i a b c ha hb hc
      cases hu
      simp only [Den, nilVal] at hd
      subst hd
      have g1 := hg _ (List.mem_cons_self ..) (tot E.ρ) hh
      have g2 := hg _ (List.mem_cons_of_mem _ (List.mem_cons_self ..)) (tot E.ρ) hh
      simp only [Hy.holds, loG_holds, ev_val ha, ev_val hb, Tm.val] at g1 g2
      exact ⟨rfl, none, 0, 0, rfl, g1, g2, Nat.zero_le _, .inr ⟨(by intro e; cases e), fun i hi => absurd hi (Nat.not_lt_zero _)⟩⟩
    · cases hu
  · cases hf
/-- Cells that are handed to a callee. -/
def fitAL (hy : List Hy) : DT → List SV → Option (List Goal × List SV)
  | .pair a b, l => (match fitAL hy a l with
    | some (g, r) => (match fitAL hy b r with | some (g', r') => some (g ++ g', r') | none => none)
    | none => none)
  | .nil, l => some ([], l)
  | .rep _ _, _ => none
  | d, s :: l => match fitA1 hy d s with | some g => some (g, l) | none => none
  | _, [] => none
theorem fitAL_ok {C : Cx} {E : Ev} {w : World} (hw : WT C w) {hy : List Hy} (hh : ∀ x ∈ hy, x.holds (tot E.ρ)) : ∀ {d : DT} {l r : List SV} {gs : List Goal} {u : T} {vs : List Value}, fitAL hy d l = some (gs, r) → (∀ g ∈ gs, g.ok) → d.inst E.ρ = some u → DenL C E l vs →
    ∃ us rs, vs = us ++ rs ∧ us.length = u.size ∧ At (Cx0 w) (u.mode .old) (fun j => us[j]?) ∧ DenL C E r rs := by
  intro d
  have leafcase : ∀ {d : DT} {l r : List SV} {gs : List Goal} {u : T} {vs : List Value}, (match l with | s :: r' => (match fitA1 hy d s with | some g => some (g, r') | none => none) | [] => none) = some (gs, r) → (∀ g ∈ gs, g.ok) → d.inst E.ρ = some u → DenL C E l vs →
      ∃ us rs, vs = us ++ rs ∧ us.length = u.size ∧ At (Cx0 w) (u.mode .old) (fun j => us[j]?) ∧ DenL C E r rs := by
    intro d l r gs u vs h hg hu hd
    cases l with
    | nil => cases h
    | cons s l =>
      split at h
      · rename_i heq
        cases heq
        split at h
        · rename_i g hf
          cases h
          simp only [DenL] at hd
          obtain ⟨v, rs, rfl, h1, h2⟩ := hd
          obtain ⟨q1, q2⟩ := fitA1_ok hw hh hf hg hu h1
          refine ⟨[v], rs, rfl, by rw [leaf_size q1]; rfl, ?_, h2⟩
          refine (at_cells _ _).2 fun j t hj => ?_
          obtain ⟨v', p1, p2⟩ := (at_cells _ _).1 q2 j t hj
          have hj0 : j = 0 := by
            have := (cell_some _ _).2 ⟨t, hj⟩
            rw [mode_size, leaf_size q1] at this
            omega
          subst hj0
          exact ⟨v', by simpa [Ty.one] using p1, p2⟩
        · cases h
      · cases h
  induction d with
  | pair a b iha ihb =>
    intro l r gs u vs h hg hu hd
    simp only [fitAL] at h
    split at h
    · rename_i g r1 h1
      split at h
      · rename_i g' r2 h2
        cases h
        obtain ⟨x, y, e1, e2, rfl⟩ := inst_pair hu
        obtain ⟨us, rs, rfl, a1, a2, a3⟩ := iha h1 (fun q hq => hg q (List.mem_append_left _ hq)) e1 hd
        obtain ⟨us2, rs2, rfl, b1, b2, b3⟩ := ihb h2 (fun q hq => hg q (List.mem_append_right _ hq)) e2 a3
        refine ⟨us ++ us2, rs2, by rw [List.append_assoc], by rw [List.length_append, a1, b1]; rfl, ⟨?_, ?_⟩, b3⟩
        · refine (at_cells _ _).2 fun j t hj => ?_
          obtain ⟨v, p1, p2⟩ := (at_cells _ _).1 a2 j t hj
          exact ⟨v, by rw [List.getElem?_append_left (List.getElem?_eq_some_iff.1 p1).1]; exact p1, p2⟩
        · refine (at_cells _ _).2 fun j t hj => ?_
          obtain ⟨v, p1, p2⟩ := (at_cells _ _).1 b2 j t hj
          refine ⟨v, ?_, p2⟩
          show (us ++ us2)[(x.mode .old).size + j]? = some v
          rw [mode_size, ← a1, List.getElem?_append_right (by omega), Nat.add_sub_cancel_left]; exact p1
      · cases h
    · cases h
  | nil =>
    intro l r gs u vs h hg hu hd
    cases hu
    cases h
    exact ⟨[], vs, rfl, rfl, trivial, hd⟩
  | rep n t _ => intro l r gs u vs h; simp [fitAL] at h
  | _ => intro l r gs u vs h hg hu hd; exact leafcase (by cases l <;> first | (simp [fitAL] at h; done) | simpa [fitAL] using h) hg hu hd
def fitA (hy : List Hy) (d : DT × Bool) (s : SV) : Option (List Goal) := match d.2 with
  | true => (match s with
    | .agg l => (match fitAL hy d.1 l with | some (gs, []) => some gs | _ => none)
    | .agt t => (match t.plain with | true => wkO hy t d.1 | false => none)
    | _ => none)
  | false => fitA1 hy d.1 s
def fitAs (hy : List Hy) : List (DT × Bool) → List SV → Option (List Goal)
  | [], [] => some []
  | d :: r, s :: l => match fitA hy d s, fitAs hy r l with | some g, some g' => some (g ++ g') | _, _ => none
  | _, _ => none
def modeP (m : Md) (d : DT × Bool) : DT × Bool := (d.1.mode m, d.2)
theorem fitAs_ok {C : Cx} {E : Ev} {w : World} (hw : WT C w) {hy : List Hy} (hh : ∀ x ∈ hy, x.holds (tot E.ρ)) : ∀ {ds : List (DT × Bool)} {l : List SV} {gs : List Goal} {vs : List Value}, fitAs hy ds l = some gs → (∀ g ∈ gs, g.ok) → ds.all (fun d => d.1.sc 0) = true → DenL C E l vs → ArgsV (Cx0 w) (ds.map (modeP .old)) vs := by
  intro ds
  induction ds with
  | nil =>
    intro l gs vs h _ _ hd
    cases l with
    | nil => simp only [DenL] at hd; exact hd
    | cons _ _ => simp [fitAs] at h
  | cons d r ih =>
    intro l gs vs h hg hsc hd
    cases l with
    | nil => simp [fitAs] at h
    | cons s l =>
      simp only [fitAs] at h
      split at h
      · rename_i g g' h1 h2
        cases h
        rw [List.all_cons, Bool.and_eq_true] at hsc
        simp only [DenL] at hd
        obtain ⟨v, q, rfl, hv, hq⟩ := hd
        obtain ⟨u, hu⟩ : ∃ u, d.1.inst ([] : List Int) = some u := sc_inst hsc.1
        have hu' : d.1.inst E.ρ = some u := by have := inst_grow (l := E.ρ) hu; simpa using this
        refine ⟨v, q, rfl, ⟨u.mode .old, mode_inst .old hu, ?_⟩, ih h2 (fun g hg' => hg g (List.mem_append_right _ hg')) hsc.2 hq⟩
        have hg1 : ∀ g0 ∈ g, g0.ok := fun g hg' => hg g (List.mem_append_left _ hg')
        show (match d.2 with
          | true => ∃ cs, v = .agg cs ∧ cs.size = (u.mode .old).size ∧ At (Cx0 w) (u.mode .old) (fun j => cs[j]?)
          | false => (u.mode .old).size = 1 ∧ At (Cx0 w) (u.mode .old) (Ty.one v))
        unfold fitA at h1
        split at h1
        · rename_i hb
          split at h1
          · rename_i l'
            split at h1
            · rename_i gs' hf
              cases h1
              simp only [Den] at hv
              obtain ⟨cs, rfl, hl⟩ := hv
              obtain ⟨us, rs, k1, k2, k3, k4⟩ := fitAL_ok hw hh hf hg1 hu' hl
              simp only [DenL] at k4
              subst k4
              rw [List.append_nil] at k1
              refine ⟨cs, rfl, by rw [mode_size, ← k2, ← k1]; simp, (at_cells _ _).2 fun j t hj => ?_⟩
              obtain ⟨v, p1, p2⟩ := (at_cells _ _).1 k3 j t hj
              exact ⟨v, by rw [← k1, Array.getElem?_toList] at p1; exact p1, p2⟩
            · cases h1
          · rename_i t
            split at h1
            · rename_i hp
              simp only [Den] at hv
              obtain ⟨u0, cs, e1, rfl, e2, e3⟩ := hv
              have hsub := wkO_ok hh h1 hg1 e1 hu'
              exact ⟨cs, rfl, by rw [mode_size, ← sub_size hsub]; exact e2, at_sub hsub (at_call hw u0 (plain_inst e1 hp) e3)⟩
            · cases h1
          · cases h1
        · rename_i hb
          obtain ⟨q1, q2⟩ := fitA1_ok hw hh h1 hg1 hu' hv
          exact ⟨by rw [mode_size]; exact leaf_size q1, q2⟩
      · cases h
/-- The call's own alone. -/
def _root_.Go.Ty.T.ownB : T → Bool
  | .sl .own _ _ t => t.ownB
  | .pair a b => a.ownB && b.ownB
  | .rep _ t => t.ownB
  | .int .. | .bool | .str | .nil => true
  | _ => false
def DT.ownB : DT → Bool
  | .sl .own _ _ t => t.ownB
  | .pair a b => a.ownB && b.ownB
  | .rep _ t => t.ownB
  | .int .. | .bool | .str | .nil => true
  | _ => false
theorem ownB_inst {ρ : List Int} : ∀ {d : DT} {u : T}, d.inst ρ = some u → d.ownB = true → u.ownB = true := by
  intro d
  induction d with
  | sl m' lo hi t ih =>
    intro u h hp
    simp only [DT.inst] at h
    split at h
    · rename_i a b c ha hb hc
      cases h
      cases m' with
      | own => show c.ownB = true; exact ih hc hp
      | old => cases hp
      | any => cases hp
    · cases h
  | pair a b iha ihb =>
    intro u h hp
    simp only [DT.ownB, Bool.and_eq_true] at hp
    simp only [DT.inst] at h
    split at h
    · rename_i x y hx hy; cases h; simp only [T.ownB, iha hx hp.1, ihb hy hp.2, Bool.and_self]
    · cases h
  | rep n t ih =>
    intro u h hp
    simp only [DT.inst, Option.map_eq_some_iff] at h
    obtain ⟨a, ha, rfl⟩ := h
    show a.ownB = true
    exact ih ha hp
  | int k lo hi =>
    intro u h _
    simp only [DT.inst] at h
    split at h
    · cases h; rfl
    · cases h
  | map k v _ _ => intro u h hp; cases hp
  | ptr t _ => intro u h hp; cases hp
  | any => intro u h hp; cases hp
  | bool | str | nil => intro u h _; cases h; rfl
theorem ownB_cell : ∀ (t : T) (j : Nat) (u : T), t.ownB = true → t.cell j = some u → u.ownB = true := by
  intro t
  induction t with
  | pair a b iha ihb =>
    intro j u h hc
    simp only [T.ownB, Bool.and_eq_true] at h
    unfold T.cell at hc
    split at hc
    · exact iha _ _ h.1 hc
    · exact ihb _ _ h.2 hc
  | rep n t ih =>
    intro j u h hc
    unfold T.cell at hc
    split at hc
    · exact ih _ _ h hc
    · cases hc
  | nil => intro j u _ hc; simp [T.cell] at hc
  | _ =>
    intro j u h hc
    simp only [T.cell] at hc
    split at hc
    · cases hc; exact h
    · cases hc
noncomputable def keepT : Option T → Option T
  | some t => if t.ownB then some t else none
  | none => none
theorem keepT_some {x : Option T} {t : T} : keepT x = some t ↔ x = some t ∧ t.ownB = true := by
  cases x with
  | none => simp [keepT]
  | some u =>
    simp only [keepT]
    split
    · rename_i h; constructor
      · intro e; cases e; exact ⟨rfl, h⟩
      · rintro ⟨e, _⟩; exact e
    · rename_i h; constructor
      · intro e; cases e
      · rintro ⟨e, h2⟩; cases e; exact absurd h2 h
/-- The caller's memory and what the callee has made. -/
noncomputable def joinC (C D : Cx) : Cx where
  w0 := C.w0
  S b o := if b < D.w0.heap.size then C.S b o else keepT (D.S b o)
  M b := if b < D.w0.heap.size then C.M b else none
  R b o := if b < D.w0.heap.size then C.R b o else keepT (D.R b o)
theorem at_join {C D : Cx} (hsz : C.w0.heap.size ≤ D.w0.heap.size) : ∀ (t : T), t.ownB = true → ∀ {rd : Nat → Option Value}, At D t rd → At (joinC C D) t rd := by
  intro t
  induction t with
  | sl m lo hi t ih =>
    intro ho rd h
    cases m with
    | old => cases ho
    | any => cases ho
    | own =>
      have ho' : t.ownB = true := ho
      obtain ⟨A, n, c, h1, h2, h3, h4, h5⟩ := h
      refine ⟨A, n, c, h1, h2, h3, h4, .inl ⟨(by intro e; cases e), ?_⟩⟩
      rcases h5 with ⟨_, h5⟩ | ⟨h5, _⟩
      · rcases h5 with h5 | ⟨b, o, e1, e2, e3, e4, e5⟩
        · exact .inl h5
        · refine .inr ⟨b, o, e1, e2, Nat.le_trans hsz e3, fun j hj => ?_, e5.1, fun j hj => ?_⟩
          · have hb : ¬ b < D.w0.heap.size := by omega
            show (if b < D.w0.heap.size then _ else _) = _
            rw [if_neg hb, e4 j hj]
            cases hc : t.cell (j % t.size) with
            | none => rfl
            | some y => exact keepT_some.2 ⟨rfl, ownB_cell _ _ _ ho' hc⟩
          · have hb : ¬ b < D.w0.heap.size := by omega
            show (if b < D.w0.heap.size then _ else _) = _
            rw [if_neg hb, e5.2 j hj]
            cases hc : t.cell (j % t.size) with
            | none => rfl
            | some y => exact keepT_some.2 ⟨rfl, ownB_cell _ _ _ ho' hc⟩
      · exact absurd rfl h5
  | pair a b iha ihb =>
    intro ho rd h
    simp only [T.ownB, Bool.and_eq_true] at ho
    exact ⟨iha ho.1 h.1, ihb ho.2 h.2⟩
  | rep n t ih => intro ho rd h i hi; exact ih ho (h i hi)
  | int k lo hi => intro _ rd h; exact h
  | bool => intro _ rd h; exact h
  | str => intro _ rd h; exact h
  | nil => intro _ rd h; exact h
  | any => intro ho; cases ho
  | ptr t _ => intro ho; cases ho
  | map k v _ _ => intro ho; cases ho
theorem join_le {C D : Cx} {w : World} (hw : WT C w) (hD : D.w0 = w) : C.le (joinC C D) := by
  refine ⟨rfl, fun b o t h => ?_, fun b x h => ?_, fun b o t h => ?_⟩
  · obtain ⟨_, _, v, h1, _⟩ := hw.cell b o t h
    show (if b < D.w0.heap.size then _ else _) = _
    rw [if_pos (by rw [hD]; exact cell_lt' (a := ⟨b, o, none⟩) h1)]; exact h
  · obtain ⟨k, v⟩ := x
    obtain ⟨_, es, cl, h1, _⟩ := hw.map b k v h
    show (if b < D.w0.heap.size then _ else _) = _
    rw [if_pos (by rw [hD]; exact (Array.getElem?_eq_some_iff.1 h1).1)]; exact h
  · obtain ⟨_, _, v, h1, _⟩ := hw.res b o t h
    show (if b < D.w0.heap.size then _ else _) = _
    rw [if_pos (by rw [hD]; exact cell_lt' (a := ⟨b, o, none⟩) h1)]; exact h
theorem join_wt {C D : Cx} {w w' : World} (hw : WT C w) (hD : D.w0 = w) (hw' : WT D w') : WT (joinC C D) w' := by
  have hle := join_le hw hD
  have hb : Below w.heap.size w w' := by have := hw'.below; rw [hD] at this; exact this
  have hsz : C.w0.heap.size ≤ D.w0.heap.size := by rw [hD]; exact hw.below.size
  refine ⟨hw.below.trans (hb.mono hw.below.size), fun b o t h => ?_, fun b o t h => ?_, fun b o t h => ?_, fun b k v h => ?_⟩
  · have h : (if b < D.w0.heap.size then C.R b o else keepT (D.R b o)) = some t := h
    split at h
    · rename_i hlt
      obtain ⟨h1, h2, v, h3, h4⟩ := hw.res b o t h
      have hlt' : b < w.heap.size := by rw [← hD]; exact hlt
      exact ⟨h1, h2, v, (World.cell?_of_block (a := ⟨b, o, none⟩) (hb.block b hlt')).trans h3, (World.frozen?_of_block (a := ⟨b, o, none⟩) (hb.block b hlt')).trans h4⟩
    · obtain ⟨h1, h2, v, h3⟩ := hw'.res b o t (keepT_some.1 h).1
      exact ⟨Nat.le_trans hsz h1, h2, v, h3⟩
  · have h : (if b < D.w0.heap.size then C.S b o else keepT (D.S b o)) = some t := h
    show (if b < D.w0.heap.size then C.R b o else keepT (D.R b o)) = some t
    split at h
    · rename_i hlt; rw [if_pos hlt]; exact hw.sr b o t h
    · rename_i hlt; rw [if_neg hlt]; exact keepT_some.2 ⟨hw'.sr b o t (keepT_some.1 h).1, (keepT_some.1 h).2⟩
  · have h : (if b < D.w0.heap.size then C.S b o else keepT (D.S b o)) = some t := h
    split at h
    · rename_i hlt
      obtain ⟨h1, h2, v, h3, h4, h5⟩ := hw.cell b o t h
      have hlt' : b < w.heap.size := by rw [← hD]; exact hlt
      exact ⟨h1, h2, v, (World.cell?_of_block (a := ⟨b, o, none⟩) (hb.block b hlt')).trans h3, (World.frozen?_of_block (a := ⟨b, o, none⟩) (hb.block b hlt')).trans h4, at_mono hle _ _ h5⟩
    · obtain ⟨e1, e2⟩ := keepT_some.1 h
      obtain ⟨h1, h2, v, h3, h4, h5⟩ := hw'.cell b o t e1
      exact ⟨Nat.le_trans hsz h1, h2, v, h3, h4, at_join hsz t e2 h5⟩
  · have h : (if b < D.w0.heap.size then C.M b else none) = some (k, v) := h
    split at h
    · rename_i hlt
      obtain ⟨h1, es, cl, h2, h3⟩ := hw.map b k v h
      have hlt' : b < w.heap.size := by rw [← hD]; exact hlt
      exact ⟨h1, es, cl, (hb.block b hlt').trans h2, fun e he => ⟨hasV_mono hle (h3 e he).1, hasV_mono hle (h3 e he).2⟩⟩
    · cases h
theorem argsV_join {C D : Cx} (hsz : C.w0.heap.size ≤ D.w0.heap.size) : ∀ {rs : List (DT × Bool)} {vs : List Value}, rs.all (fun d => d.1.ownB) = true → ArgsV D rs vs → ArgsV (joinC C D) rs vs
  | [], vs, _, h => h
  | d :: r, vs, ho, h => by
    rw [List.all_cons, Bool.and_eq_true] at ho
    obtain ⟨v, l, rfl, ⟨u, hu, h1⟩, h2⟩ := h
    refine ⟨v, l, rfl, ⟨u, hu, ?_⟩, argsV_join hsz ho.2 h2⟩
    have hu' := ownB_inst hu ho.1
    split at h1
    · rename_i hb
      obtain ⟨cs, e1, e2, e3⟩ := h1
      exact ⟨cs, e1, e2, at_join hsz u hu' e3⟩
    · exact ⟨h1.1, at_join hsz u hu' h1.2⟩
/-- What is known of a function. -/
structure Sum where
  f : Nat
  ds : List (DT × Bool)
  rs : List (DT × Bool)
  tup : Bool
def Sum.ok (P : Program) (s : Sum) : Prop := ∀ (w : World) (vs : List Value), ArgsV (Cx0 w) (s.ds.map (modeP .old)) vs → ∀ (R : Ending → World → Prop),
  (∀ v w' (C' : Cx) us, C'.w0 = w → WT C' w' → ArgsV C' s.rs us → (s.tup = true → v = .tuple us.toArray) → (s.tup = false → us = [v]) → R (.returned v) w') → Calls P s.f vs.toArray w R
def findS (f : Nat) : List Sum → Option Sum
  | [] => none
  | s :: r => match Nat.beq s.f f with | true => some s | false => findS f r
theorem findS_mem {f : Nat} : ∀ {l : List Sum} {s : Sum}, findS f l = some s → s ∈ l ∧ s.f = f
  | [], s, h => by cases h
  | x :: r, s, h => by
    simp only [findS] at h
    split at h
    · rename_i hb; cases h; exact ⟨List.mem_cons_self .., Nat.eq_of_beq_eq_true hb⟩
    · obtain ⟨h1, h2⟩ := findS_mem h; exact ⟨List.mem_cons_of_mem _ h1, h2⟩
noncomputable def sumX (s : Sum) (args : List SV) (σ : St) : Option (Outs × List Goal) :=
  match fitAs σ.hy s.ds args, startA s.rs σ, s.ds.all (fun d => d.1.sc 0) && s.rs.all (fun d => d.1.ownB) with
  | some gs, some (ss, σ1), true => (match s.tup, ss with
    | true, ss => some ([(.tup ss, σ1)], gs)
    | false, [x] => some ([(x, σ1)], gs)
    | _, _ => none)
  | _, _, _ => none
theorem sumX_ok {P : Program} {s : Sum} (hs : s.ok P) {args : List SV} {σ : St} {outs : Outs} {gs : List Goal} (h : sumX s args σ = some (outs, gs)) (hg : ∀ g ∈ gs, g.ok) : CallsOK P s.f σ args outs := by
  intro C E a w hinv vs hvs R _ hR
  unfold sumX at h
  split at h
  · rename_i gs' ss σ1 hf hst hc
    rw [Bool.and_eq_true] at hc
    obtain ⟨hc1, hc3⟩ := hc
    have hgs : ∀ g ∈ gs', g.ok := by
      split at h
      · cases h; exact hg
      · cases h; exact hg
      · cases h
    have hav := fitAs_ok hinv.wt (fun x hx => (hinv.hy x hx).2) hf hgs hc1 hvs
    refine hs w vs hav R fun v w' D us hD hwt hus ht1 ht2 => ?_
    have hsz : C.w0.heap.size ≤ D.w0.heap.size := by rw [hD]; exact hinv.wt.below.size
    have hbel : Below w.heap.size w w' := by have := hwt.below; rw [hD] at this; exact this
    have hle := join_le hinv.wt hD
    have hi2 : Inv (joinC C D) E σ a w' := inv_grow hinv hle (join_wt hinv.wt hD hwt) hbel.size (fun b _ _ hb => hbel.block b hb)
      (fun b o hb => by show (if b < D.w0.heap.size then _ else _) = _; rw [if_pos (by rw [hD]; exact hb)])
      (fun b hb => by show (if b < D.w0.heap.size then _ else _) = _; rw [if_pos (by rw [hD]; exact hb)])
    obtain ⟨E', e1, e2, e3⟩ := startA_ok hst hi2 (argsV_join hsz hc3 hus)
    split at h
    · rename_i htup
      cases h
      have hv := ht1 htup
      subst hv
      exact hR _ _ (List.mem_cons_self ..) (joinC C D) E' _ w' hle e1 e2 (by simp only [Den]; exact ⟨us.toArray, rfl, by simpa using e3⟩)
    · rename_i x htup
      cases h
      have hv := ht2 htup
      subst hv
      simp only [DenL] at e3
      obtain ⟨v', r, he, h1, rfl⟩ := e3
      cases he
      exact hR _ _ (List.mem_cons_self ..) (joinC C D) E' _ w' hle e1 e2 h1
    · cases h
  · cases h
end Go.Vg
/- The executor: quiet operations. -/
namespace Go.Vg
open Go Go.RowKit Go.Hs Go.Ty Go.Ex
structure LAnn where
  fn : Nat
  key : Nat
  auto : Bool
  hav : List (Nat × (St → Option DT))
  blk : List (Nat × (St → Option DT))
  inv : List Hy
  facts : List (Nat × Md × Tm × DT)
  meas : Option Tm
structure Cfg where
  E : Env
  loops : List LAnn
  made : List (Nat × Nat × (St → Option DT))
  keys : List TypeId
  wraps : List (Nat × Nat)
  sums : List Sum
/-- A function's number fits a path of calls (the innermost one lowest). -/
def onPath (a p : Nat) : Bool := Nat.beq a (p % 10000) || (Nat.beq a (p % 100000000) || Nat.beq a (p % 1000000000000))
def decS (h : Hy) : SV := match h.dec with | some b => .bool b | none => .cmp h
theorem decS_ok {P : Program} {o : Oper} {σ : St} {h : Hy} (hq : QuietOK P o σ (.cmp h)) : QuietOK P o σ (decS h) := by
  unfold decS
  split
  · rename_i b hb; exact quiet_dec hq hb
  · exact hq
/-- A quiet operation's answer and what is to be shown. -/
abbrev XQ := Option (SV × List Goal)
def XQOK (P : Program) (o : Oper) (σ : St) (r : XQ) : Prop := ∀ s gs, r = some (s, gs) → (∀ g ∈ gs, g.ok) → QuietOK P o σ s
theorem xq_none {P : Program} {o : Oper} {σ : St} : XQOK P o σ none := fun s gs h => by cases h
theorem xq_some {P : Program} {o : Oper} {σ : St} {s : SV} {gs : List Goal} (h : (∀ g ∈ gs, g.ok) → QuietOK P o σ s) : XQOK P o σ (some (s, gs)) := fun s' gs' e hg => by cases e; exact h hg
noncomputable def xMove (σ : St) (x : Operand) : XQ := match evS σ x with | some s => some (s, []) | none => none
noncomputable def xPick (σ : St) (c x y : Operand) : XQ := match evS σ c with
  | some (.bool b) => (match evS σ (if b then x else y) with | some s => some (s, []) | none => none)
  | _ => none
noncomputable def xMakeFunc (σ : St) (fn : Fn) (a b : Array Operand) : XQ := match fn with
  | .func f => (match evSL σ a.toList, evSL σ b.toList with | some xs, some ys => some (.fn f xs ys, []) | _, _ => none)
  | _ => none
noncomputable def xNil (σ : St) (x : Operand) : XQ := match evS σ x with
  | some s => (match notNil s with | true => some (s, []) | false => none)
  | none => none
noncomputable def xExtract (σ : St) (x : Operand) (i : Nat) : XQ := match evS σ x with
  | some (.tup l) => (match l[i]? with | some s => some (s, []) | none => none)
  | _ => none
noncomputable def xField (E : Env) (σ : St) (t : TypeId) (x : Operand) (f : Nat) : XQ := match und E t, evS σ x with
  | some (.struct fs), some (.agg l) => (match fs[f]? with
    | some fd => (match inf E fd.type with
      | some i => (match partS i.agg fd.offset i.size l with | some s => some (s, []) | none => none)
      | none => none)
    | none => none)
  | _, _ => none
noncomputable def xFieldAddr (E : Env) (σ : St) (t : TypeId) (x : Operand) (f : Nat) : XQ := match und E t with
  | some (.struct fs) => (match fs[f]? with
    | some fd => (match inf E fd.type with
      | some i => (match Nat.beq i.size 0, evS σ x with
        | false, some (.tptr id off) => some (.tptr id (off + fd.offset), [])
        | false, some (.elt m d) => (match subDT d fd.offset i.size with | some d' => some (.elt m d', []) | none => none)
        | _, _ => none)
      | none => none)
    | none => none)
  | _ => none
noncomputable def xIndexAddr (E : Env) (σ : St) (t : TypeId) (x ix : Operand) : XQ := match und E t, evS σ x, evS σ ix with
  | some (.slice e), some (.sl id m d n), some (.int _ i) => (match inf E e with
    | some j => (match m, wholeF σ.hy σ.fa id n with
      | .old, some d' => (match Nat.beq d'.size j.size with | true => some (.eli id i .old d', [⟨σ.hy, .le (.c 0) i⟩, ⟨σ.hy, .lt i n⟩]) | false => none)
      | m, _ => (match Nat.beq d.size j.size with | true => some (.eli id i m d, [⟨σ.hy, .le (.c 0) i⟩, ⟨σ.hy, .lt i n⟩]) | false => none))
    | none => none)
  | some (.slice e), some (.tsl id off n), some (.int _ (.c (.ofNat q))) => (match inf E e, Nat.blt q n with
    | some j, true => some (.tptr id (off + q * j.size), [])
    | _, _ => none)
  | some (.array n e), some (.tptr id 0), some (.int _ i) => (match inf E e with
    | some j => (match Nat.beq j.size 1 with | true => some (.uptr id n, [⟨σ.hy, .le (.c 0) i⟩, ⟨σ.hy, .lt i (.c n)⟩]) | false => none)
    | none => none)
  | _, _, _ => none
noncomputable def xBin (σ : St) (op : BinOp) (x y : Operand) : XQ := match evS σ x, evS σ y with
  | some (.int k m), some (.int k' n) => (match kbeq k k' with
    | true => (match cmpOp op m n with
      | some h => some (decS h, [])
      | none => (match ariOp op m n with
        | some z => some (.int k z.fold, [⟨σ.hy, .and (.le (.c (kLo k)) z) (.le z (.c (kHi k)))⟩])
        | none => none))
    | false => none)
  | _, _ => none
noncomputable def xUn (σ : St) (op : UnOp) (x : Operand) : XQ := match op, evS σ x with
  | .not, some (.bool b) => some (.bool (!b), [])
  | .not, some (.cmp h) => some (.cmp h.neg, [])
  | .neg, some (.int k m) => some (.int k (Tm.sub (.c 0) m).fold, [⟨σ.hy, .and (.le (.c (kLo k)) (.sub (.c 0) m)) (.le (.sub (.c 0) m) (.c (kHi k)))⟩])
  | _, _ => none
noncomputable def xConv (E : Env) (σ : St) (s t : TypeId) (x : Operand) : XQ := match und E s, und E t, evS σ x with
  | some (.int k'), some (.int k), some (.int k2 m) => (match kbeq k2 k' with
    | true => some (.int k m, [⟨σ.hy, .and (.le (.c (kLo k)) m) (.le m (.c (kHi k)))⟩])
    | false => none)
  | _, _, _ => none
noncomputable def xBuild (E : Env) (σ : St) (t : TypeId) (parts : Array (Nat × Operand)) : XQ := match und E t, inf E t with
  | some (.struct fs), some i => (match evP σ parts.toList, places E fs.toList, ofScals (rexpand i.runs) with
    | some ps, some pl, some zs => (match fillS (fun i => pl[i]?) ps zs with | some l => some (.agg l, []) | none => none)
    | _, _, _ => none)
  | _, _ => none
noncomputable def xLen (E : Env) (σ : St) (c : Call) : XQ := match c.args.toList, c.argTypes.toList with
  | [x], t :: _ => (match evS σ x, und E t with
    | some s, some (.slice _) => (match lenS s with | some n => some (.int .i64 n, []) | none => none)
    | _, _ => none)
  | _, _ => none
noncomputable def xq (cf : Cfg) (o : Oper) (σ : St) : XQ := match o.op with
  | .move x => xMove σ x
  | .assign x => xMove σ x
  | .pick c x y => xPick σ c x y
  | .makeFunc f a b => xMakeFunc σ f a b
  | .nilCheck x => xNil σ x
  | .extract x i => xExtract σ x i
  | .field t x f => xField cf.E σ t x f
  | .fieldAddr t x f => xFieldAddr cf.E σ t x f
  | .indexAddr t x ix => xIndexAddr cf.E σ t x ix
  | .binOp op _ x y _ => xBin σ op x y
  | .unOp op _ x => xUn σ op x
  | .convert s t x => xConv cf.E σ s t x
  | .build t ps => xBuild cf.E σ t ps
  | .call c => (match c.callee with | .builtin .len => xLen cf.E σ c | _ => none)
  | _ => none
section
variable {cf : Cfg} (hE : EnvOK cf.E)
include hE
theorem xq_ok (o : Oper) (σ : St) : XQOK cf.E.P o σ (xq cf o σ) := by
  unfold xq
  split
  · rename_i x ho
    unfold xMove; split
    · exact xq_some fun _ => op_move (.inl ho) ‹_›
    · exact xq_none
  · rename_i x ho
    unfold xMove; split
    · exact xq_some fun _ => op_move (.inr ho) ‹_›
    · exact xq_none
  · rename_i c x y ho
    unfold xPick; split
    · rename_i b hc
      split
      · exact xq_some fun _ => op_pick ho hc ‹_›
      · exact xq_none
    · exact xq_none
  · rename_i f a b ho
    unfold xMakeFunc; split
    · split
      · exact xq_some fun _ => op_makeFunc ho ‹_› ‹_›
      · exact xq_none
    · exact xq_none
  · rename_i x ho
    unfold xNil; split
    · rename_i s hs
      split
      · exact xq_some fun _ => op_nilCheck ho hs ‹_›
      · exact xq_none
    · exact xq_none
  · rename_i x i ho
    unfold xExtract; split
    · rename_i l hl
      split
      · exact xq_some fun _ => op_extract ho hl ‹_›
      · exact xq_none
    · exact xq_none
  · rename_i t x f ho
    unfold xField; split
    · rename_i fs l hu hx
      split
      · rename_i fd hf
        split
        · rename_i i hi
          split
          · exact xq_some fun _ => op_field hE ho hx hu hf hi ‹_›
          · exact xq_none
        · exact xq_none
      · exact xq_none
    · exact xq_none
  · rename_i t x f ho
    unfold xFieldAddr; split
    · rename_i fs hu
      split
      · rename_i fd hf
        split
        · rename_i i hi
          split
          · rename_i id off h0 hx
            exact xq_some fun _ => q_fieldAddr_tptr hE ho hx hu hf hi (fun e => by rw [e] at h0; cases h0)
          · rename_i m d h0 hx
            split
            · exact xq_some fun _ => op_fieldAddr_elt hE ho hx hu hf hi (fun e => by rw [e] at h0; cases h0) ‹_›
            · exact xq_none
          · exact xq_none
        · exact xq_none
      · exact xq_none
    · exact xq_none
  · rename_i t x ix ho
    unfold xIndexAddr; split
    · rename_i e id m d n k i hu hx hix
      split
      · rename_i j hj
        split
        · rename_i d' hw
          split
          · rename_i hs
            exact xq_some fun hg => q_indexAddr_fact hE ho hx hix hu hj hw (Nat.eq_of_beq_eq_true hs) (hg _ (List.mem_cons_self ..)) (hg _ (List.mem_cons_of_mem _ (List.mem_cons_self ..)))
          · exact xq_none
        · split
          · rename_i hs
            exact xq_some fun hg => op_indexAddr_sl hE ho hx hix hu hj (Nat.eq_of_beq_eq_true hs) (hg _ (List.mem_cons_self ..)) (hg _ (List.mem_cons_of_mem _ (List.mem_cons_self ..)))
          · exact xq_none
      · exact xq_none
    · rename_i e id off n k q hu hx hix
      split
      · rename_i j hj hq
        exact xq_some fun _ => q_indexAddr_tsl hE ho hx hix hu hj (by simpa using hq)
      · exact xq_none
    · rename_i n e id k i hu hx hix
      split
      · rename_i j hj
        split
        · rename_i h1
          exact xq_some fun hg => q_indexAddr_uni hE ho hx hix hu hj (Nat.eq_of_beq_eq_true h1) (hg _ (List.mem_cons_self ..)) (hg _ (List.mem_cons_of_mem _ (List.mem_cons_self ..)))
        · exact xq_none
      · exact xq_none
    · exact xq_none
  · rename_i op t x y yt ho
    unfold xBin; split
    · rename_i k m k' n hx hy
      split
      · rename_i hk
        have hk := kbeq_eq hk
        subst hk
        split
        · exact xq_some fun _ => decS_ok (op_cmp ho hx hy ‹_›)
        · split
          · exact xq_some fun hg => quiet_fold (op_ari ho hx hy ‹_› (hg _ (List.mem_cons_self ..)))
          · exact xq_none
      · exact xq_none
    · exact xq_none
  · rename_i op t x ho
    unfold xUn; split
    · rename_i b hx; exact xq_some fun _ => op_not ho hx rfl
    · rename_i h hx; exact xq_some fun _ => op_not ho hx rfl
    · rename_i k m hx; exact xq_some fun hg => quiet_fold (op_minus ho hx (hg _ (List.mem_cons_self ..)))
    · exact xq_none
  · rename_i s t x ho
    unfold xConv; split
    · rename_i k' k k2 m hs ht hx
      split
      · rename_i hk
        have hk := kbeq_eq hk
        subst hk
        exact xq_some fun hg => op_convert_int hE ho hx hs ht (hg _ (List.mem_cons_self ..))
      · exact xq_none
    · exact xq_none
  · rename_i t ps ho
    unfold xBuild; split
    · rename_i fs i hu hi
      split
      · rename_i ps pl zs h1 h2 h3
        split
        · exact xq_some fun _ => op_build hE ho hi hu h1 h2 h3 ‹_›
        · exact xq_none
      · exact xq_none
    · exact xq_none
  · rename_i c ho
    split
    · rename_i hc
      unfold xLen; split
      · rename_i x t ts ha hat
        split
        · rename_i s e hs hu
          split
          · rename_i n hn
            refine xq_some fun _ => op_len hE (t := t) (ts := ts) ?_ hs hu hn
            obtain ⟨callee, args, argTypes⟩ := c
            simp only at hc ha hat
            rw [ho, hc, toList_one ha, toList_cons hat]
          · exact xq_none
        · exact xq_none
      · exact xq_none
    · exact xq_none
  · exact xq_none
end
end Go.Vg
/- The executor: reads, and what changes the world. -/
namespace Go.Vg
open Go Go.RowKit Go.Hs Go.Ty Go.Ex
theorem eli_elt {C : Cx} {E : Ev} {id : Nat} {ix : Tm} {m : Md} {d : DT} {v : Value} (h : Den C E (.eli id ix m d) v) : Den C E (.elt m d) v := by
  simp only [Den] at h ⊢
  obtain ⟨u, b, o, n, c, q, h1, _, _, _, h5, h6⟩ := h
  exact ⟨u, b, _, h1, h5, h6⟩
/-- A typed place, whatever it is called. -/
def plcS : SV → Option (Md × DT)
  | .elt m d => some (m, d)
  | .eli _ _ m d => some (m, d)
  | _ => none
theorem plcS_den {C : Cx} {E : Ev} {s : SV} {m : Md} {d : DT} {v : Value} (hs : plcS s = some (m, d)) (h : Den C E s v) : Den C E (.elt m d) v := by
  unfold plcS at hs
  split at hs
  · cases hs; exact h
  · cases hs; exact eli_elt h
  · cases hs
section
variable {E0 : Env} (hE0 : EnvOK E0)
include hE0
theorem op_load_plc {o : Oper} {σ σ' : St} {t : TypeId} {x : Operand} {sx : SV} {m : Md} {d : DT} {i : AInfo} {l : List SV} {s : SV}
    (ho : o.op = .load t x) (hx : evS σ x = some sx) (hp : plcS sx = some (m, d)) (hi : inf E0 t = some i) (hs : d.size = i.size) (hf : freshOf σ d = some (l, σ')) (hpk : packS i.agg l = some s) : OpOK E0.P o σ [(s, σ')] := by
  refine opOK_pure fun C E a w hinv => ?_
  obtain ⟨u, b, off, hu, hev, hat⟩ := elt_reads hinv (plcS_den hp (evS_den hinv hx))
  obtain ⟨E', hle, hinv', vs, hden, hlen, hrd⟩ := fresh_den hinv hu hat hf
  have hsz : u.size = i.size := (inst_size hu).trans hs
  have hl : vs.length = i.size := hlen.trans hsz
  have hv : ∀ j, j < i.size → w.cell? ⟨b, off + j, none⟩ = vs[j]? := fun j hj => by
    have := hrd j (by omega)
    rw [if_pos (by omega)] at this
    exact this
  obtain ⟨r1, r2⟩ := load_run hE0 ho hev hi hl hv
  cases ha : i.agg with
  | true =>
    rw [ha] at hpk
    cases hpk
    exact ⟨.agg vs.toArray, .agg l, σ', r1 ha, List.mem_cons_self .., C, E', .refl _, hle, hinv', by simp only [Den]; exact ⟨vs.toArray, rfl, by simpa using hden⟩⟩
  | false =>
    rw [ha] at hpk
    unfold packS at hpk
    split at hpk
    · rename_i h0; cases h0
    · split at hpk
      · cases hpk
        simp only [DenL] at hden
        obtain ⟨v, r, rfl, h1, rfl⟩ := hden
        exact ⟨v, s, σ', r2 ha v rfl, List.mem_cons_self .., C, E', .refl _, hle, hinv', h1⟩
      · cases hpk
theorem op_load_agt {o : Oper} {σ : St} {t : TypeId} {x : Operand} {sx : SV} {m : Md} {d : DT} {i : AInfo}
    (ho : o.op = .load t x) (hx : evS σ x = some sx) (hp : plcS sx = some (m, d)) (hi : inf E0 t = some i) (ha : i.agg = true) (hs : d.size = i.size) : OpOK E0.P o σ [(.agt d, σ)] := by
  refine opOK_pure fun C E a w hinv => ?_
  obtain ⟨u, b, off, hu, hev, hat⟩ := elt_reads hinv (plcS_den hp (evS_den hinv hx))
  have hsz : u.size = i.size := (inst_size hu).trans hs
  have key : ∀ j, j < u.size → ∃ v, w.cell? ⟨b, off + j, none⟩ = some v := fun j hj => by
    obtain ⟨y, hy⟩ := (cell_some u j).1 hj
    obtain ⟨v, h1, _⟩ := (at_cells u _).1 hat j y hy
    rw [if_pos hj] at h1
    exact ⟨v, h1⟩
  let vs : List Value := (List.range u.size).map fun j => (w.cell? ⟨b, off + j, none⟩).getD undef
  have hvs : ∀ j, j < u.size → w.cell? ⟨b, off + j, none⟩ = vs[j]? := fun j hj => by
    obtain ⟨v, hv⟩ := key j hj
    show _ = ((List.range u.size).map _)[j]?
    simp [hj, hv]
  have hl : vs.length = i.size := by show ((List.range u.size).map _).length = _; simp [hsz]
  obtain ⟨r1, _⟩ := load_run hE0 ho hev hi hl (w := w) fun j hj => hvs j (by omega)
  refine ⟨.agg vs.toArray, .agt d, σ, r1 ha, List.mem_cons_self .., C, E, .refl _, .refl _, hinv, ?_⟩
  simp only [Den]
  refine ⟨u, vs.toArray, hu, rfl, by simp [hl, hsz], (at_cells u _).2 fun j y hy => ?_⟩
  have hj := (cell_some u j).2 ⟨y, hy⟩
  obtain ⟨v, h1, h2⟩ := (at_cells u _).1 hat j y hy
  rw [if_pos hj, hvs j hj] at h1
  exact ⟨v, by simpa using h1, h2⟩
theorem op_store_plc {o : Oper} {σ : St} {t : TypeId} {x y : Operand} {sx : SV} {d : DT} {i : AInfo} {s : SV} {gs : List Goal}
    (ho : o.op = .store t x y) (hx : evS σ x = some sx) (hp : plcS sx = some (.own, d)) (hy : evS σ y = some s) (hna : noAgt s = true) (hi : inf E0 t = some i) (hs : d.size = i.size) (h0 : 0 < i.size)
    (hf : fitL σ d (svCells s) = some (gs, [])) (hg : ∀ g ∈ gs, g.ok) : OpOK E0.P o σ [(.tup [], σ)] := by
  refine opOK_skip fun C E a w hinv => ?_
  have h1 := plcS_den hp (evS_den hinv hx)
  have h2 := svCells_den hna (evS_den hinv hy)
  simp only [Den] at h1
  obtain ⟨u, b, off, hu, hev, h3⟩ := h1
  obtain ⟨us, rs, hvs, hl, hfit, hrs⟩ := fitL_ok hinv.kn hf hg hu h2
  simp only [DenL] at hrs
  subst hrs
  rw [List.append_nil] at hvs
  have hS : ∀ j, j < u.size → C.S b (off + j) = u.cell j := by
    rcases h3 with ⟨_, _, h3⟩ | ⟨hm, _⟩
    · exact h3
    · exact absurd rfl hm
  have hsz : u.size = i.size := (inst_size hu).trans hs
  obtain ⟨w', e1, e2, e3, e4⟩ := storeCells_wt (P := E0.P) (b := b) (o := off) us 0 w hinv.wt fun j v hj => by
    have hjl := (List.getElem?_eq_some_iff.1 hj).1
    obtain ⟨q, hq⟩ := (cell_some u j).1 (by omega)
    obtain ⟨v', hv', hat⟩ := hfit j q hq
    rw [hj] at hv'; cases hv'
    exact ⟨q, by rw [Nat.zero_add]; exact (hS j (by omega)).trans hq, hat⟩
  obtain ⟨ti, z, dd, hio, _, _⟩ := inf_ok hE0 hi
  refine ⟨w', ?_, C, E, .refl _, .refl _, inv_world hinv e2 (by omega) fun k x' b' hx' hg' hb' => e4 b' ?_⟩
  · rw [exec_eq ho]
    have hlen : (a.eval y).cells.size = i.size := by
      have := congrArg List.length hvs
      simp only [Array.length_toList] at this
      omega
    simp only [execOp, Instr.storeAt, Sem.run_bind, hev, sure_addr, Result.andThen_ok, storeVar, hio.sizeOf]
    rw [if_neg (by simp [hlen]), hvs]
    rw [e1]
    rfl
  · rintro rfl
    have hfree := (tracked_free hinv hx' hg' hb').1
    have hz : 0 < u.size := by omega
    obtain ⟨q, hq⟩ := (cell_some u 0).1 hz
    have := hinv.wt.sr _ _ _ ((hS 0 hz).trans hq)
    rw [hfree] at this; cases this
end
theorem wrap_range (k : IntKind) (n : Int) : kLo k ≤ k.wrap n ∧ k.wrap n ≤ kHi k := by
  cases k with
  | i8 => simp only [kLo, kHi, IntKind.wrap, IntKind.bits, IntKind.signed]; simp; split <;> omega
  | i16 => simp only [kLo, kHi, IntKind.wrap, IntKind.bits, IntKind.signed]; simp; split <;> omega
  | i32 => rw [IntKind.wrap_i32]; simp only [kLo, kHi]; omega
  | i64 => rw [IntKind.wrap_i64]; simp only [kLo, kHi]; omega
  | u8 => rw [IntKind.wrap_u8]; simp only [kLo, kHi]; omega
  | u16 => simp [kLo, kHi, IntKind.wrap, IntKind.bits, IntKind.signed]; omega
  | u32 => simp [kLo, kHi, IntKind.wrap, IntKind.bits, IntKind.signed]; omega
  | u64 => simp [kLo, kHi, IntKind.wrap, IntKind.bits, IntKind.signed]; omega
/-- Arithmetic that may wrap: within the kind, and exact where nothing wraps. -/
theorem h_wrap {P : Program} {hpH : List TO} {o : Oper} {σ : St} {op : BinOp} {t yt : TypeId} {x y : Operand} {k : IntKind} {m n z : Tm}
    (ho : o.op = .binOp op t x y yt) (hx : evS σ x = some (.int k m)) (hy : evS σ y = some (.int k n)) (hz : ariOp op m n = some z) :
    HeldOK P hpH o σ (.int k (.s σ.ns)) (assume (.and (.le (.c (kLo k)) (.s σ.ns)) (.le (.s σ.ns) (.c (kHi k)))) (assume (.imp (.and (.le (.c (kLo k)) z) (.le z (.c (kHi k)))) (.eq (.s σ.ns) z)) { σ with ns := σ.ns + 1 })) := by
  intro C E a w hinv
  have h1 := evS_den hinv hx
  have h2 := evS_den hinv hy
  simp only [Den] at h1 h2
  obtain ⟨i, hi, hxe⟩ := h1
  obtain ⟨j, hj, hye⟩ := h2
  have key : ∃ r, z.ev E.ρ = some r ∧ intOp op k i j = some (.int k (wrapF k r)) := by
    cases op <;> simp only [ariOp, Option.some.injEq, reduceCtorEq] at hz <;> subst hz <;> exact ⟨_, by simp only [Tm.ev, hi, hj], rfl⟩
  obtain ⟨r, hr, hop⟩ := key
  rw [wrapF_eq] at hop
  obtain ⟨e1, e2, e3⟩ := sym_inv hinv (k.wrap r)
  have hs : (Tm.s σ.ns).ev (E.ρ ++ [k.wrap r]) = some (k.wrap r) := e3
  have hr' := ev_grow (l := [k.wrap r]) hr
  refine ⟨.int k (k.wrap r), fun w' _ => exec_bin ho hxe hye hop w', _, e1, assume_inv (assume_inv e2 ?_ ?_) ?_ ?_, by simp only [Den]; exact ⟨_, hs, rfl⟩⟩
  · exact ⟨⟨⟨⟨_, rfl⟩, ⟨_, hr'⟩⟩, ⟨⟨_, hr'⟩, ⟨_, rfl⟩⟩⟩, ⟨⟨_, hs⟩, ⟨_, hr'⟩⟩⟩
  · show _ ≤ _ ∧ _ ≤ _ → _ = _
    rw [ev_val hs, ev_val hr']
    intro h
    exact wrap_in h.1 h.2
  · exact ⟨⟨⟨_, rfl⟩, ⟨_, hs⟩⟩, ⟨⟨_, hs⟩, ⟨_, rfl⟩⟩⟩
  · show _ ≤ _ ∧ _ ≤ _
    rw [ev_val hs]
    exact wrap_range k r
/-! the executor's part -/
abbrev XH := Option (SV × St × List Goal)
abbrev X1 := Option (Outs × List Goal)
def XHOK (P : Program) (hpH : List TO) (o : Oper) (σ : St) (r : XH) : Prop := ∀ s σ' gs, r = some (s, σ', gs) → (∀ g ∈ gs, g.ok) → HeldOK P hpH o σ s σ'
def X1OK (P : Program) (o : Oper) (σ : St) (r : X1) : Prop := ∀ outs gs, r = some (outs, gs) → (∀ g ∈ gs, g.ok) → OpOK P o σ outs
theorem xh_none {P : Program} {hpH : List TO} {o : Oper} {σ : St} : XHOK P hpH o σ none := fun s σ' gs h => by cases h
theorem xh_some {P : Program} {hpH : List TO} {o : Oper} {σ σ' : St} {s : SV} {gs : List Goal} (h : HeldOK P hpH o σ s σ') : XHOK P hpH o σ (some (s, σ', gs)) := fun s' σ'' gs' e _ => by cases e; exact h
theorem x1_none {P : Program} {o : Oper} {σ : St} : X1OK P o σ none := fun s gs h => by cases h
theorem x1_some {P : Program} {o : Oper} {σ : St} {outs : Outs} {gs : List Goal} (h : (∀ g ∈ gs, g.ok) → OpOK P o σ outs) : X1OK P o σ (some (outs, gs)) := fun s' gs' e hg => by cases e; exact h hg
noncomputable def xhLoad (E : Env) (hpH : List TO) (σ : St) (t : TypeId) (x : Operand) : XH := match evS σ x, inf E t with
  | some (.tptr id off), some i => (match σ.hp[id]? with
    | some (.cells ver l) => (match heldAt hpH id ver && Nat.ble (off + i.size) l.length, packS i.agg ((l.drop off).take i.size) with
      | true, some s => some (s, σ, [])
      | _, _ => none)
    | some (.uni ver d n) => (match heldAt hpH id ver && (i.agg && (Nat.beq off 0 && Nat.beq i.size (n * d.size))) with
      | true => some (.agt (.rep n d), σ, [])
      | false => none)
    | _ => none)
  | some (.uptr id n), some i => (match σ.hp[id]? with
    | some (.uni ver d n') => (match heldAt hpH id ver && (Nat.beq n' n && (Nat.beq d.size 1 && (!i.agg && Nat.beq i.size 1))), freshOf σ d with
      | true, some ([s], σ') => some (s, σ', [])
      | _, _ => none)
    | _ => none)
  | some (.elt .old d), some i => (match Nat.beq d.size i.size, freshOf σ d with
    | true, some (l, σ') => (match packS i.agg l with | some s => some (s, σ', []) | none => none)
    | _, _ => none)
  | some (.eli id ix .old d), some i => (match Nat.beq d.size i.size, freshOf σ d with
    | true, some (l, σ') => (match packS i.agg l with | some s => some (s, { σ' with rd := ⟨id, ix, l⟩ :: σ'.rd }, []) | none => none)
    | _, _ => none)
  | _, _ => none
def memW : List (Nat × Nat) → Nat → Option Tmp → Bool
  | [], _, _ => false
  | (f, s) :: r, fn, dst => (onPath f fn && (match dst with | some t => Nat.beq s t | none => false)) || memW r fn dst
noncomputable def xWrap (σ : St) (op : BinOp) (x y : Operand) : XH := match evS σ x, evS σ y with
  | some (.int k m), some (.int k' n) => (match kbeq k k', ariOp op m n with
    | true, some z => some (.int k (.s σ.ns), assume (.and (.le (.c (kLo k)) (.s σ.ns)) (.le (.s σ.ns) (.c (kHi k)))) (assume (.imp (.and (.le (.c (kLo k)) z) (.le z (.c (kHi k)))) (.eq (.s σ.ns) z)) { σ with ns := σ.ns + 1 }), [])
    | _, _ => none)
  | _, _ => none
noncomputable def xhb (cf : Cfg) (hpH : List TO) (o : Oper) (σ : St) : XH := match xq cf o σ with
  | some (s, gs) => some (s, σ, gs)
  | none => (match o.op with
    | .load t x => xhLoad cf.E hpH σ t x
    | _ => none)
noncomputable def xh (cf : Cfg) (fn : Nat) (hpH : List TO) (o : Oper) (σ : St) : XH := match memW cf.wraps fn o.dst with
  | true => (match o.op with
    | .binOp op _ x y _ => xWrap σ op x y
    | _ => none)
  | false => xhb cf hpH o σ
section
variable {cf : Cfg} (hE : EnvOK cf.E)
include hE
theorem xhb_ok (hpH : List TO) (o : Oper) (σ : St) : XHOK cf.E.P hpH o σ (xhb cf hpH o σ) := by
  unfold xhb
  split
  · rename_i s gs h
    exact fun s' σ' gs' e hg => by cases e; exact (xq_ok hE o σ _ _ h hg).held
  · split
    · rename_i t x ho
      unfold xhLoad; split
      · rename_i id off i hx hi
        split
        · rename_i ver l hl
          split
          · rename_i s hc hp
            rw [Bool.and_eq_true] at hc
            exact xh_some (h_load_tptr hE ho hx hl hc.1 hi (Nat.le_of_ble_eq_true hc.2) hp)
          · exact xh_none
        · rename_i ver d n hl
          split
          · rename_i hc
            simp only [Bool.and_eq_true] at hc
            have h0 := Nat.eq_of_beq_eq_true hc.2.2.1
            subst h0
            exact xh_some (h_load_uni hE ho hx hl hc.1 hi hc.2.1 (Nat.eq_of_beq_eq_true hc.2.2.2))
          · exact xh_none
        · exact xh_none
      · rename_i id n i hx hi
        split
        · rename_i ver d n' hl
          split
          · rename_i s σ' hc hf
            simp only [Bool.and_eq_true] at hc
            have h0 := Nat.eq_of_beq_eq_true hc.2.1
            subst h0
            exact xh_some (h_load_uptr hE ho hx hl hc.1 (Nat.eq_of_beq_eq_true hc.2.2.1) hi (by simpa using hc.2.2.2.1) (Nat.eq_of_beq_eq_true hc.2.2.2.2) hf)
          · exact xh_none
        · exact xh_none
      · rename_i d i hx hi
        split
        · rename_i l σ' hs hf
          split
          · exact xh_some (h_load_old hE ho hx hi (Nat.eq_of_beq_eq_true hs) hf ‹_›)
          · exact xh_none
        · exact xh_none
      · rename_i id ix d i hx hi
        split
        · rename_i l σ' hs hf
          split
          · exact xh_some (h_load_eli hE ho hx hi (Nat.eq_of_beq_eq_true hs) hf ‹_›)
          · exact xh_none
        · exact xh_none
      · exact xh_none
    · exact xh_none
theorem xh_ok (fn : Nat) (hpH : List TO) (o : Oper) (σ : St) : XHOK cf.E.P hpH o σ (xh cf fn hpH o σ) := by
  unfold xh
  split
  · split
    · rename_i op t x y yt ho
      unfold xWrap; split
      · rename_i k m k' n hx hy
        split
        · rename_i z hk hz
          have hk := kbeq_eq hk
          subst hk
          exact xh_some (h_wrap ho hx hy hz)
        · exact xh_none
      · exact xh_none
    · exact xh_none
  · exact xhb_ok hE hpH o σ
end
end Go.Vg
/- The executor: operations that change the world, or draw new symbols. -/
namespace Go.Vg
open Go Go.RowKit Go.Hs Go.Ty Go.Ex
/-- The number that a code names: a slot's, or a tracked cell's that a slot points at. -/
noncomputable def codeV (σ : St) (c : Nat) : Option Tm := match Nat.blt c 1000000 with
  | true => (match get σ.sl c with | some (some s) => numS s | _ => none)
  | false => (match get σ.sl ((c - 1000000) / 100) with
    | some (some (.tptr id off)) => (match σ.hp[id]? with
      | some (.cells _ l) => (match l[off + (c - 1000000) % 100]? with | some s => numS s | none => none)
      | _ => none)
    | _ => none)
/-- The deepest type of a Go type that asks for nothing. -/
noncomputable def wideT (E : Env) : Nat → TypeId → Option DT
  | 0, _ => none
  | n + 1, t => match und E t with
    | some (.int k) => some (.int k (.c (kLo k)) (.c (kHi k)))
    | some .bool => some .bool
    | some .string => some .str
    | some (.slice e) => (match wideT E n e with | some d => some (.sl .own (.c 0) (.c MAXL) d) | none => none)
    | some (.struct fs) => wideF (wideT E n) fs.toList
    | some (.array m e) => (match wideT E n e with | some d => some (.rep m d) | none => none)
    | some (.interface _) | some (.func ..) => some .any
    | _ => none
where wideF (f : TypeId → Option DT) : List Field → Option DT
  | [] => some .nil
  | x :: r => match f x.type, wideF f r with | some a, some b => some (.pair a b) | _, _ => none
def lookM : List (Nat × Nat × (St → Option DT)) → Nat → Option Tmp → Option (St → Option DT)
  | [], _, _ => none
  | (f, s, d) :: r, fn, dst => match onPath f fn, dst with
    | true, some t => (match Nat.beq s t with | true => some d | false => lookM r fn dst)
    | _, _ => lookM r fn dst
/-- What a thing that is made holds. -/
noncomputable def madeD (cf : Cfg) (fn : Nat) (o : Oper) (σ : St) (t : TypeId) : Option DT := match lookM cf.made fn o.dst with
  | some d => d σ
  | none => wideT cf.E 12 t
noncomputable def xStore (E : Env) (σ : St) (t : TypeId) (x y : Operand) : X1 := match evS σ x, evS σ y, inf E t with
  | some (.tptr id off), some s, some i => (match σ.hp[id]? with
    | some (.cells _ l) => (match noAgt s && (Nat.beq (svCells s).length i.size && (Nat.ble (off + i.size) l.length && (svCells s).all oneS)) with
      | true => some ([(.tup [], { σ with no := σ.no + 1, hp := σ.hp.set id (.cells σ.no (l.take off ++ svCells s ++ l.drop (off + i.size))) })], [])
      | false => none)
    | some (.uni _ d n) => (match s with
      | .agt (.rep n' d') => (match Nat.beq n' n && (Nat.beq off 0 && (Nat.beq i.size (n * d.size) && Nat.beq i.size (n * d'.size))) with
        | true => some ([(.tup [], { σ with no := σ.no + 1, hp := σ.hp.set id (.uni σ.no d' n) })], [])
        | false => none)
      | _ => none)
    | _ => none)
  | some (.uptr id n), some s, some i => (match σ.hp[id]? with
    | some (.uni _ d n') => (match Nat.beq n' n && Nat.beq i.size 1, fit1 σ d s with
      | true, some gs => some ([(.tup [], { σ with no := σ.no + 1, hp := σ.hp.set id (.uni σ.no d n) })], gs)
      | _, _ => none)
    | _ => none)
  | some sx, some s, some i => (match plcS sx with
    | some (.own, d) => (match noAgt s && (Nat.beq d.size i.size && Nat.ble 1 i.size), fitL σ d (svCells s) with
      | true, some (gs, []) => some ([(.tup [], σ)], gs)
      | _, _ => none)
    | _ => none)
  | _, _, _ => none
noncomputable def xAlloc (cf : Cfg) (fn : Nat) (o : Oper) (σ : St) (t : TypeId) : X1 := match und cf.E t, inf cf.E t with
  | some (.array n e), some i => (match i.runs, madeD cf fn o σ e with
    | [(m, v)], some d => (match ofScal v, Nat.beq m n && d.sc σ.ns with
      | some s, true => (match fit1 σ d s with | some gs => some ([(.tptr σ.hp.length 0, addB { σ with no := σ.no + 1 } (.uni σ.no d m))], gs) | none => none)
      | _, _ => none)
    | _, _ => none)
  | _, some i => (match ofScals (rexpand i.runs) with | some l => some ([(.tptr σ.hp.length 0, addB { σ with no := σ.no + 1 } (.cells σ.no l))], []) | none => none)
  | _, _ => none
noncomputable def xBox (σ : St) (x : Operand) : X1 := match evS σ x with
  | some (.agt (.rep n d)) => some ([(.tptr σ.hp.length 0, addB { σ with no := σ.no + 1 } (.uni σ.no d n))], [])
  | some s => (match noAgt s with | true => some ([(.tptr σ.hp.length 0, addB { σ with no := σ.no + 1 } (.cells σ.no (svCells s)))], []) | false => none)
  | none => none
noncomputable def xLoad (E : Env) (σ : St) (t : TypeId) (x : Operand) : X1 := match evS σ x, inf E t with
  | some sx, some i => (match plcS sx with
    | some (m, d) => (match Nat.beq d.size i.size with
      | true => (match freshOf σ d with
        | some (l, σ') => (match packS i.agg l with | some s => some ([(s, σ')], []) | none => none)
        | none => (match i.agg with | true => some ([(.agt d, σ)], []) | false => none))
      | false => let _ := m; none)
    | none => none)
  | _, _ => none
noncomputable def xMake (cf : Cfg) (fn : Nat) (o : Oper) (σ : St) (t : TypeId) (x y : Operand) : X1 := match und cf.E t, evS σ x, evS σ y with
  | some (.slice e), some (.int _ n), some (.int _ n') => (match inf cf.E e, (match lookM cf.made fn o.dst with | some d => d σ | none => wideT cf.E 12 e) with
    | some j, some d => (match ofScals (rexpand j.runs), Nat.ble 1 j.bytes && (Nat.ble 1 j.size && (Nat.beq d.size j.size && d.sc σ.ns)) with
      | some zs, true => (match fitL σ d zs with
        | some (g2, []) => some ([grown σ d n], ⟨σ.hy, .and (.le (.c 0) n) (.le (.mul (.c j.bytes) n) (.c 281474976710656))⟩ :: (teqG σ.hy n' n ++ g2))
        | _ => none)
      | _, _ => none)
    | _, _ => none)
  | _, _, _ => none
noncomputable def xMakeMap (cf : Cfg) (fn : Nat) (o : Oper) (σ : St) (t : TypeId) (r : Option Operand) : X1 := match r, und cf.E t with
  | none, some (.map k _) => (match (match lookM cf.made fn o.dst with | some d => d σ | none => none) with
    | some (.map dk dv) => (match dk.sc σ.ns && dv.sc σ.ns with | true => some ([(.map dk dv, σ)], []) | false => none)
    | _ => (match und cf.E k with
      | some .string => some ([(.kmap σ.hp.length, addB σ (.kmap []))], [])
      | _ => none))
  | _, _ => none
noncomputable def keyG (E : Env) (kt : TypeId) (hy : List Hy) : DT → Option (List Goal)
  | .int q _ _ => match und E kt with | some (.int q') => (match kbeq q' q with | true => some [] | false => none) | _ => none
  | .rep n (.int q lo hi) => match und E kt with
    | some (.array n' e) => (match und E e with
      | some (.int q') => (match kbeq q' q && Nat.beq n' n with | true => some [⟨hy, .le (.c (kLo q)) lo⟩, ⟨hy, .le hi (.c (kHi q))⟩] | false => none)
      | _ => none)
    | _ => none
  | _ => none
noncomputable def xLookup (cf : Cfg) (σ : St) (t : TypeId) (x ix : Operand) (ok : Bool) : X1 := match und cf.E t, evS σ x, evS σ ix with
  | some (.map kt et), some (.map dk dv), some s => (match keyG cf.E kt σ.hy dk, fitV σ dk s, inf cf.E et, freshOf σ dv with
    | some g1, some g2, some j, some ([r], σ1) => (match j.runs, !j.agg && (Nat.beq dv.size 1 && (!wideD dv && memN kt cf.keys)) with
      | [(m, zv)], true => (match ofScal zv, Nat.beq m 1 with
        | some z, true => some ([(if ok then .tup [r, .bool true] else r, σ1), (if ok then .tup [z, .bool false] else z, σ)], g1 ++ g2)
        | _, _ => none)
      | _, _ => none)
    | _, _, _, _ => none)
  | some (.map kt _), some (.kmap id), some (.lit (.string s)) => (match σ.hp[id]?, und cf.E kt, ok with
    | some (.kmap l), some .string, false => (match kfind s l with | some (some (_, sv)) => some ([(sv, σ)], []) | _ => none)
    | _, _, _ => none)
  | _, _, _ => none
noncomputable def xUpd (cf : Cfg) (σ : St) (t : TypeId) (x ix y : Operand) : X1 := match und cf.E t, evS σ x, evS σ ix, evS σ y with
  | some (.map kt _), some (.map dk dv), some s, some sv => (match keyG cf.E kt σ.hy dk, fitV σ dk s, fitV σ dv sv, memN kt cf.keys with
    | some g1, some g2, some g3, true => some ([(.tup [], σ)], g1 ++ (g2 ++ g3))
    | _, _, _, _ => none)
  | some (.map kt _), some (.kmap id), some (.lit (.string s)), some sv => (match σ.hp[id]?, und cf.E kt with
    | some (.kmap l), some .string => (match kfind s l with | some none => some ([(.tup [], { σ with hp := σ.hp.set id (.kmap (l ++ [(.lit (.string s), sv)])) })], []) | _ => none)
    | _, _ => none)
  | _, _, _, _ => none
/-- A literal that is typed from the beginning. -/
noncomputable def xBuildTyped (cf : Cfg) (fn : Nat) (o : Oper) (σ : St) (t : TypeId) (n : Nat) (parts : Array (Nat × Operand)) : X1 := match lookM cf.made fn o.dst, und cf.E t with
  | some dd, some (.slice e) => (match dd σ, inf cf.E e with
    | some d, some j => (match (match n, parts.toList with
        | 1, [(0, x)] => (match evS σ x with | some (.agt (.rep m d1)) => some (m, d1) | _ => none)
        | _, _ => none) with
      | some (m, d1) => (match Nat.beq j.size (m * d1.size) && (Nat.ble 1 j.size && (Nat.ble j.size 1048576 && (Nat.beq d.size j.size && (d.sc σ.ns && wideD d)))), wkD σ.hy (.rep m d1) d with
        | true, some gs => some ([grown σ d (.c 1)], gs)
        | _, _ => none)
      | none => (match evP σ parts.toList, ofScals (rexpand j.runs), Nat.ble (n * j.bytes) 1048576 && (Nat.ble (n * j.size) 1048576 && (Nat.ble n 1048576 && (Nat.beq d.size j.size && (Nat.ble 1 j.size && d.sc σ.ns)))) with
        | some ps, some zs, true => (match fillS (fun i => some (i * j.size, j.size)) ps (repS n zs) with
          | some l => (match fitN σ d n l with | some gs => some ([grown σ d (.c n)], gs) | none => none)
          | none => none)
        | _, _, _ => none))
    | _, _ => none)
  | _, _ => none
noncomputable def xBuildSlice (E : Env) (σ : St) (t : TypeId) (n : Nat) (parts : Array (Nat × Operand)) : X1 := match und E t with
  | some (.slice e) => (match inf E e with
    | some j => (match (match n, parts.toList with
        | 1, [(0, x)] => (match evS σ x with | some (.agt (.rep m d)) => some (m, d) | _ => none)
        | _, _ => none) with
      | some (m, d) => (match Nat.beq j.size (m * d.size) && (Nat.ble 1 j.size && Nat.ble j.size 1048576) with
        | true => some ([(.tsl σ.hp.length 0 1, addB { σ with no := σ.no + 1 } (.uni σ.no d m))], [])
        | false => none)
      | none => (match evP σ parts.toList, ofScals (rexpand j.runs), Nat.ble (n * j.bytes) 1048576 && Nat.ble (n * j.size) 1048576 with
        | some ps, some zs, true => (match fillS (fun i => some (i * j.size, j.size)) ps (repS n zs) with
          | some l => some ([(.tsl σ.hp.length 0 n, addB { σ with no := σ.no + 1 } (.cells σ.no l))], [])
          | none => none)
        | _, _, _ => none))
    | none => none)
  | _ => none
noncomputable def xSlice (E : Env) (σ : St) (t : TypeId) (x : Operand) (lo hi mx : Option Operand) : X1 := match und E t, evS σ x, mx with
  | some (.slice e), some (.sl _ .own d n), none => (match inf E e, bndS σ lo (.c 0), bndS σ hi n with
    | some j, some l, some h => (match Nat.beq d.size j.size with
      | true => some ([grown σ d (.sub h l)], [⟨σ.hy, .and (.le (.c 0) l) (.and (.le l h) (.le h n))⟩])
      | false => none)
    | _, _, _ => none)
  | _, _, _ => none
noncomputable def xDiv (σ : St) (op : BinOp) (x y : Operand) : X1 := match op, evS σ x, evS σ y with
  | .rem, some (.int k m), some (.int k' n) => (match kbeq k' k with
    | true => some ([(.int k (.s σ.ns), assume (.lt (.s σ.ns) n) (assume (.lt (.sub (.c 0) n) (.s σ.ns)) (assume (.imp (.le (.c 0) m) (.and (.le (.c 0) (.s σ.ns)) (.le (.s σ.ns) m))) { σ with ns := σ.ns + 1 })))], [⟨σ.hy, .lt (.c 0) n⟩])
    | false => none)
  | .quo, some (.int k m), some (.int k' n) => (match kbeq k' k with
    | true => some ([(.int k (.s σ.ns), assume (.le (.c 0) (.s σ.ns)) (assume (.le (.s σ.ns) m) (assume (.le (.mul (.s σ.ns) n) m) (assume (.lt m (.mul (.add (.s σ.ns) (.c 1)) n)) { σ with ns := σ.ns + 1 }))))], [⟨σ.hy, .and (.lt (.c 0) n) (.and (.le (.c 0) m) (.le m (.c (kHi k))))⟩])
    | false => none)
  | _, _, _ => none
/-- The type of the elements of what is appended to. -/
noncomputable def appD (cf : Cfg) (fn : Nat) (o : Oper) (σ : St) (s x : SV) (e : TypeId) : Option DT := match lookM cf.made fn o.dst, s, x with
  | some d, _, _ => d σ
  | none, .sl _ _ d _, _ => some d
  | none, _, .sl _ _ d _ => some d
  | none, _, _ => wideT cf.E 12 e
noncomputable def xAppend (cf : Cfg) (fn : Nat) (o : Oper) (σ : St) (c : Call) : X1 := match c.args.toList, c.argTypes.toList with
  | [s, x], [st, xt] => (match evS σ s, evS σ x, und cf.E st, und cf.E xt with
    | some ss, some sx, some (.slice e), some (.slice _) => (match inf cf.E e, appD cf fn o σ ss sx e with
      | some j, some d => (match baseS d σ.hy ss, Nat.beq d.size j.size && (Nat.ble 1 j.size && (Nat.ble 1 j.bytes && d.sc σ.ns)) with
        | some (k, g1), true => (match sx with
          | .tsl id off n => (match σ.hp[id]?, Nat.ble 1 n && Nat.ble (n * j.bytes + j.bytes) 1048576 with
            | some (.cells _ l), true => (match fitN σ d n ((l.drop off).take (n * j.size)) with
              | some g2 => some ([grown σ d (.add k (.c n))], ⟨σ.hy, roomH k (.c n) j.bytes⟩ :: (g1 ++ g2))
              | none => none)
            | some (.uni _ d1 m), true => (match d, Nat.beq off 0 && Nat.beq n 1 with
              | .rep m' d0, true => (match Nat.beq m' m, wkD σ.hy (.rep m d1) (.rep m d0) with
                | true, some g2 => some ([grown σ (.rep m d0) (.add k (.c 1))], ⟨σ.hy, roomH k (.c 1) j.bytes⟩ :: (g1 ++ g2))
                | _, _ => none)
              | _, _ => none)
            | _, _ => none)
          | sx => (match srcS d σ.hy sx with
            | some (m, g2) => some ([grown σ d (.add k m)], ⟨σ.hy, roomH k m j.bytes⟩ :: (g1 ++ g2))
            | none => none))
        | _, _ => none)
      | _, _ => none)
    | _, _, _, _ => none)
  | _, _ => none
noncomputable def xMM (σ : St) (mn : Bool) (c : Call) : X1 := match c.args.toList with
  | [x, y] => (match evS σ x, evS σ y with
    | some (.int k m), some (.int _ n) => some ([(.int k (.s σ.ns), assume (.or (.eq (.s σ.ns) m) (.eq (.s σ.ns) n)) (assume (if mn then .and (.le (.s σ.ns) m) (.le (.s σ.ns) n) else .and (.le m (.s σ.ns)) (.le n (.s σ.ns))) { σ with ns := σ.ns + 1 }))], [])
    | _, _ => none)
  | _ => none
abbrev CallF := Nat → List SV → St → X1
noncomputable def xCall (E : Env) (call : CallF) (σ : St) (f : Operand) (c : Call) : X1 := match evS σ f, evSL σ c.args.toList with
  | some (.fn g xs ys), some as => (match get E.fn g with
    | some fn => (match fn.body with | some _ => call g (xs ++ (as ++ ys)) σ | none => none)
    | none => none)
  | _, _ => none
/-- Any operation. -/
noncomputable def x1a (cf : Cfg) (call : CallF) (fn : Nat) (o : Oper) (σ : St) : X1 := match xh cf fn σ.hp o σ with
  | some (s, σ', gs) => some ([(s, σ')], gs)
  | none => (match o.op with
    | .load t x => xLoad cf.E σ t x
    | .store t x y => xStore cf.E σ t x y
    | .alloc t => xAlloc cf fn o σ t
    | .box _ x => xBox σ x
    | .makeSlice t x y => xMake cf fn o σ t x y
    | .makeMap t r => xMakeMap cf fn o σ t r
    | .lookup t x ix ok => xLookup cf σ t x ix ok
    | .mapUpdate t m k v => xUpd cf σ t m k v
    | .insert t m k v => xUpd cf σ t m k v
    | .buildSlice t n ps => (match xBuildTyped cf fn o σ t n ps with | some r => some r | none => xBuildSlice cf.E σ t n ps)
    | .slice t x lo hi mx => xSlice cf.E σ t x lo hi mx
    | .binOp op _ x y _ => xDiv σ op x y
    | .call c => (match c.callee with
      | .builtin .append => xAppend cf fn o σ c
      | .builtin .min => xMM σ true c
      | .builtin .max => xMM σ false c
      | .value f => xCall cf.E call σ f c
      | _ => none)
    | _ => none)
/-- Any operation; one that is not covered must not be reached. -/
noncomputable def x1 (cf : Cfg) (call : CallF) (fn : Nat) (o : Oper) (σ : St) : X1 := match x1a cf call fn o σ with
  | some r => some r
  | none => some ([], [⟨σ.hy, .ff⟩])
end Go.Vg
/- The executor's operations are right. -/
namespace Go.Vg
open Go Go.RowKit Go.Hs Go.Ty Go.Ex
/-- What is known of the keys' types. -/
def KeysOK (cf : Cfg) : Prop := (∀ s ∈ cf.sums, s.ok cf.E.P) ∧ ∀ k, memN k cf.keys = true → (∃ q, und cf.E k = some (.int q)) ∨ ∃ n e q, und cf.E k = some (.array n e) ∧ und cf.E e = some (.int q) ∧ cf.E.P.cellsOf e = 1 ∧ cf.E.P.cellsOf k = n ∧ cf.E.P.keyType k = true ∧ 1 ≤ cf.E.P.types.size ∧ WideMaps.KeyLaw cf.E.P k
/-- What a call that is carried out in place comes to. -/
def CallFOK (cf : Cfg) (call : CallF) : Prop := ∀ f args σ outs gs, call f args σ = some (outs, gs) → (∀ g ∈ gs, g.ok) → CallsOK cf.E.P f σ args outs
section
variable {cf : Cfg} (hE : EnvOK cf.E)
include hE
theorem keyG_ok (hK : KeysOK cf) {kt : TypeId} {hy : List Hy} {d : DT} {gs : List Goal} (h : keyG cf.E kt hy d = some gs) (hm : memN kt cf.keys = true) : KeyC cf.E.P kt d hy gs := by
  unfold keyG at h
  split at h
  · split at h
    · rename_i q' hu
      split at h
      · rename_i hk
        have hk := kbeq_eq hk
        subst hk
        cases h
        exact keyC_int hE hu
      · cases h
    · cases h
  · split at h
    · rename_i n q lo hi n' e hu
      split at h
      · rename_i q' he
        split at h
        · rename_i hk
          rw [Bool.and_eq_true] at hk
          have h1 := kbeq_eq hk.1
          have h2 := Nat.eq_of_beq_eq_true hk.2
          subst h1; subst h2
          cases h
          rcases hK.2 kt hm with ⟨q, h3⟩ | ⟨n2, e2, q2, h3, h4, h5, h6, h7, h8, h9⟩
          · rw [hu] at h3; cases h3
          · rw [hu] at h3; cases h3
            exact keyC_row hE hu he h5 h6 h7 h8 h9
        · cases h
      · cases h
    · cases h
  · cases h
theorem xStore_ok {o : Oper} {σ : St} {t : TypeId} {x y : Operand} (ho : o.op = .store t x y) : X1OK cf.E.P o σ (xStore cf.E σ t x y) := by
  unfold xStore; split
  · rename_i id off s i hx hy hi
    split
    · rename_i ver l hl
      split
      · rename_i hc
        simp only [Bool.and_eq_true] at hc
        exact x1_some fun _ => op_store_tptr hE ho hx hy hc.1 hl hi (Nat.eq_of_beq_eq_true hc.2.1) (Nat.le_of_ble_eq_true hc.2.2.1) hc.2.2.2
      · exact x1_none
    · rename_i ver d n hl
      split
      · rename_i n' d'
        split
        · rename_i hc
          simp only [Bool.and_eq_true] at hc
          have h1 := Nat.eq_of_beq_eq_true hc.1
          have h2 := Nat.eq_of_beq_eq_true hc.2.1
          subst h1; subst h2
          exact x1_some fun _ => op_store_uni hE ho hx hy hl hi (Nat.eq_of_beq_eq_true hc.2.2.1) (Nat.eq_of_beq_eq_true hc.2.2.2)
        · exact x1_none
      · exact x1_none
    · exact x1_none
  · rename_i id n s i hx hy hi
    split
    · rename_i ver d n' hl
      split
      · rename_i gs hc hf
        rw [Bool.and_eq_true] at hc
        have h1 := Nat.eq_of_beq_eq_true hc.1
        subst h1
        exact x1_some fun hg => op_store_uptr hE ho hx hy hl hi (Nat.eq_of_beq_eq_true hc.2) hf hg
      · exact x1_none
    · exact x1_none
  · rename_i sx s i _ _ hx hy hi
    split
    · rename_i d hp
      split
      · rename_i gs hc hf
        simp only [Bool.and_eq_true] at hc
        exact x1_some fun hg => op_store_plc hE ho hx hp hy hc.1 hi (Nat.eq_of_beq_eq_true hc.2.1) (Nat.le_of_ble_eq_true hc.2.2) hf hg
      · exact x1_none
    · exact x1_none
  · exact x1_none
theorem xAlloc_ok {fn : Nat} {o : Oper} {σ : St} {t : TypeId} (ho : o.op = .alloc t) : X1OK cf.E.P o σ (xAlloc cf fn o σ t) := by
  unfold xAlloc; split
  · rename_i n e i hu hi
    split
    · rename_i m v d hr hd
      split
      · rename_i s hs hc
        rw [Bool.and_eq_true] at hc
        split
        · rename_i gs hf
          exact x1_some fun hg => op_alloc_uni hE ho hi hr hs hf hg hc.2
        · exact x1_none
      · exact x1_none
    · exact x1_none
  · rename_i i hi _
    split
    · exact x1_some fun _ => op_alloc hE ho hi ‹_›
    · exact x1_none
  · exact x1_none
omit hE in
theorem xBox_ok {P : Program} {o : Oper} {σ : St} {t : TypeId} {x : Operand} (ho : o.op = .box t x) : X1OK P o σ (xBox σ x) := by
  unfold xBox; split
  · exact x1_some fun _ => op_box_agt ho ‹_›
  · rename_i s _ hs
    split
    · exact x1_some fun _ => op_box ho hs ‹_›
    · exact x1_none
  · exact x1_none
theorem xLoad_ok {o : Oper} {σ : St} {t : TypeId} {x : Operand} (ho : o.op = .load t x) : X1OK cf.E.P o σ (xLoad cf.E σ t x) := by
  unfold xLoad; split
  · rename_i sx i hx hi
    split
    · rename_i m d hp
      split
      · rename_i hs
        have hs := Nat.eq_of_beq_eq_true hs
        split
        · rename_i l σ' hf
          split
          · exact x1_some fun _ => op_load_plc hE ho hx hp hi hs hf ‹_›
          · exact x1_none
        · split
          · rename_i ha
            exact x1_some fun _ => op_load_agt hE ho hx hp hi ha hs
          · exact x1_none
      · exact x1_none
    · exact x1_none
  · exact x1_none
theorem xMake_ok {fn : Nat} {o : Oper} {σ : St} {t : TypeId} {x y : Operand} (ho : o.op = .makeSlice t x y) : X1OK cf.E.P o σ (xMake cf fn o σ t x y) := by
  unfold xMake; split
  · rename_i e k n k' n' hu hx hy
    split
    · rename_i j d hj _
      split
      · rename_i zs hz hc
        simp only [Bool.and_eq_true] at hc
        split
        · rename_i g2 hf
          refine x1_some fun hg => op_make hE ho hx hy hu hj (fun g h => hg g (List.mem_cons_of_mem _ (List.mem_append_left _ h))) (hg _ (List.mem_cons_self ..)) (Nat.le_of_ble_eq_true hc.1) (Nat.le_of_ble_eq_true hc.2.1) (Nat.eq_of_beq_eq_true hc.2.2.1) hz hf (fun g h => hg g (List.mem_cons_of_mem _ (List.mem_append_right _ h))) fun C E a w hi => inst_of_inv hi hc.2.2.2
        · exact x1_none
      · exact x1_none
    · exact x1_none
  · exact x1_none
omit hE in
theorem xMakeMap_ok {fn : Nat} {o : Oper} {σ : St} {t : TypeId} {r : Option Operand} (ho : o.op = .makeMap t r) : X1OK cf.E.P o σ (xMakeMap cf fn o σ t r) := by
  unfold xMakeMap; split
  · rename_i k v hu
    split
    · split
      · rename_i hc
        rw [Bool.and_eq_true] at hc
        exact x1_some fun _ => op_makeMap ho hc.1 hc.2
      · exact x1_none
    · split
      · exact x1_some fun _ => op_makeKMap ho
      · exact x1_none
  · exact x1_none
theorem xLookup_ok (hK : KeysOK cf) {o : Oper} {σ : St} {t : TypeId} {x ix : Operand} {ok : Bool} (ho : o.op = .lookup t x ix ok) : X1OK cf.E.P o σ (xLookup cf σ t x ix ok) := by
  unfold xLookup; split
  · rename_i kt et dk dv s hu hx hi
    split
    · rename_i g1 g2 j r σ1 hk hf hj hfr
      split
      · rename_i m zv hr hc
        simp only [Bool.and_eq_true] at hc
        split
        · rename_i z hz hm
          have hm := Nat.eq_of_beq_eq_true hm
          subst hm
          refine x1_some fun hg => op_lookup hE ho hx hi hu (keyG_ok hE hK hk hc.2.2.2) (fun g h => hg g (List.mem_append_left _ h)) hf (fun g h => hg g (List.mem_append_right _ h)) hj hr (by simpa using hc.1) hz (Nat.eq_of_beq_eq_true hc.2.1) ?_ hfr
          have hw := hc.2.2.1
          cases dv <;> first | rfl | (simp [wideD] at hw)
        · exact x1_none
      · exact x1_none
    · exact x1_none
  · rename_i kt et id s hu hx hi
    split
    · rename_i l hl hk
      split
      · exact x1_some fun _ => op_lookupK hE ho hx hi hl hu hk ‹_›
      · exact x1_none
    · exact x1_none
  · exact x1_none
theorem xUpd_ok (hK : KeysOK cf) {o : Oper} {σ : St} {t : TypeId} {x ix y : Operand} (ho : o.op = .mapUpdate t x ix y ∨ o.op = .insert t x ix y) : X1OK cf.E.P o σ (xUpd cf σ t x ix y) := by
  unfold xUpd; split
  · rename_i kt et dk dv s sv hu hx hi hy
    split
    · rename_i g1 g2 g3 hk hf hf3 hm
      exact x1_some fun hg => op_mapUpd hE ho hx hi hy hu (keyG_ok hE hK hk hm) (fun g h => hg g (List.mem_append_left _ h)) hf (fun g h => hg g (List.mem_append_right _ (List.mem_append_left _ h))) hf3 (fun g h => hg g (List.mem_append_right _ (List.mem_append_right _ h)))
    · exact x1_none
  · rename_i kt et id s sv hu hx hi hy
    split
    · rename_i l hl hk
      split
      · exact x1_some fun _ => op_insertK hE ho hx hi hy hl hu hk ‹_›
      · exact x1_none
    · exact x1_none
  · exact x1_none
theorem xBuildSlice_ok {o : Oper} {σ : St} {t : TypeId} {n : Nat} {ps : Array (Nat × Operand)} (ho : o.op = .buildSlice t n ps) : X1OK cf.E.P o σ (xBuildSlice cf.E σ t n ps) := by
  unfold xBuildSlice; split
  · rename_i e hu
    split
    · rename_i j hj
      split
      · rename_i m d hmd
        split at hmd
        · rename_i x hps
          split at hmd
          · rename_i m' d' hx
            cases hmd
            split
            · rename_i hc
              simp only [Bool.and_eq_true] at hc
              refine x1_some fun _ => op_buildSlice_agt hE (t := t) (x := x) ?_ hu hj hx (Nat.eq_of_beq_eq_true hc.1) (Nat.le_of_ble_eq_true hc.2.1) hc.2.2
              rw [ho, toList_one hps]
            · exact x1_none
          · cases hmd
        · cases hmd
      · split
        · rename_i ps' zs hp hz hc
          rw [Bool.and_eq_true] at hc
          split
          · exact x1_some fun _ => op_buildSlice hE ho hu hj hp hz ‹_› hc.1 hc.2
          · exact x1_none
        · exact x1_none
    · exact x1_none
  · exact x1_none
theorem xBuildTyped_ok {fn : Nat} {o : Oper} {σ : St} {t : TypeId} {n : Nat} {ps : Array (Nat × Operand)} (ho : o.op = .buildSlice t n ps) : X1OK cf.E.P o σ (xBuildTyped cf fn o σ t n ps) := by
  unfold xBuildTyped; split
  · rename_i dd e _ hu
    split
    · rename_i d j _ hj
      split
      · rename_i m d1 hmd
        split at hmd
        · rename_i x hps
          split at hmd
          · rename_i m' d' hx
            cases hmd
            split
            · rename_i gs hc hw
              simp only [Bool.and_eq_true] at hc
              refine x1_some fun hg => op_buildSlice_agtT hE (t := t) (x := x) ?_ hu hj hx (Nat.eq_of_beq_eq_true hc.1) (Nat.le_of_ble_eq_true hc.2.1) hc.2.2.1 (Nat.eq_of_beq_eq_true hc.2.2.2.1) hc.2.2.2.2.1 hw hg
              rw [ho, toList_one hps]
            · exact x1_none
          · cases hmd
        · cases hmd
      · split
        · rename_i ps' zs hp hz hc
          simp only [Bool.and_eq_true] at hc
          split
          · rename_i l hf
            split
            · rename_i gs hn
              exact x1_some fun hg => op_buildSliceT hE ho hu hj hp hz hf hc.1 hc.2.1 (Nat.le_of_ble_eq_true hc.2.2.1) (Nat.eq_of_beq_eq_true hc.2.2.2.1) (Nat.le_of_ble_eq_true hc.2.2.2.2.1) hc.2.2.2.2.2 hn hg
            · exact x1_none
          · exact x1_none
        · exact x1_none
    · exact x1_none
  · exact x1_none
theorem xSlice_ok {o : Oper} {σ : St} {t : TypeId} {x : Operand} {lo hi mx : Option Operand} (ho : o.op = .slice t x lo hi mx) : X1OK cf.E.P o σ (xSlice cf.E σ t x lo hi mx) := by
  unfold xSlice; split
  · rename_i e id d n hu hx
    split
    · rename_i j l h hj hl hh
      split
      · rename_i hs
        exact x1_some fun hg => op_slice_own hE ho hx hu hj (Nat.eq_of_beq_eq_true hs) hl hh (hg _ (List.mem_cons_self ..))
      · exact x1_none
    · exact x1_none
  · exact x1_none
omit hE in
theorem xDiv_ok {P : Program} {o : Oper} {σ : St} {op : BinOp} {t yt : TypeId} {x y : Operand} (ho : o.op = .binOp op t x y yt) : X1OK P o σ (xDiv σ op x y) := by
  unfold xDiv; split
  · rename_i k m k' n hx hy
    split
    · rename_i hk
      have hk := kbeq_eq hk
      subst hk
      exact x1_some fun hg => op_rem ho hx hy (hg _ (List.mem_cons_self ..))
    · exact x1_none
  · rename_i k m k' n hx hy
    split
    · rename_i hk
      have hk := kbeq_eq hk
      subst hk
      exact x1_some fun hg => op_quo ho hx hy (hg _ (List.mem_cons_self ..))
    · exact x1_none
  · exact x1_none
omit hE in
theorem toList_two {α : Type} {a : Array α} {x y : α} (h : a.toList = [x, y]) : a = #[x, y] := Array.toList_inj.1 h
theorem xAppend_ok {fn : Nat} {o : Oper} {σ : St} {c : Call} (ho : o.op = .call c) (hc : c.callee = .builtin .append) : X1OK cf.E.P o σ (xAppend cf fn o σ c) := by
  unfold xAppend; split
  · rename_i s x st xt ha hat
    have ho' : o.op = .call { callee := .builtin .append, args := #[s, x], argTypes := #[st, xt] } := by
      obtain ⟨callee, args, argTypes⟩ := c
      simp only at hc ha hat
      rw [ho, hc, toList_two ha, toList_two hat]
    split
    · rename_i ss sx e e' hs hx hu hu'
      split
      · rename_i j d hj hd
        split
        · rename_i k g1 hb hc
          simp only [Bool.and_eq_true] at hc
          split
          · rename_i id off n
            split
            · rename_i ver l hl hn
              rw [Bool.and_eq_true] at hn
              split
              · rename_i g2 hf
                exact x1_some fun hg => op_append_lit hE ho' hs hx hu hu' hj (Nat.eq_of_beq_eq_true hc.1) (Nat.le_of_ble_eq_true hc.2.1) (Nat.le_of_ble_eq_true hc.2.2.1) (Nat.le_of_ble_eq_true hn.1) (Nat.le_of_ble_eq_true hn.2) (hg _ (List.mem_cons_self ..)) hb (fun g h => hg g (List.mem_cons_of_mem _ (List.mem_append_left _ h))) hl hf (fun g h => hg g (List.mem_cons_of_mem _ (List.mem_append_right _ h))) fun C E a w hi => inst_of_inv hi hc.2.2.2
              · exact x1_none
            · rename_i ver d1 m hl hn
              rw [Bool.and_eq_true] at hn
              split
              · rename_i m' d0 hon
                rw [Bool.and_eq_true] at hon
                have h1 := Nat.eq_of_beq_eq_true hon.1
                have h2 := Nat.eq_of_beq_eq_true hon.2
                subst h1; subst h2
                split
                · rename_i g2 hm hw
                  have hm := Nat.eq_of_beq_eq_true hm
                  subst hm
                  exact x1_some fun hg => op_append_uni hE ho' hs hx hu hu' hj (Nat.eq_of_beq_eq_true hc.1) (Nat.le_of_ble_eq_true hc.2.1) (Nat.le_of_ble_eq_true hc.2.2.1) (Nat.le_of_ble_eq_true hn.2) (hg _ (List.mem_cons_self ..)) hb (fun g h => hg g (List.mem_cons_of_mem _ (List.mem_append_left _ h))) hl hw (fun g h => hg g (List.mem_cons_of_mem _ (List.mem_append_right _ h))) hc.2.2.2
                · exact x1_none
              · exact x1_none
            · exact x1_none
          · split
            · rename_i m g2 hsx
              exact x1_some fun hg => op_append_sl hE ho' hs hx hu hu' hj (Nat.eq_of_beq_eq_true hc.1) (Nat.le_of_ble_eq_true hc.2.2.1) hb (fun g h => hg g (List.mem_cons_of_mem _ (List.mem_append_left _ h))) hsx (fun g h => hg g (List.mem_cons_of_mem _ (List.mem_append_right _ h))) (hg _ (List.mem_cons_self ..)) fun C E a w hi => inst_of_inv hi hc.2.2.2
            · exact x1_none
        · exact x1_none
      · exact x1_none
    · exact x1_none
  · exact x1_none
omit hE in
theorem xMM_ok {P : Program} {o : Oper} {σ : St} {mn : Bool} {c : Call} (ho : o.op = .call c) (hc : c.callee = .builtin (if mn then .min else .max)) : X1OK P o σ (xMM σ mn c) := by
  unfold xMM; split
  · rename_i x y ha
    split
    · rename_i k m k' n hx hy
      refine x1_some fun _ => op_mm (ats := c.argTypes) ?_ hx hy
      obtain ⟨callee, args, argTypes⟩ := c
      simp only at hc ha
      rw [ho, hc, toList_two ha]
    · exact x1_none
  · exact x1_none
theorem xCall_ok {call : CallF} (hcall : CallFOK cf call) {o : Oper} {σ : St} {f : Operand} {c : Call} (ho : o.op = .call c) (hc : c.callee = .value f) : X1OK cf.E.P o σ (xCall cf.E call σ f c) := by
  unfold xCall; split
  · rename_i g xs ys as hf ha
    split
    · rename_i fn hfn
      split
      · rename_i body hb
        obtain ⟨h1, h2⟩ := hE.fn g fn hfn
        intro outs gs h hg
        refine op_call (args := c.args) (ats := c.argTypes) ?_ hf ha h1 h2 (by rw [hb]; rfl) (hcall _ _ _ _ _ h hg)
        obtain ⟨callee, args, argTypes⟩ := c
        simp only at hc
        rw [ho, hc]
      · exact x1_none
    · exact x1_none
  · exact x1_none
theorem x1a_ok (hK : KeysOK cf) {call : CallF} (hcall : CallFOK cf call) (fn : Nat) (o : Oper) (σ : St) : X1OK cf.E.P o σ (x1a cf call fn o σ) := by
  unfold x1a; split
  · rename_i s σ' gs h
    exact x1_some fun hg => (xh_ok hE fn σ.hp o σ _ _ _ h hg).op
  · split
    · exact xLoad_ok hE ‹_›
    · exact xStore_ok hE ‹_›
    · exact xAlloc_ok hE ‹_›
    · exact xBox_ok ‹_›
    · exact xMake_ok hE ‹_›
    · exact xMakeMap_ok ‹_›
    · exact xLookup_ok hE hK ‹_›
    · exact xUpd_ok hE hK (.inl ‹_›)
    · exact xUpd_ok hE hK (.inr ‹_›)
    · rename_i ho
      split
      · rename_i r hr
        exact fun outs gs e hg => by cases e; exact xBuildTyped_ok hE ho _ _ hr hg
      · exact xBuildSlice_ok hE ho
    · exact xSlice_ok hE ‹_›
    · exact xDiv_ok ‹_›
    · rename_i c ho
      split
      · exact xAppend_ok hE ho ‹_›
      · exact xMM_ok (mn := true) ho ‹_›
      · exact xMM_ok (mn := false) ho ‹_›
      · exact xCall_ok hE hcall ho ‹_›
      · exact x1_none
    · exact x1_none
omit hE in
theorem dead_op {P : Program} {o : Oper} {σ : St} (h : Goal.ok ⟨σ.hy, .ff⟩) : OpOK P o σ [] := fun _C E _a _w hi _ _ _ _ => (h (tot E.ρ) fun x hx => (hi.hy x hx).2).elim
theorem x1_ok (hK : KeysOK cf) {call : CallF} (hcall : CallFOK cf call) (fn : Nat) (o : Oper) (σ : St) : X1OK cf.E.P o σ (x1 cf call fn o σ) := by
  unfold x1; split
  · rename_i r hr
    exact fun outs gs e hg => by cases e; exact x1a_ok hE hK hcall fn o σ _ _ hr hg
  · exact x1_some fun hg => dead_op (hg _ (List.mem_cons_self ..))
end
end Go.Vg
/- The executor: regions. -/
namespace Go.Vg
open Go Go.RowKit Go.Hs Go.Ty Go.Ex
abbrev XR (α : Type) := Option (List α × List Goal)
def mapR {α β : Type} (f : α → XR β) : List α → XR β
  | [] => some ([], [])
  | a :: l => match f a with
    | some (b, g) => (match mapR f l with | some (bs, gs) => some (b ++ bs, g ++ gs) | none => none)
    | none => none
theorem mapR_mem {α β : Type} {f : α → XR β} : ∀ {l : List α} {bs : List β} {gs : List Goal}, mapR f l = some (bs, gs) → ∀ a ∈ l, ∃ b g, f a = some (b, g) ∧ (∀ x ∈ b, x ∈ bs) ∧ ∀ x ∈ g, x ∈ gs := by
  intro l
  induction l with
  | nil => intro bs gs _ a ha; cases ha
  | cons x l ih =>
    intro bs gs h a ha
    simp only [mapR] at h
    split at h
    · rename_i b g hf
      split at h
      · rename_i bs' gs' hm
        cases h
        rcases List.mem_cons.1 ha with rfl | ha
        · exact ⟨b, g, hf, fun x hx => List.mem_append_left _ hx, fun x hx => List.mem_append_left _ hx⟩
        · obtain ⟨b', g', h1, h2, h3⟩ := ih hm a ha
          exact ⟨b', g', h1, fun x hx => List.mem_append_right _ (h2 x hx), fun x hx => List.mem_append_right _ (h3 x hx)⟩
      · cases h
    · cases h
def joinR {α : Type} (x y : XR α) : XR α := match x with
  | some (a, g) => (match y with | some (b, h) => some (a ++ b, g ++ h) | none => none)
  | none => none
def bindR {α β : Type} (x : XR α) (f : α → XR β) : XR β := match x with
  | some (l, g) => (match mapR f l with | some (b, h) => some (b, g ++ h) | none => none)
  | none => none
theorem bindR_some {α β : Type} {x : XR α} {f : α → XR β} {bs : List β} {gs : List Goal} (h : bindR x f = some (bs, gs)) : ∃ l g, x = some (l, g) ∧ (∀ q ∈ g, q ∈ gs) ∧ ∀ a ∈ l, ∃ b g', f a = some (b, g') ∧ (∀ y ∈ b, y ∈ bs) ∧ ∀ q ∈ g', q ∈ gs := by
  unfold bindR at h
  split at h
  · rename_i l g
    split at h
    · rename_i b h' hm
      cases h
      refine ⟨l, g, rfl, fun q hq => List.mem_append_left _ hq, fun a ha => ?_⟩
      obtain ⟨b', g', h1, h2, h3⟩ := mapR_mem hm a ha
      exact ⟨b', g', h1, h2, fun q hq => List.mem_append_right _ (h3 q hq)⟩
    · cases h
  · cases h
theorem joinR_some {α : Type} {x y : XR α} {l : List α} {gs : List Goal} (h : joinR x y = some (l, gs)) : ∃ a g b k, x = some (a, g) ∧ y = some (b, k) ∧ l = a ++ b ∧ gs = g ++ k := by
  unfold joinR at h
  split at h
  · rename_i a g
    split at h
    · rename_i b k
      cases h
      exact ⟨a, g, b, k, rfl, rfl, rfl, rfl⟩
    · cases h
  · cases h
noncomputable def pickFork (σ : St) (o : Oper) : Option (Nat × Hy) := match o.op with
  | .pick (.tmp d) _ _ => (match get σ.sl d with | some (some (.cmp k)) => some (d, k) | _ => none)
  | _ => none
noncomputable def needFork (ops : Array Oper) (σ : St) (o : Oper) : Option (Nat × Hy) := match o.guard with
  | some (j, _) => (match (ops[j]?).bind (·.dst) with
    | some d => (match get σ.sl d with | some (some (.cmp k)) => some (d, k) | _ => pickFork σ o)
    | none => pickFork σ o)
  | none => pickFork σ o
theorem pickFork_get {σ : St} {o : Oper} {d : Nat} {k : Hy} (h : pickFork σ o = some (d, k)) : get σ.sl d = some (some (.cmp k)) := by
  unfold pickFork at h
  split at h
  · split at h
    · cases h; assumption
    · cases h
  · cases h
theorem needFork_get {ops : Array Oper} {σ : St} {o : Oper} {d : Nat} {k : Hy} (h : needFork ops σ o = some (d, k)) : get σ.sl d = some (some (.cmp k)) := by
  unfold needFork at h
  split at h
  · split at h
    · split at h
      · cases h; assumption
      · exact pickFork_get h
    · exact pickFork_get h
  · exact pickFork_get h
noncomputable def putAll (dst : Option Tmp) : Outs → Option (List St)
  | [] => some []
  | (s, σ) :: r => match putS σ dst (some s), putAll dst r with | some σ2, some l => some (σ2 :: l) | _, _ => none
theorem putAll_mem {dst : Option Tmp} : ∀ {l : Outs} {r : List St}, putAll dst l = some r → ∀ s σ, (s, σ) ∈ l → ∃ σ2, putS σ dst (some s) = some σ2 ∧ σ2 ∈ r := by
  intro l
  induction l with
  | nil => intro r _ s σ h; cases h
  | cons x l ih =>
    obtain ⟨s0, σ0⟩ := x
    intro r h s σ hm
    simp only [putAll] at h
    split at h
    · rename_i σ2 l' h1 h2
      cases h
      rcases List.mem_cons.1 hm with e | hm
      · cases e; exact ⟨σ2, h1, List.mem_cons_self ..⟩
      · obtain ⟨σ3, h3, h4⟩ := ih h2 s σ hm
        exact ⟨σ3, h3, List.mem_cons_of_mem _ h4⟩
    · cases h
noncomputable def stepO (cf : Cfg) (call : CallF) (fn : Nat) (ops : Array Oper) (o : Oper) (σ : St) : XR St := match wantS ops σ o with
  | some true => (match x1 cf call fn o σ with
    | some (os, gs) => (match putAll o.dst os with | some l => some (l, gs) | none => none)
    | none => none)
  | some false => (match putS σ o.dst none with | some σ2 => some ([σ2], []) | none => none)
  | none => none
noncomputable def stepF (cf : Cfg) (call : CallF) (fn : Nat) (ops : Array Oper) (o : Oper) : Nat → St → XR St
  | 0, σ => stepO cf call fn ops o σ
  | n + 1, σ => match needFork ops σ o with
    | some (d, k) => (match forkS d k true σ, forkS d k false σ with
      | some σ1, some σ2 => joinR (stepF cf call fn ops o n σ1) (stepF cf call fn ops o n σ2)
      | _, _ => none)
    | none => stepO cf call fn ops o σ
noncomputable def xlist (cf : Cfg) (call : CallF) (fn : Nat) (ops : Array Oper) : List Oper → St → XR St
  | [], σ => some ([σ], [])
  | o :: r, σ => bindR (stepF cf call fn ops o 4 σ) (xlist cf call fn ops r)
/-! regions that draw -/
noncomputable def firstFork (ops : Array Oper) (σ : St) : List Nat → Option (Nat × Hy)
  | [] => none
  | i :: r => match ops[i]? with
    | some o => (match needFork ops σ o with | some x => some x | none => firstFork ops σ r)
    | none => none
noncomputable def firstTake (cf : Cfg) (fn : Nat) (hpH : List TO) (ops : Array Oper) (listed : Array Bool) (σ : St) : List Nat → Option (Nat × St × List Goal)
  | [] => none
  | i :: r => match ops[i]?, Region.free .any ops listed i with
    | some o, true => (match wantS ops σ o with
      | some false => (match putS σ o.dst none with | some σ2 => some (i, σ2, []) | none => none)
      | some true => (match xh cf fn hpH o σ with
        | some (s, σ1, gs) => (match putS σ1 o.dst (some s) with | some σ2 => some (i, σ2, gs) | none => none)
        | none => firstTake cf fn hpH ops listed σ r)
      | none => firstTake cf fn hpH ops listed σ r)
    | _, _ => firstTake cf fn hpH ops listed σ r
noncomputable def oneAny (cf : Cfg) (call : CallF) (fn : Nat) (hpH : List TO) (ops : Array Oper) (σ : St) (i : Nat) : XR St := match ops[i]? with
  | some o => (match wantS ops σ o with
    | some true => (match x1 cf call fn o σ with
      | some (os, gs) => (match putAll o.dst os with
        | some l => (match l.all (fun s => sameV hpH s.hp) with | true => some (l, gs) | false => none)
        | none => none)
      | none => none)
    | _ => none)
  | none => none
noncomputable def xany (cf : Cfg) (call : CallF) (fn : Nat) (hpH : List TO) (ops : Array Oper) : Nat → Nat → Array Bool → St → XR St
  | 0, _, _, _ => none
  | n + 1, m, listed, σ => match Region.ready .any ops listed with
    | [] => some ([σ], [])
    | i :: rs => (match firstFork ops σ (i :: rs) with
      | some (d, k) => (match forkS d k true σ, forkS d k false σ with
        | some σ1, some σ2 => joinR (xany cf call fn hpH ops n m listed σ1) (xany cf call fn hpH ops n m listed σ2)
        | _, _ => none)
      | none => (match m with
        | 0 => none
        | m + 1 => (match firstTake cf fn hpH ops listed σ (i :: rs) with
          | some (j, σ2, gs) => (match xany cf call fn hpH ops n m (listed.setIfInBounds j true) σ2 with
            | some (l, g) => some (l, gs ++ g)
            | none => none)
          | none => mapR (fun j => bindR (oneAny cf call fn hpH ops σ j) (xany cf call fn hpH ops n m (listed.setIfInBounds j true))) (i :: rs))))
/-- The tracked block at which a store of the region goes. -/
noncomputable def rootS (ops : List Oper) (σ : St) : Nat → Operand → Option Nat
  | 0, _ => none
  | n + 1, .tmp t => (match ops.find? (fun o => match o.dst with | some d => Nat.beq d t | none => false) with
    | some o => (match o.op with
      | .fieldAddr _ y _ | .indexAddr _ y _ | .nilCheck y | .move y | .assign y => rootS ops σ n y
      | _ => none)
    | none => (match get σ.sl t with
      | some (some (.tptr id _)) => some id
      | some (some (.uptr id _)) => some id
      | some (some (.tsl id _ _)) => some id
      | _ => none))
  | _, _ => none
noncomputable def storedS (all : List Oper) (σ : St) : List Oper → List Nat
  | [] => []
  | o :: r => match o.op with
    | .store _ x _ => (match rootS all σ 8 x with | some i => i :: storedS all σ r | none => storedS all σ r)
    | _ => storedS all σ r
def holdL : List TO → Nat → List Nat → List TO
  | [], _, _ => []
  | x :: r, i, l => (match memN i l with | true => .gone | false => x) :: holdL r (i + 1) l
section
variable {cf : Cfg} (hE : EnvOK cf.E) (hK : KeysOK cf) {call : CallF} (hcall : CallFOK cf call)
include hE hK hcall
theorem stepO_ok {fn : Nat} {ops : Array Oper} {o : Oper} {σ : St} {σs : List St} {gs : List Goal} (h : stepO cf call fn ops o σ = some (σs, gs)) (hg : ∀ g ∈ gs, g.ok) {rest : List Oper} {outs : List St}
    (hr : ∀ σ2 ∈ σs, ListOK cf.E.P ops rest σ2 outs) : ListOK cf.E.P ops (o :: rest) σ outs := by
  unfold stepO at h
  split at h
  · rename_i hw
    split at h
    · rename_i os gs' hx
      split at h
      · rename_i l hp
        cases h
        refine list_cons hw (x1_ok hE hK hcall fn o σ _ _ hx hg) fun s σ' hs => ?_
        obtain ⟨σ2, h1, h2⟩ := putAll_mem hp s σ' hs
        exact ⟨σ2, outs, h1, hr σ2 h2, fun x hx => hx⟩
      · cases h
    · cases h
  · rename_i hw
    split at h
    · rename_i σ2 hp
      cases h
      exact list_skip hw hp (hr σ2 (List.mem_cons_self ..))
    · cases h
  · cases h
theorem stepF_ok {fn : Nat} {ops : Array Oper} {o : Oper} : ∀ {n : Nat} {σ : St} {σs : List St} {gs : List Goal}, stepF cf call fn ops o n σ = some (σs, gs) → (∀ g ∈ gs, g.ok) → ∀ {rest : List Oper} {outs : List St},
    (∀ σ2 ∈ σs, ListOK cf.E.P ops rest σ2 outs) → ListOK cf.E.P ops (o :: rest) σ outs := by
  intro n
  induction n with
  | zero => intro σ σs gs h hg rest outs hr; exact stepO_ok hE hK hcall h hg hr
  | succ n ih =>
    intro σ σs gs h hg rest outs hr
    simp only [stepF] at h
    split at h
    · rename_i d k hf
      split at h
      · rename_i σ1 σ2 h1 h2
        obtain ⟨a, g, b, k', e1, e2, rfl, rfl⟩ := joinR_some h
        exact list_fork' (needFork_get hf) h1 h2 (ih e1 (fun q hq => hg q (List.mem_append_left _ hq)) fun x hx => hr x (List.mem_append_left _ hx)) (ih e2 (fun q hq => hg q (List.mem_append_right _ hq)) fun x hx => hr x (List.mem_append_right _ hx))
      · cases h
    · exact stepO_ok hE hK hcall h hg hr
theorem xlist_ok {fn : Nat} {ops : Array Oper} : ∀ {l : List Oper} {σ : St} {σs : List St} {gs : List Goal}, xlist cf call fn ops l σ = some (σs, gs) → (∀ g ∈ gs, g.ok) → ListOK cf.E.P ops l σ σs := by
  intro l
  induction l with
  | nil => intro σ σs gs h _; simp only [xlist, Option.some.injEq, Prod.mk.injEq] at h; obtain ⟨rfl, rfl⟩ := h; exact list_nil
  | cons o r ih =>
    intro σ σs gs h hg
    simp only [xlist] at h
    obtain ⟨l1, g1, h1, h2, h3⟩ := bindR_some h
    refine stepF_ok hE hK hcall h1 (fun q hq => hg q (h2 q hq)) fun σ2 hσ => ?_
    obtain ⟨b, g', h4, h5, h6⟩ := h3 σ2 hσ
    exact (ih h4 fun q hq => hg q (h6 q hq)).weaken h5
omit hE hK hcall in
theorem firstFork_get {ops : Array Oper} {σ : St} {d : Nat} {k : Hy} : ∀ {l : List Nat}, firstFork ops σ l = some (d, k) → get σ.sl d = some (some (.cmp k)) := by
  intro l
  induction l with
  | nil => intro h; cases h
  | cons i r ih =>
    intro h
    simp only [firstFork] at h
    split at h
    · split at h
      · cases h; rename_i hf; exact needFork_get hf
      · exact ih h
    · cases h
omit hK hcall in
theorem firstTake_ok {fn : Nat} {hpH : List TO} {ops : Array Oper} {listed : Array Bool} {σ : St} {j m : Nat} {σ2 : St} {gs : List Goal} (hs : Region.noSelect ops = true) : ∀ {l : List Nat}, firstTake cf fn hpH ops listed σ l = some (j, σ2, gs) → (∀ i ∈ l, (Region.ready .any ops listed).contains i = true) → (∀ g ∈ gs, g.ok) → ∀ {outs : List St},
    AnyH cf.E.P ops hpH m (listed.setIfInBounds j true) σ2 outs → AnyH cf.E.P ops hpH (m + 1) listed σ outs := by
  intro l
  induction l with
  | nil => intro h; cases h
  | cons i r ih =>
    intro h hr hg outs hn
    have rest : firstTake cf fn hpH ops listed σ r = some (j, σ2, gs) → AnyH cf.E.P ops hpH (m + 1) listed σ outs := fun h => ih h (fun i hi => hr i (List.mem_cons_of_mem _ hi)) hg hn
    simp only [firstTake] at h
    split at h
    · rename_i o ho hf
      split at h
      · rename_i hw
        split at h
        · rename_i σ3 hp
          cases h
          exact anyH_skip ho hs hf (hr _ (List.mem_cons_self ..)) hw hp hn
        · cases h
      · rename_i hw
        split at h
        · rename_i s σ1 gs' hx
          split at h
          · rename_i σ3 hp
            cases h
            exact anyH_take ho hs hf (hr _ (List.mem_cons_self ..)) hw (xh_ok hE fn hpH o σ _ _ _ hx hg) hp hn
          · cases h
        · exact rest h
      · exact rest h
    · exact rest h
theorem xany_ok {fn : Nat} {hpH : List TO} {ops : Array Oper} (hs : Region.noSelect ops = true) : ∀ {n m : Nat} {listed : Array Bool} {σ : St} {σs : List St} {gs : List Goal}, xany cf call fn hpH ops n m listed σ = some (σs, gs) → (∀ g ∈ gs, g.ok) → AnyH cf.E.P ops hpH m listed σ σs := by
  intro n
  induction n with
  | zero => intro m listed σ σs gs h; cases h
  | succ n ih =>
    intro m listed σ σs gs h hg
    simp only [xany] at h
    split at h
    · rename_i hr
      cases h
      exact anyH_done hr
    · rename_i i rs hr
      split at h
      · rename_i d k hf
        split at h
        · rename_i σ1 σ2 h1 h2
          obtain ⟨a, g, b, k', e1, e2, rfl, rfl⟩ := joinR_some h
          exact anyH_fork (firstFork_get hf) h1 h2 ((ih e1 fun q hq => hg q (List.mem_append_left _ hq)).weaken fun x hx => List.mem_append_left _ hx) ((ih e2 fun q hq => hg q (List.mem_append_right _ hq)).weaken fun x hx => List.mem_append_right _ hx)
        · cases h
      · split at h
        · cases h
        · rename_i m
          split at h
          · rename_i j σ2 gs' hft
            split at h
            · rename_i l g hx
              cases h
              exact firstTake_ok hE hs hft (fun q hq => by rw [hr]; simpa using hq) (fun q hq => hg q (List.mem_append_left _ hq)) (ih hx fun q hq => hg q (List.mem_append_right _ hq))
            · cases h
          · refine anyH_all hr (by simp) fun j hj => ?_
            obtain ⟨b, g, h1, h2, h3⟩ := mapR_mem h j hj
            obtain ⟨l1, g1, e1, e2, e3⟩ := bindR_some h1
            unfold oneAny at e1
            split at e1
            · rename_i o ho
              split at e1
              · rename_i hw
                split at e1
                · rename_i os gs' hx
                  split at e1
                  · rename_i l hp
                    split at e1
                    · rename_i hall
                      cases e1
                      refine ⟨o, os, ho, hw, x1_ok hE hK hcall fn o σ _ _ hx fun q hq => hg q (h3 q (e2 q hq)), fun s σ' hs' => ?_⟩
                      obtain ⟨σ2, p1, p2⟩ := putAll_mem hp s σ' hs'
                      obtain ⟨b', g', f1, f2, f3⟩ := e3 σ2 p2
                      exact ⟨σ2, b', p1, List.all_eq_true.1 hall σ2 p2, ih f1 fun q hq => hg q (h3 q (f3 q hq)), fun x hx => h2 x (f2 x hx)⟩
                    · cases e1
                  · cases e1
                · cases e1
              · cases e1
            · cases e1
end
end Go.Vg
/- The executor: code, loops, calls. -/
namespace Go.Vg
open Go Go.RowKit Go.Hs Go.Ty Go.Ex
/-! how a loop is known anew (nothing here has to be right: what it gives is checked) -/
def endsRet : Code → Bool
  | .ret => true
  | .seq a b => endsRet a || endsRet b
  | .cond _ a b => endsRet a && endsRet b
  | .scope c => endsRet c
  | _ => false
def dstL : List Oper → List Nat
  | [] => []
  | o :: r => match o.dst with | some d => d :: dstL r | none => dstL r
def dsts : Code → List Nat
  | .region _ ops _ => dstL ops.toList
  | .seq a b => dsts a ++ dsts b
  | .cond _ a b => (match endsRet a with | true => [] | false => dsts a) ++ (match endsRet b with | true => [] | false => dsts b)
  | .block _ c | .loop c | .scope c => dsts c
  | _ => []
def dedup : List Nat → List Nat
  | [] => []
  | x :: r => match memN x r with | true => dedup r | false => x :: dedup r
def firstReg : Code → Option (Nat × Array Oper)
  | .region i ops _ => some (i, ops)
  | .seq a b => match firstReg a with | some i => some i | none => firstReg b
  | .block _ c | .loop c | .scope c => firstReg c
  | _ => none
def readL (o : Oper) : List Nat := o.op.operands.toList.filterMap fun | .tmp t => some t | _ => none
/-- What a piece of code reads ahead of any write of its own. -/
def exposeL : List Oper → List Nat → List Nat × List Nat
  | [], w => ([], w)
  | o :: r, w => match exposeL r (match o.dst with | some d => d :: w | none => w) with
    | (e, w') => ((readL o).filter (fun t => !memN t w) ++ e, w')
def expose : Code → List Nat → List Nat × List Nat
  | .region _ ops _, w => exposeL ops.toList w
  | .seq a b, w => match expose a w with | (e, w1) => (match expose b w1 with | (e2, w2) => (e ++ e2, w2))
  | .cond c a b, w => match expose a w, expose b w with | (e1, _), (e2, _) => ((match c with | .tmp t => (match memN t w with | true => [] | false => [t]) | _ => []) ++ (e1 ++ e2), w)
  | .block _ c, w | .loop c, w | .scope c, w => match expose c w with | (e, _) => (e, w)
  | _, w => ([], w)
def defOf (ops : List Oper) (t : Nat) : Option Op := match ops.find? (fun o => match o.dst with | some d => Nat.beq d t | none => false) with | some o => some o.op | none => none
/-- Where a number of the head's region comes from: a code of a slot, or a constant. -/
def srcOf (ops : List Oper) : Nat → Operand → Option Tm
  | _, .const (.int _ n) => some (.c n)
  | 0, .tmp t => some (.s t)
  | n + 1, .tmp t => match defOf ops t with
    | none => some (.s t)
    | some (.move x) => srcOf ops n x
    | some (.assign x) => srcOf ops n x
    | some (.call c) => (match c.callee, c.args.toList with | .builtin .len, [x] => srcOf ops n x | _, _ => none)
    | some (.load _ (.tmp a)) => some (.s (1000000 + 100 * a))
    | _ => none
  | _, _ => none
/-- Of a counting loop: i, the bound, and how far beyond it i may come; 'up' or down. -/
def countOf (c : Code) : Option (Tm × Tm × Int × Bool) := match firstReg c with
  | some (_, ops) => ops.toList.findSome? fun o => match o.op with
    | .binOp .lss _ x y _ => (match srcOf ops.toList 4 x, srcOf ops.toList 4 y with | some (.s i), some b => some (.s i, b, 0, true) | _, _ => none)
    | .binOp .leq _ x y _ => (match srcOf ops.toList 4 x, srcOf ops.toList 4 y with | some (.s i), some b => some (.s i, b, 1, true) | _, _ => none)
    | .binOp .gtr _ x y _ => (match srcOf ops.toList 4 x, srcOf ops.toList 4 y with | some (.s i), some b => some (.s i, b, 0, false) | _, _ => none)
    | .binOp .geq _ x y _ => (match srcOf ops.toList 4 x, srcOf ops.toList 4 y with | some (.s i), some b => some (.s i, b, 1, false) | _, _ => none)
    | _ => none
  | none => none
def OLD : Nat := 4000000
def oldT : Tm → Tm
  | .s i => .s (i + OLD)
  | .add a b => .add (oldT a) (oldT b)
  | .sub a b => .sub (oldT a) (oldT b)
  | .mul a b => .mul (oldT a) (oldT b)
  | t => t
def lookA : List LAnn → Nat → Nat → Option LAnn
  | [], _, _ => none
  | a :: r, f, k => match onPath a.fn f && Nat.beq a.key k with | true => some a | false => lookA r f k
def lookH : List (Nat × (St → Option DT)) → Nat → Option (St → Option DT)
  | [], _ => none
  | (t, d) :: r, k => match Nat.beq t k with | true => some d | false => lookH r k
def shapeOf : SV → Option DT
  | .int k _ => some (.int k (.c (kLo k)) (.c (kHi k)))
  | .bool _ | .cmp _ => some .bool
  | .sl _ m t _ => some (.sl m (.c 0) (.c MAXL) t)
  | .str | .lit (.string _) => some .str
  | _ => none
noncomputable def mkSlots (σ : St) (hav : List (Nat × (St → Option DT))) (live : List Nat) : List Nat → List (Nat × DT)
  | [] => []
  | d :: r => match memN d live, get σ.sl d with
    | true, some (some s) => (match lookH hav d with
      | some t => (match t σ with | some t => (d, t) :: mkSlots σ hav live r | none => mkSlots σ hav live r)
      | none => (match shapeOf s with | some t => (d, t) :: mkSlots σ hav live r | none => mkSlots σ hav live r))
    | _, _ => mkSlots σ hav live r
noncomputable def mkBlks (σ : St) : List (Nat × (St → Option DT)) → List (Nat × DT)
  | [] => []
  | (t, d) :: r => match get σ.sl t, d σ with
    | some (some (.tptr id _)), some d => (id, d) :: mkBlks σ r
    | _, _ => mkBlks σ r
noncomputable def mkFacts (σ τ : St) (f : Nat → Option Tm) : List (Nat × Md × Tm × DT) → Option (List Fact)
  | [] => some []
  | (t, m, k, d) :: r => match (match Nat.blt t 1000000 with
      | true => get σ.sl t
      | false => (match get σ.sl ((t - 1000000) / 100) with
        | some (some (.tptr id off)) => (match σ.hp[id]? with | some (.cells _ l) => (match l[off + (t - 1000000) % 100]? with | some s => some (some s) | none => none) | _ => none)
        | _ => none)), k.subst f, d.subst f, mkFacts σ τ f r with
    | some (some (.sl id .old _ _)), some k, some d, some l => some (⟨m, id, k, d⟩ :: l)
    | some (some (.sl _ _ _ _)), _, _, some l => some l
    | some (some (.rsl id _ _)), some k, some d, some l => some (⟨m, id, k, d⟩ :: l)
    | some (some (.nilv _)), _, _, some l => some l
    | _, _, _, _ => none
def substAll (f : Nat → Option Tm) : List Hy → Option (List Hy)
  | [] => some []
  | h :: r => match h.subst f, substAll f r with | some g, some l => some (g :: l) | _, _ => none
noncomputable def mkSpec (cf : Cfg) (fn : Nat) (c : Code) (σ : St) : Option LSpec :=
  match firstReg c with
  | none => none
  | some (key, _) =>
    let ann := lookA cf.loops fn key
    let ds := dedup (dsts c)
    let live := (expose c []).1
    let sp0 : LSpec := ⟨ds, mkSlots σ (match ann with | some a => a.hav | none => []) live ds, mkBlks σ (match ann with | some a => a.blk | none => []), [], [], .c 0⟩
    match tmpl sp0 σ with
    | none => none
    | some tm =>
      let f := fun (i : Nat) => match Nat.ble OLD i with | true => codeV σ (i - OLD) | false => codeV tm.τ i
      match (match (match ann with | some a => (match a.auto with | true => countOf c | false => none) | none => countOf c) with
        | some (i, b, e, up) => (match i.subst f, b.subst f, (oldT i).subst f with
          | some i, some b, some o => (match up with
            | true => some ([Hy.le o i, .or (.le i (.add b (.c e))) (.le i o)], some (Tm.add (.sub b i) (.c e)))
            | false => some ([Hy.le i o, .or (.le (.sub b (.c e)) i) (.le o i)], some (Tm.add (.sub i b) (.c e))))
          | _, _, _ => some ([], none))
        | none => some ([], none)) with
      | none => none
      | some (inv0, m0) =>
        match (match ann with | some a => substAll f a.inv | none => some []), (match ann with | some a => mkFacts σ tm.τ f a.facts | none => some []),
          (match ann with | some a => (match a.meas with | some m => m.subst f | none => m0) | none => m0) with
        | some inv, some fs, some m => some { sp0 with inv := inv ++ inv0, facts := fs, meas := m }
        | _, _, _ => none
noncomputable def isConst (σ : St) (t : Tm) : Bool := match t.subst (codeV σ) with | some (.c _) => true | _ => false
noncomputable def unrolls (c : Code) (σ : St) : Bool := match countOf c with
  | some (i, b, _, _) => isConst σ i && isConst σ b
  | none => false
/-! code -/
abbrev RecC := Nat → Code → St → XR (Xt × St)
noncomputable def callX (E : Env) (rec : RecC) (path : Nat) : CallF := fun f args σ => match get E.fn f with
  | some fn => (match fn.body, argsT args 0 .nil with
    | some c, some t => (bindR (rec (f + 10000 * path) c { σ with sl := t, nt := args.length + (fn.ntmps - args.length) }) fun x => match x with
      | (.normal, σ1) => (match resX E σ1 fn.results.toList with | some l => some ([(resS l, { σ1 with sl := σ.sl, nt := σ.nt })], []) | none => none)
      | (.ret, σ1) => (match resX E σ1 fn.results.toList with | some l => some ([(resS l, { σ1 with sl := σ.sl, nt := σ.nt })], []) | none => none)
      | _ => none)
    | _, _ => none)
  | none => none
noncomputable def roundsX (rec : RecC) (fn : Nat) (c : Code) : Nat → St → XR (Xt × St)
  | 0, _ => none
  | n + 1, σ => bindR (rec fn c σ) fun x => match x with
    | (.normal, σ1) => roundsX rec fn c n σ1
    | x => some ([x], [])
/-- A call by its summary, where there is one. -/
noncomputable def callS (cf : Cfg) (call : CallF) : CallF := fun f args σ => match findS f cf.sums with
  | some s => sumX s args σ
  | none => call f args σ
theorem callS_ok {cf : Cfg} (hK : KeysOK cf) {call : CallF} (h : CallFOK cf call) : CallFOK cf (callS cf call) := by
  intro f args σ outs gs hc hg
  unfold callS at hc
  split at hc
  · rename_i s hs
    obtain ⟨h1, rfl⟩ := findS_mem hs
    exact sumX_ok (hK.1 s h1) hc hg
  · exact h f args σ outs gs hc hg
noncomputable def stepC (cf : Cfg) (rec : RecC) : RecC := fun fn c σ => match c with
  | .skip => some ([(.normal, σ)], [])
  | .label _ => some ([(.normal, σ)], [])
  | .exit id => some ([(.exit id, σ)], [])
  | .goto l => some ([(.goto l, σ)], [])
  | .ret => some ([(.ret, σ)], [])
  | .region _ ops false => (match xlist cf (callS cf (callX cf.E rec fn)) fn ops ops.toList σ with | some (l, g) => some (l.map fun s => (.normal, s), g) | none => none)
  | .region _ ops true => (match Region.noSelect ops, sameV (holdL σ.hp 0 (storedS ops.toList σ ops.toList)) σ.hp && Nat.ble (holdL σ.hp 0 (storedS ops.toList σ ops.toList)).length σ.hp.length with
    | true, true => (match xany cf (callS cf (callX cf.E rec fn)) fn (holdL σ.hp 0 (storedS ops.toList σ ops.toList)) ops (2 * ops.size + 4) ops.size (Array.replicate ops.size false) σ with
      | some (l, g) => some (l.map fun s => (.normal, s), g)
      | none => none)
    | _, _ => none)
  | .seq a b => bindR (rec fn a σ) fun x => match x with
    | (.normal, σ1) => rec fn b σ1
    | x => some ([x], [])
  | .cond x a b => (match evS σ x with
    | some (.bool true) => rec fn a σ
    | some (.bool false) => rec fn b σ
    | some (.cmp k) => joinR (rec fn a (assume k σ)) (rec fn b (assume k.neg σ))
    | _ => none)
  | .block id c => bindR (rec fn c σ) fun x => match x with
    | (.exit j, σ1) => (match Nat.beq j id with | true => some ([(.normal, σ1)], []) | false => some ([(.exit j, σ1)], []))
    | x => some ([x], [])
  | .scope c => bindR (rec fn c σ) fun x => match x with
    | (.goto _, _) => none
    | x => some ([x], [])
  | .loop c => (match unrolls c σ with
    | true => roundsX rec fn c 64 σ
    | false => (match mkSpec cf fn c σ with
      | some sp => (match tmpl sp σ with
        | some tm => (match first sp σ tm with
          | some g0 => (match bindR (rec fn c tm.τ) (fun x => match x with
              | (.normal, σ1) => (match back sp σ tm σ1 with | some g => some ([], g) | none => none)
              | x => some ([x], [])) with
            | some (o, g) => some (o, g0 ++ g)
            | none => none)
          | none => none)
        | none => none)
      | none => none))
  | _ => none
noncomputable def xcode (cf : Cfg) : Nat → RecC
  | 0 => fun _ _ _ => none
  | n + 1 => stepC cf (xcode cf n)
/-! it is right -/
def RecOK (cf : Cfg) (rec : RecC) : Prop := ∀ fn c σ outs gs, rec fn c σ = some (outs, gs) → (∀ g ∈ gs, g.ok) → CodeOK cf.E.P c σ outs
theorem code_scope {P : Program} {c : Code} {σ : St} {outs : COuts} (h : CodeOK P c σ outs) (hn : ∀ l σ1, (Xt.goto l, σ1) ∉ outs) : CodeOK P (.scope c) σ outs := fun C E a w hi Q hl hq => by
  refine wp_scope_straight (h C E a w hi _ ?_ fun x σ' hx C' E' a' w' hC hE hi' => ?_)
  · trivial
  · have := hq x σ' hx C' E' a' w' hC hE hi'
    cases x with
    | goto l => exact absurd hx (hn l σ')
    | _ => exact this
theorem code_rounds {P : Program} {c : Code} {rec : RecC} {fn : Nat} (hrec : ∀ σ outs gs, rec fn c σ = some (outs, gs) → (∀ g ∈ gs, g.ok) → CodeOK P c σ outs) : ∀ {n : Nat} {σ : St} {outs : COuts} {gs : List Goal}, roundsX rec fn c n σ = some (outs, gs) → (∀ g ∈ gs, g.ok) →
    ∀ C E a w, Inv C E σ a w → ∀ (Q : Exit → Act → World → Prop), Lets Q → (∀ x σ', (x, σ') ∈ outs → ∀ C' E' a' w', C.le C' → E.le E' → Inv C' E' σ' a' w' → Q x.of a' w') → Code.rounds P c Q n a w := by
  intro n
  induction n with
  | zero => intro σ outs gs h; cases h
  | succ n ih =>
    intro σ outs gs h hg C E a w hi Q hl hq
    simp only [roundsX] at h
    obtain ⟨l1, g1, h1, h2, h3⟩ := bindR_some h
    rw [rounds_succ]
    refine hrec σ l1 g1 h1 (fun q hq => hg q (h2 q hq)) C E a w hi _ (lets_then hl _) fun x σ1 hx C1 E1 a1 w1 hC hE hi1 => ?_
    obtain ⟨b, g', h4, h5, h6⟩ := h3 _ hx
    have pass : ∀ y : Xt, b = [(y, σ1)] → Q y.of a1 w1 := fun y hb => hq y σ1 (h5 _ (by rw [hb]; exact List.mem_cons_self ..)) C1 E1 a1 w1 hC hE hi1
    cases x with
    | normal => exact ih h4 (fun q hq => hg q (h6 q hq)) C1 E1 a1 w1 hi1 Q hl fun y σ2 hy C2 E2 a2 w2 hC2 hE2 hi2 => hq y σ2 (h5 _ hy) C2 E2 a2 w2 (hC.trans hC2) (hE.trans hE2) hi2
    | exit id => cases h4; exact pass (.exit id) rfl
    | goto l => cases h4; exact pass (.goto l) rfl
    | ret => cases h4; exact pass .ret rfl
section
variable {cf : Cfg} (hE : EnvOK cf.E) (hK : KeysOK cf)
include hE
theorem callX_ok {rec : RecC} (hrec : RecOK cf rec) (path : Nat) : CallFOK cf (callX cf.E rec path) := by
  intro f args σ outs gs h hg
  unfold callX at h
  split at h
  · rename_i fn hfn
    split at h
    · rename_i c t hb ht
      obtain ⟨l1, g1, h1, h2, h3⟩ := bindR_some h
      refine calls_ok' (hE.fn f fn hfn).1 hb ht (hrec _ _ _ _ _ h1 fun q hq => hg q (h2 q hq)) fun x σ1 hx => ?_
      obtain ⟨b, g', h4, h5, h6⟩ := h3 _ hx
      have fin : (match resX cf.E σ1 fn.results.toList with | some l => some ([(resS l, { σ1 with sl := σ.sl, nt := σ.nt })], ([] : List Goal)) | none => none) = some (b, g') → ∃ l, ResR cf.E.P σ1 fn.results.toList l ∧ (resS l, { σ1 with sl := σ.sl, nt := σ.nt }) ∈ outs := fun h => by
        split at h
        · rename_i l hl
          cases h
          exact ⟨l, resX_run hE hl, h5 _ (List.mem_cons_self ..)⟩
        · cases h
      cases x with
      | normal => exact fin h4
      | ret => exact fin h4
      | exit id => cases h4
      | goto l => cases h4
    · cases h
  · cases h
include hK
theorem stepC_ok {rec : RecC} (hrec : RecOK cf rec) : RecOK cf (stepC cf rec) := by
  have hcall := fun path => callS_ok hK (callX_ok hE hrec path)
  intro fn c σ outs gs h hg
  replace hcall := hcall fn
  unfold stepC at h
  split at h
  · cases h; exact code_skip
  · cases h; exact code_label
  · cases h; exact code_exit
  · cases h; exact code_goto
  · cases h; exact code_ret
  · split at h
    · rename_i l g hx
      cases h
      exact code_region (xlist_ok hE hK hcall hx hg)
    · cases h
  · split at h
    · rename_i hs hv
      rw [Bool.and_eq_true] at hv
      split at h
      · rename_i l g hx
        cases h
        exact code_drawH hE.mixed hv.1 hv.2 (xany_ok hE hK hcall hs hx hg)
      · cases h
    · cases h
  · rename_i a b
    obtain ⟨l1, g1, h1, h2, h3⟩ := bindR_some h
    refine code_seq (hrec _ _ _ _ _ h1 fun q hq => hg q (h2 q hq)) fun x σ1 hx => ?_
    obtain ⟨o2, g', h4, h5, h6⟩ := h3 _ hx
    cases x with
    | normal => exact ⟨o2, hrec _ _ _ _ _ h4 fun q hq => hg q (h6 q hq), h5⟩
    | exit id => cases h4; exact h5 _ (List.mem_cons_self ..)
    | goto l => cases h4; exact h5 _ (List.mem_cons_self ..)
    | ret => cases h4; exact h5 _ (List.mem_cons_self ..)
  · rename_i x a b
    split at h
    · rename_i hx; exact code_cond_bool hx (hrec _ _ _ _ _ h hg)
    · rename_i hx; exact code_cond_bool hx (hrec _ _ _ _ _ h hg)
    · rename_i k hx
      obtain ⟨a', g, b', k', e1, e2, rfl, rfl⟩ := joinR_some h
      exact code_cond_cmp hx (code_weaken (hrec _ _ _ _ _ e1 fun q hq => hg q (List.mem_append_left _ hq)) fun x hx => List.mem_append_left _ hx) (code_weaken (hrec _ _ _ _ _ e2 fun q hq => hg q (List.mem_append_right _ hq)) fun x hx => List.mem_append_right _ hx)
    · cases h
  · rename_i id c
    obtain ⟨l1, g1, h1, h2, h3⟩ := bindR_some h
    refine code_block (hrec _ _ _ _ _ h1 fun q hq => hg q (h2 q hq)) fun x σ1 hx => ?_
    obtain ⟨o2, g', h4, h5, h6⟩ := h3 _ hx
    cases x with
    | normal => cases h4; exact h5 _ (List.mem_cons_self ..)
    | exit j =>
      simp only at h4 ⊢
      split at h4
      · rename_i hj
        cases h4
        rw [if_pos (Nat.eq_of_beq_eq_true hj)]
        exact h5 _ (List.mem_cons_self ..)
      · rename_i hj
        cases h4
        rw [if_neg (fun e => by rw [e, Nat.beq_refl] at hj; cases hj)]
        exact h5 _ (List.mem_cons_self ..)
    | goto l => cases h4; exact h5 _ (List.mem_cons_self ..)
    | ret => cases h4; exact h5 _ (List.mem_cons_self ..)
  · rename_i c
    obtain ⟨l1, g1, h1, h2, h3⟩ := bindR_some h
    have hno : ∀ l σ1, (Xt.goto l, σ1) ∉ l1 := fun l σ1 hx => by
      obtain ⟨o2, g', h4, _⟩ := h3 _ hx
      cases h4
    refine code_weaken (code_scope (hrec _ _ _ _ _ h1 fun q hq => hg q (h2 q hq)) hno) fun x hx => ?_
    obtain ⟨o2, g', h4, h5, h6⟩ := h3 _ hx
    obtain ⟨x, σ1⟩ := x
    cases x with
    | goto l => cases h4
    | normal => cases h4; exact h5 _ (List.mem_cons_self ..)
    | exit j => cases h4; exact h5 _ (List.mem_cons_self ..)
    | ret => cases h4; exact h5 _ (List.mem_cons_self ..)
  · rename_i c
    split at h
    · exact fun C E a w hi Q hl hq => wp_loop_rounds 64 (code_rounds (fun σ outs gs h hg => hrec _ _ _ _ _ h hg) h hg C E a w hi Q hl hq)
    · split at h
      · rename_i sp hsp
        split at h
        · rename_i tm ht
          split at h
          · rename_i g0 hf
            split at h
            · rename_i o g hb
              cases h
              obtain ⟨l1, g1, h1, h2, h3⟩ := bindR_some hb
              refine loop_ok ht hf (fun q hq => hg q (List.mem_append_left _ hq)) (hrec _ _ _ _ _ h1 fun q hq => hg q (List.mem_append_right _ (h2 q hq))) fun x σ1 hx => ?_
              obtain ⟨o2, g', h4, h5, h6⟩ := h3 _ hx
              cases x with
              | normal =>
                simp only at h4 ⊢
                split at h4
                · rename_i gb hbk
                  cases h4
                  exact ⟨_, hbk, fun q hq => hg q (List.mem_append_right _ (h6 q hq))⟩
                · cases h4
              | exit j => cases h4; exact h5 _ (List.mem_cons_self ..)
              | goto l => cases h4; exact h5 _ (List.mem_cons_self ..)
              | ret => cases h4; exact h5 _ (List.mem_cons_self ..)
            · cases h
          · cases h
        · cases h
      · cases h
  · cases h
theorem xcode_ok (n : Nat) : RecOK cf (xcode cf n) := by
  induction n with
  | zero => intro fn c σ outs gs h; cases h
  | succ n ih => exact stepC_ok hE hK ih
/-- A function's call, carried out. -/
theorem xcall_ok (n : Nat) (path : Nat) : CallFOK cf (callX cf.E (xcode cf n) path) := callX_ok hE (xcode_ok hE hK n) path
end
end Go.Vg
/- From the executor's run to a contract of a call. -/
namespace Go.Vg
open Go Go.RowKit Go.Hs Go.Ty Go.Ex
def checkAll : List Goal → List Cert → Bool
  | [], _ => true
  | g :: r, c :: l => g.check c && checkAll r l
  | _ :: _, [] => false
theorem checkAll_ok : ∀ {gs : List Goal} {cs : List Cert}, checkAll gs cs = true → ∀ g ∈ gs, g.ok := by
  intro gs
  induction gs with
  | nil => intro cs _ g hg; cases hg
  | cons x r ih =>
    intro cs h g hg
    cases cs with
    | nil => cases h
    | cons c l =>
      simp only [checkAll, Bool.and_eq_true] at h
      rcases List.mem_cons.1 hg with rfl | hg
      · exact Goal.check_ok h.1
      · exact ih h.2 g hg
def outGoals (rs : List (DT × Bool)) : Outs → Option (List Goal)
  | [] => some []
  | (s, σ) :: r => match fitRs σ rs (resParts s), outGoals rs r with | some g, some g' => some (g ++ g') | _, _ => none
theorem outGoals_mem {rs : List (DT × Bool)} : ∀ {outs : Outs} {gs : List Goal}, outGoals rs outs = some gs → ∀ s σ, (s, σ) ∈ outs → ∃ g, fitRs σ rs (resParts s) = some g ∧ ∀ x ∈ g, x ∈ gs := by
  intro outs
  induction outs with
  | nil => intro gs _ s σ h; cases h
  | cons x r ih =>
    obtain ⟨s0, σ0⟩ := x
    intro gs h s σ hm
    simp only [outGoals] at h
    split at h
    · rename_i g g' h1 h2
      cases h
      rcases List.mem_cons.1 hm with e | hm
      · cases e; exact ⟨g, h1, fun x hx => List.mem_append_left _ hx⟩
      · obtain ⟨g2, h3, h4⟩ := ih h2 s σ hm
        exact ⟨g2, h3, fun x hx => List.mem_append_right _ (h4 x hx)⟩
    · cases h
/-- What a call's value tells of its parts. -/
def resVals : Value → List Value
  | .tuple cs => cs.toList
  | v => [v]
theorem parts_den {C : Cx} {E : Ev} {s : SV} {v : Value} (h : Den C E s v) (hl : (resParts s).length ≠ 1 ∨ (match s with | .tup _ => false | _ => true) = true) : ∃ vs, DenL C E (resParts s) vs ∧ ((match s with | .tup _ => false | _ => true) = false → v = .tuple vs.toArray) ∧ ((match s with | .tup _ => false | _ => true) = true → vs = [v]) := by
  unfold resParts
  split
  · rename_i l
    simp only [Den] at h
    obtain ⟨cs, rfl, h2⟩ := h
    exact ⟨cs.toList, h2, fun _ => by simp, fun h => by cases h⟩
  · rename_i hs
    refine ⟨[v], by simp only [DenL]; exact ⟨v, [], rfl, h, rfl⟩, fun h' => ?_, fun _ => rfl⟩
    cases s <;> first | (cases h'; done) | exact absurd rfl (hs _)
def isTup : SV → Bool | .tup _ => true | _ => false
/-- The whole look at a function: its outcomes, its goals and those of its results. -/
noncomputable def look (cf : Cfg) (n f : Nat) (ds rs : List (DT × Bool)) (tup : Bool) : Option (List Goal) := match startA ds st0 with
  | some (as, σ) => (match callX cf.E (xcode cf n) 0 f as σ with
    | some (outs, gs) => (match outGoals rs outs, outs.all (fun x => match isTup x.1, tup with | true, true | false, false => true | _, _ => false) with
      | some g, true => some (gs ++ g)
      | _, _ => none)
    | none => none)
  | none => none
noncomputable def lookC (cf : Cfg) (n f : Nat) (ds rs : List (DT × Bool)) (tup : Bool) (cs : List Cert) : Bool := match look cf n f ds rs tup with
  | some gs => rs.all (fun d => d.1.sc 0) && checkAll gs cs
  | none => false
theorem look_ok {cf : Cfg} (hE : EnvOK cf.E) (hK : KeysOK cf) {n f : Nat} {ds rs : List (DT × Bool)} {tup : Bool} {cs : List Cert} (h : lookC cf n f ds rs tup cs = true) (w : World) {vs : List Value} (hv : ArgsV ⟨w, fun _ _ => none, fun _ => none, fun _ _ => none⟩ ds vs)
    {R : Ending → World → Prop} (hR : ∀ v w' (C' : Cx) us, C'.w0 = w → WT C' w' → ArgsV C' rs us → (tup = true → v = .tuple us.toArray) → (tup = false → us = [v]) → R (.returned v) w') : Calls cf.E.P f vs.toArray w R := by
  unfold lookC at h
  split at h
  · rename_i gs hl
    rw [Bool.and_eq_true] at h
    unfold look at hl
    split at hl
    · rename_i as σ hs
      split at hl
      · rename_i outs gs0 hc
        split at hl
        · rename_i g hog hall
          cases hl
          have hgs := checkAll_ok h.2
          have h0 : Inv (⟨w, fun _ _ => none, fun _ => none, fun _ _ => none⟩ : Cx) ⟨[], [], []⟩ st0 ⟨#[], []⟩ w :=
            ⟨WT.start w, fun x hx => by (simp [st0] at hx), rfl, rfl, rfl, rfl, fun t s hg => by (cases t <;> simp [st0, get_nil] at hg), fun i x hx => by (simp [st0] at hx), fun i j b hb => by (simp at hb), fun i b hb => by (simp at hb), fun f hf => by (simp [st0] at hf), fun r hr => by (simp [st0] at hr), rfl⟩
          obtain ⟨E', e1, e2, e3⟩ := startA_ok hs h0 hv
          refine xcall_ok hE hK n 0 f as σ outs gs0 hc (fun q hq => hgs q (List.mem_append_left _ hq)) _ E' _ w e2 vs e3 R trivial fun s σ' hso C' E2 v w' hC hE2 hi' hd => ?_
          obtain ⟨g', q1, q2⟩ := outGoals_mem hog s σ' hso
          have ht := List.all_eq_true.1 hall _ hso
          simp only at ht
          have hsc := fun d hd => List.all_eq_true.1 h.1 d hd
          cases s with
          | tup l =>
            simp only [Den] at hd
            obtain ⟨cs, rfl, hl⟩ := hd
            have htt : tup = true := by cases tup <;> first | rfl | cases ht
            exact hR _ w' C' cs.toList hC.w0 hi'.wt (fitRs_ok hi'.kn q1 (fun x hx => hgs x (List.mem_append_right _ (q2 x hx))) hsc hl) (fun _ => by simp) (fun e => by rw [htt] at e; cases e)
          | _ =>
            have htt : tup = false := by cases tup <;> first | rfl | cases ht
            exact hR v w' C' [v] hC.w0 hi'.wt (fitRs_ok hi'.kn q1 (fun x hx => hgs x (List.mem_append_right _ (q2 x hx))) hsc (by simp only [resParts, DenL]; exact ⟨v, [], rfl, hd, rfl⟩)) (fun e => by rw [htt] at e; cases e) (fun _ => rfl)
        · cases hl
      · cases hl
    · cases hl
  · cases h
end Go.Vg
/- Kinds as words: their types; from a place that holds data to a typed place and back. -/
namespace Go.Vg
open Go Go.RowKit Go.Hs Go.Ty Go.Ex
inductive KS | int (k : IntKind) | sl (s : KS) | pair (a b : KS)
def KS.kind : KS → Kind
  | .int k => kInt k
  | .sl s => kSlice s.kind
  | .pair a b => kPair a.kind b.kind
def KS.flat : (s : KS) → Flat s.kind
  | .int k => fInt k
  | .sl s => fSlice s.flat
  | .pair a b => fPair a.flat b.flat
/-- The numbers lie in their ranges. -/
def KS.rng : (s : KS) → s.kind.Data → Prop
  | .int k => fun (d : Int) => kLo k ≤ d ∧ d ≤ kHi k
  | .sl s => fun (ds : List s.kind.Data) => ∀ d ∈ ds, s.rng d
  | .pair a b => fun (d : a.kind.Data × b.kind.Data) => a.rng d.1 ∧ b.rng d.2
def KS.ty (m : Md) (hi : Int) : KS → T
  | .int k => .int k (kLo k) (kHi k)
  | .sl s => .sl m 0 hi (s.ty m hi)
  | .pair a b => .pair (a.ty m hi) (b.ty m hi)
def KS.dt (m : Md) (hi : Int) : KS → DT
  | .int k => .int k (.c (kLo k)) (.c (kHi k))
  | .sl s => .sl m (.c 0) (.c hi) (s.dt m hi)
  | .pair a b => .pair (a.dt m hi) (b.dt m hi)
theorem KS.inst (m : Md) (hi : Int) : ∀ (s : KS) (ρ : List Int), (s.dt m hi).inst ρ = some (s.ty m hi)
  | .int k, ρ => rfl
  | .sl s, ρ => by simp [KS.dt, KS.ty, DT.inst, Tm.ev, KS.inst m hi s ρ]
  | .pair a b, ρ => by simp [KS.dt, KS.ty, DT.inst, KS.inst m hi a ρ, KS.inst m hi b ρ]
theorem KS.size (m : Md) (hi : Int) : ∀ (s : KS), (s.ty m hi).size = s.kind.size
  | .int k => rfl
  | .sl s => rfl
  | .pair a b => by simp [KS.ty, T.size, KS.kind, kPair, KS.size m hi a, KS.size m hi b]
theorem KS.pos : ∀ s : KS, 0 < s.kind.size
  | .int _ => Nat.one_pos
  | .sl _ => Nat.one_pos
  | .pair a _ => Nat.lt_of_lt_of_le a.pos (Nat.le_add_right _ _)
/-- There are slices in it. -/
def KS.deep : KS → Bool
  | .int _ => false
  | .sl _ => true
  | .pair a b => a.deep || b.deep
/-- A place of what was there that holds data is typed. -/
theorem at_of_holds {C : Cx} {m : Md} (hm : m ≠ .own) : ∀ (s : KS) {b o : Nat} {d : s.kind.Data} {F : Nat → Prop}, s.kind.Holds C.w0 b o d F → (∀ k, F k → k < C.w0.heap.size) → s.rng d → (s.flat.flat d).length ≤ 2000 → At C (s.ty m 2000) (fun j => C.w0.cell? ⟨b, o + j, none⟩) := by
  intro s
  induction s with
  | int k =>
    intro b o d F h hF hr _
    exact ⟨d, h.1, hr.1, hr.2⟩
  | sl s ih =>
    intro b o (ds : List s.kind.Data) F h hF (hr : ∀ d ∈ ds, s.rng d) hl
    obtain ⟨hl1, hl2⟩ := flat_slice_len s.flat ds hl
    obtain ⟨A, c, h1, h2, h3, h4, h5⟩ := h
    refine ⟨A, ds.length, c, h1, ⟨by omega, fun h => by omega⟩, by omega, h5, .inr ⟨hm, fun i hi => ?_⟩⟩
    obtain ⟨g, q, e1, e2⟩ := h4 i ds[i] (List.getElem?_eq_getElem hi)
    have hk := ih e2 hF (hr _ (List.getElem_mem hi)) (hl2 _ (List.getElem_mem hi))
    refine ⟨g, q, e1, ?_, ?_⟩
    · have hpos : 0 < (s.ty m 2000).size := by
        rw [KS.size]
        exact s.pos
      obtain ⟨t, ht⟩ := (cell_some (s.ty m 2000) 0).1 hpos
      obtain ⟨v, q1, _⟩ := (at_cells _ _).1 hk 0 t ht
      exact cell_lt' q1
    · rw [KS.size]
      refine (at_cells _ _).2 fun j t hj => ?_
      obtain ⟨v, q1, q2⟩ := (at_cells _ _).1 hk j t hj
      refine ⟨v, ?_, q2⟩
      show C.w0.cell? ⟨g, q + (i * s.kind.size + j), none⟩ = some v
      rw [← Nat.add_assoc]; exact q1
  | pair a b iha ihb =>
    intro bb o d F h hF hr hl
    obtain ⟨hl1, hl2⟩ := flat_pair a.flat b.flat d hl
    refine ⟨iha h.1 hF hr.1 hl1, ?_⟩
    have := ihb h.2 hF hr.2 hl2
    rw [KS.size]
    refine (at_cells _ _).2 fun j t hj => ?_
    obtain ⟨v, q1, q2⟩ := (at_cells _ _).1 this j t hj
    refine ⟨v, ?_, q2⟩
    show C.w0.cell? ⟨bb, o + (a.kind.size + j), none⟩ = some v
    rw [← Nat.add_assoc]; exact q1
/-- A typed place of the call's own holds data. -/
theorem holds_of_at {C : Cx} {w : World} (hw : WT C w) {F : Nat → Prop} : ∀ (s : KS) {b o : Nat}, (s.deep = true → ∀ k o t, C.S k o = some t → F k) → At C (s.ty .own 9223372036854775807) (fun j => w.cell? ⟨b, o + j, none⟩) → (∀ j, j < s.kind.size → w.frozen? ⟨b, o + j, none⟩ = false) → F b → ∃ d, s.kind.Holds w b o d F := by
  intro s
  induction s with
  | int k =>
    intro b o _ h hf hb
    obtain ⟨x, h1, _⟩ := h
    exact ⟨x, h1, hf 0 Nat.one_pos, hb⟩
  | sl s ih =>
    intro b o hF0 h hf hb
    have hF := hF0 rfl
    obtain ⟨A, n, c, h1, _, _, h4, h5⟩ := h
    have each : ∀ i, i < n → ∃ d g q, A = some ⟨g, q, none⟩ ∧ s.kind.Holds w g (q + i * s.kind.size) d F := by
      intro i hi
      rcases h5 with ⟨_, h5⟩ | ⟨h5, _⟩
      · rcases h5 with ⟨_, h6, _⟩ | ⟨g, q, e1, e2, e3, e4, _⟩
        · omega
        · have hsz := KS.size .own 9223372036854775807 s
          have hcell : ∀ j t, (s.ty .own 9223372036854775807).cell j = some t → ∃ v, w.cell? ⟨g, q + i * s.kind.size + j, none⟩ = some v ∧ w.frozen? ⟨g, q + i * s.kind.size + j, none⟩ = false ∧ C.S g (q + i * s.kind.size + j) = some t ∧ At C t (Ty.one v) := by
            intro j t hj
            have hjs : j < (s.ty .own 9223372036854775807).size := (cell_some _ _).2 ⟨t, hj⟩
            have hlt : i * s.kind.size + j < n * (s.ty .own 9223372036854775807).size := by
              rw [hsz] at hjs ⊢
              have : (i + 1) * s.kind.size ≤ n * s.kind.size := Nat.mul_le_mul_right _ hi
              rw [Nat.succ_mul] at this; omega
            have := e4 _ hlt
            rw [hsz, show (i * s.kind.size + j) % s.kind.size = j by rw [Nat.mul_comm, Nat.mul_add_mod]; exact Nat.mod_eq_of_lt (by rw [← hsz]; exact hjs), hj, ← Nat.add_assoc] at this
            obtain ⟨_, _, v, k1, k2, k3⟩ := hw.cell _ _ _ this
            exact ⟨v, k1, k2, this, k3⟩
          have hpos : 0 < (s.ty .own 9223372036854775807).size := by
            rw [hsz]
            exact s.pos
          obtain ⟨t0, ht0⟩ := (cell_some (s.ty .own 9223372036854775807) 0).1 hpos
          obtain ⟨_, _, _, hS, _⟩ := hcell 0 t0 ht0
          obtain ⟨d, hd⟩ := ih (b := g) (o := q + i * s.kind.size) (fun _ => hF) ((at_cells _ _).2 fun j t hj => by
            obtain ⟨v, k1, _, _, k3⟩ := hcell j t hj
            exact ⟨v, k1, k3⟩) (fun j hj => by
            obtain ⟨t, ht⟩ := (cell_some (s.ty .own 9223372036854775807) j).1 (by rw [hsz]; exact hj)
            obtain ⟨v, _, k2, _⟩ := hcell j t ht
            exact k2) (hF _ _ _ hS)
          exact ⟨d, g, q, e1, hd⟩
      · exact absurd rfl h5
    have key : ∀ q, q ≤ n → ∃ ds : List s.kind.Data, ds.length = q ∧ Elems s.kind w A ds F := by
      intro q
      induction q with
      | zero => intro _; exact ⟨[], rfl, fun i d hd => by cases i <;> cases hd⟩
      | succ q ihq =>
        intro hq
        obtain ⟨ds, h1, h2⟩ := ihq (by omega)
        obtain ⟨dd, g, s', h3, h4⟩ := each q (by omega)
        refine ⟨ds ++ [dd], by simp [h1], fun i d hd => ?_⟩
        by_cases hi : i < ds.length
        · rw [List.getElem?_append_left hi] at hd
          exact h2 i d hd
        · rw [List.getElem?_append_right (by omega)] at hd
          have := (List.getElem?_eq_some_iff.1 hd).1
          simp at this
          have e : i - ds.length = 0 := by omega
          rw [e] at hd
          cases hd
          have : i = q := by omega
          subst this
          exact ⟨g, s', h3, h4⟩
    obtain ⟨ds, k1, k2⟩ := key n (Nat.le_refl _)
    exact ⟨ds, A, c, by rw [k1]; exact h1, hf 0 Nat.one_pos, hb, k2, by rw [k1]; exact h4⟩
  | pair a b iha ihb =>
    intro bb o hF h hf hb
    have hsz := KS.size .own 9223372036854775807 a
    obtain ⟨d1, h1⟩ := iha (fun hd => hF (by simp [KS.deep, hd])) h.1 (fun j hj => hf j (Nat.lt_of_lt_of_le hj (Nat.le_add_right _ _))) hb
    obtain ⟨d2, h2⟩ := ihb (b := bb) (o := o + a.kind.size) (fun hd => hF (by simp [KS.deep, hd])) ((at_cells _ _).2 fun j t hj => by
      obtain ⟨v, q1, q2⟩ := (at_cells _ _).1 h.2 j t hj
      exact ⟨v, by rw [hsz] at q1; rw [Nat.add_assoc]; exact q1, q2⟩) (fun j hj => by rw [Nat.add_assoc]; exact hf _ (Nat.add_lt_add_left hj _)) hb
    exact ⟨(d1, d2), h1, h2⟩
/-! the argument, as it is read -/
theorem lit_rng {k : IntKind} {n : Int} (h : (Lit.int k n).wf = true) : kLo k ≤ n ∧ n ≤ kHi k := by
  simp only [Lit.wf, Bool.and_eq_true, decide_eq_true_eq] at h
  cases k <;> simpa [IntKind.min, IntKind.max, IntKind.bits, IntKind.signed, kLo, kHi] using h
/-- What reads as of a type holds data of a kind, in range. -/
abbrev ReadsK (P : Program) (t : TypeId) (s : KS) : Prop := Hr.ReadsAs P t s.kind s.rng
theorem readsK_int {P : Program} {t : TypeId} {k : IntKind} (ht : P.underlying t = some (.int k)) : ReadsK P t (.int k) := by
  intro H enc w fuel cs d ps F h hok
  obtain ⟨h1, dd, h2, h3⟩ := Hr.reads_int ht H enc w fuel cs d ps F h hok
  exact ⟨h1, dd, h2, lit_rng h3⟩
theorem readsK_sl {P : Program} {t e : TypeId} {s : KS} (ht : P.underlying t = some (.slice e)) (hsz : P.cellsOf e = s.kind.size) (hK : ReadsK P e s) : ReadsK P t (.sl s) := Hr.reads_slice ht hsz s.pos hK
/-! the cells of a row of data, as they are read -/
/-- The cells hold the data: each slice by its own cell. -/
def KS.cells : (s : KS) → World → List Value → s.kind.Data → (Nat → Prop) → Prop
  | .int k, _, cs, (d : Int), _ => cs = [.int k d]
  | .sl s, w, cs, (ds : List s.kind.Data), F => ∃ (A : Option Addr) (c : Nat), cs = [.slice A ds.length c] ∧ Elems s.kind w A ds F ∧ ds.length ≤ maxLen
  | .pair a b, w, cs, (d : a.kind.Data × b.kind.Data), F => ∃ c1 c2, cs = c1 ++ c2 ∧ a.cells w c1 d.1 F ∧ b.cells w c2 d.2 F
theorem cells_holds : ∀ (s : KS) {w : World} {cs : List Value} {d : s.kind.Data} {F : Nat → Prop}, s.cells w cs d F → cs.length = s.kind.size ∧ HoldsAs s.kind w cs d F := by
  intro s
  induction s with
  | int k =>
    intro w cs (d : Int) F (h : cs = [.int k d])
    subst h
    exact ⟨rfl, holdsAs_int _ _ _ _⟩
  | sl s _ =>
    intro w cs (ds : List s.kind.Data) F ⟨A, c, h, h1, h2⟩
    subst h
    exact ⟨rfl, holdsAs_slice h1 h2⟩
  | pair a b iha ihb =>
    intro w cs (d : a.kind.Data × b.kind.Data) F ⟨c1, c2, h, h1, h2⟩
    subst h
    obtain ⟨e1, k1⟩ := iha h1
    obtain ⟨e2, k2⟩ := ihb h2
    exact ⟨by rw [List.length_append, e1, e2]; rfl, holdsAs_pair k1 k2 e1⟩
/-- What reads as of a type: its cells hold data, in range. -/
def ReadsC (P : Program) (t : TypeId) (s : KS) : Prop :=
  ∀ (H : Type) (enc : TypeId × Value → H) (w : World) (fuel : Nat) (cs : List Value) (d : DataW H) (ps : List MemPlace) (F : Nat → Prop), DataW.trod enc P w 0 (fun _ => true) true fuel t cs = some (d, ps) → Hr.Okay w ps F → ∃ dd : s.kind.Data, s.cells w cs dd F ∧ s.rng dd
theorem ReadsC.reads {P : Program} {t : TypeId} {s : KS} (h : ReadsC P t s) : ReadsK P t s := by
  intro H enc w fuel cs d ps F hr hok
  obtain ⟨dd, h1, h2⟩ := h H enc w fuel cs d ps F hr hok
  obtain ⟨k1, k2⟩ := cells_holds s h1
  exact ⟨k1, dd, k2, h2⟩
theorem readsC_int {P : Program} {t : TypeId} {k : IntKind} (ht : P.underlying t = some (.int k)) : ReadsC P t (.int k) := by
  intro H enc w fuel cs d ps F h hok
  obtain ⟨n, rfl, _, hw⟩ := DataW.trod_int ht h
  exact ⟨n, rfl, lit_rng hw⟩
theorem readsC_sl {P : Program} {t e : TypeId} {s : KS} (ht : P.underlying t = some (.slice e)) (hsz : P.cellsOf e = s.kind.size) (hK : ReadsC P e s) : ReadsC P t (.sl s) := by
  intro H enc w fuel cs d ps F h hok
  obtain ⟨A, c, ds, rfl, h1, h2, h3⟩ := Hr.elems_of_trod ht hsz s.pos hK.reads h hok
  exact ⟨ds, ⟨A, c, rfl, h1, h2⟩, h3⟩
/-- The fields of a struct, from an offset on. -/
inductive ReadsCF (P : Program) : List Field → Nat → KS → Prop where
  | one {f : Field} {o : Nat} {s : KS} (ho : f.offset = o) (hs : P.cellsOf f.type = s.kind.size) (hK : ReadsC P f.type s) : ReadsCF P [f] o s
  | cons {f : Field} {fs : List Field} {o : Nat} {s r : KS} (ho : f.offset = o) (hs : P.cellsOf f.type = s.kind.size) (hK : ReadsC P f.type s) (h : ReadsCF P fs (o + s.kind.size) r) : ReadsCF P (f :: fs) o (.pair s r)
theorem ReadsCF.cells {P : Program} {fs : List Field} {o : Nat} {s : KS} (h : ReadsCF P fs o s) : ∀ (H : Type) (enc : TypeId × Value → H) (w : World) (fuel : Nat) (cs : List Value) (xs : List (DataW H × List MemPlace)) (F : Nat → Prop),
    (fs.mapM fun f => DataW.trod enc P w 0 (fun _ => true) true fuel f.type ((cs.drop f.offset).take (P.cellsOf f.type))) = some xs → Hr.Okay w (xs.flatMap (·.2)) F → cs.length = o + s.kind.size →
    ∃ dd : s.kind.Data, s.cells w (cs.drop o) dd F ∧ s.rng dd := by
  induction h with
  | @one f o s ho hs hK =>
    intro H enc w fuel cs xs F hm hok hl
    simp only [List.mapM_cons, List.mapM_nil, Option.pure_def, Option.bind_eq_bind, Option.bind_eq_some_iff] at hm
    obtain ⟨x, hx, y, hy, hxs⟩ := hm
    cases hy
    cases hxs
    rw [ho, hs, List.take_of_length_le (by rw [List.length_drop]; omega)] at hx
    exact hK H enc w fuel _ x.1 x.2 F hx (by simpa using hok)
  | @cons f fs o s r ho hs hK h ih =>
    intro H enc w fuel cs xs F hm hok hl
    rw [List.mapM_cons] at hm
    simp only [Option.pure_def, Option.bind_eq_bind, Option.bind_eq_some_iff] at hm
    obtain ⟨x, hx, ys, hys, hxs⟩ := hm
    cases hxs
    rw [ho, hs] at hx
    rw [List.flatMap_cons] at hok
    have hl2 : cs.length = o + (s.kind.size + r.kind.size) := hl
    obtain ⟨d1, h1, r1⟩ := hK H enc w fuel _ x.1 x.2 F hx hok.left
    obtain ⟨d2, h2, r2⟩ := ih H enc w fuel cs ys F hys hok.right (by omega)
    refine ⟨(d1, d2), ⟨_, _, ?_, h1, h2⟩, r1, r2⟩
    rw [← List.drop_drop]; exact (List.take_append_drop _ _).symm
theorem readsC_struct {P : Program} {t : TypeId} {fs : Array Field} {s : KS} (ht : P.underlying t = some (.struct fs)) (hs : P.cellsOf t = s.kind.size) (h : ReadsCF P fs.toList 0 s) : ReadsC P t s := by
  intro H enc w fuel cs d ps F hr hok
  cases fuel with
  | zero => simp [DataW.trod] at hr
  | succ n =>
    unfold DataW.trod at hr
    rw [ht] at hr
    dsimp only at hr
    split at hr
    · rename_i hl
      rw [Option.map_eq_some_iff] at hr
      obtain ⟨xs, hxs, e⟩ := hr
      cases e
      have := h.cells H enc w n cs xs F hxs hok (by rw [hl, hs]; omega)
      rw [List.drop_zero] at this
      exact this
    · cases hr
/-- Small data. -/
def KS.small (s : KS) (d : s.kind.Data) : Prop := (s.flat.flat d).length ≤ 2000 ∧ s.rng d
theorem small_pair {a b : KS} {d : a.kind.Data × b.kind.Data} (h : (KS.pair a b).small d) : a.small d.1 ∧ b.small d.2 := by
  obtain ⟨h1, h2⟩ := h
  obtain ⟨l1, l2⟩ := flat_pair a.flat b.flat d h1
  exact ⟨⟨l1, h2.1⟩, l2, h2.2⟩
theorem small_sl {s : KS} {ds : List s.kind.Data} (h : (KS.sl s).small ds) : ds.length ≤ 2000 ∧ ∀ d ∈ ds, s.small d := by
  obtain ⟨h1, h2⟩ := h
  obtain ⟨l1, l2⟩ := flat_slice_len s.flat ds h1
  exact ⟨by omega, fun d hd => ⟨l2 d hd, h2 d hd⟩⟩
end Go.Vg
/- From the executor's run of a call's closure to what 'apart' asks of it. -/
namespace Go.Vg
open Go Go.RowKit Go.Hs Go.Ty Go.Ex
def MAXI : Int := 9223372036854775807
/-- The results' row: each a closure over the variable that a result lies in. -/
def fnRow (σ : St) : List SV → List (Nat × KS) → Option (List Goal × List Nat)
  | [], [] => some ([], [])
  | .fn g [] [.tptr id 0] :: l, (g', s) :: r => (match Nat.beq g g', σ.hp[id]?, fnRow σ l r with
    | true, some (.cells _ cs), some (gs', ids) => (match fitL σ (s.dt .own MAXI) cs with | some (gs, []) => some (gs ++ gs', id :: ids) | _ => none)
    | _, _, _ => none)
  | _, _ => none
def apartB : List (Nat × Bool) → Bool
  | [] => true
  | x :: r => r.all (fun y => !(Nat.beq x.1 y.1) && !(x.2 && y.2)) && apartB r
theorem apartB_ok : ∀ {l : List (Nat × Bool)}, apartB l = true → ∀ (i j : Nat) x y, l[i]? = some x → l[j]? = some y → i ≠ j → x.1 ≠ y.1 ∧ ¬(x.2 = true ∧ y.2 = true)
  | [], _, i, j, x, y, hi, _, _ => by simp at hi
  | z :: r, h, i, j, x, y, hi, hj, hij => by
    rw [apartB, Bool.and_eq_true, List.all_eq_true] at h
    have one : ∀ u, u ∈ r → z.1 ≠ u.1 ∧ ¬(z.2 = true ∧ u.2 = true) := fun u hu => by
      have hh := h.1 u hu
      rw [Bool.and_eq_true, Bool.not_eq_true', Bool.not_eq_true'] at hh
      obtain ⟨h1, h2⟩ := hh
      refine ⟨fun e => (by rw [e, Nat.beq_refl] at h1; cases h1), fun ⟨a, b⟩ => ?_⟩
      rw [a, b] at h2; simp at h2
    cases i with
    | zero =>
      cases j with
      | zero => exact absurd rfl hij
      | succ j =>
        simp at hi hj
        subst hi
        exact one y (List.mem_of_getElem? hj)
    | succ i =>
      cases j with
      | zero =>
        simp at hi hj
        subst hj
        obtain ⟨h1, h2⟩ := one x (List.mem_of_getElem? hi)
        exact ⟨Ne.symm h1, fun ⟨a, b⟩ => h2 ⟨b, a⟩⟩
      | succ j =>
        simp at hi hj
        exact apartB_ok h.2 i j x y hi hj (by omega)
def zipD : List Nat → List (Nat × KS) → List (Nat × Bool)
  | i :: l, (_, s) :: r => (i, s.deep) :: zipD l r
  | _, _ => []
/-- An outcome's goals: its value is a row of closures over results. -/
def outRow (rs : List (Nat × KS)) : SV → St → Option (List Goal)
  | .tsl id 0 n, σ => (match σ.hp[id]? with
    | some (.cells _ l) => (match fnRow σ l rs with
      | some (gs, ids) => (match Nat.beq n rs.length && apartB ((id, false) :: zipD ids rs) with | true => some gs | false => none)
      | none => none)
    | _ => none)
  | .nilv 0, _ => (match rs with | [] => some [] | _ => none)
  | _, _ => none
def outRows (rs : List (Nat × KS)) : Outs → Option (List Goal)
  | [] => some []
  | (s, σ) :: r => match outRow rs s σ, outRows rs r with | some g, some g' => some (g ++ g') | _, _ => none
theorem outRows_mem {rs : List (Nat × KS)} : ∀ {outs : Outs} {gs : List Goal}, outRows rs outs = some gs → ∀ s σ, (s, σ) ∈ outs → ∃ g, outRow rs s σ = some g ∧ ∀ x ∈ g, x ∈ gs := by
  intro outs
  induction outs with
  | nil => intro gs _ s σ h; cases h
  | cons x r ih =>
    obtain ⟨s0, σ0⟩ := x
    intro gs h s σ hm
    simp only [outRows] at h
    split at h
    · rename_i g g' h1 h2
      cases h
      rcases List.mem_cons.1 hm with e | hm
      · cases e; exact ⟨g, h1, fun x hx => List.mem_append_left _ hx⟩
      · obtain ⟨g2, h3, h4⟩ := ih h2 s σ hm
        exact ⟨g2, h3, fun x hx => List.mem_append_right _ (h4 x hx)⟩
    · cases h
/-- A function that sees a result. -/
structure SeeR (P : Program) (ti : TypeId) where
  g : Nat
  s : KS
  sees : SeesL 700000 P ti g s.kind
  over : s.kind.over ≤ 1000
  run : ∀ args w, (callFunc g args).run P w = .ok (.enter g args) w
def SeeR.pr {P : Program} {ti : TypeId} (r : SeeR P ti) : Nat × KS := (r.g, r.s)
theorem fnRow_ok {P : Program} {ti : TypeId} {C : Cx} {E : Ev} {σ : St} {a : Act} {w : World} (h : Inv C E σ a w) : ∀ {L : List (SeeR P ti)} {l : List SV} {gs : List Goal} {ids : List Nat} {vs : List Value}, fnRow σ l (L.map SeeR.pr) = some (gs, ids) → (∀ g ∈ gs, g.ok) → DenL C E l vs →
    ∃ rs : List (Res P ti), rs.length = L.length ∧ ∀ (i : Nat) r, rs[i]? = some r → vs[i]? = some (.func (.func r.g) #[] #[.pointer (some ⟨r.b, 0, none⟩)]) ∧
      ∃ id dp, (zipD ids (L.map SeeR.pr))[i]? = some (id, dp) ∧ E.b[id]? = some r.b ∧ C.w0.heap.size ≤ r.b ∧ (∀ o, C.R r.b o = none) ∧ r.K.Holds w r.b 0 r.d r.F ∧ ∀ k, r.F k → k = r.b ∨ (dp = true ∧ ∃ o t, C.S k o = some t) := by
  intro L
  induction L with
  | nil =>
    intro l gs ids vs _ _ _
    exact ⟨[], rfl, fun i r hr => by simp at hr⟩
  | cons x L ih =>
    intro l gs ids vs hf hg hd
    obtain ⟨g', s, hsees, hover, hrun⟩ := x
    unfold fnRow at hf
    split at hf
    · rename_i _ _ hll; cases hll
    · rename_i g id l' g1 s1 r1 hll
      simp only [List.map_cons, SeeR.pr, List.cons.injEq, Prod.mk.injEq] at hll
      obtain ⟨⟨rfl, rfl⟩, rfl⟩ := hll
      split at hf
      · rename_i ver cs gs' ids' hb hcs hrec
        split at hf
        · rename_i gs1 hfit
          cases hf
          have hgg := Nat.eq_of_beq_eq_true hb
          subst hgg
          simp only [DenL] at hd
          obtain ⟨v, r, rfl, hv, hr⟩ := hd
          simp only [Den, DenL] at hv
          obtain ⟨us, ws, rfl, hus, hws⟩ := hv
          obtain ⟨rs, e1, e2⟩ := ih hrec (fun q hq => hg q (List.mem_append_right _ hq)) hr
          obtain ⟨pv, pr, hpe, ⟨b, hb1, rfl⟩, rfl⟩ := hws
          have hws' : ws = #[.pointer (some ⟨b, 0, none⟩)] := Array.toList_inj.1 hpe
          subst hws'
          have hus' : us = #[] := Array.toList_inj.1 hus
          subst hus'
          obtain ⟨b', cs', ty, q1, q2, q3, q4⟩ := cells_of h hcs
          rw [hb1] at q1; cases q1
          obtain ⟨hfree, _⟩ := tracked_free h hcs (by intro e; cases e) hb1
          obtain ⟨us, rr, k1, k2, k3, k4⟩ := fitL_ok h.kn hfit (fun q hq => hg q (List.mem_append_left _ hq)) (KS.inst .own MAXI s E.ρ) q4
          simp only [DenL] at k4
          subst k4
          rw [List.append_nil] at k1
          have hat : At C (s.ty .own 9223372036854775807) (fun j => w.cell? ⟨b, 0 + j, none⟩) := (at_cells _ _).2 fun j t hj => by
            obtain ⟨v, p1, p2⟩ := k3 j t hj
            refine ⟨v, ?_, p2⟩
            show w.cell? ⟨b, 0 + j, none⟩ = some v
            rw [Nat.zero_add]
            rw [← k1, Array.getElem?_toList] at p1
            exact (block_cell q3 p1).1
          obtain ⟨d, hd⟩ := holds_of_at h.wt (F := fun k => k = b ∨ (s.deep = true ∧ ∃ o t, C.S k o = some t)) s (fun hdp k o t hS => .inr ⟨hdp, o, t, hS⟩) hat (fun j _ => frozen_cells q3 _) (.inl rfl)
          refine ⟨⟨s.kind, g, hsees, hover, hrun, b, d, fun k => k = b ∨ (s.deep = true ∧ ∃ o t, C.S k o = some t)⟩ :: rs, by simp [e1], fun i r' hr' => ?_⟩
          cases i with
          | zero =>
            simp at hr'
            subst hr'
            exact ⟨rfl, id, s.deep, rfl, hb1, q2, hfree, hd, fun k hk => hk⟩
          | succ i =>
            simp only [List.getElem?_cons_succ] at hr'
            obtain ⟨p1, id', dp, p2, p3⟩ := e2 i r' hr'
            exact ⟨by simpa using p1, id', dp, by simpa [zipD, SeeR.pr] using p2, p3⟩
        · cases hf
      · cases hf
    · cases hf
theorem fnRow_len {σ : St} : ∀ {rs : List (Nat × KS)} {l : List SV} {x : List Goal × List Nat}, fnRow σ l rs = some x → l.length = rs.length ∧ x.2.length = rs.length := by
  intro rs
  induction rs with
  | nil =>
    intro l x h
    unfold fnRow at h
    split at h
    · cases h; exact ⟨rfl, rfl⟩
    · rename_i hll; cases hll
    · cases h
  | cons y rs ih =>
    intro l x h
    unfold fnRow at h
    split at h
    · rename_i hll; cases hll
    · rename_i hll
      cases hll
      split at h
      · rename_i hrec
        split at h
        · cases h
          have := ih hrec
          exact ⟨by simp [this.1], by simp [this.2]⟩
        · cases h
      · cases h
    · cases h
/-- The look at a call's closure. -/
noncomputable def lookX (cf : Cfg) (n f : Nat) (s : KS) (rs : List (Nat × KS)) : Option (List Goal) := match callX cf.E (xcode cf n) 0 f [.elt .old (s.dt .old 2000)] st0 with
  | some (outs, gs) => (match outRows rs outs with | some g => some (gs ++ g) | none => none)
  | none => none
noncomputable def lookXC (cf : Cfg) (n f : Nat) (s : KS) (rs : List (Nat × KS)) (cs : List Cert) : Bool := match lookX cf n f s rs with
  | some gs => checkAll gs cs
  | none => false
theorem closure_ok {cf : Cfg} (hE : EnvOK cf.E) (hK : KeysOK cf) {ti : TypeId} {n f : Nat} {s : KS} {L : List (SeeR cf.E.P ti)} (hL : L.length ≤ 1000) {cs : List Cert} (h : lookXC cf n f s (L.map SeeR.pr) cs = true) : CallOK cf.E.P ti s.kind s.small f := by
  intro w b d F hh hF hsm
  unfold lookXC at h
  split at h
  · rename_i gs hl
    unfold lookX at hl
    split at hl
    · rename_i outs gs0 hc
      split at hl
      · rename_i g hog
        cases hl
        have hgs := checkAll_ok h
        have h0 : Inv (⟨w, fun _ _ => none, fun _ => none, fun _ _ => none⟩ : Cx) ⟨[], [], []⟩ st0 ⟨#[], []⟩ w :=
          ⟨WT.start w, fun x hx => by (simp [st0] at hx), rfl, rfl, rfl, rfl, fun t s hg => by (cases t <;> simp [st0, get_nil] at hg), fun i x hx => by (simp [st0] at hx), fun i j b hb => by (simp at hb), fun i b hb => by (simp at hb), fun f hf => by (simp [st0] at hf), fun r hr => by (simp [st0] at hr), rfl⟩
        have hat : At (⟨w, fun _ _ => none, fun _ => none, fun _ _ => none⟩ : Cx) (s.ty .old 2000) (fun j => w.cell? ⟨b, 0 + j, none⟩) := at_of_holds (C := ⟨w, fun _ _ => none, fun _ => none, fun _ _ => none⟩) (by intro e; cases e) s hh hF hsm.2 hsm.1
        have hbl : b < w.heap.size := by
          obtain ⟨t, ht⟩ := (cell_some (s.ty .old 2000) 0).1 (by rw [KS.size]; exact s.pos)
          obtain ⟨v, q1, _⟩ := (at_cells _ _).1 hat 0 t ht
          exact cell_lt' (a := ⟨b, 0 + 0, none⟩) q1
        have harg : DenL (⟨w, fun _ _ => none, fun _ => none, fun _ _ => none⟩ : Cx) ⟨[], [], []⟩ [.elt .old (s.dt .old 2000)] [.pointer (some ⟨b, 0, none⟩)] := by
          simp only [DenL, Den]
          exact ⟨_, [], rfl, ⟨_, b, 0, KS.inst .old 2000 s _, rfl, .inr ⟨(by intro e; cases e), hbl, hat⟩⟩, rfl⟩
        refine xcall_ok hE hK n 0 f _ st0 outs gs0 hc (fun q hq => hgs q (List.mem_append_left _ hq)) _ _ _ w h0 _ harg (ResPost cf.E.P ti w) trivial fun sv σ' hso C' E2 v w' hC hE2 hi' hd => ?_
        obtain ⟨g', q1, q2⟩ := outRows_mem hog sv σ' hso
        have hgs' : ∀ x ∈ g', x.ok := fun x hx => hgs x (List.mem_append_right _ (q2 x hx))
        have hw0 : C'.w0 = w := hC.w0
        have hbel : Below w.heap.size w w' := by have := hi'.wt.below; rw [hw0] at this; exact this
        unfold outRow at q1
        split at q1
        · rename_i id k
          split at q1
          · rename_i ver l hl
            split at q1
            · rename_i gs1 ids hrow
              split at q1
              · rename_i hchk
                cases q1
                rw [Bool.and_eq_true] at hchk
                have hk := Nat.eq_of_beq_eq_true hchk.1
                have hap := apartB_ok hchk.2
                simp only [Den] at hd
                obtain ⟨br, hbr, rfl⟩ := hd
                obtain ⟨b', cs', ty, p1, p2, p3, p4⟩ := cells_of hi' hl
                rw [hbr] at p1; cases p1
                obtain ⟨hfree, _⟩ := tracked_free hi' hl (by intro e; cases e) hbr
                obtain ⟨rs, e1, e2⟩ := fnRow_ok hi' hrow hgs' p4
                have hkl : k = rs.length := by rw [hk, e1]; simp
                have fresh : ∀ r ∈ rs, ∀ q, r.F q → Fresh w w' q := fun r hr q hq => by
                  obtain ⟨i, hi⟩ := List.mem_iff_getElem?.1 hr
                  obtain ⟨_, id', dp, _, t1, t2, _, _, t3⟩ := e2 i r hi
                  rcases t3 q hq with rfl | ⟨_, o, t, hS⟩
                  · rw [hw0] at t2
                    exact ⟨t2, hi'.lt _ _ t1⟩
                  · obtain ⟨s1, _, v, s2, _⟩ := hi'.wt.cell q o t hS
                    rw [hw0] at s1
                    exact ⟨s1, cell_lt' (a := ⟨q, o, none⟩) s2⟩
                have free : ∀ q, (∀ o, C'.R q o = none) → ¬ ∃ o t, C'.S q o = some t := fun q hR ⟨o, t, hS⟩ => by
                  have := hi'.wt.sr q o t hS
                  rw [hR] at this; cases this
                rw [hkl]
                refine ⟨some ⟨br, 0, none⟩, rs.length, rs, rfl, by rw [e1]; exact hL, fun i r hi => ?_, fun ad had => ?_, fun r hr => ?_, fun i j r t hi hj hij q hq hq2 => ?_, hbel⟩
                · have := (e2 i r hi).1
                  rw [Array.getElem?_toList] at this
                  exact ⟨br, 0, rfl, by rw [Nat.zero_add]; exact (block_cell p3 this).1⟩
                · cases had
                  refine ⟨⟨by rw [← hw0]; exact p2, hi'.lt _ _ hbr⟩, fun r hr hq => ?_⟩
                  obtain ⟨i, hi⟩ := List.mem_iff_getElem?.1 hr
                  obtain ⟨_, id', dp, t0, t1, _, _, _, t3⟩ := e2 i r hi
                  rcases t3 br hq with e | ⟨_, hS⟩
                  · have hid := (hap 0 (i + 1) (id, false) (id', dp) rfl (by simpa using t0) (by omega)).1
                    exact hid (hi'.inj _ _ br hbr (by rw [t1, e]))
                  · exact free br hfree hS
                · obtain ⟨i, hi⟩ := List.mem_iff_getElem?.1 hr
                  obtain ⟨_, id', dp, _, _, _, _, t2, _⟩ := e2 i r hi
                  exact ⟨t2, fresh r hr⟩
                · obtain ⟨_, id1, dp1, a0, a1, _, a2, _, a3⟩ := e2 i r hi
                  obtain ⟨_, id2, dp2, c0, c1, _, c2, _, c3⟩ := e2 j t hj
                  obtain ⟨n1, n2⟩ := hap (i + 1) (j + 1) (id1, dp1) (id2, dp2) (by simpa using a0) (by simpa using c0) (by omega)
                  rcases a3 q hq with e0 | ⟨d1, hS1⟩ <;> rcases c3 q hq2 with e | ⟨d2, hS2⟩
                  · exact n1 (hi'.inj _ _ q (by rw [a1, e0]) (by rw [c1, e]))
                  · subst e0; exact free _ a2 hS2
                  · subst e; exact free _ c2 hS1
                  · exact n2 ⟨d1, d2⟩
              · cases q1
            · cases q1
          · cases q1
        · split at q1
          · rename_i hnil
            simp only [Den, nilVal] at hd
            subst hd
            exact res_none hbel
          · cases q1
        · cases q1
      · cases hl
    · cases hl
  · cases h
end Go.Vg
