/- Proved here, with no condition of its own: operations on tracked blocks, loops, maps, appends. -/
import Derived.Test.YtojicidicefdjaaGreatVA
import Derived.Test.YtojicidicefdjaaGreatExB
import Derived.Room.AppendAny
import Derived.Laws.MakeOwn
import Derived.Laws.Entries
import Derived.OrdersHeld
import Derived.DeepKeys5
import Derived.MapKept
/- append: the law of the world. -/
namespace Go.Vg
open Go Go.RowKit Go.Hs Go.Ty Go.Ex
theorem storeCells_fill {P : Program} {b o : Nat} : ∀ (vs : List Value) (i : Nat) (C : Cx) (w : World), WT C w → (∀ j v, vs[j]? = some v → ∃ t, C.R b (o + (i + j)) = some t ∧ At C t (Ty.one v)) →
    ∃ w' C', (storeCells ⟨b, o, none⟩ vs i).run P w = .ok () w' ∧ C.le C' ∧ WT C' w' ∧ w'.heap.size = w.heap.size ∧ (∀ k, k ≠ b → w'.heap[k]? = w.heap[k]?) ∧ C'.R = C.R ∧ C'.M = C.M ∧ (vs = [] → w' = w) ∧ ∀ j, j < vs.length → C'.S b (o + (i + j)) = C.R b (o + (i + j)) := by
  intro vs
  induction vs with
  | nil => intro i C w h _; exact ⟨w, C, rfl, .refl C, h, rfl, fun _ _ => rfl, rfl, rfl, fun _ => rfl, fun j hj => absurd hj (Nat.not_lt_zero _)⟩
  | cons v r ih =>
    intro i C w h hv
    obtain ⟨t, h1, h2⟩ := hv 0 v rfl
    obtain ⟨_, q1, u, q2, q3⟩ := h.res b (o + (i + 0)) t h1
    have hle := h.live_le h1
    have hset := h.fill h1 h2
    obtain ⟨w', C', e1, e2, e3, e4, e5, e6, e7, _, e8⟩ := ih (i + 1) _ _ hset fun j x hj => by
      obtain ⟨t', q4, q5⟩ := hv (j + 1) x (by simpa using hj)
      rw [show i + 1 + j = i + (j + 1) by omega]
      exact ⟨t', q4, at_mono hle _ _ q5⟩
    refine ⟨w', C', ?_, hle.trans e2, e3, by rw [e4]; exact setCell_size _ _ _, fun k hk => (e5 k hk).trans (Below.heap_setCell _ _ _ _ hk), e6, e7, fun h => (by cases h), fun j hj => ?_⟩
    · rw [Nat.add_zero] at q2 q3
      simp only [storeCells, Sem.run_bind, add_flat]
      rw [run_store _ _ _ _ _ (at_oneCell q1 h2), q2]
      simp only [q3]
      exact e1
    · cases j with
      | zero =>
        rw [h1]
        refine e2.S _ _ _ ?_
        show (if _ then _ else _) = _
        exact if_pos ⟨rfl, rfl⟩
      | succ j =>
        have := e8 j (by simpa using hj)
        rw [show i + 1 + j = i + (j + 1) by omega] at this
        exact this
theorem nsc_le2 {need cap : Nat} (h1 : cap < need) : Builtin.nextslicecap need cap ≤ 2 * need + 1024 := by
  unfold Builtin.nextslicecap
  split
  · omega
  · split
    · omega
    · rw [growBy_four]
      repeat' split
      all_goals omega
/-- Zero cells, one by one. -/
theorem zeroCells_get {z : Array Value} {n i : Nat} (h : i < n * z.size) : (Builtin.zeroCells z n)[i]? = z[i % z.size]? := by
  have hz : 0 < z.size := by
    rcases Nat.eq_zero_or_pos z.size with e | e
    · rw [e] at h; simp at h
    · exact e
  have hm := Nat.mod_lt i hz
  unfold Builtin.zeroCells
  simp [h, hm]
theorem zeroCells_size {z : Array Value} {n : Nat} : (Builtin.zeroCells z n).size = n * z.size := by unfold Builtin.zeroCells; simp
/-- A slice of the call's own, with what its cells are kept for. -/
def OwnSl (C : Cx) (u : T) (A : Option Addr) (k c : Nat) : Prop :=
  (A = none ∧ k = 0 ∧ c = 0) ∨ ∃ b o, A = some ⟨b, o, none⟩ ∧ k ≤ c ∧ C.w0.heap.size ≤ b ∧ OwnRow C u b o k ∧ ResRow C u b o c
theorem ownSl_at {C : Cx} {u : T} {A : Option Addr} {k c : Nat} (h : OwnSl C u A k c) (hk : k ≤ maxLen) : At C (.sl .own (k : Int) (k : Int) u) (Ty.one (.slice A k c)) :=
  ⟨A, k, c, rfl, loOK_self _, Int.le_refl _, hk, .inl ⟨(by intro e; cases e), h⟩⟩
theorem at_ownSl {C : Cx} {lo hi : Int} {u : T} {v : Value} (h : At C (.sl .own lo hi u) (Ty.one v)) : ∃ A k c, v = .slice A k c ∧ lo ≤ (k : Int) ∧ (k : Int) ≤ hi ∧ k ≤ maxLen ∧ OwnSl C u A k c := by
  obtain ⟨A, n, c, h1, h2, h3, h4, h5⟩ := h
  simp only [Ty.one, if_pos, Option.some.injEq] at h1
  refine ⟨A, n, c, h1, h2.1, h3, h4, ?_⟩
  rcases h5 with ⟨_, h5⟩ | ⟨hm, _⟩
  · exact h5
  · exact absurd rfl hm
/-- The cells of the elements that are there. -/
theorem ownRow_cells {C : Cx} {w : World} (h : WT C w) {u : T} {b o k : Nat} (hr : OwnRow C u b o k) : ∃ olds : List Value, olds.length = k * u.size ∧ ∀ i, i < k * u.size → ∃ v t, olds[i]? = some v ∧ w.cell? ⟨b, o + i, none⟩ = some v ∧ w.frozen? ⟨b, o + i, none⟩ = false ∧ u.cell (i % u.size) = some t ∧ At C t (Ty.one v) := by
  have key : ∀ i, i < k * u.size → ∃ v t, w.cell? ⟨b, o + i, none⟩ = some v ∧ w.frozen? ⟨b, o + i, none⟩ = false ∧ u.cell (i % u.size) = some t ∧ At C t (Ty.one v) := fun i hi => by
    have hpos : 0 < u.size := by
      rcases Nat.eq_zero_or_pos u.size with e | e
      · rw [e] at hi; simp at hi
      · exact e
    obtain ⟨t, ht⟩ := (cell_some u (i % u.size)).1 (Nat.mod_lt _ hpos)
    obtain ⟨_, _, v, q1, q2, q3⟩ := h.cell b (o + i) t ((hr i hi).trans ht)
    exact ⟨v, t, q1, q2, ht, q3⟩
  refine ⟨(List.range (k * u.size)).map fun i => (w.cell? ⟨b, o + i, none⟩).getD undef, by simp, fun i hi => ?_⟩
  obtain ⟨v, t, h1, h2, h3, h4⟩ := key i hi
  exact ⟨v, t, by simp [hi, h1], h1, h2, h3, h4⟩
set_option maxHeartbeats 2000000 in
theorem append_core {P : Program} {e st xt ty : TypeId} {j : AInfo} {tj : TypeInfo} {z : Value} (hio : InfOK P e j tj z) (hst : P.underlying st = some (.slice e))
    {C : Cx} {w : World} (hwt : WT C w) {u : T} (hus : u.size = j.size) {A : Option Addr} {k c : Nat} (hs : OwnSl C u A k c) (n : Nat) (X : Value) (news : List Value)
    (hsrc : Src P j.size xt X n news w) (hfit : ∀ i v, news[i]? = some v → ∃ t, u.cell (i % u.size) = some t ∧ At C t (Ty.one v))
    (hb0 : 0 < j.bytes) (small : c < k + n → Builtin.nextslicecap (k + n) c * j.bytes ≤ 281474976710656) :
    ∃ A' c' w' C', (Builtin.append_ #[st, xt] ty #[.slice A k c, X]).run P w = .ok (.slice A' (k + n) c') w' ∧ C.le C' ∧ WT C' w' ∧ w.heap.size ≤ w'.heap.size ∧
      (∀ b, (∀ o, C.R b o = none) → b < w.heap.size → w'.heap[b]? = w.heap[b]?) ∧ (∀ b o, b < w.heap.size → C'.R b o = C.R b o) ∧ C'.M = C.M ∧ OwnSl C' u A' (k + n) c' ∧ k + n ≤ maxLen := by
  have hzs : z.cells.size = j.size := by rw [← hio.len, hio.runs]; simp
  have hni : ∀ xd, P.underlying xt = some xd → ∀ kk, xd ≠ .int kk := fun xd hx kk e1 => by
    rcases hsrc.kind with ⟨e', h⟩ | h <;> (rw [hx] at h; subst e1; cases h)
  obtain ⟨xd, hxd⟩ : ∃ xd, P.underlying xt = some xd := by rcases hsrc.kind with ⟨e', h⟩ | h <;> exact ⟨_, h⟩
  by_cases hroom : k + n ≤ c
  · rcases hs with ⟨rfl, rfl, rfl⟩ | ⟨b, o, rfl, h1, h2, h3, h4⟩
    · have hn0 : n = 0 := by omega
      subst hn0
      exact ⟨none, 0, w, C, run_room (ty := ty) hio hst hxd (hni _ hxd) none 0 0 0 X news (hsrc.len w) (by omega) hsrc.cells (.inl ⟨rfl, rfl⟩), .refl C, hwt, Nat.le_refl _, fun _ _ _ => rfl, fun _ _ _ => rfl, rfl, .inl ⟨rfl, rfl, rfl⟩, Nat.zero_le _⟩
    · have hR : ∀ i, i < n * u.size → C.R b (o + (k * u.size + i)) = u.cell (i % u.size) := fun i hi => by
        have : k * u.size + i < c * u.size := by
          have h5 : (k + n) * u.size ≤ c * u.size := Nat.mul_le_mul_right _ hroom
          rw [Nat.add_mul] at h5; omega
        have := h4.2 _ this
        rw [this, show (k * u.size + i) % u.size = i % u.size by rw [Nat.mul_comm, Nat.mul_add_mod]]
      have hnl : news.length = n * u.size := by rw [hus]; exact hsrc.newsLen
      obtain ⟨w', C', e1, e2, e3, e4, e5, e6, e7, e9, e8⟩ := storeCells_fill (P := P) (b := b) (o := o + k * u.size) news 0 C w hwt fun i v hi => by
        obtain ⟨t, q1, q2⟩ := hfit i v hi
        have hil := (List.getElem?_eq_some_iff.1 hi).1
        exact ⟨t, by rw [Nat.zero_add, Nat.add_assoc, hR i (by omega)]; exact q1, q2⟩
      refine ⟨some ⟨b, o, none⟩, c, w', C', run_room (ty := ty) hio hst hxd (hni _ hxd) (some ⟨b, o, none⟩) k c n X news (hsrc.len w) hroom hsrc.cells (.inr ⟨_, rfl, ?_⟩), e2, e3, by omega, fun b' hb' _ => ?_, fun b' o' _ => by rw [e6], e7, .inr ⟨b, o, rfl, hroom, by rw [e2.w0]; exact h2, fun i hi => ?_, res_mono e2 h4⟩, Nat.le_trans hroom h4.1⟩
      · rw [add_flat, ← hus]; exact e1
      · by_cases hz : n * u.size = 0
        · rw [e9 (List.eq_nil_of_length_eq_zero (by omega))]
        · refine e5 b' ?_
          rintro rfl
          have := hR 0 (by omega)
          rw [hb'] at this
          have hu0 : 0 < u.size := Nat.pos_of_ne_zero fun e => hz (by rw [e]; simp)
          obtain ⟨t, ht⟩ := (cell_some u 0).1 hu0
          rw [Nat.zero_mod, ht] at this; cases this
      · rw [Nat.add_mul] at hi
        by_cases hlt : i < k * u.size
        · exact (own_mono e2 h3) i hlt
        · have := e8 (i - k * u.size) (by omega)
          rw [Nat.zero_add, show o + k * u.size + (i - k * u.size) = o + i by omega] at this
          rw [this]
          have h5 := hR (i - k * u.size) (by omega)
          rw [show o + (k * u.size + (i - k * u.size)) = o + i by omega] at h5
          rw [h5]
          congr 1
          have : i = k * u.size + (i - k * u.size) := by omega
          rw [this, show (k * u.size + (i - k * u.size)) % u.size = (i - k * u.size) % u.size by rw [Nat.mul_comm, Nat.mul_add_mod]]
          congr 1; omega
  · have hroom : c < k + n := by omega
    have hfits := small hroom
    have hle := le_nextslicecap hroom
    have hkn : k + n ≤ 281474976710656 := Nat.le_trans hle (Nat.le_trans (Nat.le_mul_of_pos_right _ hb0) hfits)
    have hkm : k + n ≤ maxLen := by unfold maxLen; omega
    have hold : ∃ olds : List Value, olds.length = k * u.size ∧ (∀ i, i < k * u.size → ∃ v t, olds[i]? = some v ∧ u.cell (i % u.size) = some t ∧ At C t (Ty.one v)) ∧
        (Builtin.firstCells j.size k (.slice A k c)).run P w.drew = .ok olds.toArray w.drew := by
      rcases hs with ⟨rfl, rfl, rfl⟩ | ⟨b, o, rfl, h1, h2, h3, h4⟩
      · exact ⟨[], by simp, fun i hi => by simp at hi, by simp [Builtin.firstCells]⟩
      · obtain ⟨olds, q1, q2⟩ := ownRow_cells hwt h3
        refine ⟨olds, q1, fun i hi => ?_, ?_⟩
        · obtain ⟨v, t, r1, r2, _, r3, r4⟩ := q2 i hi; exact ⟨v, t, r1, r3, r4⟩
        · show (loadCells ⟨b, o, none⟩ (k * j.size)).run P w.drew = _
          rw [← hus, ← q1]
          refine run_loadCells_list w.drew ⟨b, o, none⟩ olds fun i v hi => ?_
          have hil := (List.getElem?_eq_some_iff.1 hi).1
          obtain ⟨v', t, r1, r2, _⟩ := q2 i (by omega)
          rw [hi] at r1; cases r1
          rw [add_flat]; exact r2
    obtain ⟨olds, q1, q2, q3⟩ := hold
    have hrun := run_append_grow_src (P := P) w st xt ty e tj z hst hio.info hio.zero A k c olds (by rw [hio.size]; exact q3) X n news (by rw [hio.size]; exact hsrc) hroom (by unfold maxLen at hkm; omega) (by rw [hio.bytes]; exact hfits)
    have hcg := grownCap_ge w (k + n) c e
    have hcm := grownCap_le_maxLen w (k + n) c e hkm
    generalize grownCap w (k + n) c e = cap at *
    have hnl : news.length = n * u.size := by rw [hus]; exact hsrc.newsLen
    have hsz : ((olds ++ news).toArray ++ Builtin.zeroCells z.cells (cap - (k + n))).size = cap * u.size := by
      rw [Array.size_append, zeroCells_size, hzs, ← hus]
      simp only [List.size_toArray, List.length_append, q1, hnl]
      rw [← Nat.add_mul, ← Nat.add_mul]; congr 1; omega
    have hlo : ∀ i, i < (k + n) * u.size → ∃ v t, ((olds ++ news).toArray ++ Builtin.zeroCells z.cells (cap - (k + n)))[i]? = some v ∧ u.cell (i % u.size) = some t ∧ At C t (Ty.one v) := fun i hi => by
      rw [Array.getElem?_append_left (by simp [q1, hnl]; rw [← Nat.add_mul]; exact hi)]
      rw [List.getElem?_toArray]
      by_cases hlt : i < k * u.size
      · rw [List.getElem?_append_left (by omega)]
        exact q2 i hlt
      · rw [List.getElem?_append_right (by omega), q1]
        rw [Nat.add_mul] at hi
        have hil : i - k * u.size < news.length := by omega
        obtain ⟨t, r1, r2⟩ := hfit (i - k * u.size) _ (List.getElem?_eq_getElem hil)
        refine ⟨_, t, List.getElem?_eq_getElem hil, ?_, r2⟩
        rw [← r1]
        congr 1
        have : i = k * u.size + (i - k * u.size) := by omega
        rw [this, show (k * u.size + (i - k * u.size)) % u.size = (i - k * u.size) % u.size by rw [Nat.mul_comm, Nat.mul_add_mod]]
        congr 1; omega
    generalize hcs : (olds ++ news).toArray ++ Builtin.zeroCells z.cells (cap - (k + n)) = cs at *
    have hRn : ∀ o, C.R w.heap.size o = none := fun o => by
      cases hq : C.R w.heap.size o with
      | none => rfl
      | some t => exact absurd (hwt.R_lt hq) (Nat.lt_irrefl _)
    have hwt1 : WT C (w.drew.alloc (.cells cs e)) := (hwt.drewN 1).alloc _
    have hsz1 : w.drew.heap.size = w.heap.size := rfl
    have hwt2 := hwt1.type (b := w.heap.size) (cs := cs) (e := e) hwt.below.size (heap_alloc_new w.drew _) hRn (fun o => if o < (k + n) * u.size then u.cell (o % u.size) else none) (fun o => if o < cap * u.size then u.cell (o % u.size) else none)
      (fun o t ho => by
        split at ho
        · rename_i hlt
          exact ⟨cell_leaf _ _ _ ho, _, Array.getElem?_eq_getElem (by omega)⟩
        · cases ho)
      (fun o t ho => by
        split at ho
        · rename_i hlt
          obtain ⟨v, t', r1, r2, r3⟩ := hlo o hlt
          rw [ho] at r2; cases r2
          refine ⟨?_, v, r1, r3⟩
          rw [if_pos (Nat.lt_of_lt_of_le hlt (Nat.mul_le_mul_right _ hcg))]
          exact ho
        · cases ho)
    have hle2 := hwt1.ext_le w.heap.size hRn (fun o => if o < (k + n) * u.size then u.cell (o % u.size) else none) (fun o => if o < cap * u.size then u.cell (o % u.size) else none)
    refine ⟨_, _, _, _, hrun, hle2, hwt2, by rw [Hs.alloc_size]; omega, fun b' _ hb' => Below.heap_alloc w.drew _ b' hb', fun b' o' hb' => ?_, rfl, .inr ⟨w.heap.size, 0, rfl, hcg, hwt.below.size, fun i hi => ?_, hcm, fun i hi => ?_⟩, hkm⟩
    · show (if _ then _ else _) = _
      exact if_neg (by omega)
    · show (if _ then _ else _) = _
      rw [if_pos rfl, Nat.zero_add, if_pos hi]
    · show (if _ then _ else _) = _
      rw [if_pos rfl, Nat.zero_add, if_pos hi]
end Go.Vg
/- append: the operation. -/
namespace Go.Vg
open Go Go.RowKit Go.Hs Go.Ty Go.Ex
theorem inv_grow {C C' : Cx} {E : Ev} {σ : St} {a : Act} {w w' : World} (h : Inv C E σ a w) (hC : C.le C') (hwt : WT C' w') (hsz : w.heap.size ≤ w'.heap.size)
    (hb : ∀ b, (∀ o, C.R b o = none) → C.M b = none → b < w.heap.size → w'.heap[b]? = w.heap[b]?) (hR : ∀ b o, b < w.heap.size → C'.R b o = C.R b o) (hM : ∀ b, b < w.heap.size → C'.M b = C.M b) : Inv C' E σ a w' :=
  ⟨hwt, h.hy, h.ns, h.no, h.nb, h.nt, fun t s hg => by
    obtain ⟨v, h1, h2⟩ := h.sl t s hg
    exact ⟨v, h1, den_mono hC (.refl E) _ _ h2⟩, fun i x hx hg => by
    obtain ⟨b, ob, h1, h2, h3, h4, h5, h6⟩ := h.hp i x hx hg
    have hlt := h.lt i b h1
    exact ⟨b, ob, h1, by rw [hC.w0]; exact h2, fun o => (hR b o hlt).trans (h3 o), (hM b hlt).trans h4, (hb b h3 h4 hlt).trans h5, tin_mono hC (.refl E) h6⟩, h.inj, fun i b hi => Nat.lt_of_lt_of_le (h.lt i b hi) hsz,
    fun f hf => fact_mono hC (.refl E) (h.fa f hf), fun r hr => read_mono hC (.refl E) (h.rd r hr), h.dfr⟩
def MAXL : Int := 9223372036854775807
/-- What a slice comes to that has grown. -/
def grown (σ : St) (d : DT) (n : Tm) : SV × St := (.sl σ.no .own d n, assume (.le n (.c MAXL)) { σ with no := σ.no + 1 })
theorem grown_inv {C : Cx} {E : Ev} {σ : St} {a : Act} {w : World} (h : Inv C E σ a w) {d : DT} {u : T} {n : Tm} {A : Option Addr} {k c : Nat} (hu : d.inst E.ρ = some u) (hn : n.ev E.ρ = some (k : Int)) (hs : OwnSl C u A k c) (hk : k ≤ maxLen) :
    ∃ E', E.le E' ∧ Inv C E' (grown σ d n).2 a w ∧ Den C E' (grown σ d n).1 (.slice A k c) := by
  obtain ⟨e1, e2, e3⟩ := id_inv h (.slice A k c)
  refine ⟨_, e1, assume_inv e2 ⟨⟨_, hn⟩, ⟨_, rfl⟩⟩ ?_, ?_⟩
  · show Tm.val _ _ ≤ Tm.val _ _
    rw [ev_val (ρ := E.ρ) hn]
    show (k : Int) ≤ MAXL
    unfold MAXL; unfold maxLen at hk; omega
  · show Den C _ (.sl σ.no .own d n) _
    simp only [Den]
    exact ⟨e3, u, k, hu, hn, ownSl_at hs hk⟩
/-- What is appended fits. -/
def roomH (k m : Tm) (bytes : Nat) : Hy := .le (.mul (.add (.add (.mul (.c 2) k) (.mul (.c 2) m)) (.c 1024)) (.c bytes)) (.c 281474976710656)
/-- The slice that is appended to. -/
def baseS (d : DT) (hy : List Hy) : SV → Option (Tm × List Goal)
  | .nilv 0 => some (.c 0, [])
  | .sl _ .own d' k => match subD hy d' d with | some l => some (k, l) | none => none
  | _ => none
theorem baseS_ok {C : Cx} {E : Ev} {hy : List Hy} (hh : ∀ x ∈ hy, x.holds (tot E.ρ)) {d : DT} {s : SV} {k : Tm} {gs : List Goal} {u : T} {v : Value} (hb : baseS d hy s = some (k, gs)) (hg : ∀ g ∈ gs, g.ok) (hu : d.inst E.ρ = some u) (hd : Den C E s v) :
    ∃ A n c, v = .slice A n c ∧ k.ev E.ρ = some (n : Int) ∧ n ≤ maxLen ∧ OwnSl C u A n c := by
  unfold baseS at hb
  split at hb
  · cases hb
    simp only [Den, nilVal] at hd
    exact ⟨none, 0, 0, hd, rfl, Nat.zero_le _, .inl ⟨rfl, rfl, rfl⟩⟩
  · split at hb
    · rename_i l hl
      cases hb
      simp only [Den] at hd
      obtain ⟨_, u', k', hu', hk', hat⟩ := hd
      rw [subD_ok hh hl hg hu' hu] at hat
      obtain ⟨A, n, c, h1, h2, h3, h4, h5⟩ := at_ownSl hat
      exact ⟨A, n, c, h1, by rw [hk', show k' = (n : Int) by omega], h4, h5⟩
    · cases hb
  · cases hb
/-- Elements one after another within a type. -/
def fitN (σ : St) (d : DT) : Nat → List SV → Option (List Goal)
  | 0, [] => some []
  | 0, _ => none
  | n + 1, l => match fitL σ d l with
    | some (g, r) => (match fitN σ d n r with | some g' => some (g ++ g') | none => none)
    | none => none
theorem fitN_ok {C : Cx} {E : Ev} {σ : St} (hh : Kn C E σ) {d : DT} {u : T} (hu : d.inst E.ρ = some u) : ∀ {n : Nat} {l : List SV} {gs : List Goal} {vs : List Value}, fitN σ d n l = some gs → (∀ g ∈ gs, g.ok) → DenL C E l vs →
    vs.length = n * u.size ∧ ∀ i v, vs[i]? = some v → ∃ t, u.cell (i % u.size) = some t ∧ At C t (Ty.one v) := by
  intro n
  induction n with
  | zero =>
    intro l gs vs h hg hd
    cases l with
    | nil => simp only [DenL] at hd; subst hd; exact ⟨by simp, fun i v hi => by simp at hi⟩
    | cons _ _ => simp [fitN] at h
  | succ n ih =>
    intro l gs vs h hg hd
    simp only [fitN] at h
    split at h
    · rename_i g r h1
      split at h
      · rename_i g' h2
        cases h
        obtain ⟨us, rs, rfl, a1, a2, a3⟩ := fitL_ok hh h1 (fun q hq => hg q (List.mem_append_left _ hq)) hu hd
        obtain ⟨b1, b2⟩ := ih h2 (fun q hq => hg q (List.mem_append_right _ hq)) a3
        refine ⟨by rw [List.length_append, a1, b1, Nat.succ_mul]; omega, fun i v hi => ?_⟩
        by_cases hlt : i < us.length
        · rw [List.getElem?_append_left hlt] at hi
          obtain ⟨t, ht⟩ := (cell_some u i).1 (by omega)
          obtain ⟨v', q1, q2⟩ := a2 i t ht
          rw [hi] at q1; cases q1
          exact ⟨t, by rw [Nat.mod_eq_of_lt (by omega)]; exact ht, q2⟩
        · rw [List.getElem?_append_right (by omega)] at hi
          obtain ⟨t, q1, q2⟩ := b2 _ v hi
          refine ⟨t, ?_, q2⟩
          rw [← q1, a1, show i % u.size = (i - u.size) % u.size by rw [Nat.mod_eq_sub_mod (by omega)]]
      · cases h
    · cases h
theorem block_of_cell {w : World} {b i : Nat} {v : Value} (h : w.cell? ⟨b, i, none⟩ = some v) : ∃ t n, w.shape? b = some (t, n) ∧ i < n := by
  unfold World.cell? at h
  unfold World.shape?
  split at h
  · rename_i cs t f hb
    rw [hb]
    simp only [Option.isSome_none, Bool.false_eq_true, if_false] at h
    exact ⟨t, cs.size, rfl, (Array.getElem?_eq_some_iff.1 h).1⟩
  · cases h
section
variable {E0 : Env} (hE0 : EnvOK E0)
include hE0
/-- What is appended lies in a block that bears no types. -/
def LitSrc (σ : St) (x : Operand) (d : DT) (n size : Nat) : Prop :=
  ∀ C E a w u, Inv C E σ a w → d.inst E.ρ = some u → ∃ b off cs ty, a.eval x = .slice (some ⟨b, off, none⟩) n n ∧ w.heap[b]? = some (Obj.cells cs ty) ∧ (∀ o, C.R b o = none) ∧
    ((cs.toList.drop off).take (n * size)).length = n * u.size ∧ ∀ i v, ((cs.toList.drop off).take (n * size))[i]? = some v → ∃ t, u.cell (i % u.size) = some t ∧ At C t (Ty.one v)
theorem op_append_core {o : Oper} {σ : St} {s x : Operand} {st xt e e' : TypeId} {j : AInfo} {d : DT} {k : Tm} {ss : SV} {n : Nat} {g1 : List Goal}
    (ho : o.op = .call { callee := .builtin .append, args := #[s, x], argTypes := #[st, xt] }) (hs : evS σ s = some ss) (hst : und E0 st = some (.slice e)) (hxt : und E0 xt = some (.slice e')) (hj : inf E0 e = some j)
    (hds : d.size = j.size) (_hj0 : 0 < j.size) (hb0 : 0 < j.bytes) (_hn0 : 0 < n) (hbs : n * j.bytes + j.bytes ≤ 1048576)
    (hsmall : Goal.ok ⟨σ.hy, roomH k (.c n) j.bytes⟩) (hbase : baseS d σ.hy ss = some (k, g1)) (hg1 : ∀ g ∈ g1, g.ok) (hlit : LitSrc σ x d n j.size) (hdi : ∀ C E a w, Inv C E σ a w → ∃ u, d.inst E.ρ = some u) :
    OpOK E0.P o σ [grown σ d (.add k (.c n))] := by
  intro C E a w hinv next Q hQ hnx
  obtain ⟨u, hu⟩ := hdi C E a w hinv
  have hyp : ∀ h ∈ σ.hy, h.holds (tot E.ρ) := fun h hh => (hinv.hy h hh).2
  obtain ⟨A, kk, c, hsv, hk, hkm, hown⟩ := baseS_ok hyp hbase hg1 hu (evS_den hinv hs)
  obtain ⟨b, off, cs, ty, hxv, q5, hfree, hnl, hfit⟩ := hlit C E a w u hinv hu
  have hus : u.size = j.size := (inst_size hu).trans hds
  generalize hnews : (cs.toList.drop off).take (n * j.size) = news at *
  obtain ⟨tj, z, dd, hio, _, _⟩ := inf_ok hE0 hj
  have hcell : ∀ (w' : World), w'.heap = w.heap → ∀ i v, news[i]? = some v → w'.cell? ((⟨b, off, none⟩ : Addr).add i) = some v := fun w' hw' i v hi => by
    rw [add_flat]
    have hil := (List.getElem?_eq_some_iff.1 hi).1
    rw [← hnews] at hi
    rw [List.getElem?_take_of_lt (by rw [hnl, hus] at hil; exact hil), List.getElem?_drop] at hi
    show (World.cell? w' ⟨b, off + i, none⟩) = some v
    unfold World.cell?
    rw [hw', q5]
    simpa using hi
  have hload : ∀ (w' : World), w'.heap = w.heap → (Builtin.firstCells j.size n (.slice (some ⟨b, off, none⟩) n n)).run E0.P w' = .ok news.toArray w' := fun w' hw' => by
    show (loadCells ⟨b, off, none⟩ (n * j.size)).run E0.P w' = _
    rw [← hus, ← hnl]
    exact run_loadCells_list w' _ news (hcell w' hw')
  have hsrc : Src E0.P j.size xt (.slice (some ⟨b, off, none⟩) n n) n news w :=
    ⟨.inl ⟨e', und_ok hE0 hxt⟩, fun w' => rfl, hload w rfl, hload w.drew rfl, by rw [← hus]; exact hnl, fun v hv => by
      obtain ⟨i, hi⟩ := List.mem_iff_getElem?.1 hv
      obtain ⟨t, r1, r2⟩ := hfit i v hi
      exact at_oneCell (cell_leaf _ _ _ r1) r2⟩
  have hex : ∀ r, (Builtin.append_ #[st, xt] o.type #[.slice A kk c, .slice (some ⟨b, off, none⟩) n n]).run E0.P w = r → (execOp a.eval o).run E0.P w = r.andThen fun v w' => .ok (.value v) w' := fun r hr => by
    unfold execOp
    simp only [ho, resolve, invoke, builtin, List.map_toArray, List.map_cons, List.map_nil, hsv, hxv]
    rw [← hr]
    simp []
  have hprod : n * j.bytes ≤ 1048576 := by omega
  have hbts : j.bytes ≤ 1048576 := by omega
  have hsm : c < kk + n → Builtin.nextslicecap (kk + n) c * j.bytes ≤ 281474976710656 := fun hlt => by
    have h1 := nsc_le2 hlt
    have h2 := hsmall (tot E.ρ) hyp
    simp only [roomH, Hy.holds, Tm.val, ev_val hk] at h2
    have h3 : Builtin.nextslicecap (kk + n) c * j.bytes ≤ (2 * (kk + n) + 1024) * j.bytes := Nat.mul_le_mul_right _ h1
    have h4 : (((2 * (kk + n) + 1024) * j.bytes : Nat) : Int) ≤ 281474976710656 := by
      rw [Int.natCast_mul, show ((2 * (kk + n) + 1024 : Nat) : Int) = 2 * (kk : Int) + 2 * (n : Int) + 1024 by omega]
      exact h2
    generalize (2 * (kk + n) + 1024) * j.bytes = q at *
    omega
  left
  obtain ⟨A', c', w', C', r1, r2, r3, r4, r5, r6, r7, r8, r9⟩ := append_core (ty := o.type) hio (und_ok hE0 hst) hinv.wt hus hown n _ news hsrc hfit hb0 hsm
  have hi2 : Inv C' E σ a w' := inv_grow hinv r2 r3 r4 (fun b' h1 _ h3 => r5 b' h1 h3) r6 (fun b' _ => by rw [r7])
  have hnev : (Tm.add k (.c n)).ev E.ρ = some ((kk + n : Nat) : Int) := by simp [Tm.ev, hk]
  obtain ⟨E', e1, e2, e3⟩ := grown_inv hi2 hu hnev r8 r9
  unfold Oper.wp
  rw [hex _ r1]
  exact hnx _ _ (List.mem_cons_self ..) C' E' _ w' r2 e1 e2 e3
theorem op_append_lit {o : Oper} {σ : St} {s x : Operand} {st xt e e' : TypeId} {j : AInfo} {d : DT} {k : Tm} {ss : SV} {id off n ver : Nat} {l : List SV} {g1 g2 : List Goal}
    (ho : o.op = .call { callee := .builtin .append, args := #[s, x], argTypes := #[st, xt] }) (hs : evS σ s = some ss) (hx : evS σ x = some (.tsl id off n)) (hst : und E0 st = some (.slice e)) (hxt : und E0 xt = some (.slice e')) (hj : inf E0 e = some j)
    (hds : d.size = j.size) (hj0 : 0 < j.size) (hb0 : 0 < j.bytes) (hn0 : 0 < n) (hbs : n * j.bytes + j.bytes ≤ 1048576)
    (hsmall : Goal.ok ⟨σ.hy, roomH k (.c n) j.bytes⟩) (hbase : baseS d σ.hy ss = some (k, g1)) (hg1 : ∀ g ∈ g1, g.ok) (hl : σ.hp[id]? = some (.cells ver l)) (hn : fitN σ d n ((l.drop off).take (n * j.size)) = some g2) (hg2 : ∀ g ∈ g2, g.ok) (hdi : ∀ C E a w, Inv C E σ a w → ∃ u, d.inst E.ρ = some u) :
    OpOK E0.P o σ [grown σ d (.add k (.c n))] := by
  refine op_append_core hE0 ho hs hst hxt hj hds hj0 hb0 hn0 hbs hsmall hbase hg1 (fun C E a w u hinv hu => ?_) hdi
  have hxd := evS_den hinv hx
  simp only [Den] at hxd
  obtain ⟨b, hbb, hxv⟩ := hxd
  obtain ⟨b', cs, ty, q1, q2, q5, q6⟩ := cells_of hinv hl
  rw [hbb] at q1; cases q1
  obtain ⟨hfree, hfreeM⟩ := tracked_free hinv hl (by intro e; cases e) hbb
  have hd : DenL C E ((l.drop off).take (n * j.size)) ((cs.toList.drop off).take (n * j.size)) := denL_take (denL_drop q6 _) _
  obtain ⟨hnl, hfit⟩ := fitN_ok hinv.kn hu hn hg2 hd
  exact ⟨_, off, cs, ty, hxv, q5, hfree, hnl, hfit⟩
/-- What is appended: a typed slice. -/
def srcS (d : DT) (hy : List Hy) : SV → Option (Tm × List Goal)
  | .nilv 0 => some (.c 0, [])
  | .sl _ _ d' k => match subD hy d' d with | some l => some (k, l) | none => none
  | _ => none
omit hE0 in
theorem srcS_ok {C : Cx} {E : Ev} {hy : List Hy} (hh : ∀ x ∈ hy, x.holds (tot E.ρ)) {d : DT} {s : SV} {m : Tm} {gs : List Goal} {u : T} {v : Value} (hb : srcS d hy s = some (m, gs)) (hg : ∀ g ∈ gs, g.ok) (hu : d.inst E.ρ = some u) (hd : Den C E s v) :
    ∃ A n c, v = .slice A n c ∧ m.ev E.ρ = some (n : Int) ∧ n ≤ maxLen ∧ ∀ i, i < n → ∃ b o, A = some ⟨b, o, none⟩ ∧ Place C .any u b (o + i * u.size) := by
  unfold srcS at hb
  split at hb
  · cases hb
    simp only [Den, nilVal] at hd
    exact ⟨none, 0, 0, hd, rfl, Nat.zero_le _, fun i hi => absurd hi (Nat.not_lt_zero _)⟩
  · split at hb
    · rename_i id mm d' k' l hl
      cases hb
      simp only [Den] at hd
      obtain ⟨_, u', k', hu', hk', hat⟩ := hd
      rw [subD_ok hh hl hg hu' hu] at hat
      have hat0 := hat
      obtain ⟨A, n, c, h1, h2, h3, h4, h5⟩ := hat
      simp only [Ty.one, if_pos, Option.some.injEq] at h1
      subst h1
      refine ⟨A, n, c, rfl, by rw [hk', show k' = (n : Int) by have := h2.1; omega], h4, fun i hi => ?_⟩
      obtain ⟨b, o, e1, e2⟩ := elem_place hat0 hi
      refine ⟨b, o, e1, ?_⟩
      rcases e2 with ⟨_, e2⟩ | ⟨_, e2⟩
      · exact .inl ⟨(by intro e; cases e), e2⟩
      · exact .inr ⟨(by intro e; cases e), e2⟩
    · cases hb
  · cases hb
omit hE0 in
/-- The cells of a place, as they are. -/
theorem place_cell {C : Cx} {w : World} (h : WT C w) {m : Md} {u : T} {b o : Nat} (hp : Place C m u b o) {i : Nat} (hi : i < u.size) : ∃ v t, w.cell? ⟨b, o + i, none⟩ = some v ∧ u.cell i = some t ∧ At C t (Ty.one v) := by
  obtain ⟨t, ht⟩ := (cell_some u i).1 hi
  rcases hp with ⟨_, _, h3⟩ | ⟨_, h4, h3⟩
  · obtain ⟨_, _, y, q1, _, q2⟩ := h.cell b (o + i) t ((h3 i hi).trans ht)
    exact ⟨y, t, q1, ht, q2⟩
  · obtain ⟨y, q1, q2⟩ := (at_cells u _).1 h3 i t ht
    exact ⟨y, t, (World.cell?_of_block (a := ⟨b, o + i, none⟩) (h.below.block b h4)).trans q1, ht, q2⟩
omit hE0 in
/-- The cells of elements, as they are. -/
theorem elems_cells {C : Cx} {w : World} (h : WT C w) {u : T} {A : Option Addr} {n : Nat} (hp : ∀ i, i < n → ∃ b o, A = some ⟨b, o, none⟩ ∧ Place C .any u b (o + i * u.size)) :
    ∃ news : List Value, news.length = n * u.size ∧ (∀ i v, news[i]? = some v → ∃ t, u.cell (i % u.size) = some t ∧ At C t (Ty.one v)) ∧ ∀ b o, A = some ⟨b, o, none⟩ → ∀ i v, news[i]? = some v → w.cell? ⟨b, o + i, none⟩ = some v := by
  rcases Nat.eq_zero_or_pos n with e0 | hn
  · subst e0; exact ⟨[], by simp, fun i v hi => by simp at hi, fun b o _ i v hi => by simp at hi⟩
  obtain ⟨b, o, rfl, _⟩ := hp 0 hn
  have key : ∀ i, i < n * u.size → ∃ v t, w.cell? ⟨b, o + i, none⟩ = some v ∧ u.cell (i % u.size) = some t ∧ At C t (Ty.one v) := fun i hi => by
    have hpos : 0 < u.size := by
      rcases Nat.eq_zero_or_pos u.size with e | e
      · rw [e] at hi; simp at hi
      · exact e
    obtain ⟨b2, o2, e1, e2⟩ := hp (i / u.size) ((Nat.div_lt_iff_lt_mul hpos).2 hi)
    simp only [Option.some.injEq, Addr.mk.injEq] at e1
    obtain ⟨rfl, rfl, _⟩ := e1
    obtain ⟨v, t, q1, q2, q3⟩ := place_cell h e2 (Nat.mod_lt i hpos)
    rw [Nat.add_assoc, show i / u.size * u.size + i % u.size = i by rw [Nat.mul_comm]; exact Nat.div_add_mod i u.size] at q1
    exact ⟨v, t, q1, q2, q3⟩
  refine ⟨(List.range (n * u.size)).map fun i => (w.cell? ⟨b, o + i, none⟩).getD undef, by simp, fun i v hi => ?_, fun b' o' e i v hi => ?_⟩
  · have hil := (List.getElem?_eq_some_iff.1 hi).1
    simp at hil
    obtain ⟨v', t, h1, h2, h3⟩ := key i hil
    simp [hil, h1] at hi
    subst hi
    exact ⟨t, h2, h3⟩
  · simp only [Option.some.injEq, Addr.mk.injEq] at e
    obtain ⟨rfl, rfl, _⟩ := e
    have hil := (List.getElem?_eq_some_iff.1 hi).1
    simp at hil
    obtain ⟨v', t, h1, h2, h3⟩ := key i hil
    simp [hil, h1] at hi
    subst hi
    exact h1
theorem op_append_sl {o : Oper} {σ : St} {s x : Operand} {st xt e e' : TypeId} {j : AInfo} {d : DT} {k m : Tm} {ss sx : SV} {g1 g2 : List Goal}
    (ho : o.op = .call { callee := .builtin .append, args := #[s, x], argTypes := #[st, xt] }) (hs : evS σ s = some ss) (hx : evS σ x = some sx) (hst : und E0 st = some (.slice e)) (hxt : und E0 xt = some (.slice e')) (hj : inf E0 e = some j)
    (hds : d.size = j.size) (hb0 : 0 < j.bytes)
    (hbase : baseS d σ.hy ss = some (k, g1)) (hg1 : ∀ g ∈ g1, g.ok) (hsx : srcS d σ.hy sx = some (m, g2)) (hg2 : ∀ g ∈ g2, g.ok) (hsmall : Goal.ok ⟨σ.hy, roomH k m j.bytes⟩) (hdi : ∀ C E a w, Inv C E σ a w → ∃ u, d.inst E.ρ = some u) :
    OpOK E0.P o σ [grown σ d (.add k m)] := by
  refine opOK_step fun C E a w hinv => ?_
  obtain ⟨u, hu⟩ := hdi C E a w hinv
  have hyp : ∀ h ∈ σ.hy, h.holds (tot E.ρ) := fun h hh => (hinv.hy h hh).2
  obtain ⟨A, kk, c, hsv, hk, hkm, hown⟩ := baseS_ok hyp hbase hg1 hu (evS_den hinv hs)
  obtain ⟨A2, n, c2, hxv, hm, hnm, hpl⟩ := srcS_ok hyp hsx hg2 hu (evS_den hinv hx)
  have hus : u.size = j.size := (inst_size hu).trans hds
  obtain ⟨tj, z, dd, hio, _, _⟩ := inf_ok hE0 hj
  obtain ⟨news, hnl, hfit, hcell⟩ := elems_cells hinv.wt hpl
  have hload : ∀ (w' : World), w'.heap = w.heap → (Builtin.firstCells j.size n (.slice A2 n c2)).run E0.P w' = .ok news.toArray w' := fun w' hw' => by
    cases A2 with
    | none =>
      have : n = 0 := by
        rcases Nat.eq_zero_or_pos n with e0 | e0
        · exact e0
        · obtain ⟨b, o, e1, _⟩ := hpl 0 e0; cases e1
      subst this
      have : news = [] := List.eq_nil_of_length_eq_zero (by simpa using hnl)
      subst this
      simp [Builtin.firstCells]
    | some ad =>
      show (loadCells ad (n * j.size)).run E0.P w' = _
      rw [← hus, ← hnl]
      refine run_loadCells_list w' ad news fun i v hi => ?_
      have hil := (List.getElem?_eq_some_iff.1 hi).1
      have hn0 : 0 < n := by
        rcases Nat.eq_zero_or_pos n with e0 | e0
        · exfalso; rw [hnl, e0, Nat.zero_mul] at hil; omega
        · exact e0
      obtain ⟨b, off, e1, _⟩ := hpl 0 hn0
      cases e1
      rw [add_flat]
      have := hcell b off rfl i v hi
      unfold World.cell? at this ⊢
      rw [hw']; exact this
  have hsrc : Src E0.P j.size xt (.slice A2 n c2) n news w :=
    ⟨.inl ⟨e', und_ok hE0 hxt⟩, fun w' => rfl, hload w rfl, hload w.drew rfl, by rw [← hus]; exact hnl, fun v hv => by
      obtain ⟨i, hi⟩ := List.mem_iff_getElem?.1 hv
      obtain ⟨t, r1, r2⟩ := hfit i v hi
      exact at_oneCell (cell_leaf _ _ _ r1) r2⟩
  have hsm : c < kk + n → Builtin.nextslicecap (kk + n) c * j.bytes ≤ 281474976710656 := fun hlt => by
    have h1 := nsc_le2 hlt
    have h2 := hsmall (tot E.ρ) hyp
    simp only [roomH, Hy.holds, Tm.val, ev_val hk, ev_val hm] at h2
    have h3 : Builtin.nextslicecap (kk + n) c * j.bytes ≤ (2 * (kk + n) + 1024) * j.bytes := Nat.mul_le_mul_right _ h1
    have h4 : (((2 * (kk + n) + 1024) * j.bytes : Nat) : Int) ≤ 281474976710656 := by
      rw [Int.natCast_mul, show ((2 * (kk + n) + 1024 : Nat) : Int) = 2 * (kk : Int) + 2 * (n : Int) + 1024 by omega]
      exact h2
    generalize (2 * (kk + n) + 1024) * j.bytes = q at *
    omega
  obtain ⟨A', c', w', C', r1, r2, r3, r4, r5, r6, r7, r8, r9⟩ := append_core (ty := o.type) hio (und_ok hE0 hst) hinv.wt hus hown n _ news hsrc hfit hb0 hsm
  have hi2 : Inv C' E σ a w' := inv_grow hinv r2 r3 r4 (fun b' h1 _ h3 => r5 b' h1 h3) r6 (fun b' _ => by rw [r7])
  have hnev : (Tm.add k m).ev E.ρ = some ((kk + n : Nat) : Int) := by simp [Tm.ev, hk, hm]
  obtain ⟨E', e1, e2, e3⟩ := grown_inv hi2 hu hnev r8 r9
  refine ⟨_, _, _, w', ?_, List.mem_cons_self .., C', E', r2, e1, e2, e3⟩
  unfold execOp
  simp only [ho, resolve, invoke, builtin, List.map_toArray, List.map_cons, List.map_nil, hsv, hxv]
  simp [r1]
end
end Go.Vg
/- make, slice, nil checks and comparisons, not, minus, conversions of numbers, min and max. -/
namespace Go.Vg
open Go Go.RowKit Go.Hs Go.Ty Go.Ex
theorem run_nilCheck {P : Program} {o : Oper} {a : Act} {x : Operand} {v : Value} (ho : o.op = .nilCheck x) (hx : a.eval x = v)
    (hv : (∃ ad, v = .pointer (some ad)) ∨ (∃ f xs ys, v = .func (.func f) xs ys) ∨ ∃ A n c, v = .slice (some A) n c) (w : World) : (execOp a.eval o).run P w = .ok (.value v) w := by
  rw [exec_eq ho]
  rcases hv with ⟨ad, rfl⟩ | ⟨f, xs, ys, rfl⟩ | ⟨A, n, c, rfl⟩ <;> (simp only [execOp, hx]; rfl)
/-- Things that are not nil. -/
def notNil : SV → Bool
  | .ptr _ | .elt _ _ | .tptr _ _ | .uptr _ _ | .fn _ _ _ | .tsl _ _ _ | .eli _ _ _ _ | .rel _ _ _ => true
  | _ => false
theorem op_nilCheck {P : Program} {o : Oper} {σ : St} {x : Operand} {s : SV} (ho : o.op = .nilCheck x) (hx : evS σ x = some s) (hn : notNil s = true) : QuietOK P o σ s := fun C E a w hi => by
  have h1 := evS_den hi hx
  refine ⟨a.eval x, fun w => run_nilCheck ho rfl ?_ w, h1⟩
  cases s <;> first | (cases hn; done) | skip
  · simp only [Den] at h1; obtain ⟨b, _, h2⟩ := h1; exact .inr (.inr ⟨_, _, _, h2⟩)
  · simp only [Den] at h1; obtain ⟨u, _, b, o, h2, _⟩ := h1; simp only [Ty.one, if_pos, Option.some.injEq] at h2; exact .inl ⟨_, h2⟩
  · simp only [Den] at h1; obtain ⟨u, b, o, _, h2, _⟩ := h1; exact .inl ⟨_, h2⟩
  · simp only [Den] at h1; obtain ⟨b, _, h2⟩ := h1; exact .inl ⟨_, h2⟩
  · simp only [Den] at h1; obtain ⟨b, o, _, _, h2⟩ := h1; exact .inl ⟨_, h2⟩
  · simp only [Den] at h1; obtain ⟨xs, ys, h2, _⟩ := h1; exact .inr (.inl ⟨_, _, _, h2⟩)
  · simp only [Den] at h1; obtain ⟨u, b, o, n, c, q, _, _, _, _, h2, _⟩ := h1; exact .inl ⟨_, h2⟩
  · simp only [Den] at h1; obtain ⟨u, b, o, n, c, q, _, _, _, _, _, h2, _⟩ := h1; exact .inl ⟨_, h2⟩
/-! not, minus -/
theorem op_not {P : Program} {o : Oper} {σ : St} {t : TypeId} {x : Operand} {s r : SV} (ho : o.op = .unOp .not t x) (hx : evS σ x = some s) (hr : (match s with | .bool b => some (SV.bool (!b)) | .cmp h => some (.cmp h.neg) | _ => none) = some r) : QuietOK P o σ r := fun C E a w hi => by
  have h1 := evS_den hi hx
  split at hr
  · rename_i b _
    cases hr
    simp only [Den] at h1
    refine ⟨.bool (!b), fun w => ?_, by simp only [Den]⟩
    rw [exec_eq ho]
    simp [execOp, h1, Op.unary]
  · rename_i h
    cases hr
    simp only [Den] at h1
    obtain ⟨b, h2, h3, h4⟩ := h1
    refine ⟨.bool (!b), fun w => ?_, ?_⟩
    · rw [exec_eq ho]
      simp [execOp, h2, Op.unary]
    · simp only [Den]
      refine ⟨_, rfl, neg_dfd h3, ?_⟩
      rw [neg_holds, ← h4]
      cases b <;> simp
  · cases hr
theorem op_minus {P : Program} {o : Oper} {σ : St} {t : TypeId} {x : Operand} {k : IntKind} {m : Tm} (ho : o.op = .unOp .neg t x) (hx : evS σ x = some (.int k m))
    (g : Goal.ok ⟨σ.hy, .and (.le (.c (kLo k)) (.sub (.c 0) m)) (.le (.sub (.c 0) m) (.c (kHi k)))⟩) : QuietOK P o σ (.int k (.sub (.c 0) m)) := fun C E a w hi => by
  have h1 := evS_den hi hx
  simp only [Den] at h1
  obtain ⟨i, hi', hxe⟩ := h1
  have hyp : ∀ h ∈ σ.hy, h.holds (tot E.ρ) := fun h hh => (hi.hy h hh).2
  have gg := g (tot E.ρ) hyp
  have hz : (Tm.sub (.c 0) m).ev E.ρ = some (0 - i) := by simp only [Tm.ev, hi']
  simp only [Hy.holds, Tm.val, ev_val hi'] at gg
  refine ⟨.int k (0 - i), fun w => ?_, by simp only [Den]; exact ⟨_, hz, rfl⟩⟩
  rw [exec_eq ho]
  have hw := wrap_in (k := k) gg.1 gg.2
  simp only [execOp, hxe, Op.unary, Op.intArith]
  rw [Int.zero_sub] at hw
  simp [hw]
/-! numbers of another kind -/
theorem op_convert_int {E0 : Env} (hE0 : EnvOK E0) {o : Oper} {σ : St} {s t : TypeId} {x : Operand} {k k' : IntKind} {m : Tm} (ho : o.op = .convert s t x) (hx : evS σ x = some (.int k' m)) (hs : und E0 s = some (.int k')) (ht : und E0 t = some (.int k))
    (g : Goal.ok ⟨σ.hy, .and (.le (.c (kLo k)) m) (.le m (.c (kHi k)))⟩) : QuietOK E0.P o σ (.int k m) := fun C E a w hi => by
  have h1 := evS_den hi hx
  simp only [Den] at h1
  obtain ⟨i, hi', hxe⟩ := h1
  have hyp : ∀ h ∈ σ.hy, h.holds (tot E.ρ) := fun h hh => (hi.hy h hh).2
  have gg := g (tot E.ρ) hyp
  simp only [Hy.holds, ev_val hi', Tm.val] at gg
  refine ⟨.int k i, fun w => ?_, by simp only [Den]; exact ⟨_, hi', rfl⟩⟩
  have hw := wrap_in (k := k) gg.1 gg.2
  have hc : (convert s t (.int k' i)).run E0.P w = .ok (.int k i) w := by
    unfold convert
    simp only [Sem.run_bind, und_run hE0 hs, und_run hE0 ht, Result.andThen_ok]
    simp [Conv.intToInt, hw]
  rw [exec_eq ho]
  simp only [execOp, Sem.run_bind, hxe, hc]
  rfl
end Go.Vg
/- make; slices of slices. -/
namespace Go.Vg
open Go Go.RowKit Go.Hs Go.Ty Go.Ex
theorem run_make_n {P : Program} (t e : TypeId) (i : TypeInfo) (z : Value) (ht : P.underlying t = some (.slice e)) (hi : P.info? e = some i) (hz : i.zero = some z)
    (kl kc : IntKind) (n c : Nat) (hnc : n ≤ c) (hbytes : i.bytes * c ≤ 281474976710656) (h63 : c ≤ 9223372036854775807) (w : World) :
    (Instr.makeSlice t (.int kl (n : Int)) (.int kc (c : Int))).run P w = .ok (.slice (some ⟨w.heap.size, 0, none⟩) n c) (w.alloc (.cells (madeCells z.cells (c * i.size)) e)) := by
  have hb : (i.bytes : Int) * (c : Int) ≤ 281474976710656 := by
    have h : ((i.bytes * c : Nat) : Int) ≤ 281474976710656 := by omega
    rwa [Int.natCast_mul] at h
  have hr := run_make (P := P) w t e i z ht hi hz kl kc n c (by omega) (by omega) hb (by omega)
  simp only [Int.toNat_natCast] at hr
  exact hr
theorem made_get {z : Array Value} {N i : Nat} (h : i < N) (hz : 0 < z.size) : (madeCells z N)[i]? = z[i % z.size]? := by
  have hm := Nat.mod_lt i hz
  unfold madeCells
  simp [h, hm]
theorem made_size {z : Array Value} {N : Nat} : (madeCells z N).size = N := by unfold madeCells; simp
section
variable {E0 : Env} (hE0 : EnvOK E0)
include hE0
theorem make_core {o : Oper} {σ : St} {t e : TypeId} {x y : Operand} {j : AInfo} {n n' : Tm} {k k' : IntKind}
    (ho : o.op = .makeSlice t x y) (hx : evS σ x = some (.int k n)) (hy : evS σ y = some (.int k' n')) (ht : und E0 t = some (.slice e)) (hj : inf E0 e = some j)
    (hg1 : ∀ g ∈ teqG σ.hy n' n, g.ok) (g : Goal.ok ⟨σ.hy, .and (.le (.c 0) n) (.le (.mul (.c j.bytes) n) (.c 281474976710656))⟩) (hb0 : 0 < j.bytes) {C : Cx} {E : Ev} {a : Act} {w : World} (hinv : Inv C E σ a w) :
    ∃ (m : Nat) (z : Value) (ti : TypeInfo), n.ev E.ρ = some (m : Int) ∧ m ≤ maxLen ∧ InfOK E0.P e j ti z ∧ (execOp a.eval o).run E0.P w = .ok (.value (.slice (some ⟨w.heap.size, 0, none⟩) m m)) (w.alloc (.cells (madeCells z.cells (m * j.size)) e)) := by
  have h1 := evS_den hinv hx
  have h2 := evS_den hinv hy
  simp only [Den] at h1 h2
  obtain ⟨i, hi, hxe⟩ := h1
  obtain ⟨i', hi', hye⟩ := h2
  have hyp : ∀ h ∈ σ.hy, h.holds (tot E.ρ) := fun h hh => (hinv.hy h hh).2
  have e1 := teqG_ok hg1 hyp hi' hi
  subst e1
  have gg := g (tot E.ρ) hyp
  simp only [Hy.holds, ev_val hi, Tm.val] at gg
  obtain ⟨m, rfl⟩ := Int.eq_ofNat_of_zero_le gg.1
  obtain ⟨ti, z, d, hio, _, _⟩ := inf_ok hE0 hj
  have hbm : j.bytes * m ≤ 281474976710656 := by
    have h : ((j.bytes * m : Nat) : Int) ≤ 281474976710656 := by push_cast; exact gg.2
    omega
  have hm : m ≤ 281474976710656 := Nat.le_trans (Nat.le_mul_of_pos_left _ hb0) hbm
  refine ⟨m, z, ti, hi, by unfold maxLen; omega, hio, ?_⟩
  have hr := run_make_n t e ti z (und_ok hE0 ht) hio.info hio.zero k k' m m (Nat.le_refl _) (by rw [hio.bytes]; exact hbm) (by omega) w
  rw [hio.size] at hr
  rw [exec_eq ho]
  simp only [execOp, Sem.run_bind, hxe, hye, hr]
  rfl
/-- Zero elements within the type. -/
theorem op_make {o : Oper} {σ : St} {t e : TypeId} {x y : Operand} {j : AInfo} {n n' : Tm} {k k' : IntKind} {d : DT} {zs : List SV} {g2 : List Goal}
    (ho : o.op = .makeSlice t x y) (hx : evS σ x = some (.int k n)) (hy : evS σ y = some (.int k' n')) (ht : und E0 t = some (.slice e)) (hj : inf E0 e = some j)
    (hg1 : ∀ g ∈ teqG σ.hy n' n, g.ok) (g : Goal.ok ⟨σ.hy, .and (.le (.c 0) n) (.le (.mul (.c j.bytes) n) (.c 281474976710656))⟩) (hb0 : 0 < j.bytes) (hj0 : 0 < j.size)
    (hds : d.size = j.size) (hz : ofScals (rexpand j.runs) = some zs) (hf : fitL σ d zs = some (g2, [])) (hg2 : ∀ g ∈ g2, g.ok) (hdi : ∀ C E a w, Inv C E σ a w → ∃ u, d.inst E.ρ = some u) : OpOK E0.P o σ [grown σ d n] := by
  refine opOK_step fun C E a w hinv => ?_
  obtain ⟨u, hu⟩ := hdi C E a w hinv
  have hyp : ∀ h ∈ σ.hy, h.holds (tot E.ρ) := fun h hh => (hinv.hy h hh).2
  obtain ⟨m, z, ti, hn, hm, hio, hrun⟩ := make_core hE0 ho hx hy ht hj hg1 g hb0 hinv
  have hus : u.size = j.size := (inst_size hu).trans hds
  have hzd : DenL C E zs z.cells.toList := by rw [← hio.runs]; exact ofScals_den hz
  obtain ⟨us, rs, h1, h2, h3, h4⟩ := fitL_ok hinv.kn hf hg2 hu hzd
  simp only [DenL] at h4
  subst h4
  rw [List.append_nil] at h1
  have hzs : z.cells.size = u.size := by rw [← h2, ← h1]; simp
  have hRn : ∀ o, C.R w.heap.size o = none := fun o => by
    cases hq : C.R w.heap.size o with
    | none => rfl
    | some t => exact absurd (hinv.wt.R_lt hq) (Nat.lt_irrefl _)
  have hcell : ∀ o t, (if o < m * u.size then u.cell (o % u.size) else none) = some t → t.leaf = true ∧ ∃ v, (madeCells z.cells (m * j.size))[o]? = some v ∧ At C t (Ty.one v) := fun o t ho => by
    split at ho
    · rename_i hlt
      obtain ⟨v, q1, q2⟩ := h3 _ t ho
      refine ⟨cell_leaf _ _ _ ho, v, ?_, q2⟩
      rw [made_get (by rw [← hus]; exact hlt) (by omega), hzs, ← Array.getElem?_toList, h1]
      exact q1
    · cases ho
  have hwt1 : WT C (w.alloc (.cells (madeCells z.cells (m * j.size)) e)) := hinv.wt.alloc _
  have hwt2 := hwt1.type (b := w.heap.size) hinv.wt.below.size (heap_alloc_new w _) hRn (fun o => if o < m * u.size then u.cell (o % u.size) else none) (fun o => if o < m * u.size then u.cell (o % u.size) else none)
    (fun o t ho => let ⟨q1, v, q2, _⟩ := hcell o t ho; ⟨q1, v, q2⟩) (fun o t ho => let ⟨_, v, q2, q3⟩ := hcell o t ho; ⟨ho, v, q2, q3⟩)
  have hle2 := hwt1.ext_le w.heap.size hRn (fun o => if o < m * u.size then u.cell (o % u.size) else none) (fun o => if o < m * u.size then u.cell (o % u.size) else none)
  have hi2 := inv_grow hinv hle2 hwt2 (by rw [Hs.alloc_size]; omega) (fun b' _ _ hb' => Below.heap_alloc w _ b' hb') (fun b' o' hb' => by show (if _ then _ else _) = _; exact if_neg (by omega)) (fun _ _ => rfl)
  obtain ⟨E', e1, e2, e3⟩ := grown_inv hi2 hu hn (A := some ⟨w.heap.size, 0, none⟩) (c := m) (.inr ⟨w.heap.size, 0, rfl, Nat.le_refl _, hinv.wt.below.size, fun i hi => by
    show (if _ then _ else _) = _
    rw [if_pos rfl, Nat.zero_add, if_pos hi], hm, fun i hi => by
    show (if _ then _ else _) = _
    rw [if_pos rfl, Nat.zero_add, if_pos hi]⟩) hm
  exact ⟨_, _, _, _, hrun, List.mem_cons_self .., _, E', hle2, e1, e2, e3⟩
/-- Zero elements that are to be replaced. -/
theorem op_make_res {o : Oper} {σ : St} {t e : TypeId} {x y : Operand} {j : AInfo} {n n' : Tm} {k k' : IntKind} {d : DT}
    (ho : o.op = .makeSlice t x y) (hx : evS σ x = some (.int k n)) (hy : evS σ y = some (.int k' n')) (ht : und E0 t = some (.slice e)) (hj : inf E0 e = some j)
    (hg1 : ∀ g ∈ teqG σ.hy n' n, g.ok) (g : Goal.ok ⟨σ.hy, .and (.le (.c 0) n) (.le (.mul (.c j.bytes) n) (.c 281474976710656))⟩) (hb0 : 0 < j.bytes)
    (hds : d.size = j.size) (hdi : ∀ C E a w, Inv C E σ a w → ∃ u, d.inst E.ρ = some u) : OpOK E0.P o σ [(.rsl σ.no d n, { σ with no := σ.no + 1 })] := by
  refine opOK_step fun C E a w hinv => ?_
  obtain ⟨u, hu⟩ := hdi C E a w hinv
  obtain ⟨m, z, ti, hn, hm, hio, hrun⟩ := make_core hE0 ho hx hy ht hj hg1 g hb0 hinv
  have hus : u.size = j.size := (inst_size hu).trans hds
  have hRn : ∀ o, C.R w.heap.size o = none := fun o => by
    cases hq : C.R w.heap.size o with
    | none => rfl
    | some t => exact absurd (hinv.wt.R_lt hq) (Nat.lt_irrefl _)
  have hwt1 : WT C (w.alloc (.cells (madeCells z.cells (m * j.size)) e)) := hinv.wt.alloc _
  have hwt2 := hwt1.type (b := w.heap.size) hinv.wt.below.size (heap_alloc_new w _) hRn (fun _ => none) (fun o => if o < m * u.size then u.cell (o % u.size) else none)
    (fun o t ho => by
      split at ho
      · rename_i hlt
        exact ⟨cell_leaf _ _ _ ho, _, Array.getElem?_eq_getElem (by rw [made_size, ← hus]; exact hlt)⟩
      · cases ho) (fun o t ho => by cases ho)
  have hle2 := hwt1.ext_le w.heap.size hRn (fun _ => none) (fun o => if o < m * u.size then u.cell (o % u.size) else none)
  have hi2 := inv_grow hinv hle2 hwt2 (by rw [Hs.alloc_size]; omega) (fun b' _ _ hb' => Below.heap_alloc w _ b' hb') (fun b' o' hb' => by show (if _ then _ else _) = _; exact if_neg (by omega)) (fun _ _ => rfl)
  obtain ⟨e1, e2, e3⟩ := id_inv hi2 (.slice (some ⟨w.heap.size, 0, none⟩) m m)
  refine ⟨_, _, _, _, hrun, List.mem_cons_self .., _, _, hle2, e1, e2, ?_⟩
  simp only [Den]
  refine ⟨e3, u, m, _, m, hu, hn, rfl, hm, .inr ⟨w.heap.size, 0, rfl, Nat.le_refl _, hinv.wt.below.size, hm, fun i hi => ?_⟩⟩
  show (if _ then _ else _) = _
  rw [if_pos rfl, Nat.zero_add, if_pos hi]
end
end Go.Vg
/- Terms in scope; substitution; what was known at a loop's begin. -/
namespace Go.Vg
open Go Go.RowKit Go.Hs Go.Ty Go.Ex
def Tm.sc (n : Nat) : Tm → Bool
  | .c _ => true
  | .s i => Nat.blt i n
  | .add a b | .sub a b | .mul a b => a.sc n && b.sc n
theorem sc_ev {ρ : List Int} : ∀ {t : Tm}, t.sc ρ.length = true → ∃ x, t.ev ρ = some x := by
  intro t
  induction t with
  | c n => intro _; exact ⟨n, rfl⟩
  | s i => intro h; simp only [Tm.sc, Nat.blt_eq] at h; exact ⟨ρ[i], by simp [Tm.ev, h]⟩
  | add a b iha ihb | sub a b iha ihb | mul a b iha ihb =>
    intro h
    simp only [Tm.sc, Bool.and_eq_true] at h
    obtain ⟨x, hx⟩ := iha h.1
    obtain ⟨y, hy⟩ := ihb h.2
    exact ⟨_, by simp only [Tm.ev, hx, hy]; rfl⟩
def DT.sc (n : Nat) : DT → Bool
  | .int _ lo hi => lo.sc n && hi.sc n
  | .sl _ lo hi t => lo.sc n && (hi.sc n && t.sc n)
  | .ptr t | .rep _ t => t.sc n
  | .map a b | .pair a b => a.sc n && b.sc n
  | .bool | .str | .nil | .any => true
theorem sc_inst {ρ : List Int} : ∀ {t : DT}, t.sc ρ.length = true → ∃ u, t.inst ρ = some u := by
  intro t
  induction t with
  | int k lo hi =>
    intro h
    simp only [DT.sc, Bool.and_eq_true] at h
    obtain ⟨x, hx⟩ := sc_ev h.1
    obtain ⟨y, hy⟩ := sc_ev h.2
    exact ⟨_, by simp only [DT.inst, hx, hy]; rfl⟩
  | sl m lo hi t ih =>
    intro h
    simp only [DT.sc, Bool.and_eq_true] at h
    obtain ⟨x, hx⟩ := sc_ev h.1
    obtain ⟨y, hy⟩ := sc_ev h.2.1
    obtain ⟨z, hz⟩ := ih h.2.2
    exact ⟨_, by simp only [DT.inst, hx, hy, hz]; rfl⟩
  | ptr t ih | rep n t ih => intro h; obtain ⟨z, hz⟩ := ih h; exact ⟨_, by simp only [DT.inst, hz]; rfl⟩
  | map a b iha ihb | pair a b iha ihb =>
    intro h
    simp only [DT.sc, Bool.and_eq_true] at h
    obtain ⟨x, hx⟩ := iha h.1
    obtain ⟨y, hy⟩ := ihb h.2
    exact ⟨_, by simp only [DT.inst, hx, hy]; rfl⟩
  | bool | str | nil | any => intro _; exact ⟨_, rfl⟩
theorem inst_of_inv {C : Cx} {E : Ev} {σ : St} {a : Act} {w : World} (h : Inv C E σ a w) {d : DT} (hd : d.sc σ.ns = true) : ∃ u, d.inst E.ρ = some u := sc_inst (by rw [h.ns]; exact hd)
/-! substitution -/
def Tm.subst (f : Nat → Option Tm) : Tm → Option Tm
  | .c n => some (.c n)
  | .s i => f i
  | .add a b => match a.subst f, b.subst f with | some x, some y => some (.add x y) | _, _ => none
  | .sub a b => match a.subst f, b.subst f with | some x, some y => some (.sub x y) | _, _ => none
  | .mul a b => match a.subst f, b.subst f with | some x, some y => some (.mul x y) | _, _ => none
def Hy.subst (f : Nat → Option Tm) : Hy → Option Hy
  | .le a b => match a.subst f, b.subst f with | some x, some y => some (.le x y) | _, _ => none
  | .lt a b => match a.subst f, b.subst f with | some x, some y => some (.lt x y) | _, _ => none
  | .eq a b => match a.subst f, b.subst f with | some x, some y => some (.eq x y) | _, _ => none
  | .ne a b => match a.subst f, b.subst f with | some x, some y => some (.ne x y) | _, _ => none
  | .or a b => match a.subst f, b.subst f with | some x, some y => some (.or x y) | _, _ => none
  | .and a b => match a.subst f, b.subst f with | some x, some y => some (.and x y) | _, _ => none
  | .imp a b => match a.subst f, b.subst f with | some x, some y => some (.imp x y) | _, _ => none
  | .tt => some .tt
  | .ff => some .ff
def DT.subst (f : Nat → Option Tm) : DT → Option DT
  | .int k lo hi => match lo.subst f, hi.subst f with | some x, some y => some (.int k x y) | _, _ => none
  | .sl m lo hi t => match lo.subst f, hi.subst f, t.subst f with | some x, some y, some z => some (.sl m x y z) | _, _, _ => none
  | .ptr t => match t.subst f with | some x => some (.ptr x) | none => none
  | .rep n t => match t.subst f with | some x => some (.rep n x) | none => none
  | .map a b => match a.subst f, b.subst f with | some x, some y => some (.map x y) | _, _ => none
  | .pair a b => match a.subst f, b.subst f with | some x, some y => some (.pair x y) | _, _ => none
  | .bool => some .bool
  | .str => some .str
  | .nil => some .nil
  | .any => some .any
/-- The substitution gives in ρ what the symbols stand for in τ. -/
def SubOK (f : Nat → Option Tm) (ρ τ : List Int) : Prop := ∀ i x, f i = some x → ∃ v, x.ev ρ = some v ∧ τ[i]? = some v
theorem subst_ev {f : Nat → Option Tm} {ρ τ : List Int} (h : SubOK f ρ τ) : ∀ {t t' : Tm}, t.subst f = some t' → ∃ v, t'.ev ρ = some v ∧ t.ev τ = some v := by
  intro t
  induction t with
  | c n => intro t' ht; simp only [Tm.subst, Option.some.injEq] at ht; subst ht; exact ⟨n, rfl, rfl⟩
  | s i => intro t' ht; exact h i t' ht
  | add a b iha ihb | sub a b iha ihb | mul a b iha ihb =>
    intro t' ht
    simp only [Tm.subst] at ht
    split at ht
    · rename_i x y hx hy
      cases ht
      obtain ⟨v, h1, h2⟩ := iha hx
      obtain ⟨u, h3, h4⟩ := ihb hy
      exact ⟨_, by simp only [Tm.ev, h1, h3]; rfl, by simp only [Tm.ev, h2, h4]⟩
    · cases ht
theorem subst_hy {f : Nat → Option Tm} {ρ τ : List Int} (h : SubOK f ρ τ) : ∀ {t t' : Hy}, t.subst f = some t' → t.dfd τ ∧ (t'.holds (tot ρ) ↔ t.holds (tot τ)) := by
  intro t
  induction t with
  | le a b | lt a b | eq a b | ne a b =>
    intro t' ht
    simp only [Hy.subst] at ht
    split at ht
    · rename_i x y hx hy
      cases ht
      obtain ⟨v, h1, h2⟩ := subst_ev h hx
      obtain ⟨u, h3, h4⟩ := subst_ev h hy
      exact ⟨⟨⟨_, h2⟩, ⟨_, h4⟩⟩, by simp only [Hy.holds, ev_val h1, ev_val h2, ev_val h3, ev_val h4]⟩
    · cases ht
  | or a b iha ihb | and a b iha ihb | imp a b iha ihb =>
    intro t' ht
    simp only [Hy.subst] at ht
    split at ht
    · rename_i x y hx hy
      cases ht
      obtain ⟨h1, h2⟩ := iha hx
      obtain ⟨h3, h4⟩ := ihb hy
      exact ⟨⟨h1, h3⟩, by simp only [Hy.holds, h2, h4]⟩
    · cases ht
  | tt | ff => intro t' ht; simp only [Hy.subst, Option.some.injEq] at ht; subst ht; exact ⟨trivial, Iff.rfl⟩
theorem subst_dt {f : Nat → Option Tm} {ρ τ : List Int} (h : SubOK f ρ τ) : ∀ {t t' : DT}, t.subst f = some t' → ∃ u, t'.inst ρ = some u ∧ t.inst τ = some u := by
  intro t
  induction t with
  | int k lo hi =>
    intro t' ht
    simp only [DT.subst] at ht
    split at ht
    · rename_i x y hx hy
      cases ht
      obtain ⟨v, h1, h2⟩ := subst_ev h hx
      obtain ⟨u, h3, h4⟩ := subst_ev h hy
      exact ⟨_, by simp only [DT.inst, h1, h3]; rfl, by simp only [DT.inst, h2, h4]⟩
    · cases ht
  | sl m lo hi t ih =>
    intro t' ht
    simp only [DT.subst] at ht
    split at ht
    · rename_i x y z hx hy hz
      cases ht
      obtain ⟨v, h1, h2⟩ := subst_ev h hx
      obtain ⟨u, h3, h4⟩ := subst_ev h hy
      obtain ⟨q, h5, h6⟩ := ih hz
      exact ⟨_, by simp only [DT.inst, h1, h3, h5]; rfl, by simp only [DT.inst, h2, h4, h6]⟩
    · cases ht
  | ptr t ih | rep n t ih =>
    intro t' ht
    simp only [DT.subst] at ht
    split at ht
    · rename_i x hx
      cases ht
      obtain ⟨q, h5, h6⟩ := ih hx
      exact ⟨_, by simp only [DT.inst, h5]; rfl, by simp only [DT.inst, h6]; rfl⟩
    · cases ht
  | map a b iha ihb | pair a b iha ihb =>
    intro t' ht
    simp only [DT.subst] at ht
    split at ht
    · rename_i x y hx hy
      cases ht
      obtain ⟨v, h1, h2⟩ := iha hx
      obtain ⟨u, h3, h4⟩ := ihb hy
      exact ⟨_, by simp only [DT.inst, h1, h3]; rfl, by simp only [DT.inst, h2, h4]⟩
    · cases ht
  | bool | str | nil | any => intro t' ht; simp only [DT.subst, Option.some.injEq] at ht; subst ht; exact ⟨_, rfl, rfl⟩
/-! what was known stays so under the elder valuation -/
theorem ev_det {ρ ρ' : List Int} (h : ∃ l, ρ' = ρ ++ l) {t : Tm} {x y : Int} (h1 : t.ev ρ = some x) (h2 : t.ev ρ' = some y) : y = x := by
  obtain ⟨l, rfl⟩ := h
  rw [ev_grow h1] at h2; cases h2; rfl
theorem inst_det {ρ ρ' : List Int} (h : ∃ l, ρ' = ρ ++ l) {t : DT} {x y : T} (h1 : t.inst ρ = some x) (h2 : t.inst ρ' = some y) : y = x := by
  obtain ⟨l, rfl⟩ := h
  rw [inst_grow h1] at h2; cases h2; rfl
theorem get_det {α : Type} {l l' : List α} (h : ∃ r, l' = l ++ r) {i : Nat} {x y : α} (h1 : l[i]? = some x) (h2 : l'[i]? = some y) : y = x := by
  obtain ⟨r, rfl⟩ := h
  rw [getg h1] at h2; cases h2; rfl
mutual
theorem den_back {C D : Cx} {E F : Ev} (hE : E.le F) : ∀ (s : SV) (v0 v1 : Value), Den C E s v0 → Den D F s v1 → Den D E s v1
  | .int k x, v0, v1, h, h' => by
    simp only [Den] at h h' ⊢
    obtain ⟨n, h1, h2⟩ := h
    obtain ⟨m, h3, h4⟩ := h'
    have := ev_det hE.ρ h1 h3; subst this
    exact ⟨_, h1, h4⟩
  | .bool b, v0, v1, h, h' => by simpa only [Den] using h'
  | .cmp c, v0, v1, h, h' => by
    simp only [Den] at h h' ⊢
    obtain ⟨b, h1, h2, h3⟩ := h
    obtain ⟨b', h4, h5, h6⟩ := h'
    obtain ⟨l, hl⟩ := hE.ρ
    have := dfd_grow (l := l) h2
    exact ⟨b', h4, h2, by rw [h6, hl, this.2]⟩
  | .nilv i, v0, v1, h, h' => by simpa only [Den] using h'
  | .str, v0, v1, h, h' => by simpa only [Den] using h'
  | .sl id m t n, v0, v1, h, h' => by
    simp only [Den] at h h' ⊢
    obtain ⟨h1, u, k, h2, h3, h4⟩ := h
    obtain ⟨g1, u', k', g2, g3, g4⟩ := h'
    have := get_det hE.o h1 g1; subst this
    have := inst_det hE.ρ h2 g2; subst this
    have := ev_det hE.ρ h3 g3; subst this
    exact ⟨h1, _, _, h2, h3, g4⟩
  | .tsl id off n, v0, v1, h, h' => by
    simp only [Den] at h h' ⊢
    obtain ⟨b, h1, h2⟩ := h
    obtain ⟨b', g1, g2⟩ := h'
    have := get_det hE.b h1 g1; subst this
    exact ⟨_, h1, g2⟩
  | .ptr t, v0, v1, h, h' => by
    simp only [Den] at h h' ⊢
    obtain ⟨u, h1, h2⟩ := h
    obtain ⟨u', g1, g2⟩ := h'
    have := inst_det hE.ρ h1 g1; subst this
    exact ⟨_, h1, g2⟩
  | .elt m t, v0, v1, h, h' => by
    simp only [Den] at h h' ⊢
    obtain ⟨u, b, o, h1, h2, h3⟩ := h
    obtain ⟨u', b', o', g1, g2, g3⟩ := h'
    have := inst_det hE.ρ h1 g1; subst this
    exact ⟨_, _, _, h1, g2, g3⟩
  | .tptr id off, v0, v1, h, h' => by
    simp only [Den] at h h' ⊢
    obtain ⟨b, h1, h2⟩ := h
    obtain ⟨b', g1, g2⟩ := h'
    have := get_det hE.b h1 g1; subst this
    exact ⟨_, h1, g2⟩
  | .uptr id n, v0, v1, h, h' => by
    simp only [Den] at h h' ⊢
    obtain ⟨b, o, h1, h2⟩ := h
    obtain ⟨b', o', g1, g2⟩ := h'
    have := get_det hE.b h1 g1; subst this
    exact ⟨_, _, h1, g2⟩
  | .map k x, v0, v1, h, h' => by
    simp only [Den] at h h' ⊢
    obtain ⟨p, q, h1, h2, h3⟩ := h
    obtain ⟨p', q', g1, g2, g3⟩ := h'
    have := inst_det hE.ρ h1 g1; subst this
    have := inst_det hE.ρ h2 g2; subst this
    exact ⟨_, _, h1, h2, g3⟩
  | .fn f p q, v0, v1, h, h' => by
    simp only [Den] at h h' ⊢
    obtain ⟨xs, ys, h1, h2, h3⟩ := h
    obtain ⟨xs', ys', g1, g2, g3⟩ := h'
    exact ⟨xs', ys', g1, denL_back hE p _ _ h2 g2, denL_back hE q _ _ h3 g3⟩
  | .agg l, v0, v1, h, h' => by
    simp only [Den] at h h' ⊢
    obtain ⟨cs, h1, h2⟩ := h
    obtain ⟨cs', g1, g2⟩ := h'
    exact ⟨cs', g1, denL_back hE l _ _ h2 g2⟩
  | .tup l, v0, v1, h, h' => by
    simp only [Den] at h h' ⊢
    obtain ⟨cs, h1, h2⟩ := h
    obtain ⟨cs', g1, g2⟩ := h'
    exact ⟨cs', g1, denL_back hE l _ _ h2 g2⟩
  | .agt t, v0, v1, h, h' => by
    simp only [Den] at h h' ⊢
    obtain ⟨u, cs, h1, h2⟩ := h
    obtain ⟨u', cs', g1, g2⟩ := h'
    have := inst_det hE.ρ h1 g1; subst this
    exact ⟨_, cs', h1, g2⟩
  | .lit x, v0, v1, h, h' => by simpa only [Den] using h'
  | .unk, v0, v1, h, h' => by simpa only [Den] using h'
  | .rsl id t n, v0, v1, h, h' => by
    simp only [Den] at h h' ⊢
    obtain ⟨h1, u, k, A, c, h2, h3, h4⟩ := h
    obtain ⟨g1, u', k', A', c', g2, g3, g4⟩ := h'
    have := get_det hE.o h1 g1; subst this
    have := inst_det hE.ρ h2 g2; subst this
    have := ev_det hE.ρ h3 g3
    exact ⟨h1, _, k', A', c', h2, by rw [this]; exact h3, g4⟩
  | .eli id i m t, v0, v1, h, h' => by
    simp only [Den] at h h' ⊢
    obtain ⟨u, b, o, n, c, q, h1, h2, h3, h4⟩ := h
    obtain ⟨u', b', o', n', c', q', g1, g2, g3, g4⟩ := h'
    have := inst_det hE.ρ h1 g1; subst this
    have := get_det hE.o h2 g2
    have e := ev_det hE.ρ h3 g3
    exact ⟨_, b', o', n', c', q', h1, by rw [this]; exact h2, by rw [e]; exact h3, g4⟩
  | .rel id i t, v0, v1, h, h' => by
    simp only [Den] at h h' ⊢
    obtain ⟨u, b, o, n, c, q, h1, h2, h3, h4⟩ := h
    obtain ⟨u', b', o', n', c', q', g1, g2, g3, g4⟩ := h'
    have := inst_det hE.ρ h1 g1; subst this
    have := get_det hE.o h2 g2
    have e := ev_det hE.ρ h3 g3
    exact ⟨_, b', o', n', c', q', h1, by rw [this]; exact h2, by rw [e]; exact h3, g4⟩
  | .kmap id, v0, v1, h, h' => by
    simp only [Den] at h h' ⊢
    obtain ⟨b, h1, h2⟩ := h
    obtain ⟨b', g1, g2⟩ := h'
    have := get_det hE.b h1 g1; subst this
    exact ⟨_, h1, g2⟩
theorem denL_back {C D : Cx} {E F : Ev} (hE : E.le F) : ∀ (l : List SV) (vs us : List Value), DenL C E l vs → DenL D F l us → DenL D E l us
  | [], vs, us, h, h' => by simpa only [DenL] using h'
  | s :: l, vs, us, h, h' => by
    simp only [DenL] at h h' ⊢
    obtain ⟨v, r, h1, h2, h3⟩ := h
    obtain ⟨v', r', g1, g2, g3⟩ := h'
    exact ⟨v', r', g1, den_back hE s _ _ h2 g2, denL_back hE l _ _ h3 g3⟩
end
theorem denM_back {C D : Cx} {E F : Ev} (hE : E.le F) : ∀ (l : List (SV × SV)) (vs us : List MapEntry), DenM C E l vs → DenM D F l us → DenM D E l us
  | [], vs, us, h, h' => h'
  | (k, x) :: l, vs, us, h, h' => by
    obtain ⟨e, r, h1, h2, h3, h4⟩ := h
    obtain ⟨e', r', g1, g2, g3, g4⟩ := h'
    exact ⟨e', r', g1, den_back hE _ _ _ h2 g2, den_back hE _ _ _ h3 g3, denM_back hE l _ _ h4 g4⟩
/-- The same but for the version. -/
def reV (ver : Nat) : TO → TO
  | .cells _ l => .cells ver l
  | .uni _ t n => .uni ver t n
  | x => x
def obV : Obj → Value
  | .cells cs _ _ => .agg cs
  | _ => .agg #[]
theorem tin_back {C D : Cx} {E F G : Ev} (hE : E.le F) (hG : E.le G) {ob ob' : Obj} {x y : TO} {ver : Nat} (h : TIn C E ob x) (h' : TIn D F ob' y) (hy : reV ver y = reV ver x) (hv : G.o[ver]? = some (obV ob')) : TIn D G ob' (reV ver x) := by
  cases x with
  | cells ver0 l =>
    cases y <;> simp only [reV, TO.cells.injEq, reduceCtorEq] at hy
    obtain ⟨_, rfl⟩ := hy
    cases ob <;> first | exact h.elim | skip
    cases ob' <;> first | exact h'.elim | skip
    exact ⟨h'.1, hv, denL_mono (.refl D) hG _ _ (denL_back hE _ _ _ h.2.2 h'.2.2)⟩
  | uni ver0 t n =>
    cases y <;> simp only [reV, TO.uni.injEq, reduceCtorEq] at hy
    obtain ⟨_, rfl, rfl⟩ := hy
    cases ob <;> first | exact h.elim | skip
    cases ob' <;> first | exact h'.elim | skip
    obtain ⟨_, _, u, h1, h2⟩ := h
    obtain ⟨hz, _, u', g1, g2⟩ := h'
    have := inst_det hE.ρ h1 g1; subst this
    obtain ⟨l, hl⟩ := hG.ρ
    exact ⟨hz, hv, _, by rw [hl]; exact inst_grow h1, g2⟩
  | kmap l =>
    cases y <;> simp only [reV, TO.kmap.injEq, reduceCtorEq] at hy
    subst hy
    cases ob <;> first | exact h.elim | skip
    cases ob' <;> first | exact h'.elim | skip
    exact denM_mono (.refl D) hG _ _ (denM_back hE _ _ _ h h')
  | gone => cases ob' <;> trivial
end Go.Vg
/- A loop's template: what is forgotten, what is known anew. -/
namespace Go.Vg
open Go Go.RowKit Go.Hs Go.Ty Go.Ex
/-! equality of what the states hold -/
def hyeq : Hy → Hy → Bool
  | .le a b, .le c d | .lt a b, .lt c d | .eq a b, .eq c d | .ne a b, .ne c d => teq a c && teq b d
  | .or a b, .or c d | .and a b, .and c d | .imp a b, .imp c d => hyeq a c && hyeq b d
  | .tt, .tt | .ff, .ff => true
  | _, _ => false
theorem hyeq_eq : ∀ {a b : Hy}, hyeq a b = true → a = b := by
  intro a
  induction a with
  | le x y | lt x y | eq x y | ne x y => intro b h; cases b <;> simp only [hyeq, Bool.and_eq_true, Bool.false_eq_true] at h; rw [teq_eq h.1, teq_eq h.2]
  | or x y ihx ihy | and x y ihx ihy | imp x y ihx ihy => intro b h; cases b <;> simp only [hyeq, Bool.and_eq_true, Bool.false_eq_true] at h; rw [ihx h.1, ihy h.2]
  | tt | ff => intro b h; cases b <;> first | rfl | (simp only [hyeq, Bool.false_eq_true] at h)
def dteq : DT → DT → Bool
  | .int k a b, .int k' c d => kbeq k k' && (teq a c && teq b d)
  | .sl m a b t, .sl m' c d t' => mdeq m m' && (teq a c && (teq b d && dteq t t'))
  | .ptr t, .ptr t' => dteq t t'
  | .rep n t, .rep n' t' => Nat.beq n n' && dteq t t'
  | .map a b, .map c d | .pair a b, .pair c d => dteq a c && dteq b d
  | .bool, .bool | .str, .str | .nil, .nil | .any, .any => true
  | _, _ => false
theorem dteq_eq : ∀ {a b : DT}, dteq a b = true → a = b := by
  intro a
  induction a with
  | int k x y => intro b h; cases b <;> simp only [dteq, Bool.and_eq_true, Bool.false_eq_true] at h; rw [kbeq_eq h.1, teq_eq h.2.1, teq_eq h.2.2]
  | sl m x y t ih => intro b h; cases b <;> simp only [dteq, Bool.and_eq_true, Bool.false_eq_true] at h; rw [mdeq_eq h.1, teq_eq h.2.1, teq_eq h.2.2.1, ih h.2.2.2]
  | ptr t ih => intro b h; cases b <;> simp only [dteq, Bool.false_eq_true] at h; rw [ih h]
  | rep n t ih => intro b h; cases b <;> simp only [dteq, Bool.and_eq_true, Bool.false_eq_true] at h; rw [Nat.eq_of_beq_eq_true h.1, ih h.2]
  | map x y ihx ihy | pair x y ihx ihy => intro b h; cases b <;> simp only [dteq, Bool.and_eq_true, Bool.false_eq_true] at h; rw [ihx h.1, ihy h.2]
  | bool | str | nil | any => intro b h; cases b <;> first | rfl | (simp only [dteq, Bool.false_eq_true] at h)
def beqU (a b : UInt8) : Bool := Nat.beq a.toNat b.toNat
theorem leq_eq {l : List UInt8} : ∀ {m : List UInt8}, leq beqU l m = true → l = m := by
  induction l with
  | nil => intro m h; cases m <;> first | rfl | (simp [leq] at h)
  | cons a l ih =>
    intro m h
    cases m with
    | nil => simp [leq] at h
    | cons b m =>
      simp only [leq] at h
      split at h
      · rename_i hb
        rw [ih h, show a = b from UInt8.toNat_inj.1 (Nat.eq_of_beq_eq_true hb)]
      · cases h
def liteq : Value → Value → Bool
  | .string s, .string t => leq beqU s.data.toList t.data.toList
  | _, _ => false
theorem liteq_eq {a b : Value} (h : liteq a b = true) : a = b := by
  unfold liteq at h
  split at h
  · rename_i s t
    have h1 := Array.toList_inj.1 (leq_eq h)
    congr 1
    cases s; cases t
    simp only at h1
    rw [h1]
  · cases h
mutual
def sveq : SV → SV → Bool
  | .int k x, .int k' x' => kbeq k k' && teq x x'
  | .bool true, .bool true | .bool false, .bool false => true
  | .cmp h, .cmp h' => hyeq h h'
  | .nilv n, .nilv n' => Nat.beq n n'
  | .str, .str | .unk, .unk => true
  | .sl id m t n, .sl id' m' t' n' => Nat.beq id id' && (mdeq m m' && (dteq t t' && teq n n'))
  | .tsl a b c, .tsl a' b' c' => Nat.beq a a' && (Nat.beq b b' && Nat.beq c c')
  | .ptr t, .ptr t' => dteq t t'
  | .elt m t, .elt m' t' => mdeq m m' && dteq t t'
  | .tptr a b, .tptr a' b' => Nat.beq a a' && Nat.beq b b'
  | .uptr a n, .uptr a' n' => Nat.beq a a' && Nat.beq n n'
  | .map a b, .map a' b' => dteq a a' && dteq b b'
  | .fn f a b, .fn f' a' b' => Nat.beq f f' && (sveqL a a' && sveqL b b')
  | .agg l, .agg l' => sveqL l l'
  | .tup l, .tup l' => sveqL l l'
  | .agt t, .agt t' => dteq t t'
  | .lit v, .lit v' => liteq v v'
  | .rsl id t n, .rsl id' t' n' => Nat.beq id id' && (dteq t t' && teq n n')
  | .eli id i m t, .eli id' i' m' t' => Nat.beq id id' && (teq i i' && (mdeq m m' && dteq t t'))
  | .rel id i t, .rel id' i' t' => Nat.beq id id' && (teq i i' && dteq t t')
  | .kmap i, .kmap i' => Nat.beq i i'
  | _, _ => false
def sveqL : List SV → List SV → Bool
  | [], [] => true
  | a :: l, b :: m => sveq a b && sveqL l m
  | _, _ => false
end
mutual
theorem sveq_eq : ∀ (a b : SV), sveq a b = true → a = b
  | .int k x, b, h => by cases b <;> simp only [sveq, Bool.and_eq_true, Bool.false_eq_true] at h; rw [kbeq_eq h.1, teq_eq h.2]
  | .bool true, b, h => by
    cases b <;> first | (rename_i q; cases q <;> first | rfl | (simp [sveq] at h; done)) | (simp [sveq] at h; done)
  | .bool false, b, h => by
    cases b <;> first | (rename_i q; cases q <;> first | rfl | (simp [sveq] at h; done)) | (simp [sveq] at h; done)
  | .cmp x, b, h => by cases b <;> simp only [sveq, Bool.false_eq_true] at h; rw [hyeq_eq h]
  | .nilv x, b, h => by cases b <;> simp only [sveq, Bool.false_eq_true] at h; rw [Nat.eq_of_beq_eq_true h]
  | .str, b, h => by cases b <;> first | rfl | (simp [sveq] at h)
  | .unk, b, h => by cases b <;> first | rfl | (simp [sveq] at h)
  | .sl id m t n, b, h => by cases b <;> simp only [sveq, Bool.and_eq_true, Bool.false_eq_true] at h; rw [Nat.eq_of_beq_eq_true h.1, mdeq_eq h.2.1, dteq_eq h.2.2.1, teq_eq h.2.2.2]
  | .tsl x y z, b, h => by cases b <;> simp only [sveq, Bool.and_eq_true, Bool.false_eq_true] at h; rw [Nat.eq_of_beq_eq_true h.1, Nat.eq_of_beq_eq_true h.2.1, Nat.eq_of_beq_eq_true h.2.2]
  | .ptr t, b, h => by cases b <;> simp only [sveq, Bool.false_eq_true] at h; rw [dteq_eq h]
  | .elt m t, b, h => by cases b <;> simp only [sveq, Bool.and_eq_true, Bool.false_eq_true] at h; rw [mdeq_eq h.1, dteq_eq h.2]
  | .tptr x y, b, h => by cases b <;> simp only [sveq, Bool.and_eq_true, Bool.false_eq_true] at h; rw [Nat.eq_of_beq_eq_true h.1, Nat.eq_of_beq_eq_true h.2]
  | .uptr x n, b, h => by cases b <;> simp only [sveq, Bool.and_eq_true, Bool.false_eq_true] at h; rw [Nat.eq_of_beq_eq_true h.1, Nat.eq_of_beq_eq_true h.2]
  | .map x y, b, h => by cases b <;> simp only [sveq, Bool.and_eq_true, Bool.false_eq_true] at h; rw [dteq_eq h.1, dteq_eq h.2]
  | .fn f x y, b, h => by cases b <;> simp only [sveq, Bool.and_eq_true, Bool.false_eq_true] at h; rw [Nat.eq_of_beq_eq_true h.1, sveqL_eq x _ h.2.1, sveqL_eq y _ h.2.2]
  | .agg l, b, h => by cases b <;> simp only [sveq, Bool.false_eq_true] at h; rw [sveqL_eq l _ h]
  | .tup l, b, h => by cases b <;> simp only [sveq, Bool.false_eq_true] at h; rw [sveqL_eq l _ h]
  | .agt t, b, h => by cases b <;> simp only [sveq, Bool.false_eq_true] at h; rw [dteq_eq h]
  | .lit v, b, h => by cases b <;> simp only [sveq, Bool.false_eq_true] at h; rw [liteq_eq h]
  | .rsl id t n, b, h => by cases b <;> simp only [sveq, Bool.and_eq_true, Bool.false_eq_true] at h; rw [Nat.eq_of_beq_eq_true h.1, dteq_eq h.2.1, teq_eq h.2.2]
  | .eli id i m t, b, h => by cases b <;> simp only [sveq, Bool.and_eq_true, Bool.false_eq_true] at h; rw [Nat.eq_of_beq_eq_true h.1, teq_eq h.2.1, mdeq_eq h.2.2.1, dteq_eq h.2.2.2]
  | .rel id i t, b, h => by cases b <;> simp only [sveq, Bool.and_eq_true, Bool.false_eq_true] at h; rw [Nat.eq_of_beq_eq_true h.1, teq_eq h.2.1, dteq_eq h.2.2]
  | .kmap i, b, h => by cases b <;> simp only [sveq, Bool.false_eq_true] at h; rw [Nat.eq_of_beq_eq_true h]
theorem sveqL_eq : ∀ (l m : List SV), sveqL l m = true → l = m
  | [], m, h => by cases m <;> first | rfl | (simp [sveqL] at h)
  | a :: l, m, h => by
    cases m with
    | nil => simp [sveqL] at h
    | cons b m => simp only [sveqL, Bool.and_eq_true] at h; rw [sveq_eq a b h.1, sveqL_eq l m h.2]
end
def kmeq : List (SV × SV) → List (SV × SV) → Bool
  | [], [] => true
  | (a, b) :: l, (c, d) :: m => sveq a c && (sveq b d && kmeq l m)
  | _, _ => false
theorem kmeq_eq : ∀ {l m : List (SV × SV)}, kmeq l m = true → l = m := by
  intro l
  induction l with
  | nil => intro m h; cases m <;> first | rfl | (simp [kmeq] at h)
  | cons x l ih =>
    intro m h
    obtain ⟨a, b⟩ := x
    cases m with
    | nil => simp [kmeq] at h
    | cons y m => obtain ⟨c, d⟩ := y; simp only [kmeq, Bool.and_eq_true] at h; rw [sveq_eq _ _ h.1, sveq_eq _ _ h.2.1, ih h.2.2]
def toeq : TO → TO → Bool
  | .cells v l, .cells w m => Nat.beq v w && sveqL l m
  | .uni _ t n, .uni _ t' n' => dteq t t' && Nat.beq n n'
  | .kmap l, .kmap m => kmeq l m
  | _, _ => false
theorem toeq_eq {a b : TO} (h : toeq a b = true) (ver : Nat) : reV ver a = reV ver b ∧ b ≠ .gone := by
  cases a <;> cases b <;> simp only [toeq, Bool.and_eq_true, Bool.false_eq_true] at h
  · exact ⟨by simp only [reV, sveqL_eq _ _ h.2], by intro e; cases e⟩
  · exact ⟨by simp only [reV, dteq_eq h.1, Nat.eq_of_beq_eq_true h.2], by intro e; cases e⟩
  · exact ⟨by simp only [reV, kmeq_eq h], by intro e; cases e⟩
/-! slots that must not have changed -/
def emptyT : Tr (Option SV) → Bool
  | .nil => true
  | .node v l r => (match v with | some (some _) => false | _ => true) && (emptyT l && emptyT r)
theorem emptyT_get : ∀ {t : Tr (Option SV)}, emptyT t = true → ∀ (j : Nat) (s : SV), get t j ≠ some (some s) := by
  intro t
  induction t with
  | nil => intro _ j s h; cases j <;> simp [get_nil] at h
  | node v l r ihl ihr =>
    intro h j s hg
    simp only [emptyT, Bool.and_eq_true] at h
    cases j with
    | zero =>
      rw [get_node_zero] at hg
      subst hg
      cases h.1
    | succ m =>
      rw [get_node_succ] at hg
      split at hg
      · exact ihl h.2.1 _ _ hg
      · exact ihr h.2.2 _ _ hg
def sameT : Tr (Option SV) → Tr (Option SV) → Bool
  | .nil, _ => true
  | .node v l r, .nil => emptyT (.node v l r)
  | .node v l r, .node v' l' r' => (match v, v' with | some (some s), some (some s') => sveq s s' | some (some _), _ => false | _, _ => true) && (sameT l l' && sameT r r')
theorem sameT_get : ∀ {t t' : Tr (Option SV)}, sameT t t' = true → ∀ {j : Nat} {s : SV}, get t j = some (some s) → get t' j = some (some s) := by
  intro t
  induction t with
  | nil => intro t' _ j s h; cases j <;> simp [get_nil] at h
  | node v l r ihl ihr =>
    intro t' h j s hg
    cases t' with
    | nil => exact absurd hg (emptyT_get (by simpa only [sameT] using h) j s)
    | node v' l' r' =>
      simp only [sameT, Bool.and_eq_true] at h
      cases j with
      | zero =>
        rw [get_node_zero] at hg ⊢
        subst hg
        have h1 := h.1
        cases v' with
        | none => simp at h1
        | some v' =>
          cases v' with
          | none => simp at h1
          | some s' => rw [sveq_eq _ _ (show sveq s s' = true from h1)]
      | succ m =>
        rw [get_node_succ] at hg ⊢
        split at hg
        · rename_i he; rw [if_pos he]; exact ihl h.2.1 hg
        · rename_i he; rw [if_neg he]; exact ihr h.2.2 hg
noncomputable def killS : List Nat → Tr (Option SV) → Option (Tr (Option SV))
  | [], t => some t
  | d :: r, t => setK t d none (fun t' => killS r t') none
theorem killS_get : ∀ {l : List Nat} {t t' : Tr (Option SV)}, killS l t = some t' → ∀ {j : Nat} {s : SV}, get t' j = some (some s) → get t j = some (some s) := by
  intro l
  induction l with
  | nil => intro t t' h j s hg; cases h; exact hg
  | cons d r ih =>
    intro t t' h j s hg
    obtain ⟨t1, h1, h2⟩ := setK_spec h (by simp)
    have := ih h2 hg
    by_cases e : j = d
    · subst e; rw [h1.same] at this; cases this
    · rw [h1.other e] at this; exact this
def memN (i : Nat) : List Nat → Bool
  | [] => false
  | j :: r => Nat.beq i j || memN i r
theorem toeq_ver {v : Nat} {l : List SV} {b : TO} (h : toeq (.cells v l) b = true) : ∃ m, b = .cells v m := by
  cases b <;> simp only [toeq, Bool.and_eq_true, Bool.false_eq_true] at h
  rw [Nat.eq_of_beq_eq_true h.1]; exact ⟨_, rfl⟩
/-- A block that does not change; an array's contents may, so its version is new. -/
def addV (τ : St) (i : Nat) (x : TO) : St := match x with
  | .cells v l => { τ with hp := τ.hp.set i (.cells v l) }
  | x => { τ with no := τ.no + 1, hp := τ.hp.set i (reV τ.no x) }
/-- The tracked blocks that do not change. -/
def reAdd : List TO → Nat → List Nat → St → St
  | [], _, _, τ => τ
  | x :: r, i, sk, τ => reAdd r (i + 1) sk (match x, memN i sk with
    | .gone, _ => τ
    | _, true => τ
    | x, false => addV τ i x)
def sameB : List TO → Nat → List Nat → List TO → Bool
  | [], _, _, _ => true
  | x :: r, i, sk, m => (match x, memN i sk with
    | .gone, _ => true
    | _, true => true
    | x, false => (match m[i]? with | some y => toeq x y | none => false)) && sameB r (i + 1) sk m
theorem put_obj {C : Cx} {E : Ev} {τ : St} {a : Act} {w : World} (h : Inv C E τ a w) {i : Nat} {x : TO} (hx : TObj C E w i x) : Inv C E { τ with hp := τ.hp.set i x } a w := by
  refine ⟨h.wt, h.hy, h.ns, h.no, by simp [h.nb], h.nt, h.sl, fun j y hy hg => ?_, h.inj, h.lt, h.fa, h.rd, h.dfr⟩
  have hy' : (τ.hp.set i x)[j]? = some y := hy
  by_cases e : i = j
  · subst e
    rw [List.getElem?_set] at hy'
    rw [if_pos rfl] at hy'
    split at hy'
    · cases hy'; exact hx
    · cases hy'
  · rw [List.getElem?_set_ne e] at hy'
    exact h.hp j y hy' hg
/-- The state at the loop's begin without what changes in it, at a later world. -/
theorem base_inv {C0 C1 : Cx} {E0 E1 : Ev} {σ σ1 : St} {a0 a1 : Act} {w0 w1 : World} (h0 : Inv C0 E0 σ a0 w0) (hC : C0.le C1) (hE : E0.le E1) (h1 : Inv C1 E1 σ1 a1 w1)
    {kill : List Nat} {sl : Tr (Option SV)} (hk : killS kill σ.sl = some sl) (hs : sameT sl σ1.sl = true) (hn : Nat.beq σ1.nt σ.nt = true) :
    Inv C1 E0 { σ with sl := sl, hp := σ.hp.map fun _ => .gone } a1 w1 := by
  refine ⟨h1.wt, h0.hy, h0.ns, h0.no, by simp [h0.nb], by rw [h1.nt]; exact Nat.eq_of_beq_eq_true hn, fun t s hg => ?_, fun i x hx hg => ?_, h0.inj, fun i b hi => ?_, fun f hf => fact_mono hC (.refl _) (h0.fa f hf), fun r hr => read_mono hC (.refl _) (h0.rd r hr), h1.dfr⟩
  · obtain ⟨v0, q1, q2⟩ := h0.sl t s (killS_get hk hg)
    obtain ⟨v1, q3, q4⟩ := h1.sl t s (sameT_get hs hg)
    exact ⟨v1, q3, den_back hE s v0 v1 q2 q4⟩
  · have hx' : (σ.hp.map fun _ => TO.gone)[i]? = some x := hx
    simp only [List.getElem?_map, Option.map_eq_some_iff] at hx'
    obtain ⟨_, _, e⟩ := hx'
    exact absurd e.symm hg
  · obtain ⟨l, hl⟩ := hE.b
    exact h1.lt i b (by rw [hl]; exact getg hi)
theorem reAdd_inv {C0 C1 : Cx} {E0 E1 : Ev} {σ σ1 : St} {a0 a1 : Act} {w0 w1 : World} (h0 : Inv C0 E0 σ a0 w0) (_hC : C0.le C1) (hE : E0.le E1) (h1 : Inv C1 E1 σ1 a1 w1) {sk : List Nat} :
    ∀ {l : List TO} {i : Nat} {E : Ev} {τ : St}, (∀ j x, l[j]? = some x → σ.hp[i + j]? = some x) → sameB l i sk σ1.hp = true → E0.le E → Inv C1 E τ a1 w1 → ∃ E', E.le E' ∧ Inv C1 E' (reAdd l i sk τ) a1 w1 := by
  intro l
  induction l with
  | nil => intro i E τ _ _ _ h; exact ⟨E, .refl _, h⟩
  | cons x r ih =>
    intro i E τ hl hs hle h
    have hx := hl 0 x rfl
    have hr : ∀ j y, r[j]? = some y → σ.hp[i + 1 + j]? = some y := fun j y hj => by
      have := hl (j + 1) y (by simpa using hj)
      rw [show i + 1 + j = i + (j + 1) by omega]; exact this
    have add : ∀ (y : TO), σ1.hp[i]? = some y → toeq x y = true → x ≠ .gone → ∃ E', E.le E' ∧ Inv C1 E' (addV τ i x) a1 w1 := by
      intro y hy hxy hxg
      obtain ⟨_, e2⟩ := toeq_eq hxy 0
      obtain ⟨b, ob, p1, p2, p3, p4, p5, p6⟩ := h0.hp (i + 0) x hx hxg
      rw [Nat.add_zero] at p1
      obtain ⟨b', ob', q1, q2, q3, q4, q5, q6⟩ := h1.hp i y hy e2
      have := get_det hE.b p1 q1
      subst this
      have hbE : E.b[i]? = some b' := by obtain ⟨l, hl⟩ := hle.b; rw [hl]; exact getg p1
      have other : ∃ E', E.le E' ∧ Inv C1 E' { τ with no := τ.no + 1, hp := τ.hp.set i (reV τ.no x) } a1 w1 := by
        obtain ⟨e1, _⟩ := toeq_eq hxy τ.no
        obtain ⟨f1, f2, f3⟩ := id_inv h (obV ob')
        exact ⟨_, f1, put_obj f2 ⟨b', ob', hbE, q2, q3, q4, q5, tin_back hE (hle.trans f1) p6 q6 e1.symm (by rw [f3])⟩⟩
      cases x with
      | cells v l =>
        obtain ⟨m, rfl⟩ := toeq_ver hxy
        obtain ⟨e1, _⟩ := toeq_eq hxy v
        refine ⟨E, .refl _, put_obj h ⟨b', ob', hbE, q2, q3, q4, q5, ?_⟩⟩
        have hv : E.o[v]? = some (obV ob') := by
          cases ob <;> first | exact p6.elim | skip
          cases ob' <;> first | exact q6.elim | skip
          have := get_det hE.o p6.2.1 q6.2.1
          obtain ⟨l', hl'⟩ := hle.o
          rw [hl']
          refine getg ?_
          rw [p6.2.1, ← this]; rfl
        exact tin_back hE hle (ver := v) p6 q6 e1.symm hv
      | gone => exact absurd rfl hxg
      | uni v t n => exact other
      | kmap l => exact other
    unfold sameB at hs
    rw [Bool.and_eq_true] at hs
    unfold reAdd
    cases x with
    | gone => exact ih hr hs.2 hle h
    | _ =>
      cases hm : memN i sk with
      | true => simp only []; exact ih hr hs.2 hle h
      | false =>
        have hs1 := hs.1
        simp only [hm] at hs1 ⊢
        split at hs1
        · rename_i y hy
          obtain ⟨E', q1, q2⟩ := add y hy hs1 (by intro e; cases e)
          obtain ⟨E2, q3, q4⟩ := ih hr hs.2 (hle.trans q1) q2
          exact ⟨E2, q1.trans q3, q4⟩
        · cases hs1
end Go.Vg
/- A loop's template: slots and blocks known anew, invariants, facts. -/
namespace Go.Vg
open Go Go.RowKit Go.Hs Go.Ty Go.Ex
/-- The number that a value bears: its own, or how long it is. -/
def numS : SV → Option Tm
  | .int _ x => some x
  | .sl _ _ _ n => some n
  | .rsl _ _ n => some n
  | .nilv 0 => some (.c 0)
  | .tsl _ _ n => some (.c n)
  | _ => none
def numV : Value → Option Int
  | .int _ n => some n
  | .slice _ n _ => some n
  | _ => none
theorem num_ev {C : Cx} {E : Ev} {s : SV} {v : Value} (h : Den C E s v) {x : Tm} (hx : numS s = some x) : ∃ k, x.ev E.ρ = some k ∧ numV v = some k := by
  unfold numS at hx
  split at hx
  · cases hx; simp only [Den] at h; obtain ⟨n, h1, rfl⟩ := h; exact ⟨n, h1, rfl⟩
  · cases hx
    simp only [Den] at h
    obtain ⟨_, u, k, _, h2, A, n, c, e1, e2, e3, _⟩ := h
    simp only [Ty.one, if_pos, Option.some.injEq] at e1
    subst e1
    exact ⟨k, h2, by show some (n : Int) = _; congr 1; have := e2.1; omega⟩
  · cases hx; simp only [Den] at h; obtain ⟨_, u, k, A, c, _, h2, rfl, _⟩ := h; exact ⟨k, h2, rfl⟩
  · cases hx; simp only [Den, nilVal] at h; subst h; exact ⟨0, rfl, rfl⟩
  · cases hx; simp only [Den] at h; obtain ⟨b, _, rfl⟩ := h; exact ⟨_, rfl, rfl⟩
  · cases hx
/-- What a new symbol stands for. -/
def pr (s' s1 : SV) : List (Nat × Tm) :=
  match s' with
  | .int _ (.s i) => (match numS s1 with | some x => [(i, x)] | none => [])
  | .sl _ _ _ (.s i) => (match numS s1 with | some x => [(i, x)] | none => [])
  | _ => []
def SubL (sb : List (Nat × Tm)) (ρ τ : List Int) : Prop := ∀ p ∈ sb, ∃ k, p.2.ev ρ = some k ∧ τ[p.1]? = some k
theorem pr_ok {C D : Cx} {E F : Ev} {s' s1 : SV} {v : Value} (h' : Den D F s' v) (h : Den C E s1 v) : SubL (pr s' s1) E.ρ F.ρ := by
  have key : ∀ i x, numS s' = some (.s i) → numS s1 = some x → ∃ k, x.ev E.ρ = some k ∧ F.ρ[i]? = some k := fun i x hi hx => by
    obtain ⟨k, h1, h2⟩ := num_ev h' hi
    obtain ⟨k', h3, h4⟩ := num_ev h hx
    rw [h2] at h4; cases h4
    exact ⟨k, h3, h1⟩
  intro p hp
  unfold pr at hp
  split at hp
  · rename_i kk i
    split at hp
    · rename_i x hx
      simp at hp; subst hp
      exact key i x rfl hx
    · cases hp
  · rename_i id m t i
    split at hp
    · rename_i x hx
      simp at hp; subst hp
      exact key i x rfl hx
    · cases hp
  · cases hp
theorem subL_grow {sb : List (Nat × Tm)} {ρ τ l : List Int} (h : SubL sb ρ τ) : SubL sb ρ (τ ++ l) := fun p hp => let ⟨k, h1, h2⟩ := h p hp; ⟨k, h1, getg h2⟩
def sbGet : List (Nat × Tm) → Nat → Option Tm
  | [], _ => none
  | (j, x) :: r, i => match Nat.beq j i with | true => some x | false => sbGet r i
def sbF (n : Nat) (sb : List (Nat × Tm)) (i : Nat) : Option Tm := match Nat.blt i n with | true => some (.s i) | false => sbGet sb i
theorem sbGet_mem {sb : List (Nat × Tm)} {i : Nat} {x : Tm} (h : sbGet sb i = some x) : (i, x) ∈ sb := by
  induction sb with
  | nil => cases h
  | cons p r ih =>
    obtain ⟨j, y⟩ := p
    simp only [sbGet] at h
    split at h
    · rename_i e; cases h; rw [Nat.eq_of_beq_eq_true e]; exact List.mem_cons_self ..
    · exact List.mem_cons_of_mem _ (ih h)
theorem sbF_ok {sb : List (Nat × Tm)} {ρ0 ρ τ : List Int} (h1 : ∃ l, ρ = ρ0 ++ l) (h2 : ∃ l, τ = ρ0 ++ l) (h : SubL sb ρ τ) : SubOK (sbF ρ0.length sb) ρ τ := by
  intro i x hx
  unfold sbF at hx
  split at hx
  · rename_i hlt
    cases hx
    have hlt : i < ρ0.length := by simpa using hlt
    obtain ⟨l, rfl⟩ := h1
    obtain ⟨m, rfl⟩ := h2
    exact ⟨ρ0[i], getg (List.getElem?_eq_getElem hlt), getg (List.getElem?_eq_getElem hlt)⟩
  · exact h _ (sbGet_mem hx)
/-! slots -/
noncomputable def frS : List (Nat × DT) → St → Option (List SV × St)
  | [], σ => some ([], σ)
  | (d, t) :: r, σ => match freshOf σ t with
    | some ([s], σ1) => setK σ1.sl d (some s) (fun sl => match frS r { σ1 with sl := sl } with | some (l, σ2) => some (s :: l, σ2) | none => none) none
    | _ => none
noncomputable def chkS (σ1 : St) : List (Nat × DT) → List SV → Option (List Goal × List (Nat × Tm))
  | [], [] => some ([], [])
  | (d, t) :: r, s' :: l => match get σ1.sl d with
    | some (some s1) => (match fit1 σ1 t s1, chkS σ1 r l with
      | some g, some (g', sb) => some (g ++ g', pr s' s1 ++ sb)
      | _, _ => none)
    | _ => none
  | _, _ => none
def scAll (n : Nat) : List (Nat × DT) → Bool
  | [] => true
  | (_, t) :: r => t.sc n && scAll n r
theorem know_inv {C : Cx} {E : Ev} {σ σ' : St} {a : Act} {w : World} (h : Inv C E σ a w) {d : Nat} {s : SV} {v : Value} (hv : a.tmps[d]? = some v) (hd : Den C E s v) {sl : Tr (Option SV)} (hs : IsSet σ.sl d (some s) sl) (e : σ' = { σ with sl := sl }) : Inv C E σ' a w := by
  subst e
  refine ⟨h.wt, h.hy, h.ns, h.no, h.nb, h.nt, fun t s' hg => ?_, h.hp, h.inj, h.lt, h.fa, h.rd, h.dfr⟩
  by_cases e : t = d
  · subst e
    rw [hs.same] at hg; cases hg
    exact ⟨v, hv, hd⟩
  · rw [hs.other e] at hg
    exact h.sl t s' hg
theorem frS_ok {C1 : Cx} {E0 E1 : Ev} {σ1 : St} {a1 : Act} {w1 : World} (h1 : Inv C1 E1 σ1 a1 w1) (hE : E0.le E1) : ∀ {slots : List (Nat × DT)} {τ τ' : St} {E : Ev} {l : List SV} {gs : List Goal} {sb : List (Nat × Tm)},
    frS slots τ = some (l, τ') → chkS σ1 slots l = some (gs, sb) → (∀ g ∈ gs, g.ok) → scAll E0.ρ.length slots = true → E0.le E → Inv C1 E τ a1 w1 →
    ∃ E', E.le E' ∧ Inv C1 E' τ' a1 w1 ∧ SubL sb E1.ρ E'.ρ := by
  intro slots
  induction slots with
  | nil =>
    intro τ τ' E l gs sb hf hc _ _ _ h
    simp only [frS, Option.some.injEq, Prod.mk.injEq] at hf
    obtain ⟨rfl, rfl⟩ := hf
    simp only [chkS, Option.some.injEq, Prod.mk.injEq] at hc
    obtain ⟨rfl, rfl⟩ := hc
    exact ⟨E, .refl _, h, fun p hp => by cases hp⟩
  | cons x r ih =>
    obtain ⟨d, t⟩ := x
    intro τ τ' E l gs sb hf hc hg hsc hle h
    simp only [frS] at hf
    split at hf
    · rename_i s σ2 hfr
      obtain ⟨sl, hset, hf⟩ := setK_spec hf (by simp)
      split at hf
      · rename_i l2 σ3 hr
        simp only [Option.some.injEq, Prod.mk.injEq] at hf
        obtain ⟨rfl, rfl⟩ := hf
        simp only [chkS] at hc
        split at hc
        · rename_i s1 hs1
          split at hc
          · rename_i g g' sb' hfit hch
            simp only [Option.some.injEq, Prod.mk.injEq] at hc
            obtain ⟨rfl, rfl⟩ := hc
            simp only [scAll, Bool.and_eq_true] at hsc
            obtain ⟨v, hv, hd⟩ := h1.sl d s1 hs1
            obtain ⟨u, hu⟩ := sc_inst hsc.1
            have hu1 : t.inst E1.ρ = some u := by obtain ⟨q, hq⟩ := hE.ρ; rw [hq]; exact inst_grow hu
            have hu2 : t.inst E.ρ = some u := by obtain ⟨q, hq⟩ := hle.ρ; rw [hq]; exact inst_grow hu
            obtain ⟨hleaf, hat⟩ := fit1_ok h1.kn hfit (fun q hq => hg q (List.mem_append_left _ hq)) hu1 hd
            obtain ⟨E2, e1, e2, vs, e3, e4, e5⟩ := fresh_den h hu2 hat hfr
            rw [leaf_size hleaf] at e4 e5
            have hv0 := e5 0 (by omega)
            simp only [DenL] at e3
            obtain ⟨v', r', rfl, e6, rfl⟩ := e3
            have : v' = v := by simpa [Ty.one] using hv0.symm
            subst this
            have h2 := know_inv e2 hv e6 hset rfl
            obtain ⟨E3, f1, f2, f3⟩ := ih hr hch (fun q hq => hg q (List.mem_append_right _ hq)) hsc.2 (hle.trans e1) h2
            refine ⟨E3, e1.trans f1, f2, fun p hp => ?_⟩
            rcases List.mem_append.1 hp with hp | hp
            · obtain ⟨q, hq⟩ := f1.ρ
              rw [hq]
              exact subL_grow (pr_ok e6 hd) p hp
            · exact f3 p hp
          · cases hc
        · cases hc
      · cases hf
    · cases hf
/-! blocks -/
def frB : List (Nat × DT) → St → Option (List (List SV) × St)
  | [], σ => some ([], σ)
  | (i, t) :: r, σ => match freshOf σ t with
    | some (l, σ1) => (match frB r { σ1 with no := σ1.no + 1, hp := σ1.hp.set i (.cells σ1.no l) } with | some (m, σ2) => some (l :: m, σ2) | none => none)
    | none => none
def prL : List SV → List SV → List (Nat × Tm)
  | a :: l, b :: m => pr a b ++ prL l m
  | _, _ => []
theorem prL_ok {C D : Cx} {E F : Ev} : ∀ {l m : List SV} {vs : List Value}, DenL D F l vs → DenL C E m vs → SubL (prL l m) E.ρ F.ρ := by
  intro l
  induction l with
  | nil => intro m vs _ _ p hp; cases m <;> cases hp
  | cons a l ih =>
    intro m vs h h' p hp
    cases m with
    | nil => cases hp
    | cons b m =>
      simp only [DenL] at h h'
      obtain ⟨v, r, rfl, h1, h2⟩ := h
      obtain ⟨v', r', e, h3, h4⟩ := h'
      cases e
      simp only [prL, List.mem_append] at hp
      rcases hp with hp | hp
      · exact pr_ok h1 h3 p hp
      · exact ih h2 h4 p hp
def chkB (σ1 : St) : List (Nat × DT) → List (List SV) → Option (List Goal × List (Nat × Tm))
  | [], [] => some ([], [])
  | (i, t) :: r, l' :: m => match σ1.hp[i]? with
    | some (.cells _ l1) => (match fitL σ1 t l1, chkB σ1 r m with
      | some (g, []), some (g', sb) => some (g ++ g', prL l' l1 ++ sb)
      | _, _ => none)
    | _ => none
  | _, _ => none
theorem frB_ok {C0 C1 : Cx} {E0 E1 : Ev} {σ σ1 : St} {a0 a1 : Act} {w0 w1 : World} (h0 : Inv C0 E0 σ a0 w0) (h1 : Inv C1 E1 σ1 a1 w1) (hE : E0.le E1) : ∀ {blks : List (Nat × DT)} {τ τ' : St} {E : Ev} {l : List (List SV)} {gs : List Goal} {sb : List (Nat × Tm)},
    frB blks τ = some (l, τ') → chkB σ1 blks l = some (gs, sb) → (∀ g ∈ gs, g.ok) → scAll E0.ρ.length blks = true → (∀ p ∈ blks, p.1 < σ.hp.length) → E0.le E → Inv C1 E τ a1 w1 →
    ∃ E', E.le E' ∧ Inv C1 E' τ' a1 w1 ∧ SubL sb E1.ρ E'.ρ := by
  intro blks
  induction blks with
  | nil =>
    intro τ τ' E l gs sb hf hc _ _ _ _ h
    simp only [frB, Option.some.injEq, Prod.mk.injEq] at hf
    obtain ⟨rfl, rfl⟩ := hf
    simp only [chkB, Option.some.injEq, Prod.mk.injEq] at hc
    obtain ⟨rfl, rfl⟩ := hc
    exact ⟨E, .refl _, h, fun p hp => by cases hp⟩
  | cons x r ih =>
    obtain ⟨i, t⟩ := x
    intro τ τ' E l gs sb hf hc hg hsc hlen hle h
    simp only [frB] at hf
    split at hf
    · rename_i l' σ2 hfr
      split at hf
      · rename_i m σ3 hr
        simp only [Option.some.injEq, Prod.mk.injEq] at hf
        obtain ⟨rfl, rfl⟩ := hf
        simp only [chkB] at hc
        split at hc
        · rename_i ver1 l1 hb1
          split at hc
          · rename_i g g' sb' hfit hch
            simp only [Option.some.injEq, Prod.mk.injEq] at hc
            obtain ⟨rfl, rfl⟩ := hc
            simp only [scAll, Bool.and_eq_true] at hsc
            obtain ⟨b, ob, q1, q2, q3, q4, q5, q6⟩ := h1.hp i _ hb1 (by intro e; cases e)
            cases ob <;> first | exact q6.elim | skip
            rename_i cs ty fz
            obtain ⟨hz, _, hd⟩ := q6
            obtain ⟨u, hu⟩ := sc_inst hsc.1
            have hu1 : t.inst E1.ρ = some u := by obtain ⟨q, hq⟩ := hE.ρ; rw [hq]; exact inst_grow hu
            have hu2 : t.inst E.ρ = some u := by obtain ⟨q, hq⟩ := hle.ρ; rw [hq]; exact inst_grow hu
            obtain ⟨us, rs, e0, e1, e2, e3⟩ := fitL_ok h1.kn hfit (fun q hq => hg q (List.mem_append_left _ hq)) hu1 hd
            simp only [DenL] at e3
            subst e3
            rw [List.append_nil] at e0
            obtain ⟨E2, f1, f2, vs, f3, f4, f5⟩ := fresh_den h hu2 ((at_cells u (fun j => us[j]?)).2 e2) hfr
            have hvu : vs = us := by
              apply List.ext_getElem?
              intro j
              rcases Nat.lt_or_ge j u.size with hj | hj
              · exact (f5 j hj).symm
              · rw [List.getElem?_eq_none (by omega), List.getElem?_eq_none (by omega)]
            subst hvu
            obtain ⟨k1, k2, k3⟩ := id_inv f2 (.agg cs)
            have hbE : E.b[i]? = some b := by
              have hil : i < E0.b.length := by rw [h0.nb]; exact hlen _ (List.mem_cons_self ..)
              obtain ⟨b0, hb0⟩ : ∃ b0, E0.b[i]? = some b0 := ⟨_, List.getElem?_eq_getElem hil⟩
              have := get_det hE.b hb0 q1
              subst this
              obtain ⟨q, hq⟩ := hle.b
              rw [hq]; exact getg hb0
            have hb2 : ({ E2 with o := E2.o ++ [Value.agg cs] } : Ev).b[i]? = some b := by
              obtain ⟨q, hq⟩ := (f1.trans k1).b
              rw [hq]; exact getg hbE
            have h3 := put_obj k2 (i := i) (x := .cells σ2.no l') ⟨b, .cells cs ty fz, hb2, q2, q3, q4, q5, hz, k3, denL_mono (.refl _) k1 _ _ (by rw [e0]; exact f3)⟩
            obtain ⟨E3, g1, g2, g3⟩ := ih hr hch (fun q hq => hg q (List.mem_append_right _ hq)) hsc.2 (fun p hp => hlen p (List.mem_cons_of_mem _ hp)) (hle.trans (f1.trans k1)) h3
            refine ⟨E3, (f1.trans k1).trans g1, g2, fun p hp => ?_⟩
            rcases List.mem_append.1 hp with hp | hp
            · obtain ⟨q, hq⟩ := (k1.trans g1).ρ
              rw [hq]
              exact subL_grow (prL_ok f3 (by rw [← e0]; exact hd)) p hp
            · exact g3 p hp
          · cases hc
        · cases hc
      · cases hf
    · cases hf
end Go.Vg
/- Landing on a loop's template; the loop's rule. -/
namespace Go.Vg
open Go Go.RowKit Go.Hs Go.Ty Go.Ex
structure LSpec where
  kill : List Nat
  slots : List (Nat × DT)
  blks : List (Nat × DT)
  inv : List Hy
  facts : List Fact
  meas : Tm
def lookF : List Fact → Md → Nat → Option Fact
  | [], _, _ => none
  | f :: r, m, id => match mdeq f.m m && Nat.beq f.id id with | true => some f | false => lookF r m id
theorem lookF_mem {l : List Fact} {m : Md} {id : Nat} {f : Fact} (h : lookF l m id = some f) : f ∈ l ∧ f.m = m ∧ f.id = id := by
  induction l with
  | nil => cases h
  | cons g r ih =>
    simp only [lookF] at h
    split at h
    · rename_i e
      cases h
      rw [Bool.and_eq_true] at e
      exact ⟨List.mem_cons_self .., mdeq_eq e.1, Nat.eq_of_beq_eq_true e.2⟩
    · obtain ⟨h1, h2⟩ := ih h
      exact ⟨List.mem_cons_of_mem _ h1, h2⟩
def lookR : List Read → Nat → Tm → Option (List SV)
  | [], _, _ => none
  | r :: l, id, k => match Nat.beq r.id id && teq r.i k with | true => some r.l | false => lookR l id k
theorem lookR_mem {l : List Read} {id : Nat} {k : Tm} {s : List SV} (h : lookR l id k = some s) : ⟨id, k, s⟩ ∈ l := by
  induction l with
  | nil => cases h
  | cons g r ih =>
    simp only [lookR] at h
    split at h
    · rename_i e
      cases h
      rw [Bool.and_eq_true] at e
      obtain ⟨i, j, q⟩ := g
      have e1 := Nat.eq_of_beq_eq_true e.1
      have e2 := teq_eq e.2
      simp only at e1 e2
      subst e1; subst e2
      exact List.mem_cons_self ..
    · exact List.mem_cons_of_mem _ (ih h)
def wkM (m : Md) (hy : List Hy) (s t : DT) : Option (List Goal) := match m with | .old => wkD hy s t | _ => subD hy s t
theorem wkM_ok {C : Cx} {m : Md} {hy : List Hy} {ρ : List Int} (hh : ∀ x ∈ hy, x.holds (tot ρ)) {s t : DT} {l : List Goal} {u v : T} (h : wkM m hy s t = some l) (hg : ∀ g ∈ l, g.ok) (hu : s.inst ρ = some u) (hv : t.inst ρ = some v) {b o i : Nat} (hp : Place C m u b (o + i * u.size)) : Place C m v b (o + i * v.size) := by
  unfold wkM at h
  split at h
  · rcases hp with ⟨h1, _⟩ | ⟨h1, h2, h3⟩
    · exact absurd rfl h1
    · obtain ⟨q1, q2⟩ := wkD_ok hh h hg hu hv h3
      exact .inr ⟨h1, h2, by rw [← q2]; exact q1⟩
  · have := subD_ok hh h hg hu hv
    subst this
    exact hp
def chkF (σ1 : St) (f : Nat → Option Tm) (x : Fact) : Option (List Goal) :=
  match x.k.subst f, x.t.subst f with
  | some k, some t => (match lookF σ1.fa x.m x.id with
    | some f1 => (match wkM x.m σ1.hy f1.t t with
      | some g => (match (match x.m with | .old => lookR σ1.rd x.id f1.k | _ => none) with
        | some l => (match fitL σ1 t l with
          | some (g', []) => some (⟨σ1.hy, .le k (.add f1.k (.c 1))⟩ :: (g ++ g'))
          | _ => none)
        | none => some (⟨σ1.hy, .le k f1.k⟩ :: g))
      | none => none)
    | none => some [⟨σ1.hy, .le k (.c 0)⟩])
  | _, _ => none
theorem chkF_ok {C0 C1 : Cx} {E0 E1 E2 : Ev} {σ σ1 : St} {a0 a1 : Act} {w0 w1 : World} (h0 : Inv C0 E0 σ a0 w0) (h1 : Inv C1 E1 σ1 a1 w1) (hE : E0.le E1) (hE2 : E0.le E2) {f : Nat → Option Tm} (hs : SubOK f E1.ρ E2.ρ) {x : Fact} {gs : List Goal}
    (hx : Nat.blt x.id σ.no = true) (hc : chkF σ1 f x = some gs) (hg : ∀ g ∈ gs, g.ok) : x.ok C1 E2 := by
  have hid : x.id < E0.o.length := by rw [h0.no]; simpa using hx
  have hno : E1.o[x.id]? = E2.o[x.id]? := by
    obtain ⟨l, hl⟩ := hE.o
    obtain ⟨m, hm⟩ := hE2.o
    rw [hl, hm, List.getElem?_append_left hid, List.getElem?_append_left hid]
  have hid2 : x.id < E2.o.length := by obtain ⟨m, hm⟩ := hE2.o; rw [hm, List.length_append]; omega
  have hyp : ∀ h ∈ σ1.hy, h.holds (tot E1.ρ) := fun h hh => (h1.hy h hh).2
  unfold chkF at hc
  split at hc
  · rename_i k t hk ht
    obtain ⟨kv, k1, k2⟩ := subst_ev hs hk
    obtain ⟨u, u1, u2⟩ := subst_dt hs ht
    refine ⟨hid2, kv, u, k2, u2, fun A n c hA i hi hn => ?_⟩
    rw [← hno] at hA
    split at hc
    · rename_i f1 hf1
      obtain ⟨m1, m2, m3⟩ := lookF_mem hf1
      obtain ⟨_, kf, uf, p1, p2, p3⟩ := h1.fa f1 m1
      rw [m3] at p3
      rw [m2] at p3
      split at hc
      · rename_i g hw
        split at hc
        · rename_i l hl
          split at hc
          · rename_i g' hfit
            cases hc
            have hgw : ∀ q ∈ g, q.ok := fun q hq => hg q (List.mem_cons_of_mem _ (List.mem_append_left _ hq))
            have hgf : ∀ q ∈ g', q.ok := fun q hq => hg q (List.mem_cons_of_mem _ (List.mem_append_right _ hq))
            have hle := hg _ (List.mem_cons_self ..) (tot E1.ρ) hyp
            simp only [Hy.holds, Tm.val, ev_val k1, ev_val p1] at hle
            by_cases hlt : (i : Int) < kf
            · obtain ⟨b, o, e1, e2⟩ := p3 A n c hA i hlt hn
              exact ⟨b, o, e1, wkM_ok hyp hw hgw p2 u1 e2⟩
            · have hik : (i : Int) = kf := by omega
              have hm : x.m = .old := by
                cases hxm : x.m <;> rw [hxm] at hl <;> first | rfl | cases hl
              rw [hm] at hl
              obtain ⟨b, o, n', c', q, vs, r1, r2, r3, r4, r5, r6⟩ := h1.rd _ (lookR_mem hl)
              simp only at r1 r2
              rw [hA] at r1
              cases r1
              rw [p1] at r2
              have hiq : i = q := by
                have : kf = (q : Int) := by cases r2; rfl
                omega
              subst hiq
              obtain ⟨us, rs, s0, s1, s2, s3⟩ := fitL_ok h1.kn hfit hgf u1 r5
              simp only [DenL] at s3
              subst s3
              rw [List.append_nil] at s0
              refine ⟨b, o, rfl, ?_⟩
              rw [hm]
              refine .inr ⟨(by intro e; cases e), r4, (at_cells u _).2 fun j y hj => ?_⟩
              obtain ⟨v, t1, t2⟩ := s2 j y hj
              have hjl := (List.getElem?_eq_some_iff.1 t1).1
              have := r6 j (by rw [s0]; exact hjl)
              rw [s0, s1] at this
              exact ⟨v, this.trans t1, t2⟩
          · cases hc
        · cases hc
          have hle := hg _ (List.mem_cons_self ..) (tot E1.ρ) hyp
          simp only [Hy.holds, ev_val k1, ev_val p1] at hle
          obtain ⟨b, o, e1, e2⟩ := p3 A n c hA i (by omega) hn
          exact ⟨b, o, e1, wkM_ok hyp hw (fun q hq => hg q (List.mem_cons_of_mem _ hq)) p2 u1 e2⟩
      · cases hc
    · cases hc
      have hle := hg _ (List.mem_cons_self ..) (tot E1.ρ) hyp
      simp only [Hy.holds, Tm.val, ev_val k1] at hle
      omega
  · cases hc
def chkFs (σ1 : St) (n : Nat) (f : Nat → Option Tm) : List Fact → Option (List Goal)
  | [] => some []
  | x :: r => match Nat.blt x.id n, chkF σ1 f x, chkFs σ1 n f r with | true, some g, some g' => some (g ++ g') | _, _, _ => none
theorem chkFs_ok {C0 C1 : Cx} {E0 E1 E2 : Ev} {σ σ1 : St} {a0 a1 : Act} {w0 w1 : World} (h0 : Inv C0 E0 σ a0 w0) (h1 : Inv C1 E1 σ1 a1 w1) (hE : E0.le E1) (hE2 : E0.le E2) {f : Nat → Option Tm} (hs : SubOK f E1.ρ E2.ρ) : ∀ {l : List Fact} {gs : List Goal},
    chkFs σ1 σ.no f l = some gs → (∀ g ∈ gs, g.ok) → ∀ x ∈ l, x.ok C1 E2 := by
  intro l
  induction l with
  | nil => intro gs _ _ x hx; cases hx
  | cons y r ih =>
    intro gs h hg x hx
    simp only [chkFs] at h
    split at h
    · rename_i g g' e1 e2 e3
      cases h
      rcases List.mem_cons.1 hx with rfl | hx
      · exact chkF_ok h0 h1 hE hE2 hs e1 e2 fun q hq => hg q (List.mem_append_left _ hq)
      · exact ih e3 (fun q hq => hg q (List.mem_append_right _ hq)) x hx
    · cases h
def chkI (σ1 : St) (f : Nat → Option Tm) : List Hy → Option (List Goal)
  | [] => some []
  | h :: r => match h.subst f, chkI σ1 f r with | some g, some l => some (⟨σ1.hy, g⟩ :: l) | _, _ => none
theorem chkI_ok {C1 : Cx} {E1 E2 : Ev} {σ1 : St} {a1 : Act} {w1 : World} (h1 : Inv C1 E1 σ1 a1 w1) {f : Nat → Option Tm} (hs : SubOK f E1.ρ E2.ρ) : ∀ {l : List Hy} {gs : List Goal},
    chkI σ1 f l = some gs → (∀ g ∈ gs, g.ok) → ∀ x ∈ l, x.dfd E2.ρ ∧ x.holds (tot E2.ρ) := by
  intro l
  induction l with
  | nil => intro gs _ _ x hx; cases hx
  | cons y r ih =>
    intro gs h hg x hx
    simp only [chkI] at h
    split at h
    · rename_i g g' e1 e2
      cases h
      rcases List.mem_cons.1 hx with rfl | hx
      · obtain ⟨q1, q2⟩ := subst_hy hs e1
        exact ⟨q1, q2.1 (hg _ (List.mem_cons_self ..) (tot E1.ρ) fun h hh => (h1.hy h hh).2)⟩
      · exact ih e2 (fun q hq => hg q (List.mem_cons_of_mem _ hq)) x hx
    · cases h
theorem ev_len {ρ ρ' : List Int} (h : ρ.length = ρ'.length) : ∀ {t : Tm} {x : Int}, t.ev ρ' = some x → ∃ y, t.ev ρ = some y := by
  intro t
  induction t with
  | c n => intro x _; exact ⟨n, rfl⟩
  | s i => intro x hx; have := (List.getElem?_eq_some_iff.1 hx).1; exact ⟨ρ[i], List.getElem?_eq_getElem (by omega)⟩
  | add a b iha ihb | sub a b iha ihb | mul a b iha ihb =>
    intro x hx
    simp only [Tm.ev] at hx ⊢
    split at hx
    · rename_i u v hu hv
      obtain ⟨y, hy⟩ := iha hu
      obtain ⟨z, hz⟩ := ihb hv
      exact ⟨_, by rw [hy, hz]⟩
    · cases hx
structure Tmpl where
  sk : Tr (Option SV)
  l : List SV
  m : List (List SV)
  τ : St
def ltAll (n : Nat) : List (Nat × DT) → Bool
  | [] => true
  | (i, _) :: r => Nat.blt i n && ltAll n r
theorem ltAll_mem {n : Nat} {l : List (Nat × DT)} (h : ltAll n l = true) : ∀ p ∈ l, p.1 < n := by
  induction l with
  | nil => intro p hp; cases hp
  | cons x r ih =>
    obtain ⟨i, t⟩ := x
    simp only [ltAll, Bool.and_eq_true] at h
    intro p hp
    rcases List.mem_cons.1 hp with rfl | hp
    · simpa using h.1
    · exact ih h.2 p hp
noncomputable def tmpl (sp : LSpec) (σ : St) : Option Tmpl :=
  match scAll σ.ns sp.slots && (scAll σ.ns sp.blks && ltAll σ.hp.length sp.blks), killS sp.kill σ.sl with
  | true, some sl => (match frS sp.slots (reAdd σ.hp 0 (sp.blks.map Prod.fst) { σ with sl := sl, hp := σ.hp.map fun _ => .gone }) with
    | some (l, σ2) => (match frB sp.blks σ2 with
      | some (m, σ3) => some ⟨sl, l, m, { σ3 with hy := sp.inv ++ σ3.hy, fa := sp.facts ++ σ3.fa }⟩
      | none => none)
    | none => none)
  | _, _ => none
noncomputable def land (sp : LSpec) (σ : St) (tm : Tmpl) (σ1 : St) : Option (List Goal × (Nat → Option Tm)) :=
  match sameT tm.sk σ1.sl && (Nat.beq σ1.nt σ.nt && sameB σ.hp 0 (sp.blks.map Prod.fst) σ1.hp), chkS σ1 sp.slots tm.l, chkB σ1 sp.blks tm.m with
  | true, some (g1, s1), some (g2, s2) =>
    (match chkI σ1 (sbF σ.ns (s1 ++ s2)) sp.inv, chkFs σ1 σ.no (sbF σ.ns (s1 ++ s2)) sp.facts with
     | some g3, some g4 => some (g1 ++ (g2 ++ (g3 ++ g4)), sbF σ.ns (s1 ++ s2))
     | _, _ => none)
  | _, _, _ => none
theorem land_ok {C0 C1 : Cx} {E0 E1 : Ev} {σ σ1 : St} {a0 a1 : Act} {w0 w1 : World} (h0 : Inv C0 E0 σ a0 w0) (hC : C0.le C1) (hE : E0.le E1) (h1 : Inv C1 E1 σ1 a1 w1)
    {sp : LSpec} {tm : Tmpl} {gs : List Goal} {f : Nat → Option Tm} (ht : tmpl sp σ = some tm) (hl : land sp σ tm σ1 = some (gs, f)) (hg : ∀ g ∈ gs, g.ok) :
    ∃ E2, E0.le E2 ∧ Inv C1 E2 tm.τ a1 w1 ∧ SubOK f E1.ρ E2.ρ := by
  unfold tmpl at ht
  split at ht
  · rename_i sl hsc hk
    simp only [Bool.and_eq_true] at hsc
    split at ht
    · rename_i l σ2 hfr
      split at ht
      · rename_i m σ3 hfb
        cases ht
        unfold land at hl
        split at hl
        · rename_i g1 s1 g2 s2 hsame hcs hcb
          simp only [Bool.and_eq_true] at hsame
          split at hl
          · rename_i g3 g4 hci hcf
            cases hl
            have hb := base_inv h0 hC hE h1 hk hsame.1 hsame.2.1
            obtain ⟨Ea, a1', a2'⟩ := reAdd_inv h0 hC hE h1 (sk := sp.blks.map Prod.fst) (l := σ.hp) (i := 0) (fun j x hj => by rw [Nat.zero_add]; exact hj) hsame.2.2 (.refl _) hb
            obtain ⟨Eb, b1, b2, b3⟩ := frS_ok h1 hE hfr hcs (fun q hq => hg q (List.mem_append_left _ hq)) (by rw [h0.ns]; exact hsc.1) a1' a2'
            obtain ⟨Ec, c1, c2, c3⟩ := frB_ok h0 h1 hE hfb hcb (fun q hq => hg q (List.mem_append_right _ (List.mem_append_left _ hq))) (by rw [h0.ns]; exact hsc.2.1) (ltAll_mem hsc.2.2) (a1'.trans b1) b2
            have hle : E0.le Ec := a1'.trans (b1.trans c1)
            have hsb : SubL (s1 ++ s2) E1.ρ Ec.ρ := fun p hp => by
              rcases List.mem_append.1 hp with hp | hp
              · obtain ⟨q, hq⟩ := c1.ρ
                rw [hq]; exact subL_grow b3 p hp
              · exact c3 p hp
            have hsub : SubOK (sbF σ.ns (s1 ++ s2)) E1.ρ Ec.ρ := by rw [← h0.ns]; exact sbF_ok hE.ρ hle.ρ hsb
            have hi := chkI_ok h1 hsub hci fun q hq => hg q (List.mem_append_right _ (List.mem_append_right _ (List.mem_append_left _ hq)))
            have hf := chkFs_ok h0 h1 hE hle hsub hcf fun q hq => hg q (List.mem_append_right _ (List.mem_append_right _ (List.mem_append_right _ hq)))
            refine ⟨Ec, hle, ⟨c2.wt, fun x hx => ?_, c2.ns, c2.no, c2.nb, c2.nt, c2.sl, c2.hp, c2.inj, c2.lt, fun x hx => ?_, c2.rd, c2.dfr⟩, hsub⟩
            · rcases List.mem_append.1 hx with hx | hx
              · exact hi x hx
              · exact c2.hy x hx
            · rcases List.mem_append.1 hx with hx | hx
              · exact hf x hx
              · exact c2.fa x hx
          · cases hl
        · cases hl
      · cases ht
    · cases ht
  · cases ht
/-- Back at the head. -/
noncomputable def back (sp : LSpec) (σ : St) (tm : Tmpl) (σ1 : St) : Option (List Goal) :=
  match land sp σ tm σ1 with
  | some (gs, f) => (match sp.meas.subst f with
    | some m => some (⟨σ1.hy, .and (.lt m sp.meas) (.lt (.c 0) sp.meas)⟩ :: gs)
    | none => none)
  | none => none
noncomputable def first (sp : LSpec) (σ : St) (tm : Tmpl) : Option (List Goal) :=
  match land sp σ tm σ with
  | some (gs, f) => (match sp.meas.subst f with | some _ => some gs | none => none)
  | none => none
theorem loop_ok {P : Program} {c : Code} {σ : St} {sp : LSpec} {tm : Tmpl} {g0 : List Goal} {o1 outs : COuts} (ht : tmpl sp σ = some tm) (h0 : first sp σ tm = some g0) (hg0 : ∀ g ∈ g0, g.ok) (body : CodeOK P c tm.τ o1)
    (exits : ∀ x σ1, (x, σ1) ∈ o1 → match x with
      | .normal => ∃ g1, back sp σ tm σ1 = some g1 ∧ ∀ g ∈ g1, g.ok
      | x => (x, σ1) ∈ outs) : CodeOK P (.loop c) σ outs := by
  refine code_loop (τ := tm.τ) sp.meas (fun C E a w hi => ?_) body fun x σ1 hx => ?_
  · unfold first at h0
    split at h0
    · rename_i gs f hl
      split at h0
      · rename_i m hm
        cases h0
        obtain ⟨E2, e1, e2, e3⟩ := land_ok hi (.refl _) (.refl _) hi ht hl hg0
        obtain ⟨v, _, q⟩ := subst_ev e3 hm
        exact ⟨E2, v, e1, e2, q⟩
      · cases h0
    · cases h0
  · have := exits x σ1 hx
    cases x with
    | normal =>
      obtain ⟨g1, hb, hg⟩ := this
      unfold back at hb
      split at hb
      · rename_i gs f hl
        split at hb
        · rename_i m hm
          cases hb
          intro C0 E0 a0 w0 hi0 C E a w hC hE hi C1 E1 a1 w1 hC1 hE1 hi1
          obtain ⟨E2, e1, e2, e3⟩ := land_ok hi0 (hC.trans hC1) (hE.trans hE1) hi1 ht hl fun q hq => hg q (List.mem_cons_of_mem _ hq)
          obtain ⟨v, q1, q2⟩ := subst_ev e3 hm
          have hgm := hg _ (List.mem_cons_self ..) (tot E1.ρ) fun h hh => (hi1.hy h hh).2
          have hmk : ∃ k, sp.meas.ev E.ρ = some k := by
            have hlen : E.ρ.length = E2.ρ.length := by rw [hi.ns, e2.ns]
            exact ev_len hlen q2
          obtain ⟨k, hk⟩ := hmk
          have hk1 : sp.meas.ev E1.ρ = some k := by obtain ⟨l, hl'⟩ := hE1.ρ; rw [hl']; exact ev_grow hk
          simp only [Hy.holds, Tm.val, ev_val q1, ev_val hk1] at hgm
          exact ⟨E2, k, v, e1, e2, hk, q2, hgm.1, hgm.2⟩
        · cases hb
      · cases hb
    | _ => exact this
end Go.Vg
/- Regions that draw: what is held is read first. -/
namespace Go.Vg
open Go Go.RowKit Go.Hs Go.Ty Go.Ex
def verOf : TO → Option Nat
  | .cells ver _ => some ver
  | .uni ver _ _ => some ver
  | _ => none
/-- The elder memory is as it was; the held blocks' cells, too. -/
def Held (C : Cx) (E : Ev) (hpH : List TO) (w : World) : Prop :=
  Below C.w0.heap.size C.w0 w ∧ ∀ (i : Nat) (x : TO) (ver b : Nat), hpH[i]? = some x → verOf x = some ver → E.b[i]? = some b → ∃ (cs : Array Value) (e : TypeId), E.o[ver]? = some (.agg cs) ∧ w.heap[b]? = some (Obj.cells cs e)
def ScH (E : Ev) (hpH : List TO) : Prop := ∀ (i : Nat) x ver, hpH[i]? = some x → verOf x = some ver → i < E.b.length ∧ ver < E.o.length
def verEq : Option Nat → Option TO → Bool
  | none, _ => true
  | some v, some y => (match verOf y with | some u => Nat.beq v u | none => false)
  | some _, none => false
def sameV : List TO → List TO → Bool
  | [], _ => true
  | x :: l, m => verEq (verOf x) m.head? && sameV l m.tail
theorem sameV_get : ∀ {l m : List TO}, sameV l m = true → ∀ {i : Nat} {x : TO} {v : Nat}, l[i]? = some x → verOf x = some v → ∃ y, m[i]? = some y ∧ verOf y = some v := by
  intro l
  induction l with
  | nil => intro m _ i x v h; simp at h
  | cons z l ih =>
    intro m h i x v hi hv
    unfold sameV at h
    rw [Bool.and_eq_true] at h
    cases i with
    | zero =>
      simp at hi; subst hi
      have h1 := h.1
      rw [hv] at h1
      cases m with
      | nil => simp [verEq] at h1
      | cons y m =>
        simp only [List.head?_cons, verEq] at h1
        split at h1
        · rename_i u hu
          exact ⟨y, rfl, by rw [hu, Nat.eq_of_beq_eq_true h1]⟩
        · cases h1
    | succ i =>
      obtain ⟨y, q1, q2⟩ := ih h.2 (i := i) (by simpa using hi) hv
      cases m with
      | nil => simp at q1
      | cons y' m => exact ⟨y, by simpa using q1, q2⟩
theorem tin_ver {C : Cx} {E : Ev} {ob : Obj} {x : TO} {ver : Nat} (h : TIn C E ob x) (hv : verOf x = some ver) : ∃ (cs : Array Value) (e : TypeId), ob = .cells cs e ∧ E.o[ver]? = some (.agg cs) := by
  cases x <;> simp only [verOf, Option.some.injEq, reduceCtorEq] at hv
  · subst hv
    cases ob <;> first | exact h.elim | skip
    obtain ⟨rfl, h1, _⟩ := h
    exact ⟨_, _, rfl, h1⟩
  · subst hv
    cases ob <;> first | exact h.elim | skip
    obtain ⟨rfl, h1, _⟩ := h
    exact ⟨_, _, rfl, h1⟩
theorem verOf_gone {x : TO} {v : Nat} (h : verOf x = some v) : x ≠ .gone := by rintro rfl; cases h
theorem held_inv {Cs C : Cx} {Es E : Ev} {σ : St} {a : Act} {w : World} (h : Inv C E σ a w) (hC : Cs.le C) (hE : Es.le E) {hpH : List TO} (hs : ScH Es hpH) (hv : sameV hpH σ.hp = true) : Held Cs Es hpH w := by
  refine ⟨by rw [← hC.w0]; exact h.wt.below, fun i x ver b hx hver hb => ?_⟩
  obtain ⟨y, q1, q2⟩ := sameV_get hv hx hver
  obtain ⟨b', ob, p1, p2, p3, p4, p5, p6⟩ := h.hp i y q1 (verOf_gone q2)
  have := get_det hE.b hb p1
  subst this
  obtain ⟨cs, e, rfl, r2⟩ := tin_ver p6 q2
  refine ⟨cs, e, ?_, p5⟩
  obtain ⟨l, hl⟩ := hE.o
  rw [hl, List.getElem?_append_left (hs i x ver hx hver).2] at r2
  exact r2
theorem held_up {Cs C : Cx} {Es E : Ev} {hpH : List TO} {w : World} (h : Held Cs Es hpH w) (hC : Cs.le C) (hE : Es.le E) (hs : ScH Es hpH) : Held C E hpH w := by
  refine ⟨by rw [hC.w0]; exact h.1, fun i x ver b hx hver hb => ?_⟩
  obtain ⟨l, hl⟩ := hE.b
  rw [hl, List.getElem?_append_left (hs i x ver hx hver).1] at hb
  obtain ⟨cs, e, h1, h2⟩ := h.2 i x ver b hx hver hb
  obtain ⟨m, hm⟩ := hE.o
  exact ⟨cs, e, by rw [hm]; exact getg h1, h2⟩
/-- The same value wherever the held cells are as they were. -/
def HeldOK (P : Program) (hpH : List TO) (o : Oper) (σ : St) (s : SV) (σ' : St) : Prop :=
  ∀ C E a w, Inv C E σ a w → ∃ v, (∀ w', Held C E hpH w' → (execOp a.eval o).run P w' = .ok (.value v) w') ∧ ∃ E', E.le E' ∧ Inv C E' σ' a w ∧ Den C E' s v
theorem QuietOK.held {P : Program} {hpH : List TO} {o : Oper} {σ : St} {s : SV} (h : QuietOK P o σ s) : HeldOK P hpH o σ s σ :=
  fun C E a w hi => let ⟨v, h1, h2⟩ := h C E a w hi; ⟨v, fun w' _ => h1 w', E, .refl _, hi, h2⟩
def AnyH (P : Program) (ops : Array Oper) (hpH : List TO) (fuel : Nat) (listed : Array Bool) (σ : St) (outs : List St) : Prop :=
  ∀ C E a w, Inv C E σ a w → ∀ (Q : Exit → Act → World → Prop), Lets Q →
    (∀ σ', σ' ∈ outs → ∀ C' E' a' w', C.le C' → E.le E' → Inv C' E' σ' a' w' → Q .normal a' w') →
    ∀ Cs Es, Cs.le C → Es.le E → ScH Es hpH → Held Cs Es hpH w → wpAnyH P .any ops (noPanic Q) (Held Cs Es hpH) fuel listed a w
section
variable {P : Program} {ops : Array Oper} {hpH : List TO} {fuel : Nat} {listed : Array Bool} {σ : St}
theorem anyH_done (hr : Region.ready .any ops listed = []) : AnyH P ops hpH fuel listed σ [σ] := fun C E a w hi Q _ h _ _ _ _ _ _ =>
  wpAnyH_done (Q := noPanic Q) hr (h σ (List.mem_cons_self ..) C E a w (.refl _) (.refl _) hi) fuel
theorem anyH_take {i : Nat} {o : Oper} {s : SV} {σ1 σ2 : St} {outs : List St} (hi : ops[i]? = some o) (hs : Region.noSelect ops = true) (hf : Region.free .any ops listed i = true) (hr : (Region.ready .any ops listed).contains i = true)
    (hw : wantS ops σ o = some true) (hq : HeldOK P hpH o σ s σ1) (hp : putS σ1 o.dst (some s) = some σ2) (h : AnyH P ops hpH fuel (listed.setIfInBounds i true) σ2 outs) : AnyH P ops hpH (fuel + 1) listed σ outs := fun C E a w hinv Q hl hq2 Cs Es hC hE hsc hS => by
  obtain ⟨v, h1, E', h2, h3, h4⟩ := hq C E a w hinv
  exact wpAnyH_take hi hs hf hr (fun c a w hx => hx) (.inl ⟨wantS_ok hinv hw, fun w' hw' => h1 w' (held_up hw' hC hE hsc)⟩) hS
    (h C E' _ w (put_inv h3 hp fun s' e => by cases e; exact h4) Q hl (fun x hx C2 E2 a2 w2 hC2 hE2 hi2 => hq2 x hx C2 E2 a2 w2 hC2 (h2.trans hE2) hi2) Cs Es hC (hE.trans h2) hsc hS)
theorem anyH_skip {i : Nat} {o : Oper} {σ2 : St} {outs : List St} (hi : ops[i]? = some o) (hs : Region.noSelect ops = true) (hf : Region.free .any ops listed i = true) (hr : (Region.ready .any ops listed).contains i = true)
    (hw : wantS ops σ o = some false) (hp : putS σ o.dst none = some σ2) (h : AnyH P ops hpH fuel (listed.setIfInBounds i true) σ2 outs) : AnyH P ops hpH (fuel + 1) listed σ outs := fun C E a w hinv Q hl hq2 Cs Es hC hE hsc hS =>
  wpAnyH_take hi hs hf hr (fun c a w hx => hx) (.inr ⟨wantS_ok hinv hw, rfl⟩) hS (h C E _ w (put_inv hinv hp fun s' e => by cases e) Q hl hq2 Cs Es hC hE hsc hS)
theorem anyH_all {rs : List Nat} {outs : List St} (hr : Region.ready .any ops listed = rs) (hne : rs ≠ [])
    (h : ∀ i ∈ rs, ∃ o os, ops[i]? = some o ∧ wantS ops σ o = some true ∧ OpOK P o σ os ∧ ∀ s σ', (s, σ') ∈ os → ∃ σ2 o2, putS σ' o.dst (some s) = some σ2 ∧ sameV hpH σ2.hp = true ∧ AnyH P ops hpH fuel (listed.setIfInBounds i true) σ2 o2 ∧ ∀ x ∈ o2, x ∈ outs) :
    AnyH P ops hpH (fuel + 1) listed σ outs := fun C E a w hinv Q hl hq2 Cs Es hC hE hsc hS => by
  refine wpAnyH_all hr hne fun i hi => ?_
  obtain ⟨o, os, h1, h2, h3, h4⟩ := h i hi
  unfold wpOp
  rw [h1]
  show if _ then _ else _
  rw [if_pos (wantS_ok hinv h2)]
  refine h3 C E a w hinv _ (noPanic Q) hl fun s σ' hs C' E' v w' hC' hE' hi' hd => ?_
  obtain ⟨σ2, o2, hp, hv, h5, h6⟩ := h4 s σ' hs
  have hi2 := put_inv hi' hp fun s' e => by cases e; exact hd
  have hS2 := held_inv hi2 (hC.trans hC') (hE.trans hE') hsc hv
  exact ⟨hS2, h5 C' E' _ w' hi2 Q hl (fun x hx C2 E2 a2 w2 hC2 hE2 hi2 => hq2 x (h6 x hx) C2 E2 a2 w2 (hC'.trans hC2) (hE'.trans hE2) hi2) Cs Es (hC.trans hC') (hE.trans hE') hsc hS2⟩
/-- Both ways of a comparison that lies in a slot. -/
noncomputable def forkS (d : Nat) (k : Hy) (b : Bool) (σ : St) : Option St := setK σ.sl d (some (.bool b)) (fun t => some { assume (match b with | true => k | false => k.neg) σ with sl := t }) none
theorem fork_inv {C : Cx} {E : Ev} {σ σ1 σ2 : St} {a : Act} {w : World} (hi : Inv C E σ a w) {d : Nat} {k : Hy} (hs : get σ.sl d = some (some (.cmp k))) (h1 : forkS d k true σ = some σ1) (h2 : forkS d k false σ = some σ2) : Inv C E σ1 a w ∨ Inv C E σ2 a w := by
  obtain ⟨v, hv, hd⟩ := hi.sl d _ hs
  simp only [Den] at hd
  obtain ⟨b, rfl, hdf, hb⟩ := hd
  have keep : ∀ (b' : Bool) (σ' σ'' : St), Inv C E σ' a w → σ'.sl = σ.sl → b = b' → setK σ.sl d (some (.bool b')) (fun t => some { σ' with sl := t }) none = some σ'' → Inv C E σ'' a w := fun b' σ' σ'' hi' hsl hbb hset => by
    obtain ⟨t', ht', hr⟩ := setK_spec hset (by simp)
    cases hr
    exact know_inv (s := .bool b') hi' hv (by simp only [Den]; rw [hbb]) (by rw [hsl]; exact ht') rfl
  cases hbv : b with
  | true => exact .inl (keep true _ _ (assume_inv hi hdf (hb.1 hbv)) rfl hbv h1)
  | false => exact .inr (keep false _ _ (assume_inv hi (neg_dfd hdf) ((neg_holds k).2 fun hk => by rw [hb.2 hk] at hbv; cases hbv)) rfl hbv h2)
theorem anyH_fork {σ1 σ2 : St} {d : Nat} {k : Hy} {outs : List St} (hs : get σ.sl d = some (some (.cmp k))) (h1 : forkS d k true σ = some σ1) (h2 : forkS d k false σ = some σ2)
    (ht : AnyH P ops hpH fuel listed σ1 outs) (hf : AnyH P ops hpH fuel listed σ2 outs) : AnyH P ops hpH fuel listed σ outs := fun C E a w hi Q hl hq Cs Es hC hE hsc hS => by
  rcases fork_inv hi hs h1 h2 with h | h
  · exact ht C E a w h Q hl hq Cs Es hC hE hsc hS
  · exact hf C E a w h Q hl hq Cs Es hC hE hsc hS
theorem list_fork' {l : List Oper} {σ1 σ2 : St} {d : Nat} {k : Hy} {outs : List St} (hs : get σ.sl d = some (some (.cmp k))) (h1 : forkS d k true σ = some σ1) (h2 : forkS d k false σ = some σ2)
    (ht : ListOK P ops l σ1 outs) (hf : ListOK P ops l σ2 outs) : ListOK P ops l σ outs := fun C E a w hi Q hl hq => by
  rcases fork_inv hi hs h1 h2 with h | h
  · exact ht C E a w h Q hl hq
  · exact hf C E a w h Q hl hq
theorem AnyH.weaken {o1 o2 : List St} (h : AnyH P ops hpH fuel listed σ o1) (hs : ∀ x ∈ o1, x ∈ o2) : AnyH P ops hpH fuel listed σ o2 :=
  fun C E a w hi Q hl hq Cs Es hC hE hsc hS => h C E a w hi Q hl (fun x hx => hq x (hs x hx)) Cs Es hC hE hsc hS
theorem ListOK.weaken {l : List Oper} {o1 o2 : List St} (h : ListOK P ops l σ o1) (hs : ∀ x ∈ o1, x ∈ o2) : ListOK P ops l σ o2 :=
  fun C E a w hi Q hl hq => h C E a w hi Q hl fun x hx => hq x (hs x hx)
theorem code_drawH {id : Nat} {outs : List St} (hm : P.follows .mixedOrders = true) (hv : sameV hpH σ.hp = true) (_hlen : Nat.ble hpH.length σ.hp.length = true) (h : AnyH P ops hpH ops.size (Array.replicate ops.size false) σ outs) : CodeOK P (.region id ops true) σ (outs.map fun s => (.normal, s)) := fun C E a w hi Q hl hq => by
  have hsc : ScH E hpH := fun i x ver hx hver => by
    obtain ⟨y, q1, q2⟩ := sameV_get hv hx hver
    obtain ⟨b, ob, p1, _, _, _, _, p6⟩ := hi.hp i y q1 (verOf_gone q2)
    obtain ⟨cs, e, _, r2⟩ := tin_ver p6 q2
    exact ⟨(List.getElem?_eq_some_iff.1 p1).1, (List.getElem?_eq_some_iff.1 r2).1⟩
  have hi' := inv_drawn hi (w.drawn + 1)
  refine wp_mono (wp_region_held (S := Held C E hpH) hm (h C E a _ hi' Q hl (fun σ' hs C' E' a' w' hC hE hi' => hq .normal σ' (List.mem_map.2 ⟨σ', hs, rfl⟩) C' E' a' w' hC hE hi') C E (.refl _) (.refl _) hsc (held_inv hi' (.refl _) (.refl _) hsc hv))) fun e a' w' hx => ?_
  cases e with
  | panic c => exact hx.elim
  | _ => exact hx
end
end Go.Vg
/- Reads where blocks are held; arrays of one type. -/
namespace Go.Vg
open Go Go.RowKit Go.Hs Go.Ty Go.Ex
theorem HeldOK.op {P : Program} {o : Oper} {σ σ' : St} {s : SV} (h : HeldOK P σ.hp o σ s σ') : OpOK P o σ [(s, σ')] :=
  opOK_pure fun C E a w hi => by
    have hsc : ScH E σ.hp := fun i x ver hx hver => by
      obtain ⟨b, ob, p1, _, _, _, _, p6⟩ := hi.hp i x hx (verOf_gone hver)
      obtain ⟨cs, e, _, r2⟩ := tin_ver p6 hver
      exact ⟨(List.getElem?_eq_some_iff.1 p1).1, (List.getElem?_eq_some_iff.1 r2).1⟩
    have hh : Held C E σ.hp w := ⟨hi.wt.below, fun i x ver b hx hver hb => by
      obtain ⟨b', ob, p1, p2, p3, p4, p5, p6⟩ := hi.hp i x hx (verOf_gone hver)
      rw [hb] at p1; cases p1
      obtain ⟨cs, e, rfl, r2⟩ := tin_ver p6 hver
      exact ⟨cs, e, r2, p5⟩⟩
    obtain ⟨v, h1, E', h2, h3, h4⟩ := h C E a w hi
    exact ⟨v, s, σ', h1 w hh, List.mem_cons_self .., C, E', .refl _, h2, h3, h4⟩
def heldAt (hpH : List TO) (id ver : Nat) : Bool := match hpH[id]? with
  | some x => (match verOf x with | some v => Nat.beq v ver | none => false)
  | none => false
theorem heldAt_ok {hpH : List TO} {id ver : Nat} (h : heldAt hpH id ver = true) : ∃ x, hpH[id]? = some x ∧ verOf x = some ver := by
  unfold heldAt at h
  split at h
  · rename_i x hx
    split at h
    · rename_i v hv
      exact ⟨x, hx, by rw [hv, Nat.eq_of_beq_eq_true h]⟩
    · cases h
  · cases h
theorem cell_of_row {w : World} {b i : Nat} {cs : Array Value} {e : TypeId} (h : w.heap[b]? = some (Obj.cells cs e)) : w.cell? ⟨b, i, none⟩ = cs[i]? := by simp [World.cell?, h]
section
variable {E0 : Env} (hE0 : EnvOK E0)
include hE0
theorem load_run {o : Oper} {t : TypeId} {x : Operand} {a : Act} {b off : Nat} {i : AInfo} (ho : o.op = .load t x) (hev : a.eval x = .pointer (some ⟨b, off, none⟩)) (hi : inf E0 t = some i) {vs : List Value} (hl : vs.length = i.size)
    {w : World} (hv : ∀ j, j < i.size → w.cell? ⟨b, off + j, none⟩ = vs[j]?) :
    (i.agg = true → (execOp a.eval o).run E0.P w = .ok (.value (.agg vs.toArray)) w) ∧ (i.agg = false → ∀ v, vs = [v] → (execOp a.eval o).run E0.P w = .ok (.value v) w) := by
  obtain ⟨r1, r2⟩ := run_loadVar hE0 hi hl hv
  have key : ∀ v, (loadVar t ⟨b, off, none⟩).run E0.P w = .ok v w → (execOp a.eval o).run E0.P w = .ok (.value v) w := fun v hr => by
    rw [exec_eq ho]
    simp [execOp, hev, Instr.loadAt, sure_addr, hr]
  exact ⟨fun h => key _ (r1 h), fun h v hv => key _ (r2 h v hv)⟩
theorem h_load_tptr {hpH : List TO} {o : Oper} {σ : St} {t : TypeId} {x : Operand} {id off ver : Nat} {l : List SV} {i : AInfo} {s : SV}
    (ho : o.op = .load t x) (hx : evS σ x = some (.tptr id off)) (hb : σ.hp[id]? = some (.cells ver l)) (hh : heldAt hpH id ver = true) (hi : inf E0 t = some i) (hle : off + i.size ≤ l.length) (hp : packS i.agg ((l.drop off).take i.size) = some s) : HeldOK E0.P hpH o σ s σ := by
  intro C E a w hinv
  have h1 := evS_den hinv hx
  simp only [Den] at h1
  obtain ⟨b, hbb, hev⟩ := h1
  obtain ⟨b', ob, q1, q2, q3, q4, q5, q6⟩ := hinv.hp id _ hb (by intro e; cases e)
  rw [hbb] at q1; cases q1
  cases ob <;> first | exact q6.elim | skip
  rename_i cs e fz
  obtain ⟨rfl, hver, q6⟩ := q6
  have hcl := denL_len q6
  have hd : DenL C E ((l.drop off).take i.size) ((cs.toList.drop off).take i.size) := denL_take (denL_drop q6 _) _
  have hlen : ((cs.toList.drop off).take i.size).length = i.size := by simp at hcl ⊢; omega
  obtain ⟨y, hy1, hy2⟩ := heldAt_ok hh
  have hv : ∀ (w' : World), Held C E hpH w' → ∀ j, j < i.size → w'.cell? ⟨b, off + j, none⟩ = ((cs.toList.drop off).take i.size)[j]? := fun w' hw' j hj => by
    obtain ⟨cs', e', r1, r2⟩ := hw'.2 id y ver b hy1 hy2 hbb
    rw [hver] at r1; cases r1
    rw [cell_of_row r2, List.getElem?_take_of_lt hj, List.getElem?_drop, Array.getElem?_toList]
  generalize hus : (cs.toList.drop off).take i.size = us at *
  cases ha : i.agg with
  | true =>
    rw [ha] at hp
    cases hp
    exact ⟨.agg us.toArray, fun w' hw' => (load_run hE0 ho hev hi hlen (hv w' hw')).1 ha, E, .refl _, hinv, by simp only [Den]; exact ⟨us.toArray, rfl, by simpa using hd⟩⟩
  | false =>
    rw [ha] at hp
    unfold packS at hp
    split at hp
    · rename_i h0; cases h0
    · split at hp
      · rename_i hs
        cases hp
        rw [hs] at hd
        simp only [DenL] at hd
        obtain ⟨v, r, rfl, h1, rfl⟩ := hd
        exact ⟨v, fun w' hw' => (load_run hE0 ho hev hi hlen (hv w' hw')).2 ha v rfl, E, .refl _, hinv, h1⟩
      · cases hp
/-- A read of the elder memory. -/
theorem load_old {hpH : List TO} {o : Oper} {σ σ' : St} {t : TypeId} {x : Operand} {d : DT} {i : AInfo} {l : List SV} {s : SV}
    (ho : o.op = .load t x) (hi : inf E0 t = some i) (hs : d.size = i.size) (hf : freshOf σ d = some (l, σ')) (hp : packS i.agg l = some s) {C : Cx} {E : Ev} {a : Act} {w : World} (hinv : Inv C E σ a w)
    {u : T} {b off : Nat} (hu : d.inst E.ρ = some u) (hev : a.eval x = .pointer (some ⟨b, off, none⟩)) (hpl : Place C .old u b off) :
    ∃ v, (∀ w', Held C E hpH w' → (execOp a.eval o).run E0.P w' = .ok (.value v) w') ∧ ∃ E', E.le E' ∧ Inv C E' σ' a w ∧ Den C E' s v ∧ b < C.w0.heap.size ∧ ∃ vs, DenL C E' l vs ∧ vs.length = u.size ∧ ∀ j, j < vs.length → C.w0.cell? ⟨b, off + j, none⟩ = vs[j]? := by
  rcases hpl with ⟨h, _⟩ | ⟨_, hb, hat⟩
  · exact absurd rfl h
  obtain ⟨E', hle, hinv', vs, hden, hlen, hrd⟩ := fresh_den hinv hu hat hf
  have hsz : u.size = i.size := (inst_size hu).trans hs
  have hl : vs.length = i.size := hlen.trans hsz
  have hv : ∀ (w' : World), Held C E hpH w' → ∀ j, j < i.size → w'.cell? ⟨b, off + j, none⟩ = vs[j]? := fun w' hw' j hj => by
    rw [← hrd j (by omega)]
    exact World.cell?_of_block (a := ⟨b, off + j, none⟩) (hw'.1.block b hb)
  have hrest : ∃ vs, DenL C E' l vs ∧ vs.length = u.size ∧ ∀ j, j < vs.length → C.w0.cell? ⟨b, off + j, none⟩ = vs[j]? := ⟨vs, hden, hlen, fun j hj => hrd j (by omega)⟩
  cases ha : i.agg with
  | true =>
    rw [ha] at hp
    cases hp
    exact ⟨.agg vs.toArray, fun w' hw' => (load_run hE0 ho hev hi hl (hv w' hw')).1 ha, E', hle, hinv', by simp only [Den]; exact ⟨vs.toArray, rfl, by simpa using hden⟩, hb, hrest⟩
  | false =>
    rw [ha] at hp
    unfold packS at hp
    split at hp
    · rename_i h0; cases h0
    · split at hp
      · cases hp
        have hden0 := hden
        simp only [DenL] at hden
        obtain ⟨v, r, rfl, h1, rfl⟩ := hden
        exact ⟨v, fun w' hw' => (load_run hE0 ho hev hi hl (hv w' hw')).2 ha v rfl, E', hle, hinv', h1, hb, hrest⟩
      · cases hp
theorem h_load_old {hpH : List TO} {o : Oper} {σ σ' : St} {t : TypeId} {x : Operand} {d : DT} {i : AInfo} {l : List SV} {s : SV}
    (ho : o.op = .load t x) (hx : evS σ x = some (.elt .old d)) (hi : inf E0 t = some i) (hs : d.size = i.size) (hf : freshOf σ d = some (l, σ')) (hp : packS i.agg l = some s) : HeldOK E0.P hpH o σ s σ' := by
  intro C E a w hinv
  have h1 := evS_den hinv hx
  simp only [Den] at h1
  obtain ⟨u, b, off, hu, hev, hpl⟩ := h1
  obtain ⟨v, q1, E', q2, q3, q4, _⟩ := load_old hE0 (hpH := hpH) ho hi hs hf hp hinv hu hev hpl
  exact ⟨v, q1, E', q2, q3, q4⟩
/-- .. that is remembered. -/
theorem h_load_eli {hpH : List TO} {o : Oper} {σ σ' : St} {t : TypeId} {x : Operand} {d : DT} {id : Nat} {ix : Tm} {i : AInfo} {l : List SV} {s : SV}
    (ho : o.op = .load t x) (hx : evS σ x = some (.eli id ix .old d)) (hi : inf E0 t = some i) (hs : d.size = i.size) (hf : freshOf σ d = some (l, σ')) (hp : packS i.agg l = some s) : HeldOK E0.P hpH o σ s { σ' with rd := ⟨id, ix, l⟩ :: σ'.rd } := by
  intro C E a w hinv
  have h1 := evS_den hinv hx
  simp only [Den] at h1
  obtain ⟨u, b, off, n, c, q, hu, hid, hix, hqn, hev, hpl⟩ := h1
  obtain ⟨v, q1, E', q2, q3, q4, q5, vs, q6, q7, q8⟩ := load_old hE0 (hpH := hpH) ho hi hs hf hp hinv hu hev hpl
  refine ⟨v, q1, E', q2, ⟨q3.wt, q3.hy, q3.ns, q3.no, q3.nb, q3.nt, q3.sl, q3.hp, q3.inj, q3.lt, q3.fa, fun r hr => ?_, q3.dfr⟩, q4⟩
  rcases List.mem_cons.1 hr with rfl | hr
  · obtain ⟨p, hp'⟩ := q2.o
    obtain ⟨p2, hp2⟩ := q2.ρ
    exact ⟨b, off, n, c, q, vs, by rw [hp']; exact getg hid, by rw [hp2]; exact ev_grow hix, hqn, q5, q6, by rw [q7] at q8 ⊢; exact q8⟩
  · exact q3.rd r hr
end
end Go.Vg
/- Arrays of one type. -/
namespace Go.Vg
open Go Go.RowKit Go.Hs Go.Ty Go.Ex
theorem rep_one {C : Cx} {u : T} {n : Nat} {cs : Array Value} (h : At C (.rep n u) (fun j => cs[j]?)) (hu : u.size = 1) {i : Nat} (hi : i < n) : At C u (fun j => cs[i + j]?) := by
  have := h i hi
  simp only [hu, Nat.mul_one] at this
  exact this
theorem rep_cells {C : Cx} {n : Nat} {u : T} {cs : Array Value} (hs : cs.size = n * u.size) (h : At C (.rep n u) (fun j => cs[j]?)) : ∀ v ∈ cs.toList, v.oneCell' = true := by
  intro v hv
  obtain ⟨i, hi⟩ := List.mem_iff_getElem?.1 hv
  have hil := (List.getElem?_eq_some_iff.1 hi).1
  obtain ⟨t, ht⟩ := (cell_some (.rep n u) i).1 (by simp only [T.size]; simp at hil; omega)
  obtain ⟨v', h1, h2⟩ := (at_cells (.rep n u) _).1 h i t ht
  rw [Array.getElem?_toList] at hi
  rw [hi] at h1; cases h1
  exact at_oneCell (cell_leaf _ _ _ ht) h2
theorem new_uni {C : Cx} {E : Ev} {σ : St} {a : Act} {w : World} (h : Inv C E σ a w) {d : DT} {u : T} {n : Nat} {cs : Array Value} (hu : d.inst E.ρ = some u) (hs : cs.size = n * u.size) (hat : At C (.rep n u) (fun j => cs[j]?)) (t : TypeId) :
    ∃ E', E.le E' ∧ Inv C E' (addB { σ with no := σ.no + 1 } (.uni σ.no d n)) a (w.alloc (.cells cs t)) ∧ E'.b[σ.hp.length]? = some w.heap.size := by
  obtain ⟨f1, f2, f3⟩ := id_inv h (.agg cs)
  obtain ⟨e1, e2, e3⟩ := new_inv f2 (x0 := .uni σ.no d n) (ob := .cells cs t) ⟨rfl, f3, u, hu, hs, hat⟩
  exact ⟨_, f1.trans e1, e2, e3⟩
section
variable {E0 : Env} (hE0 : EnvOK E0)
include hE0
theorem op_alloc_uni {o : Oper} {σ : St} {t : TypeId} {i : AInfo} {n : Nat} {v : Value} {s : SV} {d : DT} {gs : List Goal} (ho : o.op = .alloc t) (hi : inf E0 t = some i) (hr : i.runs = [(n, v)]) (hs : ofScal v = some s) (hf : fit1 σ d s = some gs) (hg : ∀ g ∈ gs, g.ok)
    (hdi : d.sc σ.ns = true) : OpOK E0.P o σ [(.tptr σ.hp.length 0, addB { σ with no := σ.no + 1 } (.uni σ.no d n))] := by
  refine opOK_step fun C E a w hinv => ?_
  obtain ⟨ti, z, dd, hio, _, _⟩ := inf_ok hE0 hi
  obtain ⟨u, hu⟩ := inst_of_inv hinv hdi
  obtain ⟨hl, hat⟩ := fit1_ok hinv.kn hf hg hu (ofScal_den (C := C) (E := E) hs)
  have hz : z.cells.toList = List.replicate n v := by rw [← hio.runs, hr]; simp [rexpand]
  have hsz : z.cells.size = n * u.size := by rw [leaf_size hl, ← Array.length_toList, hz]; simp
  have hrep : At C (.rep n u) (fun j => z.cells[j]?) := fun k hk => by
    refine (at_one hl ?_).2 hat
    show z.cells[k * u.size + 0]? = some v
    rw [leaf_size hl, ← Array.getElem?_toList, hz]
    simp [hk]
  obtain ⟨E', e1, e2, e3⟩ := new_uni hinv hu hsz hrep t
  refine ⟨.pointer (some ⟨w.heap.size, 0, none⟩), _, _, w.alloc (.cells z.cells t), ?_, List.mem_cons_self .., C, E', .refl _, e1, e2, by simp only [Den]; exact ⟨_, e3, rfl⟩⟩
  rw [exec_eq ho]
  simp only [execOp, Instr.alloc, Sem.run_bind, hio.zeroValue, Result.andThen_ok, newVar_run, Sem.run_pure]
omit hE0 in
theorem op_box_agt {P : Program} {o : Oper} {σ : St} {t : TypeId} {x : Operand} {n : Nat} {d : DT} (ho : o.op = .box t x) (hx : evS σ x = some (.agt (.rep n d))) : OpOK P o σ [(.tptr σ.hp.length 0, addB { σ with no := σ.no + 1 } (.uni σ.no d n))] := by
  refine opOK_step fun C E a w hinv => ?_
  have h1 := evS_den hinv hx
  simp only [Den] at h1
  obtain ⟨u, cs, hu, hev, hs, hat⟩ := h1
  simp only [DT.inst, Option.map_eq_some_iff] at hu
  obtain ⟨u', hu', rfl⟩ := hu
  obtain ⟨E', e1, e2, e3⟩ := new_uni hinv hu' hs hat t
  refine ⟨.pointer (some ⟨w.heap.size, 0, none⟩), _, _, w.alloc (.cells (a.eval x).cells t), ?_, List.mem_cons_self .., C, E', .refl _, e1, by rw [hev]; exact e2, by simp only [Den]; exact ⟨_, e3, rfl⟩⟩
  rw [exec_eq ho]
  simp only [execOp, Instr.box, Sem.run_bind, newVar_run, Result.andThen_ok, Sem.run_pure]
omit hE0 in
theorem uni_of {C : Cx} {E : Ev} {σ : St} {a : Act} {w : World} (h : Inv C E σ a w) {id ver n : Nat} {d : DT} (hx : σ.hp[id]? = some (.uni ver d n)) : ∃ b cs e u, E.b[id]? = some b ∧ C.w0.heap.size ≤ b ∧ w.heap[b]? = some (Obj.cells cs e) ∧ E.o[ver]? = some (.agg cs) ∧ d.inst E.ρ = some u ∧ cs.size = n * u.size ∧ At C (.rep n u) (fun j => cs[j]?) := by
  obtain ⟨b, ob, h1, h2, h3, h4, h5, h6⟩ := h.hp id _ hx (by intro e; cases e)
  cases ob <;> first | exact h6.elim | skip
  obtain ⟨rfl, hv, u, q1, q2, q3⟩ := h6
  exact ⟨b, _, _, u, h1, h2, h5, hv, q1, q2, q3⟩
theorem h_load_uni {hpH : List TO} {o : Oper} {σ : St} {t : TypeId} {x : Operand} {id ver n : Nat} {d : DT} {i : AInfo} (ho : o.op = .load t x) (hx : evS σ x = some (.tptr id 0)) (hb : σ.hp[id]? = some (.uni ver d n)) (hh : heldAt hpH id ver = true)
    (hi : inf E0 t = some i) (ha : i.agg = true) (hs : i.size = n * d.size) : HeldOK E0.P hpH o σ (.agt (.rep n d)) σ := by
  intro C E a w hinv
  have h1 := evS_den hinv hx
  simp only [Den] at h1
  obtain ⟨b, hbb, hev⟩ := h1
  obtain ⟨b', cs, e, u, q1, q2, q3, q4, q5, q6, q7⟩ := uni_of hinv hb
  rw [hbb] at q1; cases q1
  obtain ⟨y, hy1, hy2⟩ := heldAt_ok hh
  refine ⟨.agg cs, fun w' hw' => ?_, E, .refl _, hinv, ?_⟩
  · obtain ⟨cs', e', r1, r2⟩ := hw'.2 id y ver b hy1 hy2 hbb
    rw [q4] at r1; cases r1
    have hl : cs.toList.length = i.size := by rw [hs, ← inst_size q5]; simpa using q6
    have := (load_run hE0 ho hev hi hl (w := w') fun j hj => by rw [cell_of_row r2, Nat.zero_add, Array.getElem?_toList]).1 ha
    simpa using this
  · simp only [Den]
    exact ⟨.rep n u, cs, by simp only [DT.inst, q5]; rfl, rfl, q6, q7⟩
theorem store_run {o : Oper} {t : TypeId} {x y : Operand} {a : Act} {w : World} {b off : Nat} {i : AInfo} {cs : Array Value} {e : TypeId} (ho : o.op = .store t x y) (hev : a.eval x = .pointer (some ⟨b, off, none⟩)) (hi : inf E0 t = some i) (hlen : (a.eval y).cells.size = i.size)
    (q5 : w.heap[b]? = some (Obj.cells cs e)) (hle : off + i.size ≤ cs.size) (hone : ∀ v ∈ (a.eval y).cells.toList, v.oneCell' = true) :
    (execOp a.eval o).run E0.P w = .ok .skip (w.setRow b (cs.toList.take off ++ (a.eval y).cells.toList ++ cs.toList.drop (off + i.size)).toArray) := by
  obtain ⟨ti, z, dd, hio, _, _⟩ := inf_ok hE0 hi
  rw [exec_eq ho]
  simp only [execOp, Instr.storeAt, Sem.run_bind, hev, sure_addr, Result.andThen_ok, storeVar, hio.sizeOf]
  rw [if_neg (by simp [hlen]), run_storeCells_at E0.P b off e _ 0 cs w q5 (by simp; omega) hone]
  have e1 : off + 0 + (a.eval y).cells.toList.length = off + i.size := by simp [hlen]
  rw [e1, Nat.add_zero]
  rfl
theorem op_store_uni {o : Oper} {σ : St} {t : TypeId} {x y : Operand} {id ver n : Nat} {d d' : DT} {i : AInfo} (ho : o.op = .store t x y) (hx : evS σ x = some (.tptr id 0)) (hy : evS σ y = some (.agt (.rep n d'))) (hb : σ.hp[id]? = some (.uni ver d n)) (hi : inf E0 t = some i)
    (hs : i.size = n * d.size) (hs' : i.size = n * d'.size) : OpOK E0.P o σ [(.tup [], { σ with no := σ.no + 1, hp := σ.hp.set id (.uni σ.no d' n) })] := by
  refine opOK_skip fun C E a w hinv => ?_
  have h1 := evS_den hinv hx
  have h2 := evS_den hinv hy
  simp only [Den] at h1 h2
  obtain ⟨b, hbb, hev⟩ := h1
  obtain ⟨u2, cs2, hu2, hev2, hs2, hat2⟩ := h2
  simp only [DT.inst, Option.map_eq_some_iff] at hu2
  obtain ⟨u', hu', rfl⟩ := hu2
  obtain ⟨b', cs, e, u, q1, q2, q3, q4, q5, q6, q7⟩ := uni_of hinv hb
  rw [hbb] at q1; cases q1
  obtain ⟨f1, f2, f3⟩ := id_inv hinv (.agg cs2)
  have hsz : cs.size = i.size := by rw [q6, hs, inst_size q5]
  have hsz2 : cs2.size = i.size := by rw [hs2, hs']; simp only [T.size, inst_size hu']
  have hrun := store_run hE0 ho hev hi (by rw [hev2]; exact hsz2) q3 (by omega) (by rw [hev2]; exact rep_cells (n := n) hs2 hat2)
  have hcs : (cs.toList.take 0 ++ (a.eval y).cells.toList ++ cs.toList.drop (0 + i.size)).toArray = cs2 := by
    rw [hev2, List.drop_of_length_le (by simp; omega)]
    simp [Value.cells]
  rw [hcs] at hrun
  exact ⟨_, hrun, C, _, .refl _, f1, setrow_inv f2 hb (by intro e; cases e) hbb (x1 := .uni _ _ _) q3 ⟨rfl, f3, u', hu', hs2, hat2⟩⟩
theorem q_indexAddr_uni {o : Oper} {σ : St} {t e : TypeId} {x ix : Operand} {id n : Nat} {k : IntKind} {i : Tm} {j : AInfo}
    (ho : o.op = .indexAddr t x ix) (hx : evS σ x = some (.tptr id 0)) (hi : evS σ ix = some (.int k i)) (hu : und E0 t = some (.array n e)) (hj : inf E0 e = some j) (hj1 : j.size = 1)
    (g1 : Goal.ok ⟨σ.hy, .le (.c 0) i⟩) (g2 : Goal.ok ⟨σ.hy, .lt i (.c n)⟩) : QuietOK E0.P o σ (.uptr id n) := by
  intro C E a w hinv
  have h1 := evS_den hinv hx
  have h2 := evS_den hinv hi
  simp only [Den] at h1 h2
  obtain ⟨b, hbb, hev⟩ := h1
  obtain ⟨ii, hii, hiv⟩ := h2
  have hyp : ∀ h ∈ σ.hy, h.holds (tot E.ρ) := fun h hh => (hinv.hy h hh).2
  have a1 := g1 (tot E.ρ) hyp
  have a2 := g2 (tot E.ρ) hyp
  simp only [Hy.holds, ev_val hii, Tm.val] at a1 a2
  obtain ⟨q, rfl⟩ := Int.eq_ofNat_of_zero_le a1
  obtain ⟨tj, zj, dj, hjo, _, _⟩ := inf_ok hE0 hj
  refine ⟨.pointer (some ⟨b, q, none⟩), fun w => ?_, by simp only [Den]; exact ⟨b, q, hbb, by omega, rfl⟩⟩
  rw [exec_eq ho]
  simp only [execOp, Instr.indexAt, hev, hiv, asIntOf, Sem.run_bind, Sem.run_pure, Result.andThen_ok, und_run hE0 hu, sure_addr]
  rw [if_pos (by omega)]
  simp only [Sem.run_bind, hjo.sizeOf, Result.andThen_ok, Sem.run_pure, add_flat, Int.toNat_natCast, hj1, Nat.mul_one, Nat.zero_add]
theorem h_load_uptr {hpH : List TO} {o : Oper} {σ σ' : St} {t : TypeId} {x : Operand} {id ver n : Nat} {d : DT} {i : AInfo} {s : SV} (ho : o.op = .load t x) (hx : evS σ x = some (.uptr id n)) (hb : σ.hp[id]? = some (.uni ver d n)) (hh : heldAt hpH id ver = true)
    (hd1 : d.size = 1) (hi : inf E0 t = some i) (ha : i.agg = false) (hs : i.size = 1) (hf : freshOf σ d = some ([s], σ')) : HeldOK E0.P hpH o σ s σ' := by
  intro C E a w hinv
  have h1 := evS_den hinv hx
  simp only [Den] at h1
  obtain ⟨b, off, hbb, hoff, hev⟩ := h1
  obtain ⟨b', cs, e, u, q1, q2, q3, q4, q5, q6, q7⟩ := uni_of hinv hb
  rw [hbb] at q1; cases q1
  have hu1 : u.size = 1 := (inst_size q5).trans hd1
  obtain ⟨y, hy1, hy2⟩ := heldAt_ok hh
  obtain ⟨E', e1, e2, vs, e3, e4, e5⟩ := fresh_den hinv q5 (rep_one q7 hu1 hoff) hf
  simp only [DenL] at e3
  obtain ⟨v, r, rfl, e6, rfl⟩ := e3
  have hv0 := e5 0 (by omega)
  simp only [Nat.add_zero, List.getElem?_cons_zero] at hv0
  refine ⟨v, fun w' hw' => ?_, E', e1, e2, e6⟩
  obtain ⟨cs', e', r1, r2⟩ := hw'.2 id y ver b hy1 hy2 hbb
  rw [q4] at r1; cases r1
  exact (load_run hE0 ho hev hi (vs := [v]) (by simp [hs]) (w := w') fun j hj => by
    have : j = 0 := by omega
    subst this
    rw [cell_of_row r2, Nat.add_zero, hv0]; rfl).2 ha v rfl
theorem op_store_uptr {o : Oper} {σ : St} {t : TypeId} {x y : Operand} {id ver n : Nat} {d : DT} {i : AInfo} {s : SV} {gs : List Goal} (ho : o.op = .store t x y) (hx : evS σ x = some (.uptr id n)) (hy : evS σ y = some s) (hb : σ.hp[id]? = some (.uni ver d n)) (hi : inf E0 t = some i) (hs : i.size = 1)
    (hf : fit1 σ d s = some gs) (hg : ∀ g ∈ gs, g.ok) : OpOK E0.P o σ [(.tup [], { σ with no := σ.no + 1, hp := σ.hp.set id (.uni σ.no d n) })] := by
  refine opOK_skip fun C E a w hinv => ?_
  have h1 := evS_den hinv hx
  have h2 := evS_den hinv hy
  simp only [Den] at h1
  obtain ⟨b, off, hbb, hoff, hev⟩ := h1
  obtain ⟨b', cs, e, u, q1, q2, q3, q4, q5, q6, q7⟩ := uni_of hinv hb
  rw [hbb] at q1; cases q1
  obtain ⟨hl, hat⟩ := fit1_ok hinv.kn hf hg q5 h2
  have hone := at_oneCell hl hat
  have hcl := cells_one hone
  have hu1 := leaf_size hl
  rw [hu1, Nat.mul_one] at q6
  have hcs1 : (a.eval y).cells.size = 1 := by rw [← Array.length_toList, hcl]; rfl
  have hrun := store_run hE0 ho hev hi (by rw [hs]; exact hcs1) q3 (by omega) (by rw [hcl]; intro v hv; simp at hv; subst hv; exact hone)
  obtain ⟨f1, f2, f3⟩ := id_inv hinv (.agg (cs.toList.take off ++ (a.eval y).cells.toList ++ cs.toList.drop (off + i.size)).toArray)
  refine ⟨_, hrun, C, _, .refl _, f1, setrow_inv f2 hb (by intro e; cases e) hbb (x1 := .uni _ _ _) q3 ⟨rfl, f3, u, q5, ?_, fun k hk => ?_⟩⟩
  · rw [hu1, Nat.mul_one, hcl, hs]; simp; omega
  · rw [hu1, hcl, hs]
    by_cases hko : k = off
    · subst hko
      refine (at_one hl ?_).2 hat
      simp only [Nat.mul_one, Nat.add_zero, List.getElem?_toArray]
      rw [List.getElem?_append_left (by simp; omega), List.getElem?_append_right (by simp; omega)]
      simp
      rw [show k - min k cs.size = 0 by omega]; rfl
    · refine (at_leaf hl ?_).2 (rep_one q7 hu1 hk)
      simp only [Nat.mul_one, Nat.add_zero, List.getElem?_toArray]
      by_cases hlt : k < off
      · rw [List.getElem?_append_left (by simp; omega), List.getElem?_append_left (by simp; omega), List.getElem?_take_of_lt hlt, Array.getElem?_toList]
      · rw [List.getElem?_append_right (by simp; omega), List.getElem?_drop, Array.getElem?_toList]
        congr 1
        simp; omega
end
end Go.Vg
/- Maps whose keys and values are typed. -/
namespace Go.Vg
open Go Go.RowKit Go.Hs Go.Ty Go.Ex
theorem set_heap_get {w : World} {b : Nat} {o : Obj} (k : Nat) (h : k ≠ b) : ({ w with heap := w.heap.setIfInBounds b o } : World).heap[k]? = w.heap[k]? := by
  show (w.heap.setIfInBounds b o)[k]? = _
  rw [Array.getElem?_setIfInBounds_ne (Ne.symm h)]
theorem wt_setMap {C : Cx} {w : World} (h : WT C w) {b : Nat} {k v : T} {es' : Array MapEntry} {cl' : Nat} (hM : C.M b = some (k, v)) (hf : ∀ e ∈ es'.toList, HasV C k e.key ∧ HasV C v e.val) : WT C { w with heap := w.heap.setIfInBounds b (.map es' cl') } := by
  obtain ⟨h1, es, cl, h2, h3⟩ := h.map b k v hM
  have hlt : b < w.heap.size := (Array.getElem?_eq_some_iff.1 h2).1
  have hne : ∀ {b' o : Nat} {x : Value}, w.cell? ⟨b', o, none⟩ = some x → b' ≠ b := by
    intro b' o x hx e
    subst e
    simp [World.cell?, h2] at hx
  refine ⟨⟨h.below.os, h.below.tape, h.below.output, by have := h.below.size; simpa using this, fun k' hk => (set_heap_get k' (by omega)).trans (h.below.block k' hk)⟩, fun b' o t hR => ?_, h.sr, fun b' o t hS => ?_, fun b' k' v' hM' => ?_⟩
  · obtain ⟨q1, q2, x, q3, q4⟩ := h.res b' o t hR
    have e := set_heap_get (w := w) (o := .map es' cl') b' (hne q3)
    exact ⟨q1, q2, x, (World.cell?_of_block (a := ⟨b', o, none⟩) e).trans q3, (World.frozen?_of_block (a := ⟨b', o, none⟩) e).trans q4⟩
  · obtain ⟨q1, q2, x, q3, q4, q5⟩ := h.cell b' o t hS
    have e := set_heap_get (w := w) (o := .map es' cl') b' (hne q3)
    exact ⟨q1, q2, x, (World.cell?_of_block (a := ⟨b', o, none⟩) e).trans q3, (World.frozen?_of_block (a := ⟨b', o, none⟩) e).trans q4, q5⟩
  · by_cases e : b' = b
    · subst e
      rw [hM] at hM'; cases hM'
      exact ⟨h1, es', cl', by show (w.heap.setIfInBounds b' _)[b']? = _; simp [hlt], hf⟩
    · obtain ⟨q1, es2, cl2, q2, q3⟩ := h.map b' k' v' hM'
      exact ⟨q1, es2, cl2, (set_heap_get b' e).trans q2, q3⟩
/-- A value, be it an aggregate, within a type. -/
def wideD : DT → Bool
  | .rep _ _ | .pair _ _ => true
  | _ => false
def fitV (σ : St) (d : DT) (s : SV) : Option (List Goal) := match s with
  | .agt t => (match wideD d with | true => wkD σ.hy t d | false => none)
  | s => fit1 σ d s
theorem inst_wide {d : DT} {ρ : List Int} {u : T} (hd : wideD d = true) (hu : d.inst ρ = some u) : u.leaf = false := by
  cases d <;> simp only [wideD, Bool.false_eq_true] at hd
  · obtain ⟨x, y, _, _, rfl⟩ := inst_pair hu; rfl
  · simp only [DT.inst, Option.map_eq_some_iff] at hu
    obtain ⟨x, _, rfl⟩ := hu; rfl
theorem fitV_ok {C : Cx} {E : Ev} {σ : St} (hh : Kn C E σ) {d : DT} {s : SV} {gs : List Goal} {u : T} {v : Value} (hf : fitV σ d s = some gs) (hg : ∀ g ∈ gs, g.ok) (hu : d.inst E.ρ = some u) (hd : Den C E s v) : HasV C u v := by
  unfold fitV at hf
  split at hf
  · rename_i t
    simp only [Den] at hd
    obtain ⟨u', cs, h1, rfl, h3, h4⟩ := hd
    split at hf
    · rename_i hw
      obtain ⟨q1, q2⟩ := wkD_ok hh.1 hf hg h1 hu h4
      exact .inr ⟨inst_wide hw hu, cs, rfl, h3.trans q2, q1⟩
    · cases hf
  · exact .inl (fit1_ok hh hf hg hu hd)
/-- What a map of these keys does. -/
structure MLaw (P : Program) (k : TypeId) (ok : Value → Prop) : Prop where
  check : ∀ (w : World) (em : Bool) {v : Value}, ok v → (Instr.checkKey em 10000 k v).run P w = .ok () w
  find : ∀ (w : World) {x : Value}, ok x → ∀ es : List MapEntry, (∀ e ∈ es, ok e.key) →
    ((Instr.findKey k x es).run P w = .ok none w ∧ ∀ e ∈ es, e.key ≠ x) ∨ ∃ j e, (Instr.findKey k x es).run P w = .ok (some (j, e.val)) w ∧ es[j]? = some e ∧ e.key = x
  stays : ∀ (w : World) {v : Value}, ok v → (Instr.keyThatStays v v).run P w = .ok v w
theorem mlaw_deep {P : Program} {k : TypeId} (h : WideMaps.KeyLaw P k) : MLaw P k (fun v => ∃ l, keyOf P k v = some l) :=
  ⟨fun w em _ ⟨_, hv⟩ => h.check w em hv, fun w _ ⟨_, hx⟩ es he => h.find w hx es he, fun w _ ⟨_, hv⟩ => h.stays w hv⟩
theorem mlaw_int {P : Program} {k : TypeId} {q : IntKind} (hk : P.underlying k = some (.int q)) : MLaw P k (fun v => ∃ n, v = .int q n) := by
  refine ⟨fun w em v ⟨n, hv⟩ => ?_, fun w x ⟨n, hx⟩ es he => ?_, fun w v ⟨n, hv⟩ => ?_⟩
  · subst hv; exact MapKept.run_checkKey (k := .int q n) hk rfl em 9999
  · subst hx
    rcases MapKept.findNow_spec (d := .int q) (k := .int q n) rfl es 0 (fun e hm => by obtain ⟨m, hm'⟩ := he e hm; rw [hm']; rfl) with ⟨h1, h2⟩ | ⟨j, e, h1, h2, h3⟩
    · exact .inl ⟨MapKept.run_findKey hk h1, h2⟩
    · exact .inr ⟨j, e, by rw [MapKept.run_findKey hk h1, Nat.zero_add], h2, h3⟩
  · subst hv
    simp [Instr.keyThatStays, Instr.sameBits]
/-- An array of numbers is a key. -/
theorem keyOf_row {P : Program} {k e : TypeId} {n : Nat} {q : IntKind} (hk : P.underlying k = some (.array n e)) (he : P.underlying e = some (.int q)) (hce : P.cellsOf e = 1) (hck : P.cellsOf k = n) (hkt : P.keyType k = true)
    {C : Cx} {lo hi : Int} (hlo : kLo q ≤ lo) (hhi : hi ≤ kHi q) {v : Value} (hv : HasV C (.rep n (.int q lo hi)) v) (hpos : 1 ≤ P.types.size) : ∃ l, keyOf P k v = some l := by
  rcases hv with ⟨h, _⟩ | ⟨_, cs, rfl, hs, hat⟩
  · cases h
  · have hs' : cs.size = n := by simpa [T.size] using hs
    have hform : (Value.agg cs).formed P k = true := by simp [Value.formed, hk, hs', hck]
    have hbits : ∀ {x : Int}, lo ≤ x → x ≤ hi → (Lit.int q x).wf = true := by
      intro x h1 h2
      cases q <;> simp only [kLo, kHi] at hlo hhi <;> simp [Lit.wf, IntKind.min, IntKind.max, IntKind.signed, IntKind.bits] <;> omega
    have hcell : ∀ i, i < n → ∃ ls, P.keyLits P.types.size e ((cs.toList.drop (i * P.cellsOf e)).take (P.cellsOf e)) = some ls := by
      intro i hi'
      obtain ⟨x, h1, h2, h3⟩ := hat i hi'
      simp only [T.size, Nat.mul_one, Nat.add_zero] at h1
      have hl : (cs.toList.drop (i * P.cellsOf e)).take (P.cellsOf e) = [.int q x] := by
        rw [hce, Nat.mul_one]
        apply List.ext_getElem?
        intro j
        cases j with
        | zero => simp [List.getElem?_take_of_lt, h1]
        | succ j => simp [List.getElem?_take]
      rw [hl]
      obtain ⟨D, hD⟩ : ∃ D, P.types.size = D + 1 := ⟨P.types.size - 1, by omega⟩
      rw [hD]
      refine ⟨[.int q x], ?_⟩
      unfold Program.keyLits
      simp [he, hbits h2 h3]
    have hall : ∃ L, ((List.range n).mapM fun i => P.keyLits P.types.size e ((cs.toList.drop (i * P.cellsOf e)).take (P.cellsOf e))) = some L := by
      have : ∀ (l : List Nat), (∀ i ∈ l, i < n) → ∃ L, (l.mapM fun i => P.keyLits P.types.size e ((cs.toList.drop (i * P.cellsOf e)).take (P.cellsOf e))) = some L := by
        intro l
        induction l with
        | nil => intro _; exact ⟨[], rfl⟩
        | cons i l ih =>
          intro hl
          obtain ⟨a, ha⟩ := hcell i (hl i (List.mem_cons_self ..))
          obtain ⟨L, hL⟩ := ih fun j hj => hl j (List.mem_cons_of_mem _ hj)
          exact ⟨a :: L, by simp [List.mapM_cons, ha, hL]⟩
      exact this _ fun i hi => List.mem_range.1 hi
    obtain ⟨L, hL⟩ := hall
    refine ⟨.string (keyBytes L.flatten), ?_⟩
    unfold keyOf
    rw [hk]
    simp only [hkt, hform, Bool.and_self, if_true]
    unfold Program.keyLits
    have hlen : (Value.agg cs).cells.toList.length = P.cellsOf k := by rw [hck, ← hs']; simp [Value.cells]
    rw [hk]
    simp only [hlen, if_true]
    have : (Value.agg cs).cells = cs := rfl
    rw [this, hL]
    rfl
end Go.Vg
/- Operations on maps. -/
namespace Go.Vg
open Go Go.RowKit Go.Hs Go.Ty Go.Ex
/-- What is asked of a key, beside its type. -/
def KeyC (P : Program) (k : TypeId) (d : DT) (hy : List Hy) (gs : List Goal) : Prop :=
  (∀ g ∈ gs, g.ok) → ∀ (ρ : List Int) (u : T), (∀ h ∈ hy, h.holds (tot ρ)) → d.inst ρ = some u → ∃ ok : Value → Prop, MLaw P k ok ∧ ∀ C v, HasV C u v → ok v
section
variable {E0 : Env} (hE0 : EnvOK E0)
include hE0
theorem keyC_int {k : TypeId} {q : IntKind} {lo hi : Tm} {hy : List Hy} (hk : und E0 k = some (.int q)) : KeyC E0.P k (.int q lo hi) hy [] :=
  fun _ ρ u _ hu => ⟨_, mlaw_int (und_ok hE0 hk), fun C v hv => by
    simp only [DT.inst] at hu
    split at hu
    · cases hu
      rcases hv with ⟨_, n, h, _⟩ | ⟨hl, _⟩
      · simp only [Ty.one, if_pos, Option.some.injEq] at h; exact ⟨n, h⟩
      · cases hl
    · cases hu⟩
theorem keyC_row {k e : TypeId} {n : Nat} {q : IntKind} {lo hi : Tm} {hy : List Hy} (hk : und E0 k = some (.array n e)) (he : und E0 e = some (.int q)) (hce : E0.P.cellsOf e = 1) (hck : E0.P.cellsOf k = n) (hkt : E0.P.keyType k = true) (hpos : 1 ≤ E0.P.types.size)
    (hlaw : WideMaps.KeyLaw E0.P k) : KeyC E0.P k (.rep n (.int q lo hi)) hy [⟨hy, .le (.c (kLo q)) lo⟩, ⟨hy, .le hi (.c (kHi q))⟩] :=
  fun hg ρ u hyp hu => ⟨_, mlaw_deep hlaw, fun C v hv => by
    simp only [DT.inst, Option.map_eq_some_iff] at hu
    obtain ⟨x, hx, rfl⟩ := hu
    split at hx
    · rename_i a b ha hb
      cases hx
      have g1 := hg _ (List.mem_cons_self ..) (tot ρ) hyp
      have g2 := hg _ (List.mem_cons_of_mem _ (List.mem_cons_self ..)) (tot ρ) hyp
      simp only [Hy.holds, Tm.val, ev_val ha, ev_val hb] at g1 g2
      exact keyOf_row (und_ok hE0 hk) (und_ok hE0 he) hce hck hkt g1 g2 hv hpos
    · cases hx⟩
omit hE0 in
theorem op_makeMap {P : Program} {o : Oper} {σ : St} {t : TypeId} {dk dv : DT} (ho : o.op = .makeMap t none) (h1 : dk.sc σ.ns = true) (h2 : dv.sc σ.ns = true) : OpOK P o σ [(.map dk dv, σ)] := by
  refine opOK_step fun C E a w hinv => ?_
  obtain ⟨k, hk⟩ := inst_of_inv hinv h1
  obtain ⟨v, hv⟩ := inst_of_inv hinv h2
  have hMn : C.M w.heap.size = none := by
    cases hs : C.M w.heap.size with
    | none => rfl
    | some t => exact absurd (hinv.wt.M_lt hs) (Nat.lt_irrefl _)
  have hwt1 : WT C (w.alloc (.map #[] 0)) := hinv.wt.alloc _
  have hwt2 := hwt1.typeMap (b := w.heap.size) hinv.wt.below.size (heap_alloc_new w _) hMn k v (fun e he => by simp at he)
  have hle := WT.map_le (C := C) w.heap.size hMn k v
  have hi2 := inv_grow hinv hle hwt2 (by rw [Hs.alloc_size]; omega) (fun b' _ _ hb' => Below.heap_alloc w _ b' hb') (fun _ _ _ => rfl) (fun b' hb' => by show (if _ then _ else _) = _; exact if_neg (by omega))
  refine ⟨.map (some w.heap.size), _, _, w.alloc (.map #[] 0), ?_, List.mem_cons_self .., _, E, hle, .refl _, hi2, ?_⟩
  · rw [exec_eq ho]
    simp [execOp, Instr.makeMap]
  · simp only [Den]
    exact ⟨k, v, hk, hv, w.heap.size, rfl, by show (if _ then _ else _) = _; exact if_pos rfl⟩
theorem op_lookup {o : Oper} {σ σ1 : St} {t kt et : TypeId} {x ix : Operand} {ok : Bool} {dk dv : DT} {s r z : SV} {g1 g2 : List Goal} {j : AInfo} {zv : Value}
    (ho : o.op = .lookup t x ix ok) (hx : evS σ x = some (.map dk dv)) (hi : evS σ ix = some s) (ht : und E0 t = some (.map kt et)) (hk : KeyC E0.P kt dk σ.hy g1) (hg1 : ∀ g ∈ g1, g.ok) (hf : fitV σ dk s = some g2) (hg2 : ∀ g ∈ g2, g.ok)
    (hj : inf E0 et = some j) (hjr : j.runs = [(1, zv)]) (hja : j.agg = false) (hz : ofScal zv = some z) (hd1 : dv.size = 1) (hdl : (match dv with | .rep _ _ | .pair _ _ => false | _ => true) = true) (hfr : freshOf σ dv = some ([r], σ1)) :
    OpOK E0.P o σ [(if ok then .tup [r, .bool true] else r, σ1), (if ok then .tup [z, .bool false] else z, σ)] := by
  refine opOK_pure fun C E a w hinv => ?_
  have h1 := evS_den hinv hx
  have h2 := evS_den hinv hi
  have hyp : ∀ h ∈ σ.hy, h.holds (tot E.ρ) := fun h hh => (hinv.hy h hh).2
  simp only [Den] at h1
  obtain ⟨uk, uv, huk, huv, b, hb1, hM⟩ := h1
  simp only [Ty.one, if_pos, Option.some.injEq] at hb1
  obtain ⟨okp, law, hok⟩ := hk hg1 E.ρ uk hyp huk
  have hkey := fitV_ok hinv.kn hf hg2 huk h2
  obtain ⟨_, es, cl, hh, hes⟩ := hinv.wt.map b uk uv hM
  have hall : ∀ e ∈ es.toList, okp e.key := fun e he => hok C _ (hes e he).1
  obtain ⟨tj, zz, dj, hjo, _, hjag⟩ := inf_ok hE0 hj
  have hzz : zz = zv := by
    have h3 := hjo.runs
    have h4 := hjo.zagg
    rw [hja] at h4
    have h5 : zz.cells = #[zz] := by cases zz <;> first | rfl | (simp [aggV] at h4)
    rw [hjr, h5] at h3
    simp [rexpand] at h3
    exact h3.symm
  have hexec : (execOp a.eval o).run E0.P w = ((Instr.lookup t (a.eval x) (a.eval ix) ok).run E0.P w).andThen fun v w' => .ok (.value v) w' := by
    rw [exec_eq ho]
    simp only [execOp, Sem.run_bind]
    rfl
  rcases law.find w (hok C _ hkey) es.toList hall with ⟨h3, _⟩ | ⟨i, e, h3, h4, h5⟩
  · refine ⟨if ok then .tuple #[zv, .bool false] else zv, _, σ, ?_, List.mem_cons_of_mem _ (List.mem_cons_self ..), C, E, .refl _, .refl _, hinv, ?_⟩
    · rw [hexec, hb1]
      simp [Instr.lookup, run_underlying (und_ok hE0 ht), MapKept.run_getObj_map hh, law.check w _ (hok C _ hkey), h3, hjo.zeroValue, hzz, Result.andThen]
    · cases ok
      · exact ofScal_den hz
      · simp only [if_true, Den, DenL]
        exact ⟨#[zv, .bool false], rfl, zv, [.bool false], rfl, ofScal_den hz, .bool false, [], rfl, rfl, rfl⟩
  · have hev := (hes e (List.mem_of_getElem? h4)).2
    have hvl : uv.leaf = true ∧ At C uv (Ty.one e.val) := by
      rcases hev with hev | ⟨hl, _⟩
      · exact hev
      · have : uv.leaf = true := by
          cases dv <;> simp only [Bool.false_eq_true] at hdl <;> first | (simp only [DT.inst, Option.some.injEq] at huv; subst huv; rfl) | skip
          all_goals
            try simp only [DT.inst] at huv
            first
              | (simp [DT.size] at hd1; done)
              | (split at huv <;> first | (cases huv; rfl) | cases huv)
              | (simp only [Option.map_eq_some_iff] at huv; obtain ⟨x, _, rfl⟩ := huv; rfl)
              | (cases huv)
        rw [this] at hl; cases hl
    obtain ⟨E', e1, e2, vs, e3, e4, e5⟩ := fresh_den hinv huv hvl.2 hfr
    rw [leaf_size hvl.1] at e4 e5
    have hv0 := e5 0 (by omega)
    simp only [DenL] at e3
    obtain ⟨v', r', rfl, e6, rfl⟩ := e3
    have : v' = e.val := by simpa [Ty.one] using hv0.symm
    subst this
    refine ⟨if ok then .tuple #[e.val, .bool true] else e.val, _, σ1, ?_, List.mem_cons_self .., C, E', .refl _, e1, e2, ?_⟩
    · rw [hexec, hb1]
      simp [Instr.lookup, run_underlying (und_ok hE0 ht), MapKept.run_getObj_map hh, law.check w _ (hok C _ hkey), h3, Result.andThen]
    · cases ok
      · exact e6
      · simp only [if_true, Den, DenL]
        exact ⟨#[e.val, .bool true], rfl, e.val, [.bool true], rfl, e6, .bool true, [], rfl, rfl, rfl⟩
theorem op_mapUpd {o : Oper} {σ : St} {t kt et : TypeId} {m ix y : Operand} {dk dv : DT} {s sv : SV} {g1 g2 g3 : List Goal}
    (ho : o.op = .mapUpdate t m ix y ∨ o.op = .insert t m ix y) (hx : evS σ m = some (.map dk dv)) (hi : evS σ ix = some s) (hy : evS σ y = some sv) (ht : und E0 t = some (.map kt et)) (hk : KeyC E0.P kt dk σ.hy g1) (hg1 : ∀ g ∈ g1, g.ok) (hf : fitV σ dk s = some g2) (hg2 : ∀ g ∈ g2, g.ok)
    (hf3 : fitV σ dv sv = some g3) (hg3 : ∀ g ∈ g3, g.ok) : OpOK E0.P o σ [(.tup [], σ)] := by
  refine opOK_skip fun C E a w hinv => ?_
  have h1 := evS_den hinv hx
  have h2 := evS_den hinv hi
  have h3 := evS_den hinv hy
  have hyp : ∀ h ∈ σ.hy, h.holds (tot E.ρ) := fun h hh => (hinv.hy h hh).2
  simp only [Den] at h1
  obtain ⟨uk, uv, huk, huv, b, hb1, hM⟩ := h1
  simp only [Ty.one, if_pos, Option.some.injEq] at hb1
  obtain ⟨okp, law, hok⟩ := hk hg1 E.ρ uk hyp huk
  have hkey := fitV_ok hinv.kn hf hg2 huk h2
  have hval := fitV_ok hinv.kn hf3 hg3 huv h3
  obtain ⟨hb0, es, cl, hh, hes⟩ := hinv.wt.map b uk uv hM
  have hall : ∀ e ∈ es.toList, okp e.key := fun e he => hok C _ (hes e he).1
  have hexec : (execOp a.eval o).run E0.P w = ((Instr.mapUpdate t (a.eval m) (a.eval ix) (a.eval y)).run E0.P w).andThen fun _ w' => .ok .skip w' := by
    rcases ho with ho | ho <;> (rw [exec_eq ho]; simp only [execOp, Sem.run_bind]; rfl)
  have fin : ∀ (es' : Array MapEntry) (cl' : Nat), (∀ e ∈ es'.toList, HasV C uk e.key ∧ HasV C uv e.val) → Inv C E σ a { w with heap := w.heap.setIfInBounds b (.map es' cl') } := fun es' cl' he =>
    inv_world hinv (wt_setMap hinv.wt hM he) (by simp) fun i x b' hx' hg' hb' => set_heap_get b' (by
      rintro rfl
      have := (tracked_free hinv hx' hg' hb').2
      rw [hM] at this; cases this)
  rcases law.find w (hok C _ hkey) es.toList hall with ⟨q3, _⟩ | ⟨i, e, q3, q4, q5⟩
  · refine ⟨_, ?_, C, E, .refl _, .refl _, fin (es.push { key := a.eval ix, val := a.eval y, born := cl }) (cl + 1) fun e he => ?_⟩
    · rw [hexec, hb1]
      simp [Instr.mapUpdate, run_underlying (und_ok hE0 ht), MapKept.run_getObj_map hh, law.check w _ (hok C _ hkey), q3, MapKept.run_setObj_map _ hh, Result.andThen]
    · simp only [Array.toList_push, List.mem_append, List.mem_singleton] at he
      rcases he with he | rfl
      · exact hes e he
      · exact ⟨hkey, hval⟩
  · have hei : es[i]? = some e := by rw [← Array.getElem?_toList]; exact q4
    refine ⟨_, ?_, C, E, .refl _, .refl _, fin (es.modify i fun e => { e with key := a.eval ix, val := a.eval y }) cl fun e' he => ?_⟩
    · rw [hexec, hb1]
      simp [Instr.mapUpdate, run_underlying (und_ok hE0 ht), MapKept.run_getObj_map hh, law.check w _ (hok C _ hkey), q3, hei, q5, law.stays w (hok C _ hkey), MapKept.run_setObj_map _ hh, Result.andThen]
    · obtain ⟨j, hj⟩ := List.mem_iff_getElem?.1 he
      rw [Array.getElem?_toList, Array.getElem?_modify] at hj
      split at hj
      · rw [Option.map_eq_some_iff] at hj
        obtain ⟨e2, _, rfl⟩ := hj
        exact ⟨hkey, hval⟩
      · exact hes e' (List.mem_of_getElem? (by rw [Array.getElem?_toList]; exact hj))
end
end Go.Vg
/- build, buildSlice, slices of slices, places in tracked blocks, min and max. -/
namespace Go.Vg
open Go Go.RowKit Go.Hs Go.Ty Go.Ex
def spliceS (zs : List SV) (off : Nat) (vs : List SV) : Option (List SV) :=
  match Nat.ble (off + vs.length) zs.length with
  | true => some (zs.take off ++ vs ++ zs.drop (off + vs.length))
  | false => none
def fillS (place : Nat → Option (Nat × Nat)) : List (Nat × SV) → List SV → Option (List SV)
  | [], zs => some zs
  | (i, s) :: r, zs => match place i, noAgt s with
    | some (off, size), true => (match Nat.beq (svCells s).length size with
      | true => (match spliceS zs off (svCells s) with | some zs' => fillS place r zs' | none => none)
      | false => none)
    | _, _ => none
theorem fillS_ok {C : Cx} {E : Ev} {place : Nat → Option (Nat × Nat)} : ∀ {ps : List (Nat × SV)} {qs : List (Nat × Value)} {zs cs : List SV} {Z : Array Value},
    qs.map (·.1) = ps.map (·.1) → DenL C E (ps.map (·.2)) (qs.map (·.2)) → DenL C E zs Z.toList → fillS place ps zs = some cs →
    ∃ R, Instr.fill place Z qs = some R ∧ DenL C E cs R.toList := by
  intro ps
  induction ps with
  | nil =>
    intro qs zs cs Z h1 h2 h3 h4
    simp [fillS] at h4
    subst h4
    cases qs with
    | nil => exact ⟨Z, rfl, h3⟩
    | cons _ _ => simp at h1
  | cons p ps ih =>
    obtain ⟨i, s⟩ := p
    intro qs zs cs Z h1 h2 h3 h4
    cases qs with
    | nil => simp at h1
    | cons q qs =>
      obtain ⟨j, V⟩ := q
      simp at h1
      obtain ⟨rfl, h1⟩ := h1
      simp only [List.map_cons, DenL] at h2
      obtain ⟨v', r', e, hv, ht⟩ := h2
      cases e
      unfold fillS at h4
      split at h4
      · rename_i off size hp hna
        split at h4
        · rename_i hsz
          have hsz := Nat.eq_of_beq_eq_true hsz
          split at h4
          · rename_i zs' hs
            unfold spliceS at hs
            split at hs
            · rename_i hble
              have hble := Nat.le_of_ble_eq_true hble
              simp at hs
              have hvc := svCells_den hna hv
              have hvl : V.cells.size = size := by have := denL_len hvc; simpa [hsz] using this
              have hzl : Z.size = zs.length := by have := denL_len h3; simpa using this
              have hZ := foldl_set0 V.cells.toList Z off (by simp [hvl, hzl]; omega)
              have hcon : DenL C E zs' ((V.cells.toList.zipIdx.foldl (fun cs (c, j) => cs.setIfInBounds (off + j) c) Z)).toList := by
                rw [hZ, ← hs, denL_len hvc]
                simpa [List.append_assoc] using denL_append (denL_take h3 off) (denL_append hvc (denL_drop h3 (off + (svCells s).length)))
              obtain ⟨R, h5, h6⟩ := ih (by simpa using h1) ht hcon h4
              refine ⟨R, ?_, h6⟩
              unfold Instr.fill
              simp only [hp]
              rw [if_neg (by simp [hvl]; omega)]
              rw [← h5]
              congr 1
              rw [← Array.foldl_toList, Array.toList_zipIdx]
            · simp at hs
          · simp at h4
        · simp at h4
      · simp at h4
noncomputable def evP (σ : St) : List (Nat × Operand) → Option (List (Nat × SV))
  | [] => some []
  | (i, x) :: r => match evS σ x, evP σ r with | some s, some l => some ((i, s) :: l) | _, _ => none
theorem evP_den {C : Cx} {E : Ev} {σ : St} {a : Act} {w : World} (h : Inv C E σ a w) : ∀ {l : List (Nat × Operand)} {r : List (Nat × SV)}, evP σ l = some r → (l.map fun x => (x.1, a.eval x.2)).map (·.1) = r.map (·.1) ∧ DenL C E (r.map (·.2)) ((l.map fun x => (x.1, a.eval x.2)).map (·.2)) := by
  intro l
  induction l with
  | nil => intro r h'; cases h'; exact ⟨rfl, by simp [DenL]⟩
  | cons x l ih =>
    obtain ⟨i, x⟩ := x
    intro r h'
    simp only [evP] at h'
    split at h'
    · rename_i s q h1 h2
      cases h'
      obtain ⟨e1, e2⟩ := ih h2
      refine ⟨by simp only [List.map_cons, e1], ?_⟩
      simp only [List.map_cons, DenL]
      exact ⟨_, _, rfl, evS_den h h1, e2⟩
    · cases h'
def repS : Nat → List SV → List SV
  | 0, _ => []
  | n + 1, l => l ++ repS n l
theorem repS_den {C : Cx} {E : Ev} {l : List SV} {vs : List Value} (h : DenL C E l vs) : ∀ n, DenL C E (repS n l) (repL n vs) := by
  intro n
  induction n with
  | zero => simp [repS, repL, DenL]
  | succ n ih => exact denL_append h ih
section
variable {E0 : Env} (hE0 : EnvOK E0)
include hE0
theorem op_build {o : Oper} {σ : St} {t : TypeId} {parts : Array (Nat × Operand)} {fs : Array Field} {i : AInfo} {ps : List (Nat × SV)} {pl : List (Nat × Nat)} {zs l : List SV}
    (ho : o.op = .build t parts) (hi : inf E0 t = some i) (hu : und E0 t = some (.struct fs)) (hp : evP σ parts.toList = some ps) (hpl : places E0 fs.toList = some pl) (hz : ofScals (rexpand i.runs) = some zs) (hf : fillS (fun i => pl[i]?) ps zs = some l) : QuietOK E0.P o σ (.agg l) := by
  intro C E a w hinv
  obtain ⟨ti, z, d, hio, hd, hag⟩ := inf_ok hE0 hi
  obtain ⟨h1, h2⟩ := evP_den hinv hp
  have hzd : DenL C E zs z.cells.toList := by rw [← hio.runs]; exact ofScals_den hz
  obtain ⟨R, h3, h4⟩ := fillS_ok h1 h2 hzd hf
  refine ⟨.agg R, fun w => ?_, by simp only [Den]; exact ⟨R, rfl, h4⟩⟩
  have hb : E0.P.built t (parts.toList.map fun x => (x.1, a.eval x.2)) = some R := by
    unfold Program.built
    simp only [hio.info, und_ok hE0 hu, hio.zero, places_ok hE0 hpl]
    simpa using h3
  rw [exec_eq ho]
  simp only [execOp, Sem.run_bind]
  rw [run_build w t _ R (by simpa using hb)]
  rfl
theorem op_buildSlice {o : Oper} {σ : St} {t e : TypeId} {n : Nat} {parts : Array (Nat × Operand)} {j : AInfo} {ps : List (Nat × SV)} {zs l : List SV}
    (ho : o.op = .buildSlice t n parts) (hu : und E0 t = some (.slice e)) (hj : inf E0 e = some j) (hp : evP σ parts.toList = some ps) (hz : ofScals (rexpand j.runs) = some zs) (hf : fillS (fun i => some (i * j.size, j.size)) ps (repS n zs) = some l)
    (hb : Nat.ble (n * j.bytes) 1048576 = true) (hsz : Nat.ble (n * j.size) 1048576 = true) : OpOK E0.P o σ [(.tsl σ.hp.length 0 n, addB { σ with no := σ.no + 1 } (.cells σ.no l))] := by
  refine opOK_step fun C E a w hinv => ?_
  obtain ⟨tj, z, d, hio, _, _⟩ := inf_ok hE0 hj
  have hb := Nat.le_of_ble_eq_true hb
  have hcap := Nat.le_of_ble_eq_true hsz
  have hz0 : z.cells.toList = rexpand j.runs := hio.runs.symm
  have hzs : z.cells.size = j.size := by rw [← hio.len, ← hz0]; simp
  let Z : Array Value := (Array.range (n * j.size)).map ((if n * j.size = 0 then #[] else z.cells)[· % (if n * j.size = 0 then #[] else z.cells).size]!)
  have hZ : Z.toList = repL n (rexpand j.runs) := by
    show ((Array.range (n * j.size)).map _).toList = _
    by_cases h0 : n * j.size = 0
    · rw [if_pos h0, h0]
      have : (repL n (rexpand j.runs)).length = 0 := by rw [repL_length, hio.len, h0]
      rw [List.eq_nil_of_length_eq_zero this]; simp
    · rw [if_neg h0, ← hz0]
      have := zeros_toList z.cells n (by left; rw [hzs]; exact Nat.pos_of_ne_zero fun e => h0 (by rw [e]; simp))
      rw [hzs] at this ⊢
      exact this
  have hzc : DenL C E (repS n zs) Z.toList := by rw [hZ]; exact repS_den (ofScals_den hz) n
  obtain ⟨h1, h2⟩ := evP_den hinv hp
  obtain ⟨R, h5, h6⟩ := fillS_ok h1 h2 hzc hf
  obtain ⟨E', e1, e2, e3⟩ := new_cells hinv h6 e
  refine ⟨.slice (some ⟨w.heap.size, 0, none⟩) n n, _, _, w.alloc (.cells R e), ?_, List.mem_cons_self .., C, E', .refl _, e1, e2, by simp only [Den]; exact ⟨_, e3, rfl⟩⟩
  rw [exec_eq ho]
  simp only [execOp, Instr.buildSlice, Sem.run_bind, und_run hE0 hu, Result.andThen_ok, hio.sizeOf]
  rw [if_neg (by omega)]
  have hff : ∀ zero : Array Value, zero = (if n * j.size = 0 then #[] else z.cells) →
      Instr.fill (fun i => some (i * j.size, j.size)) (Array.map (fun x => zero[x % zero.size]!) (Array.range (n * j.size))) (Array.map (fun x => (x.fst, a.eval x.snd)) parts).toList = some R := by
    intro zero hz; subst hz; rw [Array.toList_map]; exact h5
  have hnew : (newRow e R).run E0.P w = .ok ⟨w.heap.size, 0, none⟩ (w.alloc (.cells R e)) := rfl
  by_cases h0 : n * j.size = 0
  · rw [if_pos h0]
    simp only [Sem.run_bind, Sem.run_pure, Result.andThen_ok, hff #[] (by rw [if_pos h0]), hnew]
  · rw [if_neg h0]
    simp only [Sem.run_bind, hio.zeroValue, Result.andThen_ok, Sem.run_pure, hff z.cells (by rw [if_neg h0]), hnew]
/-- A place within a tracked block. -/
theorem q_fieldAddr_tptr {o : Oper} {σ : St} {t : TypeId} {x : Operand} {f : Nat} {fs : Array Field} {fd : Field} {i : AInfo} {id off : Nat}
    (ho : o.op = .fieldAddr t x f) (hx : evS σ x = some (.tptr id off)) (hu : und E0 t = some (.struct fs)) (hf : fs[f]? = some fd) (hi : inf E0 fd.type = some i) (h0 : i.size ≠ 0) : QuietOK E0.P o σ (.tptr id (off + fd.offset)) := by
  intro C E a w hinv
  have h1 := evS_den hinv hx
  simp only [Den] at h1
  obtain ⟨b, hbb, hev⟩ := h1
  obtain ⟨ti, z, dd, hio, _, _⟩ := inf_ok hE0 hi
  refine ⟨.pointer (some ⟨b, off + fd.offset, none⟩), fun w => ?_, by simp only [Den]; exact ⟨b, hbb, rfl⟩⟩
  rw [exec_eq ho]
  simp only [execOp, Instr.fieldAt, Sem.run_bind, und_run hE0 hu, Result.andThen_ok, hf, hev, sure_addr, fieldPlace, hio.sizeOf]
  rw [if_neg h0, add_flat]
  rfl
theorem q_indexAddr_tsl {o : Oper} {σ : St} {t e : TypeId} {x ix : Operand} {id off n q : Nat} {k : IntKind} {j : AInfo}
    (ho : o.op = .indexAddr t x ix) (hx : evS σ x = some (.tsl id off n)) (hi : evS σ ix = some (.int k (.c (.ofNat q)))) (hu : und E0 t = some (.slice e)) (hj : inf E0 e = some j) (hq : q < n) : QuietOK E0.P o σ (.tptr id (off + q * j.size)) := by
  intro C E a w hinv
  have h1 := evS_den hinv hx
  have h2 := evS_den hinv hi
  simp only [Den] at h1 h2
  obtain ⟨b, hbb, hev⟩ := h1
  obtain ⟨ii, hii, hiv⟩ := h2
  simp only [Tm.ev, Option.some.injEq] at hii
  subst hii
  obtain ⟨tj, zj, dj, hjo, _, _⟩ := inf_ok hE0 hj
  refine ⟨.pointer (some ⟨b, off + q * j.size, none⟩), fun w => ?_, by simp only [Den]; exact ⟨b, hbb, rfl⟩⟩
  rw [exec_eq ho]
  simp only [execOp, Instr.indexAt, hev, hiv, asIntOf, Sem.run_bind, Sem.run_pure, Result.andThen_ok, und_run hE0 hu]
  rw [if_pos (by simp; omega)]
  simp only [Sem.run_bind, hjo.sizeOf, Result.andThen_ok, Sem.run_pure, add_flat, Int.toNat_natCast, Int.ofNat_eq_natCast]
/-- A fact of all elements is used. -/
theorem q_indexAddr_fact {o : Oper} {σ : St} {t : TypeId} {x ix : Operand} {id : Nat} {d d' : DT} {n i : Tm} {k : IntKind} {e : TypeId} {j : AInfo}
    (ho : o.op = .indexAddr t x ix) (hx : evS σ x = some (.sl id .old d n)) (hi : evS σ ix = some (.int k i)) (hu : und E0 t = some (.slice e)) (hj : inf E0 e = some j) (hw : wholeF σ.hy σ.fa id n = some d') (hs : d'.size = j.size)
    (g1 : Goal.ok ⟨σ.hy, .le (.c 0) i⟩) (g2 : Goal.ok ⟨σ.hy, .lt i n⟩) : QuietOK E0.P o σ (.eli id i .old d') := by
  intro C E a w hinv
  have h1 := evS_den hinv hx
  have h2 := evS_den hinv hi
  simp only [Den] at h1 h2
  obtain ⟨hid, u, kn, hu1, hn, hat⟩ := h1
  obtain ⟨ii, hii, hev⟩ := h2
  have hyp : ∀ h ∈ σ.hy, h.holds (tot E.ρ) := fun h hh => (hinv.hy h hh).2
  have a1 := g1 (tot E.ρ) hyp
  have a2 := g2 (tot E.ρ) hyp
  simp only [Hy.holds, ev_val hii, ev_val hn, Tm.val] at a1 a2
  obtain ⟨A, nn, c, hsl, hlo, hhi, _⟩ := hat
  simp only [Ty.one, if_pos, Option.some.injEq] at hsl
  have hnn : kn = (nn : Int) := by have := hlo.1; omega
  subst hnn
  obtain ⟨q, rfl⟩ := Int.eq_ofNat_of_zero_le a1
  have hqn : q < nn := by omega
  obtain ⟨u', hu', hel⟩ := wholeF_ok hyp (fun f hf => hinv.fa f hf) hw (by rw [hid, hsl]) hn
  obtain ⟨b, off, rfl, hpl⟩ := hel q hqn
  obtain ⟨tj, zj, dj, hjo, _, _⟩ := inf_ok hE0 hj
  have hsz : u'.size = j.size := (inst_size hu').trans hs
  refine ⟨.pointer (some ⟨b, off + q * j.size, none⟩), fun w => ?_, ?_⟩
  · rw [exec_eq ho]
    simp only [execOp, Instr.indexAt, hsl, hev, asIntOf, Sem.run_bind, Sem.run_pure, Result.andThen_ok, und_run hE0 hu]
    rw [if_pos (by omega)]
    simp only [Sem.run_bind, hjo.sizeOf, Result.andThen_ok, Sem.run_pure, add_flat, Int.toNat_natCast]
  · simp only [Den]
    exact ⟨u', b, off, nn, c, q, hu', by rw [hid, hsl], hii, hqn, by rw [hsz], hpl⟩
end
end Go.Vg
/- Literals of arrays; slices of slices; results in cells; min and max; maps that are known; constants. -/
namespace Go.Vg
open Go Go.RowKit Go.Hs Go.Ty Go.Ex
/-! constants -/
def Tm.fold : Tm → Tm
  | .add a b => match a.fold, b.fold with | .c m, .c n => .c (m + n) | x, y => .add x y
  | .sub a b => match a.fold, b.fold with | .c m, .c n => .c (m - n) | x, y => .sub x y
  | .mul a b => match a.fold, b.fold with | .c m, .c n => .c (m * n) | x, y => .mul x y
  | t => t
theorem fold_ev {ρ : List Int} : ∀ {t : Tm} {x : Int}, t.ev ρ = some x → t.fold.ev ρ = some x := by
  intro t
  induction t with
  | c n => intro x h; exact h
  | s i => intro x h; exact h
  | add a b iha ihb | sub a b iha ihb | mul a b iha ihb =>
    intro x h
    simp only [Tm.ev] at h
    split at h
    · rename_i u v hu hv
      cases h
      have h1 := iha hu
      have h2 := ihb hv
      unfold Tm.fold
      split
      · rename_i m n e1 e2
        rw [e1] at h1; rw [e2] at h2
        cases h1; cases h2; rfl
      · simp only [Tm.ev, h1, h2]
    · cases h
theorem quiet_fold {P : Program} {o : Oper} {σ : St} {k : IntKind} {z : Tm} (h : QuietOK P o σ (.int k z)) : QuietOK P o σ (.int k z.fold) := fun C E a w hi => by
  obtain ⟨v, h1, h2⟩ := h C E a w hi
  refine ⟨v, h1, ?_⟩
  simp only [Den] at h2 ⊢
  obtain ⟨n, h3, h4⟩ := h2
  exact ⟨n, fold_ev h3, h4⟩
/-- A comparison of constants. -/
def Hy.dec : Hy → Option Bool
  | .le a b => match a.fold, b.fold with | .c m, .c n => some (!ilt n m) | _, _ => none
  | .lt a b => match a.fold, b.fold with | .c m, .c n => some (ilt m n) | _, _ => none
  | .eq a b => match a.fold, b.fold with | .c m, .c n => some (ieq m n) | _, _ => none
  | .ne a b => match a.fold, b.fold with | .c m, .c n => some (!ieq m n) | _, _ => none
  | _ => none
theorem dec_ok {ρ : List Int} {h : Hy} {b : Bool} (hd : h.dec = some b) (hf : h.dfd ρ) : b = true ↔ h.holds (tot ρ) := by
  have key : ∀ {s t : Tm} {m n : Int}, s.fold = .c m → t.fold = .c n → (∃ x, s.ev ρ = some x) → (∃ y, t.ev ρ = some y) → s.val (tot ρ) = m ∧ t.val (tot ρ) = n := by
    intro s t m n h1 h2 ⟨x, hx⟩ ⟨y, hy⟩
    have e1 := fold_ev hx
    have e2 := fold_ev hy
    rw [h1] at e1; rw [h2] at e2
    cases e1; cases e2
    exact ⟨ev_val hx, ev_val hy⟩
  cases h <;> simp only [Hy.dec, reduceCtorEq] at hd
  all_goals
    split at hd
    · rename_i m n h1 h2
      cases hd
      obtain ⟨q1, q2⟩ := key h1 h2 hf.1 hf.2
      simp only [Hy.holds, q1, q2]
      simp [ilt_lt, ieq_eq]
    · cases hd
theorem quiet_dec {P : Program} {o : Oper} {σ : St} {h : Hy} {b : Bool} (hq : QuietOK P o σ (.cmp h)) (hd : h.dec = some b) : QuietOK P o σ (.bool b) := fun C E a w hi => by
  obtain ⟨v, h1, h2⟩ := hq C E a w hi
  refine ⟨v, h1, ?_⟩
  simp only [Den] at h2 ⊢
  obtain ⟨b', rfl, h3, h4⟩ := h2
  rw [← dec_ok hd h3] at h4
  cases b <;> cases b' <;> simp_all
/-! min and max -/
theorem op_mm {P : Program} {o : Oper} {σ : St} {mn : Bool} {x y : Operand} {ats : Array TypeId} {k k' : IntKind} {m n : Tm}
    (ho : o.op = .call { callee := .builtin (if mn then .min else .max), args := #[x, y], argTypes := ats }) (hx : evS σ x = some (.int k m)) (hy : evS σ y = some (.int k' n)) :
    OpOK P o σ [(.int k (.s σ.ns), assume (.or (.eq (.s σ.ns) m) (.eq (.s σ.ns) n)) (assume (if mn then .and (.le (.s σ.ns) m) (.le (.s σ.ns) n) else .and (.le m (.s σ.ns)) (.le n (.s σ.ns))) { σ with ns := σ.ns + 1 }))] := by
  refine opOK_pure fun C E a w hinv => ?_
  have h1 := evS_den hinv hx
  have h2 := evS_den hinv hy
  simp only [Den] at h1 h2
  obtain ⟨i, hi, hxe⟩ := h1
  obtain ⟨j, hj, hye⟩ := h2
  let r : Int := if mn then (if j < i then j else i) else (if i < j then j else i)
  obtain ⟨e1, e2, e3⟩ := sym_inv hinv r
  have hs : (Tm.s σ.ns).ev (E.ρ ++ [r]) = some r := e3
  have hi' := ev_grow (l := [r]) hi
  have hj' := ev_grow (l := [r]) hj
  have hr1 : r = i ∨ r = j := by show (if mn then _ else _) = _ ∨ (if mn then _ else _) = _; cases mn <;> simp <;> omega
  refine ⟨.int k r, _, _, ?_, List.mem_cons_self .., C, _, .refl _, e1, assume_inv (assume_inv e2 ?_ ?_) ?_ ?_, by simp only [Den]; exact ⟨_, hs, rfl⟩⟩
  · rw [exec_eq ho]
    simp only [execOp, resolve, invoke, Sem.run_bind, Sem.run_pure, Result.andThen_ok]
    rw [show (Array.map a.eval #[x, y]) = #[a.eval x, a.eval y] by simp, hxe, hye]
    cases mn
    · simp [builtin, Builtin.max_, Builtin.max2]
      show _ = _
      rfl
    · simp [builtin, Builtin.min_, Builtin.min2]
      show _ = _
      rfl
  · cases mn
    · exact ⟨⟨⟨_, hi'⟩, ⟨_, hs⟩⟩, ⟨⟨_, hj'⟩, ⟨_, hs⟩⟩⟩
    · exact ⟨⟨⟨_, hs⟩, ⟨_, hi'⟩⟩, ⟨⟨_, hs⟩, ⟨_, hj'⟩⟩⟩
  · cases mn
    · show _ ≤ _ ∧ _ ≤ _
      rw [ev_val hs, ev_val hi', ev_val hj']
      show i ≤ (if i < j then j else i) ∧ j ≤ (if i < j then j else i)
      split <;> omega
    · show _ ≤ _ ∧ _ ≤ _
      rw [ev_val hs, ev_val hi', ev_val hj']
      show (if j < i then j else i) ≤ i ∧ (if j < i then j else i) ≤ j
      split <;> omega
  · exact ⟨⟨⟨_, hs⟩, ⟨_, hi'⟩⟩, ⟨⟨_, hs⟩, ⟨_, hj'⟩⟩⟩
  · show _ = _ ∨ _ = _
    rw [ev_val hs, ev_val hi', ev_val hj']
    exact hr1
/-! results -/
def ResR (P : Program) (σ : St) (rs : List ResultVar) (l : List SV) : Prop :=
  ∀ C E a w, Inv C E σ a w → ∃ us, DenL C E l us ∧ (rs.mapM (resOne a.tmps)).run P w = .ok us w
theorem calls_ok' {P : Program} {g : FuncId} {fn : Func} {c : Code} {σ : St} {args : List SV} {t : Tr (Option SV)} {o1 : COuts} {outs : Outs}
    (hf : P.funcs[g]? = some fn) (hb : fn.body = some c) (ht : argsT args 0 .nil = some t)
    (h : CodeOK P c { σ with sl := t, nt := args.length + (fn.ntmps - args.length) } o1)
    (hr : ∀ x σ1, (x, σ1) ∈ o1 → match x with
      | .normal | .ret => ∃ l, ResR P σ1 fn.results.toList l ∧ (resS l, { σ1 with sl := σ.sl, nt := σ.nt }) ∈ outs
      | _ => False) : CallsOK P g σ args outs := fun C E a w hi vs hvs R hout hR => by
  have hlen := denL_len hvs
  refine calls_of_wp hf hb (h C E _ w ?_ _ trivial fun x σ1 hx C1 E1 a1 w1 hC hE hi1 => ?_)
  · refine ⟨hi.wt, hi.hy, hi.ns, hi.no, hi.nb, by simp [hlen], fun j s hg => ?_, hi.hp, hi.inj, hi.lt, hi.fa, hi.rd, rfl⟩
    rcases argsT_get ht hg with ⟨_, h2⟩ | h2
    · rw [Nat.sub_zero] at h2
      obtain ⟨v, h3, h4⟩ := denL_get hvs h2
      have hjl := (List.getElem?_eq_some_iff.1 h3).1
      exact ⟨v, by rw [Array.getElem?_append_left (by simpa using hjl)]; simpa using h3, h4⟩
    · cases j <;> simp [get_nil] at h2
  · have hres := hr x σ1 hx
    have fin : (∃ l, ResR P σ1 fn.results.toList l ∧ (resS l, { σ1 with sl := σ.sl, nt := σ.nt }) ∈ outs) → a1.defers = [] ∧ ∃ v, (results fn a1.tmps).run P w1 = .ok v w1 ∧ R (.returned v) w1 := by
      rintro ⟨l, h1, h2⟩
      obtain ⟨us, h3, h4⟩ := h1 _ _ _ _ hi1
      refine ⟨hi1.dfr, _, results_run h4, hR _ _ h2 C1 E1 _ w1 hC hE ?_ (resS_den h3)⟩
      exact ⟨hi1.wt, hi1.hy, hi1.ns, hi1.no, hi1.nb, hi.nt, fun t s hg => by
        obtain ⟨v, e1, e2⟩ := hi.sl t s hg
        exact ⟨v, e1, den_mono hC hE _ _ e2⟩, hi1.hp, hi1.inj, hi1.lt, hi1.fa, hi1.rd, hi.dfr⟩
    cases x with
    | normal => exact fin hres
    | ret => exact fin hres
    | exit id => exact hres.elim
    | goto l => exact hres.elim
section
variable {E0 : Env} (hE0 : EnvOK E0)
/-- The results, in slots or in tracked cells. -/
noncomputable def resX (E0 : Env) (σ : St) : List ResultVar → Option (List SV)
  | [] => some []
  | .tmp t :: r => match get σ.sl t, resX E0 σ r with | some (some s), some l => some (s :: l) | _, _ => none
  | .cell p t :: r => match get σ.sl p, inf E0 t, resX E0 σ r with
    | some (some (.tptr id off)), some i, some l => (match σ.hp[id]? with
      | some (.cells _ m) => (match Nat.ble (off + i.size) m.length, packS i.agg ((m.drop off).take i.size) with | true, some s => some (s :: l) | _, _ => none)
      | some (.uni _ d n) => (match Nat.beq off 0 && (i.agg && Nat.beq i.size (n * d.size)) with | true => some (.agt (.rep n d) :: l) | false => none)
      | _ => none)
    | _, _, _ => none
include hE0
theorem resX_run {σ : St} : ∀ {rs : List ResultVar} {l : List SV}, resX E0 σ rs = some l → ResR E0.P σ rs l := by
  intro rs
  induction rs with
  | nil => intro l h; cases h; exact fun C E a w _ => ⟨[], by simp [DenL], rfl⟩
  | cons r rs ih =>
    intro l h C E a w hi
    cases r with
    | tmp t =>
      simp only [resX] at h
      split at h
      · rename_i s l' hs hl
        cases h
        obtain ⟨v, h1, h2⟩ := hi.sl t s hs
        obtain ⟨vs, h3, h4⟩ := ih hl C E a w hi
        refine ⟨v :: vs, by simp only [DenL]; exact ⟨v, vs, rfl, h2, h3⟩, ?_⟩
        simp [List.mapM_cons, resOne, h1, h4]
      · cases h
    | cell p t =>
      simp only [resX] at h
      split at h
      · rename_i id off i l' hs hinf hl
        obtain ⟨v, h1, h2⟩ := hi.sl p _ hs
        simp only [Den] at h2
        obtain ⟨b, hbb, rfl⟩ := h2
        obtain ⟨vs, h3, h4⟩ := ih hl C E a w hi
        have hp : a.tmps.getD p undef = .pointer (some ⟨b, off, none⟩) := by simp [h1]
        have fin : ∀ (s : SV) (v : Value), Den C E s v → (loadVar t ⟨b, off, none⟩).run E0.P w = .ok v w → s :: l' = l → ∃ us, DenL C E l us ∧ ((ResultVar.cell p t :: rs).mapM (resOne a.tmps)).run E0.P w = .ok us w := by
          rintro s v hd hr rfl
          refine ⟨v :: vs, by simp only [DenL]; exact ⟨v, vs, rfl, hd, h3⟩, ?_⟩
          simp [List.mapM_cons, resOne, hp, asAddr, hr, h4]
        split at h
        · rename_i ver m hm
          split at h
          · rename_i s hle hpk
            have hle := Nat.le_of_ble_eq_true hle
            obtain ⟨b', cs, e, q1, q2, q5, q6⟩ := cells_of hi hm
            rw [hbb] at q1; cases q1
            have hcl := denL_len q6
            have hd : DenL C E ((m.drop off).take i.size) ((cs.toList.drop off).take i.size) := denL_take (denL_drop q6 _) _
            have hlen : ((cs.toList.drop off).take i.size).length = i.size := by simp at hcl ⊢; omega
            have hv : ∀ j, j < i.size → w.cell? ⟨b, off + j, none⟩ = ((cs.toList.drop off).take i.size)[j]? := fun j hj => by
              rw [cell_of_row q5, List.getElem?_take_of_lt hj, List.getElem?_drop, Array.getElem?_toList]
            obtain ⟨r1, r2⟩ := run_loadVar hE0 hinf hlen hv
            generalize hus : (cs.toList.drop off).take i.size = us at *
            cases ha : i.agg with
            | true =>
              rw [ha] at hpk
              cases hpk
              exact fin (.agg ((m.drop off).take i.size)) (.agg us.toArray) (by simp only [Den]; exact ⟨us.toArray, rfl, by simpa using hd⟩) (r1 ha) (by cases h; rfl)
            | false =>
              rw [ha] at hpk
              unfold packS at hpk
              split at hpk
              · rename_i h0; cases h0
              · split at hpk
                · rename_i hs
                  cases hpk
                  rw [hs] at hd
                  simp only [DenL] at hd
                  obtain ⟨v, r, rfl, h1, rfl⟩ := hd
                  exact fin _ v h1 (r2 ha v rfl) (by cases h; rfl)
                · cases hpk
          · cases h
        · rename_i ver d n hm
          split at h
          · rename_i hc
            simp only [Bool.and_eq_true] at hc
            have ho := Nat.eq_of_beq_eq_true hc.1
            subst ho
            obtain ⟨b', cs, e, u, q1, q2, q3, q4, q5, q6, q7⟩ := uni_of hi hm
            rw [hbb] at q1; cases q1
            have hl : cs.toList.length = i.size := by rw [Nat.eq_of_beq_eq_true hc.2.2, ← inst_size q5]; simpa using q6
            have := (run_loadVar hE0 hinf hl (w := w) (b := b) (o := 0) fun j hj => by rw [cell_of_row q3, Nat.zero_add, Array.getElem?_toList]).1 hc.2.1
            exact fin (.agt (.rep n d)) (.agg cs) (by simp only [Den]; exact ⟨.rep n u, cs, by simp only [DT.inst, q5]; rfl, rfl, q6, q7⟩) (by simpa using this) (by cases h; rfl)
          · cases h
        · cases h
      · cases h
/-! arrays as literals -/
theorem op_buildSlice_agt {o : Oper} {σ : St} {t e : TypeId} {x : Operand} {j : AInfo} {m : Nat} {d : DT}
    (ho : o.op = .buildSlice t 1 #[(0, x)]) (hu : und E0 t = some (.slice e)) (hj : inf E0 e = some j) (hx : evS σ x = some (.agt (.rep m d))) (hs : j.size = m * d.size) (hja : 0 < j.size) (hb : Nat.ble j.size 1048576 = true) : OpOK E0.P o σ [(.tsl σ.hp.length 0 1, addB { σ with no := σ.no + 1 } (.uni σ.no d m))] := by
  refine opOK_step fun C E a w hinv => ?_
  have h1 := evS_den hinv hx
  simp only [Den] at h1
  obtain ⟨u, cs, hu', hev, hcs, hat⟩ := h1
  simp only [DT.inst, Option.map_eq_some_iff] at hu'
  obtain ⟨u', hu'', rfl⟩ := hu'
  obtain ⟨tj, z, dd, hio, _, _⟩ := inf_ok hE0 hj
  have hb := Nat.le_of_ble_eq_true hb
  have hcsz : cs.size = j.size := by rw [hcs, hs]; simp only [T.size, inst_size hu'']
  obtain ⟨E', e1, e2, e3⟩ := new_uni hinv hu'' hcs hat e
  refine ⟨.slice (some ⟨w.heap.size, 0, none⟩) 1 1, _, _, w.alloc (.cells cs e), ?_, List.mem_cons_self .., C, E', .refl _, e1, e2, by simp only [Den]; exact ⟨_, e3, rfl⟩⟩
  rw [exec_eq ho]
  simp only [execOp, Instr.buildSlice, Sem.run_bind, und_run hE0 hu, Result.andThen_ok, hio.sizeOf]
  rw [if_neg (by omega)]
  have hff : ∀ Z : Array Value, Z.size = j.size → Instr.fill (fun i => some (i * j.size, j.size)) Z (Array.map (fun x => (x.fst, a.eval x.snd)) #[(0, x)]).toList = some cs := by
    intro Z hZ
    have hf0 := foldl_set0 cs.toList Z 0 (by simp; omega)
    simp only [List.take_zero, List.nil_append, Nat.zero_add, Array.length_toList] at hf0
    rw [List.drop_of_length_le (by simp; omega), List.append_nil] at hf0
    rw [show (Array.map (fun x => (x.fst, a.eval x.snd)) #[(0, x)]).toList = [(0, a.eval x)] by simp, hev]
    unfold Instr.fill
    simp only [Nat.zero_mul]
    rw [if_neg (by have : (Value.agg cs).cells = cs := rfl; rw [this]; simp [hcsz, hZ])]
    unfold Instr.fill
    congr 1
    apply Array.toList_inj.1
    rw [← hf0, ← Array.foldl_toList, Array.toList_zipIdx]
    simp [Value.cells]
  have hnew : (newRow e cs).run E0.P w = .ok ⟨w.heap.size, 0, none⟩ (w.alloc (.cells cs e)) := rfl
  rw [Nat.one_mul]
  rw [if_neg (by omega)]
  simp only [Sem.run_bind, hio.zeroValue, Result.andThen_ok, Sem.run_pure]
  rw [hff _ (by simp)]
  simp [hnew]
omit hE0 in
/-- A literal's block is typed at once. -/
theorem typed_new {C : Cx} {E : Ev} {σ : St} {a : Act} {w : World} (hinv : Inv C E σ a w) {d : DT} {u : T} (hu : d.inst E.ρ = some u) {n : Nat} (hn : n ≤ maxLen) {cs : Array Value} (hs : cs.size = n * u.size) (hc : ∀ i v, cs[i]? = some v → ∃ t, u.cell (i % u.size) = some t ∧ At C t (Ty.one v)) (e : TypeId) :
    ∃ C' E', C.le C' ∧ E.le E' ∧ Inv C' E' (grown σ d (.c n)).2 a (w.alloc (.cells cs e)) ∧ Den C' E' (grown σ d (.c n)).1 (.slice (some ⟨w.heap.size, 0, none⟩) n n) := by
  have hRn : ∀ o, C.R w.heap.size o = none := fun o => by
    cases hq : C.R w.heap.size o with
    | none => rfl
    | some t => exact absurd (hinv.wt.R_lt hq) (Nat.lt_irrefl _)
  have hcell : ∀ o t, (if o < n * u.size then u.cell (o % u.size) else none) = some t → t.leaf = true ∧ ∃ v, cs[o]? = some v ∧ At C t (Ty.one v) := fun o t ho => by
    split at ho
    · rename_i hlt
      obtain ⟨t', q1, q2⟩ := hc o _ (Array.getElem?_eq_getElem (by omega : o < cs.size))
      rw [ho] at q1; cases q1
      exact ⟨cell_leaf _ _ _ ho, _, Array.getElem?_eq_getElem (by omega), q2⟩
    · cases ho
  have hwt1 : WT C (w.alloc (.cells cs e)) := hinv.wt.alloc _
  have hwt2 := hwt1.type (b := w.heap.size) hinv.wt.below.size (heap_alloc_new w _) hRn (fun o => if o < n * u.size then u.cell (o % u.size) else none) (fun o => if o < n * u.size then u.cell (o % u.size) else none)
    (fun o t ho => let ⟨q1, v, q2, _⟩ := hcell o t ho; ⟨q1, v, q2⟩) (fun o t ho => let ⟨_, v, q2, q3⟩ := hcell o t ho; ⟨ho, v, q2, q3⟩)
  have hle2 := hwt1.ext_le w.heap.size hRn (fun o => if o < n * u.size then u.cell (o % u.size) else none) (fun o => if o < n * u.size then u.cell (o % u.size) else none)
  have hi2 := inv_grow hinv hle2 hwt2 (by rw [Hs.alloc_size]; omega) (fun b' _ _ hb' => Below.heap_alloc w _ b' hb') (fun b' o' hb' => by show (if _ then _ else _) = _; exact if_neg (by omega)) (fun _ _ => rfl)
  obtain ⟨E', e1, e2, e3⟩ := grown_inv hi2 hu (n := .c n) rfl (A := some ⟨w.heap.size, 0, none⟩) (c := n) (.inr ⟨w.heap.size, 0, rfl, Nat.le_refl _, hinv.wt.below.size, fun i hi => by
    show (if _ then _ else _) = _
    rw [if_pos rfl, Nat.zero_add, if_pos hi], hn, fun i hi => by
    show (if _ then _ else _) = _
    rw [if_pos rfl, Nat.zero_add, if_pos hi]⟩) hn
  exact ⟨_, E', hle2, e1, e2, e3⟩
theorem buildSlice_run {o : Oper} {t e : TypeId} {n : Nat} {parts : Array (Nat × Operand)} {j : AInfo} {a : Act} {w : World} {C : Cx} {E : Ev} {σ : St} {ps : List (Nat × SV)} {zs l : List SV} (hinv : Inv C E σ a w)
    (ho : o.op = .buildSlice t n parts) (hu : und E0 t = some (.slice e)) (hj : inf E0 e = some j) (hp : evP σ parts.toList = some ps) (hz : ofScals (rexpand j.runs) = some zs) (hf : fillS (fun i => some (i * j.size, j.size)) ps (repS n zs) = some l)
    (hb : Nat.ble (n * j.bytes) 1048576 = true) (hsz : Nat.ble (n * j.size) 1048576 = true) : ∃ R : Array Value, DenL C E l R.toList ∧ (execOp a.eval o).run E0.P w = .ok (.value (.slice (some ⟨w.heap.size, 0, none⟩) n n)) (w.alloc (.cells R e)) := by
  obtain ⟨tj, z, d, hio, _, _⟩ := inf_ok hE0 hj
  have hb := Nat.le_of_ble_eq_true hb
  have hcap := Nat.le_of_ble_eq_true hsz
  have hz0 : z.cells.toList = rexpand j.runs := hio.runs.symm
  have hzs : z.cells.size = j.size := by rw [← hio.len, ← hz0]; simp
  let Z : Array Value := (Array.range (n * j.size)).map ((if n * j.size = 0 then #[] else z.cells)[· % (if n * j.size = 0 then #[] else z.cells).size]!)
  have hZ : Z.toList = repL n (rexpand j.runs) := by
    show ((Array.range (n * j.size)).map _).toList = _
    by_cases h0 : n * j.size = 0
    · rw [if_pos h0, h0]
      have : (repL n (rexpand j.runs)).length = 0 := by rw [repL_length, hio.len, h0]
      rw [List.eq_nil_of_length_eq_zero this]; simp
    · rw [if_neg h0, ← hz0]
      have := zeros_toList z.cells n (by left; rw [hzs]; exact Nat.pos_of_ne_zero fun e => h0 (by rw [e]; simp))
      rw [hzs] at this ⊢
      exact this
  have hzc : DenL C E (repS n zs) Z.toList := by rw [hZ]; exact repS_den (ofScals_den hz) n
  obtain ⟨h1, h2⟩ := evP_den hinv hp
  obtain ⟨R, h5, h6⟩ := fillS_ok h1 h2 hzc hf
  refine ⟨R, h6, ?_⟩
  rw [exec_eq ho]
  simp only [execOp, Instr.buildSlice, Sem.run_bind, und_run hE0 hu, Result.andThen_ok, hio.sizeOf]
  rw [if_neg (by omega)]
  have hff : ∀ zero : Array Value, zero = (if n * j.size = 0 then #[] else z.cells) →
      Instr.fill (fun i => some (i * j.size, j.size)) (Array.map (fun x => zero[x % zero.size]!) (Array.range (n * j.size))) (Array.map (fun x => (x.fst, a.eval x.snd)) parts).toList = some R := by
    intro zero hz; subst hz; rw [Array.toList_map]; exact h5
  have hnew : (newRow e R).run E0.P w = .ok ⟨w.heap.size, 0, none⟩ (w.alloc (.cells R e)) := rfl
  by_cases h0 : n * j.size = 0
  · rw [if_pos h0]
    simp only [Sem.run_bind, Sem.run_pure, Result.andThen_ok, hff #[] (by rw [if_pos h0]), hnew]
  · rw [if_neg h0]
    simp only [Sem.run_bind, hio.zeroValue, Result.andThen_ok, Sem.run_pure, hff z.cells (by rw [if_neg h0]), hnew]
theorem op_buildSliceT {o : Oper} {σ : St} {t e : TypeId} {n : Nat} {parts : Array (Nat × Operand)} {j : AInfo} {ps : List (Nat × SV)} {zs l : List SV} {d : DT} {gs : List Goal}
    (ho : o.op = .buildSlice t n parts) (hu : und E0 t = some (.slice e)) (hj : inf E0 e = some j) (hp : evP σ parts.toList = some ps) (hz : ofScals (rexpand j.runs) = some zs) (hf : fillS (fun i => some (i * j.size, j.size)) ps (repS n zs) = some l)
    (hb : Nat.ble (n * j.bytes) 1048576 = true) (hsz : Nat.ble (n * j.size) 1048576 = true) (hn : n ≤ 1048576) (_hds : d.size = j.size) (_hj0 : 1 ≤ j.size) (hdi : d.sc σ.ns = true) (hfit : fitN σ d n l = some gs) (hg : ∀ g ∈ gs, g.ok) : OpOK E0.P o σ [grown σ d (.c n)] := by
  refine opOK_step fun C E a w hinv => ?_
  obtain ⟨u, hu'⟩ := inst_of_inv hinv hdi
  obtain ⟨R, h1, h2⟩ := buildSlice_run hE0 hinv ho hu hj hp hz hf hb hsz
  obtain ⟨h3, h4⟩ := fitN_ok hinv.kn hu' hfit hg h1
  obtain ⟨C', E', e1, e2, e3, e4⟩ := typed_new hinv hu' (n := n) (by unfold maxLen; omega) (cs := R) (by simpa using h3) (fun i v hi => h4 i v (by rw [Array.getElem?_toList]; exact hi)) e
  exact ⟨_, _, _, _, h2, List.mem_cons_self .., C', E', e1, e2, e3, e4⟩
theorem op_buildSlice_agtT {o : Oper} {σ : St} {t e : TypeId} {x : Operand} {j : AInfo} {m : Nat} {d1 d : DT} {gs : List Goal}
    (ho : o.op = .buildSlice t 1 #[(0, x)]) (hu : und E0 t = some (.slice e)) (hj : inf E0 e = some j) (hx : evS σ x = some (.agt (.rep m d1))) (hs : j.size = m * d1.size) (hja : 0 < j.size) (hb : Nat.ble j.size 1048576 = true) (hds : d.size = j.size) (hdi : d.sc σ.ns = true) (hw : wkD σ.hy (.rep m d1) d = some gs) (hg : ∀ g ∈ gs, g.ok) :
    OpOK E0.P o σ [grown σ d (.c 1)] := by
  refine opOK_step fun C E a w hinv => ?_
  obtain ⟨ud, hud⟩ := inst_of_inv hinv hdi
  have h1 := evS_den hinv hx
  simp only [Den] at h1
  obtain ⟨u, cs, hu', hev, hcs, hat⟩ := h1
  obtain ⟨w1, w2⟩ := wkD_ok (fun h hh => (hinv.hy h hh).2) hw hg hu' hud hat
  obtain ⟨tj, z, dd, hio, _, _⟩ := inf_ok hE0 hj
  have hb := Nat.le_of_ble_eq_true hb
  have hcsz : cs.size = j.size := by rw [hcs, hs, inst_size hu']; rfl
  have husz : ud.size = j.size := (inst_size hud).trans hds
  obtain ⟨C', E', e1, e2, e3, e4⟩ := typed_new hinv hud (n := 1) (by unfold maxLen; omega) (cs := cs) (by omega) (fun i v hi => by
    have hil := (Array.getElem?_eq_some_iff.1 hi).1
    obtain ⟨t, ht⟩ := (cell_some ud i).1 (by omega)
    obtain ⟨v', p1, p2⟩ := (at_cells ud _).1 w1 i t ht
    rw [hi] at p1; cases p1
    exact ⟨t, by rw [Nat.mod_eq_of_lt (by omega)]; exact ht, p2⟩) e
  refine ⟨.slice (some ⟨w.heap.size, 0, none⟩) 1 1, _, _, w.alloc (.cells cs e), ?_, List.mem_cons_self .., C', E', e1, e2, e3, e4⟩
  rw [exec_eq ho]
  simp only [execOp, Instr.buildSlice, Sem.run_bind, und_run hE0 hu, Result.andThen_ok, hio.sizeOf]
  rw [if_neg (by omega)]
  have hff : ∀ Z : Array Value, Z.size = j.size → Instr.fill (fun i => some (i * j.size, j.size)) Z (Array.map (fun x => (x.fst, a.eval x.snd)) #[(0, x)]).toList = some cs := by
    intro Z hZ
    have hf0 := foldl_set0 cs.toList Z 0 (by simp; omega)
    simp only [List.take_zero, List.nil_append, Nat.zero_add, Array.length_toList] at hf0
    rw [List.drop_of_length_le (by simp; omega), List.append_nil] at hf0
    rw [show (Array.map (fun x => (x.fst, a.eval x.snd)) #[(0, x)]).toList = [(0, a.eval x)] by simp, hev]
    unfold Instr.fill
    simp only [Nat.zero_mul]
    rw [if_neg (by have : (Value.agg cs).cells = cs := rfl; rw [this]; simp [hcsz, hZ])]
    unfold Instr.fill
    congr 1
    apply Array.toList_inj.1
    rw [← hf0, ← Array.foldl_toList, Array.toList_zipIdx]
    simp [Value.cells]
  have hnew : (newRow e cs).run E0.P w = .ok ⟨w.heap.size, 0, none⟩ (w.alloc (.cells cs e)) := rfl
  rw [Nat.one_mul]
  rw [if_neg (by omega)]
  simp only [Sem.run_bind, hio.zeroValue, Result.andThen_ok, Sem.run_pure]
  rw [hff _ (by simp)]
  simp [hnew]
theorem op_append_uni {o : Oper} {σ : St} {s x : Operand} {st xt e e' : TypeId} {j : AInfo} {d1 d0 : DT} {k : Tm} {ss : SV} {id m ver : Nat} {g1 g2 : List Goal}
    (ho : o.op = .call { callee := .builtin .append, args := #[s, x], argTypes := #[st, xt] }) (hs : evS σ s = some ss) (hx : evS σ x = some (.tsl id 0 1)) (hst : und E0 st = some (.slice e)) (hxt : und E0 xt = some (.slice e')) (hj : inf E0 e = some j)
    (hds : (DT.rep m d0).size = j.size) (hj0 : 0 < j.size) (hb0 : 0 < j.bytes) (hbs : 1 * j.bytes + j.bytes ≤ 1048576)
    (hsmall : Goal.ok ⟨σ.hy, roomH k (.c 1) j.bytes⟩) (hbase : baseS (.rep m d0) σ.hy ss = some (k, g1)) (hg1 : ∀ g ∈ g1, g.ok) (hl : σ.hp[id]? = some (.uni ver d1 m)) (hn : wkD σ.hy (.rep m d1) (.rep m d0) = some g2) (hg2 : ∀ g ∈ g2, g.ok) (hdi : (DT.rep m d0).sc σ.ns = true) :
    OpOK E0.P o σ [grown σ (.rep m d0) (.add k (.c 1))] := by
  refine op_append_core hE0 (n := 1) ho hs hst hxt hj hds hj0 hb0 (by omega) hbs hsmall hbase hg1 (fun C E a w u hinv hu => ?_) (fun C E a w hi => inst_of_inv hi hdi)
  have hxd := evS_den hinv hx
  simp only [Den] at hxd
  obtain ⟨b, hbb, hxv⟩ := hxd
  obtain ⟨b', cs, ty, u1, q1, q2, q3, q4, q5, q6, q7⟩ := uni_of hinv hl
  rw [hbb] at q1; cases q1
  obtain ⟨hfree, _⟩ := tracked_free hinv hl (by intro e; cases e) hbb
  have hi1 : (DT.rep m d1).inst E.ρ = some (.rep m u1) := by simp only [DT.inst, q5]; rfl
  obtain ⟨w1, w2⟩ := wkD_ok (fun h hh => (hinv.hy h hh).2) hn hg2 hi1 hu q7
  have hus : u.size = j.size := (inst_size hu).trans hds
  have hcs : cs.size = u.size := by rw [q6, ← w2]; rfl
  have htake : (cs.toList.drop 0).take (1 * j.size) = cs.toList := by
    rw [List.drop_zero, List.take_of_length_le (by simp; omega)]
  refine ⟨b, 0, cs, ty, hxv, q3, hfree, ?_, fun i v hi => ?_⟩
  · rw [htake]; simp; omega
  · rw [htake, Array.getElem?_toList] at hi
    have hil := (Array.getElem?_eq_some_iff.1 hi).1
    obtain ⟨t, ht⟩ := (cell_some u i).1 (by omega)
    obtain ⟨v', p1, p2⟩ := (at_cells u _).1 w1 i t ht
    rw [hi] at p1; cases p1
    exact ⟨t, by rw [Nat.mod_eq_of_lt (by omega)]; exact ht, p2⟩
end
end Go.Vg
