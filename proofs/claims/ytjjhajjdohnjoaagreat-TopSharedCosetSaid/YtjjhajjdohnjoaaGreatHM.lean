/- Proved here, with no condition of its own: plain laws of memory: things that a call owns, maps. -/
import Derived.Test.YtjjhajjdohnjoaaGreatHA
import Derived.Maps.Own
import Derived.MapFrom
namespace Go.Hs
open Go Go.RowKit
/-- A thing of the call's own: it lies in one block, or in none. -/
structure Item where
  blk : Option Nat
  P : World → Prop
  stable : ∀ {w w' : World}, (∀ k, blk = some k → w'.heap[k]? = w.heap[k]?) → P w → P w'
  lt : ∀ {w : World} {k : Nat}, P w → blk = some k → k < w.heap.size
/-- Things of the call's own, apart from one another and from the blocks X (which stay). -/
structure Pool (w0 : World) (its : List Item) (X : Nat → Prop) (w : World) : Prop where
  below : Below w0.heap.size w0 w
  own : ∀ (i : Nat) it, its[i]? = some it → it.P w ∧ ∀ k, it.blk = some k → w0.heap.size ≤ k ∧ ¬ X k
  dis : ∀ (i j : Nat) it jt, its[i]? = some it → its[j]? = some jt → i ≠ j → ∀ k, it.blk = some k → jt.blk ≠ some k
  fx : ∀ k, X k → w0.heap.size ≤ k ∧ k < w.heap.size
section
variable {w0 w w' : World} {its : List Item} {X : Nat → Prop}
/-- Thing j changes; what else was there stays. -/
theorem Pool.step (h : Pool w0 its X w) {j : Nat} {it it' : Item} (hj : its[j]? = some it) (hs : ∀ k, k < w.heap.size → it.blk ≠ some k → w'.heap[k]? = w.heap[k]?) (hsz : w.heap.size ≤ w'.heap.size) (hos : w'.os = w.os) (hta : w'.tape = w.tape) (hou : w'.output = w.output)
    (hP : it'.P w') (hb : it'.blk = it.blk ∨ it'.blk = none ∨ ∃ k, it'.blk = some k ∧ w.heap.size ≤ k) : Pool w0 (its.set j it') X w' := by
  have hjl : j < its.length := (List.getElem?_eq_some_iff.1 hj).1
  have hbs := h.below.size
  have at_ : ∀ i it2, (its.set j it')[i]? = some it2 → (i = j ∧ it2 = it') ∨ (i ≠ j ∧ its[i]? = some it2) := fun i it2 hi => by
    by_cases e : i = j
    · subst e
      rw [List.getElem?_set_self hjl] at hi
      exact .inl ⟨rfl, (Option.some.inj hi).symm⟩
    · rw [List.getElem?_set_ne (Ne.symm e)] at hi
      exact .inr ⟨e, hi⟩
  have old : ∀ k, k < w0.heap.size → it.blk ≠ some k := fun k hk e => by have := ((h.own j it hj).2 k e).1; omega
  refine ⟨⟨hos.trans h.below.os, hta.trans h.below.tape, hou.trans h.below.output, by omega, fun k hk => (hs k (by omega) (old k hk)).trans (h.below.block k hk)⟩, fun i it2 hi => ?_, fun i l it2 jt2 hi hl hil k hk hk2 => ?_, fun k hk => ⟨(h.fx k hk).1, by have := (h.fx k hk).2; omega⟩⟩
  · rcases at_ i it2 hi with ⟨rfl, rfl⟩ | ⟨hne, hi2⟩
    · refine ⟨hP, fun k hk => ?_⟩
      rcases hb with hb | hb | ⟨q, hq, hq2⟩
      · exact (h.own i it hj).2 k (hb ▸ hk)
      · rw [hb] at hk; cases hk
      · rw [hq] at hk; cases hk
        exact ⟨by omega, fun hx => by have := (h.fx k hx).2; omega⟩
    · obtain ⟨h1, h2⟩ := h.own i it2 hi2
      exact ⟨it2.stable (fun k hk => hs k (it2.lt h1 hk) (fun e => h.dis i j it2 it hi2 hj hne k hk e)) h1, h2⟩
  · rcases at_ i it2 hi with ⟨rfl, rfl⟩ | ⟨hne, hi2⟩ <;> rcases at_ l jt2 hl with ⟨rfl, rfl⟩ | ⟨hne2, hl2⟩
    · exact hil rfl
    · rcases hb with hb | hb | ⟨q, hq, hq2⟩
      · exact h.dis i l it jt2 hj hl2 hil k (hb ▸ hk) hk2
      · rw [hb] at hk; cases hk
      · rw [hq] at hk; cases hk
        have := jt2.lt (h.own l jt2 hl2).1 hk2
        omega
    · rcases hb with hb | hb | ⟨q, hq, hq2⟩
      · exact h.dis i l it2 it hi2 hj hil k hk (hb ▸ hk2)
      · rw [hb] at hk2; cases hk2
      · rw [hq] at hk2; cases hk2
        have := it2.lt (h.own i it2 hi2).1 hk
        omega
    · exact h.dis i l it2 jt2 hi2 hl2 hil k hk hk2
/-- What X holds stays as it is. -/
theorem Pool.stepX (h : Pool w0 its X w) {j : Nat} {it : Item} (hj : its[j]? = some it) (hs : ∀ k, k < w.heap.size → it.blk ≠ some k → w'.heap[k]? = w.heap[k]?) : ∀ k, X k → w'.heap[k]? = w.heap[k]? :=
  fun k hk => hs k (h.fx k hk).2 fun e => ((h.own j it hj).2 k e).2 hk
/-- Nothing of it changes. -/
theorem Pool.ext (h : Pool w0 its X w) (hb : Below w.heap.size w w') : Pool w0 its X w' :=
  ⟨h.below.trans (hb.mono h.below.size), fun i it hi => ⟨it.stable (fun k hk => hb.block k (it.lt (h.own i it hi).1 hk)) (h.own i it hi).1, (h.own i it hi).2⟩, h.dis, fun k hk => ⟨(h.fx k hk).1, by have := (h.fx k hk).2; have := hb.size; omega⟩⟩
theorem Pool.drewN (h : Pool w0 its X w) (n : Nat) : Pool w0 its X (w.drewN n) :=
  h.ext ⟨rfl, rfl, rfl, Nat.le_refl _, fun _ _ => rfl⟩
/-- A new thing. -/
theorem Pool.push (h : Pool w0 its X w) (hb : Below w.heap.size w w') {it : Item} (hP : it.P w') (hk : ∀ k, it.blk = some k → w.heap.size ≤ k) : Pool w0 (its ++ [it]) X w' := by
  have h' := h.ext hb
  have at_ : ∀ i it2, (its ++ [it])[i]? = some it2 → (its[i]? = some it2) ∨ (i = its.length ∧ it2 = it) := fun i it2 hi => by
    by_cases e : i < its.length
    · rw [List.getElem?_append_left e] at hi; exact .inl hi
    · rw [List.getElem?_append_right (by omega)] at hi
      have := (List.getElem?_eq_some_iff.1 hi).1
      simp at this
      have e2 : i = its.length := by omega
      rw [e2, Nat.sub_self] at hi
      exact .inr ⟨e2, (Option.some.inj hi).symm⟩
  have hbs := h.below.size
  refine ⟨h'.below, fun i it2 hi => ?_, fun i j it2 jt2 hi hj hij k h1 h2 => ?_, h'.fx⟩
  · rcases at_ i it2 hi with hi | ⟨_, rfl⟩
    · exact h'.own i it2 hi
    · exact ⟨hP, fun k hk2 => ⟨by have := hk k hk2; omega, fun hx => by have := (h.fx k hx).2; have := hk k hk2; omega⟩⟩
  · rcases at_ i it2 hi with hi3 | ⟨e1, rfl⟩ <;> rcases at_ j jt2 hj with hj3 | ⟨e2, rfl⟩
    · exact h.dis i j it2 jt2 hi3 hj3 hij k h1 h2
    · have := it2.lt (h.own i it2 hi3).1 h1
      have := hk k h2
      omega
    · have := jt2.lt (h.own j jt2 hj3).1 h2
      have := hk k h1
      omega
    · exact hij (e1.trans e2.symm)
/-- Thing j is done: its block is one of those that stay. -/
theorem Pool.done (h : Pool w0 its X w) {j : Nat} {it it' : Item} (hj : its[j]? = some it) (hb : it'.blk = none) (hP : it'.P w) : Pool w0 (its.set j it') (fun k => X k ∨ it.blk = some k) w := by
  have hjl : j < its.length := (List.getElem?_eq_some_iff.1 hj).1
  have at_ : ∀ i it2, (its.set j it')[i]? = some it2 → (i = j ∧ it2 = it') ∨ (i ≠ j ∧ its[i]? = some it2) := fun i it2 hi => by
    by_cases e : i = j
    · subst e
      rw [List.getElem?_set_self hjl] at hi
      exact .inl ⟨rfl, (Option.some.inj hi).symm⟩
    · rw [List.getElem?_set_ne (Ne.symm e)] at hi
      exact .inr ⟨e, hi⟩
  refine ⟨h.below, fun i it2 hi => ?_, fun i l it2 jt2 hi hl hil k hk hk2 => ?_, fun k hk => ?_⟩
  · rcases at_ i it2 hi with ⟨_, rfl⟩ | ⟨hne, hi2⟩
    · exact ⟨hP, fun k hk => by rw [hb] at hk; cases hk⟩
    · exact ⟨(h.own i it2 hi2).1, fun k hk => ⟨((h.own i it2 hi2).2 k hk).1, fun hx => hx.elim (((h.own i it2 hi2).2 k hk).2) (fun e => h.dis i j it2 it hi2 hj hne k hk e)⟩⟩
  · rcases at_ i it2 hi with ⟨_, rfl⟩ | ⟨_, hi2⟩
    · rw [hb] at hk; cases hk
    · rcases at_ l jt2 hl with ⟨_, rfl⟩ | ⟨_, hl2⟩
      · rw [hb] at hk2; cases hk2
      · exact h.dis i l it2 jt2 hi2 hl2 hil k hk hk2
  · rcases hk with hk | hk
    · exact h.fx k hk
    · exact ⟨((h.own j it hj).2 k hk).1, it.lt (h.own j it hj).1 hk⟩
end
theorem ownsRow_at {w w' : World} {base n : Nat} {e : TypeId} {v : Value} {xs : List Value} (h : w.ownsRow base e 1 v n xs) (hs : ∀ k, v.ownBlock = some k → w'.heap[k]? = w.heap[k]?) : w'.ownsRow base e 1 v n xs := by
  refine ⟨h.1, ?_⟩
  rcases h.2 with h1 | ⟨g, cap, cur, rfl, q1, q2, q3⟩
  · exact .inl h1
  · exact .inr ⟨g, cap, cur, rfl, q1, (hs g rfl).trans q2, q3⟩
/-- A row of the call's own. -/
def rowI (base : Nat) (e : TypeId) (v : Value) (xs : List Value) : Item where
  blk := v.ownBlock
  P w := w.ownsRow base e 1 v xs.length xs
  stable hs h := ownsRow_at h hs
  lt h hk := (h.lt _ hk).2
/-- A map from ints to ints of the call's own. -/
def IMap (w : World) (b : Nat) (M : List (Int × Int)) : Prop :=
  ∃ es clock, w.heap[b]? = some (.map es clock) ∧ es.toList.map (fun e => (e.key, e.val)) = M.map fun p => (Value.int .i64 p.1, Value.int .i64 p.2)
def mapI (b : Nat) (M : List (Int × Int)) : Item where
  blk := some b
  P w := IMap w b M
  stable hs := fun ⟨es, c, h1, h2⟩ => ⟨es, c, (hs b rfl).trans h1, h2⟩
  lt := fun ⟨es, c, h1, h2⟩ hk => by cases hk; exact (Array.getElem?_eq_some_iff.1 h1).1
/-- A block known whole. -/
def boxI (b : Nat) (cs : Array Value) (t : TypeId) : Item where
  blk := some b
  P w := w.heap[b]? = some (.cells cs t)
  stable hs h := (hs b rfl).trans h
  lt h hk := by cases hk; exact (Array.getElem?_eq_some_iff.1 h).1
def nilI : Item where
  blk := none
  P _ := True
  stable _ _ := trivial
  lt _ hk := by cases hk
end Go.Hs
namespace Go.Hs
open Go Go.RowKit Go.MapKept
def imHas (M : List (Int × Int)) (x : Int) : Bool := M.any fun p => p.1 == x
def imGet (M : List (Int × Int)) (x : Int) : Int := match M.find? (fun p => p.1 == x) with | some p => p.2 | none => 0
theorem isKey_int (x : Int) : IsKey (.int .i64) (.int .i64 x) := rfl
theorem findNow_imap (x : Int) : ∀ (l : List MapEntry) (M : List (Int × Int)) (i : Nat), l.map (fun e => (e.key, e.val)) = M.map (fun p => (Value.int .i64 p.1, Value.int .i64 p.2)) →
    (imHas M x = true → ∃ j, Instr.findNow (.int .i64) (.int .i64 x) l i = some (some (j, .int .i64 (imGet M x)))) ∧ (imHas M x = false → Instr.findNow (.int .i64) (.int .i64 x) l i = some none)
  | [], [], i, _ => ⟨fun h => by simp [imHas] at h, fun _ => rfl⟩
  | [], _ :: _, _, h => by simp at h
  | _ :: _, [], _, h => by simp at h
  | e :: l, p :: M, i, h => by
    simp only [List.map_cons, List.cons.injEq, Prod.mk.injEq] at h
    obtain ⟨⟨h1, h2⟩, h3⟩ := h
    obtain ⟨k1, k2⟩ := findNow_imap x l M (i + 1) h3
    unfold Instr.findNow
    rw [h1, h2]
    simp only [Instr.sameNow, if_true]
    by_cases hx : p.1 = x
    · have : (x == p.1) = true := by simp [hx]
      rw [this]
      refine ⟨fun _ => ⟨i, ?_⟩, fun h => ?_⟩
      · simp [imGet, hx]
      · simp [imHas, hx] at h
    · have : (x == p.1) = false := by simp; exact fun e => hx e.symm
      rw [this]
      have hx2 : (p.1 == x) = false := by simp [hx]
      refine ⟨fun h => ?_, fun h => ?_⟩
      · have : imHas M x = true := by simpa [imHas, hx2] using h
        obtain ⟨j, hj⟩ := k1 this
        exact ⟨j, by simp only [hj, imGet, List.find?_cons, hx2]⟩
      · have : imHas M x = false := by simpa [imHas, hx2] using h
        exact k2 this
section
variable {P : Program} {w : World} {t kt et : TypeId} {b : Nat} {M : List (Int × Int)}
theorem run_lookup_imap (ht : P.underlying t = some (.map kt et)) (hk : P.underlying kt = some (.int .i64)) (hz : (zeroValue et).run P w = .ok (.int .i64 0) w) (h : IMap w b M) (x : Int) (ok : Bool) :
    (Instr.lookup t (.map (some b)) (.int .i64 x) ok).run P w = .ok (if ok then .tuple #[.int .i64 (imGet M x), .bool (imHas M x)] else .int .i64 (imGet M x)) w := by
  obtain ⟨es, c, hb, hes⟩ := h
  obtain ⟨k1, k2⟩ := findNow_imap x es.toList M 0 hes
  cases hh : imHas M x with
  | true =>
    obtain ⟨j, hj⟩ := k1 hh
    simp [Instr.lookup, run_underlying ht, MapKept.run_getObj_map hb, MapKept.run_checkKey hk (isKey_int x), MapKept.run_findKey hk hj, Result.andThen]
  | false =>
    have hj := k2 hh
    have h0 : imGet M x = 0 := by
      unfold imGet
      have : M.find? (fun p => p.1 == x) = none := by
        rw [List.find?_eq_none]
        intro p hp
        unfold imHas at hh
        rw [List.any_eq_false] at hh
        exact hh p hp
      rw [this]
    rw [h0]
    simp [Instr.lookup, run_underlying ht, MapKept.run_getObj_map hb, MapKept.run_checkKey hk (isKey_int x), MapKept.run_findKey hk hj, hz, Result.andThen]
theorem run_update_imap (ht : P.underlying t = some (.map kt et)) (hk : P.underlying kt = some (.int .i64)) (h : IMap w b M) (x y : Int) (hno : imHas M x = false) :
    ∃ w', (Instr.mapUpdate t (.map (some b)) (.int .i64 x) (.int .i64 y)).run P w = .ok () w' ∧ IMap w' b (M ++ [(x, y)]) ∧ w.grownBy w' (some b) ∧ w'.heap.size = w.heap.size := by
  obtain ⟨es, c, hb, hes⟩ := h
  have hj := (findNow_imap x es.toList M 0 hes).2 hno
  refine ⟨_, by simp [Instr.mapUpdate, run_underlying ht, MapKept.run_getObj_map hb, MapKept.run_checkKey hk (isKey_int x), MapKept.run_findKey hk hj, MapKept.run_setObj_map _ hb, Result.andThen]; rfl, ?_, ?_, ?_⟩
  · refine ⟨_, _, (MapKept.heap_set hb).1, ?_⟩
    simp [hes]
  · refine ⟨rfl, rfl, rfl, by simp, fun k hk hne => ?_⟩
    simp only []
    rw [Array.getElem?_setIfInBounds_ne (fun e => hne (by rw [e]))]
  · simp
end
end Go.Hs
namespace Go.Hs
open Go Go.RowKit
theorem nodup_le : ∀ (n : Nat) (l : List Nat), l.Nodup → (∀ x ∈ l, x < n) → l.length ≤ n
  | 0, l, _, h => by cases l with | nil => simp | cons a r => exact absurd (h a (by simp)) (by omega)
  | n + 1, l, hd, h => by
    have h1 : (l.filter (fun x => x != n)).length ≤ n := by
      refine nodup_le n _ (hd.filter _) fun x hx => ?_
      rw [List.mem_filter] at hx
      have := h x hx.1
      have h2 : x ≠ n := by simpa using hx.2
      omega
    have h2 : l.length ≤ (l.filter (fun x => x != n)).length + 1 := by
      clear h h1
      induction l with
      | nil => simp
      | cons a r ih =>
        rw [List.nodup_cons] at hd
        by_cases ha : a = n
        · subst ha
          have : r.filter (fun x => x != a) = r := by
            rw [List.filter_eq_self]
            intro x hx
            simp
            intro e
            exact hd.1 (e ▸ hx)
          rw [List.filter_cons_of_neg (by simp), this]
          simp
        · rw [List.filter_cons_of_pos (by simp [ha])]
          have := ih hd.2
          simp only [List.length_cons]
          omega
    omega
theorem nodup_int {n : Nat} {l : List Int} (hd : l.Nodup) (h : ∀ x ∈ l, 0 ≤ x ∧ x < (n : Int)) : l.length ≤ n := by
  have h1 : (l.map Int.toNat).Nodup := by
    unfold List.Nodup at *
    rw [List.pairwise_map]
    refine List.Pairwise.imp_of_mem (fun {a b} ha hb hne e => hne ?_) hd
    have := h a ha
    have := h b hb
    omega
  have h2 := nodup_le n (l.map Int.toNat) h1 fun x hx => by
    obtain ⟨y, hy, rfl⟩ := List.mem_map.1 hx
    have := h y hy
    omega
  simpa using h2
/-- What has been numbered: each coset once. -/
structure Numbered (n : Nat) (M : List (Int × Int)) (ord : List Int) : Prop where
  keys : M.map Prod.fst = ord
  nodup : ord.Nodup
  range : ∀ x ∈ ord, 0 ≤ x ∧ x < (n : Int)
theorem Numbered.le {n : Nat} {M : List (Int × Int)} {ord : List Int} (h : Numbered n M ord) : ord.length ≤ n := nodup_int h.nodup h.range
theorem has_iff {M : List (Int × Int)} {x : Int} : imHas M x = true ↔ x ∈ M.map Prod.fst := by
  unfold imHas
  rw [List.any_eq_true, List.mem_map]
  constructor
  · rintro ⟨p, hp, e⟩; exact ⟨p, hp, by simpa using e⟩
  · rintro ⟨p, hp, e⟩; exact ⟨p, hp, by simpa using e⟩
theorem Numbered.add {n : Nat} {M : List (Int × Int)} {ord : List Int} (h : Numbered n M ord) {x y : Int} (hno : imHas M x = false) (hx : 0 ≤ x ∧ x < (n : Int)) : Numbered n (M ++ [(x, y)]) (ord ++ [x]) := by
  have hni : x ∉ ord := by
    rw [← h.keys, ← has_iff, hno]; simp
  refine ⟨by simp [h.keys], ?_, fun z hz => ?_⟩
  · rw [List.nodup_append]
    refine ⟨h.nodup, by simp, fun a ha b hb => ?_⟩
    simp at hb
    subst hb
    intro e; exact hni (e ▸ ha)
  · rcases List.mem_append.1 hz with hz | hz
    · exact h.range z hz
    · simp at hz; subst hz; exact hx
/-- A finished row. -/
def RowsDone (w : World) (vals : List Value) (X : Nat → Prop) : Prop := ∀ (i : Nat) u, vals[i]? = some u → ∃ A c, ∃ xs : List Int, u = .slice A xs.length c ∧ xs.length ≤ maxLen ∧ Elems (kInt .i64) w A xs X
theorem RowsDone.keep {w w' : World} {vals : List Value} {X : Nat → Prop} (h : RowsDone w vals X) (hs : ∀ k, X k → w'.heap[k]? = w.heap[k]?) : RowsDone w' vals X := fun i u hu => by
  obtain ⟨A, c, xs, h1, h2, h3⟩ := h i u hu
  exact ⟨A, c, xs, h1, h2, h3.same hs⟩
theorem ownsRow_block {w : World} {base g : Nat} {e : TypeId} {cur : Array Value} (hg : w.heap[g]? = some (.cells cur e)) (hb : base ≤ g) (hm : cur.size ≤ maxLen) : w.ownsRow base e 1 (.slice (some ⟨g, 0, none⟩) cur.size cur.size) cur.size cur.toList :=
  ⟨by simp, .inr ⟨g, cur.size, cur, rfl, hb, hg, Nat.le_refl _, hm, by simp, by rw [Nat.mul_one]; exact List.take_of_length_le (by simp)⟩⟩
theorem rowI_app {w0 w w' W : World} {its : List Item} {X : Nat → Prop} {j g cap n : Nat} {e : TypeId} {v : Value} {xs news : List Value} (h : Pool w0 its X w) (hj : its[j]? = some (rowI w0.heap.size e v xs)) (hW : Below w.heap.size w W)
    (h1 : w'.ownsRow w0.heap.size e 1 (.slice (some ⟨g, 0, none⟩) n cap) n (xs ++ news)) (h2 : W.grownBy w' v.ownBlock) (h3 : v.ownBlock = some g ∨ g = W.heap.size) (hn : (xs ++ news).length = n) :
    Pool w0 (its.set j (rowI w0.heap.size e (.slice (some ⟨g, 0, none⟩) n cap) (xs ++ news))) X w' ∧ (∀ k, X k → w'.heap[k]? = w.heap[k]?) := by
  have hz := hW.size
  have hs : ∀ k, k < w.heap.size → (rowI w0.heap.size e v xs).blk ≠ some k → w'.heap[k]? = w.heap[k]? := fun k hk hne => (h2.block k (by omega) (Ne.symm hne)).trans (hW.block k hk)
  refine ⟨h.step hj hs (Nat.le_trans hz h2.size) (h2.os.trans hW.os) (h2.tape.trans hW.tape) (h2.output.trans hW.output) ?_ ?_, h.stepX hj hs⟩
  · show w'.ownsRow _ _ _ _ (xs ++ news).length _
    rw [hn]; exact h1
  · rcases h3 with h3 | h3
    · exact .inl h3.symm
    · exact .inr (.inr ⟨g, rfl, by omega⟩)
/-- At the head of the loop over the order. -/
structure StdO (n : Nat) (w : World) (bm k : Nat) (M : List (Int × Int)) (ord : List Int) (vo vt : Value) (vals : List Value) (X : Nat → Prop) (wr : World) : Prop where
  num : Numbered n M ord
  pool : Pool w [mapI bm M, rowI w.heap.size 3 vo (ord.map (.int .i64)), rowI w.heap.size 49 vt vals] X wr
  kle : k ≤ ord.length
  len : vals.length = k
  rows : RowsDone wr vals X
/-- At the head of the loop over a row. -/
structure StdI (n : Nat) (w : World) (bm k q : Nat) (M : List (Int × Int)) (ord : List Int) (vo vt vr : Value) (vals : List Value) (ys : List Int) (X : Nat → Prop) (wr : World) : Prop where
  num : Numbered n M ord
  pool : Pool w [mapI bm M, rowI w.heap.size 3 vo (ord.map (.int .i64)), rowI w.heap.size 49 vt vals, rowI w.heap.size 3 vr (ys.map (.int .i64))] X wr
  klt : k < ord.length
  len : vals.length = k
  rows : RowsDone wr vals X
  ysl : ys.length = q
section
variable {n : Nat} {w wr : World} {bm k q : Nat} {M : List (Int × Int)} {ord : List Int} {vo vt vr : Value} {vals : List Value} {ys : List Int} {X : Nat → Prop}
theorem StdI.below (h : StdI n w bm k q M ord vo vt vr vals ys X wr) : Below w.heap.size w wr := h.pool.below
theorem StdI.map (h : StdI n w bm k q M ord vo vt vr vals ys X wr) : IMap wr bm M := (h.pool.own 0 _ rfl).1
theorem StdI.order (h : StdI n w bm k q M ord vo vt vr vals ys X wr) : wr.ownsRow w.heap.size 3 1 vo ord.length (ord.map (.int .i64)) := by
  have := (h.pool.own 1 _ rfl).1
  have e : (ord.map (Value.int .i64)).length = ord.length := by simp
  rw [← e]; exact this
theorem StdI.row (h : StdI n w bm k q M ord vo vt vr vals ys X wr) : wr.ownsRow w.heap.size 3 1 vr q (ys.map (.int .i64)) := by
  have := (h.pool.own 3 _ rfl).1
  have e : (ys.map (Value.int .i64)).length = q := by rw [List.length_map, h.ysl]
  rw [← e]; exact this
theorem std_start {n : Nat} {w w1 w2 : World} {base : Int} {t : TypeId} (hb : Below w.heap.size w w1) (hm : IMap w2 w1.heap.size [(base, 0)]) (hg : (w1.alloc (.map #[] 0)).grownBy w2 (some w1.heap.size)) (hbase : 0 ≤ base ∧ base < (n : Int)) (ht : t = 49) :
    StdO n w w1.heap.size 0 [(base, 0)] [base] (.slice (some ⟨w2.heap.size, 0, none⟩) 1 1) (.slice (some ⟨w2.heap.size + 1, 0, none⟩) 0 0) [] (fun _ => False) ((w2.alloc (.cells #[.int .i64 base] 3)).alloc (.cells #[] t)) := by
  subst ht
  have hs1 : (w1.alloc (.map #[] 0)).heap.size = w1.heap.size + 1 := alloc_size _ _
  have hz := hg.size
  rw [hs1] at hz
  have b12 : Below w1.heap.size w1 w2 := ⟨hg.os, hg.tape, hg.output, by omega, fun k hk => (hg.block k (by omega) (by intro e; cases e; omega)).trans (Below.heap_alloc _ _ _ hk)⟩
  have p0 : Pool w [] (fun _ => False) w1 := ⟨hb, (fun i it hi => by cases hi), (fun i j it jt hi => by cases hi), (fun _ h => h.elim)⟩
  have p1 := p0.push b12 (it := mapI w1.heap.size [(base, 0)]) hm fun k hk => by cases hk; exact Nat.le_refl _
  have b23 : Below w2.heap.size w2 (w2.alloc (.cells #[.int .i64 base] 3)) := (Below.refl _ _).alloc (Nat.le_refl _) _
  have hw2 : w.heap.size ≤ w2.heap.size := p1.below.size
  have p2 := p1.push b23 (it := rowI w.heap.size 3 (.slice (some ⟨w2.heap.size, 0, none⟩) 1 1) [.int .i64 base]) (ownsRow_block (box1 _) hw2 (by show 1 ≤ maxLen; unfold maxLen; omega)) fun k hk => by cases hk; exact Nat.le_refl _
  have b34 : Below (w2.alloc (.cells #[.int .i64 base] 3)).heap.size (w2.alloc (.cells #[.int .i64 base] 3)) ((w2.alloc (.cells #[.int .i64 base] 3)).alloc (.cells #[] 49)) := (Below.refl _ _).alloc (Nat.le_refl _) _
  have hs3 : (w2.alloc (.cells #[.int .i64 base] 3)).heap.size = w2.heap.size + 1 := alloc_size _ _
  have hrow := ownsRow_block (w := (w2.alloc (.cells #[.int .i64 base] 3)).alloc (.cells #[] 49)) (base := w.heap.size) (box1 _) (by rw [hs3]; omega) (by decide)
  rw [hs3] at hrow
  have p3 := p2.push b34 (it := rowI w.heap.size 49 (.slice (some ⟨w2.heap.size + 1, 0, none⟩) 0 0) []) hrow fun k hk => by cases hk; rw [hs3]; exact Nat.le_refl _
  exact ⟨⟨rfl, by simp, fun x hx => by simp at hx; subst hx; exact hbase⟩, p3, Nat.zero_le _, rfl, fun i u hu => by simp at hu⟩
/-- A coset is numbered. -/
theorem StdI.put {w' : World} {x y : Int} (h : StdI n w bm k q M ord vo vt vr vals ys X wr) (h1 : IMap w' bm (M ++ [(x, y)])) (h2 : wr.grownBy w' (some bm)) :
    Pool w [mapI bm (M ++ [(x, y)]), rowI w.heap.size 3 vo (ord.map (.int .i64)), rowI w.heap.size 49 vt vals, rowI w.heap.size 3 vr (ys.map (.int .i64))] X w' ∧ RowsDone w' vals X ∧ w'.ownsRow w.heap.size 3 1 vo ord.length (ord.map (.int .i64)) := by
  have hs : ∀ k, k < wr.heap.size → (mapI bm M).blk ≠ some k → w'.heap[k]? = wr.heap[k]? := fun k hk hne => h2.block k hk (Ne.symm hne)
  have hp := h.pool.step (j := 0) (it := mapI bm M) (it' := mapI bm (M ++ [(x, y)])) rfl hs h2.size h2.os h2.tape h2.output h1 (.inl rfl)
  refine ⟨hp, h.rows.keep (h.pool.stepX (j := 0) rfl hs), ?_⟩
  have := (hp.own 1 _ rfl).1
  have e : (ord.map (Value.int .i64)).length = ord.length := by simp
  rw [← e]; exact this
/-- .. and laid into the order. -/
theorem std_ord {w5 w6 : World} {x y : Int} {g cap : Nat} {t : TypeId} (hN : Numbered n M ord) (hk : k < ord.length) (hl : vals.length = k) (hys : ys.length = q) (hno : imHas M x = false) (hx : 0 ≤ x ∧ x < (n : Int))
    (hp : Pool w [mapI bm (M ++ [(x, y)]), rowI w.heap.size 3 vo (ord.map (.int .i64)), rowI w.heap.size 49 vt vals, rowI w.heap.size 3 vr (ys.map (.int .i64))] X w5) (hr : RowsDone w5 vals X)
    (h1 : w6.ownsRow w.heap.size 3 1 (.slice (some ⟨g, 0, none⟩) (ord.length + 1) cap) (ord.length + 1) (ord.map (.int .i64) ++ [.int .i64 x])) (h2 : (w5.alloc (.cells #[.int .i64 x] t)).grownBy w6 vo.ownBlock) (h3 : vo.ownBlock = some g ∨ g = w5.heap.size + 1) :
    StdI n w bm k q (M ++ [(x, y)]) (ord ++ [x]) (.slice (some ⟨g, 0, none⟩) (ord.length + 1) cap) vt vr vals ys X w6 := by
  have hW : Below w5.heap.size w5 (w5.alloc (.cells #[.int .i64 x] t)) := (Below.refl _ _).alloc (Nat.le_refl _) _
  have hpp := rowI_app hp (j := 1) rfl hW h1 h2 (by rw [alloc_size]; exact h3) (by simp)
  refine ⟨hN.add hno hx, ?_, by simp; omega, hl, hr.keep hpp.2, hys⟩
  have := hpp.1
  rw [List.map_append]
  exact this
/-- The number is laid into the row. -/
theorem StdI.add {w7 : World} {x : Int} {g cap : Nat} {t : TypeId} (h : StdI n w bm k q M ord vo vt vr vals ys X wr)
    (h1 : w7.ownsRow w.heap.size 3 1 (.slice (some ⟨g, 0, none⟩) (q + 1) cap) (q + 1) (ys.map (.int .i64) ++ [.int .i64 x])) (h2 : (wr.alloc (.cells #[.int .i64 x] t)).grownBy w7 vr.ownBlock) (h3 : vr.ownBlock = some g ∨ g = wr.heap.size + 1) :
    StdI n w bm k (q + 1) M ord vo vt (.slice (some ⟨g, 0, none⟩) (q + 1) cap) vals (ys ++ [x]) X w7 := by
  have hW : Below wr.heap.size wr (wr.alloc (.cells #[.int .i64 x] t)) := (Below.refl _ _).alloc (Nat.le_refl _) _
  have hpp := rowI_app h.pool (j := 3) rfl hW h1 h2 (by rw [alloc_size]; exact h3) (by simp [h.ysl])
  refine ⟨h.num, ?_, h.klt, h.len, h.rows.keep hpp.2, by simp [h.ysl]⟩
  have := hpp.1
  rw [List.map_append]
  exact this
/-- A row begins. -/
theorem StdO.row {W : World} {cs : Array Value} {cap : Nat} (h : StdO n w bm k M ord vo vt vals X wr) (hk : k < ord.length) (hW : W = wr.alloc (.cells cs 3)) (hc : cs.size = cap) (hm : cap ≤ maxLen) : StdI n w bm k 0 M ord vo vt (.slice (some ⟨wr.heap.size, 0, none⟩) 0 cap) vals [] X W := by
  subst hW
  have hb : Below wr.heap.size wr (wr.alloc (.cells cs 3)) := (Below.refl _ _).alloc (Nat.le_refl _) _
  have hp := h.pool.push hb (it := rowI w.heap.size 3 (.slice (some ⟨wr.heap.size, 0, none⟩) 0 cap) []) ?_ fun k hk => by cases hk; exact Nat.le_refl _
  · exact ⟨h.num, hp, hk, h.len, h.rows.keep fun k hk => hb.block k (h.pool.fx k hk).2, rfl⟩
  · exact ⟨by simp, .inr ⟨_, cap, cs, rfl, h.pool.below.size, box1 _, Nat.zero_le _, hm, by simpa using hc, by simp⟩⟩
/-- A row is done. -/
theorem StdI.done {w8 : World} {g cap : Nat} {t : TypeId} (h : StdI n w bm k q M ord vo vt vr vals ys X wr) (hq : q ≤ maxLen)
    (h1 : w8.ownsRow w.heap.size 49 1 (.slice (some ⟨g, 0, none⟩) (k + 1) cap) (k + 1) (vals ++ [vr])) (h2 : (wr.alloc (.cells #[vr] t)).grownBy w8 vt.ownBlock) (h3 : vt.ownBlock = some g ∨ g = wr.heap.size + 1) :
    ∃ X', StdO n w bm (k + 1) M ord vo (.slice (some ⟨g, 0, none⟩) (k + 1) cap) (vals ++ [vr]) X' w8 := by
  have hW : Below wr.heap.size wr (wr.alloc (.cells #[vr] t)) := (Below.refl _ _).alloc (Nat.le_refl _) _
  have hpp := rowI_app h.pool (j := 2) rfl hW h1 h2 (by rw [alloc_size]; exact h3) (by simp [h.len])
  have hp2 := hpp.1.done (j := 3) (it := rowI w.heap.size 3 vr (ys.map (.int .i64))) (it' := nilI) rfl rfl trivial
  refine ⟨_, h.num, ⟨hp2.below, fun i it hi => ?_, fun i j it jt hi hj hij k h1 h2 => ?_, hp2.fx⟩, h.klt, by simp [h.len], fun i u hu => ?_⟩
  · have hi3 : i < 3 := (List.getElem?_eq_some_iff.1 hi).1
    refine hp2.own i it ?_
    rcases i with _ | _ | _ | i
    · exact hi
    · exact hi
    · exact hi
    · omega
  · have hi3 : i < 3 := (List.getElem?_eq_some_iff.1 hi).1
    have hj3 : j < 3 := (List.getElem?_eq_some_iff.1 hj).1
    refine hp2.dis i j it jt ?_ ?_ hij k h1 h2
    · rcases i with _ | _ | _ | i
      · exact hi
      · exact hi
      · exact hi
      · omega
    · rcases j with _ | _ | _ | j
      · exact hj
      · exact hj
      · exact hj
      · omega
  · by_cases hi : i < vals.length
    · rw [List.getElem?_append_left hi] at hu
      obtain ⟨A, c, xs, e1, e2, e3⟩ := (h.rows.keep hpp.2) i u hu
      exact ⟨A, c, xs, e1, e2, elems_mono e3 fun k hk => .inl hk⟩
    · rw [List.getElem?_append_right (by omega)] at hu
      have hl := (List.getElem?_eq_some_iff.1 hu).1
      simp at hl
      have e : i - vals.length = 0 := by omega
      rw [e] at hu
      cases hu
      have ho := (hpp.1.own 3 _ rfl).1
      obtain ⟨A, c, rfl, hlen, hel⟩ := elems_of_owns (xs := ys) (ti := 3) (w := w8) (base := w.heap.size) ho
      have hyl : (ys.map (Value.int .i64)).length = ys.length := by simp
      refine ⟨A, c, ys, by rw [hyl], by rw [h.ysl]; exact hq, fun i d hd => ?_⟩
      obtain ⟨g', s', q1, q2, q3, q4⟩ := hel i d hd
      exact ⟨g', s', q1, q2, q3, .inr (by rw [q1]; rfl)⟩
theorem StdO.below (h : StdO n w bm k M ord vo vt vals X wr) : Below w.heap.size w wr := h.pool.below
theorem StdO.order (h : StdO n w bm k M ord vo vt vals X wr) : wr.ownsRow w.heap.size 3 1 vo ord.length (ord.map (.int .i64)) := by
  have := (h.pool.own 1 _ rfl).1
  have e : (ord.map (Value.int .i64)).length = ord.length := by simp
  rw [← e]; exact this
theorem StdI.out (h : StdI n w bm k q M ord vo vt vr vals ys X wr) : wr.ownsRow w.heap.size 49 1 vt k vals := by
  have := (h.pool.own 2 _ rfl).1
  rw [← h.len]; exact this
theorem StdO.out (h : StdO n w bm k M ord vo vt vals X wr) : wr.ownsRow w.heap.size 49 1 vt k vals := by
  have := (h.pool.own 2 _ rfl).1
  rw [← h.len]; exact this
/-- The table that is given back. -/
theorem StdO.table (h : StdO n w bm k M ord vo vt vals X wr) : ∃ A c, ∃ ds : List (List Int), vt = .slice A ds.length c ∧ ds.length = k ∧ Elems (kSlice (kInt .i64)) wr A ds (Fresh w wr) := by
  have ho := h.out
  have hl : vals.length = k := h.len
  have key : ∀ m, m ≤ vals.length → ∃ ds : List (List Int), ds.length = m ∧ ∀ (i : Nat) d, ds[i]? = some d → ∃ A c, vals[i]? = some (.slice A d.length c) ∧ Elems (kInt .i64) wr A d X ∧ d.length ≤ maxLen := by
    intro m
    induction m with
    | zero => intro _; exact ⟨[], rfl, fun i d hd => by simp at hd⟩
    | succ m ih =>
      intro hm
      obtain ⟨ds, h1, h2⟩ := ih (by omega)
      obtain ⟨A, c, xs, e1, e2, e3⟩ := h.rows m vals[m] (List.getElem?_eq_getElem (by omega))
      refine ⟨ds ++ [xs], by simp [h1], fun i d hd => ?_⟩
      by_cases hi : i < ds.length
      · rw [List.getElem?_append_left hi] at hd
        exact h2 i d hd
      · rw [List.getElem?_append_right (by omega)] at hd
        have := (List.getElem?_eq_some_iff.1 hd).1
        simp at this
        have e : i - ds.length = 0 := by omega
        rw [e] at hd
        cases hd
        have : i = m := by omega
        subst this
        exact ⟨A, c, by rw [← e1]; exact List.getElem?_eq_getElem (by omega), e3, e2⟩
  obtain ⟨ds, h1, h2⟩ := key vals.length (Nat.le_refl _)
  obtain ⟨e1, e2⟩ := ho
  rcases e2 with ⟨rfl, e3⟩ | ⟨g, cap, cur, rfl, q1, q2, q3, q4, q5, q6⟩
  · refine ⟨none, 0, ds, by rw [h1, hl, e3], by omega, fun i (d : List Int) (hd : ds[i]? = some d) => ?_⟩
    have := (List.getElem?_eq_some_iff.1 hd).1
    omega
  · refine ⟨some ⟨g, 0, none⟩, cap, ds, by rw [h1, hl], by omega, fun i (d : List Int) (hd : ds[i]? = some d) => ⟨g, 0, rfl, ?_⟩⟩
    obtain ⟨A, c, f1, f2, f3⟩ := h2 i d hd
    have hi : i < k := by have := (List.getElem?_eq_some_iff.1 hd).1; omega
    have hg : g < wr.heap.size := (Array.getElem?_eq_some_iff.1 q2).1
    have hcur : cur[i]? = some (.slice A d.length c) := by
      have h13 : (cur.toList.take (k * 1))[i]? = some (.slice A d.length c) := by rw [q6]; exact f1
      rw [List.getElem?_take_of_lt (by omega)] at h13
      simpa using h13
    have e : 0 + i * (kSlice (kInt .i64)).size = i := by rw [show i * (kSlice (kInt .i64)).size = i from Nat.mul_one i]; omega
    rw [e]
    exact ⟨A, c, (block_cell q2 hcur).1, (block_cell q2 hcur).2, ⟨q1, hg⟩, elems_mono f2 fun k hk => h.pool.fx k hk, f3⟩
end
end Go.Hs
