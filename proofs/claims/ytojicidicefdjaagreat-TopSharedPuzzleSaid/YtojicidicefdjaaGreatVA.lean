/- Proved here, with no condition of its own: typed memory, terms and certificates, symbolic values, operations. -/
import Derived.Test.YtojicidicefdjaaGreatHA
import Derived.Test.YtojicidicefdjaaGreatExA
import Derived.BigRegion
import Derived.IntWalk
import Derived.Laws.Cells
import Derived.Test.YtojicidicefdjaaGreatExB
import Derived.Tactics
import Derived.Laws.CopyRow
import Derived.Orders
/- Typed places: what lies in memory, with bounds for numbers and lengths; readings of it. -/
namespace Go.Ty
open Go Go.RowKit Go.Hs

/-- Whose memory a slice lies in: the call's own, that which was there before, or either. -/
inductive Md where
  | own | old | any
  deriving DecidableEq

/-- What lies in a place: with bounds for numbers and lengths. -/
inductive T where
  | int (k : IntKind) (lo hi : Int)
  | bool
  | str
  | sl (m : Md) (lo hi : Int) (t : T)
  | ptr (t : T)
  | map (k v : T)
  | any
  | nil
  | pair (a b : T)
  | rep (n : Nat) (t : T)

def T.size : T → Nat
  | .nil => 0
  | .pair a b => a.size + b.size
  | .rep n t => n * t.size
  | _ => 1

/-- The cell at an offset of a place. -/
def T.cell : T → Nat → Option T
  | .nil, _ => none
  | .pair a b, j => if j < a.size then a.cell j else b.cell (j - a.size)
  | .rep n t, j => if j < n * t.size then t.cell (j % t.size) else none
  | .int k lo hi, j => if j = 0 then some (.int k lo hi) else none
  | .bool, j => if j = 0 then some .bool else none
  | .str, j => if j = 0 then some .str else none
  | .sl m lo hi t, j => if j = 0 then some (.sl m lo hi t) else none
  | .ptr t, j => if j = 0 then some (.ptr t) else none
  | .map k v, j => if j = 0 then some (.map k v) else none
  | .any, j => if j = 0 then some .any else none

/-- What the readings are measured by: the world that was there; the types of the call's own cells, and of its maps. -/
structure Cx where
  w0 : World
  S : Nat → Nat → Option T
  M : Nat → Option (T × T)
  R : Nat → Nat → Option T

/-- The cells of c elements from o on are the call's own, of the type t. -/
def OwnRow (C : Cx) (t : T) (b o c : Nat) : Prop := ∀ j, j < c * t.size → C.S b (o + j) = t.cell (j % t.size)

/-- The cells are kept for elements of the type t. -/
def ResRow (C : Cx) (t : T) (b o c : Nat) : Prop := c ≤ maxLen ∧ ∀ j, j < c * t.size → C.R b (o + j) = t.cell (j % t.size)

/-- How many at least: a bound below zero lets none in, too. -/
def LoOK (lo n : Int) : Prop := lo ≤ n ∧ (lo < 0 → n = 0 ∨ -lo ≤ n)
def At (C : Cx) : T → (Nat → Option Value) → Prop
  | .int k lo hi, rd => ∃ x, rd 0 = some (.int k x) ∧ lo ≤ x ∧ x ≤ hi
  | .bool, rd => ∃ b, rd 0 = some (.bool b)
  | .str, rd => ∃ s, rd 0 = some (.string s)
  | .any, rd => ∃ v, rd 0 = some v ∧ v.oneCell' = true
  | .sl m lo hi t, rd => ∃ A n c, rd 0 = some (.slice A n c) ∧ LoOK lo (n : Int) ∧ (n : Int) ≤ hi ∧ n ≤ maxLen ∧
      ((m ≠ .old ∧ ((A = none ∧ n = 0 ∧ c = 0) ∨ ∃ b o, A = some ⟨b, o, none⟩ ∧ n ≤ c ∧ C.w0.heap.size ≤ b ∧ OwnRow C t b o n ∧ ResRow C t b o c)) ∨
       (m ≠ .own ∧ ∀ i, i < n → ∃ b o, A = some ⟨b, o, none⟩ ∧ b < C.w0.heap.size ∧ At C t (fun j => C.w0.cell? ⟨b, o + (i * t.size + j), none⟩)))
  | .ptr t, rd => ∃ b o, rd 0 = some (.pointer (some ⟨b, o, none⟩)) ∧ C.w0.heap.size ≤ b ∧ ∀ j, j < t.size → C.S b (o + j) = t.cell j
  | .map k v, rd => ∃ b, rd 0 = some (.map (some b)) ∧ C.M b = some (k, v)
  | .nil, _ => True
  | .pair a b, rd => At C a rd ∧ At C b (fun j => rd (a.size + j))
  | .rep n t, rd => ∀ i, i < n → At C t (fun j => rd (i * t.size + j))

/-- A type of one cell. -/
def T.leaf : T → Bool
  | .nil | .pair _ _ | .rep _ _ => false
  | _ => true
theorem leaf_size {t : T} (ht : t.leaf = true) : t.size = 1 := by cases t <;> first | (simp [T.leaf] at ht; done) | rfl
theorem leaf_cell {t : T} (ht : t.leaf = true) (j : Nat) : t.cell j = if j = 0 then some t else none := by
  cases t <;> first | (simp [T.leaf] at ht; done) | rfl

theorem cell_leaf : ∀ (t : T) (j : Nat) (u : T), t.cell j = some u → u.leaf = true := by
  intro t
  induction t with
  | pair a b iha ihb =>
    intro j u h
    unfold T.cell at h
    split at h
    · exact iha _ _ h
    · exact ihb _ _ h
  | rep n t ih =>
    intro j u h
    unfold T.cell at h
    split at h
    · exact ih _ _ h
    · cases h
  | nil => intro j u h; simp [T.cell] at h
  | _ =>
    intro j u h
    simp only [T.cell] at h
    split at h
    · cases h; rfl
    · cases h
theorem cell_some : ∀ (t : T) (j : Nat), j < t.size ↔ ∃ u, t.cell j = some u := by
  intro t
  induction t with
  | pair a b iha ihb =>
    intro j
    simp only [T.size]
    unfold T.cell
    split
    · rename_i h; exact ⟨fun _ => (iha _).1 h, fun _ => by omega⟩
    · rename_i h
      rw [← ihb]
      omega
  | rep n t ih =>
    intro j
    simp only [T.size]
    unfold T.cell
    split
    · rename_i h
      refine ⟨fun _ => (ih _).1 (Nat.mod_lt _ ?_), fun _ => h⟩
      rcases Nat.eq_zero_or_pos t.size with e | e
      · rw [e] at h; simp at h
      · exact e
    · rename_i h
      exact ⟨fun h' => absurd h' h, fun ⟨u, hu⟩ => by cases hu⟩
  | nil => intro j; simp [T.cell, T.size]
  | _ =>
    intro j
    simp only [T.size, T.cell]
    split
    · rename_i h; exact ⟨fun _ => ⟨_, rfl⟩, fun _ => by omega⟩
    · rename_i h; exact ⟨fun h' => absurd (by omega) h, fun ⟨u, hu⟩ => by cases hu⟩

/-- One cell's reading. -/
def one (v : Value) : Nat → Option Value := fun j => if j = 0 then some v else none
theorem at_leaf {C : Cx} {t : T} (ht : t.leaf = true) {rd rd' : Nat → Option Value} (h0 : rd 0 = rd' 0) : At C t rd ↔ At C t rd' := by
  cases t <;> first | (simp [T.leaf] at ht; done) | (simp only [At, h0])
theorem at_one {C : Cx} {t : T} (ht : t.leaf = true) {rd : Nat → Option Value} {v : Value} (h0 : rd 0 = some v) : At C t rd ↔ At C t (one v) :=
  at_leaf ht (by simp [one, h0])
theorem at_leaf_some {C : Cx} {t : T} (ht : t.leaf = true) {rd : Nat → Option Value} (h : At C t rd) : ∃ v, rd 0 = some v ∧ At C t (one v) := by
  cases hr : rd 0 with
  | some v => exact ⟨v, rfl, (at_one ht hr).1 h⟩
  | none => cases t <;> first | (simp [T.leaf] at ht; done) | (simp [At, hr] at h)
/-- A place by its cells. -/
theorem at_cells {C : Cx} : ∀ (t : T) (rd : Nat → Option Value), At C t rd ↔ ∀ j u, t.cell j = some u → ∃ v, rd j = some v ∧ At C u (one v) := by
  intro t
  induction t with
  | pair a b iha ihb =>
    intro rd
    show At C a rd ∧ At C b _ ↔ _
    rw [iha, ihb]
    constructor
    · rintro ⟨h1, h2⟩ j u hu
      unfold T.cell at hu
      split at hu
      · exact h1 _ _ hu
      · have := h2 _ _ hu
        rw [show a.size + (j - a.size) = j by omega] at this
        exact this
    · intro h
      refine ⟨fun j u hu => h j u ?_, fun j u hu => h (a.size + j) u ?_⟩
      · have := (cell_some a j).2 ⟨u, hu⟩
        unfold T.cell
        rw [if_pos this]; exact hu
      · unfold T.cell
        rw [if_neg (by omega), show a.size + j - a.size = j by omega]; exact hu
  | rep n t ih =>
    intro rd
    show (∀ i, i < n → At C t _) ↔ _
    constructor
    · intro h j u hu
      have hj := (cell_some (.rep n t) j).2 ⟨u, hu⟩
      simp only [T.size] at hj
      unfold T.cell at hu
      rw [if_pos hj] at hu
      have hpos : 0 < t.size := by
        rcases Nat.eq_zero_or_pos t.size with e | e
        · rw [e] at hj; simp at hj
        · exact e
      have := (ih _).1 (h (j / t.size) ((Nat.div_lt_iff_lt_mul hpos).2 hj)) (j % t.size) u hu
      rw [show j / t.size * t.size + j % t.size = j by rw [Nat.mul_comm]; exact Nat.div_add_mod j t.size] at this
      exact this
    · intro h i hi
      refine (ih _).2 fun j u hu => h (i * t.size + j) u ?_
      have hj := (cell_some t j).2 ⟨u, hu⟩
      have hlt : i * t.size + j < n * t.size := by
        have : (i + 1) * t.size ≤ n * t.size := Nat.mul_le_mul_right _ hi
        rw [Nat.succ_mul] at this
        omega
      unfold T.cell
      rw [if_pos hlt, show (i * t.size + j) % t.size = j by rw [Nat.mul_comm, Nat.mul_add_mod]; exact Nat.mod_eq_of_lt hj]
      exact hu
  | nil => intro rd; exact ⟨fun _ j u hu => by simp [T.cell] at hu, fun _ => trivial⟩
  | _ =>
    intro rd
    constructor
    · intro h j u hu
      rw [leaf_cell rfl] at hu
      split at hu
      · rename_i hj; subst hj; cases hu
        exact at_leaf_some rfl h
      · cases hu
    · intro h
      obtain ⟨v, h1, h2⟩ := h 0 _ (by rw [leaf_cell rfl]; rfl)
      exact (at_one rfl h1).2 h2
/-- More typed memory. -/
structure Cx.le (C D : Cx) : Prop where
  w0 : D.w0 = C.w0
  S : ∀ b o t, C.S b o = some t → D.S b o = some t
  M : ∀ b x, C.M b = some x → D.M b = some x
  R : ∀ b o t, C.R b o = some t → D.R b o = some t
theorem Cx.le.refl (C : Cx) : C.le C := ⟨rfl, fun _ _ _ h => h, fun _ _ h => h, fun _ _ _ h => h⟩
theorem Cx.le.trans {C D E : Cx} (h : C.le D) (h' : D.le E) : C.le E := ⟨h'.w0.trans h.w0, fun _ _ _ x => h'.S _ _ _ (h.S _ _ _ x), fun _ _ x => h'.M _ _ (h.M _ _ x), fun _ _ _ x => h'.R _ _ _ (h.R _ _ _ x)⟩
theorem res_mono {C D : Cx} (h : C.le D) {t : T} {b o c : Nat} (hh : ResRow C t b o c) : ResRow D t b o c := ⟨hh.1, fun j hj => by
  have hpos : 0 < t.size := by
    rcases Nat.eq_zero_or_pos t.size with e | e
    · rw [e] at hj; simp at hj
    · exact e
  obtain ⟨u, hu⟩ := (cell_some t (j % t.size)).1 (Nat.mod_lt _ hpos)
  rw [hu]
  exact h.R _ _ _ ((hh.2 j hj).trans hu)⟩
theorem own_mono {C D : Cx} (h : C.le D) {t : T} {b o c : Nat} (hh : OwnRow C t b o c) : OwnRow D t b o c := fun j hj => by
  have hpos : 0 < t.size := by
    rcases Nat.eq_zero_or_pos t.size with e | e
    · rw [e] at hj; simp at hj
    · exact e
  obtain ⟨u, hu⟩ := (cell_some t (j % t.size)).1 (Nat.mod_lt _ hpos)
  rw [hu]
  exact h.S _ _ _ ((hh j hj).trans hu)
theorem at_mono {C D : Cx} (h : C.le D) : ∀ (t : T) (rd : Nat → Option Value), At C t rd → At D t rd := by
  intro t
  induction t with
  | pair a b iha ihb => intro rd hh; exact ⟨iha _ hh.1, ihb _ hh.2⟩
  | rep n t ih => intro rd hh i hi; exact ih _ (hh i hi)
  | sl m lo hi t ih =>
    intro rd hh
    obtain ⟨A, n, c, h1, h2, h3, h4, h5⟩ := hh
    refine ⟨A, n, c, h1, h2, h3, h4, ?_⟩
    rcases h5 with ⟨hm, h5⟩ | ⟨hm, h5⟩
    · refine .inl ⟨hm, ?_⟩
      rcases h5 with h5 | ⟨b, o, e1, e2, e3, e4, e5⟩
      · exact .inl h5
      · exact .inr ⟨b, o, e1, e2, by rw [h.w0]; exact e3, own_mono h e4, res_mono h e5⟩
    · refine .inr ⟨hm, fun i hi => ?_⟩
      obtain ⟨b, o, e1, e2, e3⟩ := h5 i hi
      rw [h.w0]
      exact ⟨b, o, e1, e2, ih _ e3⟩
  | ptr t _ =>
    intro rd hh
    obtain ⟨b, o, h1, h2, h3⟩ := hh
    refine ⟨b, o, h1, by rw [h.w0]; exact h2, fun j hj => ?_⟩
    obtain ⟨u, hu⟩ := (cell_some t j).1 hj
    rw [hu]
    exact h.S _ _ _ ((h3 j hj).trans hu)
  | map k v _ _ => intro rd ⟨b, h1, h2⟩; exact ⟨b, h1, h.M _ _ h2⟩
  | _ => intro rd hh; exact hh
end Go.Ty
/- Worlds whose own cells and maps keep their types. -/
namespace Go.Ty
open Go Go.RowKit Go.Hs
theorem cell_lt' {w : World} {a : Addr} {v : Value} (h : w.cell? a = some v) : a.block < w.heap.size := by
  rcases Nat.lt_or_ge a.block w.heap.size with h1 | h1
  · exact h1
  · simp [World.cell?, Array.getElem?_eq_none h1] at h
theorem at_oneCell {C : Cx} {t : T} (ht : t.leaf = true) {v : Value} (h : At C t (one v)) : v.oneCell' = true := by
  cases t with
  | int k lo hi => obtain ⟨x, h, _⟩ := h; simp [one] at h; subst h; rfl
  | bool => obtain ⟨x, h⟩ := h; simp [one] at h; subst h; rfl
  | str => obtain ⟨x, h⟩ := h; simp [one] at h; subst h; rfl
  | sl m lo hi t => obtain ⟨A, n, c, h, _⟩ := h; simp [one] at h; subst h; rfl
  | ptr t => obtain ⟨b, o, h, _⟩ := h; simp [one] at h; subst h; rfl
  | map k v => obtain ⟨b, h, _⟩ := h; simp [one] at h; subst h; rfl
  | any => obtain ⟨u, h, h2⟩ := h; simp [one] at h; subst h; exact h2
  | _ => simp [T.leaf] at ht
/-- A value (of one cell, or an aggregate) of a type. -/
def HasV (C : Cx) (t : T) (v : Value) : Prop := (t.leaf = true ∧ At C t (one v)) ∨ (t.leaf = false ∧ ∃ cs, v = .agg cs ∧ cs.size = t.size ∧ At C t (fun j => cs[j]?))
theorem hasV_mono {C D : Cx} (h : C.le D) {t : T} {v : Value} (hh : HasV C t v) : HasV D t v := by
  rcases hh with ⟨h1, h2⟩ | ⟨h0, cs, h1, h2, h3⟩
  · exact .inl ⟨h1, at_mono h _ _ h2⟩
  · exact .inr ⟨h0, cs, h1, h2, at_mono h _ _ h3⟩
structure WT (C : Cx) (w : World) : Prop where
  below : Below C.w0.heap.size C.w0 w
  res : ∀ b o t, C.R b o = some t → C.w0.heap.size ≤ b ∧ t.leaf = true ∧ ∃ v, w.cell? ⟨b, o, none⟩ = some v ∧ w.frozen? ⟨b, o, none⟩ = false
  sr : ∀ b o t, C.S b o = some t → C.R b o = some t
  cell : ∀ b o t, C.S b o = some t → C.w0.heap.size ≤ b ∧ t.leaf = true ∧ ∃ v, w.cell? ⟨b, o, none⟩ = some v ∧ w.frozen? ⟨b, o, none⟩ = false ∧ At C t (one v)
  map : ∀ b k v, C.M b = some (k, v) → C.w0.heap.size ≤ b ∧ ∃ es cl, w.heap[b]? = some (.map es cl) ∧ ∀ e ∈ es.toList, HasV C k e.key ∧ HasV C v e.val
theorem WT.start (w : World) : WT ⟨w, fun _ _ => none, fun _ => none, fun _ _ => none⟩ w := ⟨.refl _ _, fun _ _ _ h => by (dsimp only at h; cases h), fun _ _ _ h => by (dsimp only at h; cases h), fun _ _ _ h => by (dsimp only at h; cases h), fun _ _ _ h => by (dsimp only at h; cases h)⟩
section
variable {C : Cx} {w w' : World}
/-- Only blocks that bear no type have changed. -/
theorem WT.other (h : WT C w) (hos : w'.os = w.os) (hta : w'.tape = w.tape) (hou : w'.output = w.output) (hsz : w.heap.size ≤ w'.heap.size)
    (hk : ∀ k, k < w.heap.size → (k < C.w0.heap.size ∨ (∃ o t, C.R k o = some t) ∨ ∃ x, C.M k = some x) → w'.heap[k]? = w.heap[k]?) : WT C w' := by
  have hbs := h.below.size
  refine ⟨⟨hos.trans h.below.os, hta.trans h.below.tape, hou.trans h.below.output, by omega, fun k hk' => (hk k (by omega) (.inl hk')).trans (h.below.block k hk')⟩, fun b o t hR => ?_, h.sr, fun b o t hS => ?_, fun b k v hM => ?_⟩
  · obtain ⟨h1, h2, v, h3, h4⟩ := h.res b o t hR
    have hlt : b < w.heap.size := cell_lt' h3
    have e := hk b hlt (.inr (.inl ⟨o, t, hR⟩))
    exact ⟨h1, h2, v, (World.cell?_of_block (a := ⟨b, o, none⟩) e).trans h3, (World.frozen?_of_block (a := ⟨b, o, none⟩) e).trans h4⟩
  · obtain ⟨h1, h2, v, h3, h4, h5⟩ := h.cell b o t hS
    have hlt : b < w.heap.size := cell_lt' h3
    have e := hk b hlt (.inr (.inl ⟨o, t, h.sr _ _ _ hS⟩))
    exact ⟨h1, h2, v, (World.cell?_of_block (a := ⟨b, o, none⟩) e).trans h3, (World.frozen?_of_block (a := ⟨b, o, none⟩) e).trans h4, h5⟩
  · obtain ⟨h1, es, cl, h2, h3⟩ := h.map b k v hM
    have hlt : b < w.heap.size := (Array.getElem?_eq_some_iff.1 h2).1
    exact ⟨h1, es, cl, (hk b hlt (.inr (.inr ⟨_, hM⟩))).trans h2, h3⟩
theorem WT.drewN (h : WT C w) (n : Nat) : WT C (w.drewN n) := h.other rfl rfl rfl (Nat.le_refl _) fun _ _ _ => rfl
theorem WT.alloc (h : WT C w) (o : Obj) : WT C (w.alloc o) := h.other rfl rfl rfl (by simp) fun k hk _ => Below.heap_alloc _ _ _ hk
/-- A store to a cell that bears no type. -/
theorem WT.setFree (h : WT C w) {b o : Nat} {v : Value} (h0 : C.w0.heap.size ≤ b) (hS : ∀ o, C.R b o = none) (hM : C.M b = none) : WT C (w.setCell ⟨b, o, none⟩ v) :=
  h.other rfl rfl rfl (by simp [World.setCell]) fun k _ hk' => Below.heap_setCell _ _ _ _ (by
    rintro rfl
    rcases hk' with hk' | ⟨o', t, hk'⟩ | ⟨x, hk'⟩
    · exact absurd hk' (by omega)
    · rw [hS] at hk'; cases hk'
    · rw [hM] at hk'; cases hk')
/-- A store of a value of the cell's type. -/
theorem WT.set (h : WT C w) {b o : Nat} {t : T} {v : Value} (hS : C.S b o = some t) (hv : At C t (one v)) : WT C (w.setCell ⟨b, o, none⟩ v) := by
  obtain ⟨h1, h2, u, h3, h4, h5⟩ := h.cell b o t hS
  have hlt : b < w.heap.size := cell_lt' h3
  have hsz : (w.setCell ⟨b, o, none⟩ v).heap.size = w.heap.size := setCell_size _ _ _
  refine ⟨h.below.setCell h1 _, fun b' o' t' hR' => ?_, h.sr, fun b' o' t' hS' => ?_, fun b' k x hM => ?_⟩
  · obtain ⟨q1, q2, u', q3, q4⟩ := h.res b' o' t' hR'
    refine ⟨q1, q2, ?_⟩
    by_cases e : (⟨b, o, none⟩ : Addr) = ⟨b', o', none⟩
    · cases e
      exact ⟨v, World.cell?_setCell_same _ _ _ h3, by rw [World.frozen?_setCell]; exact h4⟩
    · exact ⟨u', by rw [World.cell?_setCell_other _ _ _ _ e]; exact q3, by rw [World.frozen?_setCell]; exact q4⟩
  · obtain ⟨q1, q2, u', q3, q4, q5⟩ := h.cell b' o' t' hS'
    refine ⟨q1, q2, ?_⟩
    by_cases e : (⟨b, o, none⟩ : Addr) = ⟨b', o', none⟩
    · cases e
      rw [hS] at hS'; cases hS'
      exact ⟨v, World.cell?_setCell_same _ _ _ h3, by rw [World.frozen?_setCell]; exact h4, hv⟩
    · exact ⟨u', by rw [World.cell?_setCell_other _ _ _ _ e]; exact q3, by rw [World.frozen?_setCell]; exact q4, q5⟩
  · obtain ⟨q1, es, cl, q2, q3⟩ := h.map b' k x hM
    have hne : b' ≠ b := by
      rintro rfl
      simp [World.cell?, q2] at h3
    exact ⟨q1, es, cl, (Below.heap_setCell _ _ _ _ hne).trans q2, q3⟩
/-- A cell that is kept for a type bears it from now on. -/
def Cx.live (C : Cx) (b o : Nat) (t : T) : Cx := { C with S := fun b' o' => if b' = b ∧ o' = o then some t else C.S b' o' }
theorem WT.live_le (h : WT C w) {b o : Nat} {t : T} (hR : C.R b o = some t) : C.le (C.live b o t) :=
  ⟨rfl, fun b' o' t' hS => by
    show (if _ then _ else _) = _
    split
    · rename_i e; obtain ⟨rfl, rfl⟩ := e; rw [← hR]; exact h.sr _ _ _ hS
    · exact hS, fun _ _ hM => hM, fun _ _ _ hR => hR⟩
theorem WT.fill (h : WT C w) {b o : Nat} {t : T} {v : Value} (hR : C.R b o = some t) (hv : At C t (one v)) : WT (C.live b o t) (w.setCell ⟨b, o, none⟩ v) := by
  have hle := h.live_le hR
  obtain ⟨h1, h2, u, h3, h4⟩ := h.res b o t hR
  refine ⟨h.below.setCell h1 _, fun b' o' t' hR' => ?_, fun b' o' t' hS' => ?_, fun b' o' t' hS' => ?_, fun b' k x hM => ?_⟩
  · obtain ⟨q1, q2, u', q3, q4⟩ := h.res b' o' t' hR'
    refine ⟨q1, q2, ?_⟩
    by_cases e : (⟨b, o, none⟩ : Addr) = ⟨b', o', none⟩
    · cases e
      exact ⟨v, World.cell?_setCell_same _ _ _ h3, by rw [World.frozen?_setCell]; exact h4⟩
    · exact ⟨u', by rw [World.cell?_setCell_other _ _ _ _ e]; exact q3, by rw [World.frozen?_setCell]; exact q4⟩
  · have hS'' : (if b' = b ∧ o' = o then some t else C.S b' o') = some t' := hS'
    split at hS''
    · rename_i e; obtain ⟨rfl, rfl⟩ := e; cases hS''; exact hR
    · exact h.sr _ _ _ hS''
  · have hS'' : (if b' = b ∧ o' = o then some t else C.S b' o') = some t' := hS'
    split at hS''
    · rename_i e; obtain ⟨rfl, rfl⟩ := e; cases hS''
      exact ⟨h1, h2, v, World.cell?_setCell_same _ _ _ h3, by rw [World.frozen?_setCell]; exact h4, at_mono hle _ _ hv⟩
    · rename_i e
      obtain ⟨q1, q2, u', q3, q4, q5⟩ := h.cell b' o' t' hS''
      have e' : (⟨b, o, none⟩ : Addr) ≠ ⟨b', o', none⟩ := fun x => by cases x; exact e ⟨rfl, rfl⟩
      exact ⟨q1, q2, u', by rw [World.cell?_setCell_other _ _ _ _ e']; exact q3, by rw [World.frozen?_setCell]; exact q4, at_mono hle _ _ q5⟩
  · obtain ⟨q1, es, cl, q2, q3⟩ := h.map b' k x hM
    have hne : b' ≠ b := by
      rintro rfl
      simp [World.cell?, q2] at h3
    exact ⟨q1, es, cl, (Below.heap_setCell _ _ _ _ hne).trans q2, fun y hy => ⟨hasV_mono hle (q3 y hy).1, hasV_mono hle (q3 y hy).2⟩⟩
/-- A new block: which cells are kept for what, and which of them bear it. -/
def Cx.ext (C : Cx) (b : Nat) (f g : Nat → Option T) : Cx := { C with S := fun b' o => if b' = b then f o else C.S b' o, R := fun b' o => if b' = b then g o else C.R b' o }
theorem WT.S_lt (h : WT C w) {b o : Nat} {t : T} (hS : C.S b o = some t) : b < w.heap.size := by
  obtain ⟨_, _, v, h3, _⟩ := h.cell b o t hS
  exact cell_lt' h3
theorem WT.R_lt (h : WT C w) {b o : Nat} {t : T} (hS : C.R b o = some t) : b < w.heap.size := by
  obtain ⟨_, _, v, h3, _⟩ := h.res b o t hS
  exact cell_lt' h3
theorem WT.M_lt (h : WT C w) {b : Nat} {x : T × T} (hM : C.M b = some x) : b < w.heap.size := by
  obtain ⟨_, es, cl, h2, _⟩ := h.map b x.1 x.2 hM
  exact (Array.getElem?_eq_some_iff.1 h2).1
theorem WT.S_none (h : WT C w) {b : Nat} (hb : ∀ o, C.R b o = none) (o : Nat) : C.S b o = none := by
  cases hs : C.S b o with
  | none => rfl
  | some t => rw [← hb o]; rw [h.sr _ _ _ hs]
theorem WT.ext_le (h : WT C w) (b : Nat) (hb : ∀ o, C.R b o = none) (f g : Nat → Option T) : C.le (C.ext b f g) :=
  ⟨rfl, fun b' o t hS => (if_neg (by rintro rfl; rw [h.S_none hb] at hS; cases hS)).trans hS, fun _ _ hM => hM, fun b' o t hR => (if_neg (by rintro rfl; rw [hb] at hR; cases hR)).trans hR⟩
/-- A block without types gets types. -/
theorem WT.type (h : WT C w) {b : Nat} {cs : Array Value} {e : TypeId} (h0 : C.w0.heap.size ≤ b) (hb : w.heap[b]? = some (.cells cs e)) (hS : ∀ o, C.R b o = none) (f g : Nat → Option T)
    (hg : ∀ o t, g o = some t → t.leaf = true ∧ ∃ v, cs[o]? = some v) (hf : ∀ o t, f o = some t → g o = some t ∧ ∃ v, cs[o]? = some v ∧ At C t (one v)) : WT (C.ext b f g) w := by
  have hle := h.ext_le b hS f g
  refine ⟨h.below, fun b' o t hR' => ?_, fun b' o t hS' => ?_, fun b' o t hS' => ?_, fun b' k v hM => ?_⟩
  · have hR'' : (if b' = b then g o else C.R b' o) = some t := hR'
    split at hR''
    · rename_i e1; subst e1
      obtain ⟨h1, v, h2⟩ := hg o t hR''
      exact ⟨h0, h1, v, (block_cell hb h2).1, (block_cell hb h2).2⟩
    · exact h.res b' o t hR''
  · show (if b' = b then g o else C.R b' o) = some t
    have hS'' : (if b' = b then f o else C.S b' o) = some t := hS'
    split at hS''
    · rename_i e1; rw [if_pos e1]; exact (hf o t hS'').1
    · rename_i e1; rw [if_neg e1]; exact h.sr _ _ _ hS''
  · have hS'' : (if b' = b then f o else C.S b' o) = some t := hS'
    split at hS''
    · rename_i e1; subst e1
      obtain ⟨h1, v, h2, h3⟩ := hf o t hS''
      exact ⟨h0, (hg o t h1).1, v, (block_cell hb h2).1, (block_cell hb h2).2, at_mono hle _ _ h3⟩
    · obtain ⟨h1, h2, v, h3, h4, h5⟩ := h.cell b' o t hS''
      exact ⟨h1, h2, v, h3, h4, at_mono hle _ _ h5⟩
  · obtain ⟨h1, es, cl, h2, h3⟩ := h.map b' k v hM
    exact ⟨h1, es, cl, h2, fun x hx => ⟨hasV_mono hle (h3 x hx).1, hasV_mono hle (h3 x hx).2⟩⟩
/-- A new map. -/
def Cx.map (C : Cx) (b : Nat) (k v : T) : Cx := { C with M := fun b' => if b' = b then some (k, v) else C.M b' }
theorem WT.map_le (b : Nat) (hb : C.M b = none) (k v : T) : C.le (C.map b k v) :=
  ⟨rfl, fun _ _ _ h => h, fun b' x hM => (if_neg (by rintro rfl; rw [hb] at hM; cases hM)).trans hM, fun _ _ _ h => h⟩
/-- A block that is a map's becomes a typed map. -/
theorem WT.typeMap (h : WT C w) {b : Nat} {es : Array MapEntry} {cl : Nat} (h0 : C.w0.heap.size ≤ b) (hb : w.heap[b]? = some (.map es cl)) (hM : C.M b = none) (k v : T)
    (hf : ∀ e ∈ es.toList, HasV C k e.key ∧ HasV C v e.val) : WT (C.map b k v) w := by
  have hle := WT.map_le b hM k v
  refine ⟨h.below, h.res, h.sr, fun b' o t hS => ?_, fun b' k' v' hM' => ?_⟩
  · obtain ⟨h1, h2, v, h3, h4, h5⟩ := h.cell b' o t hS
    exact ⟨h1, h2, v, h3, h4, at_mono hle _ _ h5⟩
  · have hM'' : (if b' = b then some (k, v) else C.M b') = some (k', v') := hM'
    split at hM''
    · rename_i e1; subst e1; cases hM''
      exact ⟨h0, es, cl, hb, fun x hx => ⟨hasV_mono hle (hf x hx).1, hasV_mono hle (hf x hx).2⟩⟩
    · obtain ⟨h1, es, cl, h2, h3⟩ := h.map b' k' v' hM''
      exact ⟨h1, es, cl, h2, fun x hx => ⟨hasV_mono hle (h3 x hx).1, hasV_mono hle (h3 x hx).2⟩⟩
end
end Go.Ty
/- Terms over symbols, hypotheses, and a checker of certificates for them (linear sums over polynomials, splits). -/
namespace Go.Vg
inductive Tm | c (n : Int) | s (i : Nat) | add (a b : Tm) | sub (a b : Tm) | mul (a b : Tm)
inductive Hy | le (a b : Tm) | lt (a b : Tm) | eq (a b : Tm) | ne (a b : Tm) | tt | ff | or (a b : Hy) | and (a b : Hy) | imp (a b : Hy)
def Hy.neg : Hy → Hy
  | .le a b => .lt b a | .lt a b => .le b a | .eq a b => .ne a b | .ne a b => .eq a b | .tt => .ff | .ff => .tt
  | .or a b => .and a.neg b.neg | .and a b => .or a.neg b.neg | .imp a b => .and a b.neg
/-- The value, if all symbols are known. -/
def Tm.ev (ρ : List Int) : Tm → Option Int
  | .c n => some n
  | .s i => ρ[i]?
  | .add a b => match a.ev ρ, b.ev ρ with | some x, some y => some (x + y) | _, _ => none
  | .sub a b => match a.ev ρ, b.ev ρ with | some x, some y => some (x - y) | _, _ => none
  | .mul a b => match a.ev ρ, b.ev ρ with | some x, some y => some (x * y) | _, _ => none
def Tm.val (ρ : Nat → Int) : Tm → Int
  | .c n => n
  | .s i => ρ i
  | .add a b => a.val ρ + b.val ρ
  | .sub a b => a.val ρ - b.val ρ
  | .mul a b => a.val ρ * b.val ρ
def Hy.holds (ρ : Nat → Int) : Hy → Prop
  | .le a b => a.val ρ ≤ b.val ρ | .lt a b => a.val ρ < b.val ρ | .eq a b => a.val ρ = b.val ρ | .ne a b => a.val ρ ≠ b.val ρ
  | .tt => True | .ff => False
  | .or a b => a.holds ρ ∨ b.holds ρ | .and a b => a.holds ρ ∧ b.holds ρ | .imp a b => a.holds ρ → b.holds ρ
def tot (ρ : List Int) : Nat → Int := fun i => ρ[i]?.getD 0
theorem ev_val {ρ : List Int} : ∀ {t : Tm} {x : Int}, t.ev ρ = some x → t.val (tot ρ) = x := by
  intro t
  induction t with
  | c n => intro x h; simp only [Tm.ev, Option.some.injEq] at h; exact h
  | s i => intro x h; simp only [Tm.ev] at h; simp [Tm.val, tot, h]
  | add a b iha ihb | sub a b iha ihb | mul a b iha ihb =>
    intro x h
    simp only [Tm.ev] at h
    split at h
    · rename_i u v hu hv
      cases h
      simp only [Tm.val, iha hu, ihb hv]
    · cases h
theorem ev_grow {ρ l : List Int} : ∀ {t : Tm} {x : Int}, t.ev ρ = some x → t.ev (ρ ++ l) = some x := by
  intro t
  induction t with
  | c n => intro x h; exact h
  | s i =>
    intro x h
    simp only [Tm.ev] at h ⊢
    rw [List.getElem?_append_left (List.getElem?_eq_some_iff.1 h).1]
    exact h
  | add a b iha ihb | sub a b iha ihb | mul a b iha ihb =>
    intro x h
    simp only [Tm.ev] at h ⊢
    split at h
    · rename_i u v hu hv
      rw [iha hu, ihb hv]; exact h
    · cases h
theorem neg_holds {ρ : Nat → Int} : ∀ (h : Hy), h.neg.holds ρ ↔ ¬ h.holds ρ := by
  intro h
  induction h with
  | le a b => simp [Hy.neg, Hy.holds]
  | lt a b => simp [Hy.neg, Hy.holds]
  | eq a b => simp [Hy.neg, Hy.holds]
  | ne a b => simp [Hy.neg, Hy.holds]
  | tt => simp [Hy.neg, Hy.holds]
  | ff => simp [Hy.neg, Hy.holds]
  | or a b iha ihb => simp [Hy.neg, Hy.holds, iha, ihb]
  | and a b iha ihb =>
    simp only [Hy.neg, Hy.holds, iha, ihb]
    by_cases ha : a.holds ρ <;> by_cases hb : b.holds ρ <;> simp [ha, hb]
  | imp a b iha ihb =>
    simp only [Hy.neg, Hy.holds, ihb]
    by_cases ha : a.holds ρ <;> by_cases hb : b.holds ρ <;> simp [ha, hb]
/-! polynomials -/
abbrev Mono := List Nat
abbrev Poly := List (Mono × Int)
def mval (ρ : Nat → Int) : Mono → Int
  | [] => 1
  | i :: m => ρ i * mval ρ m
def pval (ρ : Nat → Int) : Poly → Int
  | [] => 0
  | (m, c) :: p => c * mval ρ m + pval ρ p
def mins (i : Nat) : Mono → Mono
  | [] => [i]
  | j :: m => match Nat.ble i j with | true => i :: j :: m | false => j :: mins i m
def mmul : Mono → Mono → Mono
  | [], n => n
  | i :: m, n => mins i (mmul m n)
def meq : Mono → Mono → Bool
  | [], [] => true
  | i :: m, j :: n => Nat.beq i j && meq m n
  | _, _ => false
def mlt : Mono → Mono → Bool
  | [], _ :: _ => true
  | i :: m, j :: n => match Nat.beq i j with | true => mlt m n | false => Nat.blt i j
  | _, _ => false
def pins (m : Mono) (c : Int) : Poly → Poly
  | [] => [(m, c)]
  | (n, d) :: p => match meq m n with
    | true => (n, c + d) :: p
    | false => match mlt m n with
      | true => (m, c) :: (n, d) :: p
      | false => (n, d) :: pins m c p
/-- k * p + q -/
def padd (k : Int) : Poly → Poly → Poly
  | [], q => q
  | (m, c) :: p, q => pins m (k * c) (padd k p q)
def pmul1 (m : Mono) (c : Int) : Poly → Poly
  | [] => []
  | (n, d) :: p => pins (mmul m n) (c * d) (pmul1 m c p)
def pmul : Poly → Poly → Poly
  | [], _ => []
  | (m, c) :: p, q => padd 1 (pmul1 m c q) (pmul p q)
def Tm.poly : Tm → Poly
  | .c n => [([], n)]
  | .s i => [([i], 1)]
  | .add a b => padd 1 a.poly b.poly
  | .sub a b => padd (-1) b.poly a.poly
  | .mul a b => pmul a.poly b.poly
theorem mins_val (ρ : Nat → Int) (i : Nat) : ∀ m, mval ρ (mins i m) = ρ i * mval ρ m := by
  intro m
  induction m with
  | nil => rfl
  | cons j m ih =>
    unfold mins
    split
    · rfl
    · simp only [mval, ih]; rw [Int.mul_left_comm]
theorem mmul_val (ρ : Nat → Int) : ∀ m n, mval ρ (mmul m n) = mval ρ m * mval ρ n := by
  intro m n
  induction m with
  | nil => simp [mmul, mval]
  | cons i m ih => simp only [mmul, mins_val, ih, mval, Int.mul_assoc]
theorem meq_eq : ∀ {m n : Mono}, meq m n = true → m = n := by
  intro m
  induction m with
  | nil => intro n h; cases n with | nil => rfl | cons _ _ => cases h
  | cons i m ih =>
    intro n h
    cases n with
    | nil => cases h
    | cons j n =>
      simp only [meq, Bool.and_eq_true] at h
      rw [Nat.eq_of_beq_eq_true h.1, ih h.2]
theorem pins_val (ρ : Nat → Int) (m : Mono) (c : Int) : ∀ p, pval ρ (pins m c p) = c * mval ρ m + pval ρ p := by
  intro p
  induction p with
  | nil => rfl
  | cons x p ih =>
    obtain ⟨n, d⟩ := x
    unfold pins
    split
    · rename_i h
      rw [meq_eq h]
      simp only [pval, Int.add_mul, Int.add_assoc]
    · split
      · rfl
      · simp only [pval, ih]; omega
theorem padd_val (ρ : Nat → Int) (k : Int) : ∀ p q, pval ρ (padd k p q) = k * pval ρ p + pval ρ q := by
  intro p q
  induction p with
  | nil => simp [padd, pval]
  | cons x p ih =>
    obtain ⟨m, c⟩ := x
    simp only [padd, pins_val, ih, pval, Int.mul_add, Int.mul_assoc, Int.add_assoc]
theorem pmul1_val (ρ : Nat → Int) (m : Mono) (c : Int) : ∀ p, pval ρ (pmul1 m c p) = c * mval ρ m * pval ρ p := by
  intro p
  induction p with
  | nil => simp [pmul1, pval]
  | cons x p ih =>
    obtain ⟨n, d⟩ := x
    simp only [pmul1, pins_val, ih, pval, mmul_val, Int.mul_add]
    congr 1
    rw [Int.mul_assoc, Int.mul_assoc, Int.mul_left_comm d]
theorem pmul_val (ρ : Nat → Int) : ∀ p q, pval ρ (pmul p q) = pval ρ p * pval ρ q := by
  intro p q
  induction p with
  | nil => simp [pmul, pval]
  | cons x p ih =>
    obtain ⟨m, c⟩ := x
    simp only [pmul, padd_val, pmul1_val, ih, pval, Int.add_mul, Int.one_mul]
theorem poly_val (ρ : Nat → Int) : ∀ t : Tm, pval ρ t.poly = t.val ρ := by
  intro t
  induction t with
  | c n => simp [Tm.poly, pval, mval, Tm.val]
  | s i => simp [Tm.poly, pval, mval, Tm.val]
  | add a b iha ihb => simp only [Tm.poly, padd_val, iha, ihb, Tm.val, Int.one_mul]
  | sub a b iha ihb => simp only [Tm.poly, padd_val, iha, ihb, Tm.val]; omega
  | mul a b iha ihb => simp only [Tm.poly, pmul_val, iha, ihb, Tm.val]
/-! certificates -/
inductive HX | pos (p : Poly) | hy (h : Hy)
def HX.holds (ρ : Nat → Int) : HX → Prop
  | .pos p => 0 ≤ pval ρ p
  | .hy h => h.holds ρ
def flat : Hy → List HX
  | .le a b => [.pos (padd (-1) a.poly b.poly)]
  | .lt a b => [.pos (pins [] (-1) (padd (-1) a.poly b.poly))]
  | .eq a b => [.pos (padd (-1) a.poly b.poly), .pos (padd (-1) b.poly a.poly)]
  | .and a b => flat a ++ flat b
  | .tt => []
  | h => [.hy h]
theorem flat_holds {ρ : Nat → Int} : ∀ {h : Hy}, h.holds ρ → ∀ x ∈ flat h, x.holds ρ := by
  intro h
  induction h with
  | le a b => intro hh x hx; simp [flat] at hx; subst hx; simp only [HX.holds, padd_val, poly_val]; simp only [Hy.holds] at hh; omega
  | lt a b => intro hh x hx; simp [flat] at hx; subst hx; simp only [HX.holds, pins_val, padd_val, poly_val, mval]; simp only [Hy.holds] at hh; omega
  | eq a b =>
    intro hh x hx
    simp only [Hy.holds] at hh
    simp [flat] at hx
    rcases hx with rfl | rfl <;> (simp only [HX.holds, padd_val, poly_val]; omega)
  | and a b iha ihb =>
    intro hh x hx
    simp only [flat, List.mem_append] at hx
    rcases hx with hx | hx
    · exact iha hh.1 x hx
    · exact ihb hh.2 x hx
  | tt => intro _ x hx; simp [flat] at hx
  | _ => intro hh x hx; simp [flat] at hx; subst hx; exact hh
inductive Cert
  | far (l : List (Nat × Nat))
  | split (i : Nat) (a b : Cert)
  | cut (l : List (Nat × Nat)) (g : Nat) (c : Cert)
  | prod (i j : Nat) (c : Cert)
/-- The sum of multiples of what is known not to be negative. -/
def combo (cx : List HX) : List (Nat × Nat) → Option Poly
  | [] => some []
  | (i, k) :: l => match cx[i]?, combo cx l with
    | some (.pos p), some q => some (padd k p q)
    | _, _ => none
def negc : Poly → Bool
  | [] => false
  | [([], .negSucc _)] => true
  | (_, .ofNat 0) :: p => negc p
  | ([], .negSucc _) :: p => zeros p
  | _ => false
where zeros : Poly → Bool
  | [] => true
  | (_, .ofNat 0) :: p => zeros p
  | _ => false
def divp (g : Int) : Poly → Option Poly
  | [] => some []
  | (m, c) :: p => match divp g p with
    | some q => (match m with
      | [] => some (([], c / g) :: q)
      | _ => if c % g = 0 then some ((m, c / g) :: q) else none)
    | none => none
def refute : Cert → List HX → Bool
  | .far l, cx => match combo cx l with | some p => negc p | none => false
  | .split i a b, cx => match cx[i]? with
    | some (.hy (.or x y)) => refute a (cx ++ flat x) && refute b (cx ++ flat y)
    | some (.hy (.ne x y)) => refute a (cx ++ flat (.lt x y)) && refute b (cx ++ flat (.lt y x))
    | some (.hy (.imp x y)) => refute a (cx ++ flat x.neg) && refute b (cx ++ flat y)
    | some (.hy .ff) => true
    | _ => false
  | .cut _ _ _, _ => false
  | .prod i j c, cx => match cx[i]?, cx[j]? with
    | some (.pos p), some (.pos q) => refute c (cx ++ [.pos (pmul p q)])
    | _, _ => false
theorem combo_holds {ρ : Nat → Int} {cx : List HX} (h : ∀ x ∈ cx, x.holds ρ) : ∀ {l : List (Nat × Nat)} {p : Poly}, combo cx l = some p → 0 ≤ pval ρ p := by
  intro l
  induction l with
  | nil => intro p hp; simp [combo] at hp; subst hp; simp [pval]
  | cons x l ih =>
    obtain ⟨i, k⟩ := x
    intro p hp
    simp only [combo] at hp
    split at hp
    · rename_i p' q' h1 h2
      cases hp
      have a1 := ih h2
      have a2 : 0 ≤ pval ρ p' := h _ (List.mem_of_getElem? h1)
      have a3 : 0 ≤ (k : Int) * pval ρ p' := Int.mul_nonneg (Int.natCast_nonneg k) a2
      rw [padd_val]; omega
    · cases hp
theorem zeros_val {ρ : Nat → Int} : ∀ {p : Poly}, negc.zeros p = true → pval ρ p = 0 := by
  intro p
  induction p with
  | nil => intro _; rfl
  | cons x p ih =>
    obtain ⟨m, c⟩ := x
    intro h
    unfold negc.zeros at h
    split at h
    · rename_i h0; cases h0
    · rename_i h0; cases h0; simp [pval, ih h]
    · cases h
theorem negc_val {ρ : Nat → Int} : ∀ {p : Poly}, negc p = true → pval ρ p < 0 := by
  intro p
  induction p with
  | nil => intro h; cases h
  | cons x p ih =>
    obtain ⟨m, c⟩ := x
    intro h
    unfold negc at h
    split at h
    · rename_i h0; cases h0
    · rename_i h0; cases h0; simp only [pval, mval]; omega
    · rename_i h0; cases h0; have := ih h; simp only [pval]; simpa using this
    · rename_i h0; cases h0; have := zeros_val (ρ := ρ) h; simp only [pval, mval, this]; omega
    · cases h
theorem refute_sound {ρ : Nat → Int} : ∀ {c : Cert} {cx : List HX}, refute c cx = true → ¬ ∀ x ∈ cx, x.holds ρ := by
  intro c
  induction c with
  | far l =>
    intro cx h hc
    simp only [refute] at h
    split at h
    · rename_i p hp
      have := combo_holds hc hp
      have := negc_val (ρ := ρ) h
      omega
    · cases h
  | split i a b iha ihb =>
    intro cx h hc
    have app : ∀ (y : Hy), y.holds ρ → ∀ x ∈ cx ++ flat y, x.holds ρ := fun y hy x hx => by
      rcases List.mem_append.1 hx with hx | hx
      · exact hc x hx
      · exact flat_holds hy x hx
    simp only [refute] at h
    split at h
    · rename_i x y hi
      rw [Bool.and_eq_true] at h
      rcases (hc _ (List.mem_of_getElem? hi) : x.holds ρ ∨ y.holds ρ) with h1 | h1
      · exact iha h.1 (app _ h1)
      · exact ihb h.2 (app _ h1)
    · rename_i x y hi
      rw [Bool.and_eq_true] at h
      have h0 : x.val ρ ≠ y.val ρ := hc _ (List.mem_of_getElem? hi)
      rcases Int.lt_or_gt_of_ne h0 with h1 | h1
      · exact iha h.1 (app (.lt x y) h1)
      · exact ihb h.2 (app (.lt y x) h1)
    · rename_i x y hi
      rw [Bool.and_eq_true] at h
      have h0 : x.holds ρ → y.holds ρ := hc _ (List.mem_of_getElem? hi)
      by_cases h1 : x.holds ρ
      · exact ihb h.2 (app _ (h0 h1))
      · exact iha h.1 (app _ ((neg_holds x).2 h1))
    · rename_i hi
      exact hc _ (List.mem_of_getElem? hi)
    · cases h
  | cut l g c ih => intro cx h; cases h
  | prod i j c ih =>
    intro cx h hc
    simp only [refute] at h
    split at h
    · rename_i p q hi hj
      refine ih h fun x hx => ?_
      rcases List.mem_append.1 hx with hx | hx
      · exact hc x hx
      · simp at hx; subst hx
        have a1 : 0 ≤ pval ρ p := hc _ (List.mem_of_getElem? hi)
        have a2 : 0 ≤ pval ρ q := hc _ (List.mem_of_getElem? hj)
        simp only [HX.holds, pmul_val]
        exact Int.mul_nonneg a1 a2
    · cases h
/-- A goal: what is known, what is asked. -/
structure Goal where
  hy : List Hy
  g : Hy
def Goal.ok (x : Goal) : Prop := ∀ ρ : Nat → Int, (∀ h ∈ x.hy, h.holds ρ) → x.g.holds ρ
def flats : List Hy → List HX
  | [] => []
  | h :: l => flat h ++ flats l
theorem flats_holds {ρ : Nat → Int} : ∀ {l : List Hy}, (∀ h ∈ l, h.holds ρ) → ∀ x ∈ flats l, x.holds ρ := by
  intro l
  induction l with
  | nil => intro _ x hx; cases hx
  | cons h l ih =>
    intro hh x hx
    simp only [flats, List.mem_append] at hx
    rcases hx with hx | hx
    · exact flat_holds (hh h (List.mem_cons_self ..)) x hx
    · exact ih (fun y hy => hh y (List.mem_cons_of_mem _ hy)) x hx
def Goal.check (x : Goal) (c : Cert) : Bool := refute c (flats (x.g.neg :: x.hy))
theorem Goal.check_ok {x : Goal} {c : Cert} (h : x.check c = true) : x.ok := by
  intro ρ hh
  apply Classical.byContradiction
  intro hg
  refine refute_sound (ρ := ρ) h (flats_holds fun y hy => ?_)
  rcases List.mem_cons.1 hy with rfl | hy
  · exact (neg_holds _).2 hg
  · exact hh y hy
end Go.Vg
/- Symbolic values and what they say. -/
namespace Go.Vg
open Go Go.RowKit Go.Hs Go.Ty
/-- A type whose bounds are terms. -/
inductive DT
  | int (k : IntKind) (lo hi : Tm) | bool | str | sl (m : Md) (lo hi : Tm) (t : DT) | ptr (t : DT) | map (k v : DT) | pair (a b : DT) | rep (n : Nat) (t : DT) | nil | any
def DT.inst (ρ : List Int) : DT → Option T
  | .int k lo hi => match lo.ev ρ, hi.ev ρ with | some a, some b => some (.int k a b) | _, _ => none
  | .bool => some .bool
  | .str => some .str
  | .sl m lo hi t => match lo.ev ρ, hi.ev ρ, t.inst ρ with | some a, some b, some u => some (.sl m a b u) | _, _, _ => none
  | .ptr t => (t.inst ρ).map .ptr
  | .map k v => match k.inst ρ, v.inst ρ with | some a, some b => some (.map a b) | _, _ => none
  | .pair a b => match a.inst ρ, b.inst ρ with | some a, some b => some (.pair a b) | _, _ => none
  | .rep n t => (t.inst ρ).map (.rep n)
  | .nil => some .nil
  | .any => some .any
theorem inst_grow {ρ l : List Int} : ∀ {t : DT} {u : T}, t.inst ρ = some u → t.inst (ρ ++ l) = some u := by
  intro t
  induction t with
  | int k lo hi =>
    intro u h
    simp only [DT.inst] at h ⊢
    split at h
    · rename_i a b ha hb; rw [ev_grow ha, ev_grow hb]; exact h
    · cases h
  | sl m lo hi t ih =>
    intro u h
    simp only [DT.inst] at h ⊢
    split at h
    · rename_i a b c ha hb hc; rw [ev_grow ha, ev_grow hb, ih hc]; exact h
    · cases h
  | ptr t ih =>
    intro u h
    simp only [DT.inst, Option.map_eq_some_iff] at h ⊢
    obtain ⟨a, ha, rfl⟩ := h
    exact ⟨a, ih ha, rfl⟩
  | rep n t ih =>
    intro u h
    simp only [DT.inst, Option.map_eq_some_iff] at h ⊢
    obtain ⟨a, ha, rfl⟩ := h
    exact ⟨a, ih ha, rfl⟩
  | map k v ihk ihv =>
    intro u h
    simp only [DT.inst] at h ⊢
    split at h
    · rename_i a b ha hb; rw [ihk ha, ihv hb]; exact h
    · cases h
  | pair k v ihk ihv =>
    intro u h
    simp only [DT.inst] at h ⊢
    split at h
    · rename_i a b ha hb; rw [ihk ha, ihv hb]; exact h
    · cases h
  | bool | str | nil | any => intro u h; exact h
/-- All terms of a hypothesis are known. -/
def Hy.dfd (ρ : List Int) : Hy → Prop
  | .le a b | .lt a b | .eq a b | .ne a b => (∃ x, a.ev ρ = some x) ∧ ∃ y, b.ev ρ = some y
  | .or a b | .and a b | .imp a b => a.dfd ρ ∧ b.dfd ρ
  | .tt | .ff => True
theorem val_grow {ρ l : List Int} {t : Tm} {x : Int} (h : t.ev ρ = some x) : t.val (tot (ρ ++ l)) = t.val (tot ρ) := (ev_val (ev_grow h)).trans (ev_val h).symm
theorem dfd_grow {ρ l : List Int} : ∀ {h : Hy}, h.dfd ρ → h.dfd (ρ ++ l) ∧ (h.holds (tot (ρ ++ l)) ↔ h.holds (tot ρ)) := by
  intro h
  induction h with
  | le a b | lt a b | eq a b | ne a b =>
    rintro ⟨⟨x, hx⟩, ⟨y, hy⟩⟩
    exact ⟨⟨⟨x, ev_grow hx⟩, ⟨y, ev_grow hy⟩⟩, by simp only [Hy.holds, val_grow hx, val_grow hy]⟩
  | or a b iha ihb | and a b iha ihb | imp a b iha ihb =>
    rintro ⟨h1, h2⟩
    obtain ⟨a1, a2⟩ := iha h1
    obtain ⟨b1, b2⟩ := ihb h2
    exact ⟨⟨a1, b1⟩, by simp only [Hy.holds, a2, b2]⟩
  | tt | ff => intro _; exact ⟨trivial, Iff.rfl⟩
inductive SV
  | int (k : IntKind) (x : Tm) | bool (b : Bool) | cmp (h : Hy) | nilv (n : Nat) | str
  | sl (id : Nat) (m : Md) (t : DT) (n : Tm) | tsl (id off n : Nat) | ptr (t : DT) | elt (m : Md) (t : DT) | tptr (id off : Nat) | uptr (id n : Nat)
  | map (k v : DT) | fn (f : Nat) (a b : List SV) | agg (l : List SV) | tup (l : List SV)
  | agt (t : DT) | lit (v : Value) | unk | rsl (id : Nat) (t : DT) (n : Tm) | eli (id : Nat) (i : Tm) (m : Md) (t : DT) | rel (id : Nat) (i : Tm) (t : DT) | kmap (id : Nat)
/-- What stands for symbols, slices and tracked blocks. -/
structure Ev where
  ρ : List Int
  o : List Value
  b : List Nat
structure Ev.le (E F : Ev) : Prop where
  ρ : ∃ l, F.ρ = E.ρ ++ l
  o : ∃ l, F.o = E.o ++ l
  b : ∃ l, F.b = E.b ++ l
theorem Ev.le.refl (E : Ev) : E.le E := ⟨⟨[], by simp⟩, ⟨[], by simp⟩, ⟨[], by simp⟩⟩
theorem Ev.le.trans {E F G : Ev} (h : E.le F) (h' : F.le G) : E.le G := by
  obtain ⟨⟨a, ha⟩, ⟨b, hb⟩, ⟨c, hc⟩⟩ := h
  obtain ⟨⟨a', ha'⟩, ⟨b', hb'⟩, ⟨c', hc'⟩⟩ := h'
  exact ⟨⟨a ++ a', by rw [ha', ha, List.append_assoc]⟩, ⟨b ++ b', by rw [hb', hb, List.append_assoc]⟩, ⟨c ++ c', by rw [hc', hc, List.append_assoc]⟩⟩
def nilVal : Nat → Value
  | 0 => .slice none 0 0
  | 1 => .pointer none
  | 2 => .map none
  | 3 => .nilFunc
  | _ => .nilIface
/-- A slice of the call's own whose cells are kept for elements of a type. -/
def ResSl (C : Cx) (u : T) (A : Option Addr) (n c : Nat) : Prop := n ≤ maxLen ∧ ((A = none ∧ n = 0 ∧ c = 0) ∨ ∃ b o, A = some ⟨b, o, none⟩ ∧ n ≤ c ∧ C.w0.heap.size ≤ b ∧ ResRow C u b o c)
theorem resSl_mono {C D : Cx} (h : C.le D) {u : T} {A : Option Addr} {n c : Nat} (hh : ResSl C u A n c) : ResSl D u A n c := by
  refine ⟨hh.1, ?_⟩
  rcases hh.2 with h1 | ⟨b, o, h1, h2, h3, h4⟩
  · exact .inl h1
  · exact .inr ⟨b, o, h1, h2, by rw [h.w0]; exact h3, res_mono h h4⟩
/-- A place of a type. -/
def Place (C : Cx) (m : Md) (u : T) (b o : Nat) : Prop :=
  (m ≠ .old ∧ C.w0.heap.size ≤ b ∧ ∀ j, j < u.size → C.S b (o + j) = u.cell j) ∨ (m ≠ .own ∧ b < C.w0.heap.size ∧ At C u (fun j => C.w0.cell? ⟨b, o + j, none⟩))
theorem place_mono {C D : Cx} (h : C.le D) {m : Md} {u : T} {b o : Nat} (hh : Place C m u b o) : Place D m u b o := by
  unfold Place at hh ⊢
  rw [h.w0]
  rcases hh with ⟨q1, q2, q3⟩ | ⟨q1, q2, q3⟩
  · refine .inl ⟨q1, q2, fun j hj => ?_⟩
    obtain ⟨x, hx⟩ := (cell_some u j).1 hj
    rw [hx]
    exact h.S _ _ _ ((q3 j hj).trans hx)
  · exact .inr ⟨q1, q2, at_mono h _ _ q3⟩
mutual
def Den (C : Cx) (E : Ev) : SV → Value → Prop
  | .int k x, v => ∃ n, x.ev E.ρ = some n ∧ v = .int k n
  | .bool b, v => v = .bool b
  | .cmp h, v => ∃ b, v = .bool b ∧ h.dfd E.ρ ∧ (b = true ↔ h.holds (tot E.ρ))
  | .nilv i, v => v = nilVal i
  | .str, v => ∃ s, v = .string s
  | .sl id m t n, v => E.o[id]? = some v ∧ ∃ u k, t.inst E.ρ = some u ∧ n.ev E.ρ = some k ∧ At C (.sl m k k u) (one v)
  | .tsl id off n, v => ∃ b, E.b[id]? = some b ∧ v = .slice (some ⟨b, off, none⟩) n n
  | .ptr t, v => ∃ u, t.inst E.ρ = some u ∧ At C (.ptr u) (one v)
  | .elt m t, v => ∃ u b o, t.inst E.ρ = some u ∧ v = .pointer (some ⟨b, o, none⟩) ∧ Place C m u b o
  | .agt t, v => ∃ u cs, t.inst E.ρ = some u ∧ v = .agg cs ∧ cs.size = u.size ∧ At C u (fun j => cs[j]?)
  | .lit x, v => v = x ∧ v.oneCell' = true
  | .unk, v => v.oneCell' = true
  | .rsl id t n, v => E.o[id]? = some v ∧ ∃ (u : T) (k : Nat) (A : Option Addr) (c : Nat), t.inst E.ρ = some u ∧ n.ev E.ρ = some (k : Int) ∧ v = .slice A k c ∧ ResSl C u A k c
  | .eli id i m t, v => ∃ u b o n c q, t.inst E.ρ = some u ∧ E.o[id]? = some (.slice (some ⟨b, o, none⟩) n c) ∧ i.ev E.ρ = some ((q : Nat) : Int) ∧ q < n ∧ v = .pointer (some ⟨b, o + q * u.size, none⟩) ∧ Place C m u b (o + q * u.size)
  | .rel id i t, v => ∃ u b o n c q, t.inst E.ρ = some u ∧ E.o[id]? = some (.slice (some ⟨b, o, none⟩) n c) ∧ i.ev E.ρ = some ((q : Nat) : Int) ∧ q < n ∧ n ≤ c ∧ v = .pointer (some ⟨b, o + q * u.size, none⟩) ∧ C.w0.heap.size ≤ b ∧ ResRow C u b o c
  | .kmap id, v => ∃ b, E.b[id]? = some b ∧ v = .map (some b)
  | .tptr id off, v => ∃ b, E.b[id]? = some b ∧ v = .pointer (some ⟨b, off, none⟩)
  | .uptr id n, v => ∃ b o, E.b[id]? = some b ∧ o < n ∧ v = .pointer (some ⟨b, o, none⟩)
  | .map k v, x => ∃ a b, k.inst E.ρ = some a ∧ v.inst E.ρ = some b ∧ At C (.map a b) (one x)
  | .fn f a b, v => ∃ xs ys, v = .func (.func f) xs ys ∧ DenL C E a xs.toList ∧ DenL C E b ys.toList
  | .agg l, v => ∃ cs, v = .agg cs ∧ DenL C E l cs.toList
  | .tup l, v => ∃ cs, v = .tuple cs ∧ DenL C E l cs.toList
def DenL (C : Cx) (E : Ev) : List SV → List Value → Prop
  | [], vs => vs = []
  | s :: l, vs => ∃ v r, vs = v :: r ∧ Den C E s v ∧ DenL C E l r
end
theorem getg {α : Type} {l m : List α} {i : Nat} {x : α} (h : l[i]? = some x) : (l ++ m)[i]? = some x := by
  rw [List.getElem?_append_left (List.getElem?_eq_some_iff.1 h).1]; exact h
mutual
theorem den_mono {C D : Cx} {E F : Ev} (hC : C.le D) (hE : E.le F) : ∀ (s : SV) (v : Value), Den C E s v → Den D F s v
  | .int k x, v, h => by
    obtain ⟨⟨l, hl⟩, _, _⟩ := hE
    simp only [Den] at h ⊢
    obtain ⟨n, h1, h2⟩ := h
    exact ⟨n, by rw [hl]; exact ev_grow h1, h2⟩
  | .bool b, v, h => by simpa only [Den] using h
  | .cmp c, v, h => by
    obtain ⟨⟨l, hl⟩, _, _⟩ := hE
    simp only [Den] at h ⊢
    obtain ⟨b, h1, h2, h3⟩ := h
    have := dfd_grow (l := l) h2
    exact ⟨b, h1, by rw [hl]; exact this.1, by rw [hl, h3, this.2]⟩
  | .nilv i, v, h => by simpa only [Den] using h
  | .str, v, h => by simpa only [Den] using h
  | .sl id m t n, v, h => by
    obtain ⟨⟨l, hl⟩, ⟨p, hp⟩, _⟩ := hE
    simp only [Den] at h ⊢
    obtain ⟨h1, u, k, h2, h3, h4⟩ := h
    exact ⟨by rw [hp]; exact getg h1, u, k, by rw [hl]; exact inst_grow h2, by rw [hl]; exact ev_grow h3, at_mono hC _ _ h4⟩
  | .tsl id off n, v, h => by
    obtain ⟨_, _, ⟨p, hp⟩⟩ := hE
    simp only [Den] at h ⊢
    obtain ⟨b, h1, h2⟩ := h
    exact ⟨b, by rw [hp]; exact getg h1, h2⟩
  | .ptr t, v, h => by
    obtain ⟨⟨l, hl⟩, _, _⟩ := hE
    simp only [Den] at h ⊢
    obtain ⟨u, h1, h2⟩ := h
    exact ⟨u, by rw [hl]; exact inst_grow h1, at_mono hC _ _ h2⟩
  | .elt m t, v, h => by
    obtain ⟨⟨l, hl⟩, _, _⟩ := hE
    simp only [Den] at h ⊢
    obtain ⟨u, b, o, h1, h2, h3⟩ := h
    exact ⟨u, b, o, by rw [hl]; exact inst_grow h1, h2, place_mono hC h3⟩
  | .agt t, v, h => by
    obtain ⟨⟨l, hl⟩, _, _⟩ := hE
    simp only [Den] at h ⊢
    obtain ⟨u, cs, h1, h2, h3, h4⟩ := h
    exact ⟨u, cs, by rw [hl]; exact inst_grow h1, h2, h3, at_mono hC _ _ h4⟩
  | .lit x, v, h => by simpa only [Den] using h
  | .unk, v, h => by simpa only [Den] using h
  | .rsl id t n, v, h => by
    obtain ⟨⟨l, hl⟩, ⟨p, hp⟩, _⟩ := hE
    simp only [Den] at h ⊢
    obtain ⟨h1, u, k, A, c, h2, h3, h4, h5⟩ := h
    exact ⟨by rw [hp]; exact getg h1, u, k, A, c, by rw [hl]; exact inst_grow h2, by rw [hl]; exact ev_grow h3, h4, resSl_mono hC h5⟩
  | .eli id i m t, v, h => by
    obtain ⟨⟨l, hl⟩, ⟨p, hp⟩, _⟩ := hE
    simp only [Den] at h ⊢
    obtain ⟨u, b, o, n, c, q, h1, h2, h3, h4, h5, h6⟩ := h
    exact ⟨u, b, o, n, c, q, by rw [hl]; exact inst_grow h1, by rw [hp]; exact getg h2, by rw [hl]; exact ev_grow h3, h4, h5, place_mono hC h6⟩
  | .rel id i t, v, h => by
    obtain ⟨⟨l, hl⟩, ⟨p, hp⟩, _⟩ := hE
    simp only [Den] at h ⊢
    obtain ⟨u, b, o, n, c, q, h1, h2, h3, h4, h5, h6, h7, h8⟩ := h
    exact ⟨u, b, o, n, c, q, by rw [hl]; exact inst_grow h1, by rw [hp]; exact getg h2, by rw [hl]; exact ev_grow h3, h4, h5, h6, by rw [hC.w0]; exact h7, res_mono hC h8⟩
  | .kmap id, v, h => by
    obtain ⟨_, _, ⟨p, hp⟩⟩ := hE
    simp only [Den] at h ⊢
    obtain ⟨b, h1, h2⟩ := h
    exact ⟨b, by rw [hp]; exact getg h1, h2⟩
  | .tptr id off, v, h => by
    obtain ⟨_, _, ⟨p, hp⟩⟩ := hE
    simp only [Den] at h ⊢
    obtain ⟨b, h1, h2⟩ := h
    exact ⟨b, by rw [hp]; exact getg h1, h2⟩
  | .uptr id n, v, h => by
    obtain ⟨_, _, ⟨p, hp⟩⟩ := hE
    simp only [Den] at h ⊢
    obtain ⟨b, o, h1, h2⟩ := h
    exact ⟨b, o, by rw [hp]; exact getg h1, h2⟩
  | .map k x, v, h => by
    obtain ⟨⟨l, hl⟩, _, _⟩ := hE
    simp only [Den] at h ⊢
    obtain ⟨a, b, h1, h2, h3⟩ := h
    exact ⟨a, b, by rw [hl]; exact inst_grow h1, by rw [hl]; exact inst_grow h2, at_mono hC _ _ h3⟩
  | .fn f a b, v, h => by
    simp only [Den] at h ⊢
    obtain ⟨xs, ys, h1, h2, h3⟩ := h
    exact ⟨xs, ys, h1, denL_mono hC hE a _ h2, denL_mono hC hE b _ h3⟩
  | .agg l, v, h => by
    simp only [Den] at h ⊢
    obtain ⟨cs, h1, h2⟩ := h
    exact ⟨cs, h1, denL_mono hC hE l _ h2⟩
  | .tup l, v, h => by
    simp only [Den] at h ⊢
    obtain ⟨cs, h1, h2⟩ := h
    exact ⟨cs, h1, denL_mono hC hE l _ h2⟩
theorem denL_mono {C D : Cx} {E F : Ev} (hC : C.le D) (hE : E.le F) : ∀ (l : List SV) (vs : List Value), DenL C E l vs → DenL D F l vs
  | [], vs, h => by simpa only [DenL] using h
  | s :: l, vs, h => by
    simp only [DenL] at h ⊢
    obtain ⟨v, r, h1, h2, h3⟩ := h
    exact ⟨v, r, h1, den_mono hC hE s v h2, denL_mono hC hE l r h3⟩
end
end Go.Vg
/- States, and what they say of a frame and a world. -/
namespace Go.Vg
open Go Go.RowKit Go.Hs Go.Ty Go.Ex
inductive TO
  | cells (ver : Nat) (l : List SV)
  | uni (ver : Nat) (t : DT) (n : Nat)
  | kmap (l : List (SV × SV))
  | gone
/-- What is known of a slice's elements below k. -/
structure Fact where
  m : Md
  id : Nat
  k : Tm
  t : DT
/-- What was read from an element of a slice that was there before. -/
structure Read where
  id : Nat
  i : Tm
  l : List SV
structure St where
  sl : Tr (Option SV)
  nt : Nat
  hp : List TO
  ns : Nat
  no : Nat
  hy : List Hy
  fa : List Fact
  rd : List Read
def DenM (C : Cx) (E : Ev) : List (SV × SV) → List MapEntry → Prop
  | [], es => es = []
  | (k, x) :: l, es => ∃ e r, es = e :: r ∧ Den C E k e.key ∧ Den C E x e.val ∧ DenM C E l r
theorem denM_mono {C D : Cx} {E F : Ev} (hC : C.le D) (hE : E.le F) : ∀ (l : List (SV × SV)) (es : List MapEntry), DenM C E l es → DenM D F l es
  | [], es, h => h
  | (k, x) :: l, es, h => by
    obtain ⟨e, r, h1, h2, h3, h4⟩ := h
    exact ⟨e, r, h1, den_mono hC hE _ _ h2, den_mono hC hE _ _ h3, denM_mono hC hE l r h4⟩
def TIn (C : Cx) (E : Ev) : Obj → TO → Prop
  | .cells cs _ fz, .cells ver l => fz = (0, 0) ∧ E.o[ver]? = some (.agg cs) ∧ DenL C E l cs.toList
  | .cells cs _ fz, .uni ver t n => fz = (0, 0) ∧ E.o[ver]? = some (.agg cs) ∧ ∃ u, t.inst E.ρ = some u ∧ cs.size = n * u.size ∧ At C (.rep n u) (fun j => cs[j]?)
  | .map es _, .kmap l => DenM C E l es.toList
  | _, .gone => True
  | _, _ => False
def TObj (C : Cx) (E : Ev) (w : World) (i : Nat) (x : TO) : Prop :=
  ∃ b ob, E.b[i]? = some b ∧ C.w0.heap.size ≤ b ∧ (∀ o, C.R b o = none) ∧ C.M b = none ∧ w.heap[b]? = some ob ∧ TIn C E ob x
def Fact.ok (C : Cx) (E : Ev) (f : Fact) : Prop :=
  f.id < E.o.length ∧ ∃ k u, f.k.ev E.ρ = some k ∧ f.t.inst E.ρ = some u ∧
    ∀ A n c, E.o[f.id]? = some (.slice A n c) → ∀ i : Nat, (i : Int) < k → i < n → ∃ b o, A = some ⟨b, o, none⟩ ∧ Place C f.m u b (o + i * u.size)
def Read.ok (C : Cx) (E : Ev) (r : Read) : Prop :=
  ∃ b o n c q vs, E.o[r.id]? = some (.slice (some ⟨b, o, none⟩) n c) ∧ r.i.ev E.ρ = some ((q : Nat) : Int) ∧ q < n ∧ b < C.w0.heap.size ∧ DenL C E r.l vs ∧
    ∀ j, j < vs.length → C.w0.cell? ⟨b, o + q * vs.length + j, none⟩ = vs[j]?
structure Inv (C : Cx) (E : Ev) (σ : St) (a : Act) (w : World) : Prop where
  wt : WT C w
  hy : ∀ h ∈ σ.hy, h.dfd E.ρ ∧ h.holds (tot E.ρ)
  ns : E.ρ.length = σ.ns
  no : E.o.length = σ.no
  nb : E.b.length = σ.hp.length
  nt : a.tmps.size = σ.nt
  sl : ∀ t s, get σ.sl t = some (some s) → ∃ v, a.tmps[t]? = some v ∧ Den C E s v
  hp : ∀ i x, σ.hp[i]? = some x → x ≠ .gone → TObj C E w i x
  inj : ∀ (i j b : Nat), E.b[i]? = some b → E.b[j]? = some b → i = j
  lt : ∀ (i : Nat) b, E.b[i]? = some b → b < w.heap.size
  fa : ∀ f ∈ σ.fa, f.ok C E
  rd : ∀ r ∈ σ.rd, r.ok C E
  dfr : a.defers = []
theorem tin_mono {C D : Cx} {E F : Ev} (hC : C.le D) (hE : E.le F) {ob : Obj} {x : TO} (h : TIn C E ob x) : TIn D F ob x := by
  obtain ⟨l, hl⟩ := hE.ρ
  cases ob <;> cases x <;> first | exact h | exact ⟨h.1, (by obtain ⟨p, hp⟩ := hE.o; rw [hp]; exact getg h.2.1), denL_mono hC hE _ _ h.2.2⟩ | exact denM_mono hC hE _ _ h | skip
  obtain ⟨hz, hv, u, q1, q2, q3⟩ := h
  exact ⟨hz, (by obtain ⟨p, hp⟩ := hE.o; rw [hp]; exact getg hv), u, by rw [hl]; exact inst_grow q1, q2, at_mono hC _ _ q3⟩
theorem tobj_mono {C D : Cx} {E F : Ev} {w : World} {i : Nat} {x : TO} (hC : C.le D) (hE : E.le F) (hS : ∀ b o, E.b[i]? = some b → D.R b o = C.R b o) (hM : ∀ b, E.b[i]? = some b → D.M b = C.M b) (h : TObj C E w i x) : TObj D F w i x := by
  obtain ⟨b, ob, h1, h2, h3, h4, h5, h6⟩ := h
  obtain ⟨p, hp⟩ := hE.b
  exact ⟨b, ob, by rw [hp]; exact getg h1, by rw [hC.w0]; exact h2, fun o => (hS b o h1).trans (h3 o), (hM b h1).trans h4, h5, tin_mono hC hE h6⟩
theorem fact_mono {C D : Cx} {E F : Ev} (hC : C.le D) (hE : E.le F) {f : Fact} (h : f.ok C E) : f.ok D F := by
  obtain ⟨h1, k, u, h2, h3, h4⟩ := h
  obtain ⟨p, hp⟩ := hE.o
  obtain ⟨l, hl⟩ := hE.ρ
  refine ⟨by rw [hp, List.length_append]; omega, k, u, by rw [hl]; exact ev_grow h2, by rw [hl]; exact inst_grow h3, fun A n c hA i hi hn => ?_⟩
  rw [hp, List.getElem?_append_left h1] at hA
  obtain ⟨b, o, e1, e2⟩ := h4 A n c hA i hi hn
  exact ⟨b, o, e1, place_mono hC e2⟩
theorem read_mono {C D : Cx} {E F : Ev} (hC : C.le D) (hE : E.le F) {r : Read} (h : r.ok C E) : r.ok D F := by
  obtain ⟨b, o, n, c, q, vs, h1, h2, h3, h4, h5, h6⟩ := h
  obtain ⟨p, hp⟩ := hE.o
  obtain ⟨l, hl⟩ := hE.ρ
  exact ⟨b, o, n, c, q, vs, by rw [hp]; exact getg h1, by rw [hl]; exact ev_grow h2, h3, by rw [hC.w0]; exact h4, denL_mono hC hE _ _ h5, by rw [hC.w0]; exact h6⟩
theorem neg_dfd {ρ : List Int} : ∀ {h : Hy}, h.dfd ρ → h.neg.dfd ρ := by
  intro h
  induction h with
  | le a b | lt a b | eq a b | ne a b => intro hd; first | exact hd | exact ⟨hd.2, hd.1⟩
  | or a b iha ihb | and a b iha ihb => intro hd; exact ⟨iha hd.1, ihb hd.2⟩
  | imp a b iha ihb => intro hd; exact ⟨hd.1, ihb hd.2⟩
  | tt | ff => intro _; trivial
/-! slots -/
noncomputable def putS (σ : St) (d : Option Tmp) (s : Option SV) : Option St :=
  match d with
  | none => some σ
  | some d => match Nat.blt d σ.nt with
    | true => setK σ.sl d s (fun t => some { σ with sl := t }) none
    | false => some σ
theorem put_inv {C : Cx} {E : Ev} {σ σ' : St} {a : Act} {w : World} (h : Inv C E σ a w) {d : Option Tmp} {s : Option SV} {v : Value} (hp : putS σ d s = some σ') (hv : ∀ s', s = some s' → Den C E s' v) : Inv C E σ' (a.put d v) w := by
  cases d with
  | none => simp [putS] at hp; subst hp; exact h
  | some d =>
    simp only [putS] at hp
    split at hp
    · rename_i hlt
      have hlt' : d < σ.nt := by simpa using hlt
      obtain ⟨t', ht, hr⟩ := setK_spec hp (by simp)
      cases hr
      refine ⟨h.wt, h.hy, h.ns, h.no, h.nb, by simpa [Act.put] using h.nt, fun t s' hg => ?_, h.hp, h.inj, h.lt, h.fa, h.rd, h.dfr⟩
      by_cases e : t = d
      · subst e
        rw [ht.same] at hg
        cases hg
        exact ⟨v, by simp [Act.put, h.nt, hlt'], hv _ rfl⟩
      · rw [ht.other e] at hg
        obtain ⟨u, h1, h2⟩ := h.sl t s' hg
        exact ⟨u, by simp only [Act.put]; rw [Array.getElem?_setIfInBounds_ne (Ne.symm e)]; exact h1, h2⟩
    · rename_i hlt
      cases hp
      have hge : ¬ d < σ.nt := fun h' => by
        have : Nat.blt d σ.nt = true := by simpa using h'
        rw [hlt] at this; cases this
      refine ⟨h.wt, h.hy, h.ns, h.no, h.nb, by simpa [Act.put] using h.nt, fun t s' hg => ?_, h.hp, h.inj, h.lt, h.fa, h.rd, h.dfr⟩
      obtain ⟨u, h1, h2⟩ := h.sl t s' hg
      have htl : t < a.tmps.size := (Array.getElem?_eq_some_iff.1 h1).1
      exact ⟨u, by simp only [Act.put]; rw [Array.getElem?_setIfInBounds_ne (by intro e; subst e; exact hge (h.nt ▸ htl))]; exact h1, h2⟩
/-- More is known. -/
def assume (x : Hy) (σ : St) : St := { σ with hy := x :: σ.hy }
theorem assume_inv {C : Cx} {E : Ev} {σ : St} {a : Act} {w : World} (h : Inv C E σ a w) {x : Hy} (hd : x.dfd E.ρ) (hx : x.holds (tot E.ρ)) : Inv C E (assume x σ) a w :=
  ⟨h.wt, fun y hy => by rcases List.mem_cons.1 hy with rfl | hy; exact ⟨hd, hx⟩; exact h.hy y hy, h.ns, h.no, h.nb, h.nt, h.sl, h.hp, h.inj, h.lt, h.fa, h.rd, h.dfr⟩
/-- Known things stay known when symbols, slices and types are added. -/
theorem inv_mono {C D : Cx} {E F : Ev} {σ : St} {a : Act} {w : World} (h : Inv C E σ a w) (hC : C.le D) (hE : E.le F) (hwt : WT D w) (hb : F.b = E.b) (hS : ∀ (i : Nat) b o, E.b[i]? = some b → D.R b o = C.R b o) (hM : ∀ (i : Nat) b, E.b[i]? = some b → D.M b = C.M b) :
    Inv D F { σ with ns := F.ρ.length, no := F.o.length } a w := by
  obtain ⟨l, hl⟩ := hE.ρ
  exact ⟨hwt, fun x hx => by
      obtain ⟨h1, h2⟩ := h.hy x hx
      have := dfd_grow (l := l) h1
      rw [hl]
      exact ⟨this.1, this.2.2 h2⟩, rfl, rfl, by rw [hb]; exact h.nb, h.nt, fun t s hg => by
      obtain ⟨v, h1, h2⟩ := h.sl t s hg
      exact ⟨v, h1, den_mono hC hE _ _ h2⟩, fun i x hx hg => tobj_mono hC hE (hS i · ·) (hM i) (h.hp i x hx hg), by rw [hb]; exact h.inj, by rw [hb]; exact h.lt, fun f hf => fact_mono hC hE (h.fa f hf), fun r hr => read_mono hC hE (h.rd r hr), h.dfr⟩
end Go.Vg
/- Operands; what it means that an operation is covered. -/
namespace Go.Vg
open Go Go.RowKit Go.Hs Go.Ty Go.Ex
def ofScal : Value → Option SV
  | .int k n => some (.int k (.c n))
  | .bool b => some (.bool b)
  | .string s => some (.lit (.string s))
  | .slice none 0 0 => some (.nilv 0)
  | .pointer none => some (.nilv 1)
  | .map none => some (.nilv 2)
  | .nilFunc => some (.nilv 3)
  | .nilIface => some (.nilv 4)
  | _ => none
def ofScals : List Value → Option (List SV)
  | [] => some []
  | v :: r => match ofScal v, ofScals r with | some s, some l => some (s :: l) | _, _ => none
def ofVal : Value → Option SV
  | .agg cs => (ofScals cs.toList).map .agg
  | v => ofScal v
theorem ofScal_den {C : Cx} {E : Ev} {v : Value} {s : SV} (h : ofScal v = some s) : Den C E s v := by
  unfold ofScal at h
  split at h <;> first | (cases h; done) | (cases h; simp [Den, nilVal, Tm.ev, Value.oneCell'])
theorem ofScals_den {C : Cx} {E : Ev} : ∀ {l : List Value} {s : List SV}, ofScals l = some s → DenL C E s l := by
  intro l
  induction l with
  | nil => intro s h; cases h; simp [DenL]
  | cons v r ih =>
    intro s h
    simp only [ofScals] at h
    split at h
    · rename_i s' l' h1 h2
      cases h
      simp only [DenL]
      exact ⟨v, r, rfl, ofScal_den h1, ih h2⟩
    · cases h
theorem ofVal_den {C : Cx} {E : Ev} {v : Value} {s : SV} (h : ofVal v = some s) : Den C E s v := by
  unfold ofVal at h
  split at h
  · rename_i cs
    rw [Option.map_eq_some_iff] at h
    obtain ⟨l, h1, rfl⟩ := h
    simp only [Den]
    exact ⟨cs, rfl, ofScals_den h1⟩
  · exact ofScal_den h
noncomputable def evS (σ : St) : Operand → Option SV
  | .tmp t => match get σ.sl t with | some (some s) => some s | _ => none
  | .const v => ofVal v
  | .func f => some (.fn f [] [])
  | .global _ => none
theorem evS_den {C : Cx} {E : Ev} {σ : St} {a : Act} {w : World} (h : Inv C E σ a w) {x : Operand} {s : SV} (he : evS σ x = some s) : Den C E s (a.eval x) := by
  cases x with
  | tmp t =>
    simp only [evS] at he
    split at he
    · rename_i s' hg
      cases he
      obtain ⟨v, h1, h2⟩ := h.sl t _ hg
      have : a.eval (.tmp t) = v := by
        show a.tmps.getD t undef = v
        simp [h1]
      rw [this]; exact h2
    · cases he
  | const v => exact ofVal_den he
  | func f => cases he; simp [Den, DenL, Act.eval]
  | global g => cases he
/-- No way out of the room: each append is shown to fit. -/
def Lets (_ : Exit → Act → World → Prop) : Prop := True
/-- What an operation may come to: a value and a state. -/
abbrev Outs := List (SV × St)
/-- An operation is covered by these outcomes. -/
def OpOK (P : Program) (o : Oper) (σ : St) (outs : Outs) : Prop :=
  ∀ C E a w, Inv C E σ a w → ∀ (next : Act → World → Prop) (Q : Exit → Act → World → Prop), Lets Q →
    (∀ s σ', (s, σ') ∈ outs → ∀ C' E' v w', C.le C' → E.le E' → Inv C' E' σ' a w' → Den C' E' s v → next (a.put o.dst v) w') →
    o.wp P a w next Q ∨ (o.asks P a w ∧ LetsOut Q)
/-- An operation that yields a value and leaves the world as it is. -/
theorem opOK_pure {P : Program} {o : Oper} {σ : St} {outs : Outs} (h : ∀ C E a w, Inv C E σ a w → ∃ v s σ', (execOp a.eval o).run P w = .ok (.value v) w ∧ (s, σ') ∈ outs ∧ ∃ C' E', C.le C' ∧ E.le E' ∧ Inv C' E' σ' a w ∧ Den C' E' s v) : OpOK P o σ outs := by
  intro C E a w hi next Q _ hn
  obtain ⟨v, s, σ', h1, h2, C', E', h3, h4, h5, h6⟩ := h C E a w hi
  left
  unfold Oper.wp
  rw [h1]
  exact hn s σ' h2 C' E' v w h3 h4 h5 h6
/-- The same value in whatever world. -/
def QuietOK (P : Program) (o : Oper) (σ : St) (s : SV) : Prop :=
  ∀ C E a w, Inv C E σ a w → ∃ v, (∀ w', (execOp a.eval o).run P w' = .ok (.value v) w') ∧ Den C E s v
theorem QuietOK.op {P : Program} {o : Oper} {σ : St} {s : SV} (h : QuietOK P o σ s) : OpOK P o σ [(s, σ)] :=
  opOK_pure fun C E a w hi => let ⟨v, h1, h2⟩ := h C E a w hi; ⟨v, s, σ, h1 w, List.mem_cons_self .., C, E, .refl _, .refl _, hi, h2⟩
theorem op_move {P : Program} {o : Oper} {σ : St} {x : Operand} {s : SV} (ho : o.op = .move x ∨ o.op = .assign x) (he : evS σ x = some s) : QuietOK P o σ s :=
  fun C E a w hi => ⟨a.eval x, fun w => by rcases ho with ho | ho; exact Go.BigFrame.run_move x ho w; exact Go.BigFrame.run_assign x ho w, evS_den hi he⟩
end Go.Vg
/- Quiet operations. -/
namespace Go.Vg
open Go Go.RowKit Go.Hs Go.Ty Go.Ex
def DT.size : DT → Nat
  | .pair a b => a.size + b.size
  | .rep n t => n * t.size
  | .nil => 0
  | _ => 1
theorem inst_size {ρ : List Int} : ∀ {t : DT} {u : T}, t.inst ρ = some u → u.size = t.size := by
  intro t
  induction t with
  | pair a b iha ihb =>
    intro u h
    simp only [DT.inst] at h
    split at h
    · rename_i x y hx hy; cases h; simp only [T.size, DT.size, iha hx, ihb hy]
    · cases h
  | rep n t ih =>
    intro u h
    simp only [DT.inst, Option.map_eq_some_iff] at h
    obtain ⟨x, hx, rfl⟩ := h
    simp only [T.size, DT.size, ih hx]
  | int k lo hi | sl m lo hi t _ | map k v _ _ =>
    intro u h
    simp only [DT.inst] at h
    split at h
    · cases h; rfl
    · cases h
  | ptr t _ =>
    intro u h
    simp only [DT.inst, Option.map_eq_some_iff] at h
    obtain ⟨x, hx, rfl⟩ := h
    rfl
  | bool | str | nil | any => intro u h; cases h; rfl
/-- An element's place. -/
theorem elem_place {C : Cx} {m : Md} {u : T} {lo hi : Int} {A : Option Addr} {n c : Nat} (h : At C (.sl m lo hi u) (Ty.one (.slice A n c))) {i : Nat} (hi : i < n) :
    ∃ b o, A = some ⟨b, o, none⟩ ∧ Place C m u b (o + i * u.size) := by
  obtain ⟨A', n', c', h1, _, _, _, h2⟩ := h
  simp only [Ty.one, if_pos, Option.some.injEq, Value.slice.injEq] at h1
  obtain ⟨rfl, rfl, rfl⟩ := h1
  rcases h2 with ⟨hm, h2⟩ | ⟨hm, h2⟩
  · rcases h2 with ⟨_, rfl, _⟩ | ⟨b, o, rfl, h3, h4, h5, _⟩
    · omega
    · refine ⟨b, o, rfl, .inl ⟨hm, h4, fun j hj => ?_⟩⟩
      have hlt : i * u.size + j < n * u.size := by
        have : (i + 1) * u.size ≤ n * u.size := Nat.mul_le_mul_right _ (by omega)
        rw [Nat.succ_mul] at this
        omega
      have := h5 (i * u.size + j) hlt
      rw [show o + i * u.size + j = o + (i * u.size + j) by omega, this, show (i * u.size + j) % u.size = j by rw [Nat.mul_comm, Nat.mul_add_mod]; exact Nat.mod_eq_of_lt hj]
  · obtain ⟨b, o, rfl, h3, h4⟩ := h2 i hi
    exact ⟨b, o, rfl, .inr ⟨hm, h3, by simpa only [Nat.add_assoc] using h4⟩⟩
section
variable {E0 : Env} (hE0 : EnvOK E0)
include hE0
theorem op_indexAddr_sl {o : Oper} {σ : St} {t : TypeId} {x ix : Operand} {id : Nat} {m : Md} {d : DT} {n i : Tm} {k : IntKind} {e : TypeId} {j : AInfo}
    (ho : o.op = .indexAddr t x ix) (hx : evS σ x = some (.sl id m d n)) (hi : evS σ ix = some (.int k i)) (hu : und E0 t = some (.slice e)) (hj : inf E0 e = some j) (hs : d.size = j.size)
    (g1 : Goal.ok ⟨σ.hy, .le (.c 0) i⟩) (g2 : Goal.ok ⟨σ.hy, .lt i n⟩) : QuietOK E0.P o σ (.eli id i m d) := by
  intro C E a w hinv
  have h1 := evS_den hinv hx
  have h2 := evS_den hinv hi
  simp only [Den] at h1 h2
  obtain ⟨hid, u, kn, hu1, hn, hat⟩ := h1
  obtain ⟨ii, hii, hev⟩ := h2
  have hyp : ∀ h ∈ σ.hy, h.holds (tot E.ρ) := fun h hh => (hinv.hy h hh).2
  have a1 := g1 (tot E.ρ) hyp
  have a2 := g2 (tot E.ρ) hyp
  simp only [Hy.holds, ev_val hii, ev_val hn, Tm.val] at a1 a2
  have hat0 := hat
  obtain ⟨A, nn, c, hsl, hlo, hhi, _⟩ := hat
  simp only [Ty.one, if_pos, Option.some.injEq] at hsl
  have hnn : kn = (nn : Int) := by have := hlo.1; omega
  obtain ⟨q, rfl⟩ := Int.eq_ofNat_of_zero_le a1
  have hqn : q < nn := by omega
  have hat2 : At C (.sl m kn kn u) (Ty.one (.slice A nn c)) := by
    rw [← hsl]; exact hat0
  obtain ⟨b, off, rfl, hpl⟩ := elem_place hat2 hqn
  obtain ⟨tj, zj, dj, hjo, _, _⟩ := inf_ok hE0 hj
  have hsz : u.size = j.size := (inst_size hu1).trans hs
  refine ⟨.pointer (some ⟨b, off + q * j.size, none⟩), fun w => ?_, ?_⟩
  · rw [exec_eq ho]
    simp only [execOp, Instr.indexAt, hsl, hev, asIntOf, Sem.run_bind, Sem.run_pure, Result.andThen_ok, und_run hE0 hu]
    rw [if_pos (by omega)]
    simp only [Sem.run_bind, hjo.sizeOf, Result.andThen_ok, Sem.run_pure, add_flat, Int.toNat_natCast]
  · simp only [Den]
    exact ⟨u, b, off, nn, c, q, hu1, by rw [hid, hsl], hii, hqn, by rw [hsz], hpl⟩
end
end Go.Vg
/- Operations on whole numbers. -/
namespace Go.Vg
open Go Go.RowKit Go.Hs Go.Ty Go.Ex
def kLo : IntKind → Int
  | .i8 => -128 | .i16 => -32768 | .i32 => -2147483648 | .i64 => -9223372036854775808 | _ => 0
def kHi : IntKind → Int
  | .i8 => 127 | .i16 => 32767 | .i32 => 2147483647 | .i64 => 9223372036854775807 | .u8 => 255 | .u16 => 65535 | .u32 => 4294967295 | .u64 => 18446744073709551615
theorem wrap_in {k : IntKind} {n : Int} (h1 : kLo k ≤ n) (h2 : n ≤ kHi k) : k.wrap n = n := by
  cases k <;> simp only [kLo, kHi] at h1 h2
  · exact IntWalk.i8_in n ⟨h1, h2⟩
  · exact IntWalk.i16_in n ⟨h1, h2⟩
  · exact IntWalk.i32_in n ⟨h1, h2⟩
  · exact IntWalk.i64_in n ⟨h1, h2⟩
  · exact IntWalk.u8_in n ⟨h1, h2⟩
  · exact IntWalk.u16_in n ⟨h1, h2⟩
  · exact IntWalk.u32_in n ⟨h1, h2⟩
  · exact IntWalk.u64_in n ⟨h1, h2⟩
def cmpOp (op : BinOp) (a b : Tm) : Option Hy := match op with
  | .eql => some (.eq a b) | .neq => some (.ne a b) | .lss => some (.lt a b) | .leq => some (.le a b) | .gtr => some (.lt b a) | .geq => some (.le b a)
  | _ => none
def ariOp (op : BinOp) (a b : Tm) : Option Tm := match op with
  | .add => some (.add a b) | .sub => some (.sub a b) | .mul => some (.mul a b)
  | _ => none
theorem exec_bin {P : Program} {o : Oper} {a : Act} {op : BinOp} {t yt : TypeId} {x y : Operand} {k : IntKind} {m n : Int} {v : Value} (ho : o.op = .binOp op t x y yt) (hx : a.eval x = .int k m) (hy : a.eval y = .int k n) (hv : intOp op k m n = some v) (w : World) :
    (execOp a.eval o).run P w = .ok (.value v) w := by
  rw [exec_eq ho]
  simp only [execOp, hx, hy, Sem.run_bind]
  have hgd : (eqGuard op t x y (Value.int k m) (Value.int k n)).run P w = .ok () w := by unfold eqGuard; cases op <;> simp
  rw [hgd]
  simp only [Result.andThen_ok, (intOp_run (t := t) (P := P) hv w).1]
  rfl
theorem op_cmp {P : Program} {o : Oper} {σ : St} {op : BinOp} {t yt : TypeId} {x y : Operand} {k : IntKind} {m n : Tm} {h : Hy}
    (ho : o.op = .binOp op t x y yt) (hx : evS σ x = some (.int k m)) (hy : evS σ y = some (.int k n)) (hh : cmpOp op m n = some h) : QuietOK P o σ (.cmp h) := by
  intro C E a w hinv
  have h1 := evS_den hinv hx
  have h2 := evS_den hinv hy
  simp only [Den] at h1 h2
  obtain ⟨i, hi, hxe⟩ := h1
  obtain ⟨j, hj, hye⟩ := h2
  have key : ∃ b, intOp op k i j = some (.bool b) ∧ h.dfd E.ρ ∧ (b = true ↔ h.holds (tot E.ρ)) := by
    cases op <;> simp only [cmpOp, Option.some.injEq, reduceCtorEq] at hh <;> subst hh <;>
      exact ⟨_, rfl, ⟨⟨_, by assumption⟩, ⟨_, by assumption⟩⟩, by simp [Hy.holds, ev_val hi, ev_val hj, ieq_eq, ilt_lt]⟩
  obtain ⟨b, hb, hd, hbh⟩ := key
  exact ⟨.bool b, fun w => exec_bin ho hxe hye hb w, by simp only [Den]; exact ⟨b, rfl, hd, hbh⟩⟩
theorem op_ari {P : Program} {o : Oper} {σ : St} {op : BinOp} {t yt : TypeId} {x y : Operand} {k : IntKind} {m n z : Tm}
    (ho : o.op = .binOp op t x y yt) (hx : evS σ x = some (.int k m)) (hy : evS σ y = some (.int k n)) (hz : ariOp op m n = some z)
    (g : Goal.ok ⟨σ.hy, .and (.le (.c (kLo k)) z) (.le z (.c (kHi k)))⟩) : QuietOK P o σ (.int k z) := by
  intro C E a w hinv
  have h1 := evS_den hinv hx
  have h2 := evS_den hinv hy
  simp only [Den] at h1 h2
  obtain ⟨i, hi, hxe⟩ := h1
  obtain ⟨j, hj, hye⟩ := h2
  have hyp : ∀ h ∈ σ.hy, h.holds (tot E.ρ) := fun h hh => (hinv.hy h hh).2
  have gg := g (tot E.ρ) hyp
  have key : ∃ r, z.ev E.ρ = some r ∧ intOp op k i j = some (.int k (wrapF k r)) := by
    cases op <;> simp only [ariOp, Option.some.injEq, reduceCtorEq] at hz <;> subst hz <;> exact ⟨_, by simp only [Tm.ev, hi, hj], rfl⟩
  obtain ⟨r, hr, hop⟩ := key
  simp only [Hy.holds, ev_val hr, Tm.val] at gg
  rw [wrapF_eq, wrap_in gg.1 gg.2] at hop
  exact ⟨.int k r, fun w => exec_bin ho hxe hye hop w, by simp only [Den]; exact ⟨r, hr, rfl⟩⟩
end Go.Vg
/- What is read from a typed place. -/
namespace Go.Vg
open Go Go.RowKit Go.Hs Go.Ty Go.Ex
theorem sym_inv {C : Cx} {E : Ev} {σ : St} {a : Act} {w : World} (h : Inv C E σ a w) (x : Int) : E.le { E with ρ := E.ρ ++ [x] } ∧ Inv C { E with ρ := E.ρ ++ [x] } { σ with ns := σ.ns + 1 } a w ∧ ({ E with ρ := E.ρ ++ [x] } : Ev).ρ[σ.ns]? = some x := by
  have hle : E.le { E with ρ := E.ρ ++ [x] } := ⟨⟨_, rfl⟩, ⟨[], by simp⟩, ⟨[], by simp⟩⟩
  refine ⟨hle, ?_, ?_⟩
  · have := inv_mono h (.refl C) hle h.wt rfl (fun _ _ _ _ => rfl) (fun _ _ _ => rfl)
    simpa [h.ns, h.no] using this
  · show (E.ρ ++ [x])[σ.ns]? = some x
    rw [← h.ns]; simp
theorem id_inv {C : Cx} {E : Ev} {σ : St} {a : Act} {w : World} (h : Inv C E σ a w) (v : Value) : E.le { E with o := E.o ++ [v] } ∧ Inv C { E with o := E.o ++ [v] } { σ with no := σ.no + 1 } a w ∧ ({ E with o := E.o ++ [v] } : Ev).o[σ.no]? = some v := by
  have hle : E.le { E with o := E.o ++ [v] } := ⟨⟨[], by simp⟩, ⟨_, rfl⟩, ⟨[], by simp⟩⟩
  refine ⟨hle, ?_, ?_⟩
  · have := inv_mono h (.refl C) hle h.wt rfl (fun _ _ _ _ => rfl) (fun _ _ _ => rfl)
    simpa [h.ns, h.no] using this
  · show (E.o ++ [v])[σ.no]? = some v
    rw [← h.no]; simp
/-- How many at least, as a hypothesis. -/
def loG (lo n : Tm) : Hy := match lo with
  | .c (.ofNat _) => .le lo n
  | _ => .and (.le lo n) (.imp (.lt lo (.c 0)) (.or (.eq n (.c 0)) (.le (.sub (.c 0) lo) n)))
theorem loG_holds {lo n : Tm} {ρ : Nat → Int} : (loG lo n).holds ρ ↔ LoOK (lo.val ρ) (n.val ρ) := by
  unfold loG LoOK
  split
  · simp only [Hy.holds, Tm.val, Int.ofNat_eq_natCast]
    exact ⟨fun h => ⟨h, fun h' => by omega⟩, fun h => h.1⟩
  · simp only [Hy.holds, Tm.val]
    constructor
    · rintro ⟨h1, h2⟩; exact ⟨h1, fun h => by have := h2 h; omega⟩
    · rintro ⟨h1, h2⟩; exact ⟨h1, fun h => by have := h2 h; omega⟩
theorem loG_dfd {lo n : Tm} {ρ : List Int} {x y : Int} (h1 : lo.ev ρ = some x) (h2 : n.ev ρ = some y) : (loG lo n).dfd ρ := by
  unfold loG
  split
  · exact ⟨⟨_, h1⟩, ⟨_, h2⟩⟩
  · exact ⟨⟨⟨_, h1⟩, ⟨_, h2⟩⟩, ⟨⟨_, h1⟩, ⟨0, rfl⟩⟩, ⟨⟨_, h2⟩, ⟨0, rfl⟩⟩, ⟨_, by simp only [Tm.ev, h1]; rfl⟩, ⟨_, h2⟩⟩
theorem loOK_self (k : Nat) : LoOK (k : Int) (k : Int) := ⟨Int.le_refl _, fun h => by omega⟩
theorem lo_inv {C : Cx} {E : Ev} {σ : St} {a : Act} {w : World} (h : Inv C E σ a w) {s lo hi : Tm} {n x y : Int} (hs : s.ev E.ρ = some n) (hx : lo.ev E.ρ = some x) (hy : hi.ev E.ρ = some y) (h1 : LoOK x n) (h2 : n ≤ y) : Inv C E (assume (loG lo s) (assume (.le s hi) σ)) a w := by
  refine assume_inv (assume_inv h (show (Hy.le s hi).dfd E.ρ from ⟨⟨n, hs⟩, ⟨y, hy⟩⟩) ?_) (loG_dfd hx hs) ?_
  · show _ ≤ _
    rw [ev_val hs, ev_val hy]; exact h2
  · rw [loG_holds, ev_val hs, ev_val hx]; exact h1
def freshOf (σ : St) : DT → Option (List SV × St)
  | .int k lo hi => some ([.int k (.s σ.ns)], assume (.le lo (.s σ.ns)) (assume (.le (.s σ.ns) hi) { σ with ns := σ.ns + 1 }))
  | .bool => some ([.cmp (.ne (.s σ.ns) (.c 0))], { σ with ns := σ.ns + 1 })
  | .str => some ([.str], σ)
  | .sl m lo hi t => some ([.sl σ.no m t (.s σ.ns)], assume (loG lo (.s σ.ns)) (assume (.le (.s σ.ns) hi) { σ with ns := σ.ns + 1, no := σ.no + 1 }))
  | .ptr t => some ([.ptr t], σ)
  | .map k v => some ([.map k v], σ)
  | .pair a b => match freshOf σ a with
    | some (l, σ1) => match freshOf σ1 b with
      | some (r, σ2) => some (l ++ r, σ2)
      | none => none
    | none => none
  | .nil => some ([], σ)
  | .any => some ([.unk], σ)
  | .rep _ _ => none
theorem denL_append {C : Cx} {E : Ev} : ∀ {l r : List SV} {vs us : List Value}, DenL C E l vs → DenL C E r us → DenL C E (l ++ r) (vs ++ us) := by
  intro l
  induction l with
  | nil => intro r vs us h h'; simp only [DenL] at h; subst h; exact h'
  | cons s l ih =>
    intro r vs us h h'
    simp only [DenL] at h
    obtain ⟨v, q, rfl, h1, h2⟩ := h
    simp only [List.cons_append, DenL]
    exact ⟨v, q ++ us, rfl, h1, ih h2 h'⟩
theorem range_inv {C : Cx} {E : Ev} {σ : St} {a : Act} {w : World} (h : Inv C E σ a w) {s lo hi : Tm} {n x y : Int} (hs : s.ev E.ρ = some n) (hx : lo.ev E.ρ = some x) (hy : hi.ev E.ρ = some y) (h1 : x ≤ n) (h2 : n ≤ y) : Inv C E (assume (.le lo s) (assume (.le s hi) σ)) a w := by
  have d1 : (Hy.le s hi).dfd E.ρ := ⟨⟨n, hs⟩, ⟨y, hy⟩⟩
  have d2 : (Hy.le lo s).dfd E.ρ := ⟨⟨x, hx⟩, ⟨n, hs⟩⟩
  refine assume_inv (assume_inv h d1 ?_) d2 ?_
  · show _ ≤ _
    rw [ev_val hs, ev_val hy]; exact h2
  · show _ ≤ _
    rw [ev_val hs, ev_val hx]; exact h1
theorem fresh_den {C : Cx} : ∀ {t : DT} {E : Ev} {σ σ' : St} {a : Act} {w : World} {u : T} {rd : Nat → Option Value} {l : List SV}, Inv C E σ a w → t.inst E.ρ = some u → At C u rd → freshOf σ t = some (l, σ') →
    ∃ E', E.le E' ∧ Inv C E' σ' a w ∧ ∃ vs, DenL C E' l vs ∧ vs.length = u.size ∧ ∀ j, j < u.size → rd j = vs[j]? := by
  intro t
  induction t with
  | int k lo hi =>
    intro E σ σ' a w u rd l hinv hu hat hf
    simp only [DT.inst] at hu
    split at hu
    · rename_i x y hx hy
      cases hu
      simp only [freshOf, Option.some.injEq, Prod.mk.injEq] at hf
      obtain ⟨rfl, rfl⟩ := hf
      obtain ⟨n, h1, h2, h3⟩ := hat
      obtain ⟨e1, e2, e3⟩ := sym_inv hinv n
      have hs : (Tm.s σ.ns).ev ({ E with ρ := E.ρ ++ [n] } : Ev).ρ = some n := e3
      have hx' := ev_grow (l := [n]) hx
      have hy' := ev_grow (l := [n]) hy
      refine ⟨_, e1, range_inv e2 hs hx' hy' h2 h3, [.int k n], ?_, rfl, fun j hj => ?_⟩
      · simp only [DenL, Den]
        exact ⟨_, _, rfl, ⟨n, hs, rfl⟩, rfl⟩
      · simp only [T.size] at hj
        rw [show j = 0 by omega]; exact h1
    · cases hu
  | bool =>
    intro E σ σ' a w u rd l hinv hu hat hf
    cases hu
    simp only [freshOf, Option.some.injEq, Prod.mk.injEq] at hf
    obtain ⟨rfl, rfl⟩ := hf
    obtain ⟨b, h1⟩ := hat
    obtain ⟨e1, e2, e3⟩ := sym_inv hinv (if b then 1 else 0)
    have hs : (Tm.s σ.ns).ev ({ E with ρ := E.ρ ++ [if b then 1 else 0] } : Ev).ρ = some (if b then 1 else 0) := e3
    refine ⟨_, e1, e2, [.bool b], ?_, rfl, fun j hj => ?_⟩
    · simp only [DenL, Den]
      refine ⟨_, _, rfl, ⟨b, rfl, ⟨⟨_, hs⟩, ⟨0, rfl⟩⟩, ?_⟩, rfl⟩
      show _ ↔ _ ≠ _
      rw [ev_val hs]
      cases b <;> simp [Tm.val]
    · simp only [T.size] at hj
      rw [show j = 0 by omega]; exact h1
  | str =>
    intro E σ σ' a w u rd l hinv hu hat hf
    cases hu
    simp only [freshOf, Option.some.injEq, Prod.mk.injEq] at hf
    obtain ⟨rfl, rfl⟩ := hf
    obtain ⟨b, h1⟩ := hat
    refine ⟨E, .refl _, hinv, [.string b], ?_, rfl, fun j hj => ?_⟩
    · simp only [DenL, Den]; exact ⟨_, _, rfl, ⟨b, rfl⟩, rfl⟩
    · simp only [T.size] at hj
      rw [show j = 0 by omega]; exact h1
  | sl m lo hi t _ =>
    intro E σ σ' a w u rd l hinv hu hat hf
    simp only [DT.inst] at hu
    split at hu
    · rename_i x y z hx hy hz
      cases hu
      simp only [freshOf, Option.some.injEq, Prod.mk.injEq] at hf
      obtain ⟨rfl, rfl⟩ := hf
      obtain ⟨A, n, c, h1, h2, h3, h4, h5⟩ := hat
      obtain ⟨e1, e2, e3⟩ := sym_inv hinv (n : Int)
      obtain ⟨f1, f2, f3⟩ := id_inv e2 (.slice A n c)
      have hs : (Tm.s σ.ns).ev (E.ρ ++ [(n : Int)]) = some (n : Int) := e3
      have hx' := ev_grow (l := [(n : Int)]) hx
      have hy' := ev_grow (l := [(n : Int)]) hy
      refine ⟨_, e1.trans f1, lo_inv f2 hs hx' hy' h2 h3, [.slice A n c], ?_, rfl, fun j hj => ?_⟩
      · simp only [DenL, Den]
        exact ⟨_, _, rfl, ⟨f3, z, n, inst_grow hz, hs, A, n, c, rfl, loOK_self _, Int.le_refl _, h4, h5⟩, rfl⟩
      · simp only [T.size] at hj
        rw [show j = 0 by omega]; exact h1
    · cases hu
  | ptr t _ =>
    intro E σ σ' a w u rd l hinv hu hat hf
    simp only [DT.inst, Option.map_eq_some_iff] at hu
    obtain ⟨x, hx, rfl⟩ := hu
    simp only [freshOf, Option.some.injEq, Prod.mk.injEq] at hf
    obtain ⟨rfl, rfl⟩ := hf
    obtain ⟨v, h1, h2⟩ := at_leaf_some (t := .ptr x) rfl hat
    refine ⟨E, .refl _, hinv, [v], ?_, rfl, fun j hj => ?_⟩
    · simp only [DenL, Den]; exact ⟨_, _, rfl, ⟨x, hx, h2⟩, rfl⟩
    · simp only [T.size] at hj
      rw [show j = 0 by omega]; exact h1
  | map k v _ _ =>
    intro E σ σ' a w u rd l hinv hu hat hf
    simp only [DT.inst] at hu
    split at hu
    · rename_i x y hx hy
      cases hu
      simp only [freshOf, Option.some.injEq, Prod.mk.injEq] at hf
      obtain ⟨rfl, rfl⟩ := hf
      obtain ⟨v, h1, h2⟩ := at_leaf_some (t := .map x y) rfl hat
      refine ⟨E, .refl _, hinv, [v], ?_, rfl, fun j hj => ?_⟩
      · simp only [DenL, Den]; exact ⟨_, _, rfl, ⟨x, y, hx, hy, h2⟩, rfl⟩
      · simp only [T.size] at hj
        rw [show j = 0 by omega]; exact h1
    · cases hu
  | pair p q ihp ihq =>
    intro E σ σ' a w u rd l hinv hu hat hf
    simp only [DT.inst] at hu
    split at hu
    · rename_i x y hx hy
      cases hu
      simp only [freshOf] at hf
      split at hf
      · rename_i l1 σ1 h1
        split at hf
        · rename_i l2 σ2 h2
          simp only [Option.some.injEq, Prod.mk.injEq] at hf
          obtain ⟨rfl, rfl⟩ := hf
          obtain ⟨E1, a1, a2, vs, a3, a4, a5⟩ := ihp hinv hx hat.1 h1
          obtain ⟨r, hr⟩ := a1.ρ
          have hy1 : q.inst E1.ρ = some y := by rw [hr]; exact inst_grow hy
          obtain ⟨E2, b1, b2, us, b3, b4, b5⟩ := ihq a2 hy1 hat.2 h2
          refine ⟨E2, a1.trans b1, b2, vs ++ us, denL_append (denL_mono (.refl C) b1 _ _ a3) b3, by simp [a4, b4, T.size], fun j hj => ?_⟩
          simp only [T.size] at hj
          by_cases hlt : j < x.size
          · rw [List.getElem?_append_left (by omega)]; exact a5 j hlt
          · rw [List.getElem?_append_right (by omega), a4]
            have := b5 (j - x.size) (by omega)
            rw [show x.size + (j - x.size) = j by omega] at this
            exact this
        · cases hf
      · cases hf
    · cases hu
  | nil =>
    intro E σ σ' a w u rd l hinv hu hat hf
    cases hu
    simp only [freshOf, Option.some.injEq, Prod.mk.injEq] at hf
    obtain ⟨rfl, rfl⟩ := hf
    exact ⟨E, .refl _, hinv, [], by simp only [DenL], rfl, fun j hj => by simp only [T.size] at hj; omega⟩
  | rep n t _ => intro E σ σ' a w u rd l hinv hu hat hf; simp [freshOf] at hf
  | any =>
    intro E σ σ' a w u rd l hinv hu hat hf
    cases hu
    simp only [freshOf, Option.some.injEq, Prod.mk.injEq] at hf
    obtain ⟨rfl, rfl⟩ := hf
    obtain ⟨v, h1, h2⟩ := hat
    refine ⟨E, .refl _, hinv, [v], ?_, rfl, fun j hj => ?_⟩
    · simp only [DenL, Den]; exact ⟨_, _, rfl, h2, rfl⟩
    · simp only [T.size] at hj
      rw [show j = 0 by omega]; exact h1
end Go.Vg
/- Loads. -/
namespace Go.Vg
open Go Go.RowKit Go.Hs Go.Ty Go.Ex
/-- The cells of a place, as they are. -/
theorem elt_reads {C : Cx} {E : Ev} {σ : St} {a : Act} {w : World} (h : Inv C E σ a w) {m : Md} {t : DT} {v : Value} (hd : Den C E (.elt m t) v) :
    ∃ u b o, t.inst E.ρ = some u ∧ v = .pointer (some ⟨b, o, none⟩) ∧ At C u (fun j => if j < u.size then w.cell? ⟨b, o + j, none⟩ else none) := by
  simp only [Den] at hd
  obtain ⟨u, b, o, h1, h2, h3⟩ := hd
  refine ⟨u, b, o, h1, h2, (at_cells u _).2 fun j x hj => ?_⟩
  have hlt := (cell_some u j).2 ⟨x, hj⟩
  rw [if_pos hlt]
  unfold Place at h3
  rcases h3 with ⟨_, _, h3⟩ | ⟨_, h4, h3⟩
  · obtain ⟨_, _, y, q1, _, q2⟩ := h.wt.cell b (o + j) x ((h3 j hlt).trans hj)
    exact ⟨y, q1, q2⟩
  · obtain ⟨y, q1, q2⟩ := (at_cells u _).1 h3 j x hj
    exact ⟨y, (World.cell?_of_block (a := ⟨b, o + j, none⟩) (h.wt.below.block b h4)).trans q1, q2⟩
section
variable {E0 : Env} (hE0 : EnvOK E0)
include hE0
theorem run_loadVar {t : TypeId} {i : AInfo} (hi : inf E0 t = some i) {w : World} {b o : Nat} {vs : List Value} (hl : vs.length = i.size) (hv : ∀ j, j < i.size → w.cell? ⟨b, o + j, none⟩ = vs[j]?) :
    (i.agg = true → (loadVar t ⟨b, o, none⟩).run E0.P w = .ok (.agg vs.toArray) w) ∧ (i.agg = false → ∀ v, vs = [v] → (loadVar t ⟨b, o, none⟩).run E0.P w = .ok v w) := by
  obtain ⟨ti, z, d, hio, hd, hag⟩ := inf_ok hE0 hi
  constructor
  · intro ha
    unfold loadVar
    simp only [Sem.run_bind, isAggD_und hE0 hi, ha, Result.andThen_ok, if_true, hio.sizeOf]
    rw [← hl, run_loadCells_list w _ vs fun j v hj => by
      have hjl := (List.getElem?_eq_some_iff.1 hj).1
      rw [add_flat, hv j (by omega), hj]]
    rfl
  · intro ha v hvs
    subst hvs
    have h0 := hv 0 (by simp at hl; omega)
    simp only [Nat.add_zero, List.getElem?_cons_zero] at h0
    unfold loadVar
    simp [isAggD_und hE0 hi, ha, h0]
/-- A value out of its cells. -/
def packS (agg : Bool) (l : List SV) : Option SV :=
  match agg with
  | true => some (.agg l)
  | false => match l with | [s] => some s | _ => none
theorem op_load_elt {o : Oper} {σ σ' : St} {t : TypeId} {x : Operand} {m : Md} {d : DT} {i : AInfo} {l : List SV} {s : SV}
    (ho : o.op = .load t x) (hx : evS σ x = some (.elt m d)) (hi : inf E0 t = some i) (hs : d.size = i.size) (hf : freshOf σ d = some (l, σ')) (hp : packS i.agg l = some s) : OpOK E0.P o σ [(s, σ')] := by
  refine opOK_pure fun C E a w hinv => ?_
  obtain ⟨u, b, off, hu, hev, hat⟩ := elt_reads hinv (evS_den hinv hx)
  obtain ⟨E', hle, hinv', vs, hden, hlen, hrd⟩ := fresh_den hinv hu hat hf
  have hsz : u.size = i.size := (inst_size hu).trans hs
  have hl : vs.length = i.size := hlen.trans hsz
  have hv : ∀ j, j < i.size → w.cell? ⟨b, off + j, none⟩ = vs[j]? := fun j hj => by
    have := hrd j (by omega)
    rw [if_pos (by omega)] at this
    exact this
  obtain ⟨r1, r2⟩ := run_loadVar hE0 hi hl hv
  have key : ∀ v, (loadVar t ⟨b, off, none⟩).run E0.P w = .ok v w → (execOp a.eval o).run E0.P w = .ok (.value v) w := fun v hr => by
    rw [exec_eq ho]
    simp [execOp, hev, Instr.loadAt, sure_addr, hr]
  cases ha : i.agg with
  | true =>
    rw [ha] at hp
    cases hp
    exact ⟨.agg vs.toArray, .agg l, σ', key _ (r1 ha), List.mem_cons_self .., C, E', .refl _, hle, hinv', by simp only [Den]; exact ⟨vs.toArray, rfl, by simpa using hden⟩⟩
  | false =>
    rw [ha] at hp
    unfold packS at hp
    split at hp
    · rename_i h0; cases h0
    · split at hp
      · cases hp
        simp only [DenL] at hden
        obtain ⟨v, r, rfl, h1, rfl⟩ := hden
        exact ⟨v, s, σ', key _ (r2 ha v rfl), List.mem_cons_self .., C, E', .refl _, hle, hinv', h1⟩
      · cases hp
end
end Go.Vg
/- A value within a type. -/
namespace Go.Vg
open Go Go.RowKit Go.Hs Go.Ty Go.Ex
def mdeq : Md → Md → Bool
  | .own, .own | .old, .old | .any, .any => true
  | _, _ => false
theorem mdeq_eq {a b : Md} (h : mdeq a b = true) : a = b := by cases a <;> cases b <;> first | rfl | cases h
def teq : Tm → Tm → Bool
  | .c m, .c n => ieq m n
  | .s i, .s j => Nat.beq i j
  | .add a b, .add c d | .sub a b, .sub c d | .mul a b, .mul c d => teq a c && teq b d
  | _, _ => false
theorem teq_eq : ∀ {a b : Tm}, teq a b = true → a = b := by
  intro a
  induction a with
  | c m => intro b h; cases b <;> first | (simp [teq] at h; done) | (simp only [teq, ieq_eq, beq_iff_eq] at h; rw [h])
  | s i => intro b h; cases b <;> first | (simp [teq] at h; done) | (simp only [teq] at h; rw [Nat.eq_of_beq_eq_true h])
  | add a b iha ihb | sub a b iha ihb | mul a b iha ihb =>
    intro x h
    cases x <;> first | (simp [teq] at h; done) | (simp only [teq, Bool.and_eq_true] at h; rw [iha h.1, ihb h.2])
/-- Equal terms, or the goal that they are. -/
def teqG (hy : List Hy) (a b : Tm) : List Goal := match teq a b with | true => [] | false => [⟨hy, .eq a b⟩]
theorem teqG_ok {hy : List Hy} {a b : Tm} (h : ∀ g ∈ teqG hy a b, g.ok) {ρ : List Int} (hh : ∀ x ∈ hy, x.holds (tot ρ)) {x y : Int} (hx : a.ev ρ = some x) (hy' : b.ev ρ = some y) : x = y := by
  unfold teqG at h
  split at h
  · rename_i ht
    rw [teq_eq ht, hy'] at hx
    cases hx; rfl
  · have := h _ (List.mem_cons_self ..) (tot ρ) hh
    simp only [Hy.holds, ev_val hx, ev_val hy'] at this
    exact this
/-- Equal types, up to goals. -/
def subD (hy : List Hy) : DT → DT → Option (List Goal)
  | .int k lo hi, .int k' lo' hi' => match kbeq k k' with | true => some (teqG hy lo lo' ++ teqG hy hi hi') | false => none
  | .bool, .bool | .str, .str | .nil, .nil => some []
  | .sl m lo hi t, .sl m' lo' hi' t' => match mdeq m m', subD hy t t' with | true, some l => some (teqG hy lo lo' ++ (teqG hy hi hi' ++ l)) | _, _ => none
  | .ptr t, .ptr t' => subD hy t t'
  | .map k v, .map k' v' => match subD hy k k', subD hy v v' with | some a, some b => some (a ++ b) | _, _ => none
  | .pair k v, .pair k' v' => match subD hy k k', subD hy v v' with | some a, some b => some (a ++ b) | _, _ => none
  | .rep n t, .rep n' t' => match Nat.beq n n' with | true => subD hy t t' | false => none
  | _, _ => none
theorem subD_ok {hy : List Hy} {ρ : List Int} (hh : ∀ x ∈ hy, x.holds (tot ρ)) : ∀ {s t : DT} {l : List Goal} {u v : T}, subD hy s t = some l → (∀ g ∈ l, g.ok) → s.inst ρ = some u → t.inst ρ = some v → u = v := by
  intro s
  induction s with
  | int k lo hi =>
    intro t l u v h hg hu hv
    cases t <;> simp only [subD] at h <;> try (cases h; done)
    split at h
    · rename_i hk
      cases h
      simp only [DT.inst] at hu hv
      split at hu
      · rename_i a b ha hb
        split at hv
        · rename_i c d hc hd
          cases hu; cases hv
          rw [kbeq_eq hk, teqG_ok (fun g hgm => hg g (List.mem_append_left _ hgm)) hh ha hc, teqG_ok (fun g hgm => hg g (List.mem_append_right _ hgm)) hh hb hd]
        · cases hv
      · cases hu
    · cases h
  | sl m lo hi t ih =>
    intro t' l u v h hg hu hv
    cases t' <;> simp only [subD] at h <;> try (cases h; done)
    split at h
    · rename_i l' hm hl
      cases h
      simp only [DT.inst] at hu hv
      split at hu
      · rename_i a b x ha hb hx
        split at hv
        · rename_i c d y hc hd hy
          cases hu; cases hv
          rw [mdeq_eq hm, teqG_ok (fun g hgm => hg g (List.mem_append_left _ hgm)) hh ha hc, teqG_ok (fun g hgm => hg g (List.mem_append_right _ (List.mem_append_left _ hgm))) hh hb hd,
            ih hl (fun g hgm => hg g (List.mem_append_right _ (List.mem_append_right _ hgm))) hx hy]
        · cases hv
      · cases hu
    · cases h
  | ptr t ih =>
    intro t' l u v h hg hu hv
    cases t' <;> simp only [subD] at h <;> try (cases h; done)
    simp only [DT.inst, Option.map_eq_some_iff] at hu hv
    obtain ⟨a, ha, rfl⟩ := hu
    obtain ⟨b, hb, rfl⟩ := hv
    rw [ih h hg ha hb]
  | rep n t ih =>
    intro t' l u v h hg hu hv
    cases t' <;> simp only [subD] at h <;> try (cases h; done)
    split at h
    · rename_i hn
      simp only [DT.inst, Option.map_eq_some_iff] at hu hv
      obtain ⟨a, ha, rfl⟩ := hu
      obtain ⟨b, hb, rfl⟩ := hv
      rw [ih h hg ha hb, Nat.eq_of_beq_eq_true hn]
    · cases h
  | map k x ihk ihx =>
    intro t' l u v h hg hu hv
    cases t' <;> simp only [subD] at h <;> try (cases h; done)
    split at h
    · rename_i l1 l2 h1 h2
      cases h
      simp only [DT.inst] at hu hv
      split at hu
      · rename_i a b ha hb
        split at hv
        · rename_i c d hc hd
          cases hu; cases hv
          rw [ihk h1 (fun g hgm => hg g (List.mem_append_left _ hgm)) ha hc, ihx h2 (fun g hgm => hg g (List.mem_append_right _ hgm)) hb hd]
        · cases hv
      · cases hu
    · cases h
  | pair k x ihk ihx =>
    intro t' l u v h hg hu hv
    cases t' <;> simp only [subD] at h <;> try (cases h; done)
    split at h
    · rename_i l1 l2 h1 h2
      cases h
      simp only [DT.inst] at hu hv
      split at hu
      · rename_i a b ha hb
        split at hv
        · rename_i c d hc hd
          cases hu; cases hv
          rw [ihk h1 (fun g hgm => hg g (List.mem_append_left _ hgm)) ha hc, ihx h2 (fun g hgm => hg g (List.mem_append_right _ hgm)) hb hd]
        · cases hv
      · cases hu
    · cases h
  | bool | str | nil | any =>
    intro t' l u v h hg hu hv
    cases t' <;> simp only [subD] at h <;> first | (cases h; done) | (cases hu; cases hv; rfl)
end Go.Vg
/- Values that fit a type; stores. -/
namespace Go.Vg
open Go Go.RowKit Go.Hs Go.Ty Go.Ex
/-- One lower bound of a length gives another. -/
def wkLo (lo' lo : Tm) : Hy := match lo' with
  | .c (.ofNat _) => .le lo' lo
  | _ => .or (.eq lo' lo) (.and (.le (.sub (.c 0) lo') lo) (.le lo' lo))
theorem wkLo_ok {lo' lo : Tm} {ρ : Nat → Int} (h : (wkLo lo' lo).holds ρ) {n : Int} (hn : LoOK (lo.val ρ) n) : LoOK (lo'.val ρ) n := by
  unfold wkLo at h
  split at h
  · simp only [Hy.holds, Tm.val, Int.ofNat_eq_natCast] at h ⊢
    exact ⟨Int.le_trans h hn.1, fun h' => by omega⟩
  · simp only [Hy.holds, Tm.val] at h
    rcases h with h | ⟨h1, h2⟩
    · rw [h]; exact hn
    · exact ⟨Int.le_trans h2 hn.1, fun h' => .inr (by have := hn.1; omega)⟩
/-- A type within a wider one, up to goals. -/
def wkD (hy : List Hy) : DT → DT → Option (List Goal)
  | .int k lo hi, .int k' lo' hi' => match kbeq k k' with | true => some [⟨hy, .le lo' lo⟩, ⟨hy, .le hi hi'⟩] | false => none
  | .sl m lo hi t, .sl m' lo' hi' t' => match mdeq m m' || mdeq m' .any, subD hy t t' with | true, some l => some (⟨hy, wkLo lo' lo⟩ :: ⟨hy, .le hi hi'⟩ :: l) | _, _ => none
  | .pair a b, .pair a' b' => match wkD hy a a', wkD hy b b' with | some x, some y => some (x ++ y) | _, _ => none
  | .rep n t, .rep n' t' => match Nat.beq n n' with | true => wkD hy t t' | false => none
  | s, t => subD hy s t
theorem inst_pair {ρ : List Int} {a b : DT} {u : T} (h : (DT.pair a b).inst ρ = some u) : ∃ x y, a.inst ρ = some x ∧ b.inst ρ = some y ∧ u = .pair x y := by
  simp only [DT.inst] at h
  split at h
  · rename_i x y hx hy; cases h; exact ⟨x, y, hx, hy, rfl⟩
  · cases h
theorem at_sl_widen {C : Cx} {m m' : Md} {k lo hi : Int} {u : T} {rd : Nat → Option Value} (h : At C (.sl m' k k u) rd) (hm : (mdeq m' m || mdeq m .any) = true) (h1 : LoOK lo k) (h2 : k ≤ hi) : At C (.sl m lo hi u) rd := by
  obtain ⟨A, n, c, e1, e2, e3, e4, e5⟩ := h
  have e6 : k = (n : Int) := by have := e2.1; omega
  refine ⟨A, n, c, e1, by rw [← e6]; exact h1, by omega, e4, ?_⟩
  rw [Bool.or_eq_true] at hm
  rcases hm with hm | hm
  · rw [mdeq_eq hm] at e5; exact e5
  · rw [mdeq_eq hm]
    rcases e5 with ⟨_, e5⟩ | ⟨_, e5⟩
    · exact .inl ⟨(by intro h; cases h), e5⟩
    · exact .inr ⟨(by intro h; cases h), e5⟩
theorem at_sl_wk {C : Cx} {m m' : Md} {lo hi lo' hi' : Int} {u : T} {rd : Nat → Option Value} (h : At C (.sl m lo hi u) rd) (hm : (mdeq m m' || mdeq m' .any) = true) (h1 : ∀ n, LoOK lo n → LoOK lo' n) (h2 : hi ≤ hi') : At C (.sl m' lo' hi' u) rd := by
  obtain ⟨A, n, c, e1, e2, e3, e4, e5⟩ := h
  refine ⟨A, n, c, e1, h1 _ e2, by omega, e4, ?_⟩
  rw [Bool.or_eq_true] at hm
  rcases hm with hm | hm
  · rw [← mdeq_eq hm]; exact e5
  · rw [mdeq_eq hm]
    rcases e5 with ⟨_, e5⟩ | ⟨_, e5⟩
    · exact .inl ⟨(by intro h; cases h), e5⟩
    · exact .inr ⟨(by intro h; cases h), e5⟩
theorem wkD_ok {C : Cx} {hy : List Hy} {ρ : List Int} (hh : ∀ x ∈ hy, x.holds (tot ρ)) : ∀ {s t : DT} {l : List Goal} {u v : T} {rd : Nat → Option Value}, wkD hy s t = some l → (∀ g ∈ l, g.ok) → s.inst ρ = some u → t.inst ρ = some v → At C u rd → At C v rd ∧ u.size = v.size := by
  intro s
  have base : ∀ {s t : DT} {l : List Goal} {u v : T} {rd : Nat → Option Value}, subD hy s t = some l → (∀ g ∈ l, g.ok) → s.inst ρ = some u → t.inst ρ = some v → At C u rd → At C v rd ∧ u.size = v.size := by
    intro s t l u v rd h hg hu hv hat
    have := subD_ok hh h hg hu hv
    subst this
    exact ⟨hat, rfl⟩
  induction s with
  | int k lo hi =>
    intro t l u v rd h hg hu hv hat
    cases t <;> simp only [wkD] at h <;> try (exact base h hg hu hv hat)
    split at h
    · rename_i k' lo' hi' hk
      cases h
      simp only [DT.inst] at hu hv
      split at hu
      · rename_i a b ha hb
        split at hv
        · rename_i c d hc hd
          cases hu; cases hv
          have g1 := hg _ (List.mem_cons_self ..) (tot ρ) hh
          have g2 := hg _ (List.mem_cons_of_mem _ (List.mem_cons_self ..)) (tot ρ) hh
          simp only [Hy.holds, ev_val ha, ev_val hb, ev_val hc, ev_val hd] at g1 g2
          obtain ⟨n, q1, q2, q3⟩ := hat
          rw [← kbeq_eq hk]
          exact ⟨⟨n, q1, by omega, by omega⟩, rfl⟩
        · cases hv
      · cases hu
    · cases h
  | sl m lo hi t ih =>
    intro t' l u v rd h hg hu hv hat
    cases t' <;> simp only [wkD] at h <;> try (exact base h hg hu hv hat)
    split at h
    · rename_i m' lo' hi' t' l' hm hl
      cases h
      simp only [DT.inst] at hu hv
      split at hu
      · rename_i a b x ha hb hx
        split at hv
        · rename_i c d y hc hd hy
          cases hu; cases hv
          have g1 := hg _ (List.mem_cons_self ..) (tot ρ) hh
          have g2 := hg _ (List.mem_cons_of_mem _ (List.mem_cons_self ..)) (tot ρ) hh
          have g1 := fun n hn => wkLo_ok g1 (n := n) hn
          simp only [ev_val ha, ev_val hc] at g1
          simp only [Hy.holds, ev_val hb, ev_val hd] at g2
          have := subD_ok hh hl (fun g hgm => hg g (List.mem_cons_of_mem _ (List.mem_cons_of_mem _ hgm))) hx hy
          subst this
          exact ⟨at_sl_wk hat hm g1 g2, rfl⟩
        · cases hv
      · cases hu
    · cases h
  | pair a b iha ihb =>
    intro t' l u v rd h hg hu hv hat
    cases t' <;> simp only [wkD] at h <;> try (exact base h hg hu hv hat)
    split at h
    · rename_i l1 l2 h1 h2
      cases h
      obtain ⟨x, y, hx, hy, rfl⟩ := inst_pair hu
      obtain ⟨x', y', hx', hy', rfl⟩ := inst_pair hv
      obtain ⟨p1, p2⟩ := iha h1 (fun g hgm => hg g (List.mem_append_left _ hgm)) hx hx' hat.1
      obtain ⟨q1, q2⟩ := ihb h2 (fun g hgm => hg g (List.mem_append_right _ hgm)) hy hy' hat.2
      exact ⟨⟨p1, by rw [← p2]; exact q1⟩, by simp only [T.size, p2, q2]⟩
    · cases h
  | rep n t ih =>
    intro t' l u v rd h hg hu hv hat
    cases t' <;> simp only [wkD] at h <;> try (exact base h hg hu hv hat)
    split at h
    · rename_i hn
      simp only [DT.inst, Option.map_eq_some_iff] at hu hv
      obtain ⟨x, hx, rfl⟩ := hu
      obtain ⟨y, hy, rfl⟩ := hv
      rw [← Nat.eq_of_beq_eq_true hn]
      rcases Nat.eq_zero_or_pos n with e0 | e0
      · subst e0
        refine ⟨fun i hi => absurd hi (Nat.not_lt_zero _), by simp [T.size]⟩
      · have hs := (ih h hg hx hy (hat 0 e0)).2
        refine ⟨fun i hi => ?_, by simp only [T.size, hs]⟩
        have := (ih h hg hx hy (hat i hi)).1
        rw [← hs]; exact this
    · cases h
  | _ =>
    intro t' l u v rd h hg hu hv hat
    refine base ?_ hg hu hv hat
    cases t' <;> simpa only [wkD] using h
/-! what is known -/
def Kn (C : Cx) (E : Ev) (σ : St) : Prop := (∀ x ∈ σ.hy, x.holds (tot E.ρ)) ∧ ∀ f ∈ σ.fa, f.ok C E
theorem Inv.kn {C : Cx} {E : Ev} {σ : St} {a : Act} {w : World} (h : Inv C E σ a w) : Kn C E σ := ⟨fun x hx => (h.hy x hx).2, h.fa⟩
/-- Is a bound known, word for word? -/
def saidLe (hy : List Hy) (a b : Tm) : Bool := teq a b || hy.any fun h => match h with | .le x y => teq x a && teq y b | _ => false
theorem saidLe_ok {hy : List Hy} {ρ : List Int} (hh : ∀ x ∈ hy, x.holds (tot ρ)) {a b : Tm} (h : saidLe hy a b = true) {x y : Int} (hx : a.ev ρ = some x) (hy' : b.ev ρ = some y) : x ≤ y := by
  unfold saidLe at h
  rw [Bool.or_eq_true] at h
  rcases h with h | h
  · have := teq_eq h; subst this; rw [hx] at hy'; cases hy'; exact Int.le_refl _
  · obtain ⟨g, hg, h⟩ := List.any_eq_true.1 h
    split at h
    · rw [Bool.and_eq_true] at h
      have e1 := teq_eq h.1
      have e2 := teq_eq h.2
      subst e1; subst e2
      have := hh _ hg
      simp only [Hy.holds, ev_val hx, ev_val hy'] at this
      exact this
    · cases h
/-- A fact that holds of all elements of an elder slice. -/
def wholeF (hy : List Hy) : List Fact → Nat → Tm → Option DT
  | [], _, _ => none
  | f :: r, id, n => match mdeq f.m .old && Nat.beq f.id id && saidLe hy n f.k with
    | true => some f.t
    | false => wholeF hy r id n
theorem wholeF_ok {C : Cx} {E : Ev} {hy : List Hy} (hh : ∀ x ∈ hy, x.holds (tot E.ρ)) : ∀ {l : List Fact} {id : Nat} {n : Tm} {t : DT}, (∀ f ∈ l, f.ok C E) → wholeF hy l id n = some t → ∀ {A : Option Addr} {m c : Nat}, E.o[id]? = some (.slice A m c) → n.ev E.ρ = some (m : Int) →
    ∃ u, t.inst E.ρ = some u ∧ ∀ i, i < m → ∃ b o, A = some ⟨b, o, none⟩ ∧ Place C .old u b (o + i * u.size) := by
  intro l
  induction l with
  | nil => intro id n t _ h; cases h
  | cons f r ih =>
    intro id n t hf h A m c hA hn
    simp only [wholeF] at h
    split at h
    · rename_i hb
      cases h
      simp only [Bool.and_eq_true] at hb
      obtain ⟨h1, k, u, h2, h3, h4⟩ := hf f (List.mem_cons_self ..)
      have hle := saidLe_ok hh hb.2 hn h2
      rw [Nat.eq_of_beq_eq_true hb.1.2, mdeq_eq hb.1.1] at h4
      exact ⟨u, h3, fun i hi => h4 A m c hA i (by omega) hi⟩
    · exact ih (fun f hm => hf f (List.mem_cons_of_mem _ hm)) h hA hn
def fitB (hy : List Hy) : DT → SV → Option (List Goal)
  | .int k lo hi, .int k' x => match kbeq k' k with | true => some [⟨hy, .le lo x⟩, ⟨hy, .le x hi⟩] | false => none
  | .bool, .bool _ | .bool, .cmp _ | .str, .str => some []
  | .sl _ lo hi _, .nilv 0 => some [⟨hy, .le lo (.c 0)⟩, ⟨hy, .le (.c 0) hi⟩]
  | .sl m lo hi t, .sl _ m' t' n => match mdeq m' m || mdeq m .any, subD hy t' t with | true, some l => some (⟨hy, loG lo n⟩ :: ⟨hy, .le n hi⟩ :: l) | _, _ => none
  | .ptr t, .ptr t' => subD hy t' t
  | .map k v, .map k' v' => match subD hy k' k, subD hy v' v with | some a, some b => some (a ++ b) | _, _ => none
  | .any, .unk | .any, .fn _ _ _ | .any, .lit _ => some []
  | .str, .lit (.string _) => some []
  | _, _ => none
/-- A value within a type: an elder slice by what is known of all its elements, too. -/
def fit1 (σ : St) (d : DT) (s : SV) : Option (List Goal) :=
  match d, s with
  | .sl m lo hi t, .sl id .old _t' n => match mdeq .old m || mdeq m .any, wholeF σ.hy σ.fa id n with
    | true, some u => (match wkD σ.hy u t with | some l => some (⟨σ.hy, loG lo n⟩ :: ⟨σ.hy, .le n hi⟩ :: l) | none => fitB σ.hy d s)
    | _, _ => fitB σ.hy d s
  | d, s => fitB σ.hy d s
theorem fitB_ok {C : Cx} {E : Ev} {hy : List Hy} (hh : ∀ x ∈ hy, x.holds (tot E.ρ)) {d : DT} {s : SV} {gs : List Goal} {u : T} {v : Value} (hf : fitB hy d s = some gs) (hg : ∀ g ∈ gs, g.ok) (hu : d.inst E.ρ = some u) (hd : Den C E s v) : u.leaf = true ∧ At C u (Ty.one v) := by
  unfold fitB at hf
  split at hf
  · rename_i k lo hi k' x
    split at hf
    · rename_i hk
      cases hf
      simp only [DT.inst] at hu
      split at hu
      · rename_i a b ha hb
        cases hu
        simp only [Den] at hd
        obtain ⟨n, hn, rfl⟩ := hd
        have g1 := hg _ (List.mem_cons_self ..) (tot E.ρ) hh
        have g2 := hg _ (List.mem_cons_of_mem _ (List.mem_cons_self ..)) (tot E.ρ) hh
        simp only [Hy.holds, ev_val ha, ev_val hb, ev_val hn] at g1 g2
        rw [kbeq_eq hk]
        exact ⟨rfl, n, rfl, g1, g2⟩
      · cases hu
    · cases hf
  · cases hu; simp only [Den] at hd; subst hd; exact ⟨rfl, _, rfl⟩
  · cases hu; simp only [Den] at hd; obtain ⟨b, rfl, _⟩ := hd; exact ⟨rfl, _, rfl⟩
  · cases hu; simp only [Den] at hd; obtain ⟨b, rfl⟩ := hd; exact ⟨rfl, _, rfl⟩
  · rename_i m lo hi t
    cases hf
    simp only [DT.inst] at hu
    split at hu
    · rename_i a b x ha hb hx
      cases hu
      simp only [Den, nilVal] at hd
      subst hd
      have g1 := hg _ (List.mem_cons_self ..) (tot E.ρ) hh
      have g2 := hg _ (List.mem_cons_of_mem _ (List.mem_cons_self ..)) (tot E.ρ) hh
      simp only [Hy.holds, ev_val ha, ev_val hb, Tm.val] at g1 g2
      refine ⟨rfl, none, 0, 0, rfl, ⟨g1, fun _ => .inl rfl⟩, g2, Nat.zero_le _, ?_⟩
      by_cases hm : m = .old
      · exact .inr ⟨(by rw [hm]; intro h; cases h), fun i hi => absurd hi (Nat.not_lt_zero _)⟩
      · exact .inl ⟨hm, .inl ⟨rfl, rfl, rfl⟩⟩
    · cases hu
  · rename_i m lo hi t id m' t' n
    split at hf
    · rename_i l hm hl
      cases hf
      simp only [DT.inst] at hu
      split at hu
      · rename_i a b x ha hb hx
        cases hu
        simp only [Den] at hd
        obtain ⟨_, y, k, hy1, hk, hat⟩ := hd
        have g1 := hg _ (List.mem_cons_self ..) (tot E.ρ) hh
        have g2 := hg _ (List.mem_cons_of_mem _ (List.mem_cons_self ..)) (tot E.ρ) hh
        simp only [Hy.holds, loG_holds, ev_val ha, ev_val hb, ev_val hk] at g1 g2
        rw [subD_ok hh hl (fun g hgm => hg g (List.mem_cons_of_mem _ (List.mem_cons_of_mem _ hgm))) hy1 hx] at hat
        exact ⟨rfl, at_sl_widen hat hm g1 g2⟩
      · cases hu
    · cases hf
  · simp only [DT.inst, Option.map_eq_some_iff] at hu
    obtain ⟨x, hx, rfl⟩ := hu
    simp only [Den] at hd
    obtain ⟨y, hy1, hat⟩ := hd
    rw [subD_ok hh hf hg hy1 hx] at hat
    exact ⟨rfl, hat⟩
  · split at hf
    · rename_i l1 l2 h1 h2
      cases hf
      simp only [DT.inst] at hu
      split at hu
      · rename_i a b ha hb
        cases hu
        simp only [Den] at hd
        obtain ⟨c, d, hc, hd', hat⟩ := hd
        rw [subD_ok hh h1 (fun g hgm => hg g (List.mem_append_left _ hgm)) hc ha, subD_ok hh h2 (fun g hgm => hg g (List.mem_append_right _ hgm)) hd' hb] at hat
        exact ⟨rfl, hat⟩
      · cases hu
    · cases hf
  · cases hf; cases hu; simp only [Den] at hd; exact ⟨rfl, v, rfl, hd⟩
  · cases hf; cases hu; simp only [Den] at hd; obtain ⟨xs, ys, rfl, _⟩ := hd; exact ⟨rfl, _, rfl, rfl⟩
  · cases hf; cases hu; simp only [Den] at hd; exact ⟨rfl, v, rfl, hd.2⟩
  · cases hf; cases hu; simp only [Den] at hd; obtain ⟨rfl, _⟩ := hd; exact ⟨rfl, _, rfl⟩
  · cases hf
theorem fit1_ok {C : Cx} {E : Ev} {σ : St} (hh : Kn C E σ) {d : DT} {s : SV} {gs : List Goal} {u : T} {v : Value} (hf : fit1 σ d s = some gs) (hg : ∀ g ∈ gs, g.ok) (hu : d.inst E.ρ = some u) (hd : Den C E s v) : u.leaf = true ∧ At C u (Ty.one v) := by
  unfold fit1 at hf
  split at hf
  · rename_i m lo hi t id t' n
    split at hf
    · rename_i ud hm hw
      split at hf
      · rename_i l hl
        cases hf
        simp only [DT.inst] at hu
        split at hu
        · rename_i a b x ha hb hx
          cases hu
          simp only [Den] at hd
          obtain ⟨hid, y, k, hy1, hk, A, nn, c, e1, e2, e3, e4, _⟩ := hd
          simp only [Ty.one, if_pos, Option.some.injEq] at e1
          subst e1
          have hkn : k = (nn : Int) := by have := e2.1; omega
          subst hkn
          obtain ⟨uu, hu1, hel⟩ := wholeF_ok hh.1 hh.2 hw hid hk
          have g1 := hg _ (List.mem_cons_self ..) (tot E.ρ) hh.1
          have g2 := hg _ (List.mem_cons_of_mem _ (List.mem_cons_self ..)) (tot E.ρ) hh.1
          simp only [Hy.holds, loG_holds, ev_val ha, ev_val hb, ev_val hk] at g1 g2
          have hgl : ∀ g ∈ l, g.ok := fun g hgm => hg g (List.mem_cons_of_mem _ (List.mem_cons_of_mem _ hgm))
          refine ⟨rfl, A, nn, c, rfl, g1, g2, e4, .inr ⟨?_, fun i hi => ?_⟩⟩
          · rintro rfl; simp [mdeq] at hm
          · obtain ⟨b', o', q1, q2⟩ := hel i hi
            refine ⟨b', o', q1, ?_⟩
            rcases q2 with ⟨q2, _⟩ | ⟨_, q3, q4⟩
            · exact absurd rfl q2
            · obtain ⟨p1, p2⟩ := wkD_ok hh.1 hl hgl hu1 hx q4
              exact ⟨q3, by rw [← p2]; simpa only [Nat.add_assoc] using p1⟩
        · cases hu
      · exact fitB_ok hh.1 hf hg hu hd
    · exact fitB_ok hh.1 hf hg hu hd
  · exact fitB_ok hh.1 hf hg hu hd
end Go.Vg
/- Stores into typed places. -/
namespace Go.Vg
open Go Go.RowKit Go.Hs Go.Ty Go.Ex
theorem storeCells_wt {P : Program} {C : Cx} {b o : Nat} : ∀ (vs : List Value) (i : Nat) (w : World), WT C w → (∀ j v, vs[j]? = some v → ∃ t, C.S b (o + (i + j)) = some t ∧ At C t (Ty.one v)) →
    ∃ w', (storeCells ⟨b, o, none⟩ vs i).run P w = .ok () w' ∧ WT C w' ∧ w'.heap.size = w.heap.size ∧ ∀ k, k ≠ b → w'.heap[k]? = w.heap[k]? := by
  intro vs
  induction vs with
  | nil => intro i w h _; exact ⟨w, rfl, h, rfl, fun _ _ => rfl⟩
  | cons v r ih =>
    intro i w h hv
    obtain ⟨t, h1, h2⟩ := hv 0 v rfl
    obtain ⟨_, q1, u, q2, q3, _⟩ := h.cell b (o + (i + 0)) t h1
    have hset := h.set h1 h2
    obtain ⟨w', e1, e2, e3, e4⟩ := ih (i + 1) _ hset fun j x hj => by
      have := hv (j + 1) x (by simpa using hj)
      rw [show i + 1 + j = i + (j + 1) by omega]; exact this
    refine ⟨w', ?_, e2, by rw [e3]; exact setCell_size _ _ _, fun k hk => (e4 k hk).trans (Below.heap_setCell _ _ _ _ hk)⟩
    rw [Nat.add_zero] at q2 q3
    simp only [storeCells, Sem.run_bind, add_flat]
    rw [run_store _ _ _ _ _ (at_oneCell q1 h2), q2]
    simp only [q3]
    exact e1
def fitL (σ : St) : DT → List SV → Option (List Goal × List SV)
  | .pair a b, l => match fitL σ a l with
    | some (g, r) => match fitL σ b r with
      | some (g', r') => some (g ++ g', r')
      | none => none
    | none => none
  | .nil, l => some ([], l)
  | d, s :: r => match fit1 σ d s with | some g => some (g, r) | none => none
  | _, [] => none
theorem fitL_ok {C : Cx} {E : Ev} {σ : St} (hh : Kn C E σ) : ∀ {d : DT} {l r : List SV} {gs : List Goal} {u : T} {vs : List Value}, fitL σ d l = some (gs, r) → (∀ g ∈ gs, g.ok) → d.inst E.ρ = some u → DenL C E l vs →
    ∃ us rs, vs = us ++ rs ∧ us.length = u.size ∧ (∀ j x, u.cell j = some x → ∃ v, us[j]? = some v ∧ At C x (Ty.one v)) ∧ DenL C E r rs := by
  intro d
  have leafcase : ∀ {d : DT} {l r : List SV} {gs : List Goal} {u : T} {vs : List Value}, (match l with | s :: r' => (match fit1 σ d s with | some g => some (g, r') | none => none) | [] => none) = some (gs, r) → (∀ g ∈ gs, g.ok) → d.inst E.ρ = some u → DenL C E l vs →
      ∃ us rs, vs = us ++ rs ∧ us.length = u.size ∧ (∀ j x, u.cell j = some x → ∃ v, us[j]? = some v ∧ At C x (Ty.one v)) ∧ DenL C E r rs := by
    intro d l r gs u vs h hg hu hd
    cases l with
    | nil => cases h
    | cons s l =>
      simp only at h
      split at h
      · rename_i g hf
        simp only [Option.some.injEq, Prod.mk.injEq] at h
        obtain ⟨rfl, rfl⟩ := h
        simp only [DenL] at hd
        obtain ⟨v, q, rfl, h1, h2⟩ := hd
        obtain ⟨hl, hat⟩ := fit1_ok hh hf hg hu h1
        refine ⟨[v], q, rfl, by rw [leaf_size hl]; rfl, fun j x hj => ?_, h2⟩
        rw [leaf_cell hl] at hj
        split at hj
        · rename_i e; subst e; cases hj; exact ⟨v, rfl, hat⟩
        · cases hj
      · cases h
  induction d with
  | pair a b iha ihb =>
    intro l r gs u vs h hg hu hd
    simp only [fitL] at h
    split at h
    · rename_i g r1 h1
      split at h
      · rename_i g' r2 h2
        simp only [Option.some.injEq, Prod.mk.injEq] at h
        obtain ⟨rfl, rfl⟩ := h
        simp only [DT.inst] at hu
        split at hu
        · rename_i x y hx hy'
          cases hu
          obtain ⟨us, rs, rfl, a1, a2, a3⟩ := iha h1 (fun q hq => hg q (List.mem_append_left _ hq)) hx hd
          obtain ⟨us', rs', rfl, b1, b2, b3⟩ := ihb h2 (fun q hq => hg q (List.mem_append_right _ hq)) hy' a3
          refine ⟨us ++ us', rs', by simp, by simp [a1, b1, T.size], fun j t hj => ?_, b3⟩
          unfold T.cell at hj
          split at hj
          · rename_i hlt
            rw [List.getElem?_append_left (by omega)]; exact a2 j t hj
          · rename_i hge
            rw [List.getElem?_append_right (by omega), a1]; exact b2 _ t hj
        · cases hu
      · cases h
    · cases h
  | nil =>
    intro l r gs u vs h hg hu hd
    simp only [fitL, Option.some.injEq, Prod.mk.injEq] at h
    obtain ⟨rfl, rfl⟩ := h
    cases hu
    exact ⟨[], vs, rfl, rfl, fun j x hj => by simp [T.cell] at hj, hd⟩
  | _ =>
    intro l r gs u vs h hg hu hd
    refine leafcase ?_ hg hu hd
    cases l <;> first | (simp [fitL] at h; done) | simpa [fitL] using h
theorem cells_one {v : Value} (h : v.oneCell' = true) : v.cells.toList = [v] := by
  cases v <;> first | rfl | (simp [Value.oneCell'] at h)
def svCells : SV → List SV
  | .agg l => l
  | s => [s]
/-- Not an aggregate of one type. -/
def noAgt : SV → Bool
  | .agt _ => false
  | _ => true
theorem svCells_den {C : Cx} {E : Ev} {s : SV} {v : Value} (hs : noAgt s = true) (h : Den C E s v) : DenL C E (svCells s) v.cells.toList := by
  cases s with
  | agt t => cases hs
  | agg l => simp only [Den] at h; obtain ⟨cs, rfl, h⟩ := h; exact h
  | nilv n =>
    simp only [svCells, DenL]
    refine ⟨v, [], ?_, h, rfl⟩
    simp only [Den] at h; subst h
    rcases n with _ | _ | _ | _ | n <;> rfl
  | int k x => simp only [svCells, DenL]; refine ⟨v, [], ?_, h, rfl⟩; simp only [Den] at h; obtain ⟨n, _, rfl⟩ := h; rfl
  | bool b => simp only [svCells, DenL]; refine ⟨v, [], ?_, h, rfl⟩; simp only [Den] at h; subst h; rfl
  | cmp c => simp only [svCells, DenL]; refine ⟨v, [], ?_, h, rfl⟩; simp only [Den] at h; obtain ⟨b, rfl, _⟩ := h; rfl
  | str => simp only [svCells, DenL]; refine ⟨v, [], ?_, h, rfl⟩; simp only [Den] at h; obtain ⟨b, rfl⟩ := h; rfl
  | sl id m t n => simp only [svCells, DenL]; refine ⟨v, [], ?_, h, rfl⟩; simp only [Den] at h; obtain ⟨_, u, k, _, _, A, n, c, e, _⟩ := h; simp [Ty.one] at e; subst e; rfl
  | tsl id o n => simp only [svCells, DenL]; refine ⟨v, [], ?_, h, rfl⟩; simp only [Den] at h; obtain ⟨b, _, rfl⟩ := h; rfl
  | ptr t => simp only [svCells, DenL]; refine ⟨v, [], ?_, h, rfl⟩; simp only [Den] at h; obtain ⟨u, _, b, o, e, _⟩ := h; simp [Ty.one] at e; subst e; rfl
  | elt m t => simp only [svCells, DenL]; refine ⟨v, [], ?_, h, rfl⟩; simp only [Den] at h; obtain ⟨u, b, o, _, rfl, _⟩ := h; rfl
  | tptr id o => simp only [svCells, DenL]; refine ⟨v, [], ?_, h, rfl⟩; simp only [Den] at h; obtain ⟨b, _, rfl⟩ := h; rfl
  | uptr id n => simp only [svCells, DenL]; refine ⟨v, [], ?_, h, rfl⟩; simp only [Den] at h; obtain ⟨b, o, _, _, rfl⟩ := h; rfl
  | map k x => simp only [svCells, DenL]; refine ⟨v, [], ?_, h, rfl⟩; simp only [Den] at h; obtain ⟨a, b, _, _, c, e, _⟩ := h; simp [Ty.one] at e; subst e; rfl
  | fn f a b => simp only [svCells, DenL]; refine ⟨v, [], ?_, h, rfl⟩; simp only [Den] at h; obtain ⟨xs, ys, rfl, _⟩ := h; rfl
  | lit x => simp only [svCells, DenL]; exact ⟨v, [], cells_one (by simp only [Den] at h; exact h.2), h, rfl⟩
  | unk => simp only [svCells, DenL]; exact ⟨v, [], cells_one (by simpa only [Den] using h), h, rfl⟩
  | rsl id t n => simp only [svCells, DenL]; refine ⟨v, [], ?_, h, rfl⟩; simp only [Den] at h; obtain ⟨_, u, k, A, c, _, _, rfl, _⟩ := h; rfl
  | eli id i m t => simp only [svCells, DenL]; refine ⟨v, [], ?_, h, rfl⟩; simp only [Den] at h; obtain ⟨u, b, o, n, c, q, _, _, _, _, rfl, _⟩ := h; rfl
  | rel id i t => simp only [svCells, DenL]; refine ⟨v, [], ?_, h, rfl⟩; simp only [Den] at h; obtain ⟨u, b, o, n, c, q, _, _, _, _, _, rfl, _⟩ := h; rfl
  | kmap id => simp only [svCells, DenL]; refine ⟨v, [], ?_, h, rfl⟩; simp only [Den] at h; obtain ⟨b, _, rfl⟩ := h; rfl
  | tup l => simp only [svCells, DenL]; refine ⟨v, [], ?_, h, rfl⟩; simp only [Den] at h; obtain ⟨cs, rfl, _⟩ := h; rfl
end Go.Vg
/- Operations that change the world. -/
namespace Go.Vg
open Go Go.RowKit Go.Hs Go.Ty Go.Ex
theorem inv_world {C : Cx} {E : Ev} {σ : St} {a : Act} {w w' : World} (h : Inv C E σ a w) (hwt : WT C w') (hsz : w.heap.size ≤ w'.heap.size)
    (hb : ∀ (i : Nat) x b, σ.hp[i]? = some x → x ≠ .gone → E.b[i]? = some b → w'.heap[b]? = w.heap[b]?) : Inv C E σ a w' :=
  ⟨hwt, h.hy, h.ns, h.no, h.nb, h.nt, h.sl, fun i x hx hg => by
    obtain ⟨b, ob, h1, h2, h3, h4, h5, h6⟩ := h.hp i x hx hg
    exact ⟨b, ob, h1, h2, h3, h4, (hb i x b hx hg h1).trans h5, h6⟩, h.inj, fun i b hi => Nat.lt_of_lt_of_le (h.lt i b hi) hsz, h.fa, h.rd, h.dfr⟩
theorem denL_get {C : Cx} {E : Ev} : ∀ {l : List SV} {vs : List Value}, DenL C E l vs → ∀ {i : Nat} {s : SV}, l[i]? = some s → ∃ v, vs[i]? = some v ∧ Den C E s v := by
  intro l
  induction l with
  | nil => intro vs _ i s h; simp at h
  | cons x l ih =>
    intro vs hd i s h
    simp only [DenL] at hd
    obtain ⟨v, r, rfl, h1, h2⟩ := hd
    cases i with
    | zero => simp at h; subst h; exact ⟨v, rfl, h1⟩
    | succ i => exact ih h2 (by simpa using h)
theorem denL_len {C : Cx} {E : Ev} : ∀ {l : List SV} {vs : List Value}, DenL C E l vs → vs.length = l.length := by
  intro l
  induction l with
  | nil => intro vs h; simp only [DenL] at h; subst h; rfl
  | cons x l ih => intro vs hd; simp only [DenL] at hd; obtain ⟨v, r, rfl, _, h2⟩ := hd; simp [ih h2]
theorem denL_drop {C : Cx} {E : Ev} : ∀ {l : List SV} {vs : List Value}, DenL C E l vs → ∀ n, DenL C E (l.drop n) (vs.drop n) := by
  intro l
  induction l with
  | nil => intro vs h n; simp only [DenL] at h; subst h; simp [DenL]
  | cons x l ih =>
    intro vs hd n
    cases n with
    | zero => exact hd
    | succ n => simp only [DenL] at hd; obtain ⟨v, r, rfl, _, h2⟩ := hd; exact ih h2 n
theorem denL_take {C : Cx} {E : Ev} : ∀ {l : List SV} {vs : List Value}, DenL C E l vs → ∀ n, DenL C E (l.take n) (vs.take n) := by
  intro l
  induction l with
  | nil => intro vs h n; simp only [DenL] at h; subst h; simp [DenL]
  | cons x l ih =>
    intro vs hd n
    cases n with
    | zero => simp [DenL]
    | succ n => simp only [DenL] at hd; obtain ⟨v, r, rfl, h1, h2⟩ := hd; simp only [List.take_succ_cons, DenL]; exact ⟨v, _, rfl, h1, ih h2 n⟩
/-- A tracked block bears no types. -/
theorem tracked_free {C : Cx} {E : Ev} {σ : St} {a : Act} {w : World} (h : Inv C E σ a w) {i : Nat} {x : TO} {b : Nat} (hx : σ.hp[i]? = some x) (hg : x ≠ .gone) (hb : E.b[i]? = some b) : (∀ o, C.R b o = none) ∧ C.M b = none := by
  obtain ⟨b', ob, h1, h2, h3, h4, _⟩ := h.hp i x hx hg
  rw [hb] at h1; cases h1
  exact ⟨h3, h4⟩
/-- An operation that yields a value and changes the world. -/
theorem opOK_step {P : Program} {o : Oper} {σ : St} {outs : Outs} (h : ∀ C E a w, Inv C E σ a w → ∃ v s σ' w', (execOp a.eval o).run P w = .ok (.value v) w' ∧ (s, σ') ∈ outs ∧ ∃ C' E', C.le C' ∧ E.le E' ∧ Inv C' E' σ' a w' ∧ Den C' E' s v) : OpOK P o σ outs := by
  intro C E a w hi next Q _ hn
  obtain ⟨v, s, σ', w', h1, h2, C', E', h3, h4, h5, h6⟩ := h C E a w hi
  left
  unfold Oper.wp
  rw [h1]
  exact hn s σ' h2 C' E' v w' h3 h4 h5 h6
/-- 'skip' yields nothing. -/
theorem opOK_skip {P : Program} {o : Oper} {σ : St} {σ' : St} (h : ∀ C E a w, Inv C E σ a w → ∃ w', (execOp a.eval o).run P w = .ok .skip w' ∧ ∃ C' E', C.le C' ∧ E.le E' ∧ Inv C' E' σ' a w') : OpOK P o σ [(.tup [], σ')] := by
  intro C E a w hi next Q _ hn
  obtain ⟨w', h1, C', E', h3, h4, h5⟩ := h C E a w hi
  left
  unfold Oper.wp
  rw [h1]
  exact hn _ σ' (List.mem_cons_self ..) C' E' undef w' h3 h4 h5 (by simp only [Den]; exact ⟨#[], rfl, by simp [DenL]⟩)
section
variable {E0 : Env} (hE0 : EnvOK E0)
include hE0
theorem op_store_elt {o : Oper} {σ : St} {t : TypeId} {x y : Operand} {d : DT} {i : AInfo} {s : SV} {gs : List Goal}
    (ho : o.op = .store t x y) (hx : evS σ x = some (.elt .own d)) (hy : evS σ y = some s) (hna : noAgt s = true) (hi : inf E0 t = some i) (hs : d.size = i.size) (h0 : 0 < i.size)
    (hf : fitL σ d (svCells s) = some (gs, [])) (hg : ∀ g ∈ gs, g.ok) : OpOK E0.P o σ [(.tup [], σ)] := by
  refine opOK_skip fun C E a w hinv => ?_
  have h1 := evS_den hinv hx
  have h2 := svCells_den hna (evS_den hinv hy)
  simp only [Den] at h1
  obtain ⟨u, b, off, hu, hev, h3⟩ := h1
  have hyp : ∀ h ∈ σ.hy, h.holds (tot E.ρ) := fun h hh => (hinv.hy h hh).2
  obtain ⟨us, rs, hvs, hl, hfit, hrs⟩ := fitL_ok hinv.kn hf hg hu h2
  simp only [DenL] at hrs
  subst hrs
  rw [List.append_nil] at hvs
  have hS : ∀ j, j < u.size → C.S b (off + j) = u.cell j := by
    rcases h3 with ⟨_, _, h3⟩ | ⟨hm, _⟩
    · exact h3
    · exact absurd rfl hm
  have hsz : u.size = i.size := (inst_size hu).trans hs
  obtain ⟨w', e1, e2, e3, e4⟩ := storeCells_wt (P := E0.P) (b := b) (o := off) us 0 w hinv.wt fun j v hj => by
    have hjl := (List.getElem?_eq_some_iff.1 hj).1
    obtain ⟨q, hq⟩ := (cell_some u j).1 (by omega)
    obtain ⟨v', hv', hat⟩ := hfit j q hq
    rw [hj] at hv'; cases hv'
    exact ⟨q, by rw [Nat.zero_add]; exact (hS j (by omega)).trans hq, hat⟩
  obtain ⟨ti, z, dd, hio, _, _⟩ := inf_ok hE0 hi
  refine ⟨w', ?_, C, E, .refl _, .refl _, inv_world hinv e2 (by omega) fun k x' b' hx' hg' hb' => e4 b' ?_⟩
  · rw [exec_eq ho]
    have hlen : (a.eval y).cells.size = i.size := by
      have := congrArg List.length hvs
      simp only [Array.length_toList] at this
      omega
    simp only [execOp, Instr.storeAt, Sem.run_bind, hev, sure_addr, Result.andThen_ok, storeVar, hio.sizeOf]
    rw [if_neg (by simp [hlen]), hvs]
    rw [e1]
    rfl
  · rintro rfl
    have hfree := (tracked_free hinv hx' hg' hb').1
    have hz : 0 < u.size := by omega
    obtain ⟨q, hq⟩ := (cell_some u 0).1 hz
    have := hinv.wt.sr _ _ _ ((hS 0 hz).trans hq)
    rw [hfree] at this; cases this
omit hE0 in
/-- A part of a tuple. -/
theorem op_extract {o : Oper} {σ : St} {x : Operand} {ix : Nat} {l : List SV} {s : SV} (ho : o.op = .extract x ix) (hx : evS σ x = some (.tup l)) (hs : l[ix]? = some s) : QuietOK E0.P o σ s := by
  intro C E a w hinv
  have h1 := evS_den hinv hx
  simp only [Den] at h1
  obtain ⟨cs, hev, hl⟩ := h1
  obtain ⟨v, h2, h3⟩ := denL_get hl hs
  refine ⟨v, fun w => ?_, h3⟩
  rw [exec_eq ho]
  rw [Array.getElem?_toList] at h2
  simp [execOp, hev, Instr.extract, h2]
end
end Go.Vg
/- Fields; places within places. -/
namespace Go.Vg
open Go Go.RowKit Go.Hs Go.Ty Go.Ex
/-- The cells from 'off' on, packed. -/
def partS (agg : Bool) (off size : Nat) (l : List SV) : Option SV :=
  match agg with
  | true => some (.agg ((l.drop off).take size))
  | false => l[off]?
/-- The part of a type at an offset. -/
def subDT : DT → Nat → Nat → Option DT
  | .pair a b, o, n => match Nat.ble (a.size) o with
    | true => subDT b (o - a.size) n
    | false => match Nat.beq o 0 && Nat.beq a.size n with
      | true => some a
      | false => match Nat.beq o 0 && Nat.beq (a.size + b.size) n with
        | true => some (.pair a b)
        | false => subDT a o n
  | t, o, n => match Nat.beq o 0 && Nat.beq t.size n with
    | true => some t
    | false => none
theorem subDT_inst {ρ : List Int} : ∀ {t d : DT} {o n : Nat} {u : T}, subDT t o n = some d → t.inst ρ = some u → ∃ v, d.inst ρ = some v ∧ v.size = n ∧ ∀ j, j < n → v.cell j = u.cell (o + j) ∧ o + j < u.size := by
  intro t
  have base : ∀ {t d : DT} {o n : Nat} {u : T}, (match Nat.beq o 0 && Nat.beq t.size n with | true => some t | false => none) = some d → t.inst ρ = some u → ∃ v, d.inst ρ = some v ∧ v.size = n ∧ ∀ j, j < n → v.cell j = u.cell (o + j) ∧ o + j < u.size := by
    intro t d o n u h hu
    split at h
    · rename_i hb
      cases h
      rw [Bool.and_eq_true] at hb
      have h1 := Nat.eq_of_beq_eq_true hb.1
      have h2 := Nat.eq_of_beq_eq_true hb.2
      subst h1
      have hs := inst_size hu
      exact ⟨u, hu, by omega, fun j hj => ⟨by rw [Nat.zero_add], by omega⟩⟩
    · cases h
  induction t with
  | pair a b iha ihb =>
    intro d o n u h hu
    simp only [DT.inst] at hu
    split at hu
    · rename_i x y hx hy
      cases hu
      have hxs := inst_size hx
      unfold subDT at h
      split at h
      · rename_i hle
        have hle := Nat.le_of_ble_eq_true hle
        obtain ⟨v, h1, h2, h3⟩ := ihb h hy
        refine ⟨v, h1, h2, fun j hj => ?_⟩
        obtain ⟨e1, e2⟩ := h3 j hj
        refine ⟨?_, by simp only [T.size]; omega⟩
        rw [e1]
        show _ = T.cell (.pair x y) (o + j)
        simp only [T.cell]
        rw [if_neg (by omega), show o + j - x.size = o - a.size + j by omega]
      · split at h
        · rename_i hb
          cases h
          rw [Bool.and_eq_true] at hb
          have h1 := Nat.eq_of_beq_eq_true hb.1
          have h2 := Nat.eq_of_beq_eq_true hb.2
          subst h1
          refine ⟨x, hx, by omega, fun j hj => ⟨?_, by simp only [T.size]; omega⟩⟩
          simp only [T.cell]
          rw [Nat.zero_add, if_pos (by omega)]
        · split at h
          · rename_i hb
            cases h
            rw [Bool.and_eq_true] at hb
            have h1 := Nat.eq_of_beq_eq_true hb.1
            have h2 := Nat.eq_of_beq_eq_true hb.2
            subst h1
            have hys := inst_size hy
            refine ⟨.pair x y, by simp [DT.inst, hx, hy], by simp only [T.size]; omega, fun j hj => ⟨by rw [Nat.zero_add], by simp only [T.size]; omega⟩⟩
          obtain ⟨v, h1, h2, h3⟩ := iha h hx
          refine ⟨v, h1, h2, fun j hj => ?_⟩
          obtain ⟨e1, e2⟩ := h3 j hj
          refine ⟨?_, by simp only [T.size]; omega⟩
          rw [e1]
          simp only [T.cell]
          rw [if_pos e2]
    · cases hu
  | _ => intro d o n u h hu; exact base (by simpa [subDT] using h) hu
section
variable {E0 : Env} (hE0 : EnvOK E0)
include hE0
theorem op_field {o : Oper} {σ : St} {t : TypeId} {x : Operand} {f : Nat} {fs : Array Field} {fd : Field} {i : AInfo} {l : List SV} {s : SV}
    (ho : o.op = .field t x f) (hx : evS σ x = some (.agg l)) (hu : und E0 t = some (.struct fs)) (hf : fs[f]? = some fd) (hi : inf E0 fd.type = some i) (hp : partS i.agg fd.offset i.size l = some s) : QuietOK E0.P o σ s := by
  intro C E a w hinv
  have h1 := evS_den hinv hx
  simp only [Den] at h1
  obtain ⟨cs, hev, hl⟩ := h1
  obtain ⟨ti, z, d, hio, _, _⟩ := inf_ok hE0 hi
  have key : ∃ v, Den C E s v ∧ ∀ w, (part fd.type cs fd.offset).run E0.P w = .ok v w := by
    unfold partS at hp
    split at hp
    · rename_i ha
      cases hp
      refine ⟨.agg ⟨(cs.toList.drop fd.offset).take i.size⟩, by simp only [Den]; exact ⟨_, rfl, denL_take (denL_drop hl _) _⟩, fun w => ?_⟩
      unfold part
      simp only [Sem.run_bind, isAggD_und hE0 hi, ha, Result.andThen_ok, if_true, hio.sizeOf]
      simp only [Sem.run_pure]
      congr 2
      apply Array.ext'
      simp [List.extract]
    · rename_i ha
      obtain ⟨v, h2, h3⟩ := denL_get hl hp
      refine ⟨v, h3, fun w => ?_⟩
      rw [Array.getElem?_toList] at h2
      unfold part
      simp [isAggD_und hE0 hi, ha, h2]
  obtain ⟨v, h2, h3⟩ := key
  refine ⟨v, fun w => ?_, h2⟩
  rw [exec_eq ho]
  simp only [execOp, Instr.field, Sem.run_bind, und_run hE0 hu, Result.andThen_ok, hf, hev, asAgg, Sem.run_pure, h3]
/-- A field's place within a typed place. -/
theorem op_fieldAddr_elt {o : Oper} {σ : St} {t : TypeId} {x : Operand} {f : Nat} {fs : Array Field} {fd : Field} {i : AInfo} {m : Md} {d d' : DT}
    (ho : o.op = .fieldAddr t x f) (hx : evS σ x = some (.elt m d)) (hu : und E0 t = some (.struct fs)) (hf : fs[f]? = some fd) (hi : inf E0 fd.type = some i) (h0 : i.size ≠ 0) (hp : subDT d fd.offset i.size = some d') : QuietOK E0.P o σ (.elt m d') := by
  intro C E a w hinv
  have h1 := evS_den hinv hx
  simp only [Den] at h1
  obtain ⟨u, b, off, hu1, hev, h3⟩ := h1
  obtain ⟨v, hv, hvs, hvc⟩ := subDT_inst hp hu1
  obtain ⟨ti, z, dd, hio, _, _⟩ := inf_ok hE0 hi
  refine ⟨.pointer (some ⟨b, off + fd.offset, none⟩), fun w => ?_, ?_⟩
  · rw [exec_eq ho]
    simp only [execOp, Instr.fieldAt, Sem.run_bind, und_run hE0 hu, Result.andThen_ok, hf, hev, sure_addr, fieldPlace, hio.sizeOf]
    rw [if_neg h0, add_flat]
    rfl
  · simp only [Den]
    refine ⟨v, b, _, hv, rfl, ?_⟩
    unfold Place at h3 ⊢
    rcases h3 with ⟨q1, q2, q3⟩ | ⟨q1, q2, q3⟩
    · refine .inl ⟨q1, q2, fun j hj => ?_⟩
      obtain ⟨e1, e2⟩ := hvc j (by omega)
      rw [e1, ← q3 _ e2, Nat.add_assoc]
    · refine .inr ⟨q1, q2, (at_cells v _).2 fun j y hj => ?_⟩
      have hlt := (cell_some v j).2 ⟨y, hj⟩
      obtain ⟨e1, e2⟩ := hvc j (by omega)
      obtain ⟨z', r1, r2⟩ := (at_cells u _).1 q3 (fd.offset + j) y (by rw [← e1]; exact hj)
      exact ⟨z', by rw [Nat.add_assoc]; exact r1, r2⟩
end
end Go.Vg
/- Control. -/
namespace Go.Vg
open Go Go.RowKit Go.Hs Go.Ty Go.Ex
inductive Xt | normal | exit (id : Nat) | goto (l : Nat) | ret
def Xt.of : Xt → Exit
  | .normal => .normal | .exit id => .exit id | .goto l => .goto l | .ret => .ret
abbrev COuts := List (Xt × St)
/-- Every way through a piece of code is among these outcomes. -/
def CodeOK (P : Program) (c : Code) (σ : St) (outs : COuts) : Prop :=
  ∀ C E a w, Inv C E σ a w → ∀ (Q : Exit → Act → World → Prop), Lets Q →
    (∀ x σ', (x, σ') ∈ outs → ∀ C' E' a' w', C.le C' → E.le E' → Inv C' E' σ' a' w' → Q x.of a' w') → c.wp P Q a w
theorem lets_then {Q : Exit → Act → World → Prop} (_ : Lets Q) (next : Act → World → Prop) : Lets (Exit.then next Q) := trivial
theorem lets_block {Q : Exit → Act → World → Prop} (_ : Lets Q) (id : Nat) : Lets (Exit.inBlock id Q) := trivial
section
variable {P : Program}
theorem code_skip {σ : St} : CodeOK P .skip σ [(.normal, σ)] := fun C E a w hi _Q _ h => wp_skip (h .normal σ (List.mem_cons_self ..) C E a w (.refl _) (.refl _) hi)
theorem code_label {l : Nat} {σ : St} : CodeOK P (.label l) σ [(.normal, σ)] := fun C E a w hi _Q _ h => wp_label (h .normal σ (List.mem_cons_self ..) C E a w (.refl _) (.refl _) hi)
theorem code_exit {id : Nat} {σ : St} : CodeOK P (.exit id) σ [(.exit id, σ)] := fun C E a w hi _Q _ h => wp_exit (h (.exit id) σ (List.mem_cons_self ..) C E a w (.refl _) (.refl _) hi)
theorem code_goto {l : Nat} {σ : St} : CodeOK P (.goto l) σ [(.goto l, σ)] := fun C E a w hi _Q _ h => wp_goto (h (.goto l) σ (List.mem_cons_self ..) C E a w (.refl _) (.refl _) hi)
theorem code_ret {σ : St} : CodeOK P .ret σ [(.ret, σ)] := fun C E a w hi _Q _ h => wp_ret (h .ret σ (List.mem_cons_self ..) C E a w (.refl _) (.refl _) hi)
/-- One piece after another: what comes of the second one, from each normal outcome of the first. -/
theorem code_seq {c d : Code} {σ : St} {o1 outs : COuts} (h1 : CodeOK P c σ o1) (h2 : ∀ x σ1, (x, σ1) ∈ o1 → match x with
    | .normal => ∃ o2, CodeOK P d σ1 o2 ∧ ∀ y ∈ o2, y ∈ outs
    | x => (x, σ1) ∈ outs) : CodeOK P (.seq c d) σ outs := fun C E a w hi Q hl h => by
  refine wp_seq (h1 C E a w hi _ (lets_then hl _) fun x σ1 hx C1 E1 a1 w1 hC hE hi1 => ?_)
  have := h2 x σ1 hx
  cases x with
  | normal =>
    obtain ⟨o2, h3, h4⟩ := this
    exact h3 C1 E1 a1 w1 hi1 Q hl fun y σ2 hy C2 E2 a2 w2 hC2 hE2 hi2 => h y σ2 (h4 _ hy) C2 E2 a2 w2 (hC.trans hC2) (hE.trans hE2) hi2
  | exit id => exact h (.exit id) σ1 this C1 E1 a1 w1 hC hE hi1
  | goto l => exact h (.goto l) σ1 this C1 E1 a1 w1 hC hE hi1
  | ret => exact h .ret σ1 this C1 E1 a1 w1 hC hE hi1
/-- Both ways of a condition. -/
inductive Way | one (b : Bool) (σ : St) | two (h : Hy)
theorem code_cond_bool {c : Operand} {x y : Code} {σ : St} {b : Bool} {outs : COuts} (hc : evS σ c = some (.bool b)) (h : CodeOK P (if b then x else y) σ outs) : CodeOK P (.cond c x y) σ outs := fun C E a w hi Q hl hq => by
  have h1 := evS_den hi hc
  simp only [Den] at h1
  exact wp_cond h1 (h C E a w hi Q hl hq)
theorem code_cond_cmp {c : Operand} {x y : Code} {σ : St} {k : Hy} {outs : COuts} (hc : evS σ c = some (.cmp k)) (ht : CodeOK P x (assume k σ) outs) (hf : CodeOK P y (assume k.neg σ) outs) : CodeOK P (.cond c x y) σ outs := fun C E a w hi Q hl hq => by
  have h1 := evS_den hi hc
  simp only [Den] at h1
  obtain ⟨b, h2, h3, h4⟩ := h1
  refine wp_cond_split h2 (fun e => ht C E a w (assume_inv hi h3 (h4.1 e)) Q hl hq) fun e => hf C E a w (assume_inv hi (neg_dfd h3) ((neg_holds k).2 fun hk => by rw [h4.2 hk] at e; cases e)) Q hl hq
theorem code_block {id : Nat} {c : Code} {σ : St} {o1 outs : COuts} (h1 : CodeOK P c σ o1) (h2 : ∀ x σ1, (x, σ1) ∈ o1 → match x with
    | .normal => (.normal, σ1) ∈ outs
    | .exit j => if j = id then (.normal, σ1) ∈ outs else (.exit j, σ1) ∈ outs
    | x => (x, σ1) ∈ outs) : CodeOK P (.block id c) σ outs := fun C E a w hi Q hl h => by
  refine wp_block (h1 C E a w hi _ (lets_block hl id) fun x σ1 hx C1 E1 a1 w1 hC hE hi1 => ?_)
  have := h2 x σ1 hx
  cases x with
  | normal => exact h .normal σ1 this C1 E1 a1 w1 hC hE hi1
  | exit j =>
    simp only at this
    show Exit.inBlock id Q (.exit j) a1 w1
    simp only [Exit.inBlock]
    split
    · rename_i e; rw [if_pos e] at this; exact h .normal σ1 this C1 E1 a1 w1 hC hE hi1
    · rename_i e; rw [if_neg e] at this; exact h (.exit j) σ1 this C1 E1 a1 w1 hC hE hi1
  | goto l => exact h (.goto l) σ1 this C1 E1 a1 w1 hC hE hi1
  | ret => exact h .ret σ1 this C1 E1 a1 w1 hC hE hi1
theorem code_weaken {c : Code} {σ : St} {o1 o2 : COuts} (h : CodeOK P c σ o1) (hs : ∀ x ∈ o1, x ∈ o2) : CodeOK P c σ o2 :=
  fun C E a w hi Q hl hq => h C E a w hi Q hl fun x σ' hx => hq x σ' (hs _ hx)
end
end Go.Vg
/- Loops. -/
namespace Go.Vg
open Go Go.RowKit Go.Hs Go.Ty Go.Ex
theorem wp_loop_nat {P : Program} {c : Code} {Q : Exit → Act → World → Prop} (I : Nat → Act → World → Prop) {a : Act} {w : World} (h0 : ∃ n, I n a w)
    (round : ∀ n a w, I n a w → c.wp P (Exit.then (fun a' w' => ∃ m, m < n ∧ I m a' w') Q) a w) : (Code.loop c).wp P Q a w := by
  classical
  have least : ∀ a w, (∃ n, I n a w) → ∃ n, I n a w ∧ ∀ m, I m a w → n ≤ m := fun a w ⟨n, hn⟩ => by
    induction n using Nat.strongRecOn with
    | _ n ih =>
      by_cases h : ∃ m, m < n ∧ I m a w
      · obtain ⟨m, h1, h2⟩ := h
        exact ih m h1 h2
      · exact ⟨n, hn, fun m hm => by
          rcases Nat.lt_or_ge m n with h' | h'
          · exact absurd ⟨m, h', hm⟩ h
          · exact h'⟩
  let μ : Act → World → Nat := fun a w => if h : ∃ n, I n a w then Classical.choose (least a w h) else 0
  have spec : ∀ a w (h : ∃ n, I n a w), I (μ a w) a w ∧ ∀ m, I m a w → μ a w ≤ m := fun a w h => by
    have e : μ a w = Classical.choose (least a w h) := dif_pos h
    rw [e]
    exact Classical.choose_spec (least a w h)
  refine wp_loop (fun a w => ∃ n, I n a w) μ h0 fun a w hI => ?_
  refine wp_mono (round _ a w (spec a w hI).1) fun e a' w' hq => ?_
  cases e with
  | normal =>
    obtain ⟨m, h1, h2⟩ := hq
    exact ⟨⟨m, h2⟩, Nat.lt_of_le_of_lt ((spec a' w' ⟨m, h2⟩).2 m h2) h1⟩
  | _ => exact hq
/-- Back at the loop's head: the template holds again, and the measure has sunk. -/
def BackOK (σ τ : St) (m : Tm) (σ1 : St) : Prop :=
  ∀ C0 E0 a0 w0, Inv C0 E0 σ a0 w0 → ∀ C E a w, C0.le C → E0.le E → Inv C E τ a w → ∀ C1 E1 a1 w1, C.le C1 → E.le E1 → Inv C1 E1 σ1 a1 w1 →
    ∃ E2 k k1, E0.le E2 ∧ Inv C1 E2 τ a1 w1 ∧ m.ev E.ρ = some k ∧ m.ev E2.ρ = some k1 ∧ k1 < k ∧ 0 < k
theorem code_loop {P : Program} {c : Code} {σ τ : St} {o1 outs : COuts} (m : Tm)
    (start : ∀ C E a w, Inv C E σ a w → ∃ E' k, E.le E' ∧ Inv C E' τ a w ∧ m.ev E'.ρ = some k) (body : CodeOK P c τ o1)
    (exits : ∀ x σ1, (x, σ1) ∈ o1 → match x with
      | .normal => BackOK σ τ m σ1
      | x => (x, σ1) ∈ outs) : CodeOK P (.loop c) σ outs := fun C0 E0 a0 w0 hi Q hl h => by
  obtain ⟨E', k0, h1, h2, h3⟩ := start C0 E0 a0 w0 hi
  refine wp_loop_nat (fun n a w => ∃ C E k, C0.le C ∧ E0.le E ∧ Inv C E τ a w ∧ m.ev E.ρ = some k ∧ k.toNat = n) ⟨k0.toNat, C0, E', k0, .refl _, h1, h2, h3, rfl⟩ ?_
  rintro n a w ⟨C, E, k, hC, hE, hinv, hk, rfl⟩
  refine body C E a w hinv _ (lets_then hl _) fun x σ1 hx C1 E1 a1 w1 hC1 hE1 hi1 => ?_
  have := exits x σ1 hx
  cases x with
  | normal =>
    obtain ⟨E2, k', k1, e1, e2, e3, e4, e5, e6⟩ := this C0 E0 a0 w0 hi C E a w hC hE hinv C1 E1 a1 w1 hC1 hE1 hi1
    rw [hk] at e3; cases e3
    exact ⟨k1.toNat, by omega, C1, E2, k1, hC.trans hC1, e1, e2, e4, rfl⟩
  | exit id => exact h (.exit id) σ1 this C1 E1 a1 w1 (hC.trans hC1) (hE.trans hE1) hi1
  | goto l => exact h (.goto l) σ1 this C1 E1 a1 w1 (hC.trans hC1) (hE.trans hE1) hi1
  | ret => exact h .ret σ1 this C1 E1 a1 w1 (hC.trans hC1) (hE.trans hE1) hi1
end Go.Vg
/- Regions in the order of the text; calls. -/
namespace Go.Vg
open Go Go.RowKit Go.Hs Go.Ty Go.Ex
def ListOK (P : Program) (ops : Array Oper) (l : List Oper) (σ : St) (outs : List St) : Prop :=
  ∀ C E a w, Inv C E σ a w → ∀ (Q : Exit → Act → World → Prop), Lets Q →
    (∀ σ', σ' ∈ outs → ∀ C' E' a' w', C.le C' → E.le E' → Inv C' E' σ' a' w' → Q .normal a' w') → wpList P ops Q l a w
section
variable {P : Program} {ops : Array Oper}
theorem list_nil {σ : St} : ListOK P ops [] σ [σ] := fun C E a w hi _ _ h => h σ (List.mem_cons_self ..) C E a w (.refl _) (.refl _) hi
/-- Is an operation to be carried out? -/
noncomputable def wantS (ops : Array Oper) (σ : St) (o : Oper) : Option Bool :=
  match o.guard with
  | none => some true
  | some (j, want) => match (ops[j]?).bind (·.dst) with
    | some d => match get σ.sl d with
      | some (some (.bool b)) => some (match b, want with | true, true | false, false => true | _, _ => false)
      | _ => none
    | none => none
theorem wantS_ok {C : Cx} {E : Ev} {σ : St} {a : Act} {w : World} (hi : Inv C E σ a w) {o : Oper} {b : Bool} (h : wantS ops σ o = some b) : Region.wanted o (yielded ops a.tmps) = b := by
  unfold wantS at h
  unfold Region.wanted
  split at h
  · rename_i hg; cases h; rw [hg]
  · rename_i j want hg
    rw [hg]
    split at h
    · rename_i d hd
      split at h
      · rename_i b' hb
        cases h
        obtain ⟨v, h1, h2⟩ := hi.sl d _ hb
        simp only [Den] at h2
        subst h2
        have : yielded ops a.tmps j = some b' := by
          unfold yielded
          rw [hd]
          simp only [Option.bind_some, h1]
        show (yielded ops a.tmps j == some want) = _
        rw [this]
        cases b' <;> cases want <;> rfl
      · cases h
    · cases h
theorem list_cons {o : Oper} {rest : List Oper} {σ : St} {os : Outs} {outs : List St} (hw : wantS ops σ o = some true) (h1 : OpOK P o σ os)
    (h2 : ∀ s σ', (s, σ') ∈ os → ∃ σ2 o2, putS σ' o.dst (some s) = some σ2 ∧ ListOK P ops rest σ2 o2 ∧ ∀ x ∈ o2, x ∈ outs) : ListOK P ops (o :: rest) σ outs := fun C E a w hi Q hl h => by
  unfold wpList
  rw [if_pos (wantS_ok hi hw)]
  refine h1 C E a w hi _ Q hl fun s σ' hs C' E' v w' hC hE hi' hd => ?_
  obtain ⟨σ2, o2, hp, h3, h4⟩ := h2 s σ' hs
  exact h3 C' E' _ w' (put_inv hi' hp fun s' e => by cases e; exact hd) Q hl fun x hx C2 E2 a2 w2 hC2 hE2 hi2 => h x (h4 x hx) C2 E2 a2 w2 (hC.trans hC2) (hE.trans hE2) hi2
theorem list_skip {o : Oper} {rest : List Oper} {σ σ2 : St} {outs : List St} (hw : wantS ops σ o = some false) (hp : putS σ o.dst none = some σ2) (h : ListOK P ops rest σ2 outs) : ListOK P ops (o :: rest) σ outs := fun C E a w hi Q hl hq => by
  unfold wpList
  rw [if_neg (by rw [wantS_ok hi hw]; simp)]
  exact h C E _ w (put_inv hi hp fun s' e => by cases e) Q hl hq
/-- A comparison in a slot is decided both ways. -/
theorem list_fork {l : List Oper} {σ σ1 σ2 : St} {d : Nat} {k : Hy} {outs : List St} (hs : get σ.sl d = some (some (.cmp k)))
    (h1 : setK σ.sl d (some (.bool true)) (fun t => some { assume k σ with sl := t }) none = some σ1) (h2 : setK σ.sl d (some (.bool false)) (fun t => some { assume k.neg σ with sl := t }) none = some σ2)
    (ht : ListOK P ops l σ1 outs) (hf : ListOK P ops l σ2 outs) : ListOK P ops l σ outs := fun C E a w hi Q hl hq => by
  obtain ⟨v, hv, hd⟩ := hi.sl d _ hs
  simp only [Den] at hd
  obtain ⟨b, rfl, hdf, hb⟩ := hd
  have keep : ∀ (b' : Bool) (σ' σ'' : St), Inv C E σ' a w → σ'.sl = σ.sl → b = b' → setK σ.sl d (some (.bool b')) (fun t => some { σ' with sl := t }) none = some σ'' → Inv C E σ'' a w := fun b' σ' σ'' hi' hsl hbb hset => by
    obtain ⟨t', ht', hr⟩ := setK_spec hset (by simp)
    cases hr
    refine ⟨hi'.wt, hi'.hy, hi'.ns, hi'.no, hi'.nb, hi'.nt, fun t s hg => ?_, hi'.hp, hi'.inj, hi'.lt, hi'.fa, hi'.rd, hi'.dfr⟩
    by_cases e : t = d
    · subst e
      rw [ht'.same] at hg
      cases hg
      exact ⟨_, hv, by simp only [Den]; rw [hbb]⟩
    · rw [ht'.other e, ← hsl] at hg
      exact hi'.sl t s hg
  cases hbv : b with
  | true => exact ht C E a w (keep true _ _ (assume_inv hi hdf (hb.1 hbv)) rfl hbv h1) Q hl hq
  | false => exact hf C E a w (keep false _ _ (assume_inv hi (neg_dfd hdf) ((neg_holds k).2 fun hk => by rw [hb.2 hk] at hbv; cases hbv)) rfl hbv h2) Q hl hq
theorem code_region {id : Nat} {σ : St} {outs : List St} (h : ListOK P ops ops.toList σ outs) : CodeOK P (.region id ops false) σ (outs.map fun s => (.normal, s)) := fun C E a w hi Q hl hq =>
  wp_region_list (h C E a w hi Q hl fun σ' hs C' E' a' w' hC hE hi' => hq .normal σ' (List.mem_map.2 ⟨σ', hs, rfl⟩) C' E' a' w' hC hE hi')
end
end Go.Vg
/- Calls in place. -/
namespace Go.Vg
open Go Go.RowKit Go.Hs Go.Ty Go.Ex
noncomputable def argsT : List SV → Nat → Tr (Option SV) → Option (Tr (Option SV))
  | [], _, t => some t
  | s :: l, i, t => setK t i (some s) (fun t' => argsT l (i + 1) t') none
theorem argsT_get : ∀ {l : List SV} {i : Nat} {t t' : Tr (Option SV)}, argsT l i t = some t' → ∀ {j : Nat} {s : SV}, get t' j = some (some s) → (i ≤ j ∧ l[j - i]? = some s) ∨ get t j = some (some s) := by
  intro l
  induction l with
  | nil => intro i t t' h j s hg; cases h; exact .inr hg
  | cons x l ih =>
    intro i t t' h j s hg
    obtain ⟨t1, h1, h2⟩ := setK_spec h (by simp)
    rcases ih h2 hg with ⟨h3, h4⟩ | h3
    · exact .inl ⟨by omega, by rw [show j - i = (j - (i + 1)) + 1 by omega]; exact h4⟩
    · by_cases e : j = i
      · subst e
        rw [h1.same] at h3
        cases h3
        exact .inl ⟨Nat.le_refl _, by simp⟩
      · rw [h1.other e] at h3
        exact .inr h3
/-- The results, where they lie in slots. -/
noncomputable def resL (σ : St) : List ResultVar → Option (List SV)
  | [] => some []
  | .tmp t :: r => match get σ.sl t, resL σ r with | some (some s), some l => some (s :: l) | _, _ => none
  | _ => none
def resS : List SV → SV
  | [s] => s
  | l => .tup l
theorem resL_run {P : Program} {C : Cx} {E : Ev} {σ : St} {a : Act} {w : World} (hi : Inv C E σ a w) : ∀ {rs : List ResultVar} {l : List SV}, resL σ rs = some l → ∃ vs, DenL C E l vs ∧ (rs.mapM (resOne a.tmps)).run P w = .ok vs w := by
  intro rs
  induction rs with
  | nil => intro l h; cases h; exact ⟨[], by simp [DenL], rfl⟩
  | cons r rs ih =>
    intro l h
    cases r with
    | tmp t =>
      simp only [resL] at h
      split at h
      · rename_i s l' hs hl
        cases h
        obtain ⟨v, h1, h2⟩ := hi.sl t s hs
        obtain ⟨vs, h3, h4⟩ := ih hl
        refine ⟨v :: vs, by simp only [DenL]; exact ⟨v, vs, rfl, h2, h3⟩, ?_⟩
        simp [List.mapM_cons, resOne, h1, h4]
      · cases h
    | cell a t => simp [resL] at h
theorem resS_den {C : Cx} {E : Ev} {l : List SV} {vs : List Value} (h : DenL C E l vs) : Den C E (resS l) (resVal vs) := by
  have hlen := denL_len h
  unfold resS resVal
  split
  · rename_i s
    simp only [DenL] at h
    obtain ⟨v, r, rfl, h1, rfl⟩ := h
    exact h1
  · rename_i hne
    split
    · rename_i v
      match l, hlen with
      | [s], _ => exact absurd rfl (hne s)
    · simp only [Den]; exact ⟨_, rfl, by simpa using h⟩
/-- A function's call is among these outcomes (the caller's slots stay). -/
def CallsOK (P : Program) (g : FuncId) (σ : St) (args : List SV) (outs : Outs) : Prop :=
  ∀ C E a w, Inv C E σ a w → ∀ vs, DenL C E args vs → ∀ (R : Ending → World → Prop), True →
    (∀ s σ', (s, σ') ∈ outs → ∀ C' E' v w', C.le C' → E.le E' → Inv C' E' σ' a w' → Den C' E' s v → R (.returned v) w') → Calls P g vs.toArray w R
theorem calls_ok {P : Program} {g : FuncId} {fn : Func} {c : Code} {σ : St} {args : List SV} {t : Tr (Option SV)} {o1 : COuts} {outs : Outs}
    (hf : P.funcs[g]? = some fn) (hb : fn.body = some c) (ht : argsT args 0 .nil = some t)
    (h : CodeOK P c { σ with sl := t, nt := args.length + (fn.ntmps - args.length) } o1)
    (hr : ∀ x σ1, (x, σ1) ∈ o1 → match x with
      | .normal | .ret => ∃ l, resL σ1 fn.results.toList = some l ∧ (resS l, { σ1 with sl := σ.sl, nt := σ.nt }) ∈ outs
      | _ => False) : CallsOK P g σ args outs := fun C E a w hi vs hvs R hout hR => by
  have hlen := denL_len hvs
  refine calls_of_wp hf hb (h C E _ w ?_ _ trivial fun x σ1 hx C1 E1 a1 w1 hC hE hi1 => ?_)
  · refine ⟨hi.wt, hi.hy, hi.ns, hi.no, hi.nb, by simp [hlen], fun j s hg => ?_, hi.hp, hi.inj, hi.lt, hi.fa, hi.rd, rfl⟩
    rcases argsT_get ht hg with ⟨_, h2⟩ | h2
    · rw [Nat.sub_zero] at h2
      obtain ⟨v, h3, h4⟩ := denL_get hvs h2
      have hjl := (List.getElem?_eq_some_iff.1 h3).1
      exact ⟨v, by rw [Array.getElem?_append_left (by simpa using hjl)]; simpa using h3, h4⟩
    · cases j <;> simp [get_nil] at h2
  · have hres := hr x σ1 hx
    have fin : (∃ l, resL σ1 fn.results.toList = some l ∧ (resS l, { σ1 with sl := σ.sl, nt := σ.nt }) ∈ outs) → a1.defers = [] ∧ ∃ v, (results fn a1.tmps).run P w1 = .ok v w1 ∧ R (.returned v) w1 := by
      rintro ⟨l, h1, h2⟩
      obtain ⟨us, h3, h4⟩ := resL_run (P := P) hi1 h1
      refine ⟨hi1.dfr, _, results_run h4, hR _ _ h2 C1 E1 _ w1 hC hE ?_ (resS_den h3)⟩
      exact ⟨hi1.wt, hi1.hy, hi1.ns, hi1.no, hi1.nb, hi.nt, fun t s hg => by
        obtain ⟨v, e1, e2⟩ := hi.sl t s hg
        exact ⟨v, e1, den_mono hC hE _ _ e2⟩, hi1.hp, hi1.inj, hi1.lt, hi1.fa, hi1.rd, hi.dfr⟩
    cases x with
    | normal => exact fin hres
    | ret => exact fin hres
    | exit id => exact hres.elim
    | goto l => exact hres.elim
end Go.Vg
/- The operation that calls. -/
namespace Go.Vg
open Go Go.RowKit Go.Hs Go.Ty Go.Ex
noncomputable def evSL (σ : St) : List Operand → Option (List SV)
  | [] => some []
  | x :: l => match evS σ x, evSL σ l with | some s, some r => some (s :: r) | _, _ => none
theorem evSL_den {C : Cx} {E : Ev} {σ : St} {a : Act} {w : World} (h : Inv C E σ a w) : ∀ {l : List Operand} {r : List SV}, evSL σ l = some r → DenL C E r (l.map a.eval) := by
  intro l
  induction l with
  | nil => intro r h'; cases h'; simp [DenL]
  | cons x l ih =>
    intro r h'
    simp only [evSL] at h'
    split at h'
    · rename_i s q h1 h2
      cases h'
      simp only [List.map_cons, DenL]
      exact ⟨_, _, rfl, evS_den h h1, ih h2⟩
    · cases h'
theorem op_call {P : Program} {o : Oper} {σ : St} {f : Operand} {args : Array Operand} {ats : Array TypeId} {g : FuncId} {fn : Func} {xs ys as : List SV} {outs : Outs}
    (ho : o.op = .call { callee := .value f, args, argTypes := ats }) (hf : evS σ f = some (.fn g xs ys)) (ha : evSL σ args.toList = some as)
    (hfn : P.funcs[g]? = some fn) (hname : fn.name ≠ "runtime.NumGoroutine") (hbody : fn.body.isSome = true) (hc : CallsOK P g σ (xs ++ (as ++ ys)) outs) : OpOK P o σ outs := by
  intro C E a w hi next Q hl hn
  have h1 := evS_den hi hf
  simp only [Den] at h1
  obtain ⟨us, vs, hev, hus, hvs⟩ := h1
  have has := evSL_den hi ha
  left
  have hex : (execOp a.eval o).run P w = .ok (.enter g (us.toList ++ (args.toList.map a.eval ++ vs.toList)).toArray) w := by
    rw [exec_eq ho]
    have he : a.eval f = .func (.func g) ⟨us.toList⟩ ⟨vs.toList⟩ := hev
    show (do let d ← resolve a.eval { callee := .value f, args, argTypes := ats } o.type; invoke d.target d.args : Sem Next).run P w = _
    simp only [Sem.run_bind, resolve_value he, Result.andThen_ok, invoke]
    have harr : (⟨us.toList⟩ ++ args.map a.eval) ++ ⟨vs.toList⟩ = (us.toList ++ (args.toList.map a.eval ++ vs.toList)).toArray := by
      apply Array.toList_inj.1; simp
    rw [harr]
    have hb : fn.body ≠ none := fun e => by rw [e] at hbody; cases hbody
    simp [callFunc, hfn, hname, hb]
  unfold Oper.wp
  rw [hex]
  show Calls P g _ w _
  refine hc C E a w hi _ (denL_append hus (denL_append has hvs)) _ trivial fun s σ' hs C' E' v w' hC hE hi' hd => hn s σ' hs C' E' v w' hC hE hi' hd
end Go.Vg
/- Tracked blocks. -/
namespace Go.Vg
open Go Go.RowKit Go.Hs Go.Ty Go.Ex
def addB (σ : St) (x : TO) : St := { σ with hp := σ.hp ++ [x] }
theorem new_inv {C : Cx} {E : Ev} {σ : St} {a : Act} {w : World} (h : Inv C E σ a w) {x0 : TO} {ob : Obj} (hl : TIn C E ob x0) :
    E.le { E with b := E.b ++ [w.heap.size] } ∧ Inv C { E with b := E.b ++ [w.heap.size] } (addB σ x0) a (w.alloc ob) ∧ ({ E with b := E.b ++ [w.heap.size] } : Ev).b[σ.hp.length]? = some w.heap.size := by
  have hle : E.le { E with b := E.b ++ [w.heap.size] } := ⟨⟨[], by simp⟩, ⟨[], by simp⟩, ⟨_, rfl⟩⟩
  have hS : ∀ o, C.R w.heap.size o = none := fun o => by
    cases hs : C.R w.heap.size o with
    | none => rfl
    | some t => exact absurd (h.wt.R_lt hs) (Nat.lt_irrefl _)
  have hM : C.M w.heap.size = none := by
    cases hs : C.M w.heap.size with
    | none => rfl
    | some t => exact absurd (h.wt.M_lt hs) (Nat.lt_irrefl _)
  have hnew : (E.b ++ [w.heap.size])[σ.hp.length]? = some w.heap.size := by rw [← h.nb]; simp
  have hget : ∀ (i b : Nat), (E.b ++ [w.heap.size])[i]? = some b → (E.b[i]? = some b ∧ i < σ.hp.length) ∨ (i = σ.hp.length ∧ b = w.heap.size) := fun i b hb => by
    rcases Nat.lt_or_ge i E.b.length with hi | hi
    · rw [List.getElem?_append_left hi] at hb; exact .inl ⟨hb, by rw [← h.nb]; exact hi⟩
    · rw [List.getElem?_append_right hi] at hb
      have := (List.getElem?_eq_some_iff.1 hb).1
      simp at this
      have e0 : i - E.b.length = 0 := by omega
      rw [e0] at hb
      simp at hb
      exact .inr ⟨by rw [← h.nb]; omega, hb.symm⟩
  refine ⟨hle, ⟨h.wt.alloc _, fun x hx => h.hy x hx, h.ns, h.no, by simp [addB, h.nb], h.nt, fun t s hg => ?_, fun i x hx hg => ?_, fun i j b hi hj => ?_, fun i b hi => ?_, fun f hf => fact_mono (.refl C) hle (h.fa f hf), fun r hr => read_mono (.refl C) hle (h.rd r hr), h.dfr⟩, hnew⟩
  · obtain ⟨v, h1, h2⟩ := h.sl t s hg
    exact ⟨v, h1, den_mono (.refl C) hle _ _ h2⟩
  · rcases Nat.lt_or_ge i σ.hp.length with hi | hi
    · have hx' : σ.hp[i]? = some x := by
        have : (σ.hp ++ [x0])[i]? = some x := hx
        rwa [List.getElem?_append_left hi] at this
      obtain ⟨b, ob, h1, h2, h3, h4, h5, h6⟩ := tobj_mono (.refl C) hle (fun _ _ _ => rfl) (fun _ _ => rfl) (h.hp i x hx' hg)
      have hlt : b < w.heap.size := (Array.getElem?_eq_some_iff.1 h5).1
      exact ⟨b, ob, h1, h2, h3, h4, (Below.heap_alloc _ _ _ hlt).trans h5, h6⟩
    · have hx' : (σ.hp ++ [x0])[i]? = some x := hx
      rw [List.getElem?_append_right hi] at hx'
      have := (List.getElem?_eq_some_iff.1 hx').1
      simp at this
      have e0 : i - σ.hp.length = 0 := by omega
      rw [e0] at hx'
      simp at hx'
      subst hx'
      have ei : i = σ.hp.length := by omega
      subst ei
      exact ⟨w.heap.size, ob, hnew, h.wt.below.size, hS, hM, heap_alloc_new _ _, tin_mono (.refl C) hle hl⟩
  · rcases hget i b hi with ⟨h1, h2⟩ | ⟨h1, h2⟩ <;> rcases hget j b hj with ⟨h3, h4⟩ | ⟨h3, h4⟩
    · exact h.inj i j b h1 h3
    · have := h.lt i b h1; omega
    · have := h.lt j b h3; omega
    · omega
  · rw [Hs.alloc_size]
    rcases hget i b hi with ⟨h1, h2⟩ | ⟨h1, h2⟩
    · have := h.lt i b h1; omega
    · omega
/-- A new tracked block, all its cells known. -/
theorem new_cells {C : Cx} {E : Ev} {σ : St} {a : Act} {w : World} (h : Inv C E σ a w) {l : List SV} {cs : Array Value} (hl : DenL C E l cs.toList) (t : TypeId) :
    ∃ E', E.le E' ∧ Inv C E' (addB { σ with no := σ.no + 1 } (.cells σ.no l)) a (w.alloc (.cells cs t)) ∧ E'.b[σ.hp.length]? = some w.heap.size := by
  obtain ⟨f1, f2, f3⟩ := id_inv h (.agg cs)
  obtain ⟨e1, e2, e3⟩ := new_inv f2 (x0 := .cells σ.no l) (ob := .cells cs t) ⟨rfl, f3, denL_mono (.refl C) f1 _ _ hl⟩
  exact ⟨_, f1.trans e1, e2, e3⟩
section
variable {E0 : Env} (hE0 : EnvOK E0)
include hE0
omit hE0 in
theorem op_box {P : Program} {o : Oper} {σ : St} {t : TypeId} {x : Operand} {s : SV} (ho : o.op = .box t x) (hx : evS σ x = some s) (hna : noAgt s = true) : OpOK P o σ [(.tptr σ.hp.length 0, addB { σ with no := σ.no + 1 } (.cells σ.no (svCells s)))] := by
  refine opOK_step fun C E a w hinv => ?_
  have h1 := svCells_den hna (evS_den hinv hx)
  obtain ⟨e0, e1, e2, e3⟩ := new_cells hinv h1 t
  refine ⟨.pointer (some ⟨w.heap.size, 0, none⟩), _, _, w.alloc (.cells (a.eval x).cells t), ?_, List.mem_cons_self .., C, _, .refl _, e1, e2, by simp only [Den]; exact ⟨_, e3, rfl⟩⟩
  rw [exec_eq ho]
  simp only [execOp, Instr.box, Sem.run_bind, newVar_run, Result.andThen_ok, Sem.run_pure]
theorem op_alloc {o : Oper} {σ : St} {t : TypeId} {i : AInfo} {l : List SV} (ho : o.op = .alloc t) (hi : inf E0 t = some i) (hl : ofScals (rexpand i.runs) = some l) : OpOK E0.P o σ [(.tptr σ.hp.length 0, addB { σ with no := σ.no + 1 } (.cells σ.no l))] := by
  refine opOK_step fun C E a w hinv => ?_
  obtain ⟨ti, z, d, hio, _, _⟩ := inf_ok hE0 hi
  have h1 : DenL C E l z.cells.toList := by rw [← hio.runs]; exact ofScals_den hl
  obtain ⟨e0, e1, e2, e3⟩ := new_cells hinv h1 t
  refine ⟨.pointer (some ⟨w.heap.size, 0, none⟩), _, _, w.alloc (.cells z.cells t), ?_, List.mem_cons_self .., C, _, .refl _, e1, e2, by simp only [Den]; exact ⟨_, e3, rfl⟩⟩
  rw [exec_eq ho]
  simp only [execOp, Instr.alloc, Sem.run_bind, hio.zeroValue, Result.andThen_ok, newVar_run, Sem.run_pure]
end
end Go.Vg
/- Reading and writing tracked blocks. -/
namespace Go.Vg
open Go Go.RowKit Go.Hs Go.Ty Go.Ex
def oneS : SV → Bool
  | .agg _ | .tup _ | .agt _ => false
  | _ => true
theorem oneS_den {C : Cx} {E : Ev} {s : SV} {v : Value} (hs : oneS s = true) (h : Den C E s v) : v.oneCell' = true := by
  cases s with
  | agg l => cases hs
  | tup l => cases hs
  | agt l => cases hs
  | lit x => simp only [Den] at h; exact h.2
  | unk => simpa only [Den] using h
  | rsl id t n => simp only [Den] at h; obtain ⟨_, u, k, A, c, _, _, rfl, _⟩ := h; rfl
  | eli id i m t => simp only [Den] at h; obtain ⟨u, b, o, n, c, q, _, _, _, _, rfl, _⟩ := h; rfl
  | rel id i t => simp only [Den] at h; obtain ⟨u, b, o, n, c, q, _, _, _, _, _, rfl, _⟩ := h; rfl
  | kmap id => simp only [Den] at h; obtain ⟨b, _, rfl⟩ := h; rfl
  | nilv n => simp only [Den] at h; subst h; rcases n with _ | _ | _ | _ | n <;> rfl
  | int k x => simp only [Den] at h; obtain ⟨n, _, rfl⟩ := h; rfl
  | bool b => simp only [Den] at h; subst h; rfl
  | cmp c => simp only [Den] at h; obtain ⟨b, rfl, _⟩ := h; rfl
  | str => simp only [Den] at h; obtain ⟨b, rfl⟩ := h; rfl
  | sl id m t n => simp only [Den] at h; obtain ⟨_, u, k, _, _, A, n, c, e, _⟩ := h; simp [Ty.one] at e; subst e; rfl
  | tsl id o n => simp only [Den] at h; obtain ⟨b, _, rfl⟩ := h; rfl
  | ptr t => simp only [Den] at h; obtain ⟨u, _, b, o, e, _⟩ := h; simp [Ty.one] at e; subst e; rfl
  | elt m t => simp only [Den] at h; obtain ⟨u, b, o, _, rfl, _⟩ := h; rfl
  | tptr id o => simp only [Den] at h; obtain ⟨b, _, rfl⟩ := h; rfl
  | uptr id n => simp only [Den] at h; obtain ⟨b, o, _, _, rfl⟩ := h; rfl
  | map k x => simp only [Den] at h; obtain ⟨a, b, _, _, c, e, _⟩ := h; simp [Ty.one] at e; subst e; rfl
  | fn f a b => simp only [Den] at h; obtain ⟨xs, ys, rfl, _⟩ := h; rfl
theorem oneL_den {C : Cx} {E : Ev} : ∀ {l : List SV} {vs : List Value}, l.all oneS = true → DenL C E l vs → ∀ v ∈ vs, v.oneCell' = true := by
  intro l
  induction l with
  | nil => intro vs _ h v hv; simp only [DenL] at h; subst h; cases hv
  | cons s l ih =>
    intro vs hs h v hv
    simp only [DenL] at h
    obtain ⟨u, r, rfl, h1, h2⟩ := h
    rw [List.all_cons, Bool.and_eq_true] at hs
    rcases List.mem_cons.1 hv with rfl | hv
    · exact oneS_den hs.1 h1
    · exact ih hs.2 h2 v hv
/-- New contents of a tracked block. -/
theorem setobj_inv {C : Cx} {E : Ev} {σ : St} {a : Act} {w w' : World} (h : Inv C E σ a w) {id b : Nat} {x0 x1 : TO} (hx : σ.hp[id]? = some x0) (h0 : x0 ≠ .gone) (hb : E.b[id]? = some b) {ob : Obj}
    (hos : w'.os = w.os) (hta : w'.tape = w.tape) (hou : w'.output = w.output) (hsz : w'.heap.size = w.heap.size) (hoth : ∀ k, k ≠ b → w'.heap[k]? = w.heap[k]?) (hnew : w'.heap[b]? = some ob) (hl : TIn C E ob x1) :
    Inv C E { σ with hp := σ.hp.set id x1 } a w' := by
  obtain ⟨b', ob0, h1, h2, h3, h4, h5, h6⟩ := h.hp id _ hx h0
  rw [hb] at h1; cases h1
  have hidl : id < σ.hp.length := (List.getElem?_eq_some_iff.1 hx).1
  refine ⟨h.wt.other hos hta hou (by omega) fun k _ hk => hoth k (by
      rintro rfl
      rcases hk with hk | ⟨o, t, hk⟩ | ⟨x, hk⟩
      · omega
      · rw [h3] at hk; cases hk
      · rw [h4] at hk; cases hk), h.hy, h.ns, h.no, by simp [h.nb], h.nt, h.sl, fun i x hxi hg => ?_, h.inj, fun i b' hi => by rw [hsz]; exact h.lt i b' hi, h.fa, h.rd, h.dfr⟩
  by_cases ei : i = id
  · subst ei
    have hxi' : (σ.hp.set i x1)[i]? = some x := hxi
    rw [List.getElem?_set_self hidl] at hxi'
    cases hxi'
    exact ⟨b, ob, hb, h2, h3, h4, hnew, hl⟩
  · have hxi' : (σ.hp.set id x1)[i]? = some x := hxi
    rw [List.getElem?_set_ne (Ne.symm ei)] at hxi'
    obtain ⟨b2, ob2, q1, q2, q3, q4, q5, q6⟩ := h.hp i x hxi' hg
    have hne : b2 ≠ b := fun e => ei (h.inj i id b2 q1 (by rw [e]; exact hb))
    exact ⟨b2, ob2, q1, q2, q3, q4, (hoth b2 hne).trans q5, q6⟩
theorem setrow_inv {C : Cx} {E : Ev} {σ : St} {a : Act} {w : World} (h : Inv C E σ a w) {id b : Nat} {x0 x1 : TO} (hx : σ.hp[id]? = some x0) (h0 : x0 ≠ .gone) (hb : E.b[id]? = some b) {cs cs' : Array Value} {e : TypeId} (hcs : w.heap[b]? = some (.cells cs e)) (hl : TIn C E (.cells cs' e) x1) :
    Inv C E { σ with hp := σ.hp.set id x1 } a (w.setRow b cs') :=
  setobj_inv h hx h0 hb rfl rfl rfl (by simp) (fun k hk => setRow_other w b k cs' hk) (setRow_heap w b cs cs' e _ hcs) hl
/-- A tracked block's cells. -/
theorem cells_of {C : Cx} {E : Ev} {σ : St} {a : Act} {w : World} (h : Inv C E σ a w) {id ver : Nat} {l : List SV} (hx : σ.hp[id]? = some (.cells ver l)) : ∃ b cs e, E.b[id]? = some b ∧ C.w0.heap.size ≤ b ∧ w.heap[b]? = some (.cells cs e) ∧ DenL C E l cs.toList := by
  obtain ⟨b, ob, h1, h2, h3, h4, h5, h6⟩ := h.hp id _ hx (by intro e; cases e)
  cases ob <;> first | exact h6.elim | skip
  obtain ⟨rfl, _, h6⟩ := h6
  exact ⟨b, _, _, h1, h2, h5, h6⟩
section
variable {E0 : Env} (hE0 : EnvOK E0)
include hE0
theorem op_load_tptr {o : Oper} {σ : St} {t : TypeId} {x : Operand} {id off ver : Nat} {l : List SV} {i : AInfo} {s : SV}
    (ho : o.op = .load t x) (hx : evS σ x = some (.tptr id off)) (hb : σ.hp[id]? = some (.cells ver l)) (hi : inf E0 t = some i) (hle : off + i.size ≤ l.length) (hp : packS i.agg ((l.drop off).take i.size) = some s) : OpOK E0.P o σ [(s, σ)] := by
  refine opOK_pure fun C E a w hinv => ?_
  have h1 := evS_den hinv hx
  simp only [Den] at h1
  obtain ⟨b, hbb, hev⟩ := h1
  obtain ⟨b', cs, e, q1, q2, q5, q6⟩ := cells_of hinv hb
  rw [hbb] at q1; cases q1
  have hcl := denL_len q6
  have hd : DenL C E ((l.drop off).take i.size) ((cs.toList.drop off).take i.size) := denL_take (denL_drop q6 _) _
  have hlen : ((cs.toList.drop off).take i.size).length = i.size := by simp at hcl ⊢; omega
  have hv : ∀ j, j < i.size → w.cell? ⟨b, off + j, none⟩ = ((cs.toList.drop off).take i.size)[j]? := fun j hj => by
    rw [List.getElem?_take_of_lt hj, List.getElem?_drop]
    simp [World.cell?, q5]
  obtain ⟨r1, r2⟩ := run_loadVar hE0 hi hlen hv
  have key : ∀ v, (loadVar t ⟨b, off, none⟩).run E0.P w = .ok v w → (execOp a.eval o).run E0.P w = .ok (.value v) w := fun v hr => by
    rw [exec_eq ho]
    simp [execOp, hev, Instr.loadAt, sure_addr, hr]
  generalize hus : (cs.toList.drop off).take i.size = us at *
  cases ha : i.agg with
  | true =>
    rw [ha] at hp
    cases hp
    exact ⟨.agg us.toArray, _, σ, key _ (r1 ha), List.mem_cons_self .., C, E, .refl _, .refl _, hinv, by simp only [Den]; exact ⟨us.toArray, rfl, by simpa using hd⟩⟩
  | false =>
    rw [ha] at hp
    unfold packS at hp
    split at hp
    · rename_i h0; cases h0
    · split at hp
      · rename_i hs
        cases hp
        rw [hs] at hd
        simp only [DenL] at hd
        obtain ⟨v, r, rfl, h1, rfl⟩ := hd
        exact ⟨v, s, σ, key _ (r2 ha v rfl), List.mem_cons_self .., C, E, .refl _, .refl _, hinv, h1⟩
      · cases hp
theorem op_store_tptr {o : Oper} {σ : St} {t : TypeId} {x y : Operand} {id off ver : Nat} {l : List SV} {i : AInfo} {s : SV}
    (ho : o.op = .store t x y) (hx : evS σ x = some (.tptr id off)) (hy : evS σ y = some s) (hna : noAgt s = true) (hb : σ.hp[id]? = some (.cells ver l)) (hi : inf E0 t = some i) (hsz : (svCells s).length = i.size) (hle : off + i.size ≤ l.length) (h1s : (svCells s).all oneS = true) :
    OpOK E0.P o σ [(.tup [], { σ with no := σ.no + 1, hp := σ.hp.set id (.cells σ.no (l.take off ++ svCells s ++ l.drop (off + i.size))) })] := by
  refine opOK_skip fun C E a w hinv => ?_
  have h1 := evS_den hinv hx
  have h2 := svCells_den hna (evS_den hinv hy)
  simp only [Den] at h1
  obtain ⟨b, hbb, hev⟩ := h1
  obtain ⟨b', cs, e, q1, q2, q5, q6⟩ := cells_of hinv hb
  rw [hbb] at q1; cases q1
  have hcl := denL_len q6
  have hvl := denL_len h2
  obtain ⟨ti, z, dd, hio, _, _⟩ := inf_ok hE0 hi
  obtain ⟨f1, f2, f3⟩ := id_inv hinv (.agg (cs.toList.take off ++ (a.eval y).cells.toList ++ cs.toList.drop (off + i.size)).toArray)
  refine ⟨_, ?_, C, _, .refl _, f1, setrow_inv f2 hb (by intro e; cases e) hbb (x1 := .cells _ _) q5 (cs' := (cs.toList.take off ++ (a.eval y).cells.toList ++ cs.toList.drop (off + i.size)).toArray) ⟨rfl, f3, denL_mono (.refl C) f1 _ _ (by simpa using denL_append (denL_append (denL_take q6 off) h2) (denL_drop q6 _))⟩⟩
  rw [exec_eq ho]
  have hlen : (a.eval y).cells.size = i.size := by simpa [hsz] using hvl
  simp only [execOp, Instr.storeAt, Sem.run_bind, hev, sure_addr, Result.andThen_ok, storeVar, hio.sizeOf]
  rw [if_neg (by simp [hlen]), run_storeCells_at E0.P b off e _ 0 cs w q5 (by simp at hcl hvl ⊢; omega) (oneL_den h1s h2)]
  have e1 : off + 0 + (a.eval y).cells.toList.length = off + i.size := by simp [hlen]
  rw [e1, Nat.add_zero]
  rfl
end
end Go.Vg
/- More quiet operations: pick, makeFunc, len. -/
namespace Go.Vg
open Go Go.RowKit Go.Hs Go.Ty Go.Ex
theorem op_pick {P : Program} {o : Oper} {σ : St} {c x y : Operand} {b : Bool} {s : SV} (ho : o.op = .pick c x y) (hc : evS σ c = some (.bool b)) (hs : evS σ (if b then x else y) = some s) : QuietOK P o σ s :=
  fun C E a w hi => by
    have h1 := evS_den hi hc
    simp only [Den] at h1
    refine ⟨_, fun w => ?_, evS_den hi hs⟩
    rw [exec_eq ho]
    cases b <;> simp [execOp, h1, asBool]
theorem op_makeFunc {P : Program} {o : Oper} {σ : St} {f : FuncId} {first captured : Array Operand} {xs ys : List SV} (ho : o.op = .makeFunc (.func f) first captured) (hx : evSL σ first.toList = some xs) (hy : evSL σ captured.toList = some ys) : QuietOK P o σ (.fn f xs ys) :=
  fun C E a w hi => by
    refine ⟨.func (.func f) ⟨first.toList.map a.eval⟩ ⟨captured.toList.map a.eval⟩, fun w => ?_, by simp only [Den]; exact ⟨_, _, rfl, evSL_den hi hx, evSL_den hi hy⟩⟩
    rw [exec_eq ho]
    simp only [execOp, Instr.makeFunc]
    rw [← Array.toList_map, ← Array.toList_map]
    rfl
/-- How long a slice is. -/
def lenS : SV → Option Tm
  | .nilv 0 => some (.c 0)
  | .sl _ _ _ n => some n
  | .tsl _ _ n => some (.c n)
  | _ => none
section
variable {E0 : Env} (hE0 : EnvOK E0)
include hE0
theorem op_len {o : Oper} {σ : St} {x : Operand} {t e : TypeId} {ts : List TypeId} {s : SV} {n : Tm} (ho : o.op = .call { callee := .builtin .len, args := #[x], argTypes := ⟨t :: ts⟩ }) (hx : evS σ x = some s) (hu : und E0 t = some (.slice e)) (hn : lenS s = some n) : QuietOK E0.P o σ (.int .i64 n) := by
  intro C E a w hi
  have h1 := evS_den hi hx
  have key : ∃ A m c, a.eval x = .slice A m c ∧ n.ev E.ρ = some (m : Int) := by
    unfold lenS at hn
    split at hn
    · cases hn; simp only [Den, nilVal] at h1; exact ⟨none, 0, 0, h1, rfl⟩
    · cases hn
      simp only [Den] at h1
      obtain ⟨_, u, k, _, hk, A, m, c, e1, e2, e3, _⟩ := h1
      simp only [Ty.one, if_pos, Option.some.injEq] at e1
      exact ⟨A, m, c, e1, by rw [hk, show k = (m : Int) by have := e2.1; omega]⟩
    · cases hn
      simp only [Den] at h1
      obtain ⟨b, _, h2⟩ := h1
      exact ⟨_, _, _, h2, rfl⟩
    · cases hn
  obtain ⟨A, m, c, hev, hm⟩ := key
  refine ⟨.int .i64 m, fun w => ?_, by simp only [Den]; exact ⟨m, hm, rfl⟩⟩
  rw [exec_eq ho]
  simp only [execOp, resolve, invoke, builtin, Sem.run_bind, Sem.run_pure, Result.andThen_ok]
  rw [show (Array.map a.eval #[x]) = #[a.eval x] by simp, hev]
  simp [Builtin.len_, und_run hE0 hu, goInt]
end
end Go.Vg
/- Regions that draw their order. -/
namespace Go.Vg
open Go Go.RowKit Go.Hs Go.Ty Go.Ex
/-- No panic is asked for. -/
def noPanic (Q : Exit → Act → World → Prop) : Exit → Act → World → Prop
  | .panic _, _, _ => False
  | e, a, w => Q e a w
def AnyOK (P : Program) (ops : Array Oper) (fuel : Nat) (listed : Array Bool) (σ : St) (outs : List St) : Prop :=
  ∀ C E a w, Inv C E σ a w → ∀ (Q : Exit → Act → World → Prop), Lets Q →
    (∀ σ', σ' ∈ outs → ∀ C' E' a' w', C.le C' → E.le E' → Inv C' E' σ' a' w' → Q .normal a' w') → wpAny P .any ops (noPanic Q) fuel listed a w
section
variable {P : Program} {ops : Array Oper} {fuel : Nat} {listed : Array Bool} {σ : St}
theorem any_done (hr : Region.ready .any ops listed = []) : AnyOK P ops fuel listed σ [σ] := fun C E a w hi Q _ h =>
  wpAny_done (Q := noPanic Q) hr (h σ (List.mem_cons_self ..) C E a w (.refl _) (.refl _) hi) fuel
/-- A quiet operation first. -/
theorem any_take {i : Nat} {o : Oper} {s : SV} {σ2 : St} {outs : List St} (hi : ops[i]? = some o) (hs : Region.noSelect ops = true) (hf : Region.free .any ops listed i = true) (hr : (Region.ready .any ops listed).contains i = true)
    (hw : wantS ops σ o = some true) (hq : QuietOK P o σ s) (hp : putS σ o.dst (some s) = some σ2) (h : AnyOK P ops fuel (listed.setIfInBounds i true) σ2 outs) : AnyOK P ops (fuel + 1) listed σ outs := fun C E a w hinv Q hl hq2 => by
  obtain ⟨v, h1, h2⟩ := hq C E a w hinv
  exact wpAny_take hi hs hf hr (fun c a w hx => hx) (.inl ⟨wantS_ok hinv hw, h1⟩) (h C E _ w (put_inv hinv hp fun s' e => by cases e; exact h2) Q hl hq2)
/-- An operation that is not carried out, first. -/
theorem any_skip {i : Nat} {o : Oper} {σ2 : St} {outs : List St} (hi : ops[i]? = some o) (hs : Region.noSelect ops = true) (hf : Region.free .any ops listed i = true) (hr : (Region.ready .any ops listed).contains i = true)
    (hw : wantS ops σ o = some false) (hp : putS σ o.dst none = some σ2) (h : AnyOK P ops fuel (listed.setIfInBounds i true) σ2 outs) : AnyOK P ops (fuel + 1) listed σ outs := fun C E a w hinv Q hl hq2 =>
  wpAny_take hi hs hf hr (fun c a w hx => hx) (.inr ⟨wantS_ok hinv hw, rfl⟩) (h C E _ w (put_inv hinv hp fun s' e => by cases e) Q hl hq2)
/-- Every operation that is ready is tried. -/
theorem any_all {rs : List Nat} {outs : List St} (hr : Region.ready .any ops listed = rs) (hne : rs ≠ [])
    (h : ∀ i ∈ rs, ∃ o os, ops[i]? = some o ∧ wantS ops σ o = some true ∧ OpOK P o σ os ∧ ∀ s σ', (s, σ') ∈ os → ∃ σ2 o2, putS σ' o.dst (some s) = some σ2 ∧ AnyOK P ops fuel (listed.setIfInBounds i true) σ2 o2 ∧ ∀ x ∈ o2, x ∈ outs) :
    AnyOK P ops (fuel + 1) listed σ outs := fun C E a w hinv Q hl hq2 => by
  refine wpAny_all hr hne fun i hi => ?_
  obtain ⟨o, os, h1, h2, h3, h4⟩ := h i hi
  unfold wpOp
  rw [h1]
  show if _ then _ else _
  rw [if_pos (wantS_ok hinv h2)]
  refine h3 C E a w hinv _ (noPanic Q) hl fun s σ' hs C' E' v w' hC hE hi' hd => ?_
  obtain ⟨σ2, o2, hp, h5, h6⟩ := h4 s σ' hs
  exact h5 C' E' _ w' (put_inv hi' hp fun s' e => by cases e; exact hd) Q hl fun x hx C2 E2 a2 w2 hC2 hE2 hi2 => hq2 x (h6 x hx) C2 E2 a2 w2 (hC.trans hC2) (hE.trans hE2) hi2
theorem inv_drawn {C : Cx} {E : Ev} {a : Act} {w : World} (h : Inv C E σ a w) (n : Nat) : Inv C E σ a { w with drawn := n } :=
  inv_world h (h.wt.other rfl rfl rfl (Nat.le_refl _) fun _ _ _ => rfl) (Nat.le_refl _) fun _ _ _ _ _ _ => rfl
theorem code_draw {id : Nat} {outs : List St} (hm : P.follows .mixedOrders = true) (h : AnyOK P ops ops.size (Array.replicate ops.size false) σ outs) : CodeOK P (.region id ops true) σ (outs.map fun s => (.normal, s)) := fun C E a w hi Q hl hq => by
  refine wp_mono (wp_region_any hm (h C E a _ (inv_drawn hi _) Q hl fun σ' hs C' E' a' w' hC hE hi' => hq .normal σ' (List.mem_map.2 ⟨σ', hs, rfl⟩) C' E' a' w' hC hE hi')) fun e a' w' hx => ?_
  cases e with
  | panic c => exact hx.elim
  | _ => exact hx
end
end Go.Vg
/- Division. -/
namespace Go.Vg
open Go Go.RowKit Go.Hs Go.Ty Go.Ex
theorem exec_rem {P : Program} {o : Oper} {a : Act} {t yt : TypeId} {x y : Operand} {k : IntKind} {m n : Int} (ho : o.op = .binOp .rem t x y yt) (hx : a.eval x = .int k m) (hy : a.eval y = .int k n) (hn : n ≠ 0) (w : World) :
    (execOp a.eval o).run P w = .ok (.value (.int k (m.tmod n))) w := by
  rw [exec_eq ho]
  simp only [execOp, hx, hy, Sem.run_bind]
  simp [eqGuard, binOp, Op.intDiv, hn]
theorem tmod_le_self {i j : Int} (h : 0 ≤ i) (hj : 0 < j) : i.tmod j ≤ i := by
  rw [Int.tmod_eq_emod_of_nonneg h]
  have h1 := Int.mul_ediv_add_emod i j
  have h2 : 0 ≤ j * (i / j) := Int.mul_nonneg (by omega) (Int.ediv_nonneg h (by omega))
  omega
/-- The remainder: a new symbol with its bounds. -/
theorem op_rem {P : Program} {o : Oper} {σ : St} {t yt : TypeId} {x y : Operand} {k : IntKind} {m n : Tm}
    (ho : o.op = .binOp .rem t x y yt) (hx : evS σ x = some (.int k m)) (hy : evS σ y = some (.int k n))
    (g1 : Goal.ok ⟨σ.hy, .lt (.c 0) n⟩) :
    OpOK P o σ [(.int k (.s σ.ns), assume (.lt (.s σ.ns) n) (assume (.lt (.sub (.c 0) n) (.s σ.ns)) (assume (.imp (.le (.c 0) m) (.and (.le (.c 0) (.s σ.ns)) (.le (.s σ.ns) m))) { σ with ns := σ.ns + 1 })))] := by
  refine opOK_pure fun C E a w hinv => ?_
  have h1 := evS_den hinv hx
  have h2 := evS_den hinv hy
  simp only [Den] at h1 h2
  obtain ⟨i, hi, hxe⟩ := h1
  obtain ⟨j, hj, hye⟩ := h2
  have hyp : ∀ h ∈ σ.hy, h.holds (tot E.ρ) := fun h hh => (hinv.hy h hh).2
  have b1 := g1 (tot E.ρ) hyp
  simp only [Hy.holds, ev_val hj, Tm.val] at b1
  have hlt : i.tmod j < j := by
    have := Int.tmod_lt_of_pos i b1
    exact this
  have hgt : -j < i.tmod j := by
    have := Int.lt_tmod_of_pos i b1
    exact this
  have hnn : 0 ≤ i → 0 ≤ i.tmod j ∧ i.tmod j ≤ i := fun h => ⟨Int.tmod_nonneg j h, tmod_le_self h b1⟩
  obtain ⟨e1, e2, e3⟩ := sym_inv hinv (i.tmod j)
  have hs : (Tm.s σ.ns).ev (E.ρ ++ [i.tmod j]) = some (i.tmod j) := e3
  have hi' := ev_grow (l := [i.tmod j]) hi
  have hj' := ev_grow (l := [i.tmod j]) hj
  have z0 : (Tm.sub (.c 0) n).ev (E.ρ ++ [i.tmod j]) = some (0 - j) := by simp only [Tm.ev, hj']
  refine ⟨.int k (i.tmod j), _, _, ?_, List.mem_cons_self .., C, _, .refl _, e1, assume_inv (assume_inv (assume_inv e2 ?_ ?_) ?_ ?_) ?_ ?_, by simp only [Den]; exact ⟨_, hs, rfl⟩⟩
  · exact exec_rem ho hxe hye (by omega) w
  · exact ⟨⟨⟨0, rfl⟩, ⟨_, hi'⟩⟩, ⟨⟨0, rfl⟩, ⟨_, hs⟩⟩, ⟨⟨_, hs⟩, ⟨_, hi'⟩⟩⟩
  · show _ ≤ _ → _ ≤ _ ∧ _ ≤ _
    rw [ev_val hs, ev_val hi']
    exact hnn
  · exact ⟨⟨_, z0⟩, ⟨_, hs⟩⟩
  · show _ < _
    rw [ev_val hs, ev_val z0]; omega
  · exact ⟨⟨_, hs⟩, ⟨_, hj'⟩⟩
  · show _ < _
    rw [ev_val hs, ev_val hj']; exact hlt
end Go.Vg
/- The quotient of numbers that are not negative. -/
namespace Go.Vg
open Go Go.RowKit Go.Hs Go.Ty Go.Ex
theorem exec_quo {P : Program} {o : Oper} {a : Act} {t yt : TypeId} {x y : Operand} {k : IntKind} {m n : Int} (ho : o.op = .binOp .quo t x y yt) (hx : a.eval x = .int k m) (hy : a.eval y = .int k n) (hn : n ≠ 0) (w : World) :
    (execOp a.eval o).run P w = .ok (.value (.int k (k.wrap (m.tdiv n)))) w := by
  rw [exec_eq ho]
  simp only [execOp, hx, hy, Sem.run_bind]
  simp [eqGuard, binOp, Op.intDiv, hn]
theorem op_quo {P : Program} {o : Oper} {σ : St} {t yt : TypeId} {x y : Operand} {k : IntKind} {m n : Tm}
    (ho : o.op = .binOp .quo t x y yt) (hx : evS σ x = some (.int k m)) (hy : evS σ y = some (.int k n))
    (g : Goal.ok ⟨σ.hy, .and (.lt (.c 0) n) (.and (.le (.c 0) m) (.le m (.c (kHi k))))⟩) :
    OpOK P o σ [(.int k (.s σ.ns), assume (.le (.c 0) (.s σ.ns)) (assume (.le (.s σ.ns) m) (assume (.le (.mul (.s σ.ns) n) m) (assume (.lt m (.mul (.add (.s σ.ns) (.c 1)) n)) { σ with ns := σ.ns + 1 }))))] := by
  refine opOK_pure fun C E a w hinv => ?_
  have h1 := evS_den hinv hx
  have h2 := evS_den hinv hy
  simp only [Den] at h1 h2
  obtain ⟨i, hi, hxe⟩ := h1
  obtain ⟨j, hj, hye⟩ := h2
  have hyp : ∀ h ∈ σ.hy, h.holds (tot E.ρ) := fun h hh => (hinv.hy h hh).2
  have b := g (tot E.ρ) hyp
  simp only [Hy.holds, ev_val hi, ev_val hj, Tm.val] at b
  obtain ⟨bj, bi, bk⟩ := b
  have hq : i.tdiv j = i / j := Int.tdiv_eq_ediv_of_nonneg bi
  have q0 : 0 ≤ i / j := Int.ediv_nonneg bi (by omega)
  have q1 := Int.mul_ediv_add_emod i j
  have q2 := Int.emod_nonneg i (show j ≠ 0 by omega)
  have q3 := Int.emod_lt_of_pos i bj
  have q4 : i / j * j ≤ i := by rw [Int.mul_comm]; omega
  have q5 : i < (i / j + 1) * j := by rw [Int.add_mul, Int.mul_comm (i / j) j, Int.one_mul]; omega
  have q6 : i / j ≤ i := Int.ediv_le_self j bi
  have h0 : kLo k ≤ 0 := by cases k <;> decide
  obtain ⟨e1, e2, e3⟩ := sym_inv hinv (i / j)
  have hs : (Tm.s σ.ns).ev (E.ρ ++ [i / j]) = some (i / j) := e3
  have hi' := ev_grow (l := [i / j]) hi
  have hj' := ev_grow (l := [i / j]) hj
  have z1 : (Tm.mul (.s σ.ns) n).ev (E.ρ ++ [i / j]) = some (i / j * j) := by simp only [Tm.ev, hj'] at hs ⊢; rw [hs]
  have z2 : (Tm.mul (.add (.s σ.ns) (.c 1)) n).ev (E.ρ ++ [i / j]) = some ((i / j + 1) * j) := by simp only [Tm.ev, hj'] at hs ⊢; rw [hs]
  refine ⟨.int k (i / j), _, _, ?_, List.mem_cons_self .., C, _, .refl _, e1, assume_inv (assume_inv (assume_inv (assume_inv e2 ?_ ?_) ?_ ?_) ?_ ?_) ?_ ?_, by simp only [Den]; exact ⟨_, hs, rfl⟩⟩
  · rw [exec_quo ho hxe hye (by omega) w, hq, wrap_in (by omega) (by omega)]
  · exact ⟨⟨_, hi'⟩, ⟨_, z2⟩⟩
  · show _ < _
    rw [ev_val hi', ev_val z2]; exact q5
  · exact ⟨⟨_, z1⟩, ⟨_, hi'⟩⟩
  · show _ ≤ _
    rw [ev_val hi', ev_val z1]; exact q4
  · exact ⟨⟨_, hs⟩, ⟨_, hi'⟩⟩
  · show _ ≤ _
    rw [ev_val hs, ev_val hi']; exact q6
  · exact ⟨⟨0, rfl⟩, ⟨_, hs⟩⟩
  · show _ ≤ _
    rw [ev_val hs]; exact q0
end Go.Vg
