/- Proved here, with no condition of its own: plain laws of memory: kinds of places, eyes, copies, results, what reads as of a type. -/
import Derived.Below
import Derived.Laws.OwnMore
import Derived.Deep.AppendLies
import Derived.Deep.Draws
import Derived.Laws.Entries
import Derived.Laws.World
import Derived.Laws.IdiomRangeMap
import Derived.Deep.Slices
import Derived.ProofKit
namespace Go.Hs
open Go Go.RowKit

/-- Two values of one kind: equal, or both integers of one width. -/
def SameKind (u v : Value) : Prop := u = v ∨ ∃ k a b, u = .int k a ∧ v = .int k b
theorem SameKind.refl (u : Value) : SameKind u u := .inl rfl
theorem SameKind.trans {a b c : Value} (h : SameKind a b) (h' : SameKind b c) : SameKind a c := by
  rcases h with rfl | ⟨k, x, y, rfl, rfl⟩
  · exact h'
  · rcases h' with rfl | ⟨k', x', y', h1, rfl⟩
    · exact .inr ⟨k, x, y, rfl, rfl⟩
    · cases h1; exact .inr ⟨_, _, _, rfl, rfl⟩
/-- In the blocks of F each cell stays of its kind. -/
def Marked (F : Nat → Prop) (w w' : World) : Prop := ∀ b, F b → ∀ o,
  (∀ u, w.cell? ⟨b, o, none⟩ = some u → ∃ v, w'.cell? ⟨b, o, none⟩ = some v ∧ SameKind u v) ∧ w'.frozen? ⟨b, o, none⟩ = w.frozen? ⟨b, o, none⟩
theorem Marked.refl (F : Nat → Prop) (w : World) : Marked F w w := fun _b _ _o => ⟨fun u h => ⟨u, h, .refl u⟩, rfl⟩
theorem Marked.trans {F : Nat → Prop} {a b c : World} (h : Marked F a b) (h' : Marked F b c) : Marked F a c := fun k hk o =>
  ⟨fun u hu => let ⟨v, h1, h2⟩ := (h k hk o).1 u hu; let ⟨x, h3, h4⟩ := (h' k hk o).1 v h1; ⟨x, h3, h2.trans h4⟩, ((h' k hk o).2).trans (h k hk o).2⟩

/-- A kind of place: what lies there, how it is seen. -/
structure Kind where
  Data : Type
  size : Nat
  Holds : World → Nat → Nat → Data → (Nat → Prop) → Prop
  view : Data → List Int → List Int
  over : Nat
  same : ∀ {w w' : World} {b o : Nat} {d : Data} {F : Nat → Prop}, Holds w b o d F → (∀ k, F k → w'.heap[k]? = w.heap[k]?) → Holds w' b o d F
  mark : ∀ {w w' : World} {b o : Nat} {d : Data} {F : Nat → Prop}, Holds w b o d F → Marked F w w' → ∃ d', Holds w' b o d' F
  mono : ∀ {w : World} {b o : Nat} {d : Data} {F G : Nat → Prop}, Holds w b o d F → (∀ k, F k → G k) → Holds w b o d G
  bound : ∀ (d : Data) (xs : List Int), (view d xs).length ≤ max xs.length 200000 + over

def kInt (k : IntKind) : Kind where
  Data := Int
  size := 1
  Holds w b o X F := w.cell? ⟨b, o, none⟩ = some (.int k X) ∧ w.frozen? ⟨b, o, none⟩ = false ∧ F b
  view X xs := xs ++ [X]
  over := 1
  same := fun ⟨h1, h2, h3⟩ h => ⟨(World.cell?_of_block (h _ h3)).trans h1, (World.frozen?_of_block (h _ h3)).trans h2, h3⟩
  mark := fun {w w' b o d F} ⟨h1, h2, h3⟩ h => by
    obtain ⟨v, h4, h5⟩ := (h b h3 o).1 _ h1
    rcases h5 with rfl | ⟨k', x, y, h6, rfl⟩
    · exact ⟨d, h4, (h b h3 o).2.trans h2, h3⟩
    · cases h6; exact ⟨y, h4, (h b h3 o).2.trans h2, h3⟩
  mono := fun ⟨h1, h2, h3⟩ h => ⟨h1, h2, h _ h3⟩
  bound := fun d xs => by simp; omega

def vloop {α : Type} (view : α → List Int → List Int) : List α → List Int → List Int
  | [], xs => xs
  | d :: ds, xs => if xs.length < 200000 then vloop view ds (view d xs) else xs
theorem vloop_bound {α : Type} {view : α → List Int → List Int} {over : Nat} (h : ∀ d xs, (view d xs).length ≤ max xs.length 200000 + over) : ∀ (ds : List α) (xs : List Int), (vloop view ds xs).length ≤ max xs.length (200000 + over) := by
  intro ds
  induction ds with
  | nil => intro xs; unfold vloop; omega
  | cons d ds ih =>
    intro xs
    unfold vloop
    split
    · have := ih (view d xs)
      have := h d xs
      omega
    · omega
/-- Each element of a slice holds its data. -/
def Elems (K : Kind) (w : World) (A : Option Addr) (ds : List K.Data) (F : Nat → Prop) : Prop :=
  ∀ (i : Nat) d, ds[i]? = some d → ∃ g s, A = some ⟨g, s, none⟩ ∧ K.Holds w g (s + i * K.size) d F
def kSlice (K : Kind) : Kind where
  Data := List K.Data
  size := 1
  Holds w b o ds F := ∃ A c, w.cell? ⟨b, o, none⟩ = some (.slice A ds.length c) ∧ w.frozen? ⟨b, o, none⟩ = false ∧ F b ∧ Elems K w A ds F ∧ ds.length ≤ maxLen
  view ds xs := vloop K.view ds (xs ++ [(ds.length : Int)])
  over := 1 + K.over
  same := fun ⟨A, c, h1, h2, h3, h4, hL⟩ h => ⟨A, c, (World.cell?_of_block (h _ h3)).trans h1, (World.frozen?_of_block (h _ h3)).trans h2, h3, fun i d hd => let ⟨g, s, h5, h6⟩ := h4 i d hd; ⟨g, s, h5, K.same h6 h⟩, hL⟩
  mark := fun {w w' b o ds F} ⟨A, c, h1, h2, h3, h4, hL⟩ h => by
    obtain ⟨v, h5, h6⟩ := (h b h3 o).1 _ h1
    rcases h6 with rfl | ⟨k', x, y, h6, _⟩
    · have key : ∀ (ds : List K.Data) (i0 : Nat), (∀ (i : Nat) d, ds[i]? = some d → ∃ g s, A = some ⟨g, s, none⟩ ∧ K.Holds w g (s + (i0 + i) * K.size) d F) →
          ∃ ds' : List K.Data, ds'.length = ds.length ∧ ∀ (i : Nat) d, ds'[i]? = some d → ∃ g s, A = some ⟨g, s, none⟩ ∧ K.Holds w' g (s + (i0 + i) * K.size) d F := by
        intro ds
        induction ds with
        | nil => intro i0 _; exact ⟨[], rfl, by simp⟩
        | cons d ds ih =>
          intro i0 hh
          obtain ⟨g, s, e1, e2⟩ := hh 0 d rfl
          obtain ⟨d', e3⟩ := K.mark e2 h
          obtain ⟨ds', e4, e5⟩ := ih (i0 + 1) fun i d hd => by
            obtain ⟨g, s, f1, f2⟩ := hh (i + 1) d (by simpa using hd)
            exact ⟨g, s, f1, by rw [show i0 + 1 + i = i0 + (i + 1) by omega]; exact f2⟩
          refine ⟨d' :: ds', by simp [e4], fun i dd hd => ?_⟩
          cases i with
          | zero => simp at hd; subst hd; exact ⟨g, s, e1, e3⟩
          | succ i =>
            obtain ⟨g, s, f1, f2⟩ := e5 i dd (by simpa using hd)
            exact ⟨g, s, f1, by rw [show i0 + (i + 1) = i0 + 1 + i by omega]; exact f2⟩
      obtain ⟨ds', e1, e2⟩ := key ds 0 (by simpa [Elems] using h4)
      exact ⟨ds', A, c, by rw [e1]; exact h5, (h b h3 o).2.trans h2, h3, by simpa [Elems] using e2, by rw [e1]; exact hL⟩
    · cases h6
  mono := fun ⟨A, c, h1, h2, h3, h4, hL⟩ h => ⟨A, c, h1, h2, h _ h3, fun i d hd => let ⟨g, s, h5, h6⟩ := h4 i d hd; ⟨g, s, h5, K.mono h6 h⟩, hL⟩
  bound := fun ds xs => by
    have := vloop_bound K.bound ds (xs ++ [(ds.length : Int)])
    simp at this ⊢
    omega
theorem Elems.same {K : Kind} {w w' : World} {A : Option Addr} {ds : List K.Data} {F : Nat → Prop} (h : Elems K w A ds F) (hw : ∀ k, F k → w'.heap[k]? = w.heap[k]?) : Elems K w' A ds F :=
  fun i d hd => let ⟨g, s, h1, h2⟩ := h i d hd; ⟨g, s, h1, K.same h2 hw⟩
theorem Elems.mark {K : Kind} {w w' : World} {A : Option Addr} {F : Nat → Prop} {ds : List K.Data} (h4 : Elems K w A ds F) (h : Marked F w w') : ∃ ds' : List K.Data, ds'.length = ds.length ∧ Elems K w' A ds' F := by
  have key : ∀ (ds : List K.Data) (i0 : Nat), (∀ (i : Nat) d, ds[i]? = some d → ∃ g s, A = some ⟨g, s, none⟩ ∧ K.Holds w g (s + (i0 + i) * K.size) d F) →
      ∃ ds' : List K.Data, ds'.length = ds.length ∧ ∀ (i : Nat) d, ds'[i]? = some d → ∃ g s, A = some ⟨g, s, none⟩ ∧ K.Holds w' g (s + (i0 + i) * K.size) d F := by
    intro ds
    induction ds with
    | nil => intro i0 _; exact ⟨[], rfl, by simp⟩
    | cons d ds ih =>
      intro i0 hh
      obtain ⟨g, s, e1, e2⟩ := hh 0 d rfl
      obtain ⟨d', e3⟩ := K.mark e2 h
      obtain ⟨ds', e4, e5⟩ := ih (i0 + 1) fun i d hd => by
        obtain ⟨g, s, f1, f2⟩ := hh (i + 1) d (by simpa using hd)
        exact ⟨g, s, f1, by rw [show i0 + 1 + i = i0 + (i + 1) by omega]; exact f2⟩
      refine ⟨d' :: ds', by simp [e4], fun i dd hd => ?_⟩
      cases i with
      | zero => simp at hd; subst hd; exact ⟨g, s, e1, e3⟩
      | succ i =>
        obtain ⟨g, s, f1, f2⟩ := e5 i dd (by simpa using hd)
        exact ⟨g, s, f1, by rw [show i0 + (i + 1) = i0 + 1 + i by omega]; exact f2⟩
  obtain ⟨ds', e1, e2⟩ := key ds 0 (by simpa [Elems] using h4)
  exact ⟨ds', e1, by simpa [Elems] using e2⟩
/-- Two places, one behind the other. -/
def kPair (K L : Kind) : Kind where
  Data := K.Data × L.Data
  size := K.size + L.size
  Holds w b o d F := K.Holds w b o d.1 F ∧ L.Holds w b (o + K.size) d.2 F
  view d xs := L.view d.2 (K.view d.1 xs)
  over := K.over + L.over
  same := fun ⟨h1, h2⟩ h => ⟨K.same h1 h, L.same h2 h⟩
  mark := fun ⟨h1, h2⟩ h => let ⟨d1, e1⟩ := K.mark h1 h; let ⟨d2, e2⟩ := L.mark h2 h; ⟨(d1, d2), e1, e2⟩
  mono := fun ⟨h1, h2⟩ h => ⟨K.mono h1 h, L.mono h2 h⟩
  bound := fun d xs => by
    have h1 := K.bound d.1 xs
    have h2 := L.bound d.2 (K.view d.1 xs)
    show (L.view d.2 (K.view d.1 xs)).length ≤ _
    omega

/-- An eye: what it has seen; its own row lies at 'base' or above. 'ti': the number of the type int. -/
def Eye (ti : TypeId) (w : World) (eb eo : Nat) (mk : Bool) (base : Nat) (xs : List Int) : Prop :=
  ∃ v n, w.cell? ⟨eb, eo, none⟩ = some v ∧ w.cell? ⟨eb, eo + 1, none⟩ = some (.slice none 0 0) ∧ w.cell? ⟨eb, eo + 2, none⟩ = some (.bool mk) ∧ w.cell? ⟨eb, eo + 3, none⟩ = some (.int .i64 n) ∧
    (∀ j, j < 4 → w.frozen? ⟨eb, eo + j, none⟩ = false) ∧ w.ownsRow base ti 1 v xs.length (xs.map (.int .i64))
/-- What a look leaves as it was. -/
structure EyeFrame (base eb eo : Nat) (F : Nat → Prop) (w w' : World) : Prop where
  os : w'.os = w.os
  tape : w'.tape = w.tape
  output : w'.output = w.output
  size : w.heap.size ≤ w'.heap.size
  block : ∀ k, k < base → k ≠ eb → ¬ F k → w'.heap[k]? = w.heap[k]?
  other : ∀ o, (∀ j, j < 4 → o ≠ eo + j) → w'.cell? ⟨eb, o, none⟩ = w.cell? ⟨eb, o, none⟩
  froz : ∀ o, w'.frozen? ⟨eb, o, none⟩ = w.frozen? ⟨eb, o, none⟩
theorem EyeFrame.refl (base eb eo : Nat) (F : Nat → Prop) (w : World) : EyeFrame base eb eo F w w := ⟨rfl, rfl, rfl, Nat.le_refl _, fun _ _ _ _ => rfl, fun _ _ => rfl, fun _ => rfl⟩
theorem EyeFrame.trans {base eb eo : Nat} {F : Nat → Prop} {a b c : World} (h : EyeFrame base eb eo F a b) (h' : EyeFrame base eb eo F b c) : EyeFrame base eb eo F a c :=
  ⟨h'.os.trans h.os, h'.tape.trans h.tape, h'.output.trans h.output, Nat.le_trans h.size h'.size, fun k a b c => (h'.block k a b c).trans (h.block k a b c), fun o ho => (h'.other o ho).trans (h.other o ho), fun o => (h'.froz o).trans (h.froz o)⟩
/-- The footprint that a look may turn. -/
def MF (mk : Bool) (F : Nat → Prop) : Nat → Prop := fun k => mk = true ∧ F k
/-- What comes of a look. -/
def SeePost (ti : TypeId) (eb eo : Nat) (mk : Bool) (base : Nat) (len over : Nat) (F : Nat → Prop) (ys : List Int) (w : World) (e : Ending) (w' : World) : Prop :=
  e = .returned (.tuple #[]) ∧ ∃ xs', Eye ti w' eb eo mk base xs' ∧ (mk = false → xs' = ys) ∧ xs'.length ≤ max len 200000 + over ∧ EyeFrame base eb eo (MF mk F) w w' ∧ Marked F w w'
/-- A function that sees places of a kind, where so many numbers at most have been seen. -/
def SeesL (lim : Nat) (P : Program) (ti : TypeId) (f : FuncId) (K : Kind) : Prop :=
  ∀ (mk : Bool) (w : World) (eb eo b o base : Nat) (F : Nat → Prop) (d : K.Data) (xs : List Int),
    Eye ti w eb eo mk base xs → K.Holds w b o d F → (∀ k, F k → k < base ∧ k ≠ eb) → eb < base → base ≤ w.heap.size → xs.length ≤ lim →
    Calls P f #[.pointer (some ⟨eb, eo, none⟩), .pointer (some ⟨b, o, none⟩)] w (SeePost ti eb eo mk base xs.length K.over F (K.view d xs) w)
/-- A function that sees places of a kind. -/
abbrev Sees (P : Program) (ti : TypeId) (f : FuncId) (K : Kind) : Prop := SeesL 900000 P ti f K
theorem SeesL.less {a b : Nat} {P : Program} {ti : TypeId} {f : FuncId} {K : Kind} (h : SeesL a P ti f K) (hb : b ≤ a) : SeesL b P ti f K :=
  fun mk w eb eo bb o base F d xs h1 h2 h3 h4 h5 h6 => h mk w eb eo bb o base F d xs h1 h2 h3 h4 h5 (Nat.le_trans h6 hb)
end Go.Hs
namespace Go.Hs
open Go Go.RowKit
/-- What lies behind an append of one number to the eye's row. -/
def NumPost (ti : TypeId) (eb eo : Nat) (base nn : Nat) (xs : List Value) (own : Option Nat) (w : World) (X : Int) (e : Ending) (w' : World) : Prop :=
  e = .returned (.tuple #[]) ∧ ∃ g cap w1, w1.ownsRow base ti 1 (.slice (some ⟨g, 0, none⟩) (nn + 1) cap) (nn + 1) (xs ++ [.int .i64 X]) ∧ (w.alloc (.cells #[.int .i64 X] ti)).drew.grownBy w1 own ∧ (own = some g ∨ g = w.heap.size + 1) ∧
    w' = w1.setCell ⟨eb, eo, none⟩ (.slice (some ⟨g, 0, none⟩) (nn + 1) cap)
theorem grown_block {w w1 : World} {own : Option Nat} {o : Obj} (hg : (w.alloc o).drew.grownBy w1 own) {k : Nat} (hk : k < w.heap.size) (hne : some k ≠ own) : w1.heap[k]? = w.heap[k]? := by
  have h2 : k < (w.alloc o).drew.heap.size := by show k < (w.alloc o).heap.size; simp; omega
  rw [hg.block k h2 hne]
  exact Below.heap_alloc w o k hk
theorem ownsRow_setCell {w : World} {base : Nat} {e : TypeId} {size n : Nat} {v : Value} {xs : List Value} (h : w.ownsRow base e size v n xs) {a : Addr} {u : Value} (ha : a.block < base) : (w.setCell a u).ownsRow base e size v n xs := by
  refine ⟨h.1, ?_⟩
  rcases h.2 with h1 | ⟨g, cap, cur, h1, h2, h3, h4⟩
  · exact .inl h1
  · refine .inr ⟨g, cap, cur, h1, h2, ?_, h4⟩
    rw [Below.heap_setCell w a u g (by omega)]; exact h3
theorem setCell_size (w : World) (a : Addr) (u : Value) : (w.setCell a u).heap.size = w.heap.size := by simp [World.setCell]
theorem see_of_num {ti : TypeId} {eb eo base : Nat} {mk : Bool} {xs : List Int} {w w' : World} {e : Ending} {v : Value} {n X : Int} (heb : eb < base) (hb : base ≤ w.heap.size)
    (h0 : w.cell? ⟨eb, eo, none⟩ = some v) (h1 : w.cell? ⟨eb, eo + 1, none⟩ = some (.slice none 0 0)) (h2 : w.cell? ⟨eb, eo + 2, none⟩ = some (.bool mk)) (h3 : w.cell? ⟨eb, eo + 3, none⟩ = some (.int .i64 n))
    (hf : ∀ j, j < 4 → w.frozen? ⟨eb, eo + j, none⟩ = false) (hown : w.ownsRow base ti 1 v xs.length (xs.map (.int .i64)))
    (h : NumPost ti eb eo base xs.length (xs.map (.int .i64)) v.ownBlock w X e w') :
    e = .returned (.tuple #[]) ∧ Eye ti w' eb eo mk base (xs ++ [X]) ∧ EyeFrame base eb eo (fun _ => False) w w' ∧ ∀ F : Nat → Prop, (∀ k, F k → k < base ∧ k ≠ eb) → Marked F w w' := by
  obtain ⟨rfl, g, cap, w1, k1, k2, k3, rfl⟩ := h
  have hrow : ∀ k, k < base → some k ≠ v.ownBlock := fun k hk e => by
    have := (hown.lt k e.symm).1; omega
  have heap : ∀ k, k < base → w1.heap[k]? = w.heap[k]? := fun k hk => grown_block k2 (by omega) (hrow k hk)
  have cell : ∀ o, w1.cell? ⟨eb, o, none⟩ = w.cell? ⟨eb, o, none⟩ := fun o => World.cell?_of_block (heap eb heb)
  have froz : ∀ o, w1.frozen? ⟨eb, o, none⟩ = w.frozen? ⟨eb, o, none⟩ := fun o => World.frozen?_of_block (heap eb heb)
  have other : ∀ o, o ≠ eo → (w1.setCell ⟨eb, eo, none⟩ (.slice (some ⟨g, 0, none⟩) (xs.length + 1) cap)).cell? ⟨eb, o, none⟩ = w.cell? ⟨eb, o, none⟩ := fun o ho => by
    rw [World.cell?_setCell_other _ _ _ _ (by intro e; cases e; exact ho rfl), cell]
  refine ⟨rfl, ⟨_, n, World.cell?_setCell_same _ _ _ ((cell eo).trans h0), (other _ (by omega)).trans h1, (other _ (by omega)).trans h2, (other _ (by omega)).trans h3, fun j hj => ?_, ?_⟩, ⟨?_, ?_, ?_, ?_, fun k hk hne _ => ?_, fun o ho => ?_, fun o => ?_⟩, fun F hF b hb' o => ?_⟩
  · rw [World.frozen?_setCell, froz]; exact hf j hj
  · have := ownsRow_setCell (a := ⟨eb, eo, none⟩) (u := .slice (some ⟨g, 0, none⟩) (xs.length + 1) cap) k1 heb
    simpa using this
  · exact k2.os
  · exact k2.tape
  · exact k2.output
  · rw [setCell_size]
    have := k2.size
    have h5 : (w.alloc (.cells #[.int .i64 X] ti)).drew.heap.size = w.heap.size + 1 := by show (w.alloc _).heap.size = _; simp
    omega
  · rw [Below.heap_setCell _ _ _ _ hne, heap k hk]
  · exact other o (fun e => ho 0 (by omega) (by omega))
  · rw [World.frozen?_setCell, froz]
  · obtain ⟨hk, hne⟩ := hF b hb'
    have h6 : (w1.setCell ⟨eb, eo, none⟩ (.slice (some ⟨g, 0, none⟩) (xs.length + 1) cap)).heap[b]? = w.heap[b]? := by rw [Below.heap_setCell _ _ _ _ hne, heap b hk]
    exact ⟨fun u hu => ⟨u, (World.cell?_of_block h6).trans hu, .refl u⟩, World.frozen?_of_block h6⟩
end Go.Hs
namespace Go.Hs
open Go Go.RowKit
/-- The loop of 'all' at its head. -/
def AllRel (ti : TypeId) (K : Kind) (mk : Bool) (eb eo base : Nat) (F : Nat → Prop) (A : Option Addr) (n : Nat) (final : List Int) (top : Nat) (w : World) (i : Value) (wr : World) : Prop :=
  ∃ k : Nat, k ≤ n ∧ i = .int .i64 k ∧ ∃ (xs' : List Int) (ds' : List K.Data), Eye ti wr eb eo mk base xs' ∧ ds'.length = n ∧ Elems K wr A ds' F ∧ (mk = false → vloop K.view (ds'.drop k) xs' = final) ∧ xs'.length ≤ top ∧
    EyeFrame base eb eo (MF mk F) w wr ∧ Marked F w wr
theorem all_step {ti : TypeId} {K : Kind} {mk : Bool} {eb eo base : Nat} {F : Nat → Prop} {A : Option Addr} {n k : Nat} {final : List Int} {top : Nat} {w wr w' : World} {xs' : List Int} {ds' : List K.Data} {d : K.Data}
    (hF : ∀ k, F k → k < base ∧ k ≠ eb) (hk : k < n) (hl : xs'.length < 200000) (hdl : ds'.length = n) (hd : ds'[k]? = some d) (hds : Elems K wr A ds' F) (hfin : mk = false → vloop K.view (ds'.drop k) xs' = final)
    (htop : 200000 + K.over ≤ top) (hfr : EyeFrame base eb eo (MF mk F) w wr) (hmk : Marked F w wr)
    (h : ∃ ys, Eye ti w' eb eo mk base ys ∧ (mk = false → ys = K.view d xs') ∧ ys.length ≤ max xs'.length 200000 + K.over ∧ EyeFrame base eb eo (MF mk F) wr w' ∧ Marked F wr w') (u : Value) (hu : u = .int .i64 ((k + 1 : Nat) : Int)) :
    AllRel ti K mk eb eo base F A n final top w u w' := by
  obtain ⟨ys, h1, h2, h3, h4, h5⟩ := h
  have hbound : ys.length ≤ top := by omega
  cases mk with
  | false =>
    refine ⟨k + 1, hk, hu, ys, ds', h1, hdl, hds.same fun b hb => h4.block b (hF b hb).1 (hF b hb).2 (fun h => by cases h.1), fun _ => ?_, hbound, hfr.trans h4, hmk.trans h5⟩
    have e : ds'.drop k = d :: ds'.drop (k + 1) := by
      obtain ⟨hlt, rfl⟩ := List.getElem?_eq_some_iff.1 hd
      exact List.drop_eq_getElem_cons hlt
    have := hfin rfl
    rw [e] at this
    unfold vloop at this
    rw [if_pos hl] at this
    rw [h2 rfl]; exact this
  | true =>
    obtain ⟨ds2, e1, e2⟩ := hds.mark h5
    exact ⟨k + 1, hk, hu, ys, ds2, h1, e1.trans hdl, e2, fun h => (by cases h), hbound, hfr.trans h4, hmk.trans h5⟩
theorem all_end {ti : TypeId} {K : Kind} {mk : Bool} {eb eo base : Nat} {F : Nat → Prop} {n k len : Nat} {final : List Int} {w wr : World} {xs' : List Int} {ds' : List K.Data}
    (hx : k = n ∨ ¬ xs'.length < 200000) (hdl : ds'.length = n) (he : Eye ti wr eb eo mk base xs') (hfin : mk = false → vloop K.view (ds'.drop k) xs' = final) (htop : xs'.length ≤ max len 200000 + (1 + K.over))
    (hfr : EyeFrame base eb eo (MF mk F) w wr) (hmk : Marked F w wr) : SeePost ti eb eo mk base len (1 + K.over) F final w (.returned (.tuple #[])) wr := by
  refine ⟨rfl, xs', he, fun h => ?_, htop, hfr, hmk⟩
  rw [← hfin h]
  rcases hx with rfl | hx
  · rw [← hdl, List.drop_length]; rfl
  · cases ds'.drop k with
    | nil => rfl
    | cons d r => unfold vloop; rw [if_neg hx]
end Go.Hs
namespace Go.Hs
open Go Go.RowKit
theorem holds_after {K : Kind} {w w1 : World} {b o base eb eo : Nat} {d : K.Data} {F : Nat → Prop} {mk : Bool} (h : K.Holds w b o d F) (hF : ∀ k, F k → k < base ∧ k ≠ eb) (hfr : EyeFrame base eb eo (MF mk F) w w1) (hmk : Marked F w w1) :
    ∃ d', K.Holds w1 b o d' F ∧ (mk = false → d' = d) := by
  cases mk with
  | false => exact ⟨d, K.same h fun k hk => hfr.block k (hF k hk).1 (hF k hk).2 (fun h => by cases h.1), fun _ => rfl⟩
  | true => obtain ⟨d', h1⟩ := K.mark h hmk; exact ⟨d', h1, fun h => by cases h⟩
end Go.Hs
namespace Go.Hs
open Go Go.RowKit
/-- An eye as a place: what it has seen. -/
def kEye : Kind where
  Data := List Int
  size := 4
  Holds w b o xs F := (kSlice (kInt .i64)).Holds w b o xs F ∧ w.cell? ⟨b, o + 1, none⟩ = some (.slice none 0 0) ∧ (∃ mk, w.cell? ⟨b, o + 2, none⟩ = some (.bool mk)) ∧ ∃ n, w.cell? ⟨b, o + 3, none⟩ = some (.int .i64 n)
  view d xs := xs
  over := 0
  same := fun {w w' b o d F} ⟨h1, h2, ⟨m, h3⟩, ⟨n, h4⟩⟩ h => by
    have hb : F b := by obtain ⟨A, c, _, _, h, _⟩ := h1; exact h
    exact ⟨(kSlice (kInt .i64)).same h1 h, (World.cell?_of_block (h _ hb)).trans h2, ⟨m, (World.cell?_of_block (h _ hb)).trans h3⟩, ⟨n, (World.cell?_of_block (h _ hb)).trans h4⟩⟩
  mark := fun {w w' b o d F} ⟨h1, h2, ⟨m, h3⟩, ⟨n, h4⟩⟩ h => by
    have hb : F b := by obtain ⟨A, c, _, _, h, _⟩ := h1; exact h
    obtain ⟨d', k1⟩ := (kSlice (kInt .i64)).mark h1 h
    refine ⟨d', k1, ?_, ?_, ?_⟩
    · obtain ⟨v, k2, k3⟩ := (h b hb (o + 1)).1 _ h2
      rcases k3 with rfl | ⟨k, x, y, e, _⟩
      · exact k2
      · cases e
    · obtain ⟨v, k2, k3⟩ := (h b hb (o + 2)).1 _ h3
      rcases k3 with rfl | ⟨k, x, y, e, _⟩
      · exact ⟨m, k2⟩
      · cases e
    · obtain ⟨v, k2, k3⟩ := (h b hb (o + 3)).1 _ h4
      rcases k3 with rfl | ⟨k, x, y, e, rfl⟩
      · exact ⟨n, k2⟩
      · cases e; exact ⟨y, k2⟩
  mono := fun ⟨h1, h2, h3, h4⟩ h => ⟨(kSlice (kInt .i64)).mono h1 h, h2, h3, h4⟩
  bound := fun d xs => by omega
/-- The cells of a row of ints. -/
theorem elems_of_owns {ti : TypeId} {w : World} {base n : Nat} {v : Value} {xs : List Int} (h : w.ownsRow base ti 1 v n (xs.map (.int .i64))) :
    ∃ A c, v = .slice A n c ∧ n = xs.length ∧ Elems (kInt .i64) w A xs (fun k => base ≤ k ∧ k < w.heap.size) := by
  obtain ⟨h1, h2⟩ := h
  simp at h1
  rcases h2 with ⟨rfl, rfl⟩ | ⟨g, cap, cur, rfl, hb, hg, hn, hm, hs, ht⟩
  · have : xs = [] := List.length_eq_zero_iff.1 h1
    subst this
    exact ⟨none, 0, rfl, rfl, fun i (d : Int) hd => by cases i <;> cases hd⟩
  · refine ⟨some ⟨g, 0, none⟩, cap, rfl, h1.symm, fun i (d : Int) (hd : xs[i]? = some d) => ⟨g, 0, rfl, ?_⟩⟩
    have hgl : g < w.heap.size := (Array.getElem?_eq_some_iff.1 hg).1
    have hil : i < xs.length := (List.getElem?_eq_some_iff.1 hd).1
    have hcur : cur[i]? = some (.int .i64 d) := by
      have h3 : (cur.toList.take (n * 1))[i]? = some (.int .i64 d) := by rw [ht, List.getElem?_map, hd]; rfl
      rw [List.getElem?_take_of_lt (by omega)] at h3
      simpa using h3
    show w.cell? ⟨g, 0 + i * 1, none⟩ = _ ∧ w.frozen? ⟨g, 0 + i * 1, none⟩ = false ∧ _
    refine ⟨?_, ?_, hb, hgl⟩
    · simp [World.cell?, hg, hcur]
    · simp [World.frozen?, hg]
end Go.Hs
namespace Go.Hs
open Go Go.RowKit
/-- The first n elements (of so many cells) of a slice are these cells. -/
def RowReads (w : World) (A : Option Addr) (vals : List Value) : Prop := vals ≠ [] → ∃ ad, A = some ad ∧ ∀ j u, vals[j]? = some u → w.cell? (ad.add j) = some u
/-- What comes of a copy. -/
def CopyPost (e : TypeId) (size n : Nat) (vals : List Value) (w : World) (en : Ending) (w' : World) : Prop :=
  ∃ v', en = .returned v' ∧ w'.ownsRow w.heap.size e size v' n vals ∧ w.grownBy w' none
end Go.Hs
namespace Go.Hs
open Go Go.RowKit
/-- All numbers of a place, in order. -/
structure Flat (K : Kind) where
  flat : K.Data → List Int
  pos : ∀ d, 0 < (flat d).length
  grow : ∀ d (xs : List Int), xs.length ≤ (K.view d xs).length
  tell : ∀ d xs, K.view d xs = xs ++ flat d ∨ 200000 ≤ (K.view d xs).length
def fInt (k : IntKind) : Flat (kInt k) where
  flat d := [d]
  pos _ := Nat.zero_lt_one
  grow (d : Int) xs := by
    show xs.length ≤ (xs ++ [d]).length
    rw [List.length_append]; omega
  tell d xs := .inl rfl
theorem vloop_grow {α : Type} {view : α → List Int → List Int} (h : ∀ d (xs : List Int), xs.length ≤ (view d xs).length) : ∀ (ds : List α) (xs : List Int), xs.length ≤ (vloop view ds xs).length
  | [], xs => Nat.le_refl _
  | d :: ds, xs => by
    unfold vloop
    split
    · exact Nat.le_trans (h d xs) (vloop_grow h ds _)
    · exact Nat.le_refl _
theorem vloop_tell {α : Type} {view : α → List Int → List Int} {flat : α → List Int} (hg : ∀ d (xs : List Int), xs.length ≤ (view d xs).length) (h : ∀ d xs, view d xs = xs ++ flat d ∨ 200000 ≤ (view d xs).length) :
    ∀ (ds : List α) (xs : List Int), vloop view ds xs = xs ++ ds.flatMap flat ∨ 200000 ≤ (vloop view ds xs).length
  | [], xs => .inl (by simp [vloop])
  | d :: ds, xs => by
    unfold vloop
    split
    · rcases h d xs with h1 | h1
      · rw [h1]
        rcases vloop_tell hg h ds (xs ++ flat d) with h2 | h2
        · exact .inl (by rw [h2]; simp)
        · exact .inr h2
      · exact .inr (Nat.le_trans h1 (vloop_grow hg ds _))
    · exact .inr (by omega)
def fSlice {K : Kind} (f : Flat K) : Flat (kSlice K) where
  flat ds := (ds.length : Int) :: List.flatMap f.flat ds
  pos _ := by simp
  grow ds xs := by
    have := vloop_grow f.grow ds (xs ++ [(ds.length : Int)])
    simp at this
    show xs.length ≤ (vloop K.view ds (xs ++ [(ds.length : Int)])).length
    omega
  tell ds xs := by
    rcases vloop_tell f.grow f.tell ds (xs ++ [(ds.length : Int)]) with h | h
    · exact .inl (by show vloop K.view ds _ = _; rw [h]; simp)
    · exact .inr h
def fPair {K L : Kind} (f : Flat K) (g : Flat L) : Flat (kPair K L) where
  flat d := f.flat d.1 ++ g.flat d.2
  pos d := by have := f.pos d.1; simp; omega
  grow d xs := Nat.le_trans (f.grow d.1 xs) (g.grow d.2 _)
  tell d xs := by
    show L.view d.2 (K.view d.1 xs) = _ ∨ 200000 ≤ (L.view d.2 (K.view d.1 xs)).length
    rcases f.tell d.1 xs with h | h
    · rw [h]
      rcases g.tell d.2 (xs ++ f.flat d.1) with h2 | h2
      · exact .inl (by rw [h2]; simp)
      · exact .inr h2
    · exact .inr (Nat.le_trans h (g.grow d.2 _))
theorem Flat.small {K : Kind} (f : Flat K) {d : K.Data} {n : Nat} (h : (K.view d []).length ≤ n) (hn : n < 200000) : (f.flat d).length ≤ n := by
  rcases f.tell d [] with h1 | h1
  · rw [h1] at h; simpa using h
  · omega
theorem flat_slice_len {K : Kind} (f : Flat K) (ds : List K.Data) {n : Nat} (h : ((fSlice f).flat ds).length ≤ n) : ds.length ≤ n ∧ ∀ d ∈ ds, (f.flat d).length ≤ n := by
  have h1 : (List.flatMap f.flat ds).length + 1 ≤ n := by
    have : ((ds.length : Int) :: List.flatMap f.flat ds).length ≤ n := h
    simpa using this
  clear h
  have key : ∀ ds : List K.Data, ds.length ≤ (List.flatMap f.flat ds).length ∧ ∀ d ∈ ds, (f.flat d).length ≤ (List.flatMap f.flat ds).length := by
    intro ds
    induction ds with
    | nil => simp
    | cons a r ih =>
      have hp := f.pos a
      rw [List.flatMap_cons, List.length_append]
      have h5 := ih.1
      refine ⟨by rw [List.length_cons]; omega, fun d hd => ?_⟩
      rcases List.mem_cons.1 hd with rfl | hd
      · exact Nat.le_add_right _ _
      · exact Nat.le_trans (ih.2 d hd) (Nat.le_add_left _ _)
  exact ⟨by have := (key ds).1; omega, fun d hd => by have := (key ds).2 d hd; omega⟩
theorem flat_pair {K L : Kind} (f : Flat K) (g : Flat L) (d : K.Data × L.Data) {n : Nat} (h : ((fPair f g).flat d).length ≤ n) : (f.flat d.1).length ≤ n ∧ (g.flat d.2).length ≤ n := by
  have h1 : (f.flat d.1 ++ g.flat d.2).length ≤ n := h
  rw [List.length_append] at h1
  exact ⟨by omega, by omega⟩

/-- Cells that hold data wherever they are laid. -/
def HoldsAs (K : Kind) (w : World) (cells : List Value) (d : K.Data) (F : Nat → Prop) : Prop :=
  ∀ (w' : World) (b o : Nat), (∀ k, F k → w'.heap[k]? = w.heap[k]?) → (∀ j u, cells[j]? = some u → w'.cell? ⟨b, o + j, none⟩ = some u ∧ w'.frozen? ⟨b, o + j, none⟩ = false) → K.Holds w' b o d (fun k => F k ∨ k = b)
theorem HoldsAs.same {K : Kind} {w w' : World} {cells : List Value} {d : K.Data} {F : Nat → Prop} (h : HoldsAs K w cells d F) (hw : ∀ k, F k → w'.heap[k]? = w.heap[k]?) : HoldsAs K w' cells d F :=
  fun w2 b o h1 h2 => h w2 b o (fun k hk => (h1 k hk).trans (hw k hk)) h2
theorem HoldsAs.mono {K : Kind} {w : World} {cells : List Value} {d : K.Data} {F G : Nat → Prop} (h : HoldsAs K w cells d F) (hw : ∀ k, F k → G k) : HoldsAs K w cells d G :=
  fun w2 b o h1 h2 => K.mono (h w2 b o (fun k hk => h1 k (hw k hk)) h2) fun k hk => hk.imp (hw k) id
theorem holdsAs_int (k : IntKind) (w : World) (x : Int) (F : Nat → Prop) : HoldsAs (kInt k) w [.int k x] x F :=
  fun w2 b o _ h2 => by
    obtain ⟨h3, h4⟩ := h2 0 _ rfl
    exact ⟨h3, h4, .inr rfl⟩
theorem holdsAs_slice {K : Kind} {w : World} {A : Option Addr} {c : Nat} {ds : List K.Data} {F : Nat → Prop} (h : Elems K w A ds F) (hl : ds.length ≤ maxLen) : HoldsAs (kSlice K) w [.slice A ds.length c] ds F :=
  fun w2 b o h1 h2 => by
    obtain ⟨h3, h4⟩ := h2 0 _ rfl
    exact ⟨A, c, h3, h4, .inr rfl, fun i d hd => let ⟨g, s, e1, e2⟩ := h.same h1 i d hd; ⟨g, s, e1, K.mono e2 fun k hk => .inl hk⟩, hl⟩
theorem holdsAs_pair {K L : Kind} {w : World} {cs cs' : List Value} {d : K.Data} {e : L.Data} {F : Nat → Prop} (h : HoldsAs K w cs d F) (h' : HoldsAs L w cs' e F) (hl : cs.length = K.size) : HoldsAs (kPair K L) w (cs ++ cs') (d, e) F :=
  fun w2 b o h1 h2 => by
    refine ⟨h w2 b o h1 fun j u hj => h2 j u ?_, h' w2 b (o + K.size) h1 fun j u hj => ?_⟩
    · have : j < cs.length := (List.getElem?_eq_some_iff.1 hj).1
      rw [List.getElem?_append_left this]; exact hj
    · have := h2 (K.size + j) u (by rw [List.getElem?_append_right (by omega), hl, Nat.add_sub_cancel_left]; exact hj)
      rw [Nat.add_assoc]; exact this
/-- The blocks made meanwhile. -/
def Fresh (w w' : World) : Nat → Prop := fun k => w.heap.size ≤ k ∧ k < w'.heap.size
/-- What comes of 'own' of a slice. -/
def OwnSlice (K : Kind) (ds : List K.Data) (w : World) (e : Ending) (w' : World) : Prop :=
  ∃ A c, e = .returned (.slice A ds.length c) ∧ Elems K w' A ds (Fresh w w') ∧ Below w.heap.size w w'
theorem below_of_grown {w w' : World} (h : w.grownBy w' none) : Below w.heap.size w w' :=
  ⟨h.os, h.tape, h.output, h.size, fun k hk => h.block k hk (by simp)⟩
theorem ownSlice_of_copy {ti : TypeId} {w w' : World} {e : Ending} {xs : List Int} (h : CopyPost ti 1 xs.length (xs.map (.int .i64)) w e w') : OwnSlice (kInt .i64) xs w e w' := by
  obtain ⟨v', rfl, h1, h2⟩ := h
  obtain ⟨A, c, rfl, _, h3⟩ := elems_of_owns h1
  exact ⟨A, c, rfl, h3, below_of_grown h2⟩
/-- The cells of a row of ints, read. -/
theorem reads_of_ints {k : IntKind} {w : World} {A : Option Addr} {xs : List Int} {F : Nat → Prop} (h : Elems (kInt k) w A xs F) : RowReads w A (xs.map (.int k)) := by
  intro hne
  have hx : 0 < xs.length := by cases xs with | nil => exact absurd rfl hne | cons a r => simp
  obtain ⟨g, s, rfl, _⟩ := h 0 xs[0] (List.getElem?_eq_getElem hx)
  refine ⟨_, rfl, fun j u hj => ?_⟩
  rw [List.getElem?_map] at hj
  obtain ⟨x, hx, rfl⟩ := Option.map_eq_some_iff.1 hj
  obtain ⟨g', s', e, h2, _⟩ := h j x hx
  cases e
  have e : j * (kInt k).size = j := Nat.mul_one j
  rw [e] at h2
  unfold Addr.add
  split
  · next h => subst h; exact h2
  · exact h2
theorem one_ints (k : IntKind) (xs : List Int) : ∀ u ∈ xs.map (Value.int k), u.oneCell' = true := by
  intro u hu
  obtain ⟨x, _, rfl⟩ := List.mem_map.1 hu
  rfl
end Go.Hs
namespace Go.Hs
open Go Go.RowKit
/-- The loop of 'own' of a slice of slices: the first k elements are copies. -/
structure RowsRel (K : Kind) (ds : List (List K.Data)) (F : Nat → Prop) (w : World) (g k : Nat) (wr : World) : Prop where
  below : Below w.heap.size w wr
  lo : w.heap.size ≤ g
  hi : g < wr.heap.size
  row : ∀ (i : Nat) row, ds[i]? = some row → ∃ A c, wr.cell? ⟨g, i, none⟩ = some (.slice A row.length c) ∧ wr.frozen? ⟨g, i, none⟩ = false ∧
    (i < k → Elems K wr A row (fun b => w.heap.size ≤ b ∧ b < wr.heap.size ∧ b ≠ g)) ∧ (¬ i < k → Elems K w A row F)
theorem rows_step {K : Kind} {ds : List (List K.Data)} {F : Nat → Prop} {w wr w1 : World} {g k : Nat} {row : List K.Data} {A : Option Addr} {c : Nat} (h : RowsRel K ds F w g k wr) (hd : ds[k]? = some row)
    (he : Elems K w1 A row (Fresh wr w1)) (hb : Below wr.heap.size wr w1) : RowsRel K ds F w g (k + 1) (w1.setCell ⟨g, k, none⟩ (.slice A row.length c)) := by
  have hs : (w1.setCell ⟨g, k, none⟩ (.slice A row.length c)).heap.size = w1.heap.size := setCell_size _ _ _
  have hg1 : ∀ b, b ≠ g → (w1.setCell ⟨g, k, none⟩ (.slice A row.length c)).heap[b]? = w1.heap[b]? := fun b hb => Below.heap_setCell _ _ _ _ hb
  have hgc : ∀ o, w1.cell? ⟨g, o, none⟩ = wr.cell? ⟨g, o, none⟩ := fun o => hb.cell (p := ⟨g, o, none⟩) h.hi
  have hgf : ∀ o, w1.frozen? ⟨g, o, none⟩ = wr.frozen? ⟨g, o, none⟩ := fun o => hb.frozen (p := ⟨g, o, none⟩) h.hi
  have hlo := h.lo
  have hhi := h.hi
  have hsz := hb.size
  refine ⟨(h.below.trans (hb.mono h.below.size)).setCell h.lo _, h.lo, by rw [hs]; omega, fun i r hr => ?_⟩
  obtain ⟨A', c', h1, h2, h3, h4⟩ := h.row i r hr
  by_cases hik : i = k
  · subst hik
    rw [hd] at hr
    cases hr
    refine ⟨A, c, World.cell?_setCell_same _ _ _ ((hgc i).trans h1), ?_, fun _ => ?_, fun h => absurd (Nat.lt_succ_self i) h⟩
    · rw [World.frozen?_setCell, hgf]; exact h2
    · refine Elems.same (w := w1) (fun j d hj => ?_) fun b hb' => hg1 b hb'.2.2
      obtain ⟨g', s', e1, e2⟩ := he j d hj
      refine ⟨g', s', e1, K.mono e2 fun b hb' => ⟨?_, ?_, ?_⟩⟩
      · have := hb'.1; have := h.below.size; omega
      · rw [hs]; exact hb'.2
      · have := hb'.1; omega
  · refine ⟨A', c', ?_, ?_, fun hlt => ?_, fun hlt => h4 (by omega)⟩
    · rw [World.cell?_setCell_other _ _ _ _ (by intro e; cases e; exact hik rfl), hgc]; exact h1
    · rw [World.frozen?_setCell, hgf]; exact h2
    · have h5 := h3 (by omega)
      have h6 : Elems K (w1.setCell ⟨g, k, none⟩ (.slice A row.length c)) A' r (fun b => w.heap.size ≤ b ∧ b < wr.heap.size ∧ b ≠ g) :=
        Elems.same h5 fun b hb' => (hg1 b hb'.2.2).trans (hb.block b hb'.2.1)
      intro j d hj
      obtain ⟨g', s', e1, e2⟩ := h6 j d hj
      exact ⟨g', s', e1, K.mono e2 fun b hb' => ⟨hb'.1, by rw [hs]; omega, hb'.2.2⟩⟩
theorem rows_start {K : Kind} {ds : List (List K.Data)} {F : Nat → Prop} {w w1 : World} {ti : TypeId} {vals : List Value} {g cap n : Nat} {B : Option Addr}
    (hown : w1.ownsRow w.heap.size ti 1 (.slice (some ⟨g, 0, none⟩) n cap) n vals) (hgr : w.grownBy w1 none) (hel : Elems (kSlice K) w B ds F) (hv : ∀ j u, vals[j]? = some u → B.isSome ∧ ∀ ad, B = some ad → w.cell? (ad.add j) = some u) (hl : vals.length = ds.length) : RowsRel K ds F w g 0 w1 := by
  obtain ⟨h1, h2⟩ := hown
  rcases h2 with ⟨h2, _⟩ | ⟨g', cap', cur, h2, h3, h4, h5, h6, h7, h8⟩
  · cases h2
  · cases h2
    have hg : g < w1.heap.size := (Array.getElem?_eq_some_iff.1 h4).1
    refine ⟨below_of_grown hgr, h3, hg, fun i row hr => ?_⟩
    have hi : i < vals.length := by rw [hl]; exact (List.getElem?_eq_some_iff.1 hr).1
    obtain ⟨g0, s0, e1, A, c, e2, e3, e4, e5, e6⟩ := hel i row hr
    have hu : vals[i]? = some vals[i] := List.getElem?_eq_getElem hi
    obtain ⟨_, h9⟩ := hv i vals[i] hu
    have h10 := h9 _ e1
    have h11 : w.cell? ⟨g0, s0 + i * (kSlice K).size, none⟩ = some vals[i] := by
      rw [show i * (kSlice K).size = i from Nat.mul_one i]
      unfold Addr.add at h10
      split at h10
      · next h => subst h; exact h10
      · exact h10
    have h12 : vals[i] = .slice A row.length c := Option.some.inj (h11.symm.trans e2)
    have hcur : cur[i]? = some vals[i] := by
      have h13 : (cur.toList.take (n * 1))[i]? = some vals[i] := by rw [h8]; exact hu
      rw [List.getElem?_take_of_lt (by omega)] at h13
      simpa using h13
    refine ⟨A, c, ?_, ?_, fun h => absurd h (Nat.not_lt_zero _), fun _ => e5⟩
    · rw [← h12]; simp [World.cell?, h4, hcur]
    · simp [World.frozen?, h4]
theorem rows_end {K : Kind} {ds : List (List K.Data)} {F : Nat → Prop} {w wr : World} {g k c : Nat} (h : RowsRel K ds F w g k wr) (hk : k = ds.length) (hm : ∀ d ∈ ds, d.length ≤ maxLen) : OwnSlice (kSlice K) ds w (.returned (.slice (some ⟨g, 0, none⟩) ds.length c)) wr := by
  refine ⟨_, _, rfl, fun i row hr => ⟨g, 0, rfl, ?_⟩, h.below⟩
  obtain ⟨A, c, h1, h2, h3, _⟩ := h.row i row hr
  have hi : i < k := by rw [hk]; exact (List.getElem?_eq_some_iff.1 hr).1
  have e : 0 + i * (kSlice K).size = i := by rw [show i * (kSlice K).size = i from Nat.mul_one i]; omega
  rw [e]
  refine ⟨A, c, h1, h2, ⟨h.lo, h.hi⟩, fun j d hj => ?_, hm row (List.mem_of_getElem? hr)⟩
  obtain ⟨g', s', e1, e2⟩ := h3 hi j d hj
  exact ⟨g', s', e1, K.mono e2 fun b hb => ⟨hb.1, hb.2.1⟩⟩
/-- The cells of a row of slices, read. -/
theorem reads_of_slices {K : Kind} {w : World} {A : Option Addr} {ds : List (List K.Data)} {F : Nat → Prop} (h : Elems (kSlice K) w A ds F) :
    ∃ vals : List Value, vals.length = ds.length ∧ (∀ u ∈ vals, u.oneCell' = true) ∧ RowReads w A vals ∧ ∀ j u, vals[j]? = some u → A.isSome ∧ ∀ ad, A = some ad → w.cell? (ad.add j) = some u := by
  have key : ∀ i : Nat, i < ds.length → ∃ u : Value, u.oneCell' = true ∧ ∃ ad, A = some ad ∧ w.cell? (ad.add i) = some u := by
    intro i hi
    obtain ⟨g, s, rfl, B, c, e2, _⟩ := h i ds[i] (List.getElem?_eq_getElem hi)
    refine ⟨.slice B ds[i].length c, rfl, _, rfl, ?_⟩
    rw [show i * (kSlice K).size = i from Nat.mul_one i] at e2
    unfold Addr.add
    split
    · next h => subst h; exact e2
    · exact e2
  refine ⟨(List.range ds.length).map fun i => if hi : i < ds.length then (key i hi).choose else undef, by simp, fun u hu => ?_, fun hne => ?_, fun j u hj => ?_⟩
  · obtain ⟨i, hi, rfl⟩ := List.mem_map.1 hu
    have hi := List.mem_range.1 hi
    rw [dif_pos hi]
    exact (key i hi).choose_spec.1
  · have h0 : 0 < ds.length := by
      rcases Nat.eq_zero_or_pos ds.length with h0 | h0
      · have hnil : ds = [] := List.length_eq_zero_iff.1 h0
        subst hnil; exact absurd rfl hne
      · exact h0
    obtain ⟨_, _, ad, e1, _⟩ := key 0 h0
    refine ⟨ad, e1, fun j u hj => ?_⟩
    rw [List.getElem?_map] at hj
    obtain ⟨i, hi, rfl⟩ := Option.map_eq_some_iff.1 hj
    obtain ⟨h1, h2⟩ := List.getElem?_eq_some_iff.1 hi
    simp at h1 h2
    subst h2
    rw [dif_pos h1]
    obtain ⟨ad', e3, e4⟩ := (key j h1).choose_spec.2
    rw [e1] at e3; cases e3
    exact e4
  · rw [List.getElem?_map] at hj
    obtain ⟨i, hi, rfl⟩ := Option.map_eq_some_iff.1 hj
    obtain ⟨h1, h2⟩ := List.getElem?_eq_some_iff.1 hi
    simp at h1 h2
    subst h2
    rw [dif_pos h1]
    obtain ⟨ad', e3, e4⟩ := (key j h1).choose_spec.2
    exact ⟨by rw [e3]; rfl, fun ad e => by rw [e3] at e; cases e; exact e4⟩
end Go.Hs
namespace Go.Hs
open Go Go.RowKit
/-- A block that is known whole. -/
theorem block_cell {w : World} {g : Nat} {cs : Array Value} {t : TypeId} (h : w.heap[g]? = some (.cells cs t)) {j : Nat} {u : Value} (hj : cs[j]? = some u) : w.cell? ⟨g, j, none⟩ = some u ∧ w.frozen? ⟨g, j, none⟩ = false := by
  constructor
  · simp [World.cell?, h, hj]
  · simp [World.frozen?, h]
theorem alloc_size (w : World) (o : Obj) : (w.alloc o).heap.size = w.heap.size + 1 := by simp
theorem box1 {w : World} (o : Obj) : (w.alloc o).heap[w.heap.size]? = some o := heap_alloc_new w o
theorem box2 {w : World} (o o' : Obj) : ((w.alloc o).alloc o').heap[w.heap.size]? = some o ∧ ((w.alloc o).alloc o').heap[w.heap.size + 1]? = some o' := by
  refine ⟨?_, ?_⟩
  · rw [Below.heap_alloc _ _ _ (by simp)]; exact heap_alloc_new w o
  · have := heap_alloc_new (w.alloc o) o'
    rw [alloc_size] at this
    exact this
theorem heap_alloc2 {w : World} (o o' : Obj) {k : Nat} (hk : k < w.heap.size) : ((w.alloc o).alloc o').heap[k]? = w.heap[k]? := by
  rw [Below.heap_alloc _ _ _ (by simp; omega), Below.heap_alloc _ _ _ hk]
theorem alloc2_le (w : World) (o o' : Obj) : w.heap.size ≤ ((w.alloc o).alloc o').heap.size := by simp; omega
/-- Both boxes, behind a call that leaves what was there. -/
theorem boxes2 {w w2 : World} {o o' : Array Value} {t t' : TypeId} (hb : Below ((w.alloc (.cells o t)).alloc (.cells o' t')).heap.size ((w.alloc (.cells o t)).alloc (.cells o' t')) w2) :
    (∀ j u, o[j]? = some u → w2.cell? ⟨w.heap.size, j, none⟩ = some u ∧ w2.frozen? ⟨w.heap.size, j, none⟩ = false) ∧
    (∀ j u, o'[j]? = some u → w2.cell? ⟨w.heap.size + 1, j, none⟩ = some u ∧ w2.frozen? ⟨w.heap.size + 1, j, none⟩ = false) ∧ w.heap.size + 2 ≤ w2.heap.size := by
  have hs : ((w.alloc (.cells o t)).alloc (.cells o' t')).heap.size = w.heap.size + 2 := by simp
  have h1 : w2.heap[w.heap.size]? = some (.cells o t) := (hb.block _ (by rw [hs]; omega)).trans (box2 _ _).1
  have h2 : w2.heap[w.heap.size + 1]? = some (.cells o' t') := (hb.block _ (by rw [hs]; omega)).trans (box2 _ _).2
  refine ⟨fun j u hj => block_cell h1 hj, fun j u hj => block_cell h2 hj, ?_⟩
  have := hb.size
  omega
end Go.Hs
namespace Go.Hs
open Go Go.RowKit
theorem elems_set {K : Kind} {w : World} {A : Option Addr} {ds : List K.Data} {F : Nat → Prop} (h : Elems K w A ds F) {a : Addr} {u : Value} (ha : ¬ F a.block) : Elems K (w.setCell a u) A ds F :=
  h.same fun _k hk => Below.heap_setCell _ _ _ _ fun e => ha (e ▸ hk)
theorem elems_mono {K : Kind} {w : World} {A : Option Addr} {ds : List K.Data} {F G : Nat → Prop} (h : Elems K w A ds F) (hFG : ∀ k, F k → G k) : Elems K w A ds G :=
  fun i d hd => let ⟨g, s, e1, e2⟩ := h i d hd; ⟨g, s, e1, K.mono e2 hFG⟩
end Go.Hs
namespace Go.Hs
open Go Go.RowKit
theorem frozen_cells {w : World} {g : Nat} {cs : Array Value} {t : TypeId} (h : w.heap[g]? = some (.cells cs t)) (o : Nat) : w.frozen? ⟨g, o, none⟩ = false := by
  simp [World.frozen?, h]
/-- A result: the function that sees it, the variable that it lies in, its data. -/
structure Res (P : Program) (ti : TypeId) where
  K : Kind
  g : FuncId
  sees : SeesL 700000 P ti g K
  over : K.over ≤ 1000
  run : ∀ args w, (callFunc g args).run P w = .ok (.enter g args) w
  b : Nat
  d : K.Data
  F : Nat → Prop
def FuncRow {P : Program} {ti : TypeId} (w : World) (A : Option Addr) (rs : List (Res P ti)) : Prop :=
  ∀ (i : Nat) r, rs[i]? = some r → ∃ g s, A = some ⟨g, s, none⟩ ∧ w.cell? ⟨g, s + i, none⟩ = some (.func (.func r.g) #[] #[.pointer (some ⟨r.b, 0, none⟩)])
def views {P : Program} {ti : TypeId} (rs : List (Res P ti)) : List (List Int) := rs.map fun r => r.K.view r.d []
def LookPost {P : Program} {ti : TypeId} (rs : List (Res P ti)) (w : World) (e : Ending) (w' : World) : Prop :=
  ∃ B c, e = .returned (.slice B rs.length c) ∧ Elems kEye w' B (views rs) (Fresh w w') ∧ Below w.heap.size w w'
/-- An eye that has seen nothing. -/
def Blind (w : World) (b o : Nat) : Prop :=
  w.cell? ⟨b, o, none⟩ = some (.slice none 0 0) ∧ w.cell? ⟨b, o + 1, none⟩ = some (.slice none 0 0) ∧ w.cell? ⟨b, o + 2, none⟩ = some (.bool false) ∧ w.cell? ⟨b, o + 3, none⟩ = some (.int .i64 0) ∧ ∀ j, j < 4 → w.frozen? ⟨b, o + j, none⟩ = false
theorem eye_of_blind {ti : TypeId} {w : World} {b o : Nat} (h : Blind w b o) (base : Nat) : Eye ti w b o false base [] :=
  ⟨_, 0, h.1, h.2.1, h.2.2.1, h.2.2.2.1, h.2.2.2.2, World.ownsRow_nil _ _ _ _⟩
/-- What an eye has seen; its row lies in R. -/
def EyeHas (w : World) (b o : Nat) (xs : List Int) (R : Nat → Prop) : Prop :=
  ∃ A c m n, w.cell? ⟨b, o, none⟩ = some (.slice A xs.length c) ∧ w.frozen? ⟨b, o, none⟩ = false ∧ Elems (kInt .i64) w A xs R ∧ xs.length ≤ maxLen ∧ w.cell? ⟨b, o + 1, none⟩ = some (.slice none 0 0) ∧ w.cell? ⟨b, o + 2, none⟩ = some (.bool m) ∧ w.cell? ⟨b, o + 3, none⟩ = some (.int .i64 n)
theorem EyeHas.holds {w : World} {b o : Nat} {xs : List Int} {R F : Nat → Prop} (h : EyeHas w b o xs R) (hR : ∀ k, R k → F k) (hb : F b) : kEye.Holds w b o xs F := by
  obtain ⟨A, c, m, n, h0, h1, h2, h3, h4, h5, h6⟩ := h
  exact ⟨⟨A, c, h0, h1, hb, elems_mono h2 hR, h3⟩, h4, ⟨m, h5⟩, n, h6⟩
theorem has_of_eye {ti : TypeId} {w : World} {b o : Nat} {mk : Bool} {base : Nat} {xs : List Int} (h : Eye ti w b o mk base xs) (hl : xs.length ≤ maxLen) : EyeHas w b o xs (fun k => base ≤ k ∧ k < w.heap.size) := by
  obtain ⟨v, n, h0, h1, h2, h3, hf, hown⟩ := h
  obtain ⟨A, c, rfl, _, hel⟩ := elems_of_owns hown
  exact ⟨A, c, mk, n, h0, hf 0 (by omega), hel, hl, h1, h2, h3⟩
theorem EyeHas.mono {w : World} {b o : Nat} {xs : List Int} {R R' : Nat → Prop} (h : EyeHas w b o xs R) (hR : ∀ k, R k → R' k) : EyeHas w b o xs R' := by
  obtain ⟨A, c, m, n, h0, h1, h2, h3, h4, h5, h6⟩ := h
  exact ⟨A, c, m, n, h0, h1, elems_mono h2 hR, h3, h4, h5, h6⟩
/-- The loop of 'look'. -/
structure LookRel {P : Program} {ti : TypeId} (rs : List (Res P ti)) (w : World) (bo k : Nat) (wr : World) : Prop where
  below : Below w.heap.size w wr
  lo : w.heap.size ≤ bo
  hi : bo < wr.heap.size
  done : ∀ (i : Nat) r, rs[i]? = some r → i < k → EyeHas wr bo (i * 4) (r.K.view r.d []) (fun b => w.heap.size ≤ b ∧ b < wr.heap.size ∧ b ≠ bo)
  rest : ∀ i, i < rs.length → ¬ i < k → Blind wr bo (i * 4)
theorem look_step {P : Program} {ti : TypeId} {rs : List (Res P ti)} {w wr w' : World} {bo k : Nat} {r : Res P ti} (h : LookRel rs w bo k wr) (hr : rs[k]? = some r)
    (hp : ∃ xs', Eye ti w' bo (k * 4) false wr.heap.size xs' ∧ (false = false → xs' = r.K.view r.d []) ∧ xs'.length ≤ max 0 200000 + r.K.over ∧ EyeFrame wr.heap.size bo (k * 4) (MF false r.F) wr w' ∧ Marked r.F wr w') :
    LookRel rs w bo (k + 1) w' := by
  obtain ⟨xs', h1, h2, h3, h4, _⟩ := hp
  have h2 := h2 rfl
  subst h2
  have hov := r.over
  have hk : k < rs.length := (List.getElem?_eq_some_iff.1 hr).1
  have hsz := h4.size
  have hhi := h.hi
  have hbs := h.below.size
  have blk : ∀ b, b < wr.heap.size → b ≠ bo → w'.heap[b]? = wr.heap[b]? := fun b hb hne => h4.block b hb hne fun h => by cases h.1
  refine ⟨⟨h4.os.trans h.below.os, h4.tape.trans h.below.tape, h4.output.trans h.below.output, by omega, fun b hb => (blk b (by omega) (by have := h.lo; omega)).trans (h.below.block b hb)⟩, h.lo, by omega, fun i r' hr' hi => ?_, fun i hi hik => ?_⟩
  · by_cases hik : i = k
    · subst hik
      rw [hr] at hr'; cases hr'
      exact (has_of_eye h1 (by unfold maxLen; omega)).mono fun b hb => ⟨by have := hb.1; omega, hb.2, by have := hb.1; omega⟩
    · obtain ⟨A, c, m, n, e1, e2, e4, e5, f1, f2, f3⟩ := h.done i r' hr' (by omega)
      have oth : ∀ j, j < 4 → w'.cell? ⟨bo, i * 4 + j, none⟩ = wr.cell? ⟨bo, i * 4 + j, none⟩ := fun j hj => h4.other _ fun j' hj' => by omega
      have hfr : ∀ o, w'.frozen? ⟨bo, o, none⟩ = wr.frozen? ⟨bo, o, none⟩ := h4.froz
      have o0 := oth 0 (by omega)
      have o1 := oth 1 (by omega)
      have o2 := oth 2 (by omega)
      have o3 := oth 3 (by omega)
      rw [Nat.add_zero] at o0
      exact ⟨A, c, m, n, o0.trans e1, (hfr _).trans e2, elems_mono (e4.same fun b hb => blk b hb.2.1 hb.2.2) fun b hb => ⟨hb.1, by have := hb.2.1; omega, hb.2.2⟩, e5, o1.trans f1, o2.trans f2, o3.trans f3⟩
  · have oth : ∀ j, j < 4 → w'.cell? ⟨bo, i * 4 + j, none⟩ = wr.cell? ⟨bo, i * 4 + j, none⟩ := fun j hj => h4.other _ fun j' hj' => by omega
    obtain ⟨b0, b1, b2, b3, b4⟩ := h.rest i hi (by omega)
    have o0 := oth 0 (by omega)
    rw [Nat.add_zero] at o0
    exact ⟨o0.trans b0, (oth 1 (by omega)).trans b1, (oth 2 (by omega)).trans b2, (oth 3 (by omega)).trans b3, fun j hj => (h4.froz _).trans (b4 j hj)⟩
theorem look_end {P : Program} {ti : TypeId} {rs : List (Res P ti)} {w wr : World} {bo k c : Nat} (h : LookRel rs w bo k wr) (hk : k = rs.length) : LookPost rs w (.returned (.slice (some ⟨bo, 0, none⟩) rs.length c)) wr := by
  refine ⟨_, c, rfl, fun i (xs : List Int) (hx : (rs.map fun r => r.K.view r.d [])[i]? = some xs) => ⟨bo, 0, rfl, ?_⟩, h.below⟩
  rw [List.getElem?_map] at hx
  obtain ⟨r, hr, rfl⟩ := Option.map_eq_some_iff.1 hx
  have hi : i < k := by rw [hk]; exact (List.getElem?_eq_some_iff.1 hr).1
  have e : 0 + i * kEye.size = i * 4 := Nat.zero_add _
  rw [e]
  exact (h.done i r hr hi).holds (fun b hb => ⟨hb.1, hb.2.1⟩) ⟨h.lo, h.hi⟩
/-- The eyes that 'make' lays. -/
theorem look_start {P : Program} {ti : TypeId} {rs : List (Res P ti)} {w : World} {cs : Array Value} {t : TypeId} (hcs : ∀ i, i < rs.length → cs[i * 4]? = some (.slice none 0 0) ∧ cs[i * 4 + 1]? = some (.slice none 0 0) ∧ cs[i * 4 + 2]? = some (.bool false) ∧ cs[i * 4 + 3]? = some (.int .i64 0)) :
    LookRel rs w w.heap.size 0 (w.alloc (.cells cs t)) := by
  refine ⟨(Below.refl _ _).alloc (Nat.le_refl _) _, Nat.le_refl _, by simp, fun i r hr hi => absurd hi (Nat.not_lt_zero _), fun i hi _ => ?_⟩
  obtain ⟨h0, h1, h2, h3⟩ := hcs i hi
  have hb := box1 (w := w) (.cells cs t)
  refine ⟨(block_cell hb h0).1, (block_cell hb h1).1, (block_cell hb h2).1, (block_cell hb h3).1, fun j hj => ?_⟩
  exact frozen_cells hb _
end Go.Hs
namespace Go.Hs
open Go Go.RowKit
theorem EyeHas.keep {w w' : World} {b o : Nat} {xs : List Int} {R : Nat → Prop} (h : EyeHas w b o xs R) (hb : w'.heap[b]? = w.heap[b]?) (hs : ∀ k, R k → w'.heap[k]? = w.heap[k]?) : EyeHas w' b o xs R := by
  obtain ⟨A, c, m, n, h0, h1, h2, h3, h4, h5, h6⟩ := h
  exact ⟨A, c, m, n, (World.cell?_of_block hb).trans h0, (World.frozen?_of_block hb).trans h1, h2.same hs, h3, (World.cell?_of_block hb).trans h4, (World.cell?_of_block hb).trans h5, (World.cell?_of_block hb).trans h6⟩
/-- At the head of the calls' loop: the argument, the first eye. -/
structure Outer (K : Kind) (w wr : World) (b0 b1 : Nat) (xs : Array Value) (t : TypeId) (d : K.Data) (F0 : Nat → Prop) (V : List Int) : Prop where
  below : Below w.heap.size w wr
  box : wr.heap[b0]? = some (.cells xs t)
  x : K.Holds wr b0 0 d F0
  f0 : ∀ k, F0 k → k < wr.heap.size
  eye : EyeHas wr b1 0 V (fun k => k < wr.heap.size)
  lt : b1 < wr.heap.size
theorem Outer.ext {K : Kind} {w wr wr' : World} {b0 b1 : Nat} {xs : Array Value} {t : TypeId} {d : K.Data} {F0 : Nat → Prop} {V : List Int} (h : Outer K w wr b0 b1 xs t d F0 V) (hb : Below wr.heap.size wr wr') : Outer K w wr' b0 b1 xs t d F0 V := by
  have hz := hb.size
  exact ⟨h.below.trans (hb.mono h.below.size), (hb.block _ (Array.getElem?_eq_some_iff.1 h.box).1).trans h.box, K.same h.x fun k hk => hb.block k (h.f0 k hk), fun k hk => by have := h.f0 k hk; omega,
    (h.eye.keep (hb.block _ h.lt) fun k hk => hb.block k hk).mono fun k hk => Nat.lt_of_lt_of_le hk hz, by have := h.lt; omega⟩
theorem outer_start {ti : TypeId} {K : Kind} {w w1 : World} {xs es : Array Value} {t te : TypeId} {d : K.Data} {F : Nat → Prop} {e : Ending} (hx : HoldsAs K w xs.toList d F) (hF : ∀ k, F k → k < w.heap.size) (hov : K.over ≤ 1000)
    (h : SeePost ti (w.heap.size + 1) 0 false (w.heap.size + 2) 0 K.over (fun k => F k ∨ k = w.heap.size) (K.view d []) ((w.alloc (.cells xs t)).alloc (.cells es te)) e w1) :
    e = .returned (.tuple #[]) ∧ Outer K w w1 w.heap.size (w.heap.size + 1) xs t d (fun k => F k ∨ k = w.heap.size) (K.view d []) ∧ (K.view d []).length ≤ 300000 := by
  obtain ⟨rfl, ys, h1, h2, h3, h4, _⟩ := h
  have h2 := h2 rfl
  subst h2
  have hs : ((w.alloc (.cells xs t)).alloc (.cells es te)).heap.size = w.heap.size + 2 := by simp
  have hz := h4.size
  rw [hs] at hz
  have blk : ∀ k, k < w.heap.size + 2 → k ≠ w.heap.size + 1 → w1.heap[k]? = ((w.alloc (.cells xs t)).alloc (.cells es te)).heap[k]? := fun k hk hne => h4.block k hk hne fun h => by cases h.1
  have hbox : w1.heap[w.heap.size]? = some (.cells xs t) := (blk _ (by omega) (by omega)).trans (box2 _ _).1
  refine ⟨rfl, ⟨⟨h4.os, h4.tape, h4.output, by omega, fun k hk => (blk k (by omega) (by omega)).trans (heap_alloc2 _ _ hk)⟩, hbox, ?_, fun k hk => ?_, (has_of_eye h1 (by unfold maxLen; omega)).mono fun k hk => hk.2, by omega⟩, by omega⟩
  · refine hx w1 w.heap.size 0 (fun k hk => (blk k (by have := hF k hk; omega) (by have := hF k hk; omega)).trans (heap_alloc2 _ _ (hF k hk))) fun j u hj => ?_
    rw [Nat.zero_add]
    exact block_cell hbox (by simpa using hj)
  · rcases hk with hk | rfl
    · have := hF k hk; omega
    · omega
/-- What comes of one of the calls. -/
def ResPost (P : Program) (ti : TypeId) (w : World) (e : Ending) (w' : World) : Prop :=
  ∃ (A : Option Addr) (c : Nat) (rs : List (Res P ti)), e = .returned (.slice A rs.length c) ∧ rs.length ≤ 1000 ∧ FuncRow w' A rs ∧ (∀ ad, A = some ad → Fresh w w' ad.block ∧ ∀ r ∈ rs, ¬ r.F ad.block) ∧ (∀ r ∈ rs, r.K.Holds w' r.b 0 r.d r.F ∧ ∀ k, r.F k → Fresh w w' k) ∧
    (∀ (i j : Nat) r s, rs[i]? = some r → rs[j]? = some s → i ≠ j → ∀ k, r.F k → ¬ s.F k) ∧ Below w.heap.size w w'
def CallOK (P : Program) (ti : TypeId) (K : Kind) (small : K.Data → Prop) (f : FuncId) : Prop :=
  ∀ (w : World) (b : Nat) (d : K.Data) (F : Nat → Prop), K.Holds w b 0 d F → (∀ k, F k → k < w.heap.size) → small d → Calls P f #[.pointer (some ⟨b, 0, none⟩)] w (ResPost P ti w)
/-- In the midst of a round: the copy, its results; all of them below N. -/
structure Sit {P : Program} {ti : TypeId} (K : Kind) (wr W : World) (N yb : Nat) (d : K.Data) (Fy : Nat → Prop) (A : Option Addr) (rs : List (Res P ti)) : Prop where
  below : Below wr.heap.size wr W
  nW : N ≤ W.heap.size
  rN : wr.heap.size ≤ N
  y : K.Holds W yb 0 d Fy
  fy : ∀ k, Fy k → wr.heap.size ≤ k ∧ k < N
  row : FuncRow W A rs
  ab : ∀ ad, A = some ad → wr.heap.size ≤ ad.block ∧ ad.block < N ∧ ¬ Fy ad.block ∧ ∀ r ∈ rs, ¬ r.F ad.block
  res : ∀ r ∈ rs, r.K.Holds W r.b 0 r.d r.F
  rb : ∀ r ∈ rs, ∀ k, r.F k → wr.heap.size ≤ k ∧ k < N ∧ ¬ Fy k
  dis : ∀ (i j : Nat) r s, rs[i]? = some r → rs[j]? = some s → i ≠ j → ∀ k, r.F k → ¬ s.F k
section
variable {P : Program} {ti : TypeId} {K : Kind} {wr W W' : World} {N yb : Nat} {d : K.Data} {Fy : Nat → Prop} {A : Option Addr} {rs : List (Res P ti)}
theorem Sit.rowKeep (h : Sit K wr W N yb d Fy A rs) (hs : ∀ ad, A = some ad → W'.heap[ad.block]? = W.heap[ad.block]?) : FuncRow W' A rs := fun i r hr => by
  obtain ⟨g, s, rfl, h1⟩ := h.row i r hr
  exact ⟨g, s, rfl, (World.cell?_of_block (a := ⟨g, s + i, none⟩) (hs ⟨g, s, none⟩ rfl)).trans h1⟩
theorem Sit.keep (h : Sit K wr W N yb d Fy A rs) (hos : W'.os = W.os) (ht : W'.tape = W.tape) (ho : W'.output = W.output) (hsz : W.heap.size ≤ W'.heap.size)
    (hs : ∀ k, k < N → W'.heap[k]? = W.heap[k]?) : Sit K wr W' N yb d Fy A rs := by
  have hb := h.rN
  exact ⟨⟨hos.trans h.below.os, ht.trans h.below.tape, ho.trans h.below.output, Nat.le_trans h.below.size hsz, fun k hk => (hs k (by omega)).trans (h.below.block k hk)⟩, Nat.le_trans h.nW hsz, h.rN, K.same h.y fun k hk => hs k (h.fy k hk).2, h.fy,
    h.rowKeep fun ad e => hs _ (h.ab ad e).2.1, h.ab, fun r hr => r.K.same (h.res r hr) fun k hk => hs k (h.rb r hr k hk).2.1, h.rb, h.dis⟩
theorem Sit.ext (h : Sit K wr W N yb d Fy A rs) (hb : Below W.heap.size W W') : Sit K wr W' N yb d Fy A rs :=
  h.keep hb.os hb.tape hb.output hb.size fun k hk => hb.block k (Nat.lt_of_lt_of_le hk h.nW)
/-- An eye of its own looks at what it likes, with no mark. -/
theorem Sit.look (h : Sit K wr W N yb d Fy A rs) {base eb eo : Nat} {F : Nat → Prop} (hf : EyeFrame base eb eo (MF false F) W W') (hb : N ≤ base) (he : N ≤ eb) : Sit K wr W' N yb d Fy A rs :=
  h.keep hf.os hf.tape hf.output hf.size fun k hk => hf.block k (by omega) (by omega) fun h => by cases h.1
/-- The copy is written over. -/
theorem Sit.markY (h : Sit K wr W N yb d Fy A rs) {base eb eo : Nat} (hf : EyeFrame base eb eo (MF true Fy) W W') (hm : Marked Fy W W') (hb : N ≤ base) (he : N ≤ eb) : ∃ d', Sit K wr W' N yb d' Fy A rs := by
  obtain ⟨d', hy⟩ := K.mark h.y hm
  have hr := h.rN
  have hs : ∀ k, k < N → ¬ Fy k → W'.heap[k]? = W.heap[k]? := fun k h1 h3 => hf.block k (by omega) (by omega) fun h => h3 h.2
  exact ⟨d', ⟨hf.os.trans h.below.os, hf.tape.trans h.below.tape, hf.output.trans h.below.output, Nat.le_trans h.below.size hf.size, fun k hk => (hs k (by omega) fun hx => by have := (h.fy k hx).1; omega).trans (h.below.block k hk)⟩, Nat.le_trans h.nW hf.size, h.rN, hy, h.fy,
    h.rowKeep fun ad e => hs _ (h.ab ad e).2.1 (h.ab ad e).2.2.1, h.ab,
    fun r hr => r.K.same (h.res r hr) fun k hk => hs k (h.rb r hr k hk).2.1 (h.rb r hr k hk).2.2, h.rb, h.dis⟩
/-- The same results but for one's data. -/
def setD (rs : List (Res P ti)) (k : Nat) (r : Res P ti) (d' : r.K.Data) : List (Res P ti) := rs.set k { r with d := d' }
theorem setD_at {k : Nat} {r : Res P ti} {d' : r.K.Data} (hr : rs[k]? = some r) {i : Nat} {s : Res P ti} (hs : (setD rs k r d')[i]? = some s) : (i = k ∧ s = { r with d := d' }) ∨ (i ≠ k ∧ rs[i]? = some s) := by
  unfold setD at hs
  by_cases h : i = k
  · subst h
    rw [List.getElem?_set_self (List.getElem?_eq_some_iff.1 hr).1] at hs
    cases hs
    exact .inl ⟨rfl, rfl⟩
  · rw [List.getElem?_set_ne (Ne.symm h)] at hs
    exact .inr ⟨h, hs⟩
theorem setD_mem {k : Nat} {r : Res P ti} {d' : r.K.Data} (hr : rs[k]? = some r) {s : Res P ti} (hs : s ∈ setD rs k r d') : ∃ t ∈ rs, t.F = s.F := by
  obtain ⟨i, hi⟩ := List.mem_iff_getElem?.1 hs
  rcases setD_at hr hi with ⟨_, rfl⟩ | ⟨_, h⟩
  · exact ⟨r, List.mem_of_getElem? hr, rfl⟩
  · exact ⟨s, List.mem_of_getElem? h, rfl⟩
/-- One result is written over. -/
theorem Sit.markR (h : Sit K wr W N yb d Fy A rs) {base eb eo k0 : Nat} {r : Res P ti} (hr : rs[k0]? = some r) (hf : EyeFrame base eb eo (MF true r.F) W W') (hm : Marked r.F W W') (hb : N ≤ base) (he : N ≤ eb) :
    ∃ d', Sit K wr W' N yb d Fy A (setD rs k0 r d') := by
  have hmem := List.mem_of_getElem? hr
  obtain ⟨d', hy⟩ := r.K.mark (h.res r hmem) hm
  have hrN := h.rN
  have hs : ∀ k, k < N → ¬ r.F k → W'.heap[k]? = W.heap[k]? := fun k h1 h3 => hf.block k (by omega) (by omega) fun h => h3 h.2
  refine ⟨d', ⟨hf.os.trans h.below.os, hf.tape.trans h.below.tape, hf.output.trans h.below.output, Nat.le_trans h.below.size hf.size, fun k hk => (hs k (by omega) fun hx => by have := (h.rb r hmem k hx).1; omega).trans (h.below.block k hk)⟩, Nat.le_trans h.nW hf.size, h.rN,
    K.same h.y fun k hk => hs k (h.fy k hk).2 fun hx => (h.rb r hmem k hx).2.2 hk, h.fy, fun i s hi => ?_, fun ad e => ⟨(h.ab ad e).1, (h.ab ad e).2.1, (h.ab ad e).2.2.1, fun s hs2 => ?_⟩, fun s hs2 => ?_, fun s hs2 k hk => ?_, fun i j s t hi hj hij k hk hk2 => ?_⟩
  · have hrow := h.rowKeep (W' := W') fun ad e => hs _ (h.ab ad e).2.1 ((h.ab ad e).2.2.2 r hmem)
    rcases setD_at hr hi with ⟨rfl, rfl⟩ | ⟨_, h2⟩
    · exact hrow i r hr
    · exact hrow i s h2
  · obtain ⟨t, ht, e2⟩ := setD_mem hr hs2
    rw [← e2]; exact (h.ab ad e).2.2.2 t ht
  · obtain ⟨i, hi⟩ := List.mem_iff_getElem?.1 hs2
    rcases setD_at hr hi with ⟨rfl, rfl⟩ | ⟨hne, h2⟩
    · exact hy
    · exact s.K.same (h.res s (List.mem_of_getElem? h2)) fun k hk => hs k (h.rb s (List.mem_of_getElem? h2) k hk).2.1 (h.dis i k0 s r h2 hr hne k hk)
  · obtain ⟨t, ht, e2⟩ := setD_mem hr hs2
    rw [← e2] at hk
    exact h.rb t ht k hk
  · rcases setD_at hr hi with ⟨rfl, rfl⟩ | ⟨h1, h2⟩ <;> rcases setD_at hr hj with ⟨rfl, rfl⟩ | ⟨h3, h4⟩
    · exact hij rfl
    · exact h.dis _ _ r t hr h4 hij k hk hk2
    · exact h.dis _ _ s r h2 hr hij k hk hk2
    · exact h.dis _ _ s t h2 h4 hij k hk hk2
theorem setD_length {k : Nat} {r : Res P ti} {d' : r.K.Data} : (setD rs k r d').length = rs.length := by simp [setD]
theorem setD_views {k : Nat} {r : Res P ti} {d' : r.K.Data} : ∀ i : Nat, (i : Int) ≠ (k : Int) → (views rs)[i]? = (views (setD rs k r d'))[i]? := by
  intro i hi
  unfold views setD
  rw [List.getElem?_map, List.getElem?_map, List.getElem?_set_ne (by omega)]
theorem Sit.holdsF (h : Sit K wr W N yb d Fy A rs) : ∀ r ∈ rs, ∀ k, r.F k → k < W.heap.size := fun r hr k hk => Nat.lt_of_lt_of_le (h.rb r hr k hk).2.1 h.nW
theorem Sit.rowLt (h : Sit K wr W N yb d Fy A rs) : ∀ ad, A = some ad → ad.block < W.heap.size := fun ad e => Nat.lt_of_lt_of_le (h.ab ad e).2.1 h.nW
/-- The copy is made and asked. -/
theorem sit_start {wa w3 : World} {xs : Array Value} {t : TypeId} {e : Ending} (ha : HoldsAs K wa xs.toList d (Fresh wr wa)) (hb : Below wr.heap.size wr wa) (h : ResPost P ti (wa.alloc (.cells xs t)) e w3) :
    ∃ (A : Option Addr) (c : Nat) (rs : List (Res P ti)), e = .returned (.slice A rs.length c) ∧ rs.length ≤ 1000 ∧ Sit K wr w3 w3.heap.size wa.heap.size d (fun k => Fresh wr wa k ∨ k = wa.heap.size) A rs := by
  obtain ⟨A, c, rs, rfl, h1, h2, h3, h4, h5, h6⟩ := h
  have hs : (wa.alloc (.cells xs t)).heap.size = wa.heap.size + 1 := alloc_size _ _
  have hz := hb.size
  have hz6 := h6.size
  rw [hs] at hz6
  have hbl : ∀ k, k < wa.heap.size → w3.heap[k]? = wa.heap[k]? := fun k hk => (h6.block k (by rw [hs]; omega)).trans (Below.heap_alloc _ _ _ hk)
  have hbox : w3.heap[wa.heap.size]? = some (.cells xs t) := (h6.block _ (by rw [hs]; omega)).trans (box1 _)
  refine ⟨A, c, rs, rfl, h1, ⟨h6.os.trans hb.os, h6.tape.trans hb.tape, h6.output.trans hb.output, by omega, fun k hk => (hbl k (by omega)).trans (hb.block k hk)⟩, Nat.le_refl _, by omega, ?_, fun k hk => ?_, h2, fun ad ead => ?_, fun r hr => (h4 r hr).1, fun r hr k hk => ?_, h5⟩
  · refine ha w3 wa.heap.size 0 (fun k hk => hbl k hk.2) fun j u hj => ?_
    rw [Nat.zero_add]
    exact block_cell hbox (by simpa using hj)
  · rcases hk with hk | rfl
    · exact ⟨hk.1, by have := hk.2; omega⟩
    · exact ⟨hz, by omega⟩
  · obtain ⟨h7, h8⟩ := h3 ad ead
    have h9 := h7.1
    rw [hs] at h9
    exact ⟨by omega, h7.2, (fun hx => hx.elim (fun hx => by have := hx.2; omega) (fun hx => by omega)), h8⟩
  · have h7 := (h4 r hr).2 k hk
    have h9 := h7.1
    rw [hs] at h9
    exact ⟨by omega, h7.2, (fun hx => hx.elim (fun hx => by have := hx.2; omega) (fun hx => by omega))⟩
end
theorem Blind.keep {w w' : World} {b o : Nat} (h : Blind w b o) (hb : w'.heap[b]? = w.heap[b]?) : Blind w' b o :=
  ⟨(World.cell?_of_block hb).trans h.1, (World.cell?_of_block hb).trans h.2.1, (World.cell?_of_block hb).trans h.2.2.1, (World.cell?_of_block hb).trans h.2.2.2.1, fun j hj => (World.frozen?_of_block hb).trans (h.2.2.2.2 j hj)⟩
end Go.Hs
namespace Go.Hs
open Go Go.RowKit
section
variable {P : Program} {ti : TypeId} {K : Kind} {wr : World} {N yb : Nat} {d : K.Data} {Fy : Nat → Prop} {A : Option Addr} {rs : List (Res P ti)}
theorem hold_box {wa : World} {xs : Array Value} {t : TypeId} (ha : HoldsAs K wa xs.toList d (Fresh wr wa)) : K.Holds (wa.alloc (.cells xs t)) wa.heap.size 0 d (fun k => Fresh wr wa k ∨ k = wa.heap.size) :=
  ha _ wa.heap.size 0 (fun _ hk => Below.heap_alloc _ _ _ hk.2) fun j u hj => by
    rw [Nat.zero_add]
    exact block_cell (box1 _) (by simpa using hj)
theorem hold_lt {wa : World} {o : Obj} : ∀ k, (Fresh wr wa k ∨ k = wa.heap.size) → k < (wa.alloc o).heap.size := fun k hk => by
  rw [alloc_size]
  rcases hk with hk | hk
  · have := hk.2; omega
  · omega
abbrev eye0 (mk : Bool) (n : Int) : Array Value := #[.slice none 0 0, .slice none 0 0, .bool mk, .int .i64 n]
theorem eye_of_box {w : World} {g : Nat} {t : TypeId} {mk : Bool} {n : Int} (h : w.heap[g]? = some (.cells (eye0 mk n) t)) (base : Nat) : Eye ti w g 0 mk base [] :=
  ⟨_, n, (block_cell h rfl).1, (block_cell h rfl).1, (block_cell h rfl).1, (block_cell h rfl).1, fun _ _ => frozen_cells h _, World.ownsRow_nil _ _ _ _⟩
theorem blind_of_box {w : World} {g : Nat} {t : TypeId} (h : w.heap[g]? = some (.cells (eye0 false 0) t)) : Blind w g 0 :=
  ⟨(block_cell h rfl).1, (block_cell h rfl).1, (block_cell h rfl).1, (block_cell h rfl).1, fun _ _ => frozen_cells h _⟩
abbrev alloc3 (w : World) (t : TypeId) : World := ((w.alloc (.cells (eye0 false 0) t)).alloc (.cells (eye0 false 0) t)).alloc (.cells (eye0 false 0) t)
theorem alloc3_size (w : World) (t : TypeId) : (alloc3 w t).heap.size = w.heap.size + 3 := by simp [alloc3]
theorem alloc3_box (w : World) (t : TypeId) : (alloc3 w t).heap[w.heap.size]? = some (.cells (eye0 false 0) t) ∧ (alloc3 w t).heap[w.heap.size + 1]? = some (.cells (eye0 false 0) t) ∧ (alloc3 w t).heap[w.heap.size + 2]? = some (.cells (eye0 false 0) t) := by
  refine ⟨?_, ?_, ?_⟩
  · exact (Below.heap_alloc _ _ _ (by simp; omega)).trans (box2 _ _).1
  · exact (Below.heap_alloc _ _ _ (by simp)).trans (box2 _ _).2
  · have := box1 (w := (w.alloc (.cells (eye0 false 0) t)).alloc (.cells (eye0 false 0) t)) (.cells (eye0 false 0) t)
    rw [alloc_size, alloc_size] at this
    exact this
theorem alloc3_below (w : World) (t : TypeId) : Below w.heap.size w (alloc3 w t) := (((Below.refl _ _).alloc (Nat.le_refl _) _).alloc (by simp) _).alloc (by simp; omega) _
/-- The copy is looked at. -/
theorem is_step {t : TypeId} {w3 w5 : World} {e : Ending} (h : Sit K wr w3 w3.heap.size yb d Fy A rs) (hov : K.over ≤ 1000) {F' : Nat → Prop} {V : List Int} (hV : K.view d [] = V)
    (hp : SeePost ti w3.heap.size 0 false (w3.heap.size + 3) 0 K.over F' (K.view d []) (alloc3 w3 t) e w5) :
    e = .returned (.tuple #[]) ∧ Sit K wr w5 w3.heap.size yb d Fy A rs ∧ EyeHas w5 w3.heap.size 0 V (fun k => w3.heap.size + 3 ≤ k ∧ k < w5.heap.size) ∧ Blind w5 (w3.heap.size + 1) 0 ∧ Blind w5 (w3.heap.size + 2) 0 ∧ w3.heap.size + 3 ≤ w5.heap.size := by
  obtain ⟨rfl, ys, h1, h2, h3, h4, _⟩ := hp
  have h2 := h2 rfl
  rw [hV] at h2
  subst h2
  have hz := h4.size
  rw [alloc3_size] at hz
  have blk : ∀ k, k < w3.heap.size + 3 → k ≠ w3.heap.size → w5.heap[k]? = (alloc3 w3 t).heap[k]? := fun k hk hne => h4.block k hk hne fun h => by cases h.1
  refine ⟨rfl, (h.ext (alloc3_below w3 t)).look h4 (by omega) (Nat.le_refl _), has_of_eye h1 (by unfold maxLen; omega), ?_, ?_, hz⟩
  · exact blind_of_box ((blk _ (by omega) (by omega)).trans (alloc3_box w3 t).2.1)
  · exact blind_of_box ((blk _ (by omega) (by omega)).trans (alloc3_box w3 t).2.2)
theorem eye_keepE {N M W : Nat} {w w' : World} {base eb eo b o : Nat} {F : Nat → Prop} {mk : Bool} {xs : List Int} (h : EyeHas w b o xs (fun k => M ≤ k ∧ k < W)) (hM : N ≤ M) (hf : EyeFrame base eb eo (MF mk F) w w') (hF : ∀ k, F k → k < N) (hb : N ≤ b ∧ b < base ∧ b ≠ eb) (hW : W ≤ base) (he : W ≤ eb) :
    EyeHas w' b o xs (fun k => M ≤ k ∧ k < W) :=
  h.keep (hf.block b hb.2.1 hb.2.2 fun h => by have := hF b h.2; omega) fun k hk => hf.block k (by omega) (by omega) fun h => by have := hF k h.2; omega
theorem blind_keepE {N : Nat} {w w' : World} {base eb eo b o : Nat} {F : Nat → Prop} {mk : Bool} (h : Blind w b o) (hf : EyeFrame base eb eo (MF mk F) w w') (hF : ∀ k, F k → k < N) (hb : N ≤ b ∧ b < base ∧ b ≠ eb) : Blind w' b o :=
  h.keep (hf.block b hb.2.1 hb.2.2 fun h => by have := hF b h.2; omega)
theorem elems_keepE {K' : Kind} {N W : Nat} {w w' : World} {base eb eo : Nat} {F : Nat → Prop} {mk : Bool} {B : Option Addr} {xs : List K'.Data} (h : Elems K' w B xs (fun k => N ≤ k ∧ k < W)) (hf : EyeFrame base eb eo (MF mk F) w w') (hF : ∀ k, F k → k < N) (hW : W ≤ base) (he : W ≤ eb) : Elems K' w' B xs (fun k => N ≤ k ∧ k < W) :=
  h.same fun k hk => hf.block k (by omega) (by omega) fun h => by have := hF k h.2; omega
end
end Go.Hs
namespace Go.Hs
open Go Go.RowKit
section
variable {P : Program} {ti : TypeId} {K : Kind} {w wr : World} {yb : Nat} {d : K.Data} {Fy : Nat → Prop} {A : Option Addr} {rs : List (Res P ti)}
/-- The copy is written over: the results stay. -/
theorem mark_step {t : TypeId} {w5 w6 w8 : World} {e : Ending} {b0 b1 : Nat} {xs : Array Value} {tx : TypeId} {d0 : K.Data} {F0 : Nat → Prop} {V ys : List Int} {B : Option Addr} {N over : Nat} (ho : Outer K w wr b0 b1 xs tx d0 F0 V) (h : Sit K wr w5 N yb d Fy A rs) (his : EyeHas w5 N 0 V (fun k => N + 3 ≤ k ∧ k < w5.heap.size)) (hbo : Blind w5 (N + 1) 0) (hbg : Blind w5 (N + 2) 0) (hz : N + 3 ≤ w5.heap.size)
    (ht : Elems kEye w6 B (views rs) (Fresh w5 w6)) (hb6 : Below w5.heap.size w5 w6)
    (hp : SeePost ti w6.heap.size 0 true (w6.heap.size + 1) 0 over Fy ys (w6.alloc (.cells (eye0 true 0) t)) e w8) :
    e = .returned (.tuple #[]) ∧ ∃ d', Sit K wr w8 N yb d' Fy A rs ∧ Outer K w w8 b0 b1 xs tx d0 F0 V ∧ EyeHas w8 N 0 V (fun k => N ≤ k ∧ k < w5.heap.size) ∧ Blind w8 (N + 1) 0 ∧ Blind w8 (N + 2) 0 ∧ Elems kEye w8 B (views rs) (fun k => N ≤ k ∧ k < w8.heap.size) ∧ N + 3 ≤ w8.heap.size := by
  obtain ⟨rfl, ys', h1, h2, h3, h4, h5⟩ := hp
  have hz6 := hb6.size
  have hz8 := h4.size
  rw [alloc_size] at hz8
  have hal : Below w6.heap.size w6 (w6.alloc (.cells (eye0 true 0) t)) := (Below.refl _ _).alloc (Nat.le_refl _) _
  have hbl : ∀ k, k < w5.heap.size → (w6.alloc (.cells (eye0 true 0) t)).heap[k]? = w5.heap[k]? := fun k hk => (hal.block k (by omega)).trans (hb6.block k hk)
  have hFy : ∀ k, Fy k → k < N := fun k hk => (h.fy k hk).2
  obtain ⟨d', h6⟩ := ((h.ext hb6).ext hal).markY h4 h5 (by omega) (by omega)
  refine ⟨rfl, d', h6, ho.ext h6.below, ?_, ?_, ?_, ?_, by omega⟩
  · have k1 := his.keep (w' := w6.alloc (.cells (eye0 true 0) t)) (hbl _ (by omega)) fun k hk => hbl k hk.2
    exact eye_keepE (k1.mono fun k hk => ⟨by omega, hk.2⟩) (Nat.le_refl _) h4 hFy ⟨Nat.le_refl _, by omega, by omega⟩ (by omega) (by omega)
  · exact blind_keepE (hbo.keep (hbl _ (by omega))) h4 hFy ⟨by omega, by omega, by omega⟩
  · exact blind_keepE (hbg.keep (hbl _ (by omega))) h4 hFy ⟨by omega, by omega, by omega⟩
  · have k1 : Elems kEye (w6.alloc (.cells (eye0 true 0) t)) B (views rs) (fun k => N ≤ k ∧ k < w6.heap.size) := elems_mono (ht.same fun k hk => hal.block k hk.2) fun k hk => ⟨by have := hk.1; omega, hk.2⟩
    exact elems_mono (elems_keepE k1 h4 hFy (by omega) (by omega)) fun k hk => ⟨hk.1, by omega⟩
theorem trans3 {a b c e : World} (h1 : Below a.heap.size a b) (h2 : Below b.heap.size b c) (h3 : Below c.heap.size c e) : Below a.heap.size a e :=
  (h1.trans (h2.mono h1.size)).trans (h3.mono (Nat.le_trans h1.size h2.size))
theorem trans2 {a b c : World} (h1 : Below a.heap.size a b) (h2 : Below b.heap.size b c) : Below a.heap.size a c := h1.trans (h2.mono h1.size)
theorem told_next {a c : World} {B : Option Addr} {N : Nat} {xss : List (List Int)} (h : Elems kEye a B xss (fun k => N ≤ k ∧ k < a.heap.size)) (hb : Below a.heap.size a c) : Elems kEye c B xss (fun k => k < c.heap.size) :=
  elems_mono (h.same fun k hk => hb.block k hk.2) fun _k hk => Nat.lt_of_lt_of_le hk.2 hb.size
theorem told_fresh {a c : World} {B : Option Addr} {xss : List (List Int)} (h : Elems kEye c B xss (Fresh a c)) : Elems kEye c B xss (fun k => k < c.heap.size) := elems_mono h fun _k hk => hk.2
/-- The copy, written over, is looked at. -/
theorem over_step {w11 w12 : World} {e : Ending} {N over : Nat} {F' : Nat → Prop} {V2 : List Int} (h : Sit K wr w11 N yb d Fy A rs) (hbg : Blind w11 (N + 2) 0) (hz : N + 3 ≤ w11.heap.size) (hov : over ≤ 1000)
    (hp : SeePost ti (N + 1) 0 false w11.heap.size 0 over F' V2 w11 e w12) :
    e = .returned (.tuple #[]) ∧ Sit K wr w12 N yb d Fy A rs ∧ EyeHas w12 (N + 1) 0 V2 (fun k => N + 3 ≤ k ∧ k < w12.heap.size) ∧ Blind w12 (N + 2) 0 ∧ N + 3 ≤ w12.heap.size := by
  obtain ⟨rfl, ys, h1, h2, h3, h4, _⟩ := hp
  have h2 := h2 rfl
  subst h2
  have hz2 := h4.size
  refine ⟨rfl, h.look h4 (by omega) (by omega), (has_of_eye h1 (by unfold maxLen; omega)).mono fun k hk => ⟨by omega, hk.2⟩, ?_, by omega⟩
  exact hbg.keep (h4.block _ (by omega) (by omega) fun h => by cases h.1)
/-- One result is written over. -/
theorem markR_step {t : TypeId} {wA wB : World} {e : Ending} {k0 : Nat} {r : Res P ti} {V2 ys : List Int} {n : Int} {B : Option Addr} {N over : Nat} (hr : rs[k0]? = some r) (h : Sit K wr wA N yb d Fy A rs) (hov : EyeHas wA (N + 1) 0 V2 (fun k => N + 3 ≤ k ∧ k < wA.heap.size)) (hbg : Blind wA (N + 2) 0) (hz : N + 3 ≤ wA.heap.size)
    (ht : Elems kEye wA B (views rs) (fun k => N ≤ k ∧ k < wA.heap.size))
    (hp : SeePost ti wA.heap.size 0 true (wA.heap.size + 1) 0 over r.F ys (wA.alloc (.cells (eye0 true n) t)) e wB) :
    e = .returned (.tuple #[]) ∧ ∃ d', Sit K wr wB N yb d Fy A (setD rs k0 r d') ∧ EyeHas wB (N + 1) 0 V2 (fun k => N + 3 ≤ k ∧ k < wB.heap.size) ∧ Blind wB (N + 2) 0 ∧ Elems kEye wB B (views rs) (fun k => N ≤ k ∧ k < wB.heap.size) ∧ N + 3 ≤ wB.heap.size := by
  obtain ⟨rfl, ys', h1, h2, h3, h4, h5⟩ := hp
  have hz8 := h4.size
  rw [alloc_size] at hz8
  have hal : Below wA.heap.size wA (wA.alloc (.cells (eye0 true n) t)) := (Below.refl _ _).alloc (Nat.le_refl _) _
  have hFr : ∀ k, r.F k → k < N := fun k hk => (h.rb r (List.mem_of_getElem? hr) k hk).2.1
  obtain ⟨d', h6⟩ := (h.ext hal).markR hr h4 h5 (by omega) (by omega)
  refine ⟨rfl, d', h6, ?_, ?_, ?_, by omega⟩
  · have k1 := hov.keep (w' := wA.alloc (.cells (eye0 true n) t)) (hal.block _ (by omega)) fun k hk => hal.block k hk.2
    exact (eye_keepE k1 (by omega) h4 hFr ⟨by omega, by omega, by omega⟩ (by omega) (Nat.le_refl _)).mono fun k hk => ⟨hk.1, by omega⟩
  · exact blind_keepE (hbg.keep (hal.block _ (by omega))) h4 hFr ⟨by omega, by omega, by omega⟩
  · have k1 : Elems kEye (wA.alloc (.cells (eye0 true n) t)) B (views rs) (fun k => N ≤ k ∧ k < wA.heap.size) := ht.same fun k hk => hal.block k hk.2
    exact elems_mono (elems_keepE k1 h4 hFr (by omega) (Nat.le_refl _)) fun k hk => ⟨hk.1, by omega⟩
theorem ov_ext {W W' : World} {N b : Nat} {V2 : List Int} (h : EyeHas W b 0 V2 (fun k => N + 3 ≤ k ∧ k < W.heap.size)) (hz : b + 2 ≤ W.heap.size) (hb : Below W.heap.size W W') : EyeHas W' b 0 V2 (fun k => N + 3 ≤ k ∧ k < W'.heap.size) :=
  (h.keep (hb.block _ (by omega)) fun k hk => hb.block k hk.2).mono fun k hk => ⟨hk.1, Nat.lt_of_lt_of_le hk.2 hb.size⟩
theorem told_from {a c : World} {B : Option Addr} {N : Nat} {xss : List (List Int)} (h : Elems kEye c B xss (Fresh a c)) (hN : N ≤ a.heap.size) : Elems kEye c B xss (fun k => N ≤ k ∧ k < c.heap.size) := elems_mono h fun _k hk => ⟨Nat.le_trans hN hk.1, hk.2⟩
/-- At the head of the loop over the results. -/
def InRel (K : Kind) (wr : World) (N yb : Nat) (d : K.Data) (Fy : Nat → Prop) (A : Option Addr) (rs : List (Res P ti)) (V2 : List Int) (i : Value) (W : World) : Prop :=
  ∃ k : Nat, k ≤ rs.length ∧ i = .int .i64 k ∧ ∃ rs' : List (Res P ti), rs'.length = rs.length ∧ Sit K wr W N yb d Fy A rs' ∧ EyeHas W (N + 1) 0 V2 (fun k => N + 3 ≤ k ∧ k < W.heap.size) ∧ Blind W (N + 2) 0 ∧ N + 3 ≤ W.heap.size
/-- The end: the copy is looked at once more. -/
theorem gone_step {wC wD : World} {e : Ending} {N over : Nat} {F' : Nat → Prop} {V2 : List Int} (h : Sit K wr wC N yb d Fy A rs) (hov : EyeHas wC (N + 1) 0 V2 (fun k => N + 3 ≤ k ∧ k < wC.heap.size)) (hz : N + 3 ≤ wC.heap.size) (hov2 : over ≤ 1000)
    (hp : SeePost ti (N + 2) 0 false wC.heap.size 0 over F' V2 wC e wD) :
    e = .returned (.tuple #[]) ∧ Sit K wr wD N yb d Fy A rs ∧ EyeHas wD (N + 1) 0 V2 (fun k => k < wD.heap.size) ∧ EyeHas wD (N + 2) 0 V2 (fun k => k < wD.heap.size) := by
  obtain ⟨rfl, ys, h1, h2, h3, h4, _⟩ := hp
  have h2 := h2 rfl
  subst h2
  have hz2 := h4.size
  exact ⟨rfl, h.look h4 (by omega) (by omega), (hov.keep (h4.block _ (by omega) (by omega) fun h => by cases h.1) fun k hk => h4.block k hk.2 (by omega) fun h => by cases h.1).mono fun k hk => by omega, (has_of_eye h1 (by unfold maxLen; omega)).mono fun k hk => hk.2⟩
end
end Go.Hs
namespace Go.Hs
open Go Go.RowKit
/-- Rows of the call's own, in a block of their own, each with at most 'most' elements. -/
structure Img (ti : TypeId) (w : World) (bo G most : Nat) (wr : World) : Prop where
  below : Below w.heap.size w wr
  lo : w.heap.size ≤ bo
  hi : bo < wr.heap.size
  row : ∀ i, i < G → ∃ v n xs, wr.cell? ⟨bo, i, none⟩ = some v ∧ wr.frozen? ⟨bo, i, none⟩ = false ∧ wr.ownsRow w.heap.size ti 1 v n (List.map (Value.int .i64) xs) ∧ n ≤ most ∧ v.ownBlock ≠ some bo
  dis : ∀ i j v u k, i < G → j < G → i ≠ j → wr.cell? ⟨bo, i, none⟩ = some v → wr.cell? ⟨bo, j, none⟩ = some u → v.ownBlock = some k → u.ownBlock ≠ some k
theorem Img.drew {ti : TypeId} {w wr : World} {bo G most : Nat} (h : Img ti w bo G most wr) (n : Nat) : Img ti w bo G most (wr.drewN n) :=
  ⟨⟨h.below.os, h.below.tape, h.below.output, h.below.size, h.below.block⟩, h.lo, h.hi, h.row, h.dis⟩
theorem Img.mono {ti : TypeId} {w wr : World} {bo G most most' : Nat} (h : Img ti w bo G most wr) (hm : most ≤ most') : Img ti w bo G most' wr :=
  ⟨h.below, h.lo, h.hi, fun i hi => let ⟨v, n, xs, h1, h2, h3, h4, h5⟩ := h.row i hi; ⟨v, n, xs, h1, h2, h3, Nat.le_trans h4 hm, h5⟩, h.dis⟩
theorem img_step {ti : TypeId} {w wr W w1 : World} {bo G most i n g cap : Nat} {v : Value} {xs : List Int} {x : Int} (h : Img ti w bo G most wr) (hi : i < G) (hc : wr.cell? ⟨bo, i, none⟩ = some v) (hbo : v.ownBlock ≠ some bo)
    (hW : ∀ k, k < wr.heap.size → W.heap[k]? = wr.heap[k]?) (hWs : wr.heap.size < W.heap.size) (hos : W.os = wr.os) (hta : W.tape = wr.tape) (hou : W.output = wr.output) (hown : wr.ownsRow w.heap.size ti 1 v n (List.map (Value.int .i64) xs))
    (h1 : w1.ownsRow w.heap.size ti 1 (.slice (some ⟨g, 0, none⟩) (n + 1) cap) (n + 1) (List.map (Value.int .i64) xs ++ [.int .i64 x])) (h2 : W.grownBy w1 v.ownBlock) (h3 : v.ownBlock = some g ∨ g = W.heap.size) (hn : n + 1 ≤ most + 1) :
    Img ti w bo G (most + 1) (w1.setCell ⟨bo, i, none⟩ (.slice (some ⟨g, 0, none⟩) (n + 1) cap)) := by
  have hhi := h.hi
  have hsz := h2.size
  have hbs := h.below.size
  have hlo := h.lo
  have blk : ∀ k, k < wr.heap.size → v.ownBlock ≠ some k → w1.heap[k]? = wr.heap[k]? := fun k hk hne => (h2.block k (by omega) (Ne.symm hne)).trans (hW k hk)
  have vlo : ∀ k, v.ownBlock = some k → w.heap.size ≤ k ∧ k < wr.heap.size := fun k hk => hown.lt k hk
  have hgbo : g ≠ bo := by
    rcases h3 with h3 | h3
    · intro e; rw [e] at h3; exact hbo h3
    · omega
  have hg1 : g < w1.heap.size := by
    obtain ⟨_, h4⟩ := h1
    rcases h4 with ⟨h4, _⟩ | ⟨g', c', cur, h4, _, h5, _⟩
    · cases h4
    · cases h4; exact (Array.getElem?_eq_some_iff.1 h5).1
  have hglo : w.heap.size ≤ g := (h1.lt g rfl).1
  have hcell : ∀ j, w1.cell? ⟨bo, j, none⟩ = wr.cell? ⟨bo, j, none⟩ := fun j => World.cell?_of_block (blk bo hhi hbo)
  have hfr : ∀ j, w1.frozen? ⟨bo, j, none⟩ = wr.frozen? ⟨bo, j, none⟩ := fun j => World.frozen?_of_block (blk bo hhi hbo)
  have setsz : (w1.setCell ⟨bo, i, none⟩ (.slice (some ⟨g, 0, none⟩) (n + 1) cap)).heap.size = w1.heap.size := setCell_size _ _ _
  have ownSet : ∀ {u : Value} {m : Nat} {ys : List Value}, w1.ownsRow w.heap.size ti 1 u m ys → u.ownBlock ≠ some bo → (w1.setCell ⟨bo, i, none⟩ (.slice (some ⟨g, 0, none⟩) (n + 1) cap)).ownsRow w.heap.size ti 1 u m ys := fun {u m ys} hu hub => by
    refine ⟨hu.1, ?_⟩
    rcases hu.2 with h4 | ⟨q, cp, cur, rfl, q1, q2, q3⟩
    · exact .inl h4
    · refine .inr ⟨q, cp, cur, rfl, q1, ?_, q3⟩
      rw [Below.heap_setCell _ _ _ _ (fun e => hub (by rw [e]; rfl))]
      exact q2
  have hnewcell : (w1.setCell ⟨bo, i, none⟩ (.slice (some ⟨g, 0, none⟩) (n + 1) cap)).cell? ⟨bo, i, none⟩ = some (.slice (some ⟨g, 0, none⟩) (n + 1) cap) := World.cell?_setCell_same _ _ _ ((hcell i).trans hc)
  have hothcell : ∀ j, j ≠ i → (w1.setCell ⟨bo, i, none⟩ (.slice (some ⟨g, 0, none⟩) (n + 1) cap)).cell? ⟨bo, j, none⟩ = wr.cell? ⟨bo, j, none⟩ := fun j hj => by
    rw [World.cell?_setCell_other _ _ _ _ (by intro e; cases e; exact hj rfl)]; exact hcell j
  -- the block of another row
  have hother : ∀ j u k, j < G → j ≠ i → wr.cell? ⟨bo, j, none⟩ = some u → u.ownBlock = some k → v.ownBlock ≠ some k := fun j u k hj hji hu huk hv => h.dis i j v u k hi hj (Ne.symm hji) hc hu hv huk
  refine ⟨⟨h2.os.trans (hos.trans h.below.os), h2.tape.trans (hta.trans h.below.tape), h2.output.trans (hou.trans h.below.output), by rw [setsz]; omega, fun k hk => ?_⟩, h.lo, by rw [setsz]; omega, fun j hj => ?_, fun j l u u' k hj hl hjl hu hu' huk => ?_⟩
  · rw [Below.heap_setCell _ _ _ _ (show k ≠ bo by omega), blk k (by omega) (fun e => by have := (vlo k e).1; omega)]
    exact h.below.block k hk
  · by_cases hji : j = i
    · subst hji
      refine ⟨_, n + 1, xs ++ [x], hnewcell, ?_, ownSet ?_ ?_, hn, ?_⟩
      · rw [World.frozen?_setCell, hfr]
        obtain ⟨v', _, _, e1, e2, _⟩ := h.row j hi
        exact e2
      · rw [List.map_append]; exact h1
      · intro e; exact hgbo (Option.some.inj e)
      · intro e; exact hgbo (Option.some.inj e)
    · obtain ⟨u, m, ys, e1, e2, e3, e4, e5⟩ := h.row j hj
      refine ⟨u, m, ys, (hothcell j hji).trans e1, ?_, ownSet ?_ e5, by omega, e5⟩
      · rw [World.frozen?_setCell, hfr]; exact e2
      · refine ⟨e3.1, ?_⟩
        rcases e3.2 with h4 | ⟨q, cp, cur, rfl, q1, q2, q3⟩
        · exact .inl h4
        · refine .inr ⟨q, cp, cur, rfl, q1, ?_, q3⟩
          rw [blk q (Array.getElem?_eq_some_iff.1 q2).1 (hother j _ q hj hji e1 rfl)]
          exact q2
  · by_cases hji : j = i
    · subst hji
      rw [hnewcell] at hu
      cases hu
      have hk : g = k := Option.some.inj huk
      subst hk
      rw [hothcell l (Ne.symm hjl)] at hu'
      intro hul
      rcases h3 with h3 | h3
      · exact h.dis j l v u' g hj hl hjl hc hu' h3 hul
      · obtain ⟨u2, _, _, e1, _, e3, _⟩ := h.row l hl
        rw [hu'] at e1; cases e1
        have := (e3.lt g hul).2
        omega
    · rw [hothcell j hji] at hu
      by_cases hli : l = i
      · subst hli
        rw [hnewcell] at hu'
        cases hu'
        intro hg
        have hk : g = k := Option.some.inj hg
        subst hk
        rcases h3 with h3 | h3
        · exact h.dis j l u v g hj hl hjl hu hc huk h3
        · obtain ⟨u2, _, _, e1, _, e3, _⟩ := h.row j hj
          rw [hu] at e1; cases e1
          have := (e3.lt g huk).2
          omega
      · rw [hothcell l hli] at hu'
        exact h.dis j l u u' k hj hl hjl hu hu' huk
theorem img_step' {ti t : TypeId} {w wr w1 : World} {bo G most i n g cap : Nat} {v : Value} {xs : List Int} {x : Int} (h : Img ti w bo G most wr) (hi : i < G) (hc : wr.cell? ⟨bo, i, none⟩ = some v) (hbo : v.ownBlock ≠ some bo)
    (hown : wr.ownsRow w.heap.size ti 1 v n (List.map (Value.int .i64) xs)) (h1 : w1.ownsRow w.heap.size ti 1 (.slice (some ⟨g, 0, none⟩) (n + 1) cap) (n + 1) (List.map (Value.int .i64) xs ++ [.int .i64 x]))
    (h2 : (wr.alloc (.cells #[.int .i64 x] t)).drew.grownBy w1 v.ownBlock) (h3 : v.ownBlock = some g ∨ g = wr.heap.size + 1) (hn : n + 1 ≤ most + 1) :
    Img ti w bo G (most + 1) (w1.setCell ⟨bo, i, none⟩ (.slice (some ⟨g, 0, none⟩) (n + 1) cap)) :=
  img_step (W := (wr.alloc (.cells #[.int .i64 x] t)).drew) h hi hc hbo (fun k hk => Below.heap_alloc _ _ _ hk) (by show wr.heap.size < (wr.alloc _).heap.size; rw [alloc_size]; omega) rfl rfl rfl hown h1 h2 (by show _ ∨ g = (wr.alloc _).heap.size; rw [alloc_size]; exact h3) hn
theorem img_start {ti t : TypeId} {w W : World} {cs : Array Value} {G : Nat} (hb : Below w.heap.size w W) (hcs : ∀ i, i < G → cs[i]? = some (.slice none 0 0)) : Img ti w W.heap.size G 0 (W.alloc (.cells cs t)) := by
  refine ⟨hb.alloc hb.size _, hb.size, by rw [alloc_size]; omega, fun i hi => ⟨_, 0, [], (block_cell (box1 _) (hcs i hi)).1, (block_cell (box1 _) (hcs i hi)).2, World.ownsRow_nil _ _ _ _, Nat.le_refl _, by simp [Value.ownBlock]⟩, fun i j v u k hi hj _ hv hu hk => ?_⟩
  rw [(block_cell (box1 _) (hcs i hi)).1] at hv
  cases hv
  simp [Value.ownBlock] at hk
theorem img_end {ti : TypeId} {w wr : World} {bo G most : Nat} (h : Img ti w bo G most wr) (hm : most ≤ maxLen) : ∃ ds : List (List Int), ds.length = G ∧ Elems (kSlice (kInt .i64)) wr (some ⟨bo, 0, none⟩) ds (Fresh w wr) := by
  have key : ∀ n, n ≤ G → ∃ ds : List (List Int), ds.length = n ∧ ∀ (i : Nat) d, ds[i]? = some d → ∃ A c, wr.cell? ⟨bo, i, none⟩ = some (.slice A d.length c) ∧ wr.frozen? ⟨bo, i, none⟩ = false ∧ Elems (kInt .i64) wr A d (Fresh w wr) ∧ d.length ≤ maxLen := by
    intro n
    induction n with
    | zero => intro _; exact ⟨[], rfl, fun i d hd => by simp at hd⟩
    | succ n ih =>
      intro hn
      obtain ⟨ds, h1, h2⟩ := ih (by omega)
      obtain ⟨v, m, xs, e1, e2, e3, e4, _⟩ := h.row n (by omega)
      obtain ⟨A, c, rfl, rfl, e5⟩ := elems_of_owns e3
      refine ⟨ds ++ [xs], by simp [h1], fun i d hd => ?_⟩
      by_cases hi : i < ds.length
      · rw [List.getElem?_append_left hi] at hd
        exact h2 i d hd
      · rw [List.getElem?_append_right (by omega)] at hd
        have hi2 : i - ds.length = 0 := by
          have := (List.getElem?_eq_some_iff.1 hd).1
          simp at this; omega
        rw [hi2] at hd
        cases hd
        have : i = n := by omega
        subst this
        exact ⟨A, c, e1, e2, e5, by omega⟩
  obtain ⟨ds, h1, h2⟩ := key G (Nat.le_refl _)
  refine ⟨ds, h1, fun i d hd => ⟨bo, 0, rfl, ?_⟩⟩
  obtain ⟨A, c, e1, e2, e3, e4⟩ := h2 i d hd
  have e : 0 + i * (kSlice (kInt .i64)).size = i := by rw [show i * (kSlice (kInt .i64)).size = i from Nat.mul_one i]; omega
  rw [e]
  exact ⟨A, c, e1, e2, ⟨h.lo, h.hi⟩, e3, e4⟩
end Go.Hs
namespace Go.Hs
open Go Go.RowKit
/-- No result. -/
theorem res_none {P : Program} {ti : TypeId} {w w' : World} (hb : Below w.heap.size w w') : ResPost P ti w (.returned (.slice none 0 0)) w' :=
  ⟨none, 0, [], rfl, Nat.zero_le _, (fun i r hr => by simp at hr), (fun ad h => by cases h), (fun r hr => by simp at hr), (fun i j r s hr => by simp at hr), hb⟩
/-- One result. -/
theorem res_one {P : Program} {ti tf : TypeId} {w W : World} {a : Nat} {K : Kind} {g : FuncId} (sees : SeesL 700000 P ti g K) (over : K.over ≤ 1000) (run : ∀ args w, (callFunc g args).run P w = .ok (.enter g args) w) {d : K.Data} {F : Nat → Prop}
    (hb : Below w.heap.size w W) (hh : K.Holds W a 0 d F) (hF : ∀ k, F k → w.heap.size ≤ k ∧ k < W.heap.size) :
    ResPost P ti w (.returned (.slice (some ⟨W.heap.size, 0, none⟩) 1 1)) (W.alloc (.cells #[.func (.func g) #[] #[.pointer (some ⟨a, 0, none⟩)]] tf)) := by
  have hal : Below W.heap.size W (W.alloc (.cells #[.func (.func g) #[] #[.pointer (some ⟨a, 0, none⟩)]] tf)) := (Below.refl _ _).alloc (Nat.le_refl _) _
  have hz := hb.size
  refine ⟨some ⟨W.heap.size, 0, none⟩, 1, [⟨K, g, sees, over, run, a, d, F⟩], rfl, (by show 1 ≤ 1000; omega), fun i r hr => ?_, fun ad h => ?_, fun r hr => ?_, fun i j r s hr hs hij => ?_, hb.trans (hal.mono hz)⟩
  · have hi := (List.getElem?_eq_some_iff.1 hr).1
    simp at hi
    subst hi
    cases hr
    exact ⟨W.heap.size, 0, rfl, (block_cell (box1 _) rfl).1⟩
  · cases h
    refine ⟨⟨hz, by rw [alloc_size]; exact Nat.lt_succ_self _⟩, fun r hr hx => ?_⟩
    simp at hr
    subst hr
    have h2 := (hF _ hx).2
    dsimp only at h2
    omega
  · simp at hr
    subst hr
    exact ⟨K.same hh fun k hk => hal.block k (hF k hk).2, fun k hk => ⟨(hF k hk).1, by rw [alloc_size]; have := (hF k hk).2; omega⟩⟩
  · have hi := (List.getElem?_eq_some_iff.1 hr).1
    have hj := (List.getElem?_eq_some_iff.1 hs).1
    simp at hi hj
    omega
/-- The call came first, then its variable. -/
theorem res_callFirst {P : Program} {ti tf t : TypeId} {w w1 : World} {K : Kind} {g : FuncId} (sees : SeesL 700000 P ti g K) (over : K.over ≤ 1000) (run : ∀ args w, (callFunc g args).run P w = .ok (.enter g args) w) {d : K.Data} {cs : Array Value} {r : Value} {W : World}
    (hb : Below w.heap.size w.drew w1) (hh : HoldsAs K w1 cs.toList d (Fresh w.drew w1)) (hr : r = .slice (some ⟨w1.heap.size + 1, 0, none⟩) 1 1) (hW : W = (w1.alloc (.cells cs t)).alloc (.cells #[.func (.func g) #[] #[.pointer (some ⟨w1.heap.size, 0, none⟩)]] tf)) :
    ResPost P ti w (.returned r) W := by
  subst hr
  subst hW
  have hz : w.heap.size ≤ w1.heap.size := hb.size
  have hal : Below w1.heap.size w1 (w1.alloc (.cells cs t)) := (Below.refl _ _).alloc (Nat.le_refl _) _
  have hbw : Below w.heap.size w w1 := ⟨hb.os, hb.tape, hb.output, hb.size, hb.block⟩
  have h1 := res_one (tf := tf) sees over run (W := w1.alloc (.cells cs t)) (a := w1.heap.size) (d := d) (F := fun k => Fresh w.drew w1 k ∨ k = w1.heap.size) (hbw.trans (hal.mono hz)) (hh _ _ 0 (fun k hk => hal.block k hk.2) fun j u hj => by rw [Nat.zero_add]; exact block_cell (box1 _) (by simpa using hj)) fun k hk => by
    rw [alloc_size]
    rcases hk with hk | hk
    · have h2 : w.heap.size ≤ k := hk.1
      have := hk.2; omega
    · omega
  rw [alloc_size] at h1
  exact h1
/-- The variable came first, then the call. -/
theorem res_allocFirst {P : Program} {ti tf t : TypeId} {w w1 : World} {K : Kind} {g : FuncId} (sees : SeesL 700000 P ti g K) (over : K.over ≤ 1000) (run : ∀ args w, (callFunc g args).run P w = .ok (.enter g args) w) {d : K.Data} {v0 v : Value} {r : Value} {W : World}
    (hb : Below (w.alloc (.cells #[v0] t)).heap.size (w.alloc (.cells #[v0] t)).drew w1) (hh : HoldsAs K w1 [v] d (Fresh (w.alloc (.cells #[v0] t)).drew w1)) (hr : r = .slice (some ⟨w1.heap.size, 0, none⟩) 1 1) (hW : W = (w1.setCell ⟨w.heap.size, 0, none⟩ v).alloc (.cells #[.func (.func g) #[] #[.pointer (some ⟨w.heap.size, 0, none⟩)]] tf)) :
    ResPost P ti w (.returned r) W := by
  subst hr
  subst hW
  have hz : w.heap.size + 1 ≤ w1.heap.size := by have := hb.size; have h2 : (w.alloc (.cells #[v0] t)).drew.heap.size = w.heap.size + 1 := alloc_size _ _; omega
  have hs : (w1.setCell ⟨w.heap.size, 0, none⟩ v).heap.size = w1.heap.size := setCell_size _ _ _
  have hal : Below w.heap.size w (w.alloc (.cells #[v0] t)) := (Below.refl _ _).alloc (Nat.le_refl _) _
  have hb1 : Below (w.alloc (.cells #[v0] t)).heap.size (w.alloc (.cells #[v0] t)) w1 := ⟨hb.os, hb.tape, hb.output, hb.size, hb.block⟩
  have hbw : Below w.heap.size w w1 := hal.trans (hb1.mono hal.size)
  have hc0 : w1.heap[w.heap.size]? = some (.cells #[v0] t) := (hb1.block _ (by rw [alloc_size]; omega)).trans (box1 _)
  have hc : (w1.setCell ⟨w.heap.size, 0, none⟩ v).cell? ⟨w.heap.size, 0, none⟩ = some v := World.cell?_setCell_same _ _ _ (block_cell hc0 (j := 0) rfl).1
  have hf : (w1.setCell ⟨w.heap.size, 0, none⟩ v).frozen? ⟨w.heap.size, 0, none⟩ = false := by rw [World.frozen?_setCell]; exact (block_cell hc0 (j := 0) rfl).2
  have h1 := res_one (tf := tf) sees over run (W := w1.setCell ⟨w.heap.size, 0, none⟩ v) (a := w.heap.size) (d := d) (F := fun k => Fresh (w.alloc (.cells #[v0] t)).drew w1 k ∨ k = w.heap.size) (hbw.setCell (Nat.le_refl _) _) (hh _ _ 0 (fun k hk => Below.heap_setCell _ _ _ _ (by
      intro e
      have h2 : (w.alloc (.cells #[v0] t)).heap.size ≤ k := hk.1
      rw [alloc_size] at h2
      dsimp only at e
      omega)) fun j u hj => by
        have hj0 : j = 0 := by have := (List.getElem?_eq_some_iff.1 hj).1; simp at this; omega
        subst hj0
        simp at hj
        subst hj
        exact ⟨hc, hf⟩) fun k hk => by
    rw [hs]
    rcases hk with hk | hk
    · have h2 : (w.alloc (.cells #[v0] t)).heap.size ≤ k := hk.1
      rw [alloc_size] at h2
      have := hk.2; omega
    · omega
  rw [hs] at h1
  exact h1
theorem run_enter {P : Program} {f : FuncId} {fn : Func} {c : Code} (hf : P.funcs[f]? = some fn) (hname : (fn.name == "runtime.NumGoroutine") = false) (hb : fn.body = some c) (args : Array Value) (w : World) :
    (callFunc f args).run P w = .ok (.enter f args) w := by
  have h1 : fn.name ≠ "runtime.NumGoroutine" := by simpa using hname
  simp [callFunc, hf, h1, hb]
end Go.Hs
namespace Go.Hr
open Go Go.RowKit Go.Deep Go.Hs
/-- The places lie in F, none of them frozen. -/
def Okay (w : World) (ps : List MemPlace) (F : Nat → Prop) : Prop := (∀ x ∈ ps, F x.block) ∧ ∀ b o, MemPlace.cell b o ∈ ps → w.frozen? ⟨b, o, none⟩ = false
theorem Okay.left {w : World} {p q : List MemPlace} {F : Nat → Prop} (h : Okay w (p ++ q) F) : Okay w p F := ⟨fun x hx => h.1 x (List.mem_append_left _ hx), fun b o hx => h.2 b o (List.mem_append_left _ hx)⟩
theorem Okay.right {w : World} {p q : List MemPlace} {F : Nat → Prop} (h : Okay w (p ++ q) F) : Okay w q F := ⟨fun x hx => h.1 x (List.mem_append_right _ hx), fun b o hx => h.2 b o (List.mem_append_right _ hx)⟩
/-- What reads as of a type holds data of a kind. -/
def ReadsAs (P : Program) (t : TypeId) (K : Kind) (R : K.Data → Prop) : Prop :=
  ∀ (H : Type) (enc : TypeId × Value → H) (w : World) (fuel : Nat) (cs : List Value) (d : DataW H) (ps : List MemPlace) (F : Nat → Prop), DataW.trod enc P w 0 (fun _ => true) true fuel t cs = some (d, ps) → Okay w ps F → cs.length = K.size ∧ ∃ dd : K.Data, HoldsAs K w cs dd F ∧ R dd
theorem reads_int {P : Program} {t : TypeId} {k : IntKind} (ht : P.underlying t = some (.int k)) : ReadsAs P t (kInt k) (fun (d : Int) => (Lit.int k d).wf = true) := by
  intro H enc w fuel cs d ps F h _
  obtain ⟨n, rfl, _, hw⟩ := DataW.trod_int ht h
  exact ⟨rfl, n, holdsAs_int _ _ _ _, hw⟩
theorem elems_of_trod {P : Program} {t e : TypeId} {K : Kind} (ht : P.underlying t = some (.slice e)) (hsz : P.cellsOf e = K.size) (hpos : 0 < K.size) {R : K.Data → Prop} (hK : ReadsAs P e K R)
    {H : Type} {enc : TypeId × Value → H} {w : World} {fuel : Nat} {cs : List Value} {d : DataW H} {ps : List MemPlace} {F : Nat → Prop} (h : DataW.trod enc P w 0 (fun _ => true) true fuel t cs = some (d, ps)) (hok : Okay w ps F) :
    ∃ (A : Option Addr) (c : Nat) (ds : List K.Data), cs = [.slice A ds.length c] ∧ Elems K w A ds F ∧ ds.length ≤ maxLen ∧ ∀ d ∈ ds, R d := by
  rcases open_slice ht h with ⟨rfl, _⟩ | ⟨a, len, cap, m, n, D, Pl, rfl, _, hl, hm, hmm, hx, hel⟩
  · exact ⟨none, 0, [], rfl, (fun i d hd => by cases i <;> cases hd), Nat.zero_le _, fun d hd => by cases hd⟩
  · simp only [if_true] at hmm
    subst hmm
    simp only [Prod.mk.injEq] at hx
    obtain ⟨_, rfl⟩ := hx
    have each : ∀ i, i < m → ∃ dd : K.Data, R dd ∧ ∃ g s, a = ⟨g, s, none⟩ ∧ K.Holds w g (s + i * K.size) dd F := by
      intro i hi
      obtain ⟨cs', h1, h2⟩ := hel i hi
      obtain ⟨_, hlen, hc⟩ := World.cells?_some h1
      rw [hsz] at hlen hc
      obtain ⟨_, dd, hdd, hrd⟩ := hK H enc w n cs' (D i) (Pl i) F h2 ⟨fun x hx => hok.1 x (List.mem_append_right _ (List.mem_flatMap.2 ⟨i, List.mem_range.2 hi, hx⟩)), fun b o hx => hok.2 b o (List.mem_append_right _ (List.mem_flatMap.2 ⟨i, List.mem_range.2 hi, hx⟩))⟩
      have hplace : ∀ j, j < K.size → MemPlace.cell a.block (a.off + (i * K.size + j)) ∈ MemPlace.row a (m * P.cellsOf e) := fun j hj => by
        unfold MemPlace.row
        refine List.mem_map.2 ⟨i * K.size + j, List.mem_range.2 ?_, rfl⟩
        rw [hsz]
        have : (i + 1) * K.size ≤ m * K.size := Nat.mul_le_mul_right _ hi
        rw [Nat.succ_mul] at this
        omega
      have hFa : F a.block := hok.1 _ (List.mem_append_left _ (hplace 0 hpos))
      have hadd : ∀ x y : Nat, ((a.add x).add y).block = a.block ∧ ((a.add x).add y).off = a.off + (x + y) := fun x y => by
        unfold Addr.add
        split <;> split <;> simp_all <;> omega
      -- the place itself bears no spot
      have hspot : a.spot = none := by
        rcases Nat.eq_zero_or_pos (i * K.size) with h0 | h0
        · have h3 := hc 0 hpos
          have h4 : (a.add (i * K.size)).add 0 = a := by unfold Addr.add; simp [h0]
          rw [h4] at h3
          have hlt : 0 < cs'.length := by omega
          rw [List.getElem?_eq_getElem hlt] at h3
          cases hs : a.spot with
          | none => rfl
          | some sp =>
            unfold World.cell? at h3
            split at h3
            · simp [hs] at h3
            · cases h3
        · obtain ⟨cs0, k1, k2⟩ := hel 0 (by omega)
          obtain ⟨_, hlen0, hc0⟩ := World.cells?_some k1
          rw [hsz] at hlen0 hc0
          have h3 := hc0 0 hpos
          have h4 : (a.add (0 * K.size)).add 0 = a := by unfold Addr.add; simp
          rw [h4] at h3
          have hlt : 0 < cs0.length := by omega
          rw [List.getElem?_eq_getElem hlt] at h3
          cases hs : a.spot with
          | none => rfl
          | some sp =>
            unfold World.cell? at h3
            split at h3
            · simp [hs] at h3
            · cases h3
      obtain ⟨g, s, sp⟩ := a
      dsimp only at hspot hFa hplace
      subst hspot
      refine ⟨dd, hrd, g, s, rfl, K.mono (hdd w g (s + i * K.size) (fun _ _ => rfl) fun j u hj => ?_) fun k hk => hk.elim id fun e => e ▸ hFa⟩
      have hjl : j < K.size := by have := (List.getElem?_eq_some_iff.1 hj).1; omega
      have h5 := hc j hjl
      have h6 : ((⟨g, s, none⟩ : Addr).add (i * K.size)).add j = ⟨g, s + i * K.size + j, none⟩ := by
        unfold Addr.add
        split <;> split <;> simp_all <;> omega
      rw [h6, hj] at h5
      refine ⟨h5, hok.2 g _ (List.mem_append_left _ ?_)⟩
      have := hplace j hjl
      rw [show s + i * K.size + j = s + (i * K.size + j) by omega]
      exact this
    have key : ∀ q, q ≤ len → ∃ ds : List K.Data, ds.length = q ∧ Elems K w (some a) ds F ∧ ∀ d ∈ ds, R d := by
      intro q
      induction q with
      | zero => intro _; exact ⟨[], rfl, (fun i d hd => by cases i <;> cases hd), fun d hd => by cases hd⟩
      | succ q ih =>
        intro hq
        obtain ⟨ds, h1, h2, h2r⟩ := ih (by omega)
        obtain ⟨dd, hdr, g, s, h3, h4⟩ := each q (by omega)
        refine ⟨ds ++ [dd], by simp [h1], fun i d hd => ?_, fun d hd => (List.mem_append.1 hd).elim (h2r d) fun h => by rw [List.mem_singleton.1 h]; exact hdr⟩
        by_cases hi : i < ds.length
        · rw [List.getElem?_append_left hi] at hd
          exact h2 i d hd
        · rw [List.getElem?_append_right (by omega)] at hd
          have := (List.getElem?_eq_some_iff.1 hd).1
          simp at this
          have e : i - ds.length = 0 := by omega
          rw [e] at hd
          cases hd
          have : i = q := by omega
          subst this
          exact ⟨g, s, by rw [h3], h4⟩
    obtain ⟨ds, h1, h2, h2r⟩ := key len (Nat.le_refl _)
    exact ⟨some a, m, ds, by rw [h1], h2, by rw [h1]; omega, h2r⟩
theorem reads_slice {P : Program} {t e : TypeId} {K : Kind} (ht : P.underlying t = some (.slice e)) (hsz : P.cellsOf e = K.size) (hpos : 0 < K.size) {R : K.Data → Prop} (hK : ReadsAs P e K R) : ReadsAs P t (kSlice K) (fun (ds : List K.Data) => ∀ d ∈ ds, R d) := by
  intro H enc w fuel cs d ps F h hok
  obtain ⟨A, c, ds, rfl, h1, h2, h3⟩ := elems_of_trod ht hsz hpos hK h hok
  exact ⟨rfl, ds, holdsAs_slice h1 h2, h3⟩
/-- The fields of a struct, from an offset on. -/
inductive ReadsF (P : Program) : List Field → Nat → (K : Kind) → (K.Data → Prop) → Prop where
  | one {f : Field} {o : Nat} {K : Kind} {R : K.Data → Prop} (ho : f.offset = o) (hs : P.cellsOf f.type = K.size) (hK : ReadsAs P f.type K R) : ReadsF P [f] o K R
  | cons {f : Field} {fs : List Field} {o : Nat} {K L : Kind} {R : K.Data → Prop} {S : L.Data → Prop} (ho : f.offset = o) (hs : P.cellsOf f.type = K.size) (hK : ReadsAs P f.type K R) (h : ReadsF P fs (o + K.size) L S) : ReadsF P (f :: fs) o (kPair K L) (fun (d : K.Data × L.Data) => R d.1 ∧ S d.2)
theorem ReadsF.holds {P : Program} {fs : List Field} {o : Nat} {K : Kind} {R : K.Data → Prop} (h : ReadsF P fs o K R) : ∀ (H : Type) (enc : TypeId × Value → H) (w : World) (fuel : Nat) (cs : List Value) (xs : List (DataW H × List MemPlace)) (F : Nat → Prop),
    (fs.mapM fun f => DataW.trod enc P w 0 (fun _ => true) true fuel f.type ((cs.drop f.offset).take (P.cellsOf f.type))) = some xs → Okay w (xs.flatMap (·.2)) F → cs.length = o + K.size →
    ∃ dd : K.Data, HoldsAs K w (cs.drop o) dd F ∧ R dd := by
  induction h with
  | @one f o K R ho hs hK =>
    intro H enc w fuel cs xs F hm hok hl
    simp only [List.mapM_cons, List.mapM_nil, Option.pure_def, Option.bind_eq_bind, Option.bind_eq_some_iff] at hm
    obtain ⟨x, hx, y, hy, hxs⟩ := hm
    cases hy
    cases hxs
    rw [ho, hs, List.take_of_length_le (by rw [List.length_drop]; omega)] at hx
    obtain ⟨_, dd, hdd, hr⟩ := hK H enc w fuel _ x.1 x.2 F hx (by simpa using hok)
    exact ⟨dd, hdd, hr⟩
  | @cons f fs o K L R S ho hs hK h ih =>
    intro H enc w fuel cs xs F hm hok hl
    rw [List.mapM_cons] at hm
    simp only [Option.pure_def, Option.bind_eq_bind, Option.bind_eq_some_iff] at hm
    obtain ⟨x, hx, ys, hys, hxs⟩ := hm
    cases hxs
    rw [ho, hs] at hx
    rw [List.flatMap_cons] at hok
    have hl2 : cs.length = o + (K.size + L.size) := hl
    obtain ⟨hlen, d1, h1, r1⟩ := hK H enc w fuel _ x.1 x.2 F hx hok.left
    obtain ⟨d2, h2, r2⟩ := ih H enc w fuel cs ys F hys hok.right (by omega)
    refine ⟨(d1, d2), ?_, r1, r2⟩
    have := holdsAs_pair h1 h2 hlen
    have e : (cs.drop o).take K.size ++ cs.drop (o + K.size) = cs.drop o := by
      rw [← List.drop_drop]; exact List.take_append_drop _ _
    rw [e] at this
    exact this
theorem reads_struct {P : Program} {t : TypeId} {fs : Array Field} {K : Kind} (ht : P.underlying t = some (.struct fs)) (hs : P.cellsOf t = K.size) {R : K.Data → Prop} (h : ReadsF P fs.toList 0 K R) : ReadsAs P t K R := by
  intro H enc w fuel cs d ps F hr hok
  cases fuel with
  | zero => simp [DataW.trod] at hr
  | succ n =>
    unfold DataW.trod at hr
    rw [ht] at hr
    dsimp only at hr
    split at hr
    · rename_i hl
      rw [Option.map_eq_some_iff] at hr
      obtain ⟨xs, hxs, e⟩ := hr
      cases e
      have := h.holds H enc w n cs xs F hxs hok (by rw [hl, hs]; omega)
      rw [List.drop_zero] at this
      exact ⟨by rw [hl, hs], this⟩
    · cases hr
end Go.Hr
namespace Go.Hs
open Go Go.RowKit
/-- Cells of two blocks have been set. -/
inductive Sets (a : Nat) (w2 : World) : World → Prop where
  | refl : Sets a w2 w2
  | set {W : World} {p : Addr} {u : Value} (h : Sets a w2 W) (hp : p.block = a ∨ p.block = a + 1) : Sets a w2 (W.setCell p u)
theorem Sets.size {a : Nat} {w2 W : World} (h : Sets a w2 W) : W.heap.size = w2.heap.size := by
  induction h with
  | refl => rfl
  | set _ _ ih => rw [setCell_size]; exact ih
theorem Sets.heap {a : Nat} {w2 W : World} (h : Sets a w2 W) {k : Nat} (h1 : k ≠ a) (h2 : k ≠ a + 1) : W.heap[k]? = w2.heap[k]? := by
  induction h with
  | refl => rfl
  | set _ hp ih => rw [Below.heap_setCell _ _ _ _ (by rcases hp with e | e <;> rw [e] <;> assumption)]; exact ih
theorem Sets.lower {a : Nat} {w w2 W : World} (h : Sets a w2 W) (hb : Below a w w2) : Below a w W := by
  induction h with
  | refl => exact hb
  | set _ hp ih => exact ih.setCell (by rcases hp with e | e <;> omega) _
theorem below_boxes {w w2 : World} {o o' : Obj} (hb : Below ((w.alloc o).alloc o').heap.size ((w.alloc o).alloc o') w2) : Below w.heap.size w w2 :=
  (((Below.refl _ _).alloc (Nat.le_refl _) _).alloc (by simp) _).trans (hb.mono (alloc2_le _ _ _))
/-- The copy of a part, behind the boxes' stores. -/
theorem sets_elems {K : Kind} {w w2 W : World} {o o' : Obj} {A : Option Addr} {ds : List K.Data} (h : Sets w.heap.size w2 W) (he : Elems K w2 A ds (Fresh ((w.alloc o).alloc o') w2)) : Elems K W A ds (Fresh w W) := by
  refine elems_mono (he.same fun k hk => h.heap ?_ ?_) fun k hk => ⟨?_, ?_⟩
  · have := hk.1; rw [alloc_size, alloc_size] at this; omega
  · have := hk.1; rw [alloc_size, alloc_size] at this; omega
  · have := hk.1; rw [alloc_size, alloc_size] at this; omega
  · rw [h.size]; exact hk.2
/-- The end of a struct's copy. -/
theorem own_fin {K : Kind} {w w2 W : World} {o o' : Obj} {A : Option Addr} {ds : List K.Data} (he : Elems K w2 A ds (Fresh ((w.alloc o).alloc o') w2)) (hb : Below ((w.alloc o).alloc o').heap.size ((w.alloc o).alloc o') w2) (h : Sets w.heap.size w2 W) :
    Elems K W A ds (Fresh w W) ∧ Below w.heap.size w W := ⟨sets_elems h he, h.lower (below_boxes hb)⟩
theorem seq_len {x y n a o t : Nat} (h1 : x ≤ max n 200000 + a) (h2 : y ≤ max x 200000 + o) (h3 : a + o ≤ t) : y ≤ max n 200000 + t := by omega
end Go.Hs
