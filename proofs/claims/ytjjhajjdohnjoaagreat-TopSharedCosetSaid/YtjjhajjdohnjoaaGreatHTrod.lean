/- Proved here, with no condition of its own: what reads as of a type holds data of its kind. -/
import Derived.Test.YtjjhajjdohnjoaaGreatHA
import Derived.Deep.Slices
import Derived.ProofKit
namespace Go.Hs
open Go Go.RowKit Go.Deep
/-- The places lie in F, none of them frozen. -/
def Okay (w : World) (ps : List MemPlace) (F : Nat → Prop) : Prop := (∀ x ∈ ps, F x.block) ∧ ∀ b o, MemPlace.cell b o ∈ ps → w.frozen? ⟨b, o, none⟩ = false
theorem Okay.left {w : World} {p q : List MemPlace} {F : Nat → Prop} (h : Okay w (p ++ q) F) : Okay w p F := ⟨fun x hx => h.1 x (List.mem_append_left _ hx), fun b o hx => h.2 b o (List.mem_append_left _ hx)⟩
theorem Okay.right {w : World} {p q : List MemPlace} {F : Nat → Prop} (h : Okay w (p ++ q) F) : Okay w q F := ⟨fun x hx => h.1 x (List.mem_append_right _ hx), fun b o hx => h.2 b o (List.mem_append_right _ hx)⟩
/-- What reads as of a type holds data of a kind. -/
def ReadsAs (P : Program) (t : TypeId) (K : Kind) : Prop :=
  ∀ (H : Type) (enc : TypeId × Value → H) (w : World) (fuel : Nat) (cs : List Value) (d : DataW H) (ps : List MemPlace) (F : Nat → Prop), DataW.trod enc P w 0 (fun _ => true) true fuel t cs = some (d, ps) → Okay w ps F → cs.length = K.size ∧ ∃ dd : K.Data, HoldsAs K w cs dd F
theorem reads_int {P : Program} {t : TypeId} {k : IntKind} (ht : P.underlying t = some (.int k)) : ReadsAs P t (kInt k) := by
  intro H enc w fuel cs d ps F h _
  obtain ⟨n, rfl, _⟩ := DataW.trod_int ht h
  exact ⟨rfl, n, holdsAs_int _ _ _ _⟩
theorem elems_of_trod {P : Program} {t e : TypeId} {K : Kind} (ht : P.underlying t = some (.slice e)) (hsz : P.cellsOf e = K.size) (hpos : 0 < K.size) (hK : ReadsAs P e K)
    {H : Type} {enc : TypeId × Value → H} {w : World} {fuel : Nat} {cs : List Value} {d : DataW H} {ps : List MemPlace} {F : Nat → Prop} (h : DataW.trod enc P w 0 (fun _ => true) true fuel t cs = some (d, ps)) (hok : Okay w ps F) :
    ∃ (A : Option Addr) (c : Nat) (ds : List K.Data), cs = [.slice A ds.length c] ∧ Elems K w A ds F ∧ ds.length ≤ maxLen := by
  rcases open_slice ht h with ⟨rfl, _⟩ | ⟨a, len, cap, m, n, D, Pl, rfl, _, hl, hm, hmm, hx, hel⟩
  · exact ⟨none, 0, [], rfl, (fun i d hd => by cases i <;> cases hd), Nat.zero_le _⟩
  · simp only [if_true] at hmm
    subst hmm
    simp only [Prod.mk.injEq] at hx
    obtain ⟨_, rfl⟩ := hx
    have each : ∀ i, i < m → ∃ dd : K.Data, ∃ g s, a = ⟨g, s, none⟩ ∧ K.Holds w g (s + i * K.size) dd F := by
      intro i hi
      obtain ⟨cs', h1, h2⟩ := hel i hi
      obtain ⟨_, hlen, hc⟩ := World.cells?_some h1
      rw [hsz] at hlen hc
      obtain ⟨_, dd, hdd⟩ := hK H enc w n cs' (D i) (Pl i) F h2 ⟨fun x hx => hok.1 x (List.mem_append_right _ (List.mem_flatMap.2 ⟨i, List.mem_range.2 hi, hx⟩)), fun b o hx => hok.2 b o (List.mem_append_right _ (List.mem_flatMap.2 ⟨i, List.mem_range.2 hi, hx⟩))⟩
      have hplace : ∀ j, j < K.size → MemPlace.cell a.block (a.off + (i * K.size + j)) ∈ MemPlace.row a (m * P.cellsOf e) := fun j hj => by
        unfold MemPlace.row
        refine List.mem_map.2 ⟨i * K.size + j, List.mem_range.2 ?_, rfl⟩
        rw [hsz]
        have : (i + 1) * K.size ≤ m * K.size := Nat.mul_le_mul_right _ hi
        rw [Nat.succ_mul] at this
        omega
      have hFa : F a.block := hok.1 _ (List.mem_append_left _ (hplace 0 hpos))
      have hadd : ∀ x y : Nat, ((a.add x).add y).block = a.block ∧ ((a.add x).add y).off = a.off + (x + y) := fun x y => by
        unfold Addr.add
        split <;> split <;> simp_all <;> omega
      -- the place itself bears no spot
      have hspot : a.spot = none := by
        rcases Nat.eq_zero_or_pos (i * K.size) with h0 | h0
        · have h3 := hc 0 hpos
          have h4 : (a.add (i * K.size)).add 0 = a := by unfold Addr.add; simp [h0]
          rw [h4] at h3
          have hlt : 0 < cs'.length := by omega
          rw [List.getElem?_eq_getElem hlt] at h3
          cases hs : a.spot with
          | none => rfl
          | some sp =>
            unfold World.cell? at h3
            split at h3
            · simp [hs] at h3
            · cases h3
        · obtain ⟨cs0, k1, k2⟩ := hel 0 (by omega)
          obtain ⟨_, hlen0, hc0⟩ := World.cells?_some k1
          rw [hsz] at hlen0 hc0
          have h3 := hc0 0 hpos
          have h4 : (a.add (0 * K.size)).add 0 = a := by unfold Addr.add; simp
          rw [h4] at h3
          have hlt : 0 < cs0.length := by omega
          rw [List.getElem?_eq_getElem hlt] at h3
          cases hs : a.spot with
          | none => rfl
          | some sp =>
            unfold World.cell? at h3
            split at h3
            · simp [hs] at h3
            · cases h3
      obtain ⟨g, s, sp⟩ := a
      dsimp only at hspot hFa hplace
      subst hspot
      refine ⟨dd, g, s, rfl, K.mono (hdd w g (s + i * K.size) (fun _ _ => rfl) fun j u hj => ?_) fun k hk => hk.elim id fun e => e ▸ hFa⟩
      have hjl : j < K.size := by have := (List.getElem?_eq_some_iff.1 hj).1; omega
      have h5 := hc j hjl
      have h6 : ((⟨g, s, none⟩ : Addr).add (i * K.size)).add j = ⟨g, s + i * K.size + j, none⟩ := by
        unfold Addr.add
        split <;> split <;> simp_all <;> omega
      rw [h6, hj] at h5
      refine ⟨h5, hok.2 g _ (List.mem_append_left _ ?_)⟩
      have := hplace j hjl
      rw [show s + i * K.size + j = s + (i * K.size + j) by omega]
      exact this
    have key : ∀ q, q ≤ len → ∃ ds : List K.Data, ds.length = q ∧ Elems K w (some a) ds F := by
      intro q
      induction q with
      | zero => intro _; exact ⟨[], rfl, fun i d hd => by cases i <;> cases hd⟩
      | succ q ih =>
        intro hq
        obtain ⟨ds, h1, h2⟩ := ih (by omega)
        obtain ⟨dd, g, s, h3, h4⟩ := each q (by omega)
        refine ⟨ds ++ [dd], by simp [h1], fun i d hd => ?_⟩
        by_cases hi : i < ds.length
        · rw [List.getElem?_append_left hi] at hd
          exact h2 i d hd
        · rw [List.getElem?_append_right (by omega)] at hd
          have := (List.getElem?_eq_some_iff.1 hd).1
          simp at this
          have e : i - ds.length = 0 := by omega
          rw [e] at hd
          cases hd
          have : i = q := by omega
          subst this
          exact ⟨g, s, by rw [h3], h4⟩
    obtain ⟨ds, h1, h2⟩ := key len (Nat.le_refl _)
    exact ⟨some a, m, ds, by rw [h1], h2, by rw [h1]; omega⟩
theorem reads_slice {P : Program} {t e : TypeId} {K : Kind} (ht : P.underlying t = some (.slice e)) (hsz : P.cellsOf e = K.size) (hpos : 0 < K.size) (hK : ReadsAs P e K) : ReadsAs P t (kSlice K) := by
  intro H enc w fuel cs d ps F h hok
  obtain ⟨A, c, ds, rfl, h1, h2⟩ := elems_of_trod ht hsz hpos hK h hok
  exact ⟨rfl, ds, holdsAs_slice h1 h2⟩
/-- The fields of a struct, from an offset on. -/
inductive ReadsF (P : Program) : List Field → Nat → Kind → Prop where
  | one {f : Field} {o : Nat} {K : Kind} (ho : f.offset = o) (hs : P.cellsOf f.type = K.size) (hK : ReadsAs P f.type K) : ReadsF P [f] o K
  | cons {f : Field} {fs : List Field} {o : Nat} {K L : Kind} (ho : f.offset = o) (hs : P.cellsOf f.type = K.size) (hK : ReadsAs P f.type K) (h : ReadsF P fs (o + K.size) L) : ReadsF P (f :: fs) o (kPair K L)
theorem ReadsF.holds {P : Program} {fs : List Field} {o : Nat} {K : Kind} (h : ReadsF P fs o K) : ∀ (H : Type) (enc : TypeId × Value → H) (w : World) (fuel : Nat) (cs : List Value) (xs : List (DataW H × List MemPlace)) (F : Nat → Prop),
    (fs.mapM fun f => DataW.trod enc P w 0 (fun _ => true) true fuel f.type ((cs.drop f.offset).take (P.cellsOf f.type))) = some xs → Okay w (xs.flatMap (·.2)) F → cs.length = o + K.size →
    ∃ dd : K.Data, HoldsAs K w (cs.drop o) dd F := by
  induction h with
  | @one f o K ho hs hK =>
    intro H enc w fuel cs xs F hm hok hl
    simp only [List.mapM_cons, List.mapM_nil, Option.pure_def, Option.bind_eq_bind, Option.bind_eq_some_iff] at hm
    obtain ⟨x, hx, y, hy, hxs⟩ := hm
    cases hy
    cases hxs
    rw [ho, hs, List.take_of_length_le (by rw [List.length_drop]; omega)] at hx
    obtain ⟨_, dd, hdd⟩ := hK H enc w fuel _ x.1 x.2 F hx (by simpa using hok)
    exact ⟨dd, hdd⟩
  | @cons f fs o K L ho hs hK h ih =>
    intro H enc w fuel cs xs F hm hok hl
    rw [List.mapM_cons] at hm
    simp only [Option.pure_def, Option.bind_eq_bind, Option.bind_eq_some_iff] at hm
    obtain ⟨x, hx, ys, hys, hxs⟩ := hm
    cases hxs
    rw [ho, hs] at hx
    rw [List.flatMap_cons] at hok
    have hl2 : cs.length = o + (K.size + L.size) := hl
    obtain ⟨hlen, d1, h1⟩ := hK H enc w fuel _ x.1 x.2 F hx hok.left
    obtain ⟨d2, h2⟩ := ih H enc w fuel cs ys F hys hok.right (by omega)
    refine ⟨(d1, d2), ?_⟩
    have := holdsAs_pair h1 h2 hlen
    have e : (cs.drop o).take K.size ++ cs.drop (o + K.size) = cs.drop o := by
      rw [← List.drop_drop]; exact List.take_append_drop _ _
    rw [e] at this
    exact this
theorem reads_struct {P : Program} {t : TypeId} {fs : Array Field} {K : Kind} (ht : P.underlying t = some (.struct fs)) (hs : P.cellsOf t = K.size) (h : ReadsF P fs.toList 0 K) : ReadsAs P t K := by
  intro H enc w fuel cs d ps F hr hok
  cases fuel with
  | zero => simp [DataW.trod] at hr
  | succ n =>
    unfold DataW.trod at hr
    rw [ht] at hr
    dsimp only at hr
    split at hr
    · rename_i hl
      rw [Option.map_eq_some_iff] at hr
      obtain ⟨xs, hxs, e⟩ := hr
      cases e
      have := h.holds H enc w n cs xs F hxs hok (by rw [hl, hs]; omega)
      rw [List.drop_zero] at this
      exact ⟨by rw [hl, hs], this⟩
    · cases hr
end Go.Hs
