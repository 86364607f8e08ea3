/- Proved here, with no condition of its own: great, same, alike. -/
import Derived.Test.YtojicidicefdjaaGreatSee
import Derived.Test.YtojicidicefdjaaGreatHA
import Derived.Test.YtojicidicefdjaaGreatProg
import Derived.WalkKit
import Derived.WalkSpells
import Derived.LoopTactic
import Derived.Deep.RegionLaw
import Derived.Lib.Hide
import Derived.Outline
import Derived.BigQuiet
import Derived.Deep.QuietTactic
import Derived.Deep.RegionHeld3
namespace Go.Proofs.YtojicidicefdjaaGreat
open Go Go.RowKit Go.Hs
set_option maxRecDepth 20000 in
set_option maxHeartbeats 400000 in
theorem great_any (A : Option Addr) (n c : Nat) (mk : Bool) (m : Int) (w : World) (_hn : n ≤ maxLen) :
    Calls Tryz.prog 22 #[.agg #[.slice A n c, .slice none 0 0, .bool mk, .int .i64 m]] w fun e w' => e = .returned (.bool (decide (2000 < (n:Int)))) ∧ Below w.heap.size w w' := by
  unfold maxLen at _hn
  go_enter Tryz.func22, Tryz.ntmps22
  go_wp2
  go_loop [4] (fun i => i = .int .i64 0) (fun _ => 0)
  case atStart => rfl
  case round =>
    subst hrel
    go_wp2
    go_ret
    exact ⟨rfl, (Below.refl _ _).alloc (Nat.le_refl _) _⟩
end Go.Proofs.YtojicidicefdjaaGreat
namespace Go.Proofs.YtojicidicefdjaaGreat
open Go Go.RowKit Go.Hs
/-- The loop of 'same': the heap is as it was at its head. -/
def SameRel (n : Nat) (W : World) (i : Value) (wr : World) : Prop := ∃ k : Nat, k ≤ n ∧ i = .int .i64 k ∧ ∃ j, wr = W.drewN j
theorem same_cells {w W : World} {A : Option Addr} {xs : List Int} {F : Nat → Prop} (hA : Elems (kInt .i64) w A xs F) (hW : ∀ k, k < w.heap.size → W.heap[k]? = w.heap[k]?) {k : Nat} (hk : k < xs.length) :
    ∃ g s, A = some ⟨g, s, none⟩ ∧ W.cell? ⟨g, s + k, none⟩ = some (.int .i64 xs[k]) := by
  obtain ⟨g, s, h1, h2, h3, h4⟩ := hA k xs[k] (List.getElem?_eq_getElem hk)
  refine ⟨g, s, h1, ?_⟩
  have e : k * (kInt .i64).size = k := Nat.mul_one k
  rw [e] at h2
  have hl : g < w.heap.size := by
    unfold World.cell? at h2
    cases hh : w.heap[g]? with
    | none => dsimp only at h2; rw [hh] at h2; cases h2
    | some ob => exact (Array.getElem?_eq_some_iff.1 hh).1
  have : W.heap[g]? = w.heap[g]? := hW g hl
  exact (World.cell?_of_block (a := ⟨g, s + k, none⟩) this).trans h2
set_option maxRecDepth 20000 in
set_option maxHeartbeats 400000 in
theorem same_eq (A B : Option Addr) (xs : List Int) (c c' : Nat) (mk mk' : Bool) (m m' : Int) (w : World) (F G : Nat → Prop) (hA : Elems (kInt .i64) w A xs F) (hB : Elems (kInt .i64) w B xs G) (hn : xs.length ≤ maxLen) :
    Calls Tryz.prog 24 #[.agg #[.slice A xs.length c, .slice none 0 0, .bool mk, .int .i64 m], .agg #[.slice B xs.length c', .slice none 0 0, .bool mk', .int .i64 m']] w fun e w' => e = .returned (.bool true) ∧ Below w.heap.size w w' := by
  have Hn := Lib.hid hn
  unfold maxLen at hn
  have HA : Hid (Elems (kInt .i64) w A xs F) := hA
  have HB : Hid (Elems (kInt .i64) w B xs G) := hB
  clear hA hB
  go_enter Tryz.func24, Tryz.ntmps24
  go_wp2
  obtain ⟨W, hW⟩ : ∃ W, W = ((w.alloc (Obj.cells #[Value.slice A xs.length c, Value.slice none 0 0, Value.bool mk, Value.int IntKind.i64 m] 52)).alloc (Obj.cells #[Value.slice B xs.length c', Value.slice none 0 0, Value.bool mk', Value.int IntKind.i64 m'] 52)) := ⟨_, rfl⟩
  rw [← hW]
  have hold : ∀ k, k < w.heap.size → W.heap[k]? = w.heap[k]? := fun k hk => by
    rw [hW, Below.heap_alloc _ _ _ (by simp; omega), Below.heap_alloc _ _ _ hk]
  have hbel : Below w.heap.size w W := by
    rw [hW]; exact ((Below.refl _ _).alloc (Nat.le_refl _) _).alloc (by simp) _
  have c0 : W.cell? ⟨w.heap.size, 0, none⟩ = some (.slice A xs.length c) := by rw [hW]; simp [go_sem]
  have c1 : W.cell? ⟨w.heap.size, 1, none⟩ = some (.slice none 0 0) := by rw [hW]; simp [go_sem]
  have d0 : W.cell? ⟨w.heap.size + 1, 0, none⟩ = some (.slice B xs.length c') := by rw [hW]; simp [go_sem]
  have d1 : W.cell? ⟨w.heap.size + 1, 1, none⟩ = some (.slice none 0 0) := by rw [hW]; simp [go_sem]
  have HW := Lib.hid hW
  have Hold := Lib.hid hold
  have Hbel := Lib.hid hbel
  clear hW hold hbel
  go_loopw [5] (SameRel xs.length W) (fun i _ => xs.length - (intOf i).toNat)
  case atStart => exact ⟨0, Nat.zero_le _, rfl, 0, rfl⟩
  case round =>
    obtain ⟨k, hk, rfl, j, rfl⟩ := hrel
    by_cases hlt : k < xs.length
    · have hlt2 : (k : Int) < (xs.length : Int) := by omega
      obtain ⟨g, s, rfl, hg⟩ := same_cells HA.out Hold.out hlt
      obtain ⟨g', s', rfl, hg'⟩ := same_cells HB.out Hold.out hlt
      go_wp2
      go_quiet (fail)
      go_wp2
      all_goals
        rw [show ((k : Int) + 1) = ((k + 1 : Nat) : Int) from rfl]
        exact ⟨⟨k + 1, hlt, rfl, _, rfl⟩, all_measure hlt⟩
    · have hlt2 : ¬ (k : Int) < (xs.length : Int) := by omega
      go_wp2
      go_loopw [6] (fun i wr => i = .int .i64 0 ∧ wr = W.drewN j) (fun _ _ => 0)
      case atStart => exact ⟨rfl, rfl⟩
      case round =>
        obtain ⟨rfl, rfl⟩ := hrel
        go_wp2
        go_ret
        exact ⟨rfl, Hbel.out.os, Hbel.out.tape, Hbel.out.output, Hbel.out.size, Hbel.out.block⟩
end Go.Proofs.YtojicidicefdjaaGreat
namespace Go.Proofs.YtojicidicefdjaaGreat
open Go Go.RowKit Go.Hs
theorem below_drewN {B : Nat} {a w : World} (h : Below B a w) (n : Nat) : Below B a (w.drewN n) := ⟨h.os, h.tape, h.output, h.size, h.block⟩
def AlikeRel (n : Nat) (w : World) (i : Value) (wr : World) : Prop := ∃ k : Nat, k ≤ n ∧ i = .int .i64 k ∧ Below w.heap.size w wr
theorem eye_at {w wr : World} {A : Option Addr} {xss : List (List Int)} {R : Nat → Prop} (h : Elems kEye w A xss R) (hb : Below w.heap.size w wr) (hR : ∀ k, R k → k < w.heap.size) {k : Nat} (hk : k < xss.length) :
    ∃ g s A' c' mk m, A = some ⟨g, s, none⟩ ∧ wr.cell? ⟨g, s + k * 4, none⟩ = some (.slice A' xss[k].length c') ∧ wr.cell? ⟨g, s + k * 4 + 1, none⟩ = some (.slice none 0 0) ∧ wr.cell? ⟨g, s + k * 4 + 2, none⟩ = some (.bool mk) ∧ wr.cell? ⟨g, s + k * 4 + 3, none⟩ = some (.int .i64 m) ∧
      Elems (kInt .i64) wr A' xss[k] R ∧ xss[k].length ≤ maxLen := by
  obtain ⟨g, s, h1, h2⟩ := h k xss[k] (List.getElem?_eq_getElem hk)
  have h3 := kEye.same h2 (w' := wr) fun k hk => hb.block k (hR k hk)
  obtain ⟨⟨A', c', e1, e2, e3, e4, e5⟩, f1, ⟨mk, f2⟩, m, f3⟩ := h3
  exact ⟨g, s, A', c', mk, m, h1, e1, f1, f2, f3, e4, e5⟩
theorem keep8 {W w' : World} (hb : Below W.drew.heap.size W.drew w') {g g' : Nat} {p0 p1 p2 p3 q0 q1 q2 q3 : Nat} {a0 a1 a2 a3 b0 b1 b2 b3 : Value} (ha : g < W.drew.heap.size) (hb' : g' < W.drew.heap.size)
    (h0 : W.cell? ⟨g, p0, none⟩ = some a0) (h1 : W.cell? ⟨g, p1, none⟩ = some a1) (h2 : W.cell? ⟨g, p2, none⟩ = some a2) (h3 : W.cell? ⟨g, p3, none⟩ = some a3)
    (k0 : W.cell? ⟨g', q0, none⟩ = some b0) (k1 : W.cell? ⟨g', q1, none⟩ = some b1) (k2 : W.cell? ⟨g', q2, none⟩ = some b2) (k3 : W.cell? ⟨g', q3, none⟩ = some b3) :
    w'.cell? ⟨g, p0, none⟩ = some a0 ∧ w'.cell? ⟨g, p1, none⟩ = some a1 ∧ w'.cell? ⟨g, p2, none⟩ = some a2 ∧ w'.cell? ⟨g, p3, none⟩ = some a3 ∧ w'.cell? ⟨g', q0, none⟩ = some b0 ∧ w'.cell? ⟨g', q1, none⟩ = some b1 ∧ w'.cell? ⟨g', q2, none⟩ = some b2 ∧ w'.cell? ⟨g', q3, none⟩ = some b3 :=
  have f : ∀ o, w'.cell? ⟨g, o, none⟩ = W.cell? ⟨g, o, none⟩ := fun o => hb.cell (p := ⟨g, o, none⟩) ha
  have f' : ∀ o, w'.cell? ⟨g', o, none⟩ = W.cell? ⟨g', o, none⟩ := fun o => hb.cell (p := ⟨g', o, none⟩) hb'
  ⟨(f _).trans h0, (f _).trans h1, (f _).trans h2, (f _).trans h3, (f' _).trans k0, (f' _).trans k1, (f' _).trans k2, (f' _).trans k3⟩
set_option maxRecDepth 20000 in
set_option maxHeartbeats 400000 in
theorem alike_eq (A B : Option Addr) (xss yss : List (List Int)) (c c' : Nat) (but : Int) (w : World) (R : Nat → Prop) (hA : Elems kEye w A xss R) (hB : Elems kEye w B yss R) (hR : ∀ k, R k → k < w.heap.size) (hl : yss.length = xss.length) (hn : xss.length ≤ maxLen)
    (heq : ∀ k : Nat, (k : Int) ≠ but → xss[k]? = yss[k]?) :
    Calls Tryz.prog 25 #[.slice A xss.length c, .slice B xss.length c', .int .i64 but] w fun e w' => e = .returned (.bool true) ∧ Below w.heap.size w w' := by
  have Hn := Lib.hid hn
  unfold maxLen at hn
  have HA := Lib.hid hA
  have HB := Lib.hid hB
  have HR := Lib.hid hR
  have Hl := Lib.hid hl
  have Heq := Lib.hid heq
  clear hA hB hR hl heq
  go_enter Tryz.func25, Tryz.ntmps25
  go_wp2
  go_loopw [7] (AlikeRel xss.length w) (fun i _ => xss.length - (intOf i).toNat)
  case atStart => exact ⟨0, Nat.zero_le _, rfl, Below.refl _ _⟩
  case round =>
    obtain ⟨k, hk, rfl, hbel⟩ := hrel
    by_cases hlt : k < xss.length
    · have hlt2 : (k : Int) < (xss.length : Int) := by omega
      obtain ⟨g, s, A1, c1, mk1, m1, rfl, a0, a1, a2, a3, ael, aml⟩ := eye_at HA.out hbel HR.out hlt
      obtain ⟨g', s', B1, d1, mk2, m2, rfl, b0, b1, b2, b3, bel, bml⟩ := eye_at HB.out hbel HR.out (show k < yss.length by rw [Hl.out]; exact hlt)
      have Hael := Lib.hid ael
      have Hbel2 := Lib.hid bel
      have Haml := Lib.hid aml
      have Hbel := Lib.hid hbel
      clear ael bel aml bml hbel
      by_cases hbut : (k : Int) = but
      · have hbut2 : ((k : Int) != but) = false := by simp [hbut]
        have Hbut := Lib.hid hbut
        clear hbut
        go_wp2
        go_quiet (fail)
        go_wp2
        all_goals
          rw [show ((k : Int) + 1) = ((k + 1 : Nat) : Int) from rfl]
          exact ⟨⟨k + 1, hlt, rfl, below_drewN Hbel.out _⟩, all_measure hlt⟩
      · have hbut2 : ((k : Int) != but) = true := by simp [hbut]
        have heq2 : xss[k] = yss[k]'(by rw [Hl.out]; exact hlt) := by
          have := Heq.out k hbut
          rw [List.getElem?_eq_getElem hlt, List.getElem?_eq_getElem (by rw [Hl.out]; exact hlt)] at this
          exact Option.some.inj this
        have Hbut := Lib.hid hbut
        have Hbel3 := Lib.hid (heq2 ▸ Hbel2.out : Elems (kInt .i64) wr B1 xss[k] R)
        rw [← heq2] at b0
        have Heq2 := Lib.hid heq2
        clear hbut heq2 Hbel2
        go_wp2
        have ga : g < wr.drew.heap.size := cell_lt (w := wr) a0
        have gb : g' < wr.drew.heap.size := cell_lt (w := wr) b0
        have Hb2 := Lib.hid (below_drewN Hbel.out 1 : Below w.heap.size w wr.drew)
        have HE1 : Hid (Elems (kInt .i64) wr.drew A1 xss[k] R) := Hael.out
        have HE2 : Hid (Elems (kInt .i64) wr.drew B1 xss[k] R) := Hbel3.out
        clear Hael Hbel3 Hbel
        go_region_held3 (fun w' => w'.cell? ⟨g, s + k * 4, none⟩ = some (.slice A1 xss[k].length c1) ∧ w'.cell? ⟨g, s + k * 4 + 1, none⟩ = some (.slice none 0 0) ∧ w'.cell? ⟨g, s + k * 4 + 2, none⟩ = some (.bool mk1) ∧ w'.cell? ⟨g, s + k * 4 + 3, none⟩ = some (.int .i64 m1) ∧ w'.cell? ⟨g', s' + k * 4, none⟩ = some (.slice B1 xss[k].length d1) ∧ w'.cell? ⟨g', s' + k * 4 + 1, none⟩ = some (.slice none 0 0) ∧ w'.cell? ⟨g', s' + k * 4 + 2, none⟩ = some (.bool mk2) ∧ w'.cell? ⟨g', s' + k * 4 + 3, none⟩ = some (.int .i64 m2)) (first | go_keep | exact keep8 (by assumption) ga gb a0 a1 a2 a3 b0 b1 b2 b3) ((go_at_call 24; refine (same_eq A1 B1 xss[k] c1 d1 mk1 mk2 m1 m2 wr.drew R R HE1.out HE2.out Haml.out).mono ?_; rintro e w' ⟨rfl, hb⟩))
        go_wp2
        all_goals
          rw [show ((k : Int) + 1) = ((k + 1 : Nat) : Int) from rfl]
          exact ⟨⟨k + 1, hlt, rfl, Hb2.out.trans (hb.mono Hb2.out.size)⟩, all_measure hlt⟩
    · have hlt2 : ¬ (k : Int) < (xss.length : Int) := by omega
      go_wp2
      go_ret
      exact ⟨rfl, hbel⟩
end Go.Proofs.YtojicidicefdjaaGreat
