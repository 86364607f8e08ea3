/- Proved here, with no condition of its own: the functions of package coset. -/
import Derived.Test.YtjjhajjdohnjoaaGreatTLook
import Derived.Test.YtjjhajjdohnjoaaGreatHA
import Derived.Deep.RegionLaw
import Derived.IntWalk
namespace Go.Proofs.YtjjhajjdohnjoaaGreat
open Go Go.RowKit Go.Hs
def badB (n : Nat) (s : Int) : Bool := decide (s < -1) || decide ((n : Int) ≤ s)
theorem ret_bool {a b : Bool} (h : a = b) : Ending.returned (.bool a) = .returned (.bool b) := by rw [h]
set_option maxRecDepth 20000 in
set_option maxHeartbeats 400000 in
theorem bad_any (s : Int) (n c : Nat) (A : Option Addr) (cb : Nat) (w : World) (hc : w.cell? ⟨cb, 0, none⟩ = some (.slice A n c)) :
    Calls Tryz.prog 27 #[.int .i64 s, .pointer (some ⟨cb, 0, none⟩)] w fun e w' => e = .returned (.bool (badB n s)) ∧ w = w' := by
  by_cases h1 : s < -1
  · have hb : Hid (badB n s = true) := by show badB n s = true; simp [badB, h1]
    go_enter Tryz.func27, Tryz.ntmps27
    go_wp2
    go_ret
    exact ⟨by rw [hb.out]; rfl, rfl⟩
  · by_cases h2 : (n : Int) ≤ s
    · have hb : Hid (badB n s = true) := by show badB n s = true; simp [badB, h2]
      go_enter Tryz.func27, Tryz.ntmps27
      go_wp2
      go_ret
      exact ⟨by rw [hb.out]; rfl, rfl⟩
    · have hb : Hid (badB n s = false) := by show badB n s = false; simp [badB, h1, h2]
      go_enter Tryz.func27, Tryz.ntmps27
      go_wp2
      go_ret
      exact ⟨by rw [hb.out]; rfl, rfl⟩
/-- 'IndexFunc': where the first bad one stands. -/
def IdxPost (q : Int → Bool) (xs : List Int) (w : World) (e : Ending) (w' : World) : Prop := ∃ r : Int, e = .returned (.int .i64 r) ∧ (r < 0 → ∀ x ∈ xs, q x = false) ∧ w = w'
def HasPost (q : Int → Bool) (xs : List Int) (w : World) (e : Ending) (w' : World) : Prop := ∃ t : Bool, e = .returned (.bool t) ∧ (t = false → ∀ x ∈ xs, q x = false) ∧ w = w'
def NoneTo (q : Int → Bool) (xs : List Int) (i : Value) : Prop := ∃ k : Nat, k ≤ xs.length ∧ i = .int .i64 k ∧ ∀ j x, j < k → xs[j]? = some x → q x = false
theorem none_step {q : Int → Bool} {xs : List Int} {k : Nat} {x : Int} (h : ∀ j x, j < k → xs[j]? = some x → q x = false) (hk : xs[k]? = some x) (hx : q x = false) : NoneTo q xs (.int .i64 ((k + 1 : Nat) : Int)) :=
  ⟨k + 1, (List.getElem?_eq_some_iff.1 hk).1, rfl, fun j y hj hy => by
    by_cases e : j = k
    · subst e; rw [hk] at hy; cases hy; exact hx
    · exact h j y (by omega) hy⟩
theorem none_end {q : Int → Bool} {xs : List Int} {k : Nat} (h : ∀ j x, j < k → xs[j]? = some x → q x = false) (hk : ¬ k < xs.length) : ∀ x ∈ xs, q x = false := fun x hx => by
  obtain ⟨j, hj⟩ := List.mem_iff_getElem?.1 hx
  exact h j x (by have := (List.getElem?_eq_some_iff.1 hj).1; omega) hj
theorem elem_cell {w : World} {A : Option Addr} {xs : List Int} {F : Nat → Prop} (h : Elems (kInt .i64) w A xs F) {k : Nat} {x : Int} (hk : xs[k]? = some x) : ∃ g s, A = some ⟨g, s, none⟩ ∧ w.cell? ⟨g, s + k, none⟩ = some (.int .i64 x) := by
  obtain ⟨g, s, h1, h2, _⟩ := h k x hk
  rw [show k * (kInt .i64).size = k from Nat.mul_one k] at h2
  exact ⟨g, s, h1, h2⟩
set_option maxRecDepth 20000 in
set_option maxHeartbeats 400000 in
theorem index_bad (B : Option Addr) (c' : Nat) (xs : List Int) (F : Nat → Prop) (n c : Nat) (A : Option Addr) (cb : Nat) (w : World) (hc : Hid (w.cell? ⟨cb, 0, none⟩ = some (.slice A n c))) (hel : Hid (Elems (kInt .i64) w B xs F)) (hm : Hid (xs.length ≤ maxLen)) :
    Calls Tryz.prog 37 #[.slice B xs.length c', .func (.func 27) #[] #[.pointer (some ⟨cb, 0, none⟩)]] w (IdxPost (badB n) xs w) := by
  have hm2 := hm.out
  unfold maxLen at hm2
  go_enter Tryz.func37, Tryz.ntmps37
  go_wp2
  go_loop [8] (NoneTo (badB n) xs) (fun i => xs.length - (intOf i).toNat)
  case atStart => exact ⟨0, Nat.zero_le _, rfl, fun j x hj => absurd hj (Nat.not_lt_zero _)⟩
  case round =>
    obtain ⟨k, hk, rfl, hno⟩ := hrel
    have Hno := Lib.hid hno
    clear hno
    by_cases hlt : k < xs.length
    · have hlt2 : (k : Int) < (xs.length : Int) := by omega
      obtain ⟨x, hx⟩ : ∃ x, xs[k]? = some x := ⟨_, List.getElem?_eq_getElem hlt⟩
      obtain ⟨g, s, rfl, hcell⟩ := elem_cell hel.out hx
      have Hx := Lib.hid hx
      clear hx
      by_cases hq : badB n x = true
      · have Hq := Lib.hid hq
        clear hq
        go_wp2_with ((go_at_call 27); (refine (bad_any x n c A cb w hc.out).mono ?_); (intro e w' hp); (obtain ⟨rfl, rfl⟩ := hp); (rw [Hq.out]))
        go_ret
        exact ⟨_, rfl, fun h => absurd h (by omega), rfl⟩
      · have hq2 : badB n x = false := by simpa using hq
        have Hq := Lib.hid hq2
        clear hq hq2
        go_wp2_with ((go_at_call 27); (refine (bad_any x n c A cb w hc.out).mono ?_); (intro e w' hp); (obtain ⟨rfl, rfl⟩ := hp); (rw [Hq.out]))
        all_goals
          rw [show ((k : Int) + 1) = ((k + 1 : Nat) : Int) from rfl]
          exact ⟨none_step Hno.out Hx.out Hq.out, all_measure hlt⟩
    · have hlt2 : ¬ (k : Int) < (xs.length : Int) := by omega
      go_wp2
      go_ret
      exact ⟨_, rfl, fun _ => none_end Hno.out hlt, rfl⟩
set_option maxRecDepth 20000 in
set_option maxHeartbeats 400000 in
theorem has_bad (B : Option Addr) (c' : Nat) (xs : List Int) (F : Nat → Prop) (n c : Nat) (A : Option Addr) (cb : Nat) (w : World) (hc : Hid (w.cell? ⟨cb, 0, none⟩ = some (.slice A n c))) (hel : Hid (Elems (kInt .i64) w B xs F)) (hm : Hid (xs.length ≤ maxLen)) :
    Calls Tryz.prog 26 #[.slice B xs.length c', .func (.func 27) #[] #[.pointer (some ⟨cb, 0, none⟩)]] w (HasPost (badB n) xs w) := by
  go_enter Tryz.func26, Tryz.ntmps26
  go_wp2_with ((go_at_call 37); (refine (index_bad B c' xs F n c A cb w hc hel hm).mono ?_); (intro e w' hp); (obtain ⟨r, rfl, hr, rfl⟩ := hp); (have Hr := Lib.hid hr); clear hr)
  go_ret
  exact ⟨_, rfl, fun h => Hr.out (by simpa using h), rfl⟩
end Go.Proofs.YtjjhajjdohnjoaaGreat
namespace Go.Proofs.YtjjhajjdohnjoaaGreat
open Go Go.RowKit Go.Hs
theorem xor_lt {q g : Nat} (h : q < 2 * g) : q ^^^ 1 < 2 * g := by
  have h1 : (q ^^^ 1) / 2 = q / 2 := by rw [Nat.xor_div_two]; simp
  omega
theorem xor_i64 (q : Nat) (h : q < 1000000) : bits .xor .i64 (q : Int) 1 = ((q ^^^ 1 : Nat) : Int) := by
  have hx : q ^^^ 1 < 2 ^ 20 := Nat.xor_lt_two_pow (by omega) (by omega)
  have h1 : (BitVec.ofInt 64 (q : Int)).toNat = q := by
    rw [BitVec.ofInt_natCast, BitVec.toNat_ofNat]; exact Nat.mod_eq_of_lt (by omega)
  show IntKind.i64.wrap ((BitVec.ofInt 64 (q : Int) ^^^ BitVec.ofInt 64 1).toNat : Int) = _
  rw [BitVec.toNat_xor, h1, show (BitVec.ofInt 64 1).toNat = 1 from by decide]
  simp [IntKind.wrap, IntKind.bits, IntKind.signed]
  omega
/-- A table that is one. -/
def RowOK (g : Int) (n : Nat) (row : List Int) : Prop := (row.length : Int) = 2 * g ∧ ∀ x ∈ row, -1 ≤ x ∧ x < (n : Int)
def CheckedT (g : Int) (ds : List (List Int)) : Prop := 1 ≤ g ∧ g ≤ 16 ∧ 1 ≤ ds.length ∧ ds.length ≤ 20000 ∧ ∀ row ∈ ds, RowOK g ds.length row
def CheckPost (g : Int) (ds : List (List Int)) (w : World) (e : Ending) (w' : World) : Prop :=
  ∃ er row : Int, e = .returned (.tuple #[.int .i64 er, .int .i64 row]) ∧ (er = 0 → CheckedT g ds) ∧ Below w.heap.size w w'
theorem row_cell {K : Kind} {w : World} {A : Option Addr} {ds : List (List K.Data)} {F : Nat → Prop} (h : Elems (kSlice K) w A ds F) {k : Nat} {row : List K.Data} (hk : ds[k]? = some row) :
    ∃ g s B c, A = some ⟨g, s, none⟩ ∧ w.cell? ⟨g, s + k, none⟩ = some (.slice B row.length c) ∧ Elems K w B row F ∧ row.length ≤ maxLen := by
  obtain ⟨g, s, h1, B, c, h2, _, _, h5, h6⟩ := h k row hk
  rw [show k * (kSlice K).size = k from Nat.mul_one k] at h2
  exact ⟨g, s, B, c, h1, h2, h5, h6⟩
def Rows1 (g : Int) (ds : List (List Int)) (i : Value) : Prop := ∃ k : Nat, k ≤ ds.length ∧ i = .int .i64 k ∧ ∀ j row, j < k → ds[j]? = some row → RowOK g ds.length row
theorem rows1_step {g : Int} {ds : List (List Int)} {k : Nat} {row : List Int} (h : ∀ j row, j < k → ds[j]? = some row → RowOK g ds.length row) (hk : ds[k]? = some row) (hr : RowOK g ds.length row) : Rows1 g ds (.int .i64 ((k + 1 : Nat) : Int)) :=
  ⟨k + 1, (List.getElem?_eq_some_iff.1 hk).1, rfl, fun j y hj hy => by
    by_cases e : j = k
    · subst e; rw [hk] at hy; cases hy; exact hr
    · exact h j y (by omega) hy⟩
theorem rows1_end {g : Int} {ds : List (List Int)} {k : Nat} (h : ∀ j row, j < k → ds[j]? = some row → RowOK g ds.length row) (hk : ¬ k < ds.length) : ∀ row ∈ ds, RowOK g ds.length row := fun x hx => by
  obtain ⟨j, hj⟩ := List.mem_iff_getElem?.1 hx
  exact h j x (by have := (List.getElem?_eq_some_iff.1 hj).1; omega) hj
theorem rowOK_of {g : Int} {n : Nat} {row : List Int} (h : (row.length : Int) = 2 * g) (hb : ∀ x ∈ row, badB n x = false) : RowOK g n row :=
  ⟨h, fun x hx => by have := hb x hx; simp [badB] at this; omega⟩
set_option maxRecDepth 20000 in
set_option maxHeartbeats 1000000 in
theorem check_any (g : Int) (A : Option Addr) (c : Nat) (ds : List (List Int)) (w : World) (F : Nat → Prop) (h : Elems (kSlice (kInt .i64)) w A ds F) (hF : ∀ k, F k → k < w.heap.size) (hm : ds.length ≤ maxLen) :
    Calls Tryz.prog 8 #[.int .i64 g, .slice A ds.length c] w (CheckPost g ds w) := by
  have Hh : Hid (Elems (kSlice (kInt .i64)) (w.alloc (.cells #[.slice A ds.length c] 23)) A ds F) := h.same fun k hk => Below.heap_alloc _ _ _ (hF k hk)
  have Hb : Hid (Below w.heap.size w (w.alloc (.cells #[.slice A ds.length c] 23))) := (Below.refl _ _).alloc (Nat.le_refl _) _
  have Hc : Hid ((w.alloc (.cells #[.slice A ds.length c] 23)).cell? ⟨w.heap.size, 0, none⟩ = some (.slice A ds.length c)) := (block_cell (box1 _) rfl).1
  have Hm : Hid (ds.length ≤ maxLen) := hm
  unfold maxLen at hm
  clear h hF
  by_cases g1 : g < 1
  · go_enter Tryz.func8, Tryz.ntmps8
    go_wp2
    go_ret2
    exact ⟨_, _, rfl, fun h => absurd h (by decide), Hb.out⟩
  by_cases g2 : 16 < g
  · go_enter Tryz.func8, Tryz.ntmps8
    go_wp2
    go_ret2
    exact ⟨_, _, rfl, fun h => absurd h (by decide), Hb.out⟩
  by_cases g3 : ((ds.length : Nat) : Int) < 1
  · go_enter Tryz.func8, Tryz.ntmps8
    go_wp2
    go_ret2
    exact ⟨_, _, rfl, fun h => absurd h (by decide), Hb.out⟩
  by_cases g4 : (20000 : Int) < ds.length
  · go_enter Tryz.func8, Tryz.ntmps8
    go_wp2
    go_ret2
    exact ⟨_, _, rfl, fun h => absurd h (by decide), Hb.out⟩
  go_enter Tryz.func8, Tryz.ntmps8
  go_wp2
  obtain ⟨W, HW⟩ : ∃ W, Hid (W = w.alloc (Obj.cells #[Value.slice A ds.length c] 23)) := ⟨_, rfl⟩
  rw [← HW.out]
  rw [← HW.out] at Hh Hb Hc
  have hc := Hc.out
  go_loop [30] (Rows1 g ds) (fun i => ds.length - (intOf i).toNat)
  case atStart => exact ⟨0, Nat.zero_le _, rfl, fun j x hj => absurd hj (Nat.not_lt_zero _)⟩
  case round =>
    obtain ⟨k, hk, rfl, hno⟩ := hrel
    have Hno := Lib.hid hno
    clear hno
    by_cases hlt : k < ds.length
    · have hlt2 : (k : Int) < (ds.length : Int) := by omega
      obtain ⟨row, hrow⟩ : ∃ row, ds[k]? = some row := ⟨_, List.getElem?_eq_getElem hlt⟩
      obtain ⟨gA, sA, B, cB, rfl, hcell, hel, hml⟩ := row_cell Hh.out hrow
      have Hrow := Lib.hid hrow
      have Hel : Hid (Elems (kInt .i64) W B row F) := hel
      have Hml : Hid (row.length ≤ maxLen) := hml
      clear hrow hel hml
      have Hg : Hid (1 ≤ g ∧ g ≤ 16) := ⟨by omega, by omega⟩
      go_wp2_with ((go_at_call 26); (refine (has_bad B cB row F ds.length c _ w.heap.size W Hc Hel Hml).mono ?_); (intro e w' hp); (obtain ⟨t, rfl, ht, rfl⟩ := hp); (have Ht := Lib.hid ht); clear ht)
      · go_ret2
        exact ⟨_, _, rfl, fun h => absurd h (by decide), Hb.out⟩
      · go_ret2
        exact ⟨_, _, rfl, fun h => absurd h (by decide), Hb.out⟩
      · have ht2 : t = false := by assumption
        have hb2 : ((row.length : Int) != 2 * g) = false := by assumption
        have heq : (row.length : Int) = 2 * g := by simpa using hb2
        rw [show ((k : Int) + 1) = ((k + 1 : Nat) : Int) from rfl]
        exact ⟨rows1_step Hno.out Hrow.out (rowOK_of heq (Ht.out ht2)), all_measure hlt⟩
    · have hlt2 : ¬ (k : Int) < (ds.length : Int) := by omega
      have Hok : Hid (CheckedT g ds) := ⟨by omega, by omega, by omega, by omega, rows1_end Hno.out hlt⟩
      clear Hno
      go_wp2
      go_loop [48] (fun i => ∃ k : Nat, k ≤ ds.length ∧ i = .int .i64 k) (fun i => ds.length - (intOf i).toNat)
      case atStart => exact ⟨0, Nat.zero_le _, rfl⟩
      case round =>
        obtain ⟨k, hk, rfl⟩ := hrel
        by_cases hlt : k < ds.length
        · have hlt2 : (k : Int) < (ds.length : Int) := by omega
          obtain ⟨row, hrow⟩ : ∃ row, ds[k]? = some row := ⟨_, List.getElem?_eq_getElem hlt⟩
          obtain ⟨gA, sA, B, cB, rfl, hcell, hel, hml⟩ := row_cell Hh.out hrow
          have Hrow : Hid (RowOK g ds.length row) := Hok.out.2.2.2.2 row (List.mem_of_getElem? hrow)
          have Hel : Hid (Elems (kInt .i64) W B row F) := hel
          have Hml : Hid (row.length ≤ maxLen) := hml
          have hrl : (row.length : Int) ≤ 32 := by have := Hrow.out.1; omega
          unfold maxLen at hml
          clear hrow hel
          go_wp2
          go_loop [55] (fun i => ∃ q : Nat, q ≤ row.length ∧ i = .int .i64 q) (fun i => row.length - (intOf i).toNat)
          case atStart => exact ⟨0, Nat.zero_le _, rfl⟩
          case round =>
            obtain ⟨q, hq, rfl⟩ := hrel
            by_cases hlt3 : q < row.length
            · have hlt4 : (q : Int) < (row.length : Int) := by omega
              obtain ⟨x, hx⟩ : ∃ x, row[q]? = some x := ⟨_, List.getElem?_eq_getElem hlt3⟩
              obtain ⟨gB, sB, rfl, hxc⟩ := elem_cell Hel.out hx
              have hxb := Hrow.out.2 x (List.mem_of_getElem? hx)
              have hxr : x < (ds.length : Int) := hxb.2
              clear hx hxb
              by_cases hx0 : 0 ≤ x
              · obtain ⟨m, rfl⟩ := Int.eq_ofNat_of_zero_le hx0
                obtain ⟨row2, hrow2⟩ : ∃ row2, ds[m]? = some row2 := ⟨_, List.getElem?_eq_getElem (by omega)⟩
                obtain ⟨gA', sA', B2, cB2, hA', hcell2, hel2, hml2⟩ := row_cell Hh.out hrow2
                cases hA'
                have hR2 := (Hok.out.2.2.2.2 row2 (List.mem_of_getElem? hrow2)).1
                have hR1 := Hrow.out.1
                have hxl : q ^^^ 1 < row2.length := by have := xor_lt (q := q) (g := g.toNat) (by omega); omega
                have hxl2 : (((q ^^^ 1 : Nat)) : Int) < (row2.length : Int) := by omega
                obtain ⟨y, hy⟩ : ∃ y, row2[q ^^^ 1]? = some y := ⟨_, List.getElem?_eq_getElem hxl⟩
                obtain ⟨gC, sC, rfl, hyc⟩ := elem_cell hel2 hy
                have hbx : bits .xor .i64 (q : Int) 1 = ((q ^^^ 1 : Nat) : Int) := xor_i64 q (by omega)
                clear hrow2 hel2 hml2 hR2 hR1 hy
                go_wp2
                · go_ret2
                  exact ⟨_, _, rfl, fun h => absurd h (by decide), Hb.out⟩
                · rw [show ((q : Int) + 1) = ((q + 1 : Nat) : Int) from rfl]
                  exact ⟨⟨q + 1, hlt3, rfl⟩, all_measure hlt3⟩
              · go_wp2
                all_goals
                  rw [show ((q : Int) + 1) = ((q + 1 : Nat) : Int) from rfl]
                  exact ⟨⟨q + 1, hlt3, rfl⟩, all_measure hlt3⟩
            · have hlt4 : ¬ (q : Int) < (row.length : Int) := by omega
              go_wp2
              all_goals
                rw [show ((k : Int) + 1) = ((k + 1 : Nat) : Int) from rfl]
                exact ⟨⟨k + 1, hlt, rfl⟩, all_measure hlt⟩
        · have hlt2 : ¬ (k : Int) < (ds.length : Int) := by omega
          go_wp2
          go_ret2
          exact ⟨_, _, rfl, fun _ => Hok.out, Hb.out⟩
end Go.Proofs.YtjjhajjdohnjoaaGreat
namespace Go.Proofs.YtjjhajjdohnjoaaGreat
open Go Go.RowKit Go.Hs
def SomeInt (w : World) (e : Ending) (w' : World) : Prop := ∃ r : Int, e = .returned (.int .i64 r) ∧ w = w'
def SomeBool (w : World) (e : Ending) (w' : World) : Prop := ∃ t : Bool, e = .returned (.bool t) ∧ w = w'
def UpTo (n : Nat) (i : Value) : Prop := ∃ k : Nat, k ≤ n ∧ i = .int .i64 k
set_option maxRecDepth 20000 in
set_option maxHeartbeats 400000 in
theorem index_any (B : Option Addr) (c : Nat) (xs : List Int) (F : Nat → Prop) (y : Int) (w : World) (hel : Hid (Elems (kInt .i64) w B xs F)) (hm : Hid (xs.length ≤ maxLen)) :
    Calls Tryz.prog 39 #[.slice B xs.length c, .int .i64 y] w (SomeInt w) := by
  have hm2 := hm.out
  unfold maxLen at hm2
  go_enter Tryz.func39, Tryz.ntmps39
  go_wp2
  go_loop [8] (UpTo xs.length) (fun i => xs.length - (intOf i).toNat)
  case atStart => exact ⟨0, Nat.zero_le _, rfl⟩
  case round =>
    obtain ⟨k, hk, rfl⟩ := hrel
    by_cases hlt : k < xs.length
    · have hlt2 : (k : Int) < (xs.length : Int) := by omega
      obtain ⟨x, hx⟩ : ∃ x, xs[k]? = some x := ⟨_, List.getElem?_eq_getElem hlt⟩
      obtain ⟨g, s, rfl, hcell⟩ := elem_cell hel.out hx
      clear hx
      go_wp2
      · go_ret
        exact ⟨_, rfl, rfl⟩
      · rw [show ((k : Int) + 1) = ((k + 1 : Nat) : Int) from rfl]
        exact ⟨⟨k + 1, hlt, rfl⟩, all_measure hlt⟩
    · have hlt2 : ¬ (k : Int) < (xs.length : Int) := by omega
      go_wp2
      go_ret
      exact ⟨_, rfl, rfl⟩
set_option maxRecDepth 20000 in
set_option maxHeartbeats 400000 in
theorem contains_any (B : Option Addr) (c : Nat) (xs : List Int) (F : Nat → Prop) (y : Int) (w : World) (hel : Hid (Elems (kInt .i64) w B xs F)) (hm : Hid (xs.length ≤ maxLen)) :
    Calls Tryz.prog 30 #[.slice B xs.length c, .int .i64 y] w (SomeBool w) := by
  go_enter Tryz.func30, Tryz.ntmps30
  go_wp2_with ((go_at_call 39); (refine (index_any B c xs F y w hel hm).mono ?_); (intro e w' hp); (obtain ⟨r, rfl, rfl⟩ := hp))
  go_ret
  exact ⟨_, rfl, rfl⟩
set_option maxRecDepth 20000 in
set_option maxHeartbeats 400000 in
theorem complete1_any (B : Option Addr) (c : Nat) (xs : List Int) (F : Nat → Prop) (w : World) (hel : Hid (Elems (kInt .i64) w B xs F)) (hm : Hid (xs.length ≤ maxLen)) :
    Calls Tryz.prog 29 #[.slice B xs.length c] w (SomeBool w) := by
  go_enter Tryz.func29, Tryz.ntmps29
  go_wp2_with ((go_at_call 30); (refine (contains_any B c xs F _ w hel hm).mono ?_); (intro e w' hp); (obtain ⟨r, rfl, rfl⟩ := hp))
  go_ret
  exact ⟨_, rfl, rfl⟩
set_option maxRecDepth 20000 in
set_option maxHeartbeats 400000 in
theorem indexF_any (A : Option Addr) (c : Nat) (ds : List (List Int)) (F : Nat → Prop) (w : World) (hel : Hid (Elems (kSlice (kInt .i64)) w A ds F)) (hm : Hid (ds.length ≤ maxLen)) :
    Calls Tryz.prog 38 #[.slice A ds.length c, .func (.func 29) #[] #[]] w (SomeInt w) := by
  have hm2 := hm.out
  unfold maxLen at hm2
  go_enter Tryz.func38, Tryz.ntmps38
  go_wp2
  go_loop [8] (UpTo ds.length) (fun i => ds.length - (intOf i).toNat)
  case atStart => exact ⟨0, Nat.zero_le _, rfl⟩
  case round =>
    obtain ⟨k, hk, rfl⟩ := hrel
    by_cases hlt : k < ds.length
    · have hlt2 : (k : Int) < (ds.length : Int) := by omega
      obtain ⟨row, hx⟩ : ∃ row, ds[k]? = some row := ⟨_, List.getElem?_eq_getElem hlt⟩
      obtain ⟨g, s, B, cB, rfl, hcell, hel2, hml⟩ := row_cell hel.out hx
      have Hel2 : Hid (Elems (kInt .i64) w B row F) := hel2
      have Hml : Hid (row.length ≤ maxLen) := hml
      clear hx hel2 hml
      go_wp2_with ((go_at_call 29); (refine (complete1_any B cB row F w Hel2 Hml).mono ?_); (intro e w' hp); (obtain ⟨t, rfl, rfl⟩ := hp))
      · go_ret
        exact ⟨_, rfl, rfl⟩
      · rw [show ((k : Int) + 1) = ((k + 1 : Nat) : Int) from rfl]
        exact ⟨⟨k + 1, hlt, rfl⟩, all_measure hlt⟩
    · have hlt2 : ¬ (k : Int) < (ds.length : Int) := by omega
      go_wp2
      go_ret
      exact ⟨_, rfl, rfl⟩
set_option maxRecDepth 20000 in
set_option maxHeartbeats 400000 in
theorem containsF_any (A : Option Addr) (c : Nat) (ds : List (List Int)) (F : Nat → Prop) (w : World) (hel : Hid (Elems (kSlice (kInt .i64)) w A ds F)) (hm : Hid (ds.length ≤ maxLen)) :
    Calls Tryz.prog 28 #[.slice A ds.length c, .func (.func 29) #[] #[]] w (SomeBool w) := by
  go_enter Tryz.func28, Tryz.ntmps28
  go_wp2_with ((go_at_call 38); (refine (indexF_any A c ds F w hel hm).mono ?_); (intro e w' hp); (obtain ⟨r, rfl, rfl⟩ := hp))
  go_ret
  exact ⟨_, rfl, rfl⟩
set_option maxRecDepth 20000 in
set_option maxHeartbeats 400000 in
theorem complete_any (A : Option Addr) (c : Nat) (ds : List (List Int)) (F : Nat → Prop) (w : World) (hel : Hid (Elems (kSlice (kInt .i64)) w A ds F)) (hm : Hid (ds.length ≤ maxLen)) :
    Calls Tryz.prog 10 #[.slice A ds.length c] w (SomeBool w) := by
  go_enter Tryz.func10, Tryz.ntmps10
  go_wp2_with ((go_at_call 28); (refine (containsF_any A c ds F w hel hm).mono ?_); (intro e w' hp); (obtain ⟨r, rfl, rfl⟩ := hp))
  go_ret
  exact ⟨_, rfl, rfl⟩
end Go.Proofs.YtjjhajjdohnjoaaGreat
namespace Go.Proofs.YtjjhajjdohnjoaaGreat
open Go Go.RowKit Go.Hs
/-- A table of the call's own, or none; an error. -/
def TabPost (w : World) (e : Ending) (w' : World) : Prop :=
  ∃ (A : Option Addr) (c : Nat) (er : Int) (ds : List (List Int)), e = .returned (.tuple #[.slice A ds.length c, .int .i64 er]) ∧ Elems (kSlice (kInt .i64)) w' A ds (Fresh w w') ∧ ds.length ≤ maxLen ∧ Below w.heap.size w w'
theorem tab_none {w w' : World} {er : Int} (h : Below w.heap.size w w') : TabPost w (.returned (.tuple #[.slice none 0 0, .int .i64 er])) w' :=
  ⟨none, 0, er, [], rfl, (fun i d hd => by cases i <;> cases hd), Nat.zero_le _, h⟩
theorem made1 (n : Nat) : ∀ i, i < n → (madeCells #[Value.slice none 0 0] n)[i]? = some (.slice none 0 0) := by
  intro i hi
  unfold madeCells
  rw [Array.getElem?_map, Array.getElem?_range, if_pos hi]
  show some (#[Value.slice none 0 0][i % (#[Value.slice none 0 0] : Array Value).size]!) = _
  rw [show (#[Value.slice none 0 0] : Array Value).size = 1 from rfl, Nat.mod_one]
  rfl
set_option maxRecDepth 20000 in
set_option maxHeartbeats 1000000 in
theorem images_any (g : Int) (A : Option Addr) (c : Nat) (ds : List (List Int)) (w : World) (F : Nat → Prop) (h : Elems (kSlice (kInt .i64)) w A ds F) (hF : ∀ k, F k → k < w.heap.size) (hm : ds.length ≤ maxLen) :
    Calls Tryz.prog 16 #[.int .i64 g, .slice A ds.length c] w (TabPost w) := by
  have Hh := Lib.hid h
  have HF := Lib.hid hF
  have Hm : Hid (ds.length ≤ maxLen) := hm
  clear h hF hm
  go_enter Tryz.func16, Tryz.ntmps16
  go_wp2_with ((go_at_call 8); (refine (check_any g A c ds w F Hh.out HF.out Hm.out).mono ?_); (intro e w1 p1); (obtain ⟨er, ro, rfl, hok, hb1⟩ := p1); (have Hok := Lib.hid hok); (have Hb1 := Lib.hid hb1); clear hok hb1)
  · go_ret2
    exact tab_none Hb1.out
  · have her : er = 0 := by first | omega | (have h := (by assumption : (er != 0) = false); simpa using h)
    have Hck := Lib.hid (Hok.out her)
    have Her := Lib.hid her
    obtain ⟨g1, g2, g3, g4, _⟩ := Hck.out
    have Hel1 : Hid (Elems (kSlice (kInt .i64)) w1 A ds F) := Elems.same Hh.out fun k hk => Hb1.out.block k (HF.out k hk)
    obtain ⟨G, rfl⟩ := Int.eq_ofNat_of_zero_le (show 0 ≤ g by omega)
    obtain ⟨i49, hi49, hz0, hz1, hz2⟩ := info_parts info49
    have hmk : ∀ W : World, (Instr.makeSlice 22 (.int .i64 (G : Int)) (.int .i64 (G : Int))).run Tryz.prog W = .ok (.slice (some ⟨W.heap.size, 0, none⟩) G G) (W.alloc (.cells (madeCells (Value.slice none 0 0).cells (G * i49.size)) 49)) :=
      fun W => run_make_rowN 22 49 i49 _ und22 hi49 hz0 .i64 .i64 G G (Nat.le_refl _) (by rw [hz2]; omega) (by omega) W
    clear her
    go_wp2_with ((go_at_call 10); (refine (complete_any A c ds F w1 Hel1 Hm).mono ?_); (intro e w2 p2); (obtain ⟨t, rfl, rfl⟩ := p2))
    · go_ret2
      exact tab_none Hb1.out
    · have ht : t = true := by simpa using (by assumption : (!t) = false)
      subst ht
      have Hst : Hid (Img 3 w w1.heap.size G 0 (w1.alloc (Obj.cells (madeCells #[Value.slice none 0 0] G) 49))) := img_start Hb1.out (made1 G)
      obtain ⟨i3, hi3, hy0, hy1, hy2⟩ := info_parts info3
      clear hmk hi49 hz0 hz1 hz2
      rw [show (!true) = false from rfl]
      go_loopw [28] (fun i wr => ∃ k : Nat, k ≤ ds.length ∧ i = .int .i64 k ∧ Img 3 w w1.heap.size G (k * G) wr) (fun i _ => ds.length - (intOf i).toNat)
      case atStart => exact ⟨0, Nat.zero_le _, rfl, by rw [Nat.zero_mul]; exact Hst.out⟩
      case round =>
        obtain ⟨wo, rfl⟩ : ∃ wo : World, wo = wr := ⟨_, rfl⟩
        obtain ⟨k, hk, rfl, him⟩ := hrel
        have Him := Lib.hid him
        by_cases hlt : k < ds.length
        · have hlt2 : (k : Int) < (ds.length : Int) := by omega
          obtain ⟨row, hrow⟩ : ∃ row, ds[k]? = some row := ⟨_, List.getElem?_eq_getElem hlt⟩
          have Hel2 : Hid (Elems (kSlice (kInt .i64)) wo A ds F) := Elems.same Hh.out fun k hk => him.below.block k (HF.out k hk)
          obtain ⟨gA, sA, B, cB, rfl, hcell, hel, hml⟩ := row_cell Hel2.out hrow
          have Hrw : Hid (RowOK G ds.length row) := Hck.out.2.2.2.2 row (List.mem_of_getElem? hrow)
          have Hel3 : Hid (Elems (kInt .i64) w B row F) := by
            obtain ⟨gA', sA', B', cB', hA', hcell', hel', _⟩ := row_cell Hh.out hrow
            cases hA'
            have e1 : w.cell? ⟨gA, sA + k, none⟩ = wo.cell? ⟨gA, sA + k, none⟩ := (him.below.cell (p := ⟨gA, sA + k, none⟩) (cell_lt hcell')).symm
            rw [e1, hcell] at hcell'
            cases hcell'
            exact hel'
          clear him hrow hel hml
          go_wp2
          go_loopw [34] (fun i wr => ∃ q : Nat, q ≤ G ∧ i = .int .i64 q ∧ Img 3 w w1.heap.size G (k * G + q) wr) (fun i _ => G - (intOf i).toNat)
          case atStart => exact ⟨0, Nat.zero_le _, rfl, Him.out⟩
          case round =>
            obtain ⟨q, hq, rfl, hin⟩ := hrel
            by_cases hlt3 : q < G
            · have hlt4 : (q : Int) < (G : Int) := by omega
              obtain ⟨v, n, xs, hvc, hvf, hvo, hvn, hvb⟩ := hin.row q hlt3
              have hlen2 := Hrw.out.1
              obtain ⟨m, hm⟩ : ∃ m : Nat, m = 2 * q := ⟨_, rfl⟩
              obtain ⟨x, hx⟩ : ∃ x, row[m]? = some x := ⟨_, List.getElem?_eq_getElem (by omega)⟩
              have hix : (m : Int) < (row.length : Int) := by omega
              have hix2 : m < row.length := by omega
              obtain ⟨gB, sB, rfl, hxc0⟩ := elem_cell Hel3.out hx
              have hxc : wr.cell? ⟨gB, sB + m, none⟩ = some (.int .i64 x) := (hin.below.cell (p := ⟨gB, sB + m, none⟩) (cell_lt hxc0)).trans hxc0
              have hbig : w1.heap.size < wr.heap.size := hin.hi
              have Hhin := Lib.hid hin
              have Hvo := Lib.hid hvo
              have Hvb := Lib.hid hvb
              have hown' : Hid ((wr.drew.alloc (.cells #[.int .i64 x] 3)).ownsRow w.heap.size 3 1 v n (xs.map (.int .i64))) := World.ownsRow.alloc (w := wr.drew) hvo _
              have hkg : k * G ≤ 20000 * 16 := Nat.mul_le_mul (by omega) (by omega)
              have Hnm : Hid (n + 1 ≤ maxLen) := by show n + 1 ≤ maxLen; unfold maxLen; omega
              have Hny : Hid ((n + 1) * 8 ≤ 140737488355328) := by show (n + 1) * 8 ≤ 140737488355328; omega
              have Hnn : Hid (n + 1 ≤ (k * G + q) + 1) := Nat.succ_le_succ hvn
              have hbw : w.heap.size ≤ wr.heap.size := hin.below.size
              clear hin hvo hvb hvn hxc0 hx hlen2 hkg
              have hwm : IntKind.i64.wrap (2 * (q : Int)) = (m : Int) := by rw [hm]; exact IntWalk.i64_in _ (by omega)
              clear hm
              have hix4 : (m < List.length (α := (kInt .i64).Data) row) = True := eq_true hix2
              go_wp2
              go_region_law ((refine step_append_lies _ rfl (.tmp 42) (.tmp 48) 49 rfl w.heap.size 3 i3 (.int .i64 0) 1 8 und49 hi3 hy0 hy1 hy2 rfl (by decide) v n (xs.map (.int .i64)) (by simp [Act.eval]) hown'.out ⟨wr.heap.size, 0, none⟩ 1 1 [.int .i64 x] (by simp [Act.eval]) rfl (World.news_of_block (heap_alloc_new _ _)) (by simp [Value.oneCell']) (by decide) Hnm.out Hny.out (by simp; omega) (wr.heap.size + 1) (by simp) ?_); intro g cap w7 hown1 hgrow hat hlt; (have hc1 : w7.cell? ⟨w1.heap.size, q, none⟩ = some v := (eye_cell (w := wr) hbig (Ne.symm Hvb.out) hgrow q).1.trans hvc); (have hf1 : w7.frozen? ⟨w1.heap.size, q, none⟩ = false := (eye_cell (w := wr) hbig (Ne.symm Hvb.out) hgrow q).2.trans hvf))
              all_goals
                go_wp2
                rw [show ((q : Int) + 1) = ((q + 1 : Nat) : Int) from rfl]
                exact ⟨⟨q + 1, hlt3, rfl, img_step' Hhin.out hlt3 hvc Hvb.out Hvo.out hown1 hgrow hat Hnn.out⟩, all_measure hlt3⟩
            · have hlt4 : ¬ (q : Int) < (G : Int) := by omega
              have Hin : Hid (Img 3 w w1.heap.size G ((k + 1) * G) wr) := by
                have e : (k + 1) * G = k * G + q := by rw [Nat.succ_mul, Nat.le_antisymm hq (Nat.le_of_not_lt hlt3)]
                rw [e]; exact hin
              clear hin
              go_wp2
              all_goals
                rw [show ((k : Int) + 1) = ((k + 1 : Nat) : Int) from rfl]
                exact ⟨⟨k + 1, hlt, rfl, Hin.out⟩, all_measure hlt⟩
        · have hlt2 : ¬ (k : Int) < (ds.length : Int) := by omega
          clear him
          go_wp2
          go_ret2
          obtain ⟨os, ho1, ho2⟩ := img_end Him.out (by have : k * G ≤ 20000 * 16 := Nat.mul_le_mul (by omega) (by omega); unfold maxLen; omega)
          exact ⟨some ⟨w1.heap.size, 0, none⟩, G, 0, os, by rw [ho1]; rfl, ho2, by rw [ho1]; unfold maxLen; omega, Him.out.below⟩
end Go.Proofs.YtjjhajjdohnjoaaGreat
