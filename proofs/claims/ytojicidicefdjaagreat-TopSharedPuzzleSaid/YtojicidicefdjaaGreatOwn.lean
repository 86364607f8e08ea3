/- Proved here, with no condition of its own: the functions that copy. -/
import Derived.Test.YtojicidicefdjaaGreatEye
import Derived.Test.YtojicidicefdjaaGreatHA
namespace Go.Proofs.YtojicidicefdjaaGreat
open Go Go.RowKit Go.Hs
theorem info49 : (Tryz.prog.info? 66).map (fun i => (i.zero, i.size, i.bytes)) = some (some (.slice none 0 0), 1, 24) := by kernel_rfl
theorem und22 : Tryz.prog.underlying 22 = some (.slice 66) := by kernel_rfl
set_option maxRecDepth 20000 in
set_option maxHeartbeats 400000 in
theorem copied_int (A : Option Addr) (n c : Nat) (vals : List Value) (w : World) (hv : RowReads w A vals) (hl : vals.length = n * 1) (h1 : ∀ u ∈ vals, u.oneCell' = true) (hn : n ≤ 4000) :
    Calls Tryz.prog 60 #[.slice A n c] w (CopyPost 3 1 n vals w) := by
  obtain ⟨i0, hi0, hz0, hz1, hz2⟩ := info_parts info3
  have Hv := Lib.hid hv
  have Hl := Lib.hid hl
  have H1 := Lib.hid h1
  have Hm : Hid (0 + n ≤ maxLen) := by show _ ≤ maxLen; unfold maxLen; omega
  have Hy : Hid ((0 + n) * 8 ≤ 140737488355328) := by show (0 + n) * 8 ≤ _; omega
  clear hv hl h1
  by_cases h0 : A = none
  · subst h0
    have hv0 : vals = [] := by
      by_cases e : vals = []
      · exact e
      · obtain ⟨ad, e1, _⟩ := Hv.out e; cases e1
    subst hv0
    obtain rfl : n = 0 := by have := Hl.out; simp at this; omega
    go_enter Tryz.func60, Tryz.ntmps60
    go_wp2
    go_ret
    exact ⟨_, rfl, World.ownsRow_nil _ _ _ _, ⟨rfl, rfl, rfl, Nat.le_refl _, fun _ _ _ => rfl⟩⟩
  · obtain ⟨ad, rfl⟩ : ∃ ad, A = some ad := by cases A with | none => exact absurd rfl h0 | some a => exact ⟨a, rfl⟩
    have Hc : Hid (∀ j u, vals[j]? = some u → w.cell? (ad.add j) = some u) := by
      show ∀ j u, vals[j]? = some u → w.cell? (ad.add j) = some u
      intro j u hj
      obtain ⟨ad', e1, e2⟩ := Hv.out (by rintro rfl; simp at hj)
      cases e1
      exact e2 j u hj
    clear h0
    go_enter Tryz.func60, Tryz.ntmps60
    go_wp2_with ((at_builtin; refine wpList_append_own _ rfl (.const (.slice none 0 0)) (.tmp 3) 42 rfl w.heap.size 3 i0 (.int .i64 0) 1 8 und49 hi0 hz0 hz1 hz2 rfl (by decide) (.slice none 0 0) 0 [] (by simp [Act.eval]) (World.ownsRow_nil _ _ _ _) ad n c vals (by simp [Act.eval]) Hl.out Hc.out H1.out Hm.out Hy.out (Nat.le_refl _) ?_); intro v1 w1 hown1 hgrow _)
    go_ret
    exact ⟨v1, rfl, by simpa using hown1, hgrow⟩
set_option maxRecDepth 20000 in
set_option maxHeartbeats 400000 in
theorem copied_ints (A : Option Addr) (n c : Nat) (vals : List Value) (w : World) (hv : RowReads w A vals) (hl : vals.length = n * 1) (h1 : ∀ u ∈ vals, u.oneCell' = true) (hn : n ≤ 4000) :
    Calls Tryz.prog 59 #[.slice A n c] w (CopyPost 66 1 n vals w) := by
  obtain ⟨i0, hi0, hz0, hz1, hz2⟩ := info_parts info49
  have Hv := Lib.hid hv
  have Hl := Lib.hid hl
  have H1 := Lib.hid h1
  have Hm : Hid (0 + n ≤ maxLen) := by show _ ≤ maxLen; unfold maxLen; omega
  have Hy : Hid ((0 + n) * 24 ≤ 140737488355328) := by show (0 + n) * 24 ≤ _; omega
  clear hv hl h1
  by_cases h0 : A = none
  · subst h0
    have hv0 : vals = [] := by
      by_cases e : vals = []
      · exact e
      · obtain ⟨ad, e1, _⟩ := Hv.out e; cases e1
    subst hv0
    obtain rfl : n = 0 := by have := Hl.out; simp at this; omega
    go_enter Tryz.func59, Tryz.ntmps59
    go_wp2
    go_ret
    exact ⟨_, rfl, World.ownsRow_nil _ _ _ _, ⟨rfl, rfl, rfl, Nat.le_refl _, fun _ _ _ => rfl⟩⟩
  · obtain ⟨ad, rfl⟩ : ∃ ad, A = some ad := by cases A with | none => exact absurd rfl h0 | some a => exact ⟨a, rfl⟩
    have Hc : Hid (∀ j u, vals[j]? = some u → w.cell? (ad.add j) = some u) := by
      show ∀ j u, vals[j]? = some u → w.cell? (ad.add j) = some u
      intro j u hj
      obtain ⟨ad', e1, e2⟩ := Hv.out (by rintro rfl; simp at hj)
      cases e1
      exact e2 j u hj
    clear h0
    go_enter Tryz.func59, Tryz.ntmps59
    go_wp2_with ((at_builtin; refine wpList_append_own _ rfl (.const (.slice none 0 0)) (.tmp 3) 22 rfl w.heap.size 66 i0 (.slice none 0 0) 1 24 und22 hi0 hz0 hz1 hz2 rfl (by decide) (.slice none 0 0) 0 [] (by simp [Act.eval]) (World.ownsRow_nil _ _ _ _) ad n c vals (by simp [Act.eval]) Hl.out Hc.out H1.out Hm.out Hy.out (Nat.le_refl _) ?_); intro v1 w1 hown1 hgrow _)
    go_ret
    exact ⟨v1, rfl, by simpa using hown1, hgrow⟩
end Go.Proofs.YtojicidicefdjaaGreat
namespace Go.Proofs.YtojicidicefdjaaGreat
open Go Go.RowKit Go.Hs
theorem own_ints (A : Option Addr) (c : Nat) (xs : List Int) (w : World) (F : Nat → Prop) (h : Elems (kInt .i64) w A xs F) (hn : xs.length ≤ 4000) :
    Calls Tryz.prog 60 #[.slice A xs.length c] w (OwnSlice (kInt .i64) xs w) :=
  (copied_int A xs.length c (xs.map (.int .i64)) w (reads_of_ints h) (by simp) (one_ints _ _) hn).mono fun _ _ h => ownSlice_of_copy h
theorem own_nil {K : Kind} {w w' : World} {c : Nat} (h : Below w.heap.size w w') : OwnSlice K [] w (.returned (.slice none 0 c)) w' :=
  ⟨none, c, rfl, (fun i d hd => by cases i <;> cases hd), h⟩
theorem own_form {w : World} {base n : Nat} {e : TypeId} {size : Nat} {v : Value} {xs : List Value} (h : w.ownsRow base e size v n xs) : ∃ B cap, v = .slice B n cap ∧ (B = none → n = 0) := by
  rcases h.2 with ⟨rfl, rfl⟩ | ⟨g, cap, cur, rfl, _⟩
  · exact ⟨none, 0, rfl, fun _ => rfl⟩
  · exact ⟨_, _, rfl, fun h => by cases h⟩
theorem own_head {w : World} {base n cap : Nat} {e : TypeId} {size : Nat} {B : Option Addr} {xs : List Value} (h : w.ownsRow base e size (.slice B n cap) n xs) (hB : B ≠ none) : ∃ g, B = some ⟨g, 0, none⟩ := by
  rcases h.2 with ⟨h1, _⟩ | ⟨g, cap', cur, h1, _⟩
  · cases h1; exact absurd rfl hB
  · cases h1; exact ⟨g, rfl⟩
theorem und23 : Tryz.prog.underlying 22 = some (.slice 66) := by kernel_rfl
set_option maxRecDepth 20000 in
set_option maxHeartbeats 400000 in
theorem own_perms (A : Option Addr) (c : Nat) (ds : List (List Int)) (w : World) (F : Nat → Prop) (h : Elems (kSlice (kInt .i64)) w A ds F) (hF : ∀ k, F k → k < w.heap.size) (hn : ds.length ≤ 4000) (hr : ∀ d ∈ ds, d.length ≤ 4000) :
    Calls Tryz.prog 38 #[.slice A ds.length c] w (OwnSlice (kSlice (kInt .i64)) ds w) := by
  obtain ⟨vals, hvl, hv1, hvr, hvc⟩ := reads_of_slices h
  have Hv1 := Lib.hid hv1
  have Hvr := Lib.hid hvr
  have Hvl := Lib.hid hvl
  have Hvc := Lib.hid hvc
  have Hh := Lib.hid h
  have HF := Lib.hid hF
  have Hr := Lib.hid hr
  have Hvl2 : Hid (vals.length = ds.length * 1) := by show vals.length = ds.length * 1; rw [Nat.mul_one]; exact hvl
  clear hvl hv1 hvr hvc h hF hr
  go_enter Tryz.func38, Tryz.ntmps38
  go_wp2_with ((go_at_call 59); (refine (copied_ints A ds.length c vals w Hvr.out Hvl2.out Hv1.out hn).mono ?_); (intro e w1 hpost); (obtain ⟨v1, rfl, hown, hgr⟩ := hpost); (have Hown := Lib.hid hown); (have Hgr := Lib.hid hgr); clear hown hgr)
  obtain ⟨B, cap, hv1, hB⟩ := own_form Hown.out
  subst hv1
  by_cases hB0 : B = none
  · subst hB0
    have h0 := hB rfl
    have hds : ds = [] := List.length_eq_zero_iff.1 h0
    subst hds
    go_loopw [3] (fun i wr => i = .int .i64 0 ∧ wr = w1) (fun _ _ => 0)
    case atStart => exact ⟨rfl, rfl⟩
    case round =>
      obtain ⟨rfl, rfl⟩ := hrel
      go_wp2
      go_ret
      exact own_nil (below_of_grown Hgr.out)
  · obtain ⟨g, rfl⟩ : ∃ g, B = some ⟨g, 0, none⟩ := own_head Hown.out hB0
    have Hst := Lib.hid (rows_start Hown.out Hgr.out Hh.out Hvc.out Hvl.out)
    clear hB hB0
    go_loopw [3] (fun i wr => ∃ k : Nat, k ≤ ds.length ∧ i = .int .i64 k ∧ RowsRel (kInt .i64) ds F w g k wr) (fun i _ => ds.length - (intOf i).toNat)
    case atStart => exact ⟨0, Nat.zero_le _, rfl, Hst.out⟩
    case round =>
      obtain ⟨k, hk, rfl, hrr⟩ := hrel
      by_cases hlt : k < ds.length
      · have hlt2 : (k : Int) < (ds.length : Int) := by omega
        obtain ⟨A1, c1, hc1, hf1, _, hel1⟩ := hrr.row k ds[k] (List.getElem?_eq_getElem hlt)
        have Hel : Hid (Elems (kInt .i64) wr A1 ds[k] F) := Elems.same (hel1 (Nat.lt_irrefl k)) fun b hb => hrr.below.block b (HF.out b hb)
        have hrl : ds[k].length ≤ 4000 := Hr.out _ (List.getElem_mem hlt)
        have hgs : g < wr.heap.size := hrr.hi
        have Hrr := Lib.hid hrr
        have hnn : ds.length ≤ maxLen := by unfold maxLen; omega
        have Hnn := Lib.hid hnn
        clear hrr hel1 hnn
        go_wp2_with ((go_at_call 60); (refine (own_ints A1 c1 ds[k] wr F Hel.out hrl).mono ?_); (intro e w2 hpost); (obtain ⟨A2, c2, rfl, hel2, hb2⟩ := hpost); (have Hel2 := Lib.hid hel2); (have Hb2 := Lib.hid hb2); (have hc2 : w2.cell? ⟨g, k, none⟩ = some (.slice A1 ds[k].length c1) := (hb2.cell (p := ⟨g, k, none⟩) hgs).trans hc1); (have hf2 : w2.frozen? ⟨g, k, none⟩ = false := (hb2.frozen (p := ⟨g, k, none⟩) hgs).trans hf1); clear hel2 hb2)
        all_goals
          rw [show ((k : Int) + 1) = ((k + 1 : Nat) : Int) from rfl]
          exact ⟨⟨k + 1, hlt, rfl, rows_step Hrr.out (List.getElem?_eq_getElem hlt) Hel2.out Hb2.out⟩, all_measure hlt⟩
      · have hlt2 : ¬ (k : Int) < (ds.length : Int) := by omega
        go_wp2
        go_ret
        exact rows_end hrr (Nat.le_antisymm hk (Nat.le_of_not_lt hlt)) fun d hd => Nat.le_trans (Hr.out d hd) (by unfold maxLen; decide)
end Go.Proofs.YtojicidicefdjaaGreat
namespace Go.Proofs.YtojicidicefdjaaGreat
open Go Go.RowKit Go.Hs
set_option maxRecDepth 20000 in
set_option maxHeartbeats 400000 in
theorem own_group (a0 : Int) (A : Option Addr) (c : Nat) (ds : List (List Int)) (w : World) (F : Nat → Prop) (h : Elems (kSlice (kInt .i64)) w A ds F) (hF : ∀ k, F k → k < w.heap.size) (hn : ds.length ≤ 4000) (hr : ∀ d ∈ ds, d.length ≤ 4000) :
    Calls Tryz.prog 26 #[.agg #[.int .i64 a0, .slice A ds.length c]] w (fun e w' => ∃ A' c', e = .returned (.agg #[.int .i64 a0, .slice A' ds.length c']) ∧ Elems (kSlice (kInt .i64)) w' A' ds (Fresh w w') ∧ Below w.heap.size w w') := by
  have Hh := Lib.hid h
  have HF := Lib.hid hF
  have Hr := Lib.hid hr
  clear h hF hr
  go_enter Tryz.func26, Tryz.ntmps26
  go_wp2_with ((go_at_call 38); (refine (own_perms  A c ds _ F (Hh.out.same fun b hb => heap_alloc2 _ _ (HF.out b hb)) (fun k hk => Nat.lt_of_lt_of_le (HF.out k hk) (alloc2_le _ _ _)) hn Hr.out).mono ?_); (intro e w2 hpost); (obtain ⟨A2, c2, rfl, hel2, hb2⟩ := hpost); (have Hel2 := Lib.hid hel2); (have Hb2 := Lib.hid hb2); (have bx := boxes2 hb2); (obtain ⟨c00, f00⟩ := bx.1 0 _ rfl); (obtain ⟨c01, f01⟩ := bx.1 1 _ rfl); (obtain ⟨c10, f10⟩ := bx.2.1 0 _ rfl); (obtain ⟨c11, f11⟩ := bx.2.1 1 _ rfl); (have hz := bx.2.2); (clear bx); clear hel2 hb2)
  refine bodyPost_ret (v := .agg #[.int .i64 a0, .slice A2 ds.length c2]) (by simp [results, Tryz.results26, go_sem, c10, c11]; try rfl) rfl ?_
  refine ⟨A2, c2, rfl, own_fin Hel2.out Hb2.out ?_⟩
  exact .set (.set (.set .refl (.inl rfl)) (.inr rfl)) (.inr rfl)
set_option maxRecDepth 20000 in
set_option maxHeartbeats 400000 in
theorem own_shared (a0 : Int) (a1 : Int) (a2 : Int) (a3 : Int) (a4 : Int) (A : Option Addr) (c : Nat) (ds : List (List Int)) (w : World) (F : Nat → Prop) (h : Elems (kSlice (kInt .i64)) w A ds F) (hF : ∀ k, F k → k < w.heap.size) (hn : ds.length ≤ 4000) (hr : ∀ d ∈ ds, d.length ≤ 4000) :
    Calls Tryz.prog 5 #[.agg #[.int .i64 a0, .int .i64 a1, .int .i64 a2, .int .i64 a3, .int .i64 a4, .slice A ds.length c]] w (fun e w' => ∃ A' c', e = .returned (.agg #[.int .i64 a0, .int .i64 a1, .int .i64 a2, .int .i64 a3, .int .i64 a4, .slice A' ds.length c']) ∧ Elems (kSlice (kInt .i64)) w' A' ds (Fresh w w') ∧ Below w.heap.size w w') := by
  have Hh := Lib.hid h
  have HF := Lib.hid hF
  have Hr := Lib.hid hr
  clear h hF hr
  go_enter Tryz.func5, Tryz.ntmps5
  go_wp2_with ((go_at_call 26); (refine (own_group a4 A c ds _ F (Hh.out.same fun b hb => heap_alloc2 _ _ (HF.out b hb)) (fun k hk => Nat.lt_of_lt_of_le (HF.out k hk) (alloc2_le _ _ _)) hn Hr.out).mono ?_); (intro e w2 hpost); (obtain ⟨A2, c2, rfl, hel2, hb2⟩ := hpost); (have Hel2 := Lib.hid hel2); (have Hb2 := Lib.hid hb2); (have bx := boxes2 hb2); (obtain ⟨c00, f00⟩ := bx.1 0 _ rfl); (obtain ⟨c01, f01⟩ := bx.1 1 _ rfl); (obtain ⟨c02, f02⟩ := bx.1 2 _ rfl); (obtain ⟨c03, f03⟩ := bx.1 3 _ rfl); (obtain ⟨c04, f04⟩ := bx.1 4 _ rfl); (obtain ⟨c05, f05⟩ := bx.1 5 _ rfl); (obtain ⟨c10, f10⟩ := bx.2.1 0 _ rfl); (obtain ⟨c11, f11⟩ := bx.2.1 1 _ rfl); (obtain ⟨c12, f12⟩ := bx.2.1 2 _ rfl); (obtain ⟨c13, f13⟩ := bx.2.1 3 _ rfl); (obtain ⟨c14, f14⟩ := bx.2.1 4 _ rfl); (obtain ⟨c15, f15⟩ := bx.2.1 5 _ rfl); (have hz := bx.2.2); (clear bx); clear hel2 hb2)
  refine bodyPost_ret (v := .agg #[.int .i64 a0, .int .i64 a1, .int .i64 a2, .int .i64 a3, .int .i64 a4, .slice A2 ds.length c2]) (by simp [results, Tryz.results5, go_sem, c10, c11, c12, c13, c14, c15]; try rfl) rfl ?_
  refine ⟨A2, c2, rfl, own_fin Hel2.out Hb2.out ?_⟩
  exact .set (.set (.set (.set (.set (.set (.set (.set .refl (.inl rfl)) (.inl rfl)) (.inr rfl)) (.inr rfl)) (.inr rfl)) (.inr rfl)) (.inr rfl)) (.inr rfl)
end Go.Proofs.YtojicidicefdjaaGreat
