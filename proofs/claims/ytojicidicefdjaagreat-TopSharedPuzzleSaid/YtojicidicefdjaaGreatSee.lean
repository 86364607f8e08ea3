/- Proved here, with no condition of its own: the functions that see. -/
import Derived.Test.YtojicidicefdjaaGreatHA
import Derived.Test.YtojicidicefdjaaGreatProg
import Derived.WalkKit
import Derived.WalkSpells
import Derived.Deep.RegionLaw
import Derived.Lib.Hide
import Derived.LoopTactic
namespace Go.Proofs.YtojicidicefdjaaGreat
open Go Go.RowKit Go.Hs
theorem info3 : (Tryz.prog.info? 3).map (fun i => (i.zero, i.size, i.bytes)) = some (some (.int .i64 0), 1, 8) := by kernel_rfl
theorem und49 : Tryz.prog.underlying 42 = some (.slice 3) := by kernel_rfl
theorem eye_cell {w w1 : World} {eb : Nat} {own : Option Nat} {o : Obj} (heb : eb < w.heap.size) (hne : some eb ≠ own) (hg : (w.alloc o).drew.grownBy w1 own) (k : Nat) :
    w1.cell? ⟨eb, k, none⟩ = w.cell? ⟨eb, k, none⟩ ∧ w1.frozen? ⟨eb, k, none⟩ = w.frozen? ⟨eb, k, none⟩ :=
  ⟨World.cell?_of_block (grown_block hg heb hne), World.frozen?_of_block (grown_block hg heb hne)⟩
set_option maxHeartbeats 400000 in
theorem num_see (eb eo xb xo nn : Nat) (v : Value) (xs : List Value) (base : Nat) (X : Int) (w : World)
    (h0 : w.cell? ⟨eb, eo, none⟩ = some v) (h2 : w.cell? ⟨eb, eo + 2, none⟩ = some (.bool false))
    (hf0 : w.frozen? ⟨eb, eo, none⟩ = false)
    (hown : w.ownsRow base 3 1 v nn xs) (hne : Hid (some eb ≠ v.ownBlock)) (hb : base ≤ w.heap.size) (heb : eb < w.heap.size) (hn : nn ≤ 1000000)
    (hx : w.cell? ⟨xb, xo, none⟩ = some (.int .i64 X)) :
    Calls Tryz.prog 27 #[.pointer (some ⟨eb, eo, none⟩), .pointer (some ⟨xb, xo, none⟩)] w (NumPost 3 eb eo base nn xs v.ownBlock w X) := by
  obtain ⟨i0, hi0, hz0, hz1, hz2⟩ := info_parts info3
  have hm : Hid (nn + 1 ≤ maxLen) := by show nn + 1 ≤ maxLen; unfold maxLen; omega
  have hy : Hid ((nn + 1) * 8 ≤ 140737488355328) := by show (nn + 1) * 8 ≤ 140737488355328; omega
  have hown' : Hid ((w.drew.alloc (.cells #[.int .i64 X] 3)).ownsRow base 3 1 v nn xs) := (World.ownsRow.alloc (w := w.drew) hown _)
  clear hown hn
  go_enter Tryz.func27, Tryz.ntmps27
  go_wp2
  go_region_law ((refine step_append_lies _ rfl (.tmp 25) (.tmp 29) 42 rfl base 3 i0 (.int .i64 0) 1 8 und49 hi0 hz0 hz1 hz2 rfl (by decide) v nn xs (by simp [Act.eval]) hown'.out ⟨w.heap.size, 0, none⟩ 1 1 [.int .i64 X] (by simp [Act.eval]) rfl (World.news_of_block (heap_alloc_new _ _)) (by simp [Value.oneCell']) (by decide) hm.out hy.out (by simp; omega) (w.heap.size + 1) (by simp) ?_); intro g cap w1 hown1 hgrow hat hlt; (have hc1 : w1.cell? ⟨eb, eo, none⟩ = some v := (eye_cell heb hne.out hgrow eo).1.trans h0); (have hf1 : w1.frozen? ⟨eb, eo, none⟩ = false := (eye_cell heb hne.out hgrow eo).2.trans hf0))
  all_goals
    go_end0
    exact ⟨rfl, g, cap, w1, hown1, hgrow, hat, rfl⟩
/-- The world once the mark is written. -/
def marked (w : World) (eb eo xb xo : Nat) (n : Int) : World := (w.setCell ⟨eb, eo + 3, none⟩ (.int .i64 n)).setCell ⟨xb, xo, none⟩ (.int .i64 n)
set_option maxHeartbeats 400000 in
theorem num_mark (eb eo xb xo nn : Nat) (v : Value) (xs : List Value) (base : Nat) (X n m : Int) (w W : World)
    (_h0 : w.cell? ⟨eb, eo, none⟩ = some v) (h2 : w.cell? ⟨eb, eo + 2, none⟩ = some (.bool true)) (h3 : w.cell? ⟨eb, eo + 3, none⟩ = some (.int .i64 n))
    (hf3 : w.frozen? ⟨eb, eo + 3, none⟩ = false) (hfx : w.frozen? ⟨xb, xo, none⟩ = false)
    (hwr : Hid (wrap64 (n + 1) = m)) (hWm : Hid (marked w eb eo xb xo m = W))
    (g0 : Hid (W.cell? ⟨eb, eo, none⟩ = some v)) (gf0 : Hid (W.frozen? ⟨eb, eo, none⟩ = false)) (gx : Hid (W.cell? ⟨xb, xo, none⟩ = some (.int .i64 m)))
    (hown : W.ownsRow base 3 1 v nn xs) (hne : Hid (some eb ≠ v.ownBlock)) (hxe : xb ≠ eb) (hb : base ≤ W.heap.size) (heb : eb < W.heap.size) (hn : nn ≤ 1000000)
    (hx : w.cell? ⟨xb, xo, none⟩ = some (.int .i64 X)) :
    Calls Tryz.prog 27 #[.pointer (some ⟨eb, eo, none⟩), .pointer (some ⟨xb, xo, none⟩)] w (NumPost 3 eb eo base nn xs v.ownBlock W m) := by
  obtain ⟨i0, hi0, hz0, hz1, hz2⟩ := info_parts info3
  have hm : Hid (nn + 1 ≤ maxLen) := by show nn + 1 ≤ maxLen; unfold maxLen; omega
  have hy : Hid ((nn + 1) * 8 ≤ 140737488355328) := by show (nn + 1) * 8 ≤ 140737488355328; omega
  have hown' : Hid ((W.drew.alloc (.cells #[.int .i64 m] 3)).ownsRow base 3 1 v nn xs) := (World.ownsRow.alloc (w := W.drew) hown _)
  clear hown hn
  go_enter Tryz.func27, Tryz.ntmps27
  go_wp2
  rw [hwr.out, show (w.setCell ⟨eb, eo + 3, none⟩ (.int .i64 m)).setCell ⟨xb, xo, none⟩ (.int .i64 m) = W from hWm.out]
  clear _h0 h2 h3 hf3 hfx hx hwr hWm
  have k0 := g0.out
  have kf0 := gf0.out
  have kx := gx.out
  clear g0 gf0 gx
  go_region_law ((refine step_append_lies _ rfl (.tmp 25) (.tmp 29) 42 rfl base 3 i0 (.int .i64 0) 1 8 und49 hi0 hz0 hz1 hz2 rfl (by decide) v nn xs (by simp [Act.eval]) hown'.out ⟨W.heap.size, 0, none⟩ 1 1 [.int .i64 m] (by simp [Act.eval]) rfl (World.news_of_block (heap_alloc_new _ _)) (by simp [Value.oneCell']) (by decide) hm.out hy.out (by simp; omega) (W.heap.size + 1) (by simp) ?_); intro g cap w1 hown1 hgrow hat hlt; (have hc1 : w1.cell? ⟨eb, eo, none⟩ = some v := (eye_cell heb hne.out hgrow eo).1.trans k0); (have hf1 : w1.frozen? ⟨eb, eo, none⟩ = false := (eye_cell heb hne.out hgrow eo).2.trans kf0))
  all_goals
    go_end0
    exact ⟨rfl, g, cap, w1, hown1, hgrow, hat, rfl⟩
theorem cell_lt {w : World} {b o : Nat} {v : Value} (h : w.cell? ⟨b, o, none⟩ = some v) : b < w.heap.size := by
  unfold World.cell? at h
  cases hh : w.heap[b]? with
  | none => dsimp only at h; rw [hh] at h; cases h
  | some ob => exact (Array.getElem?_eq_some_iff.1 hh).1
/-- 'num' sees an int. -/
theorem sees_num : Sees Tryz.prog 3 27 (kInt .i64) := by
  intro mk w eb eo b o base F (d : Int) xs ⟨v, n, h0, h1, h2, h3, hf, hown⟩ ⟨hx, hfx, hFb⟩ hF heb hb hlen
  have hrow : some eb ≠ v.ownBlock := fun e => by have := (hown.lt eb e.symm).1; omega
  obtain ⟨hbb, hbe⟩ := hF b hFb
  cases mk with
  | false =>
    refine Calls.mono (num_see eb eo b o xs.length v _ base d w h0 h2 (hf 0 (by omega)) hown hrow hb (by omega) (by omega) hx) fun e w' h => ?_
    obtain ⟨g1, g2, g3, g4⟩ := see_of_num heb hb h0 h1 h2 h3 hf hown h
    refine ⟨g1, _, g2, fun _ => rfl, ?_, ⟨g3.os, g3.tape, g3.output, g3.size, fun k a b _ => g3.block k a b id, g3.other, g3.froz⟩, g4 F hF⟩
    show (xs ++ [(d : Int)]).length ≤ max xs.length 200000 + 1
    rw [List.length_append, show ([(d : Int)] : List Int).length = 1 from rfl]; omega
  | true =>
    have hWs : (marked w eb eo b o (wrap64 (n + 1))).heap.size = w.heap.size := by unfold marked; rw [setCell_size, setCell_size]
    have blk : ∀ k, k ≠ eb → k ≠ b → (marked w eb eo b o (wrap64 (n + 1))).heap[k]? = w.heap[k]? := fun k h1 h2 => by
      unfold marked; rw [Below.heap_setCell _ _ _ _ h2, Below.heap_setCell _ _ _ _ h1]
    have eyeo : ∀ j, j ≠ eo + 3 → (marked w eb eo b o (wrap64 (n + 1))).cell? ⟨eb, j, none⟩ = w.cell? ⟨eb, j, none⟩ := fun j hj => by
      unfold marked
      rw [World.cell?_setCell_other _ _ _ _ (by intro e; cases e; exact hbe rfl), World.cell?_setCell_other _ _ _ _ (by intro e; cases e; exact hj rfl)]
    have frz : ∀ p, (marked w eb eo b o (wrap64 (n + 1))).frozen? p = w.frozen? p := fun p => by unfold marked; rw [World.frozen?_setCell, World.frozen?_setCell]
    have e3 : (marked w eb eo b o (wrap64 (n + 1))).cell? ⟨eb, eo + 3, none⟩ = some (.int .i64 (wrap64 (n + 1))) := by
      unfold marked
      rw [World.cell?_setCell_other _ _ _ _ (by intro e; cases e; exact hbe rfl)]
      exact World.cell?_setCell_same _ _ _ h3
    have xo1 : (w.setCell ⟨eb, eo + 3, none⟩ (.int .i64 (wrap64 (n + 1)))).cell? ⟨b, o, none⟩ = some (.int .i64 d) := by
      rw [World.cell?_setCell_other _ _ _ _ (by intro e; cases e; exact hbe rfl)]; exact hx
    have ex : (marked w eb eo b o (wrap64 (n + 1))).cell? ⟨b, o, none⟩ = some (.int .i64 (wrap64 (n + 1))) := by
      unfold marked
      exact World.cell?_setCell_same _ _ _ xo1
    have exo : ∀ j, j ≠ o → (marked w eb eo b o (wrap64 (n + 1))).cell? ⟨b, j, none⟩ = w.cell? ⟨b, j, none⟩ := fun j hj => by
      unfold marked
      rw [World.cell?_setCell_other _ _ _ _ (by intro e; cases e; exact hj rfl), World.cell?_setCell_other _ _ _ _ (by intro e; cases e; exact hbe rfl)]
    have hownW : (marked w eb eo b o (wrap64 (n + 1))).ownsRow base 3 1 v xs.length (xs.map (.int .i64)) := ownsRow_setCell (ownsRow_setCell hown heb) hbb
    refine Calls.mono (num_mark eb eo b o xs.length v _ base d n (wrap64 (n + 1)) w (marked w eb eo b o (wrap64 (n + 1))) h0 h2 h3 (hf 3 (by omega)) hfx rfl rfl ((eyeo eo (by omega)).trans h0) ((frz _).trans (hf 0 (by omega))) ex hownW hrow hbe (by rw [hWs]; exact hb) (by rw [hWs]; omega) (by omega) hx) fun e w' h => ?_
    obtain ⟨g1, g2, g3, g4⟩ := see_of_num heb (by rw [hWs]; exact hb) ((eyeo eo (by omega)).trans h0) ((eyeo _ (by omega)).trans h1) ((eyeo _ (by omega)).trans h2) e3 (fun j hj => (frz _).trans (hf j hj)) hownW h
    refine ⟨g1, _, g2, (fun h => by cases h), ?_, ⟨g3.os, g3.tape, g3.output, ?_, fun k h1 h2 h3 => ?_, fun j hj => ?_, fun j => (g3.froz j).trans (frz _)⟩, Marked.trans (fun k hk j => ⟨fun u hu => ?_, frz _⟩) (g4 F hF)⟩
    · show (xs ++ [wrap64 (n + 1)]).length ≤ max xs.length 200000 + 1
      rw [List.length_append, show [wrap64 (n + 1)].length = 1 from rfl]; omega
    · have := g3.size; rw [hWs] at this; exact this
    · have hkb : k ≠ b := fun e => h3 ⟨rfl, by rw [e]; exact hFb⟩
      exact (g3.block k h1 h2 id).trans (blk k h2 hkb)
    · exact (g3.other j hj).trans (eyeo j (hj 3 (by omega)))
    · by_cases ekb : k = b
      · subst ekb
        by_cases ej : j = o
        · subst ej
          rw [hx] at hu
          cases hu
          exact ⟨_, ex, .inr ⟨_, _, _, rfl, rfl⟩⟩
        · exact ⟨u, (exo j ej).trans hu, .refl u⟩
      · exact ⟨u, (World.cell?_of_block (blk k (hF k hk).2 ekb)).trans hu, .refl u⟩
end Go.Proofs.YtojicidicefdjaaGreat
namespace Go.Proofs.YtojicidicefdjaaGreat
open Go Go.RowKit Go.Hs
theorem wrap_succ {k n : Nat} (h : k < n) (hn : n ≤ maxLen) : wrap64 ((k : Int) + 1) = ((k + 1 : Nat) : Int) := by
  unfold maxLen at hn
  unfold wrap64
  omega
theorem all_measure {k n : Nat} (h : k < n) : n - (intOf (.int .i64 ((k + 1 : Nat) : Int))).toNat < n - (intOf (.int .i64 (k : Int))).toNat := by
  simp only [intOf, Int.toNat_natCast]
  omega
theorem ownsRow_slice {w : World} {base : Nat} {e : TypeId} {size n : Nat} {v : Value} {xs : List Value} (h : w.ownsRow base e size v n xs) : ∃ B c, v = .slice B n c := by
  rcases h.2 with ⟨h1, h2⟩ | ⟨g, cap, cur, h1, _⟩
  · exact ⟨none, 0, by rw [h1, h2]⟩
  · exact ⟨_, _, h1⟩
theorem eye_cell2 {w w1 : World} {eb : Nat} {own : Option Nat} {o : Obj} (heb : eb < w.heap.size) (hne : some eb ≠ own) (hg : (w.alloc o).grownBy w1 own) (k : Nat) :
    w1.cell? ⟨eb, k, none⟩ = w.cell? ⟨eb, k, none⟩ ∧ w1.frozen? ⟨eb, k, none⟩ = w.frozen? ⟨eb, k, none⟩ :=
  eye_cell (o := o) heb hne ⟨hg.os, hg.tape, hg.output, hg.size, hg.block⟩ k
set_option maxRecDepth 20000 in
set_option maxHeartbeats 400000 in
theorem all_int (mk : Bool) (w : World) (eb eo base : Nat) (F : Nat → Prop) (A : Option Addr) (c : Nat) (ds : List Int) (xs : List Int)
    (he : Eye 3 w eb eo mk base xs) (hds : Elems (kInt .i64) w A ds F) (hmax : Hid (ds.length ≤ maxLen)) (hF : ∀ k, F k → k < base ∧ k ≠ eb) (heb : eb < base) (hb : base ≤ w.heap.size) (hlen : xs.length ≤ 900000) :
    Calls Tryz.prog 35 #[.pointer (some ⟨eb, eo, none⟩), .slice A ds.length c, .func (.func 27) #[] #[]] w (SeePost 3 eb eo mk base xs.length 2 F (vloop (kInt .i64).view ds (xs ++ [(ds.length : Int)])) w) := by
  obtain ⟨v, n, h0, h1, h2, h3, hf, hown⟩ := he
  obtain ⟨i0, hi0, hz0, hz1, hz2⟩ := info_parts info3
  have hne : Hid (some eb ≠ v.ownBlock) := by
    show some eb ≠ v.ownBlock
    exact fun e => by have := (hown.lt eb e.symm).1; omega
  have hm : Hid (xs.length + 1 ≤ maxLen) := by show _ ≤ maxLen; unfold maxLen; omega
  have hy : Hid ((xs.length + 1) * 8 ≤ 140737488355328) := by show (xs.length + 1) * 8 ≤ 140737488355328; omega
  have hown' : Hid ((w.alloc (.cells #[.int .i64 (ds.length : Int)] 3)).ownsRow base 3 1 v xs.length (xs.map (.int .i64))) := (World.ownsRow.alloc (w := w) hown _)
  have hf0 := hf 0 (by omega)
  simp only [Nat.add_zero] at hf0
  have htop2 : Hid (200000 + (kInt .i64).over ≤ max xs.length 200000 + 2) := by show 200000 + 1 ≤ max xs.length 200000 + 2; omega
  have Hown := Lib.hid hown
  have Hf := Lib.hid hf
  have HF := Lib.hid hF
  have Hds : Hid (Elems (kInt .i64) w A ds F) := hds
  have Hlen : Hid (xs.length ≤ 900000) := hlen
  clear hown hf hF hds hlen
  go_enter Tryz.func35, Tryz.ntmps35
  go_wp2_with ((at_builtin; refine wpList_append_lies _ rfl (.tmp 11) (.tmp 14) 42 rfl base 3 i0 (.int .i64 0) 1 8 und49 hi0 hz0 hz1 hz2 rfl (by decide) v xs.length (xs.map (.int .i64)) (by simp [Act.eval]) hown'.out ⟨w.heap.size, 0, none⟩ 1 1 [.int .i64 (ds.length : Int)] (by simp [Act.eval]) rfl (World.news_of_block (heap_alloc_new _ _)) (by simp [Value.oneCell']) (by decide) hm.out hy.out (by simp; omega) (w.heap.size + 1) (by simp) ?_); intro g cap w1 hown1 hgrow hat hlt; (have hc1 : w1.cell? ⟨eb, eo, none⟩ = some v := (eye_cell2 (by omega) hne.out hgrow eo).1.trans h0); (have hf1 : w1.frozen? ⟨eb, eo, none⟩ = false := (eye_cell2 (by omega) hne.out hgrow eo).2.trans hf0))
  go_loopw [6] (AllRel 3 (kInt .i64) mk eb eo base F A ds.length (vloop (kInt .i64).view ds (xs ++ [(ds.length : Int)])) (max xs.length 200000 + 2) w) (fun i _ => ds.length - (intOf i).toNat)
  case atStart =>
    have hp : NumPost 3 eb eo base xs.length (xs.map (.int .i64)) v.ownBlock w (ds.length : Int) (.returned (.tuple #[])) (w1.setCell ⟨eb, eo, none⟩ (.slice (some ⟨g, 0, none⟩) (xs.length + 1) cap)) :=
      ⟨rfl, g, cap, w1, hown1, ⟨hgrow.os, hgrow.tape, hgrow.output, hgrow.size, hgrow.block⟩, hat, rfl⟩
    obtain ⟨_, k2, k3, k4⟩ := see_of_num heb hb h0 h1 h2 h3 Hf.out Hown.out hp
    refine ⟨0, Nat.zero_le _, rfl, _, ds, k2, rfl, Hds.out.same fun b hb' => k3.block b (HF.out b hb').1 (HF.out b hb').2 id, fun _ => rfl, ?_, ⟨k3.os, k3.tape, k3.output, k3.size, fun k a b _ => k3.block k a b id, k3.other, k3.froz⟩, k4 F HF.out⟩
    rw [List.length_append, show ([(ds.length : Int)] : List Int).length = 1 from rfl]; omega
  case round =>
    obtain ⟨k, hk, rfl, xs', ds', he, hdl, hds, hfin, htop, hfr, hmk⟩ := hrel
    have Heye := Lib.hid he
    obtain ⟨v', n', g0, g1, g2, g3, gf, gown⟩ := he
    have hbw : base ≤ wr.heap.size := Nat.le_trans hb hfr.size
    obtain ⟨B, c', rfl⟩ := ownsRow_slice gown
    by_cases hkl : k < ds.length
    · by_cases hl2 : xs'.length < 200000
      · obtain ⟨d, hd⟩ : ∃ d, ds'[k]? = some d := ⟨ds'[k]'(by omega), List.getElem?_eq_getElem _⟩
        obtain ⟨gA, sA, rfl, hel⟩ := hds k d hd
        have Hel := Lib.hid hel
        have Hd := Lib.hid hd
        clear hel hd
        have hl3 : (xs'.length : Int) < 200000 := by omega
        have hk3 : (k : Int) < (ds.length : Int) := by omega
        have Hl2 := Lib.hid hl2
        have Hkl := Lib.hid hkl
        have Hdl := Lib.hid hdl
        have Hfin := Lib.hid hfin
        have Htop := Lib.hid htop
        have Hfr := Lib.hid hfr
        have Hmk := Lib.hid hmk
        have Hgown := Lib.hid gown
        have Hgf := Lib.hid gf
        have Hds := Lib.hid hds
        have Hk := Lib.hid hk
        clear hl2 hkl hdl hfin htop hfr hmk gown gf hds hk h0 h1 h2 h3 hc1 hf1 hown1 hgrow hat hlt hf0
        have Hel2 : Hid ((kInt .i64).Holds wr gA (sA + k) d F) := by
          have := Hel.out
          rw [show k * (kInt .i64).size = k from Nat.mul_one k] at this
          exact this
        have Hxs : Hid (xs'.length ≤ 900000) := by show xs'.length ≤ 900000; have := Hl2.out; omega
        clear Hel
        go_wp2_with ((go_at_call 27); (refine (sees_num mk wr eb eo gA (sA + k) base F d xs' Heye.out Hel2.out HF.out heb hbw Hxs.out).mono ?_); (intro e w' hpost); (obtain ⟨rfl, hpost⟩ := hpost))
        all_goals
          rw [wrap_succ Hkl.out hmax.out]
          exact ⟨all_step HF.out Hkl.out Hl2.out Hdl.out Hd.out Hds.out Hfin.out htop2.out Hfr.out Hmk.out hpost _ rfl, all_measure Hkl.out⟩
      · have hl3 : ¬ (xs'.length : Int) < 200000 := by omega
        have hk3 : (k : Int) < (ds.length : Int) := by omega
        have Hx : Hid (k = ds.length ∨ ¬ xs'.length < 200000) := Or.inr hl2
        have Hdl := Lib.hid hdl
        have Hfin := Lib.hid hfin
        have Htop := Lib.hid htop
        have Hfr := Lib.hid hfr
        have Hmk := Lib.hid hmk
        have Hgown := Lib.hid gown
        have Hgf := Lib.hid gf
        clear hl2 hkl hdl hfin htop hfr hmk gown gf hds hk h0 h1 h2 h3 hc1 hf1 hown1 hgrow hat hlt hf0
        go_wp2_with fail
        all_goals
          go_end0
          exact all_end Hx.out Hdl.out Heye.out Hfin.out Htop.out Hfr.out Hmk.out
    · have hk3 : ¬ (k : Int) < (ds.length : Int) := by omega
      have Hx : Hid (k = ds.length ∨ ¬ xs'.length < 200000) := Or.inl (by omega)
      have Hdl := Lib.hid hdl
      have Hfin := Lib.hid hfin
      have Htop := Lib.hid htop
      have Hfr := Lib.hid hfr
      have Hmk := Lib.hid hmk
      have Hgown := Lib.hid gown
      have Hgf := Lib.hid gf
      clear hkl hdl hfin htop hfr hmk gown gf hds hk h0 h1 h2 h3 hc1 hf1 hown1 hgrow hat hlt hf0
      go_wp2_with fail
      all_goals
        go_end0
        exact all_end Hx.out Hdl.out Heye.out Hfin.out Htop.out Hfr.out Hmk.out
end Go.Proofs.YtojicidicefdjaaGreat
namespace Go.Proofs.YtojicidicefdjaaGreat
open Go Go.RowKit Go.Hs
set_option maxRecDepth 20000 in
set_option maxHeartbeats 400000 in
theorem sees_nums : Sees Tryz.prog 3 20 (kSlice (kInt .i64)) := by
  intro mk w eb eo b o base F (ds : List Int) xs he ⟨A, c, hx, hfx, hFb, hel, hmax⟩ hF heb hb hlen
  have He := Lib.hid he
  have Hel : Hid (Elems (kInt .i64) w A ds F) := hel
  have HF := Lib.hid hF
  have Hlen : Hid (xs.length ≤ 900000) := hlen
  have Hmax : Hid (ds.length ≤ maxLen) := hmax
  clear he hel hF hlen hmax
  go_enter Tryz.func20, Tryz.ntmps20
  go_wp2_with ((go_at_call 35); (refine (all_int mk w eb eo base F A c ds xs He.out Hel.out Hmax HF.out heb hb Hlen.out).mono ?_); (intro e w' hpost); (obtain ⟨rfl, hpost⟩ := hpost))
  all_goals
    go_end0
    exact ⟨rfl, hpost⟩
set_option maxRecDepth 20000 in
set_option maxHeartbeats 400000 in
theorem sees_perm : Sees Tryz.prog 3 45 (kSlice (kInt .i64)) := by
  intro mk w eb eo b o base F (ds : List Int) xs he ⟨A, c, hx, hfx, hFb, hel, hmax⟩ hF heb hb hlen
  have He := Lib.hid he
  have Hel : Hid (Elems (kInt .i64) w A ds F) := hel
  have HF := Lib.hid hF
  have Hlen : Hid (xs.length ≤ 900000) := hlen
  have Hmax : Hid (ds.length ≤ maxLen) := hmax
  clear he hel hF hlen hmax
  go_enter Tryz.func45, Tryz.ntmps45
  go_wp2_with ((go_at_call 35); (refine (all_int mk w eb eo base F A c ds xs He.out Hel.out Hmax HF.out heb hb Hlen.out).mono ?_); (intro e w' hpost); (obtain ⟨rfl, hpost⟩ := hpost))
  all_goals
    go_end0
    exact ⟨rfl, hpost⟩
set_option maxRecDepth 20000 in
set_option maxHeartbeats 400000 in
theorem all_perms (mk : Bool) (w : World) (eb eo base : Nat) (F : Nat → Prop) (A : Option Addr) (c : Nat) (ds : List (List Int)) (xs : List Int)
    (he : Eye 3 w eb eo mk base xs) (hds : Elems (kSlice (kInt .i64)) w A ds F) (hmax : Hid (ds.length ≤ maxLen)) (hF : ∀ k, F k → k < base ∧ k ≠ eb) (heb : eb < base) (hb : base ≤ w.heap.size) (hlen : xs.length ≤ 900000) :
    Calls Tryz.prog 44 #[.pointer (some ⟨eb, eo, none⟩), .slice A ds.length c, .func (.func 45) #[] #[]] w (SeePost 3 eb eo mk base xs.length 3 F (vloop (kSlice (kInt .i64)).view ds (xs ++ [(ds.length : Int)])) w) := by
  obtain ⟨v, n, h0, h1, h2, h3, hf, hown⟩ := he
  obtain ⟨i0, hi0, hz0, hz1, hz2⟩ := info_parts info3
  have hne : Hid (some eb ≠ v.ownBlock) := by
    show some eb ≠ v.ownBlock
    exact fun e => by have := (hown.lt eb e.symm).1; omega
  have hm : Hid (xs.length + 1 ≤ maxLen) := by show _ ≤ maxLen; unfold maxLen; omega
  have hy : Hid ((xs.length + 1) * 8 ≤ 140737488355328) := by show (xs.length + 1) * 8 ≤ 140737488355328; omega
  have hown' : Hid ((w.alloc (.cells #[.int .i64 (ds.length : Int)] 3)).ownsRow base 3 1 v xs.length (xs.map (.int .i64))) := (World.ownsRow.alloc (w := w) hown _)
  have hf0 := hf 0 (by omega)
  simp only [Nat.add_zero] at hf0
  have htop2 : Hid (200000 + (kSlice (kInt .i64)).over ≤ max xs.length 200000 + 3) := by show 200000 + 2 ≤ max xs.length 200000 + 3; omega
  have Hown := Lib.hid hown
  have Hf := Lib.hid hf
  have HF := Lib.hid hF
  have Hds : Hid (Elems (kSlice (kInt .i64)) w A ds F) := hds
  have Hlen : Hid (xs.length ≤ 900000) := hlen
  clear hown hf hF hds hlen
  go_enter Tryz.func44, Tryz.ntmps44
  go_wp2_with ((at_builtin; refine wpList_append_lies _ rfl (.tmp 11) (.tmp 14) 42 rfl base 3 i0 (.int .i64 0) 1 8 und49 hi0 hz0 hz1 hz2 rfl (by decide) v xs.length (xs.map (.int .i64)) (by simp [Act.eval]) hown'.out ⟨w.heap.size, 0, none⟩ 1 1 [.int .i64 (ds.length : Int)] (by simp [Act.eval]) rfl (World.news_of_block (heap_alloc_new _ _)) (by simp [Value.oneCell']) (by decide) hm.out hy.out (by simp; omega) (w.heap.size + 1) (by simp) ?_); intro g cap w1 hown1 hgrow hat hlt; (have hc1 : w1.cell? ⟨eb, eo, none⟩ = some v := (eye_cell2 (by omega) hne.out hgrow eo).1.trans h0); (have hf1 : w1.frozen? ⟨eb, eo, none⟩ = false := (eye_cell2 (by omega) hne.out hgrow eo).2.trans hf0))
  go_loopw [6] (AllRel 3 (kSlice (kInt .i64)) mk eb eo base F A ds.length (vloop (kSlice (kInt .i64)).view ds (xs ++ [(ds.length : Int)])) (max xs.length 200000 + 3) w) (fun i _ => ds.length - (intOf i).toNat)
  case atStart =>
    have hp : NumPost 3 eb eo base xs.length (xs.map (.int .i64)) v.ownBlock w (ds.length : Int) (.returned (.tuple #[])) (w1.setCell ⟨eb, eo, none⟩ (.slice (some ⟨g, 0, none⟩) (xs.length + 1) cap)) :=
      ⟨rfl, g, cap, w1, hown1, ⟨hgrow.os, hgrow.tape, hgrow.output, hgrow.size, hgrow.block⟩, hat, rfl⟩
    obtain ⟨_, k2, k3, k4⟩ := see_of_num heb hb h0 h1 h2 h3 Hf.out Hown.out hp
    refine ⟨0, Nat.zero_le _, rfl, _, ds, k2, rfl, Hds.out.same fun b hb' => k3.block b (HF.out b hb').1 (HF.out b hb').2 id, fun _ => rfl, ?_, ⟨k3.os, k3.tape, k3.output, k3.size, fun k a b _ => k3.block k a b id, k3.other, k3.froz⟩, k4 F HF.out⟩
    rw [List.length_append, show ([(ds.length : Int)] : List Int).length = 1 from rfl]; omega
  case round =>
    obtain ⟨k, hk, rfl, xs', ds', he, hdl, hds, hfin, htop, hfr, hmk⟩ := hrel
    have Heye := Lib.hid he
    obtain ⟨v', n', g0, g1, g2, g3, gf, gown⟩ := he
    have hbw : base ≤ wr.heap.size := Nat.le_trans hb hfr.size
    obtain ⟨B, c', rfl⟩ := ownsRow_slice gown
    by_cases hkl : k < ds.length
    · by_cases hl2 : xs'.length < 200000
      · obtain ⟨d, hd⟩ : ∃ d, ds'[k]? = some d := ⟨ds'[k]'(by omega), List.getElem?_eq_getElem _⟩
        obtain ⟨gA, sA, rfl, hel⟩ := hds k d hd
        have Hel := Lib.hid hel
        have Hd := Lib.hid hd
        clear hel hd
        have hl3 : (xs'.length : Int) < 200000 := by omega
        have hk3 : (k : Int) < (ds.length : Int) := by omega
        have Hl2 := Lib.hid hl2
        have Hkl := Lib.hid hkl
        have Hdl := Lib.hid hdl
        have Hfin := Lib.hid hfin
        have Htop := Lib.hid htop
        have Hfr := Lib.hid hfr
        have Hmk := Lib.hid hmk
        have Hgown := Lib.hid gown
        have Hgf := Lib.hid gf
        have Hds := Lib.hid hds
        have Hk := Lib.hid hk
        clear hl2 hkl hdl hfin htop hfr hmk gown gf hds hk h0 h1 h2 h3 hc1 hf1 hown1 hgrow hat hlt hf0
        have Hel2 : Hid ((kSlice (kInt .i64)).Holds wr gA (sA + k) d F) := by
          have := Hel.out
          rw [show k * (kSlice (kInt .i64)).size = k from Nat.mul_one k] at this
          exact this
        have Hxs : Hid (xs'.length ≤ 900000) := by show xs'.length ≤ 900000; have := Hl2.out; omega
        clear Hel
        go_wp2_with ((go_at_call 45); (refine (sees_perm mk wr eb eo gA (sA + k) base F d xs' Heye.out Hel2.out HF.out heb hbw Hxs.out).mono ?_); (intro e w' hpost); (obtain ⟨rfl, hpost⟩ := hpost))
        all_goals
          rw [wrap_succ Hkl.out hmax.out]
          exact ⟨all_step HF.out Hkl.out Hl2.out Hdl.out Hd.out Hds.out Hfin.out htop2.out Hfr.out Hmk.out hpost _ rfl, all_measure Hkl.out⟩
      · have hl3 : ¬ (xs'.length : Int) < 200000 := by omega
        have hk3 : (k : Int) < (ds.length : Int) := by omega
        have Hx : Hid (k = ds.length ∨ ¬ xs'.length < 200000) := Or.inr hl2
        have Hdl := Lib.hid hdl
        have Hfin := Lib.hid hfin
        have Htop := Lib.hid htop
        have Hfr := Lib.hid hfr
        have Hmk := Lib.hid hmk
        have Hgown := Lib.hid gown
        have Hgf := Lib.hid gf
        clear hl2 hkl hdl hfin htop hfr hmk gown gf hds hk h0 h1 h2 h3 hc1 hf1 hown1 hgrow hat hlt hf0
        go_wp2_with fail
        all_goals
          go_end0
          exact all_end Hx.out Hdl.out Heye.out Hfin.out Htop.out Hfr.out Hmk.out
    · have hk3 : ¬ (k : Int) < (ds.length : Int) := by omega
      have Hx : Hid (k = ds.length ∨ ¬ xs'.length < 200000) := Or.inl (by omega)
      have Hdl := Lib.hid hdl
      have Hfin := Lib.hid hfin
      have Htop := Lib.hid htop
      have Hfr := Lib.hid hfr
      have Hmk := Lib.hid hmk
      have Hgown := Lib.hid gown
      have Hgf := Lib.hid gf
      clear hkl hdl hfin htop hfr hmk gown gf hds hk h0 h1 h2 h3 hc1 hf1 hown1 hgrow hat hlt hf0
      go_wp2_with fail
      all_goals
        go_end0
        exact all_end Hx.out Hdl.out Heye.out Hfin.out Htop.out Hfr.out Hmk.out
set_option maxRecDepth 20000 in
set_option maxHeartbeats 400000 in
theorem sees_perms : Sees Tryz.prog 3 29 (kSlice (kSlice (kInt .i64))) := by
  intro mk w eb eo b o base F (ds : List (List Int)) xs he ⟨A, c, hx, hfx, hFb, hel, hmax⟩ hF heb hb hlen
  have He := Lib.hid he
  have Hel : Hid (Elems (kSlice (kInt .i64)) w A ds F) := hel
  have HF := Lib.hid hF
  have Hlen : Hid (xs.length ≤ 900000) := hlen
  have Hmax : Hid (ds.length ≤ maxLen) := hmax
  clear he hel hF hlen hmax
  go_enter Tryz.func29, Tryz.ntmps29
  go_wp2_with ((go_at_call 44); (refine (all_perms mk w eb eo base F A c ds xs He.out Hel.out Hmax HF.out heb hb Hlen.out).mono ?_); (intro e w' hpost); (obtain ⟨rfl, hpost⟩ := hpost))
  all_goals
    go_end0
    exact ⟨rfl, hpost⟩
set_option maxRecDepth 20000 in
set_option maxHeartbeats 400000 in
theorem sees_group : SeesL 800000 Tryz.prog 3 10 (kPair (kInt .i64) (kSlice (kSlice (kInt .i64)))) := by
  intro mk w0 eb eo b o base F d0 ys0 he hh hF heb hb hlen
  have E0 := Lib.hid he
  have K0 : Hid (Kind.Holds (kPair (kInt .i64) (kSlice (kSlice (kInt .i64)))) w0 b o d0 F) := hh
  have HF := Lib.hid hF
  have L0 : Hid (ys0.length ≤ max ys0.length 200000 + 0) := Nat.le_max_left _ _
  have Hlen : Hid (ys0.length ≤ 800000) := hlen
  have B0 := Lib.hid hb
  clear he hh hF hlen hb
  go_enter Tryz.func10, Tryz.ntmps10
  go_wp2_with (first
    | ((go_at_call 29); (refine (sees_perms.less (b := 801001) (by decide) mk w1 eb eo b (o + 1) base F d1 ys1 E1.out K1.out HF.out heb B1.out (by have h1 := L1.out; have h2 := Hlen.out; omega)).mono ?_); (intro e w2 p); (obtain ⟨rfl, ys2, e2, v2, l2, f2, m2⟩ := p); (have E2 := Lib.hid e2); (have V2 := Lib.hid v2); (have L2 : Hid (ys2.length ≤ max ys0.length 200000 + 4) := seq_len L1.out l2 (by decide)); (have F2 := Lib.hid f2); (have M2 := Lib.hid m2); (have B2 : Hid (base ≤ w2.heap.size) := Nat.le_trans B1.out f2.size); clear e2 v2 l2 f2 m2)
    | ((go_at_call 27); (refine (sees_num.less (b := 801000) (by decide) mk w0 eb eo b (o) base F d0.1 ys0 E0.out K0.out.1 HF.out heb B0.out (by have h1 := L0.out; have h2 := Hlen.out; omega)).mono ?_); (intro e w1 p); (obtain ⟨rfl, ys1, e1, v1, l1, f1, m1⟩ := p); (have E1 := Lib.hid e1); (have V1 := Lib.hid v1); (have L1 : Hid (ys1.length ≤ max ys0.length 200000 + 1) := seq_len L0.out l1 (by decide)); (have F1 := Lib.hid f1); (have M1 := Lib.hid m1); (have B1 : Hid (base ≤ w1.heap.size) := Nat.le_trans B0.out f1.size); (obtain ⟨d1, k1, q1⟩ := holds_after K0.out.2 HF.out f1 m1); (have K1 := Lib.hid k1); (have Q1 := Lib.hid q1); clear k1 q1 e1 v1 l1 f1 m1))
  all_goals
    go_end0
    refine ⟨rfl, ys2, E2.out, fun h => ?_, L2.out, (F1.out.trans F2.out), (M1.out.trans M2.out)⟩
    rw [V2.out h, V1.out h, Q1.out h]
    rfl
set_option maxRecDepth 20000 in
set_option maxHeartbeats 400000 in
theorem see_shared : SeesL 700000 Tryz.prog 3 6 (kPair (kInt .i64) (kPair (kInt .i64) (kPair (kInt .i64) (kPair (kInt .i64) (kPair (kInt .i64) (kSlice (kSlice (kInt .i64)))))))) := by
  intro mk w0 eb eo b o base F d0 ys0 he hh hF heb hb hlen
  have E0 := Lib.hid he
  have K0 : Hid (Kind.Holds (kPair (kInt .i64) (kPair (kInt .i64) (kPair (kInt .i64) (kPair (kInt .i64) (kPair (kInt .i64) (kSlice (kSlice (kInt .i64)))))))) w0 b o d0 F) := hh
  have HF := Lib.hid hF
  have L0 : Hid (ys0.length ≤ max ys0.length 200000 + 0) := Nat.le_max_left _ _
  have Hlen : Hid (ys0.length ≤ 700000) := hlen
  have B0 := Lib.hid hb
  clear he hh hF hlen hb
  go_enter Tryz.func6, Tryz.ntmps6
  go_wp2_with (first
    | ((go_at_call 10); (refine (sees_group.less (b := 701004) (by decide) mk w4 eb eo b (o + 1 + 1 + 1 + 1) base F d4 ys4 E4.out K4.out HF.out heb B4.out (by have h1 := L4.out; have h2 := Hlen.out; omega)).mono ?_); (intro e w5 p); (obtain ⟨rfl, ys5, e5, v5, l5, f5, m5⟩ := p); (have E5 := Lib.hid e5); (have V5 := Lib.hid v5); (have L5 : Hid (ys5.length ≤ max ys0.length 200000 + 8) := seq_len L4.out l5 (by decide)); (have F5 := Lib.hid f5); (have M5 := Lib.hid m5); (have B5 : Hid (base ≤ w5.heap.size) := Nat.le_trans B4.out f5.size); clear e5 v5 l5 f5 m5)
    | ((go_at_call 27); (refine (sees_num.less (b := 701003) (by decide) mk w3 eb eo b (o + 1 + 1 + 1) base F d3.1 ys3 E3.out K3.out.1 HF.out heb B3.out (by have h1 := L3.out; have h2 := Hlen.out; omega)).mono ?_); (intro e w4 p); (obtain ⟨rfl, ys4, e4, v4, l4, f4, m4⟩ := p); (have E4 := Lib.hid e4); (have V4 := Lib.hid v4); (have L4 : Hid (ys4.length ≤ max ys0.length 200000 + 4) := seq_len L3.out l4 (by decide)); (have F4 := Lib.hid f4); (have M4 := Lib.hid m4); (have B4 : Hid (base ≤ w4.heap.size) := Nat.le_trans B3.out f4.size); (obtain ⟨d4, k4, q4⟩ := holds_after K3.out.2 HF.out f4 m4); (have K4 := Lib.hid k4); (have Q4 := Lib.hid q4); clear k4 q4 e4 v4 l4 f4 m4)
    | ((go_at_call 27); (refine (sees_num.less (b := 701002) (by decide) mk w2 eb eo b (o + 1 + 1) base F d2.1 ys2 E2.out K2.out.1 HF.out heb B2.out (by have h1 := L2.out; have h2 := Hlen.out; omega)).mono ?_); (intro e w3 p); (obtain ⟨rfl, ys3, e3, v3, l3, f3, m3⟩ := p); (have E3 := Lib.hid e3); (have V3 := Lib.hid v3); (have L3 : Hid (ys3.length ≤ max ys0.length 200000 + 3) := seq_len L2.out l3 (by decide)); (have F3 := Lib.hid f3); (have M3 := Lib.hid m3); (have B3 : Hid (base ≤ w3.heap.size) := Nat.le_trans B2.out f3.size); (obtain ⟨d3, k3, q3⟩ := holds_after K2.out.2 HF.out f3 m3); (have K3 := Lib.hid k3); (have Q3 := Lib.hid q3); clear k3 q3 e3 v3 l3 f3 m3)
    | ((go_at_call 27); (refine (sees_num.less (b := 701001) (by decide) mk w1 eb eo b (o + 1) base F d1.1 ys1 E1.out K1.out.1 HF.out heb B1.out (by have h1 := L1.out; have h2 := Hlen.out; omega)).mono ?_); (intro e w2 p); (obtain ⟨rfl, ys2, e2, v2, l2, f2, m2⟩ := p); (have E2 := Lib.hid e2); (have V2 := Lib.hid v2); (have L2 : Hid (ys2.length ≤ max ys0.length 200000 + 2) := seq_len L1.out l2 (by decide)); (have F2 := Lib.hid f2); (have M2 := Lib.hid m2); (have B2 : Hid (base ≤ w2.heap.size) := Nat.le_trans B1.out f2.size); (obtain ⟨d2, k2, q2⟩ := holds_after K1.out.2 HF.out f2 m2); (have K2 := Lib.hid k2); (have Q2 := Lib.hid q2); clear k2 q2 e2 v2 l2 f2 m2)
    | ((go_at_call 27); (refine (sees_num.less (b := 701000) (by decide) mk w0 eb eo b (o) base F d0.1 ys0 E0.out K0.out.1 HF.out heb B0.out (by have h1 := L0.out; have h2 := Hlen.out; omega)).mono ?_); (intro e w1 p); (obtain ⟨rfl, ys1, e1, v1, l1, f1, m1⟩ := p); (have E1 := Lib.hid e1); (have V1 := Lib.hid v1); (have L1 : Hid (ys1.length ≤ max ys0.length 200000 + 1) := seq_len L0.out l1 (by decide)); (have F1 := Lib.hid f1); (have M1 := Lib.hid m1); (have B1 : Hid (base ≤ w1.heap.size) := Nat.le_trans B0.out f1.size); (obtain ⟨d1, k1, q1⟩ := holds_after K0.out.2 HF.out f1 m1); (have K1 := Lib.hid k1); (have Q1 := Lib.hid q1); clear k1 q1 e1 v1 l1 f1 m1))
  all_goals
    go_end0
    refine ⟨rfl, ys5, E5.out, fun h => ?_, L5.out, (F1.out.trans (F2.out.trans (F3.out.trans (F4.out.trans F5.out)))), (M1.out.trans (M2.out.trans (M3.out.trans (M4.out.trans M5.out))))⟩
    rw [V5.out h, V4.out h, V3.out h, V2.out h, V1.out h, Q4.out h, Q3.out h, Q2.out h, Q1.out h]
    rfl
set_option maxRecDepth 20000 in
set_option maxHeartbeats 400000 in
theorem sees_r1 : SeesL 700000 Tryz.prog 3 9 (kPair (kInt .i64) (kSlice (kSlice (kInt .i64)))) := by
  intro mk w eb eo b o base F ds xs he hh hF heb hb hlen
  have He := Lib.hid he
  have Hh : Hid (Kind.Holds (kPair (kInt .i64) (kSlice (kSlice (kInt .i64)))) w b o ds F) := hh
  have HF := Lib.hid hF
  have Hlen : Hid (xs.length ≤ 700000) := hlen
  clear he hh hF hlen
  go_enter Tryz.func9, Tryz.ntmps9
  go_wp2_with ((go_at_call 10); (refine (sees_group.less (by decide) mk w eb eo b o base F ds xs He.out Hh.out HF.out heb hb Hlen.out).mono ?_); (intro e w' hpost); (obtain ⟨rfl, hpost⟩ := hpost))
  all_goals
    go_end0
    exact ⟨rfl, hpost⟩
set_option maxRecDepth 20000 in
set_option maxHeartbeats 400000 in
theorem sees_r2 : SeesL 700000 Tryz.prog 3 13 (kPair (kInt .i64) (kSlice (kSlice (kInt .i64)))) := by
  intro mk w eb eo b o base F ds xs he hh hF heb hb hlen
  have He := Lib.hid he
  have Hh : Hid (Kind.Holds (kPair (kInt .i64) (kSlice (kSlice (kInt .i64)))) w b o ds F) := hh
  have HF := Lib.hid hF
  have Hlen : Hid (xs.length ≤ 700000) := hlen
  clear he hh hF hlen
  go_enter Tryz.func13, Tryz.ntmps13
  go_wp2_with ((go_at_call 10); (refine (sees_group.less (by decide) mk w eb eo b o base F ds xs He.out Hh.out HF.out heb hb Hlen.out).mono ?_); (intro e w' hpost); (obtain ⟨rfl, hpost⟩ := hpost))
  all_goals
    go_end0
    exact ⟨rfl, hpost⟩
set_option maxRecDepth 20000 in
set_option maxHeartbeats 400000 in
theorem sees_r3 : SeesL 700000 Tryz.prog 3 16 (kPair (kInt .i64) (kSlice (kSlice (kInt .i64)))) := by
  intro mk w eb eo b o base F ds xs he hh hF heb hb hlen
  have He := Lib.hid he
  have Hh : Hid (Kind.Holds (kPair (kInt .i64) (kSlice (kSlice (kInt .i64)))) w b o ds F) := hh
  have HF := Lib.hid hF
  have Hlen : Hid (xs.length ≤ 700000) := hlen
  clear he hh hF hlen
  go_enter Tryz.func16, Tryz.ntmps16
  go_wp2_with ((go_at_call 10); (refine (sees_group.less (by decide) mk w eb eo b o base F ds xs He.out Hh.out HF.out heb hb Hlen.out).mono ?_); (intro e w' hpost); (obtain ⟨rfl, hpost⟩ := hpost))
  all_goals
    go_end0
    exact ⟨rfl, hpost⟩
set_option maxRecDepth 20000 in
set_option maxHeartbeats 400000 in
theorem sees_r4 : SeesL 700000 Tryz.prog 3 19 (kSlice (kInt .i64)) := by
  intro mk w eb eo b o base F ds xs he hh hF heb hb hlen
  have He := Lib.hid he
  have Hh : Hid (Kind.Holds (kSlice (kInt .i64)) w b o ds F) := hh
  have HF := Lib.hid hF
  have Hlen : Hid (xs.length ≤ 700000) := hlen
  clear he hh hF hlen
  go_enter Tryz.func19, Tryz.ntmps19
  go_wp2_with ((go_at_call 20); (refine (sees_nums.less (by decide) mk w eb eo b o base F ds xs He.out Hh.out HF.out heb hb Hlen.out).mono ?_); (intro e w' hpost); (obtain ⟨rfl, hpost⟩ := hpost))
  all_goals
    go_end0
    exact ⟨rfl, hpost⟩
end Go.Proofs.YtojicidicefdjaaGreat
