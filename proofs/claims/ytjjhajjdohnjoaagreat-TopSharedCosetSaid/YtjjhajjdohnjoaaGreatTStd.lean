/- Proved here, with no condition of its own: coset.Standard. -/
import Derived.Test.YtjjhajjdohnjoaaGreatTCos
import Derived.Test.YtjjhajjdohnjoaaGreatHM
namespace Go.Proofs.YtjjhajjdohnjoaaGreat
open Go Go.RowKit Go.Hs
theorem und65 : Tryz.prog.underlying 65 = some (.map 3 3) := by kernel_rfl
theorem und3 : Tryz.prog.underlying 3 = some (.int .i64) := by kernel_rfl
theorem zero3 (w : World) : (zeroValue 3).run Tryz.prog w = .ok (.int .i64 0) w := by kernel_rfl
set_option maxRecDepth 20000 in
set_option maxHeartbeats 2000000 in
theorem standard_any (g : Int) (A : Option Addr) (c : Nat) (ds : List (List Int)) (base : Int) (w : World) (F : Nat → Prop) (h : Elems (kSlice (kInt .i64)) w A ds F) (hF : ∀ k, F k → k < w.heap.size) (hm : ds.length ≤ maxLen) :
    Calls Tryz.prog 12 #[.int .i64 g, .slice A ds.length c, .int .i64 base] w (TabPost w) := by
  have Hh := Lib.hid h
  have HF := Lib.hid hF
  have Hm : Hid (ds.length ≤ maxLen) := hm
  clear h hF hm
  by_cases b0 : base < 0
  · go_enter Tryz.func12, Tryz.ntmps12
    go_wp2_with ((go_at_call 8); (refine (check_any g A c ds w F Hh.out HF.out Hm.out).mono ?_); (intro e w1 p1); (obtain ⟨er, ro, rfl, hok, hb1⟩ := p1); (have Hb1 := Lib.hid hb1); clear hok hb1)
    · go_ret2
      exact tab_none Hb1.out
    · go_ret2
      exact tab_none Hb1.out
  by_cases b1 : (ds.length : Int) ≤ base
  · go_enter Tryz.func12, Tryz.ntmps12
    go_wp2_with ((go_at_call 8); (refine (check_any g A c ds w F Hh.out HF.out Hm.out).mono ?_); (intro e w1 p1); (obtain ⟨er, ro, rfl, hok, hb1⟩ := p1); (have Hb1 := Lib.hid hb1); clear hok hb1)
    · go_ret2
      exact tab_none Hb1.out
    · go_ret2
      exact tab_none Hb1.out
  have hd0 : decide (base < 0) = false := by simpa using b0
  have hd1 : decide ((ds.length : Int) ≤ base) = false := by simpa using b1
  have hmm := fun W : World => run_makeMap (P := Tryz.prog) 65 W
  have Hbr : Hid (0 ≤ base ∧ base < (ds.length : Int)) := ⟨by omega, by omega⟩
  go_enter Tryz.func12, Tryz.ntmps12
  go_wp2_with ((go_at_call 8); (refine (check_any g A c ds w F Hh.out HF.out Hm.out).mono ?_); (intro e w1 p1); (obtain ⟨er, ro, rfl, hok, hb1⟩ := p1); (have Hok := Lib.hid hok); (have Hb1 := Lib.hid hb1); (obtain ⟨w2, hup, hmp, hgr, hsz⟩ := run_update_imap (P := Tryz.prog) (w := w1.alloc (.map #[] 0)) (M := []) und65 und3 ⟨#[], 0, box1 _, rfl⟩ base 0 rfl); (have Hmp := Lib.hid hmp); (have Hgr := Lib.hid hgr); (have Hsz := Lib.hid hsz); clear hok hb1 hmp hgr hsz)
  · go_ret2
    exact tab_none Hb1.out
  · have her2 : (er != 0) = false := by assumption
    have her : er = 0 := by simpa using her2
    have Hck := Lib.hid (Hok.out her)
    rw [her2]
    obtain ⟨g1, g2, g3, g4, _⟩ := Hck.out
    obtain ⟨G, rfl⟩ := Int.eq_ofNat_of_zero_le (show 0 ≤ g by omega)
    have Hst := Lib.hid (std_start (n := ds.length) Hb1.out Hmp.out Hgr.out Hbr.out rfl)
    obtain ⟨i3, hi3, hy0, hy1, hy2⟩ := info_parts info3
    obtain ⟨i49, hi49, hz0, hz1, hz2⟩ := info_parts info49
    have hg32 : (2 * G : Nat) ≤ 32 := by omega
    have hmk : ∀ W : World, (Instr.makeSlice 49 (.int .i64 0) (.int .i64 (2 * (G : Int)))).run Tryz.prog W = .ok (.slice (some ⟨W.heap.size, 0, none⟩) 0 (2 * G)) (W.alloc (.cells (madeCells (Value.int .i64 0).cells (2 * G * i3.size)) 3)) :=
      fun W => by
        have := run_make_rowN 49 3 i3 _ und49 hi3 hy0 .i64 .i64 0 (2 * G) (Nat.zero_le _) (by rw [hy2]; omega) (by omega) W
        exact this
    clear her hup hd0 hd1 hmm
    go_loopw [11, 12, 13] (fun vo vt i wr => ∃ (k : Nat) (M : List (Int × Int)) (ord : List Int) (vals : List Value) (X : Nat → Prop), i = .int .i64 k ∧ StdO ds.length w w1.heap.size k M ord vo vt vals X wr) (fun _ _ i _ => ds.length - (intOf i).toNat)
    case atStart => exact ⟨0, _, _, _, _, rfl, Hst.out⟩
    case round =>
      obtain ⟨wo, rfl⟩ : ∃ wo : World, wo = wr := ⟨_, rfl⟩
      obtain ⟨k, M, ord, vals, X, rfl, hO⟩ := hrel
      obtain ⟨Bo, co, rfl, _, helo⟩ := elems_of_owns hO.order
      have hkl := hO.kle
      have hol := hO.num.le
      by_cases hlt : k < ord.length
      · have hlt2 : (k : Int) < (ord.length : Int) := by omega
        obtain ⟨x0, hx0⟩ : ∃ x0, ord[k]? = some x0 := ⟨_, List.getElem?_eq_getElem hlt⟩
        obtain ⟨gO, sO, rfl, hxc⟩ := elem_cell helo hx0
        have hxr := hO.num.range x0 (List.mem_of_getElem? hx0)
        obtain ⟨m, rfl⟩ := Int.eq_ofNat_of_zero_le hxr.1
        have hml : m < ds.length := by omega
        have hml2 : (m : Int) < (ds.length : Int) := by omega
        obtain ⟨row, hrow⟩ : ∃ row, ds[m]? = some row := ⟨_, List.getElem?_eq_getElem hml⟩
        have Hel2 : Hid (Elems (kSlice (kInt .i64)) wo A ds F) := Elems.same Hh.out fun k hk => hO.below.block k (HF.out k hk)
        obtain ⟨gA, sA, B, cB, rfl, hcell, hel, hrml⟩ := row_cell Hel2.out hrow
        have Hrw : Hid (RowOK G ds.length row) := Hck.out.2.2.2.2 row (List.mem_of_getElem? hrow)
        have Hel3 : Hid (Elems (kInt .i64) w B row F) := by
          obtain ⟨gA', sA', B', cB', hA', hcell', hel', _⟩ := row_cell Hh.out hrow
          cases hA'
          have e1 : w.cell? ⟨gA, sA + m, none⟩ = wo.cell? ⟨gA, sA + m, none⟩ := (hO.below.cell (p := ⟨gA, sA + m, none⟩) (cell_lt hcell')).symm
          rw [e1, hcell] at hcell'
          cases hcell'
          exact hel'
        have hg1 : gO < wo.heap.size := cell_lt hxc
        have hg2 : gA < wo.heap.size := cell_lt hcell
        have HO := Lib.hid hO
        clear hO hx0 hxr hrow hel hrml helo
        obtain ⟨vt, rfl⟩ : ∃ v : Value, v = u12 := ⟨_, rfl⟩
        have hrl : (row.length : Int) = 2 * G := Hrw.out.1
        have Hsi : Hid (StdI ds.length w w1.heap.size k 0 M ord (.slice (some ⟨gO, sO, none⟩) ord.length co) vt (.slice (some ⟨wo.heap.size, 0, none⟩) 0 (2 * G)) vals [] X (wo.alloc (.cells (madeCells #[Value.int .i64 0] (2 * G)) 3))) :=
          HO.out.row hlt rfl (size_madeCells _ _) (by unfold maxLen; omega)
        go_wp2
        go_loopw [11, 14, 59] (fun vo vr i wr => ∃ (q : Nat) (M : List (Int × Int)) (ord : List Int) (ys : List Int), q ≤ row.length ∧ i = .int .i64 q ∧ StdI ds.length w w1.heap.size k q M ord vo vt vr vals ys X wr) (fun _ _ i _ => row.length - (intOf i).toNat)
        case atStart => exact ⟨0, M, ord, [], Nat.zero_le _, rfl, Hsi.out⟩
        case round =>
          obtain ⟨q, M2, ord2, ys, hq, rfl, hI⟩ := hrel
          by_cases hlt3 : q < row.length
          · have hlt4 : (q : Int) < (row.length : Int) := by omega
            obtain ⟨x, hx⟩ : ∃ x, row[q]? = some x := ⟨_, List.getElem?_eq_getElem hlt3⟩
            obtain ⟨gB, sB, rfl, hxc0⟩ := elem_cell Hel3.out hx
            have hxc2 : wr.cell? ⟨gB, sB + q, none⟩ = some (.int .i64 x) := (hI.below.cell (p := ⟨gB, sB + q, none⟩) (cell_lt hxc0)).trans hxc0
            have hxb := (Hrw.out.2 x (List.mem_of_getElem? hx)).2
            clear hx hxc0
            by_cases hx0 : x < 0
            · have Hbw := Lib.hid hI.below
              clear hI
              go_wp2
              go_ret2
              exact tab_none Hbw.out
            · have hxr : 0 ≤ x ∧ x < (ds.length : Int) := ⟨by omega, hxb⟩
              have hx1 : ¬ x < 0 := hx0
              obtain ⟨Br, cr, hvr⟩ := ownsRow_slice hI.row
              subst hvr
              obtain ⟨Bo2, co2, hvo⟩ := ownsRow_slice hI.order
              subst hvo
              have hbw : w.heap.size ≤ wr.heap.size := hI.below.size
              have hol2 := hI.num.le
              have Hxr := Lib.hid hxr
              have HI := Lib.hid hI
              have Hnm : Hid (q + 1 ≤ maxLen) := by show q + 1 ≤ maxLen; unfold maxLen; omega
              have Hny : Hid ((q + 1) * 8 ≤ 140737488355328) := by show (q + 1) * 8 ≤ 140737488355328; omega
              have Hom : Hid (ord2.length + 1 ≤ maxLen) := by show ord2.length + 1 ≤ maxLen; unfold maxLen; omega
              have Hoy : Hid ((ord2.length + 1) * 8 ≤ 140737488355328) := by show (ord2.length + 1) * 8 ≤ 140737488355328; omega
              cases hhas : imHas M2 x with
              | true =>
                obtain ⟨v, Hv⟩ : ∃ v, Hid (imGet M2 x = v) := ⟨imGet M2 x, rfl⟩
                have hlk := run_lookup_imap und65 und3 (zero3 wr) hI.map x true
                have hlk2 := run_lookup_imap und65 und3 (zero3 wr) hI.map x false
                rw [hhas, Hv.out, if_pos rfl] at hlk
                rw [Hv.out, if_neg (by decide)] at hlk2
                have hown' : Hid ((wr.alloc (.cells #[.int .i64 v] 3)).ownsRow w.heap.size 3 1 (.slice Br q cr) q (ys.map (.int .i64))) := World.ownsRow.alloc (w := wr) hI.row _
                have Hhas := Lib.hid hhas
                clear hhas hI hxr hol2 hxb
                go_wp2_with (at_builtin; (refine wpList_append_lies _ rfl (.tmp 81) (.tmp 85) 49 rfl w.heap.size 3 i3 (.int .i64 0) 1 8 und49 hi3 hy0 hy1 hy2 rfl (by decide) (.slice Br q cr) q (ys.map (.int .i64)) (by simp [Act.eval]) hown'.out ⟨wr.heap.size, 0, none⟩ 1 1 [.int .i64 v] (by simp [Act.eval]) rfl (World.news_of_block (heap_alloc_new _ _)) (by simp [Value.oneCell']) (by decide) Hnm.out Hny.out (by simp; omega) (wr.heap.size + 1) (by simp) ?_); intro g cap w7 hown1 hgrow hat hlt)
                all_goals
                  rw [show ((q : Int) + 1) = ((q + 1 : Nat) : Int) from rfl]
                  exact ⟨⟨q + 1, M2, ord2, _, hlt3, rfl, HI.out.add hown1 ⟨hgrow.os, hgrow.tape, hgrow.output, hgrow.size, hgrow.block⟩ hat⟩, all_measure hlt3⟩
              | false =>
                obtain ⟨w5, hup, hm5, hg5, hs5⟩ := run_update_imap (P := Tryz.prog) und65 und3 hI.map x (ord2.length : Int) hhas
                have hlk := run_lookup_imap und65 und3 (zero3 wr) hI.map x true
                rw [hhas, if_pos rfl] at hlk
                obtain ⟨p5, r5, o5⟩ := hI.put hm5 hg5
                have hown5 : Hid ((w5.alloc (.cells #[.int .i64 x] 3)).ownsRow w.heap.size 3 1 (.slice Bo2 ord2.length co2) ord2.length (ord2.map (.int .i64))) := World.ownsRow.alloc (w := w5) o5 _
                have hb5 : w.heap.size ≤ w5.heap.size := p5.below.size
                have Hhas := Lib.hid hhas
                have P5 := Lib.hid p5
                have R5 := Lib.hid r5
                clear hhas hI hxr hol2 hxb hm5 hg5 hs5 p5 r5 o5
                go_wp2_with (first
                  | (at_builtin; (refine wpList_append_lies _ rfl (.tmp 81) (.tmp 85) 49 rfl w.heap.size 3 i3 (.int .i64 0) 1 8 und49 hi3 hy0 hy1 hy2 rfl (by decide) (.slice Br q cr) q (ys.map (.int .i64)) (by simp [Act.eval]) hown'.out ⟨w6.heap.size, 0, none⟩ 1 1 [.int .i64 v] (by simp [Act.eval]) rfl (World.news_of_block (heap_alloc_new _ _)) (by simp [Value.oneCell']) (by decide) Hnm.out Hny.out (by simp; omega) (w6.heap.size + 1) (by simp) ?_); intro g cap w7 hown1 hgrow hat hlt)
                  | (at_builtin; (refine wpList_append_lies _ rfl (.tmp 77) (.tmp 79) 49 rfl w.heap.size 3 i3 (.int .i64 0) 1 8 und49 hi3 hy0 hy1 hy2 rfl (by decide) (.slice Bo2 ord2.length co2) ord2.length (ord2.map (.int .i64)) (by simp [Act.eval]) hown5.out ⟨w5.heap.size, 0, none⟩ 1 1 [.int .i64 x] (by simp [Act.eval]) rfl (World.news_of_block (heap_alloc_new _ _)) (by simp [Value.oneCell']) (by decide) Hom.out Hoy.out (by simp; omega) (w5.heap.size + 1) (by simp) ?_); intro g cap w6 hown1 hgrow hat hlt; (have s6 := std_ord HI.out.num HI.out.klt HI.out.len HI.out.ysl Hhas.out Hxr.out P5.out R5.out hown1 ⟨hgrow.os, hgrow.tape, hgrow.output, hgrow.size, hgrow.block⟩ hat); (have hlk6 := run_lookup_imap und65 und3 (zero3 w6) s6.map x false); (obtain ⟨v, Hv⟩ : ∃ v, Hid (imGet (M2 ++ [(x, (ord2.length : Int))]) x = v) := ⟨_, rfl⟩); (rw [Hv.out, if_neg (by decide)] at hlk6); (have hown' : Hid ((w6.alloc (.cells #[.int .i64 v] 3)).ownsRow w.heap.size 3 1 (.slice Br q cr) q (ys.map (.int .i64))) := World.ownsRow.alloc (w := w6) s6.row _); (have hb6 : w.heap.size ≤ w6.heap.size := s6.below.size); (have S6 := Lib.hid s6); clear s6 hown1 hgrow hat hlt))
                all_goals
                  rw [show ((q : Int) + 1) = ((q + 1 : Nat) : Int) from rfl]
                  exact ⟨⟨q + 1, _, _, _, hlt3, rfl, S6.out.add hown1 ⟨hgrow.os, hgrow.tape, hgrow.output, hgrow.size, hgrow.block⟩ hat⟩, all_measure hlt3⟩
          · have hlt4 : ¬ (q : Int) < (row.length : Int) := by omega
            obtain ⟨Br, cr, hvr⟩ := ownsRow_slice hI.row
            subst hvr
            obtain ⟨Bo2, co2, hvo⟩ := ownsRow_slice hI.order
            subst hvo
            obtain ⟨Bt, ct, hvt⟩ := ownsRow_slice hI.out
            subst hvt
            have hbw : w.heap.size ≤ wr.heap.size := hI.below.size
            have hol2 := hI.num.le
            have hkl2 := hI.klt
            have HI := Lib.hid hI
            have Hqm : Hid (q ≤ maxLen) := by show q ≤ maxLen; unfold maxLen; omega
            have Hnm : Hid (k + 1 ≤ maxLen) := by show k + 1 ≤ maxLen; unfold maxLen; omega
            have Hny : Hid ((k + 1) * 24 ≤ 140737488355328) := by show (k + 1) * 24 ≤ 140737488355328; omega
            have hown' : Hid ((wr.alloc (.cells #[.slice Br q cr] 49)).ownsRow w.heap.size 49 1 (.slice Bt k ct) k vals) := World.ownsRow.alloc (w := wr) hI.out _
            have Hkn : Hid (k < ds.length) := by show k < ds.length; omega
            clear hI hol2 hkl2
            go_wp2_with (at_builtin; (refine wpList_append_lies _ rfl (.tmp 88) (.tmp 90) 23 rfl w.heap.size 49 i49 (.slice none 0 0) 1 24 und23 hi49 hz0 hz1 hz2 rfl (by decide) (.slice Bt k ct) k vals (by simp [Act.eval]) hown'.out ⟨wr.heap.size, 0, none⟩ 1 1 [.slice Br q cr] (by simp [Act.eval]) rfl (World.news_of_block (heap_alloc_new _ _)) (by simp [Value.oneCell']) (by decide) Hnm.out Hny.out (by simp; omega) (wr.heap.size + 1) (by simp) ?_); intro g cap w7 hown1 hgrow hat hlt)
            all_goals
              rw [show ((k : Int) + 1) = ((k + 1 : Nat) : Int) from rfl]
              obtain ⟨X', hO'⟩ := HI.out.done Hqm.out hown1 ⟨hgrow.os, hgrow.tape, hgrow.output, hgrow.size, hgrow.block⟩ hat
              exact ⟨⟨k + 1, M2, ord2, _, X', rfl, hO'⟩, all_measure Hkn.out⟩
      · have hlt2 : ¬ (k : Int) < (ord.length : Int) := by omega
        have hlv := hO.len
        obtain ⟨At, ct, os, rfl, hosl, hot⟩ := hO.table
        have Hot := Lib.hid hot
        have Hbw := Lib.hid hO.below
        clear hO helo hot
        go_wp2
        · go_ret2
          exact tab_none Hbw.out
        · go_ret2
          exact ⟨At, ct, 0, os, by rw [hosl]; rfl, Hot.out, by rw [hosl]; exact Nat.le_trans hkl (Nat.le_trans hol Hm.out), Hbw.out⟩
end Go.Proofs.YtjjhajjdohnjoaaGreat
