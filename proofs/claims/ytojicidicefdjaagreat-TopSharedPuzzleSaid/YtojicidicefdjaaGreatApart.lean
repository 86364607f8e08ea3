/- Proved here, with no condition of its own: apart answers true by the contracts of its calls. -/
import Derived.Test.YtojicidicefdjaaGreatLook
import Derived.Test.YtojicidicefdjaaGreatSum
import Derived.Test.YtojicidicefdjaaGreatVC
import Derived.Test.YtojicidicefdjaaGreatHA
namespace Go.Proofs.YtojicidicefdjaaGreat
open Go Go.RowKit Go.Hs Go.Vg
theorem blind_at {w : World} {g : Nat} {t : TypeId} (h : w.heap[g]? = some (.cells #[Value.slice none 0 0, Value.slice none 0 0, Value.bool false, Value.int IntKind.i64 0] t)) : Blind w g 0 :=
  ⟨(block_cell h rfl).1, (block_cell h rfl).1, (block_cell h rfl).1, (block_cell h rfl).1, fun _ _ => frozen_cells h _⟩
theorem alloc2_size (w : World) (o o' : Obj) : ((w.alloc o).alloc o').heap.size = w.heap.size + 2 := by simp
/-- The calls' row. -/
def CallRow (w : World) (A : Option Addr) (fs : List FuncId) : Prop :=
  ∀ (i : Nat) f, fs[i]? = some f → ∃ g s, A = some ⟨g, s, none⟩ ∧ g < w.heap.size ∧ w.cell? ⟨g, s + i, none⟩ = some (.func (.func f) #[] #[])
/-- What comes of a copy of the argument. -/
def OwnPost (K : Kind) (d : K.Data) (w : World) (e : Ending) (w' : World) : Prop :=
  ∃ (a0 : Int) (a1 : Int) (a2 : Int) (a3 : Int) (a4 : Int) (A5 : Option Addr) (n5 c5 : Nat), e = .returned (.agg #[Value.int .i64 a0, Value.int .i64 a1, Value.int .i64 a2, Value.int .i64 a3, Value.int .i64 a4, Value.slice A5 n5 c5]) ∧ HoldsAs K w' #[Value.int .i64 a0, Value.int .i64 a1, Value.int .i64 a2, Value.int .i64 a3, Value.int .i64 a4, Value.slice A5 n5 c5].toList d (Fresh w w') ∧ Below w.heap.size w w'
theorem alike_res (B B' : Option Addr) (c c' : Nat) (but : Int) (w : World) (rs rs' : List (Res Tryz.prog 3)) (hA : Elems kEye w B (views rs) (fun k => k < w.heap.size)) (hB : Elems kEye w B' (views rs') (fun k => k < w.heap.size)) (hl : rs'.length = rs.length) (hn : rs.length ≤ 1000) (heq : ∀ k : Nat, (k : Int) ≠ but → (views rs)[k]? = (views rs')[k]?) :
    Calls Tryz.prog 25 #[.slice B rs.length c, .slice B' rs.length c', .int .i64 but] w fun e w' => e = .returned (.bool true) ∧ Below w.heap.size w w' := by
  have h := alike_eq B B' (views rs) (views rs') c c' but w (fun k => k < w.heap.size) hA hB (fun _ h => h) (by unfold views; rw [List.length_map, List.length_map]; exact hl) (by unfold views; rw [List.length_map]; unfold maxLen; omega) heq
  have e : (views rs).length = rs.length := by unfold views; rw [List.length_map]
  rw [e] at h
  exact h
theorem alike_n (B B' : Option Addr) (c c' : Nat) (but : Int) (w : World) (n : Nat) (rs rs' : List (Res Tryz.prog 3)) (hn' : rs.length = n) (hA : Elems kEye w B (views rs) (fun k => k < w.heap.size)) (hB : Elems kEye w B' (views rs') (fun k => k < w.heap.size)) (hl : rs'.length = rs.length) (hn : n ≤ 1000) (heq : ∀ k : Nat, (k : Int) ≠ but → (views rs)[k]? = (views rs')[k]?) :
    Calls Tryz.prog 25 #[.slice B n c, .slice B' n c', .int .i64 but] w fun e w' => e = .returned (.bool true) ∧ Below w.heap.size w w' := by
  subst hn'
  exact alike_res B B' c c' but w rs rs' hA hB hl hn heq
theorem look_n (A : Option Addr) (c n : Nat) (rs : List (Res Tryz.prog 3)) (w : World) (hn' : rs.length = n) (hrow : FuncRow w A rs) (hA : ∀ ad, A = some ad → ad.block < w.heap.size) (hh : ∀ r ∈ rs, r.K.Holds w r.b 0 r.d r.F) (hF : ∀ r ∈ rs, ∀ k, r.F k → k < w.heap.size) (hn : n ≤ 1000) :
    Calls Tryz.prog 23 #[.slice A n c] w (fun e w' => ∃ B c, e = .returned (.slice B n c) ∧ Elems kEye w' B (views rs) (Fresh w w') ∧ Below w.heap.size w w') := by
  subst hn'
  exact look_any A c rs w hrow hA hh hF hn
set_option maxRecDepth 20000 in
set_option maxHeartbeats 8000000 in
theorem apart_true (S : KS) (see : SeesL 700000 Tryz.prog 3 6 S.kind) (hov : S.kind.over ≤ 1000) (d : S.kind.Data) (a0 : Int) (a1 : Int) (a2 : Int) (a3 : Int) (a4 : Int) (A5 : Option Addr) (n5 c5 : Nat) (w : World) (F : Nat → Prop) (h : HoldsAs S.kind w #[Value.int .i64 a0, Value.int .i64 a1, Value.int .i64 a2, Value.int .i64 a3, Value.int .i64 a4, Value.slice A5 n5 c5].toList d F) (hF : ∀ k, F k → k < w.heap.size) (hrng : S.rng d)
    (own : S.small d → ∀ W : World, (∀ k, F k → W.heap[k]? = w.heap[k]?) → (∀ k, F k → k < W.heap.size) → Calls Tryz.prog 5 #[.agg #[Value.int .i64 a0, Value.int .i64 a1, Value.int .i64 a2, Value.int .i64 a3, Value.int .i64 a4, Value.slice A5 n5 c5]] W (OwnPost S.kind d W))
    (C : Option Addr) (cc : Nat) (fs : List FuncId) (hfs : CallRow w C fs) (hok : ∀ f ∈ fs, CallOK Tryz.prog 3 S.kind S.small f ∧ ∀ args w, (callFunc f args).run Tryz.prog w = .ok (.enter f args) w) (hfl : fs.length ≤ 1000) :
    Calls Tryz.prog 4 #[.agg #[Value.int .i64 a0, Value.int .i64 a1, Value.int .i64 a2, Value.int .i64 a3, Value.int .i64 a4, Value.slice A5 n5 c5], .func (.func 5) #[] #[], .func (.func 6) #[] #[], .slice C fs.length cc] w (fun e w' => e = .returned (.bool true) ∧ Below w.heap.size w w') := by
  have HF := Lib.hid hF
  have Hx := Lib.hid h
  have Hfs := Lib.hid hfs
  have Hok := Lib.hid hok
  have Hov := Lib.hid hov
  have Hrng := Lib.hid hrng
  have Hown := Lib.hid own
  have See := Lib.hid see
  clear h hF hfs hok hov hrng own see
  go_enter Tryz.func4, Tryz.ntmps4
  have He0 : Hid (Eye 3 ((w.alloc (Obj.cells #[Value.int .i64 a0, Value.int .i64 a1, Value.int .i64 a2, Value.int .i64 a3, Value.int .i64 a4, Value.slice A5 n5 c5] 26)).alloc (Obj.cells #[Value.slice none 0 0, Value.slice none 0 0, Value.bool false, Value.int IntKind.i64 0] 52)) (w.heap.size + 1) 0 false (w.heap.size + 2) []) := eye_of_blind (blind_at (box2 _ _).2) _
  have Hx0 : Hid (S.kind.Holds ((w.alloc (Obj.cells #[Value.int .i64 a0, Value.int .i64 a1, Value.int .i64 a2, Value.int .i64 a3, Value.int .i64 a4, Value.slice A5 n5 c5] 26)).alloc (Obj.cells #[Value.slice none 0 0, Value.slice none 0 0, Value.bool false, Value.int IntKind.i64 0] 52)) w.heap.size 0 d (fun k => F k ∨ k = w.heap.size)) :=
    Hx.out _ w.heap.size 0 (fun k hk => heap_alloc2 _ _ (HF.out k hk)) fun j u hj => by rw [Nat.zero_add]; exact block_cell (box2 _ _).1 (by simpa using hj)
  have HF0 : Hid (∀ k, (F k ∨ k = w.heap.size) → k < w.heap.size + 2 ∧ k ≠ w.heap.size + 1) := fun k hk => by
    rcases hk with hk | rfl
    · have := HF.out k hk; omega
    · omega
  obtain ⟨V, HV⟩ : ∃ V, Hid (S.kind.view d [] = V) := ⟨_, rfl⟩
  go_wp2_with (first
    | ((go_at_call 22); (refine (great_any A1 V.length c1 m1 n1 w1 L1.out).mono ?_); (intro e w2 p2); (obtain ⟨rfl, p2⟩ := p2); (have O2 := Lib.hid (O1.out.ext p2)); clear p2)
    | ((go_at_call 6); (refine (See.out false _ (w.heap.size + 1) 0 w.heap.size 0 (w.heap.size + 2) (fun k => F k ∨ k = w.heap.size) d [] He0 Hx0 HF0 (Nat.lt_succ_self _) (Nat.le_of_eq (alloc2_size _ _ _).symm) (Nat.zero_le _)).mono ?_); (intro e w1 p1); (obtain ⟨rfl, o1, l1⟩ := outer_start Hx.out HF.out Hov.out p1); (rw [HV.out] at o1 l1); (obtain ⟨A1, c1, m1, n1, e0, _, _, _, e1, e2, e3⟩ := o1.eye); (have O1 := Lib.hid o1); (have L1 : Hid (V.length ≤ maxLen) := Nat.le_trans l1 (by unfold maxLen; decide)); clear p1 o1))
  all_goals (clear He0 Hx0 HF0)
  · go_ret
    exact ⟨rfl, O2.out.below⟩
  have hle : V.length ≤ 2000 := by omega
  have hsm : S.small d := ⟨S.flat.small (d := d) (by rw [HV.out]; exact hle) (by decide), Hrng.out⟩
  have Hsm := Lib.hid hsm
  have HO := Lib.hid (Hown.out hsm)
  have Hle := Lib.hid hle
  clear hsm Hown
  clear hle e0 e1 e2 e3 L1 O1
  go_loopw [10] (fun i wr => ∃ k : Nat, k ≤ fs.length ∧ i = .int .i64 k ∧ Outer S.kind w wr w.heap.size (w.heap.size + 1) #[Value.int .i64 a0, Value.int .i64 a1, Value.int .i64 a2, Value.int .i64 a3, Value.int .i64 a4, Value.slice A5 n5 c5] 26 d (fun k => F k ∨ k = w.heap.size) V) (fun i _ => fs.length - (intOf i).toNat)
  case atStart => exact ⟨0, Nat.zero_le _, rfl, O2.out⟩
  case round =>
    obtain ⟨k, hk, rfl, hrr⟩ := hrel
    by_cases hlt : k < fs.length
    · have hlt2 : (k : Int) < (fs.length : Int) := by omega
      obtain ⟨wo, rfl⟩ : ∃ wo : World, wo = wr := ⟨_, rfl⟩
      have hb0 := block_cell (j := 0) hrr.box rfl
      obtain ⟨z0, z0'⟩ := hb0
      have hb1 := block_cell (j := 1) hrr.box rfl
      obtain ⟨z1, z1'⟩ := hb1
      have hb2 := block_cell (j := 2) hrr.box rfl
      obtain ⟨z2, z2'⟩ := hb2
      have hb3 := block_cell (j := 3) hrr.box rfl
      obtain ⟨z3, z3'⟩ := hb3
      have hb4 := block_cell (j := 4) hrr.box rfl
      obtain ⟨z4, z4'⟩ := hb4
      have hb5 := block_cell (j := 5) hrr.box rfl
      obtain ⟨z5, z5'⟩ := hb5
      obtain ⟨gc, sc, rfl, hgc, hcc⟩ := Hfs.out k fs[k] (List.getElem?_eq_getElem hlt)
      obtain ⟨fk, Hfk⟩ : ∃ fk, Hid (fs[k] = fk) := ⟨fs[k], rfl⟩
      rw [Hfk.out] at hcc
      obtain ⟨hck, hrun⟩ : CallOK Tryz.prog 3 S.kind S.small fk ∧ ∀ args w, (callFunc fk args).run Tryz.prog w = .ok (.enter fk args) w := by rw [← Hfk.out]; exact Hok.out _ (List.getElem_mem hlt)
      have Hck := Lib.hid hck
      have hcc1 : wo.cell? ⟨gc, sc + k, none⟩ = some (.func (.func fk) #[] #[]) := (hrr.below.cell (p := ⟨gc, sc + k, none⟩) hgc).trans hcc
      have hgc1 : gc < wo.heap.size := Nat.lt_of_lt_of_le hgc hrr.below.size
      have Hwo : Hid (∀ k, F k → wo.heap[k]? = w.heap[k]?) := fun b hb => hrr.below.block b (HF.out b hb)
      have Hxo : Hid (HoldsAs S.kind wo #[Value.int .i64 a0, Value.int .i64 a1, Value.int .i64 a2, Value.int .i64 a3, Value.int .i64 a4, Value.slice A5 n5 c5].toList d F) := Hx.out.same fun b hb => hrr.below.block b (HF.out b hb)
      have HFw : Hid (∀ k, F k → k < wo.heap.size) := fun k hk => Nat.lt_of_lt_of_le (HF.out k hk) hrr.below.size
      have Hrr := Lib.hid hrr
      clear hrr hcc hck
      go_wp2_with (first
        | ((go_at_call 6); (refine (See.out false w11 (w3.heap.size + 1) 0 wa.heap.size 0 w11.heap.size (fun k => Fresh wo wa k ∨ k = wa.heap.size) d8 [] (eye_of_blind (BO8.out.keep (B11.out.block _ (Nat.lt_of_lt_of_le (Nat.lt_succ_self _) (Nat.le_trans (Nat.le_succ _) Z8.out)))) _) S11.out.y (fun q hq => by have h1 := HFy.out q hq; have h2 := Z8.out; have h3 := B11.out.size; omega) (by have h2 := Z8.out; have h3 := B11.out.size; omega) (Nat.le_refl _) (Nat.zero_le _)).mono ?_); (intro e w12 p12); (obtain ⟨rfl, s12, ov12, bg12, z12⟩ := over_step S11.out (BG8.out.keep (B11.out.block _ Z8.out)) (Nat.le_trans Z8.out B11.out.size) Hov.out p12); (have S12 := Lib.hid s12); (have OV12 := Lib.hid ov12); (have BG12 := Lib.hid bg12); (have Z12 := Lib.hid z12); clear p12 s12 ov12 bg12 z12)
        | ((go_at_call 25); (refine (alike_res B6 B10 c6 c10 (-1) w10 rs rs (told_next T8.out (trans2 B9.out B10b.out)) (told_fresh T10.out) rfl hrl (fun _ _ => rfl)).mono ?_); (intro e w11 p11); (obtain ⟨rfl, b11⟩ := p11); (have S11 := Lib.hid ((S9.out.ext B10b.out).ext b11)); (have B11 := Lib.hid (trans3 B9.out B10b.out b11)); clear b11)
        | ((go_at_call 23); (refine (look_any A3 c3 rs w9 S9.out.row S9.out.rowLt S9.out.res S9.out.holdsF hrl).mono ?_); (intro e w10 p10); (obtain ⟨B10, c10, rfl, t10, b10⟩ := p10); (have T10 := Lib.hid t10); (have B10b := Lib.hid b10); clear t10 b10)
        | ((go_at_call 24); (refine (same_eq A8 C8 V c8 f8 m8 k8 n8 j8 w8 _ _ El8.out Ei8.out LV.out).mono ?_); (intro e w9 p9); (obtain ⟨rfl, b9⟩ := p9); (have S9 := Lib.hid (S8.out.ext b9)); (have B9 := Lib.hid b9); clear b9 e0 e1 e2 e3 g0 g1 g2 g3 El8 Ei8)
        | ((go_at_call 6); (refine (See.out true (w6.alloc (.cells (eye0 true 0) 52)) w6.heap.size 0 wa.heap.size 0 (w6.heap.size + 1) (fun k => Fresh wo wa k ∨ k = wa.heap.size) d [] (eye_of_box (box1 _) _) ((S5.out.ext B6b.out).ext ((Below.refl _ _).alloc (Nat.le_refl _) _)).y HFy6.out (Nat.lt_succ_self _) (Nat.le_of_eq (alloc_size _ _).symm) (Nat.zero_le _)).mono ?_); (intro e w8 p8); (obtain ⟨rfl, q8⟩ := mark_step Hrr.out S5.out IS5.out BO5.out BG5.out Z5.out T6.out B6b.out p8); (obtain ⟨d8, s8, o8, is8, bo8, bg8, t8, z8⟩ := q8); (obtain ⟨A8, c8, m8, n8, e0, _, l8, L8, e1, e2, e3⟩ := o8.eye); (obtain ⟨C8, f8, k8, j8, g0, _, i8, _, g1, g2, g3⟩ := is8); (have S8 := Lib.hid s8); (have O8 := Lib.hid o8); (have BO8 := Lib.hid bo8); (have BG8 := Lib.hid bg8); (have T8 := Lib.hid t8); (have Z8 := Lib.hid z8); (have El8 := Lib.hid l8); (have Ei8 := Lib.hid i8); (have LV := Lib.hid L8); clear p8 s8 o8 bo8 bg8 t8 z8 l8 i8 L8)
        | ((go_at_call 23); (refine (look_any A3 c3 rs w5 S5.out.row S5.out.rowLt S5.out.res S5.out.holdsF hrl).mono ?_); (intro e w6 p6); (obtain ⟨B6, c6, rfl, t6, b6⟩ := p6); (have T6 := Lib.hid t6); (have B6b := Lib.hid b6); (have HFy6 : Hid (∀ k, (fun k => Fresh wo wa k ∨ k = wa.heap.size) k → k < w6.heap.size + 1 ∧ k ≠ w6.heap.size) := fun k hk => by have := HFy.out k hk; have := Z5.out; have := b6.size; omega); clear t6 b6)
        | ((go_at_call 6); (refine (See.out false (alloc3 w3 52) w3.heap.size 0 wa.heap.size 0 (w3.heap.size + 3) (fun k => Fresh wo wa k ∨ k = wa.heap.size) d [] (eye_of_box (alloc3_box w3 52).1 _) (S3.out.ext (alloc3_below w3 52)).y (fun k hk => ⟨Nat.lt_of_lt_of_le (HFy.out k hk) (Nat.le_add_right _ _), Nat.ne_of_lt (HFy.out k hk)⟩) (Nat.lt_add_of_pos_right (by decide)) (Nat.le_of_eq (alloc3_size _ _).symm) (Nat.zero_le _)).mono ?_); (intro e w5 p5); (obtain ⟨rfl, s5, is5, bo5, bg5, z5⟩ := is_step S3.out Hov.out HV.out p5); (have S5 := Lib.hid s5); (have IS5 := Lib.hid is5); (have BO5 := Lib.hid bo5); (have BG5 := Lib.hid bg5); (have Z5 := Lib.hid z5); clear p5 s5 is5 bo5 bg5 z5)
        | ((refine (Hck.out _ wa.heap.size d (fun k => Fresh wo wa k ∨ k = wa.heap.size) (hold_box Ha.out) hold_lt Hsm.out).mono ?_); (intro e w3 p3); (obtain ⟨A3, c3, rs, rfl, hrl, s3⟩ := sit_start Ha.out Hba.out p3); (have S3 := Lib.hid s3); (have HFy : Hid (∀ k, (fun k => Fresh wo wa k ∨ k = wa.heap.size) k → k < w3.heap.size) := fun k hk => (s3.fy k hk).2); clear p3 s3)
        | ((go_at_call 5); (refine (HO.out wo Hwo.out HFw.out).mono ?_); (intro e wa pa); (obtain ⟨ya0, ya1, ya2, ya3, ya4, yA5, yn5, yc5, rfl, ha, hba⟩ := pa); (have Ha := Lib.hid ha); (have Hba := Lib.hid hba); (have hcc2 : wa.cell? ⟨gc, sc + k, none⟩ = some (.func (.func fk) #[] #[]) := (hba.cell (p := ⟨gc, sc + k, none⟩) hgc1).trans hcc1); (have hgc2 : gc < wa.heap.size := Nat.lt_of_lt_of_le hgc1 hba.size); clear ha hba))
      obtain ⟨V2, HV2⟩ : ∃ V2, Hid (S.kind.view d8 [] = V2) := ⟨S.kind.view d8 [], rfl⟩
      rw [HV2.out] at OV12
      have Hrl := Lib.hid hrl
      go_loopw [17] (InRel S.kind wo w3.heap.size wa.heap.size d8 (fun k => Fresh wo wa k ∨ k = wa.heap.size) A3 rs V2) (fun i _ => rs.length - (intOf i).toNat)
      case atStart => exact ⟨0, Nat.zero_le _, rfl, rs, rfl, S12.out, OV12.out, BG12.out, Z12.out⟩
      case round =>
        obtain ⟨wq, rfl⟩ : ∃ wq : World, wq = wr := ⟨_, rfl⟩
        obtain ⟨k2, hk2, rfl, rs', hlen, sq1, ov1, bg1, z1⟩ := hrel
        have SQ := Lib.hid sq1
        have OVQ := Lib.hid ov1
        have BGQ := Lib.hid bg1
        have ZQ := Lib.hid z1
        clear ov1 bg1 z1
        by_cases hlt3 : k2 < rs.length
        · have hlt4 : (k2 : Int) < (rs.length : Int) := by omega
          obtain ⟨r, hr⟩ : ∃ r, rs'[k2]? = some r := ⟨_, List.getElem?_eq_getElem (by omega)⟩
          obtain ⟨gq, sq, hA3, hcell⟩ := sq1.row k2 r hr
          have hgq : gq < wq.heap.size := sq1.rowLt _ hA3
          subst hA3
          have Hr := Lib.hid hr
          have hrun2 := r.run
          clear sq1 hr
          go_wp2_with (first
            | ((go_at_call 25); (refine (alike_n BA BC cA cC k2 wC rs.length rs' (setD rs' k2 r dB) hlen (told_next TB.out BCb.out) (told_fresh TC.out) setD_length hrl setD_views).mono ?_); (intro e wD pD); (obtain ⟨rfl, bD⟩ := pD); (have BD := Lib.hid (trans2 BCb.out bD)); clear bD)
            | ((go_at_call 23); (refine (look_n (some ⟨gq, sq, none⟩) c3 rs.length (setD rs' k2 r dB) wB (setD_length.trans hlen) SB.out.row SB.out.rowLt SB.out.res SB.out.holdsF hrl).mono ?_); (intro e wC pC); (obtain ⟨BC, cC, rfl, tC, bC⟩ := pC); (have TC := Lib.hid tC); (have BCb := Lib.hid bC); clear tC bC)
            | ((refine (r.sees true (wA.alloc (.cells (eye0 true _) 52)) wA.heap.size 0 r.b 0 (wA.heap.size + 1) r.F r.d [] (eye_of_box (box1 _) _) ((SA.out.ext ((Below.refl _ _).alloc (Nat.le_refl _) _)).res r (List.mem_of_getElem? Hr.out)) HFr.out (Nat.lt_succ_self _) (Nat.le_of_eq (alloc_size _ _).symm) (Nat.zero_le _)).mono ?_); (intro e wB pB); (obtain ⟨rfl, qB⟩ := markR_step Hr.out SA.out OVA.out BGA.out ZA.out TA.out pB); (obtain ⟨dB, sB, ovB, bgB, tB, zB⟩ := qB); (have SB := Lib.hid sB); (have OVB := Lib.hid ovB); (have BGB := Lib.hid bgB); (have TB := Lib.hid tB); (have ZB := Lib.hid zB); clear pB sB ovB bgB tB zB hcellA)
            | ((go_at_call 23); (refine (look_n (some ⟨gq, sq, none⟩) c3 rs.length rs' wq hlen SQ.out.row SQ.out.rowLt SQ.out.res SQ.out.holdsF hrl).mono ?_); (intro e wA pA); (obtain ⟨BA, cA, rfl, tA, bA⟩ := pA); (have hcellA : wA.cell? ⟨gq, sq + k2, none⟩ = some (.func (.func r.g) #[] #[.pointer (some ⟨r.b, 0, none⟩)]) := (bA.cell (p := ⟨gq, sq + k2, none⟩) hgq).trans hcell); (have SA := Lib.hid (SQ.out.ext bA)); (have OVA : Hid (EyeHas wA (w3.heap.size + 1) 0 V2 (fun k => w3.heap.size + 3 ≤ k ∧ k < wA.heap.size)) := ov_ext OVQ.out ZQ.out bA); (have BGA : Hid (Blind wA (w3.heap.size + 2) 0) := BGQ.out.keep (bA.block _ ZQ.out)); (have ZA : Hid (w3.heap.size + 3 ≤ wA.heap.size) := Nat.le_trans ZQ.out bA.size); (have TA := Lib.hid (told_from (N := w3.heap.size) tA (Nat.le_trans (Nat.le_add_right _ 3) ZQ.out))); (have HFr : Hid (∀ q, r.F q → q < wA.heap.size + 1 ∧ q ≠ wA.heap.size) := fun q hq => by have h1 := (SQ.out.rb r (List.mem_of_getElem? Hr.out) q hq).2.1; have h2 := ZQ.out; have h3 := bA.size; omega); clear tA bA))
          all_goals
            rw [show ((k2 : Int) + 1) = ((k2 + 1 : Nat) : Int) from rfl]
            exact ⟨⟨k2 + 1, hlt3, rfl, _, setD_length.trans hlen, SB.out.ext BD.out, ov_ext OVB.out ZB.out BD.out, BGB.out.keep (BD.out.block _ ZB.out), Nat.le_trans ZB.out BD.out.size⟩, all_measure hlt3⟩
        · have hlt4 : ¬ (k2 : Int) < (rs.length : Int) := by omega
          clear sq1
          go_wp2_with (first
            | ((go_at_call 24); (refine (same_eq A8 C8 V2 c8 f8 m8 k8 n8 j8 wE _ _ El8.out Ei8.out LV2.out).mono ?_); (intro e wF pF); (obtain ⟨rfl, bF⟩ := pF); (have SF := Lib.hid (SE.out.ext bF)); clear bF e0 e1 e2 e3 g0 g1 g2 g3 El8 Ei8)
            | ((go_at_call 6); (refine (See.out false wq (w3.heap.size + 2) 0 wa.heap.size 0 wq.heap.size (fun k => Fresh wo wa k ∨ k = wa.heap.size) d8 [] (eye_of_blind BGQ.out _) SQ.out.y (fun q hq => by have h1 := HFy.out q hq; have h2 := ZQ.out; omega) ZQ.out (Nat.le_refl _) (Nat.zero_le _)).mono ?_); (intro e wE pE); (rw [HV2.out] at pE); (obtain ⟨rfl, sE, ovE, goE⟩ := gone_step SQ.out OVQ.out ZQ.out Hov.out pE); (obtain ⟨A8, c8, m8, n8, e0, _, l8, L8, e1, e2, e3⟩ := ovE); (obtain ⟨C8, f8, k8, j8, g0, _, i8, _, g1, g2, g3⟩ := goE); (have SE := Lib.hid sE); (have El8 := Lib.hid l8); (have Ei8 := Lib.hid i8); (have LV2 := Lib.hid L8); clear pE sE l8 i8 L8))
          all_goals
            rw [show ((k : Int) + 1) = ((k + 1 : Nat) : Int) from rfl]
            exact ⟨⟨k + 1, hlt, rfl, Hrr.out.ext SF.out.below⟩, all_measure hlt⟩
    · have hlt2 : ¬ (k : Int) < (fs.length : Int) := by omega
      go_wp2
      go_ret
      exact ⟨rfl, hrr.below⟩

end Go.Proofs.YtojicidicefdjaaGreat
