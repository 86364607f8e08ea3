/- Proved here, with no condition of its own: look. -/
import Derived.Test.YtojicidicefdjaaGreatOwn
import Derived.Test.YtojicidicefdjaaGreatHA
import Derived.Laws.MakeOwn
import Derived.Laws.Entries
namespace Go.Proofs.YtojicidicefdjaaGreat
open Go Go.RowKit Go.Hs
theorem run_make_rowN {P : Program} (t e : TypeId) (i : TypeInfo) (z : Value) (ht : P.underlying t = some (.slice e)) (hi : P.info? e = some i) (hz : i.zero = some z)
    (kl kc : IntKind) (n c : Nat) (hnc : n ≤ c) (hbytes : i.bytes * c ≤ 281474976710656) (h63 : c ≤ 9223372036854775807) (w : World) :
    (Instr.makeSlice t (.int kl (n : Int)) (.int kc (c : Int))).run P w = .ok (.slice (some ⟨w.heap.size, 0, none⟩) n c) (w.alloc (.cells (madeCells z.cells (c * i.size)) e)) := by
  have hb : (i.bytes : Int) * (c : Int) ≤ 281474976710656 := by
    have h : ((i.bytes * c : Nat) : Int) ≤ 281474976710656 := by omega
    rwa [Int.natCast_mul] at h
  have hr := run_make (P := P) w t e i z ht hi hz kl kc n c (by omega) (by omega) hb (by omega)
  simp only [Int.toNat_natCast] at hr
  exact hr
theorem info52 : (Tryz.prog.info? 52).map (fun i => (i.zero, i.size, i.bytes)) = some (some (.agg #[.slice none 0 0, .slice none 0 0, .bool false, .int .i64 0]), 4, 64) := by kernel_rfl
theorem und53 : Tryz.prog.underlying 53 = some (.slice 52) := by kernel_rfl
theorem made4 (n : Nat) : ∀ i, i < n → (madeCells #[Value.slice none 0 0, Value.slice none 0 0, Value.bool false, Value.int IntKind.i64 0] (n * 4))[i * 4]? = some (.slice none 0 0) ∧ (madeCells #[Value.slice none 0 0, Value.slice none 0 0, Value.bool false, Value.int IntKind.i64 0] (n * 4))[i * 4 + 1]? = some (.slice none 0 0) ∧ (madeCells #[Value.slice none 0 0, Value.slice none 0 0, Value.bool false, Value.int IntKind.i64 0] (n * 4))[i * 4 + 2]? = some (.bool false) ∧ (madeCells #[Value.slice none 0 0, Value.slice none 0 0, Value.bool false, Value.int IntKind.i64 0] (n * 4))[i * 4 + 3]? = some (.int .i64 0) := by
  intro i hi
  have key : ∀ (j : Nat) (u : Value), j < 4 → #[Value.slice none 0 0, Value.slice none 0 0, Value.bool false, Value.int IntKind.i64 0][j]! = u → (madeCells #[Value.slice none 0 0, Value.slice none 0 0, Value.bool false, Value.int IntKind.i64 0] (n * 4))[i * 4 + j]? = some u := by
    intro j u hj hu
    unfold madeCells
    rw [Array.getElem?_map, Array.getElem?_range, if_pos (by omega)]
    show some (#[Value.slice none 0 0, Value.slice none 0 0, Value.bool false, Value.int IntKind.i64 0][(i * 4 + j) % (#[Value.slice none 0 0, Value.slice none 0 0, Value.bool false, Value.int IntKind.i64 0] : Array Value).size]!) = _
    rw [show (#[Value.slice none 0 0, Value.slice none 0 0, Value.bool false, Value.int IntKind.i64 0] : Array Value).size = 4 from rfl, show (i * 4 + j) % 4 = j by omega, hu]
  exact ⟨key 0 _ (by omega) rfl, key 1 _ (by omega) rfl, key 2 _ (by omega) rfl, key 3 _ (by omega) rfl⟩
theorem of_drew {eb eo len over : Nat} {F : Nat → Prop} {ys : List Int} {w w' : World} (h : ∃ xs', Eye 3 w' eb eo false w.heap.size xs' ∧ (True → xs' = ys) ∧ xs'.length ≤ max len 200000 + over ∧ EyeFrame w.heap.size eb eo (MF false F) w.drew w' ∧ Marked F w.drew w') :
    ∃ xs', Eye 3 w' eb eo false w.heap.size xs' ∧ (false = false → xs' = ys) ∧ xs'.length ≤ max len 200000 + over ∧ EyeFrame w.heap.size eb eo (MF false F) w w' ∧ Marked F w w' := by
  obtain ⟨xs, h1, h2, h3, h4, h5⟩ := h
  exact ⟨xs, h1, fun _ => h2 trivial, h3, ⟨h4.os, h4.tape, h4.output, h4.size, h4.block, h4.other, h4.froz⟩, h5⟩
theorem look_keep {ti : TypeId} {eb eo len over g o : Nat} {F : Nat → Prop} {ys : List Int} {w w' : World} {v : Value} (h : ∃ xs', Eye ti w' eb eo false w.heap.size xs' ∧ (false = false → xs' = ys) ∧ xs'.length ≤ max len 200000 + over ∧ EyeFrame w.heap.size eb eo (MF false F) w.drew w' ∧ Marked F w.drew w')
    (hg : g < w.heap.size) (hne : g ≠ eb) (hc : w.cell? ⟨g, o, none⟩ = some v) : w'.cell? ⟨g, o, none⟩ = some v := by
  obtain ⟨_, _, _, _, h4, _⟩ := h
  exact (World.cell?_of_block (a := ⟨g, o, none⟩) (h4.block g hg hne fun h => by cases h.1)).trans hc
set_option maxRecDepth 20000 in
set_option maxHeartbeats 400000 in
theorem look_any (A : Option Addr) (c : Nat) (rs : List (Res Tryz.prog 3)) (w : World) (hrow : FuncRow w A rs) (hA : ∀ ad, A = some ad → ad.block < w.heap.size) (hh : ∀ r ∈ rs, r.K.Holds w r.b 0 r.d r.F) (hF : ∀ r ∈ rs, ∀ k, r.F k → k < w.heap.size) (hn : rs.length ≤ 1000) :
    Calls Tryz.prog 23 #[.slice A rs.length c] w (LookPost rs w) := by
  obtain ⟨i52, hi52, hz0, hz1, hz2⟩ := info_parts info52
  have Hrow := Lib.hid hrow
  have HA := Lib.hid hA
  have Hh := Lib.hid hh
  have HF := Lib.hid hF
  have hmk : ∀ W : World, (Instr.makeSlice 53 (.int .i64 (rs.length : Int)) (.int .i64 (rs.length : Int))).run Tryz.prog W = .ok (.slice (some ⟨W.heap.size, 0, none⟩) rs.length rs.length) (W.alloc (.cells (madeCells (Value.agg #[.slice none 0 0, .slice none 0 0, .bool false, .int .i64 0]).cells (rs.length * i52.size)) 52)) :=
    fun W => run_make_rowN 53 52 i52 _ und53 hi52 hz0 .i64 .i64 rs.length rs.length (Nat.le_refl _) (by rw [hz2]; omega) (by omega) W
  clear hrow hA hh hF
  go_enter Tryz.func23, Tryz.ntmps23
  go_wp2
  have Hst : Hid (LookRel rs w w.heap.size 0 (w.alloc (Obj.cells (madeCells #[Value.slice none 0 0, Value.slice none 0 0, Value.bool false, Value.int IntKind.i64 0] (rs.length * 4)) 52))) := look_start (made4 rs.length)
  clear hmk
  go_loopw [4] (fun i wr => ∃ k : Nat, k ≤ rs.length ∧ i = .int .i64 k ∧ LookRel rs w w.heap.size k wr) (fun i _ => rs.length - (intOf i).toNat)
  case atStart => exact ⟨0, Nat.zero_le _, rfl, Hst.out⟩
  case round =>
    obtain ⟨k, hk, rfl, hrr⟩ := hrel
    by_cases hlt : k < rs.length
    · have hlt2 : (k : Int) < (rs.length : Int) := by omega
      obtain ⟨r, hr⟩ : ∃ r, rs[k]? = some r := ⟨_, List.getElem?_eq_getElem hlt⟩
      obtain ⟨g, s, rfl, hcell⟩ := Hrow.out k r hr
      have hgw : g < w.heap.size := HA.out _ rfl
      have hcw : wr.cell? ⟨g, s + k, none⟩ = some (.func (.func r.g) #[] #[.pointer (some ⟨r.b, 0, none⟩)]) := (hrr.below.cell (p := ⟨g, s + k, none⟩) hgw).trans hcell
      have hmem : r ∈ rs := List.mem_of_getElem? hr
      have Heye : Hid (Eye 3 wr.drew w.heap.size (k * 4) false wr.heap.size []) := eye_of_blind (hrr.rest k hlt (Nat.lt_irrefl _)) _
      have Hho : Hid (r.K.Holds wr.drew r.b 0 r.d r.F) := r.K.same (Hh.out r hmem) fun b hb => hrr.below.block b (HF.out r hmem b hb)
      have HrF : Hid (∀ b, r.F b → b < wr.heap.size ∧ b ≠ w.heap.size) := fun b hb => by
        have h1 := HF.out r hmem b hb
        have h2 := hrr.below.size
        exact ⟨by omega, by omega⟩
      have hbo : w.heap.size < wr.heap.size := hrr.hi
      have hgr : g < wr.heap.size := by omega
      have hrun := r.run
      have Hrr := Lib.hid hrr
      have Hr := Lib.hid hr
      clear hrr hcell hr
      go_wp2
      go_region_held3 (fun w' => w'.cell? ⟨g, s + k, none⟩ = some (.func (.func r.g) #[] #[.pointer (some ⟨r.b, 0, none⟩)])) (first | go_keep | assumption) ((refine (r.sees false wr.drew w.heap.size (k * 4) r.b 0 wr.heap.size r.F r.d [] Heye.out Hho.out HrF.out hbo (Nat.le_refl _) (Nat.zero_le _)).mono ?_; intro e w' hp; obtain ⟨rfl, hp⟩ := hp; have Hp := Lib.hid hp; have hcw2 : w'.cell? ⟨g, s + k, none⟩ = some (.func (.func r.g) #[] #[.pointer (some ⟨r.b, 0, none⟩)]) := look_keep hp hgr (Nat.ne_of_lt hgw) hcw; clear hp))
      go_wp2
      all_goals
        rw [show ((k : Int) + 1) = ((k + 1 : Nat) : Int) from rfl]
        exact ⟨⟨k + 1, hlt, rfl, look_step Hrr.out Hr.out (of_drew Hp.out)⟩, all_measure hlt⟩
    · have hlt2 : ¬ (k : Int) < (rs.length : Int) := by omega
      go_wp2
      go_ret
      exact look_end hrr (Nat.le_antisymm hk (Nat.le_of_not_lt hlt))
end Go.Proofs.YtojicidicefdjaaGreat
