/- Proved here, with no condition of its own: the evaluator is right; summaries of calls. -/
import Derived.Test.YtojicidicefdjaaGreatExC
import Derived.Orders
namespace Go.Ex
open Go Go.RowKit
theorem upd_exists {α : Type} (a : α) : ∀ (n : Nat) (t : Tr α), ∃ t', IsSet t n a t' := by
  intro n
  induction n using Nat.strongRecOn with
  | ind n ih =>
    intro t
    have hnode : ∀ (v : Option α) (l r : Tr α), (∀ m, get t m = get (.node v l r) m) → ∃ t', IsSet t n a t' := by
      intro v l r ht
      cases n with
      | zero => exact ⟨.node (some a) l r, fun m => by rw [ht]; cases m with | zero => rfl | succ m => rw [get_node_succ, get_node_succ]; simp⟩
      | succ n =>
        by_cases h : n % 2 = 0
        · obtain ⟨l', hl⟩ := ih (n / 2) (by omega) l
          refine ⟨.node v l' r, fun m => ?_⟩
          rw [ht]
          cases m with
          | zero => simp [get_node_zero]
          | succ m =>
            rw [get_node_succ, get_node_succ]
            by_cases hm : m % 2 = 0
            · rw [if_pos hm, if_pos hm, hl]; congr 1; simp; omega
            · rw [if_neg hm, if_neg hm, if_neg (by omega)]
        · obtain ⟨r', hl⟩ := ih (n / 2) (by omega) r
          refine ⟨.node v l r', fun m => ?_⟩
          rw [ht]
          cases m with
          | zero => simp [get_node_zero]
          | succ m =>
            rw [get_node_succ, get_node_succ]
            by_cases hm : m % 2 = 0
            · rw [if_pos hm, if_pos hm, if_neg (by omega)]
            · rw [if_neg hm, if_neg hm, hl]; congr 1; simp; omega
    cases t with
    | nil => exact hnode none .nil .nil fun m => by cases m with | zero => rfl | succ m => rw [get_node_succ]; simp
    | node v l r => exact hnode v l r fun _ => rfl
theorem putTo_exists (nt : Nat) (tm : Tr Value) (dst : Option Tmp) (v : Value) : ∃ tm', PutTo nt tm dst v tm' := by
  cases dst with
  | none => exact ⟨tm, rfl⟩
  | some d =>
    rcases Nat.lt_or_ge d nt with h | h
    · obtain ⟨t', ht⟩ := upd_exists v d tm; exact ⟨t', .inl ⟨h, ht⟩⟩
    · exact ⟨tm, .inr ⟨h, rfl⟩⟩
theorem PutTo.trel {nt : Nat} {tm tm' : Tr Value} {dst : Option Tmp} {v V : Value} {σ : Sg} {a : Act} (h : PutTo nt tm dst v tm') (ht : TRel σ tm nt a.tmps) (hc : Con σ v V) : TRel σ tm' nt (a.put dst V).tmps := by
  cases dst with
  | none => rw [show tm' = tm from h]; exact ht
  | some d =>
    have hsz := ht.size
    rcases h with ⟨hd, h1⟩ | ⟨hd, rfl⟩
    · refine ⟨by simp [Act.put, hsz], fun i u hu => ?_, fun i hu => ?_⟩
      · by_cases e : i = d
        · subst e; rw [h1 i, if_pos rfl] at hu; cases hu
          exact ⟨V, by simp [Act.put, hsz, hd], hc⟩
        · rw [h1 i, if_neg e] at hu
          obtain ⟨V', h3, h4⟩ := ht.some i u hu
          exact ⟨V', by simp only [Act.put]; rw [Array.getElem?_setIfInBounds_ne (Ne.symm e)]; exact h3, h4⟩
      · by_cases e : i = d
        · subst e; rw [h1 i, if_pos rfl] at hu; cases hu
        · rw [h1 i, if_neg e] at hu
          have := ht.none i hu
          simp only [Act.put]
          rw [Array.getD_eq_getD_getElem?] at this ⊢
          rw [Array.getElem?_setIfInBounds_ne (Ne.symm e)]; exact this
    · have : (a.put (some d) V).tmps = a.tmps := by
        simp only [Act.put]
        exact Array.setIfInBounds_eq_of_size_le (by rw [hsz]; exact hd)
      rw [this]; exact ht
theorem TRel.get_congr {σ : Sg} {tm tm' : Tr Value} {nt : Nat} {T : Array Value} (h : TRel σ tm nt T) (he : ∀ m, get tm' m = get tm m) : TRel σ tm' nt T :=
  ⟨h.size, fun i v hv => h.some i v (by rw [← he]; exact hv), fun i hv => h.none i (by rw [← he]; exact hv)⟩
theorem count_set {l : List Bool} : ∀ {i : Nat}, l[i]? = some false → (l.set i true).count false + 1 = l.count false := by
  induction l with
  | nil => intro i h; simp at h
  | cons b l ih =>
    intro i h
    cases i with
    | zero => simp at h; subst h; simp
    | succ i =>
      have := ih (i := i) (by simpa using h)
      cases b <;> simp <;> omega
section draw
variable {E : Env} (hE : EnvOK E) {B : Nat} {nest : Nest} (hN : NestOK E B nest) {ops : Array Oper} {nt : Nat} {all : List (Oper × Nat)} {tm tmE : Tr Value} {H HE : Heap} {recs : List Rc} {T : Nat → Option Heap}
/-- The set of operations that are done. -/
def Done (listed : Array Bool) (x : Nat) : Prop := listed.getD x false = true
structure DInv (B : Nat) (ops : Array Oper) (nt : Nat) (all : List (Oper × Nat)) (tm : Tr Value) (recs : List Rc) (T : Nat → Option Heap) (σ : Sg) (listed : Array Bool) (a : Act) (w : World) (tmS : Tr Value) (HS : Heap) : Prop where
  size : listed.size = ops.size
  closed : ∀ (j : Nat) o M, all[j]? = some (o, M) → Done listed j → ∀ i, M.testBit i = true → Done listed i
  slots : Slots nt recs (Done listed) tm tmS
  heap : T (dn (fun r => listed.getD r.i false) (louds recs) 1) = some HS
  rel : Rel B σ HS w
  hB : B ≤ w.heap.size
  tm : TRel σ tmS nt a.tmps
theorem slots_same {S S' : Nat → Prop} {t t' : Tr Value} (h : Slots nt recs S tm t) (h' : Slots nt recs S' tm t') {m : Nat} (he : ∀ r ∈ recs, r.o.dst = some m → (S r.i ↔ S' r.i)) : get t m = get t' m := by
  by_cases hm : m < nt
  · by_cases hex : ∃ r ∈ recs, S r.i ∧ r.o.dst = some m
    · obtain ⟨r, h1, h2, h3⟩ := hex
      rw [(h m).1 hm r h1 h2 h3, (h' m).1 hm r h1 ((he r h1 h3).1 h2) h3]
    · rw [(h m).2 (.inl fun r hr hS hd => hex ⟨r, hr, hS, hd⟩), (h' m).2 (.inl fun r hr hS hd => hex ⟨r, hr, (he r hr hd).2 hS, hd⟩)]
  · rw [(h m).2 (.inr (Nat.le_of_not_lt hm)), (h' m).2 (.inr (Nat.le_of_not_lt hm))]
theorem done_set {listed : Array Bool} {i : Nat} (hi : i < listed.size) (x : Nat) : Done (listed.setIfInBounds i true) x ↔ Done listed x ∨ x = i := by
  unfold Done
  by_cases e : i = x
  · subst e; simp [hi]
  · rw [getD_set_ne false e]; simp [show ¬ x = i from fun h => e h.symm]
include hE hN in
theorem draw_op (hd : DI ops all) (hs : Sole recs) (hc : Chain E nest ops nt all 0 tm H recs tmE HE) (hT : TabOK E nest recs H HE T) {σ : Sg} {listed : Array Bool} {a : Act} {w : World} {tmS : Tr Value} {HS : Heap}
    (v : DInv B ops nt all tm recs T σ listed a w tmS HS) {i : Nat} (hi : i ∈ Region.ready .any ops listed) (b : Frame) (rest : List Nat) (items : List Item) (cs : List Frame) :
    ∃ τ a' w' tmS' HS', Sg.le σ τ ∧ Below B w w' ∧ a'.defers = a.defers ∧ DInv B ops nt all tm recs T τ (listed.setIfInBounds i true) a' w' tmS' HS' ∧
      Steps E.P (lone (b.atR a (.inRegion ops (i :: rest) :: items)) cs w) (lone (b.atR a' (.inRegion ops rest :: items)) cs w') := by
  obtain ⟨hun, o, ho, hafter⟩ := mem_ready.1 hi
  have hlt : i < ops.size := (Array.getElem?_eq_some_iff.1 ho).1
  have hall : ∃ M, all[i]? = some (o, M) := by
    have h1 : (all.map (·.1))[i]? = some o := by rw [hd.fst]; simpa using ho
    rw [List.getElem?_map] at h1
    cases ha : all[i]? with
    | none => rw [ha] at h1; cases h1
    | some x => rw [ha] at h1; simp at h1; exact ⟨x.2, by rw [← h1]⟩
  obtain ⟨M, hM⟩ := hall
  have hrec : ∃ r, recs[i]? = some r := ⟨recs[i]'(by rw [hc.length]; exact (List.getElem?_eq_some_iff.1 hM).1), List.getElem?_eq_getElem _⟩
  obtain ⟨r, hr⟩ := hrec
  have hrm : r ∈ recs := List.mem_of_getElem? hr
  obtain ⟨h1, h2, hok⟩ := hc.at i r hr
  rw [Nat.zero_add] at h2
  rw [hM] at h1
  have ho1 : o = r.o := by simpa using congrArg (Prod.fst) (Option.some.inj h1)
  have hM1 : M = r.mask := by simpa using congrArg (Prod.snd) (Option.some.inj h1)
  subst ho1
  subst hM1
  have hili : i < listed.size := by rw [v.size]; exact hlt
  have hnot : ¬ Done listed i := by
    unfold Done
    have : listed.getD i true = listed.getD i false := by simp [Array.getD, hili]
    rw [← this, hun]; simp
  -- what must stand before it stands before it
  have hsub : ∀ x, r.mask.testBit x = true → Done listed x := by
    intro x hx
    obtain ⟨e, he, hb, hlt', h3 | ⟨o', M', h3, h4⟩⟩ := hd.mask i _ _ hM x hx
    · rw [h3]; exact hafter e (by simpa using he) hb
    · exact v.closed _ _ _ h3 (hafter e (by simpa using he) hb) x h4
  have hat : ∀ s ∈ recs, all[s.i]? = some (s.o, s.mask) := fun s hs' => by
    obtain ⟨j, hj⟩ := List.mem_iff_getElem?.1 hs'
    obtain ⟨g1, g2, _⟩ := hc.at j s hj
    rw [Nat.zero_add] at g2
    rw [g2]; exact g1
  have hatr : ∀ s ∈ recs, recs[s.i]? = some s := fun s hs' => by
    obtain ⟨j, hj⟩ := List.mem_iff_getElem?.1 hs'
    obtain ⟨g1, g2, _⟩ := hc.at j s hj
    rw [Nat.zero_add] at g2
    rw [g2]; exact hj
  have hlater : ∀ s ∈ recs, Done listed s.i → s.mask.testBit i = true → False := fun s hs' hS hb => hnot (v.closed _ _ _ (hat s hs') hS i hb)
  have hrs := (hc.slots hs).1 r hrm
  have same : Same r.o.op tmS r.tm := by
    intro x hx t hxt
    subst hxt
    have ht : t ∈ tmpsOf r.o.op := List.mem_filterMap.2 ⟨.tmp t, by simpa using hx, rfl⟩
    refine slots_same v.slots hrs fun s hs' hds => ?_
    by_cases e : s.i = i
    · rw [e, h2]; exact ⟨fun h => absurd h hnot, fun h => absurd h (Nat.lt_irrefl _)⟩
    · obtain ⟨_, h3⟩ := hd.apart i _ _ hM s.i _ _ (hat s hs') (Ne.symm e) t hds
      rcases h3 ht with h3 | h3
      · exact ⟨fun _ => by rw [h2]; exact hd.lt i _ _ hM _ h3, fun _ => hsub _ h3⟩
      · refine ⟨fun h => (hlater s hs' h h3).elim, fun h => ?_⟩
        have := hd.lt s.i _ _ (hat s hs') _ h3
        omega
  have hwant : wantedA ops tmS r.o = wantedA ops r.tm r.o := by
    unfold wantedA
    cases hg : r.o.guard with
    | none => rfl
    | some gw =>
      obtain ⟨g, want⟩ := gw
      dsimp only
      have hb := hd.guard i _ _ hM g want hg
      cases hdd : (ops[g]?).bind (·.dst) with
      | none => rfl
      | some d =>
        dsimp only
        have : get tmS d = get r.tm d := by
          refine slots_same v.slots hrs fun s hs' hds => ?_
          have hsg : s.i = g := by
            have hglt := hd.lt i _ _ hM g hb
            have hgl : g < recs.length := by have := (List.getElem?_eq_some_iff.1 hr).1; omega
            have hgr : recs[g]? = some recs[g] := List.getElem?_eq_getElem hgl
            obtain ⟨g1, g2, _⟩ := hc.at g _ hgr
            have hog : ops[g]? = some (recs[g]).o := by
              have : (all.map (·.1))[g]? = some (recs[g]).o := by rw [List.getElem?_map, g1]; rfl
              rw [hd.fst] at this
              simpa using this
            rw [hog] at hdd
            apply Classical.byContradiction
            intro hne
            exact hs s.i g s recs[g] d (hatr s hs') hgr hne hds hdd
          rw [hsg, h2]
          exact ⟨fun _ => hd.lt i _ _ hM g hb, fun _ => hsub g hb⟩
        rw [this]
  have hsize : (listed.setIfInBounds i true).size = ops.size := by rw [Array.size_setIfInBounds]; exact v.size
  have hclosed : ∀ (j : Nat) o M, all[j]? = some (o, M) → Done (listed.setIfInBounds i true) j → ∀ x, M.testBit x = true → Done (listed.setIfInBounds i true) x := by
    intro j o M hj hS x hx
    rw [done_set hili] at hS ⊢
    rcases hS with hS | rfl
    · exact .inl (v.closed j o M hj hS x hx)
    · rw [hM] at hj
      cases hj
      exact .inl (hsub x hx)
  obtain ⟨tmS', hput⟩ := putTo_exists nt tmS r.o.dst r.v
  have hslots : Slots nt recs (Done (listed.setIfInBounds i true)) tm tmS' := by
    intro m
    by_cases hdm : r.o.dst = some m
    · refine ⟨fun hm s hs' hS hds => ?_, fun hno => ?_⟩
      · have hsr : s = r := by
          apply Classical.byContradiction
          intro hne
          have hne' : s.i ≠ i := fun e => by
            have g1 := hatr s hs'
            rw [e, hr] at g1
            exact hne (Option.some.inj g1).symm
          exact hs s.i i s r m (hatr s hs') hr hne' hds hdm
        subst hsr
        rw [hdm] at hput
        exact hput.get_eq hm
      · rcases hno with hno | hno
        · exact absurd hdm (hno r hrm ((done_set hili _).2 (.inr h2)))
        · rw [hput.get_ne (.inr hno)]
          exact (v.slots m).2 (.inr hno)
    · rw [hput.get_ne (.inl hdm)]
      refine ⟨fun hm s hs' hS hds => ?_, fun hno => ?_⟩
      · rcases (done_set hili _).1 hS with hS | hS
        · exact (v.slots m).1 hm s hs' hS hds
        · have g1 := hatr s hs'
          rw [hS, hr] at g1
          cases g1
          exact absurd hds hdm
      · refine (v.slots m).2 (hno.imp_left fun hno s hs' hS => hno s hs' ((done_set hili _).2 (.inl hS)))
  -- a quiet or an unwanted one turns no set of loud ones
  have hdn : r.kd ≠ 2 → dn (fun s => (listed.setIfInBounds i true).getD s.i false) (louds recs) 1 = dn (fun s => listed.getD s.i false) (louds recs) 1 := by
    intro hk
    refine dn_congr (fun s hs' => ?_) 1
    obtain ⟨g1, g2⟩ := louds_mem hs'
    refine getD_set_ne false fun e => ?_
    have g3 := hatr s g1
    rw [← e, hr] at g3
    cases g3
    exact hk g2
  have hplm : plm r.mask (louds recs) 1 &&& dn (fun s => listed.getD s.i false) (louds recs) 1 = plm r.mask (louds recs) 1 := by
    apply Nat.eq_of_testBit_eq
    intro n
    rw [Nat.testBit_and, plm_dn, dn_bit, dn_bit]
    cases hn : (louds recs)[n]? with
    | none => rfl
    | some s =>
      dsimp only
      cases hb : r.mask.testBit s.i with
      | false => rfl
      | true => rw [show listed.getD s.i false = true from hsub _ hb]; rfl
  have hDlt : dn (fun s => listed.getD s.i false) (louds recs) 1 < 2 ^ (louds recs).length := by
    apply Nat.lt_pow_two_of_testBit
    intro n hn
    rw [dn_bit, List.getElem?_eq_none hn]
  have hwa : Region.wanted r.o (yielded ops a.tmps) = wantedA ops r.tm r.o := by rw [wantedA_eq v.tm, hwant]
  rcases hok with ⟨hk, hw, hv, hH⟩ | ⟨hk, hq, hw, hop, hH⟩ | ⟨hk, hq, hw, hop⟩
  · have hstep := stepR_op_skip (P := E.P) (b := b) (a := a) (k := items) (cs := cs) (w := w) (ops := ops) (i := i) (rest := rest) (by rw [ho]; simp only [Option.map_some, Option.getD_some]; rw [hwa, hw])
    rw [ho] at hstep
    refine ⟨σ, a.put r.o.dst undef, w, tmS', HS, Sg.le_refl σ, Below.refl B w, put_defers _ _ _, ⟨hsize, hclosed, hslots, ?_, v.rel, v.hB, hput.trel v.tm (by rw [hv]; exact .undef)⟩, .one hstep⟩
    rw [hdn (by omega)]; exact v.heap
  · have hstep : OpStep E B r.o tmS HS (.val r.v HS r.nx) := by
      have hxq : ∃ (k : Value → R) (x : R), x ≠ .fail ∧ xq E r.o.op r.tm HS k = x ∧ ∀ u, k u = x → u = r.v := by
        cases hrd : readsH r.o.op with
        | true =>
          refine hT.quiet _ _ hDlt v.heap r hrm hk hrd hplm ?_
          apply Nat.eq_of_testBit_eq
          intro n
          rw [Nat.testBit_and, slm_dn, dn_bit, dn_bit, Nat.zero_testBit]
          cases hn : (louds recs)[n]? with
          | none => rfl
          | some s =>
            dsimp only
            cases hb : s.mask.testBit r.i with
            | false => rfl
            | true =>
              cases hS : listed.getD s.i false with
              | false => rfl
              | true => rw [h2] at hb; exact (hlater s (louds_mem (List.mem_of_getElem? hn)).1 hS hb).elim
        | false =>
          unfold opR at hop
          rw [hq] at hop
          dsimp only at hop
          rw [xq_heap (H' := HS) hrd] at hop
          exact ⟨_, _, by simp, hop, fun u hu => (R.val.inj hu).1⟩
      obtain ⟨kk, x, hx1, hx2, hx3⟩ := hxq
      rw [← xq_congr same] at hx2
      obtain ⟨u, hu, hquiet⟩ := xq_ok hE hx2 hx1
      have := hx3 u hu
      subst this
      have hnd : ∀ c, r.o.op ≠ .defer c := fun c e => by rw [e] at hq; simp [isQ] at hq
      refine OpStep.of_lok hnd fun {B σ w nt a} o' ho' rel hB ht => ?_
      obtain ⟨V, h3, h4⟩ := hquiet o' ho' rel ht
      exact ⟨σ, V, w, Sg.le_refl σ, h3, rel, Below.refl B w, .inl h4⟩
    obtain ⟨τ, V, w', g1, g2, g3, g4, g5⟩ := hstep σ w nt b a items cs ops i rest ho (by rw [hwa, hw]) v.rel v.hB v.tm
    refine ⟨τ, a.put r.o.dst V, w', tmS', HS, g1, g4, put_defers _ _ _, ⟨hsize, hclosed, hslots, ?_, g3, Nat.le_trans v.hB g4.size, hput.trel (v.tm.mono g1) g2⟩, g5⟩
    rw [hdn (by omega)]; exact v.heap
  · have hloud : r ∈ louds recs := by unfold louds; rw [List.mem_filter]; exact ⟨hrm, by rw [hk]; rfl⟩
    obtain ⟨k, hkr⟩ := List.mem_iff_getElem?.1 hloud
    have hbit : (dn (fun s => listed.getD s.i false) (louds recs) 1).testBit k = false := by
      rw [dn_bit, hkr]
      dsimp only
      rw [h2]
      cases hS : listed.getD i false with
      | false => rfl
      | true => exact absurd hS hnot
    obtain ⟨H', nx', h3, h4⟩ := hT.edge _ _ hDlt v.heap k r hkr hbit hplm
    rw [← opR_congr same] at h3
    have hstep := opR_ok hE hN h3 (by simp)
    obtain ⟨τ, V, w', g1, g2, g3, g4, g5⟩ := hstep σ w nt b a items cs ops i rest ho (by rw [hwa, hw]) v.rel v.hB v.tm
    refine ⟨τ, a.put r.o.dst V, w', tmS', H', g1, g4, put_defers _ _ _, ⟨hsize, hclosed, hslots, ?_, g3, Nat.le_trans v.hB g4.size, hput.trel (v.tm.mono g1) g2⟩, g5⟩
    rw [dn_add (p := fun s => listed.getD s.i false) (k := k) (fun n s hn => ?_) hkr (by
      skip
      rw [h2]
      cases hS : listed.getD i false with
      | false => rfl
      | true => exact absurd hS hnot) 1, Nat.one_mul]
    · exact h4
    · skip
      by_cases e : n = k
      · subst e
        rw [hkr] at hn
        cases hn
        rw [h2]
        simp [hili]
      · have : i ≠ s.i := fun e2 => by
          have g3 := hatr s (louds_mem (List.mem_of_getElem? hn)).1
          rw [← e2, hr] at g3
          cases g3
          rcases Nat.lt_trichotomy n k with h | h | h
          · have := louds_sorted hc n k r r hn hkr h; omega
          · exact e h
          · have := louds_sorted hc k n r r hkr hn h; omega
        rw [getD_set_ne false this]
        simp [e]
include hE hN in
theorem draw_go (hd : DI ops all) (hs : Sole recs) (hc : Chain E nest ops nt all 0 tm H recs tmE HE) (hT : TabOK E nest recs H HE T) (b : Frame) (items : List Item) (cs : List Frame) : ∀ (fuel t : Nat) {σ : Sg} {listed : Array Bool} {a : Act} {w : World} {tmS : Tr Value} {HS : Heap},
    DInv B ops nt all tm recs T σ listed a w tmS HS → listed.toList.count false ≤ fuel →
    ∃ τ a' w', Sg.le σ τ ∧ Rel B τ HE w' ∧ Below B w w' ∧ TRel τ tmE nt a'.tmps ∧ a'.defers = a.defers ∧
      Steps E.P (lone (b.atR a (.inRegion ops (Region.linearise.go .any ops fuel t listed []) :: items)) cs w) (lone (b.atR a' items) cs w') := by
  have last : ∀ {σ : Sg} {listed : Array Bool} {a : Act} {w : World} {tmS : Tr Value} {HS : Heap}, DInv B ops nt all tm recs T σ listed a w tmS HS → (∀ x, x < ops.size → Done listed x) →
      ∃ τ a' w', Sg.le σ τ ∧ Rel B τ HE w' ∧ Below B w w' ∧ TRel τ tmE nt a'.tmps ∧ a'.defers = a.defers ∧
      Steps E.P (lone (b.atR a (.inRegion ops [] :: items)) cs w) (lone (b.atR a' items) cs w') := by
    intro σ listed a w tmS HS v hall
    have hrec : ∀ r ∈ recs, Done listed r.i := fun r hr => by
      obtain ⟨j, hj⟩ := List.mem_iff_getElem?.1 hr
      obtain ⟨g1, g2, _⟩ := hc.at j r hj
      refine hall _ ?_
      have h1 := (List.getElem?_eq_some_iff.1 g1).1
      have h3 : all.length = ops.size := by rw [← List.length_map (f := (·.1)), hd.fst]; simp
      omega
    have hH : HS = HE := by
      have h1 := v.heap
      have h2 : dn (fun r => listed.getD r.i false) (louds recs) 1 = 2 ^ (louds recs).length - 1 := by
        apply Nat.eq_of_testBit_eq
        intro n
        rw [dn_bit, Nat.testBit_two_pow_sub_one]
        cases hn : (louds recs)[n]? with
        | none => have := List.getElem?_eq_none_iff.1 hn; simp; omega
        | some s =>
          have := (List.getElem?_eq_some_iff.1 hn).1
          dsimp only
          rw [show listed.getD s.i false = true from hrec s (louds_mem (List.mem_of_getElem? hn)).1]
          simp [this]
      rw [h2, hT.last] at h1
      exact (Option.some.inj h1).symm
    subst hH
    refine ⟨σ, a, w, Sg.le_refl σ, v.rel, Below.refl B w, v.tm.get_congr fun m => ?_, rfl, .one stepR_region_end⟩
    exact (slots_same v.slots (hc.slots hs).2 fun r hr _ => ⟨fun _ => trivial, fun _ => hrec r hr⟩).symm
  intro fuel
  induction fuel with
  | zero =>
    intro t σ listed a w tmS HS v hcnt
    refine last v fun x hx => ?_
    have h0 : listed.toList.count false = 0 := by omega
    rw [List.count_eq_zero] at h0
    unfold Done
    have hx' : x < listed.size := by rw [v.size]; exact hx
    cases hb : listed.getD x false with
    | true => rfl
    | false =>
      exfalso
      apply h0
      rw [Array.getD_eq_getD_getElem?, Array.getElem?_eq_getElem hx'] at hb
      simp at hb
      rw [← hb]
      simp
  | succ fuel ih =>
    intro t σ listed a w tmS HS v hcnt
    simp only [Region.linearise.go]
    change ∃ τ a' w', Sg.le σ τ ∧ Rel B τ HE w' ∧ Below B w w' ∧ TRel τ tmE nt a'.tmps ∧ a'.defers = a.defers ∧
      Steps E.P (lone (b.atR a (.inRegion ops (match (Region.ready .any ops listed)[t % (Region.ready .any ops listed).length]? with
      | some i => Region.linearise.go .any ops fuel (t / (Region.ready .any ops listed).length) (listed.setIfInBounds i true) [i]
      | none => [].reverse) :: items)) cs w) (lone (b.atR a' items) cs w')
    cases hi : (Region.ready .any ops listed)[t % (Region.ready .any ops listed).length]? with
    | none =>
      have hnil : Region.ready .any ops listed = [] := by
        cases hr : Region.ready .any ops listed with
        | nil => rfl
        | cons x xs =>
          rw [hr] at hi
          have hlt : t % (x :: xs).length < (x :: xs).length := Nat.mod_lt _ (by simp)
          simp at hi
          simp at hlt
          omega
      refine last v fun x => ?_
      induction x using Nat.strongRecOn with
      | ind x ihx =>
        intro hx
        apply Classical.byContradiction
        intro hno
        have hmem : x ∈ Region.ready .any ops listed := by
          rw [mem_ready]
          have hx' : x < listed.size := by rw [v.size]; exact hx
          refine ⟨?_, ops[x], Array.getElem?_eq_getElem hx, fun e he hb => ?_⟩
          · unfold Done at hno
            have : listed.getD x true = listed.getD x false := by simp [Array.getD, hx']
            rw [this]
            simpa using hno
          · have h1 : (all.map (·.1))[x]? = some ops[x] := by rw [hd.fst]; simp [hx]
            rw [List.getElem?_map] at h1
            cases ha : all[x]? with
            | none => rw [ha] at h1; cases h1
            | some y =>
              rw [ha] at h1
              simp at h1
              have := (hd.edge x y.1 y.2 ha e (by rw [h1]; simpa using he) hb).1
              exact ihx e.on this (by omega)
        rw [hnil] at hmem
        cases hmem
    | some i =>
      dsimp only
      rw [linearise_go_acc, List.reverse_singleton, List.singleton_append]
      have hmem := List.mem_of_getElem? hi
      obtain ⟨τ, a1, w1, tm1, H1, g1, g2, g3, g4, g5⟩ := draw_op hE hN hd hs hc hT v hmem b (Region.linearise.go .any ops fuel (t / (Region.ready .any ops listed).length) (listed.setIfInBounds i true) []) items cs
      obtain ⟨hun, o, ho, _⟩ := mem_ready.1 hmem
      have hlt : i < listed.size := by rw [v.size]; exact (Array.getElem?_eq_some_iff.1 ho).1
      have hcnt' : (listed.setIfInBounds i true).toList.count false ≤ fuel := by
        have h1 : listed.toList[i]? = some false := by
          rw [Array.getD_eq_getD_getElem?, Array.getElem?_eq_getElem hlt] at hun
          simp at hun
          simp [hlt, hun]
        have := count_set h1
        rw [Array.toList_setIfInBounds]
        omega
      obtain ⟨τ', a2, w2, f1, f2, f3, f4, f5, f6⟩ := ih (t / (Region.ready .any ops listed).length) g4 hcnt'
      exact ⟨τ', a2, w2, g1.trans' f1, f2, g2.trans f3, f4, f5.trans g3, Steps.trans g5 f6⟩
include hE hN in
theorem draw_ok : DrawOK E B nest := by
  intro ops nt tm H nx k out h hr
  unfold drawK at h
  split at h
  · rename_i all hall
    have hd := dinfo_spec hall
    obtain ⟨recs, tmE, HE, nxE, hc, h1⟩ := canon_some hE h hr
    simp only [List.reverse_nil, List.nil_append] at h1
    split at h1
    · rename_i hord
      refine ⟨tmE, HE, nxE, h1, fun {id σ b a items cs w} rel hB ht => ?_⟩
      obtain ⟨T, hT⟩ := order_tab hd hc hord
      have hs : Sole recs := by
        intro j k r s d hj hk hne h3 h4
        have g1 := (hc.at j r hj).1
        have g2 := (hc.at k s hk).1
        exact (hd.apart k _ _ g2 j _ _ g1 (Ne.symm hne) d h3).1 h4
      have hstep := stepR_region_draw (P := E.P) (b := b) (a := a) (k := items) (cs := cs) (w := w) (ops := ops) (id := id)
      rw [hE.mixed] at hstep
      have hsch : ∀ t, Region.schedule true ops t = Region.linearise.go .any ops ops.size t (Array.replicate ops.size false) [] := fun t => by
        unfold Region.schedule Region.linearise
        simp
      rw [hsch] at hstep
      have v : DInv B ops nt all tm recs T σ (Array.replicate ops.size false) a { w with drawn := w.drawn + 1 } tm H := by
        have hnone : ∀ x, ¬ Done (Array.replicate ops.size false) x := fun x hx => by
          unfold Done at hx
          rw [Array.getD_eq_getD_getElem?, Array.getElem?_replicate] at hx
          split at hx <;> simp at hx
        refine ⟨by simp, fun j o M _ hS => absurd hS (hnone j), fun m => ⟨fun _ r _ hS => absurd hS (hnone _), fun _ => rfl⟩, ?_, ?_, hB, ht⟩
        · have : dn (fun r => (Array.replicate ops.size false).getD r.i false) (louds recs) 1 = 0 := by
            apply Nat.eq_of_testBit_eq
            intro n
            rw [dn_bit, Nat.zero_testBit]
            cases hn : (louds recs)[n]? with
            | none => rfl
            | some s =>
              dsimp only
              have := hnone s.i
              unfold Done at this
              simpa using this
          rw [this]; exact hT.zero
        · exact ⟨fun i o hio => let ⟨l, h1, h2, h3⟩ := rel.obj i o hio; ⟨l, h1, h2.world fun _ => rfl, h3⟩, rel.dom, rel.uniq⟩
      obtain ⟨τ, a', w', g1, g2, g3, g4, g5, g6⟩ := draw_go hE hN hd hs hc hT b items cs ops.size _ v (by simp)
      exact ⟨τ, a', w', g1, g2, ⟨g3.os, g3.tape, g3.output, g3.size, g3.block⟩, g4, g5, .head hstep g6⟩
    · exact absurd h1.symm hr
  · exact absurd h.symm hr
end draw
/-- The evaluator is right. -/
theorem run_right {E : Env} (hE : EnvOK E) (hH : HookOK E) {B : Nat} (d : Nat) : NestOK E B (run E d) := run_ok hE hH (fun _ hN => draw_ok hE hN) d
end Go.Ex
namespace Go.Ex
open Go Go.RowKit

/-- Data: what a summary takes and gives. Lists are data too. -/
inductive D where
  | sc (v : Value)
  | sl (es n : Nat) (ds : D)
  | pt (ds : D)
  | agg (ds : D)
  | tup (ds : D)
  | ifc (t : TypeId) (d : D)
  | nil
  | cons (d ds : D)

/-- The values hold the data, at blocks from B on. -/
inductive Dp (B : Nat) (w : World) : D → List Value → Prop where
  | sc (v : Value) (h : scal v = true) : Dp B w (.sc v) [v]
  | sl (es n : Nat) (ds : D) (b o c : Nat) (cells : Array Value) (elem : TypeId) (fr : Nat × Nat) (vs : List Value) (hB : B ≤ b) (hh : w.heap[b]? = some (.cells cells elem fr)) (hn : n ≤ c) (hc : o + c * es ≤ cells.size)
      (hl : vs.length = n * es) (hv : ∀ (i : Nat) v, vs[i]? = some v → cells[o + i]? = some v) (hd : Dp B w ds vs) : Dp B w (.sl es n ds) [.slice (some ⟨b, o, none⟩) n c]
  | pt (ds : D) (b o : Nat) (cells : Array Value) (elem : TypeId) (fr : Nat × Nat) (vs : List Value) (hB : B ≤ b) (hh : w.heap[b]? = some (.cells cells elem fr)) (hc : o + vs.length ≤ cells.size)
      (hv : ∀ (i : Nat) v, vs[i]? = some v → cells[o + i]? = some v) (hd : Dp B w ds vs) : Dp B w (.pt ds) [.pointer (some ⟨b, o, none⟩)]
  | agg (ds : D) (vs : List Value) (hd : Dp B w ds vs) : Dp B w (.agg ds) [.agg ⟨vs⟩]
  | tup (ds : D) (vs : List Value) (hd : Dp B w ds vs) : Dp B w (.tup ds) [.tuple ⟨vs⟩]
  | ifc (t : TypeId) (d : D) (v : Value) (hd : Dp B w d [v]) : Dp B w (.ifc t d) [.iface t v]
  | nil : Dp B w .nil []
  | cons (d ds : D) (v : Value) (vs : List Value) (h : Dp B w d [v]) (t : Dp B w ds vs) : Dp B w (.cons d ds) (v :: vs)

noncomputable section
/-- How many cells a list of data takes. -/
def dlen (d : D) : Nat := D.rec (motive := fun _ => Nat) (fun _ => 0) (fun _ _ _ _ => 0) (fun _ _ => 0) (fun _ _ => 0) (fun _ _ => 0) (fun _ _ _ => 0) 0 (fun _ _ _ ih => Nat.succ ih) d
/-- Do the values hold the data? 'low': whatever lies below B is refused. -/
def mt (low : Bool) (H : Heap) (d : D) : List Value → Bool :=
  D.rec (motive := fun _ => List Value → Bool)
    (fun v x => match x with | [u] => scal v && veq 1 u v | _ => false)
    (fun es n _ds ih x => match x with
      | [.slice (some ⟨b, o, none⟩) m c] => (match get H b with
        | some (.blk ro size per runs cells) => (match Nat.beq m n && (low || (!ro || Nat.beq per 0)) && Nat.ble n c && (match Nat.ble UNK c with | true => Nat.beq c (UNK + es) | false => Nat.ble (o + c * es) size) with
          | true => rdF false size per runs cells (n * es) o ih
          | false => false)
        | _ => false)
      | _ => false)
    (fun ds ih x => match x with
      | [.pointer (some ⟨b, o, none⟩)] => (match get H b with
        | some (.blk ro size per runs cells) => (match (low || (!ro || Nat.beq per 0)) && Nat.ble (o + dlen ds) size with
          | true => rdF false size per runs cells (dlen ds) o ih
          | false => false)
        | _ => false)
      | _ => false)
    (fun _ds ih x => match x with | [.agg cs] => ih cs.toList | _ => false)
    (fun _ds ih x => match x with | [.tuple cs] => ih cs.toList | _ => false)
    (fun t _d ih x => match x with | [.iface u v] => Nat.beq t u && ih [v] | _ => false)
    (fun x => match x with | [] => true | _ => false)
    (fun _d _ds ih1 ih2 x => match x with | v :: vs => (match ih1 [v] with | true => ih2 vs | false => false) | [] => false)
    d
/-- The data, laid into the heap as blocks that nobody writes; 'per': 0 if they lie above B. -/
def lay (per : Nat) (d : D) : Heap → Nat → (List Value → Heap → Nat → R) → R :=
  D.rec (motive := fun _ => Heap → Nat → (List Value → Heap → Nat → R) → R)
    (fun v H nx k => match scal v with | true => k [v] H nx | false => .fail)
    (fun es n _ds ih H nx k => ih H nx fun vs H1 n1 => match Nat.beq vs.length (n * es) with
      | true => wrF .fail (n * es) vs .nil 0 fun c => newK .fail H1 n1 (.blk true (n * es) per [] c) fun H2 n2 => k [.slice (some ⟨n1, 0, none⟩) n (UNK + es)] H2 n2
      | false => .fail)
    (fun _ds ih H nx k => ih H nx fun vs H1 n1 => wrF .fail vs.length vs .nil 0 fun c => newK .fail H1 n1 (.blk true vs.length per [] c) fun H2 n2 => k [.pointer (some ⟨n1, 0, none⟩)] H2 n2)
    (fun _ds ih H nx k => ih H nx fun vs H1 n1 => k [.agg vs.toArray] H1 n1)
    (fun _ds ih H nx k => ih H nx fun vs H1 n1 => k [.tuple vs.toArray] H1 n1)
    (fun t _d ih H nx k => ih H nx fun vs H1 n1 => match vs with | [v] => k [.iface t v] H1 n1 | _ => .fail)
    (fun H nx k => k [] H nx)
    (fun _d _ds ih1 ih2 H nx k => ih1 H nx fun vs H1 n1 => match vs with | [v] => ih2 H1 n1 fun us H2 n2 => k (v :: us) H2 n2 | _ => .fail)
    d
def tryL (H : Heap) (nx : Nat) (args : List Value) : List (D × D) → R
  | [] => .fail
  | (a, r) :: l => match mt true H a args with
    | true => lay 0 r H nx fun vs H' nx' => (match vs with | [v] => .val v H' nx' | _ => .fail)
    | false => tryL H nx args l
def hookT (tab : Tr (List (D × D))) (f : FuncId) (args : List Value) (H : Heap) (nx : Nat) : R :=
  match get tab f with
  | some l => tryL H nx args l
  | none => .fail
/-- One summary's check: the function, run at the data, gives the data. -/
def checkE (E : Env) (d : Nat) (f : FuncId) (a r : D) : Bool :=
  match (lay 1 a .nil 0 fun vs H nx => run E d (.fn f) vs none H nx) with
  | .val v H' _ => mt false H' r [v]
  | _ => false
end
/-- A summary: at such arguments the function gives such a result, and turns nothing that was there. -/
def EntryOK (P : Program) (f : FuncId) (a r : D) : Prop :=
  ∀ (w : World) (X : List Value), Dp 0 w a X → Calls P f X.toArray w fun e w' => ∃ V, e = .returned V ∧ Below w.heap.size w w' ∧ Dp w.heap.size w' r [V]
noncomputable section
/-- Many checks. -/
def checkAll (E : Env) (d : Nat) (l : List (FuncId × D × D)) : Bool :=
  List.rec (motive := fun _ => Bool) true (fun x _ ih => match checkE E d x.1 x.2.1 x.2.2 with | true => ih | false => false) l
def addAll (l : List (FuncId × D × D)) : Tr (List (D × D)) → Tr (List (D × D)) :=
  List.rec (motive := fun _ => Tr (List (D × D)) → Tr (List (D × D))) (fun t => t) (fun x _ ih t => ih (setK t x.1 (x.2 :: match get t x.1 with | some l => l | none => []) (fun t' => t') t)) l
end
section view
variable {B : Nat} {σ : Sg} {H : Heap} {w : World}
/-- A block that was there is looked at. -/
theorem Rel.view (r : Rel B σ H w) {nx : Nat} {o : AObj} {H' : Heap} (hn : get H nx = none) (hs : IsSet H nx o H') (l : Loc) (hsz : l.block < w.heap.size) (hm : o.mine = true → B ≤ l.block) (ho : o.own = false)
    (hu : ∀ i oi li, get H i = some oi → oi.own = true → σ i = some li → li.block ≠ l.block) (hO : ∀ τ, Sg.le σ τ → ORel τ w l o) :
    ∃ τ, Sg.le σ τ ∧ τ nx = some l ∧ Rel B τ H' w ∧ ∀ i, i ≠ nx → τ i = σ i := by
  have hσ : σ nx = none := by
    cases h : σ nx with
    | none => rfl
    | some l => obtain ⟨⟨o, ho⟩, _⟩ := r.dom _ _ h; rw [hn] at ho; cases ho
  let τ : Sg := fun i => if i = nx then some l else σ i
  have hle : Sg.le σ τ := fun i li h => by
    show (if i = nx then _ else _) = _
    by_cases e : i = nx
    · subst e; rw [hσ] at h; cases h
    · rw [if_neg e]; exact h
  have hτ : τ nx = some l := if_pos rfl
  have hold : ∀ i, i ≠ nx → τ i = σ i := fun i e => if_neg e
  refine ⟨τ, hle, hτ, ⟨fun i o' hi => ?_, fun i li hi => ?_, fun i j oi oj li lj hi hj h1 h2 hne hli hlj => ?_⟩, hold⟩
  · by_cases e : i = nx
    · subst e; rw [hs.same] at hi; cases hi; exact ⟨_, hτ, hO τ hle, hm⟩
    · rw [hs.other e] at hi
      obtain ⟨l, h1, h2, h3⟩ := r.obj _ _ hi
      exact ⟨l, hle _ _ h1, h2.mono hle, h3⟩
  · by_cases e : i = nx
    · subst e; rw [hτ] at hi; cases hi; exact ⟨⟨_, hs.same⟩, hsz⟩
    · rw [hold i e] at hi
      obtain ⟨⟨o', ho'⟩, h2⟩ := r.dom _ _ hi
      exact ⟨⟨o', by rw [hs.other e]; exact ho'⟩, h2⟩
  · by_cases e : i = nx
    · subst e; rw [hs.same] at hi; cases hi; rw [ho] at h1; cases h1
    · rw [hs.other e] at hi; rw [hold i e] at hli
      by_cases e' : j = nx
      · subst e'; rw [hτ] at hlj; cases hlj
        exact hu i oi li hi h1 hli
      · rw [hs.other e'] at hj; rw [hold j e'] at hlj
        exact r.uniq i j oi oj li lj hi hj h1 h2 hne hli hlj
/-- What was there stays. -/
theorem Rel.below (r : Rel B σ H w) {w' : World} (h : Below w.heap.size w w') : Rel B σ H w' :=
  ⟨fun i o hi => let ⟨l, h1, h2, h3⟩ := r.obj i o hi; ⟨l, h1, h2.world fun _ => h.block _ (r.dom _ _ h1).2, h3⟩, fun i l hi => let ⟨h1, h2⟩ := r.dom i l hi; ⟨h1, Nat.lt_of_lt_of_le h2 h.size⟩, r.uniq⟩
theorem con_list {c : Array Value} : ∀ {vs : List Value} {s : Nat}, (∀ (i : Nat) v, vs[i]? = some v → ∃ V, c[s + i]? = some V ∧ Con σ v V) → ∃ Vs, ConL σ vs Vs ∧ ∀ (i : Nat) V, Vs[i]? = some V → c[s + i]? = some V := by
  intro vs
  induction vs with
  | nil => intro s _; exact ⟨[], .nil, by simp⟩
  | cons v vs ih =>
    intro s h
    obtain ⟨V, h1, h2⟩ := h 0 v rfl
    obtain ⟨Vs, h3, h4⟩ := ih (s := s + 1) fun i u hu => by
      obtain ⟨V, a, b⟩ := h (i + 1) u (by simpa using hu)
      exact ⟨V, by rw [← a]; congr 1; omega, b⟩
    refine ⟨V :: Vs, .cons _ _ _ _ h2 h3, fun i U hU => ?_⟩
    cases i with
    | zero => simp at hU; subst hU; simpa using h1
    | succ i => have := h4 i U (by simpa using hU); rwa [show s + 1 + i = s + (i + 1) by omega] at this
end view
theorem ConL.one {σ : Sg} {v : Value} {X : List Value} (h : ConL σ [v] X) : ∃ V, X = [V] ∧ Con σ v V := by
  cases h with
  | cons _ V _ Xs h t => cases t; exact ⟨V, rfl, h⟩
theorem mt_ok {low : Bool} {H : Heap} (d : D) : ∀ {x : List Value}, mt low H d x = true → ∀ {B : Nat} {σ : Sg} {w : World} {X : List Value}, Rel B σ H w → ConL σ x X → Dp (if low then 0 else B) w d X := by
  have bnd : ∀ {B : Nat} {ro : Bool} {size per : Nat} {runs : List (Nat × Value)} {cells : Tr Value} {l : Loc}, (low || (!ro || Nat.beq per 0)) = true → ((AObj.blk ro size per runs cells).mine = true → B ≤ l.block) → (if low then 0 else B) ≤ l.block := by
    intro B ro size per runs cells l h1 h2
    cases low with
    | true => exact Nat.zero_le _
    | false => exact h2 (by simpa [AObj.mine] using h1)
  induction d with
  | sc v =>
    intro x h B σ w X rel hc
    unfold mt at h
    dsimp only at h
    split at h
    · rename_i u
      simp only [Bool.and_eq_true] at h
      obtain ⟨V, rfl, hV⟩ := hc.one
      have := veq_eq 1 h.2
      subst this
      rw [hV.scal h.1]
      exact .sc _ h.1
    · cases h
  | sl es n ds ih =>
    intro x h B σ w X rel hc
    unfold mt at h
    dsimp only at h
    split at h
    · rename_i b o m c
      split at h
      · rename_i ro size per runs cells hg
        split at h
        · rename_i hcond
          simp only [Bool.and_eq_true] at hcond
          obtain ⟨⟨⟨hm, hlow⟩, hnc⟩, hcap⟩ := hcond
          have hm := beq_eq hm
          subst hm
          obtain ⟨vs, hl, hcell, hi⟩ := rdF_some h (by simp)
          obtain ⟨l, hσ, ⟨hsz, arr, elem, fr, hh, hasz, _, hcon⟩, hmine⟩ := rel.obj _ _ hg
          obtain ⟨V, rfl, hV⟩ := hc.one
          obtain ⟨Vs, h3, h4⟩ := con_list (c := arr) (s := l.shift + o) fun i v hv => by
            obtain ⟨V, a, b⟩ := hcon (o + i) v (hcell i v hv)
            exact ⟨V, by rw [← a]; congr 1; omega, b⟩
          have hd := ih hi rel h3
          have hlen : Vs.length = m * es := by rw [h3.length, hl]
          cases hV with
          | sc _ h => simp [Ex.scal] at h
          | slice _ _ _ _ l' hσ' hn hc' =>
            rw [hσ] at hσ'; cases hσ'
            have hle : Nat.ble UNK c = false := by
              cases hb : Nat.ble UNK c with
              | false => rfl
              | true => have := Nat.le_of_ble_eq_true hb; omega
            rw [hle] at hcap
            have := Nat.le_of_ble_eq_true hcap
            exact .sl es m ds l.block (l.shift + o) c arr elem fr Vs (bnd hlow hmine) hh hn (by omega) hlen h4 hd
          | sliceU _ _ _ _ l' o' c' hσ' hc' hn ho hs =>
            rw [hσ] at hσ'; cases hσ'
            rw [Nat.ble_eq_true_of_le hc'] at hcap
            have := beq_eq hcap
            refine .sl es m ds l.block o' c' arr elem fr Vs (bnd hlow hmine) hh hn ?_ hlen (fun i v hv => ?_) hd
            · rw [hasz]; rw [show c - UNK = es by omega] at hs; exact hs
            · have : m ≠ 0 := fun e => by
                subst e
                rw [Nat.zero_mul] at hlen
                rw [List.eq_nil_of_length_eq_zero hlen] at hv
                simp at hv
              rw [ho this]; exact h4 i v hv
        · cases h
      · cases h
    · cases h
  | pt ds ih =>
    intro x h B σ w X rel hc
    unfold mt at h
    dsimp only at h
    split at h
    · rename_i b o
      split at h
      · rename_i ro size per runs cells hg
        split at h
        · rename_i hcond
          simp only [Bool.and_eq_true] at hcond
          obtain ⟨hlow, hsz'⟩ := hcond
          have hsz' := Nat.le_of_ble_eq_true hsz'
          obtain ⟨vs, hl, hcell, hi⟩ := rdF_some h (by simp)
          obtain ⟨l, hσ, ⟨hsz, arr, elem, fr, hh, hasz, _, hcon⟩, hmine⟩ := rel.obj _ _ hg
          obtain ⟨V, rfl, hV⟩ := hc.one
          obtain ⟨Vs, h3, h4⟩ := con_list (c := arr) (s := l.shift + o) fun i v hv => by
            obtain ⟨V, a, b⟩ := hcon (o + i) v (hcell i v hv)
            exact ⟨V, by rw [← a]; congr 1; omega, b⟩
          have hd := ih hi rel h3
          have hlen : Vs.length = dlen ds := by rw [h3.length, hl]
          obtain ⟨l', hσ', rfl⟩ := ptr_con hV
          rw [hσ] at hσ'; cases hσ'
          exact .pt ds l.block (l.shift + o) arr elem fr Vs (bnd hlow hmine) hh (by rw [hlen]; omega) h4 hd
        · cases h
      · cases h
    · cases h
  | agg ds ih =>
    intro x h B σ w X rel hc
    unfold mt at h
    dsimp only at h
    split at h
    · obtain ⟨V, rfl, hV⟩ := hc.one
      cases hV with
      | sc _ h => simp [Ex.scal] at h
      | agg xs xs' hx => exact .agg _ _ (ih h rel hx)
    · cases h
  | tup ds ih =>
    intro x h B σ w X rel hc
    unfold mt at h
    dsimp only at h
    split at h
    · obtain ⟨V, rfl, hV⟩ := hc.one
      cases hV with
      | sc _ h => simp [Ex.scal] at h
      | tup xs xs' hx => exact .tup _ _ (ih h rel hx)
    · cases h
  | ifc t d ih =>
    intro x h B σ w X rel hc
    unfold mt at h
    dsimp only at h
    split at h
    · simp only [Bool.and_eq_true] at h
      obtain ⟨V, rfl, hV⟩ := hc.one
      have := beq_eq h.1
      subst this
      cases hV with
      | sc _ h => simp [Ex.scal] at h
      | iface _ v v' hv => exact .ifc _ _ _ (ih h.2 rel (.cons _ _ _ _ hv .nil))
    · cases h
  | nil =>
    intro x h B σ w X rel hc
    unfold mt at h
    dsimp only at h
    split at h
    · cases hc; exact .nil
    · cases h
  | cons d ds ih1 ih2 =>
    intro x h B σ w X rel hc
    unfold mt at h
    dsimp only at h
    split at h
    · split at h
      · rename_i h1
        cases hc with
        | cons _ V _ Xs hv ht => exact .cons _ _ _ _ (ih1 h1 rel (.cons _ _ _ _ hv .nil)) (ih2 h rel ht)
      · cases h
    · cases h
/-- What lies in the cells that were written. -/
theorem wrF_cells {z : R} {size : Nat} {vs : List Value} {c : Tr Value} {o : Nat} {k : Tr Value → R} {r : R} (h : wrF z size vs c o k = r) (hr : r ≠ z) :
    ∃ c', k c' = r ∧ ∀ i, get c' i = if o ≤ i ∧ i < o + vs.length then vs[i - o]? else get c i := by
  induction vs generalizing c o with
  | nil => exact ⟨c, h, fun i => by rw [if_neg (by simp)]⟩
  | cons v vs ih =>
    unfold wrF at h
    dsimp only at h
    cases hb : (Nat.ble (Nat.succ o) size && Ex.one v) with
    | false => rw [hb] at h; exact absurd h.symm hr
    | true =>
      rw [hb] at h
      dsimp only at h
      obtain ⟨c1, h1, h2⟩ := setK_spec h hr
      obtain ⟨c', h3, h4⟩ := ih (o := o + 1) h2
      refine ⟨c', h3, fun i => ?_⟩
      rw [h4 i, h1 i]
      by_cases e : i = o
      · subst e; rw [if_neg (by omega), if_pos rfl, if_pos (by simp)]; simp
      · by_cases e1 : o + 1 ≤ i ∧ i < o + 1 + vs.length
        · rw [if_pos e1, if_pos (by simp; omega)]
          obtain ⟨j, rfl⟩ : ∃ j, i = o + 1 + j := ⟨i - (o + 1), by omega⟩
          rw [show o + 1 + j - (o + 1) = j by omega, show o + 1 + j - o = j + 1 by omega]; simp
        · rw [if_neg e1, if_neg e, if_neg (by simp; omega)]
theorem newK_some' {z r : R} {H : Heap} {nx : Nat} {o : AObj} {k : Heap → Nat → R} (h : newK z H nx o k = r) (hr : r ≠ z) : ∃ H', get H nx = none ∧ IsSet H nx o H' ∧ k H' (nx + 1) = r := by
  unfold newK at h
  split at h
  · rename_i hn
    obtain ⟨H', h1, h2⟩ := setK_spec h hr
    exact ⟨H', hn, h1, h2⟩
  · exact absurd h.symm hr
/-- Nothing of the run's own lies at or above B'. -/
def Under (B' : Nat) (σ : Sg) (H : Heap) : Prop := ∀ i oi li, get H i = some oi → oi.own = true → σ i = some li → li.block < B'
/-- A row of data becomes a block. -/
theorem row_view {B B' : Nat} {σ : Sg} {H H' : Heap} {w : World} {nx per size : Nat} {c' : Tr Value} {vs Vs : List Value} (rel : Rel B σ H w) (hu : Under B' σ H) (hper : per = 0 → B ≤ B') (hn : get H nx = none)
    (hs : IsSet H nx (.blk true size per [] c') H') (hc : ∀ i, get c' i = if 0 ≤ i ∧ i < 0 + vs.length then vs[i - 0]? else get Tr.nil i) (hcon : ConL σ vs Vs)
    {b o : Nat} {cells : Array Value} {elem : TypeId} {fr : Nat × Nat} (hB : B' ≤ b) (hh : w.heap[b]? = some (.cells cells elem fr)) (hsz : o + size ≤ cells.size) (hv : ∀ (i : Nat) v, Vs[i]? = some v → cells[o + i]? = some v) :
    ∃ τ, Sg.le σ τ ∧ τ nx = some ⟨b, o, cells.size⟩ ∧ Rel B τ H' w ∧ Under B' τ H' := by
  have hlt : b < w.heap.size := (Array.getElem?_eq_some_iff.1 hh).1
  obtain ⟨τ, h1, h2, h3, h4⟩ := rel.view hn hs ⟨b, o, cells.size⟩ hlt (fun hm => by
    have : per = 0 := beq_eq (by simpa [AObj.mine] using hm)
    have := hper this
    show B ≤ b
    omega) rfl (fun i oi li hi ho hli => by have := hu i oi li hi ho hli; show _ ≠ b; omega) fun τ hle => by
      refine ⟨hsz, cells, elem, fr, hh, rfl, (fun e => by cases e), fun i v hi => ?_⟩
      unfold cellOf at hi
      split at hi
      · rw [hc i] at hi
        by_cases e : 0 ≤ i ∧ i < 0 + vs.length
        · rw [if_pos e, Nat.sub_zero, List.getElem?_eq_getElem (by omega)] at hi
          simp at hi
          obtain ⟨V, a, b⟩ := hcon.get (i := i) (v := v) (by rw [List.getElem?_eq_getElem (by omega), hi])
          exact ⟨V, hv i V a, b.mono hle⟩
        · rw [if_neg e] at hi
          simp at hi
          exact absurd hi (by simp [rget])
      · cases hi
  refine ⟨τ, h1, h2, h3, fun i oi li hi ho hli => ?_⟩
  by_cases e : i = nx
  · subst e; rw [hs.same] at hi; cases hi; cases ho
  · rw [hs.other e] at hi; rw [h4 i e] at hli; exact hu i oi li hi ho hli
theorem lay_ok {per : Nat} (d : D) : ∀ {H : Heap} {nx : Nat} {k : List Value → Heap → Nat → R} {r : R}, lay per d H nx k = r → r ≠ .fail → ∃ vs H' nx', k vs H' nx' = r ∧
    ∀ {B B' : Nat} {σ : Sg} {w : World} {Vs : List Value}, Rel B σ H w → Under B' σ H → (per = 0 → B ≤ B') → Dp B' w d Vs → ∃ τ, Sg.le σ τ ∧ Rel B τ H' w ∧ Under B' τ H' ∧ ConL τ vs Vs := by
  induction d with
  | sc v =>
    intro H nx k r h hr
    unfold lay at h
    dsimp only at h
    split at h
    · rename_i hs
      refine ⟨_, _, _, h, fun {B B' σ w Vs} rel hu hp hd => ?_⟩
      cases hd
      exact ⟨σ, Sg.le_refl σ, rel, hu, .cons _ _ _ _ (.sc v hs) .nil⟩
    · exact absurd h.symm hr
  | sl es n ds ih =>
    intro H nx k r h hr
    unfold lay at h
    dsimp only at h
    obtain ⟨vs, H1, n1, h1, g⟩ := ih h hr
    split at h1
    · rename_i hlen
      have hlen := beq_eq hlen
      obtain ⟨c', h2, hc⟩ := wrF_cells h1 hr
      obtain ⟨H2, hn, hs, h3⟩ := newK_some' h2 hr
      refine ⟨_, _, _, h3, fun {B B' σ w Vs} rel hu hp hd => ?_⟩
      cases hd with
      | sl _ _ _ b o c cells elem fr us hB hh hnc hcc hl hv hd =>
      obtain ⟨τ, e1, e2, e3, e4⟩ := g rel hu hp hd
      have hle : n * es ≤ c * es := Nat.mul_le_mul_right es hnc
      obtain ⟨τ', f1, f2, f3, f4⟩ := row_view (vs := vs) e2 e3 hp hn hs hc e4 hB hh (by omega) hv
      refine ⟨τ', e1.trans' f1, f3, f4, .cons _ _ _ _ ?_ .nil⟩
      have := Con.sliceU (σ := τ') n1 0 n (UNK + es) ⟨b, o, cells.size⟩ o c f2 (by omega) hnc (fun _ => by simp) (by
        show o + c * (UNK + es - UNK) ≤ cells.size
        rw [Nat.add_sub_cancel_left]; exact hcc)
      exact this
    · exact absurd h1.symm hr
  | pt ds ih =>
    intro H nx k r h hr
    unfold lay at h
    dsimp only at h
    obtain ⟨vs, H1, n1, h1, g⟩ := ih h hr
    obtain ⟨c', h2, hc⟩ := wrF_cells h1 hr
    obtain ⟨H2, hn, hs, h3⟩ := newK_some' h2 hr
    refine ⟨_, _, _, h3, fun {B B' σ w Vs} rel hu hp hd => ?_⟩
    cases hd with
    | pt _ b o cells elem fr us hB hh hcc hv hd =>
    obtain ⟨τ, e1, e2, e3, e4⟩ := g rel hu hp hd
    have hlen := e4.length
    obtain ⟨τ', f1, f2, f3, f4⟩ := row_view (vs := vs) e2 e3 hp hn hs hc e4 hB hh (by omega) hv
    refine ⟨τ', e1.trans' f1, f3, f4, .cons _ _ _ _ ?_ .nil⟩
    exact Con.ptr n1 0 ⟨b, o, cells.size⟩ f2
  | agg ds ih =>
    intro H nx k r h hr
    unfold lay at h
    dsimp only at h
    obtain ⟨vs, H1, n1, h1, g⟩ := ih h hr
    refine ⟨_, _, _, h1, fun {B B' σ w Vs} rel hu hp hd => ?_⟩
    cases hd with
    | agg _ us hd =>
    obtain ⟨τ, e1, e2, e3, e4⟩ := g rel hu hp hd
    exact ⟨τ, e1, e2, e3, .cons _ _ _ _ (.agg _ _ e4) .nil⟩
  | tup ds ih =>
    intro H nx k r h hr
    unfold lay at h
    dsimp only at h
    obtain ⟨vs, H1, n1, h1, g⟩ := ih h hr
    refine ⟨_, _, _, h1, fun {B B' σ w Vs} rel hu hp hd => ?_⟩
    cases hd with
    | tup _ us hd =>
    obtain ⟨τ, e1, e2, e3, e4⟩ := g rel hu hp hd
    exact ⟨τ, e1, e2, e3, .cons _ _ _ _ (.tup _ _ e4) .nil⟩
  | ifc t d ih =>
    intro H nx k r h hr
    unfold lay at h
    dsimp only at h
    obtain ⟨vs, H1, n1, h1, g⟩ := ih h hr
    split at h1
    · refine ⟨_, _, _, h1, fun {B B' σ w Vs} rel hu hp hd => ?_⟩
      cases hd with
      | ifc _ _ V hd =>
      obtain ⟨τ, e1, e2, e3, e4⟩ := g rel hu hp hd
      cases e4 with
      | cons _ _ _ _ h _ => exact ⟨τ, e1, e2, e3, .cons _ _ _ _ (.iface t _ _ h) .nil⟩
    · exact absurd h1.symm hr
  | nil =>
    intro H nx k r h hr
    refine ⟨[], H, nx, h, fun {B B' σ w Vs} rel hu hp hd => ?_⟩
    cases hd
    exact ⟨σ, Sg.le_refl σ, rel, hu, .nil⟩
  | cons d ds ih1 ih2 =>
    intro H nx k r h hr
    unfold lay at h
    dsimp only at h
    obtain ⟨vs, H1, n1, h1, g⟩ := ih1 h hr
    split at h1
    · obtain ⟨us, H2, n2, h2, g2⟩ := ih2 h1 hr
      refine ⟨_, _, _, h2, fun {B B' σ w Vs} rel hu hp hd => ?_⟩
      cases hd with
      | cons _ _ V Us hd hds =>
      obtain ⟨τ, e1, e2, e3, e4⟩ := g rel hu hp hd
      obtain ⟨τ', f1, f2, f3, f4⟩ := g2 e2 e3 hp hds
      cases e4 with
      | cons _ _ _ _ h _ => exact ⟨τ', e1.trans' f1, f2, f3, .cons _ _ _ _ (h.mono f1) f4⟩
    · exact absurd h1.symm hr
def TabsOK (P : Program) (tab : Tr (List (D × D))) : Prop := ∀ f l, get tab f = some l → ∀ a r, (a, r) ∈ l → EntryOK P f a r
theorem tryL_ok {H : Heap} {nx : Nat} {args : List Value} {l : List (D × D)} {v : Value} {H' : Heap} {nx' : Nat} (h : tryL H nx args l = .val v H' nx') :
    ∃ a r, (a, r) ∈ l ∧ mt true H a args = true ∧ lay 0 r H nx (fun vs H' nx' => match vs with | [v] => .val v H' nx' | _ => .fail) = .val v H' nx' := by
  induction l with
  | nil => cases h
  | cons x l ih =>
    obtain ⟨a, r⟩ := x
    unfold tryL at h
    split at h
    · rename_i hm; exact ⟨a, r, by simp, hm, h⟩
    · obtain ⟨a', r', h1, h2⟩ := ih h; exact ⟨a', r', by simp [h1], h2⟩
theorem hook_ok {E : Env} {tab : Tr (List (D × D))} (ht : TabsOK E.P tab) (hh : E.hook = hookT tab) : HookOK E := by
  intro f args H nx v H' nx' h B σ w args' rel hB hc
  rw [hh] at h
  unfold hookT at h
  split at h
  · rename_i l hl
    obtain ⟨a, r, h1, h2, h3⟩ := tryL_ok h
    have hd : Dp 0 w a args' := mt_ok a h2 rel hc
    obtain ⟨vs, H1, n1, h4, g⟩ := lay_ok r h3 (by simp)
    split at h4
    · cases h4
      refine Calls.mono (ht f l hl a r h1 w args' hd) fun e w' ⟨V, e1, e2, e3⟩ => ?_
      obtain ⟨τ, f1, f2, _, f4⟩ := g (rel.below e2) (B' := w.heap.size) (fun i oi li hi ho hli => (rel.dom _ _ hli).2) (fun _ => hB) e3
      cases f4 with
      | cons _ _ _ _ h _ => exact ⟨τ, V, f1, f2, e2.mono hB, e1, h⟩
    · cases h4
  · cases h
theorem entry_ok {E : Env} (hE : EnvOK E) (hH : HookOK E) {d : Nat} {f : FuncId} {a r : D} (h : checkE E d f a r = true) : EntryOK E.P f a r := by
  intro w X hX
  unfold checkE at h
  split at h
  · rename_i v H' nx' hl
    obtain ⟨vs, H0, n0, h1, g⟩ := lay_ok a hl (by simp)
    have rel0 : Rel w.heap.size (fun _ => none) .nil w := ⟨fun i o hi => (by simp at hi), fun i l hi => (by cases hi), fun i j o o' l l' hi => (by simp at hi)⟩
    obtain ⟨τ, f1, f2, _, f4⟩ := g rel0 (B' := 0) (fun i oi li hi => by simp at hi) (fun e => by cases e) hX
    have hcame := (run_right hE hH (B := w.heap.size) d).call h1 (by simp) f2 (Nat.le_refl _) f4
    refine Calls.mono hcame fun e w' ⟨τ', V, g1, g2, g3, g4, g5⟩ => ⟨V, g4, g3, ?_⟩
    exact mt_ok r h g2 (.cons _ _ _ _ g5 .nil)
  · cases h
noncomputable def mkE (P : Program) (fn : Tr Func) (ty : Tr TypeInfo) (tab : Tr (List (D × D))) : Env := { P, fn, ty, hook := hookT tab }
theorem addAll_ok {P : Program} : ∀ {l : List (FuncId × D × D)} {tab : Tr (List (D × D))}, TabsOK P tab → (∀ x ∈ l, EntryOK P x.1 x.2.1 x.2.2) → TabsOK P (addAll l tab) := by
  intro l
  induction l with
  | nil => intro tab h _; exact h
  | cons x l ih =>
    intro tab h hl
    show TabsOK P (addAll l (setK tab x.1 (x.2 :: match get tab x.1 with | some l => l | none => []) (fun t' => t') tab))
    refine ih ?_ fun y hy => hl y (by simp [hy])
    rcases setF_spec 64 tab x.1 (x.2 :: match get tab x.1 with | some l => l | none => []) (fun t' => t') tab with h1 | ⟨t', h1, h2⟩
    · rw [show setK tab x.1 (x.2 :: match get tab x.1 with | some l => l | none => []) (fun t' => t') tab = tab from h1]; exact h
    · rw [show setK tab x.1 (x.2 :: match get tab x.1 with | some l => l | none => []) (fun t' => t') tab = t' from h2]
      intro f lf hf a r har
      rw [h1 f] at hf
      split at hf
      · rename_i e
        subst e
        cases hf
        rcases List.mem_cons.1 har with e | har
        · have := hl x (by simp)
          rw [← e] at this
          exact this
        · split at har
          · rename_i l' hl'; exact h _ _ hl' a r har
          · cases har
      · exact h f lf hf a r har
theorem checkAll_ok {E : Env} (hE : EnvOK E) (hH : HookOK E) {d : Nat} : ∀ {l : List (FuncId × D × D)}, checkAll E d l = true → ∀ x ∈ l, EntryOK E.P x.1 x.2.1 x.2.2 := by
  intro l
  induction l with
  | nil => intro _ x hx; cases hx
  | cons y l ih =>
    intro h x hx
    have h : (match checkE E d y.1 y.2.1 y.2.2 with | true => checkAll E d l | false => false) = true := h
    split at h
    · rename_i hy
      rcases List.mem_cons.1 hx with rfl | hx
      · exact entry_ok hE hH hy
      · exact ih h x hx
    · cases h
/-- One more batch of summaries. -/
theorem batch_ok {P : Program} {fn : Tr Func} {ty : Tr TypeInfo} {tab : Tr (List (D × D))} (hE : EnvOK (mkE P fn ty .nil)) (ht : TabsOK P tab) {d : Nat} {l : List (FuncId × D × D)} (h : checkAll (mkE P fn ty tab) d l = true) : TabsOK P (addAll l tab) :=
  addAll_ok ht (checkAll_ok (E := mkE P fn ty tab) ⟨hE.fn, hE.ty, hE.mixed⟩ (hook_ok ht rfl) h)
theorem tabs_nil (P : Program) : TabsOK P .nil := fun f l h => by cases h
end Go.Ex
namespace Go.Ex
open Go Go.RowKit
theorem ofList_get {α : Type} : ∀ {l : List α} {i : Nat} {t : Tr α} {m : Nat} {g : α}, get (ofList l i t) m = some g → (∃ j, m = i + j ∧ l[j]? = some g) ∨ get t m = some g := by
  intro l
  induction l with
  | nil => intro i t m g h; exact .inr h
  | cons a l ih =>
    intro i t m g h
    unfold ofList at h
    rcases setF_spec 64 t i a (fun t' => ofList l (i + 1) t') t with h1 | ⟨t', h1, h2⟩
    · rw [show setK t i a (fun t' => ofList l (i + 1) t') t = t from h1] at h
      exact .inr h
    · rw [show setK t i a (fun t' => ofList l (i + 1) t') t = ofList l (i + 1) t' from h2] at h
      rcases ih h with ⟨j, rfl, hj⟩ | h3
      · exact .inl ⟨j + 1, by omega, by simpa using hj⟩
      · clear h
        rw [h1 m] at h3
        split at h3
        · rename_i e; exact .inl ⟨0, by omega, by simpa using h3⟩
        · exact .inr h3
theorem types_info {P : Program} {t : TypeId} {i : TypeInfo} (h : P.types[t]? = some i) : P.info? t = some i := by
  have hlt := (Array.getElem?_eq_some_iff.1 h).1
  unfold Tables.info?
  rw [if_pos hlt]
  exact h
theorem env_ok {P : Program} (hn : P.funcs.toList.all (fun g => g.name != "runtime.NumGoroutine") = true) (hm : P.follows .mixedOrders = true) :
    EnvOK (mkE P (ofList P.funcs.toList 0 .nil) (ofList P.types.toList 0 .nil) .nil) := by
  refine ⟨fun f g h => ?_, fun t i h => ?_, hm⟩
  · rcases ofList_get h with ⟨j, rfl, hj⟩ | h
    · have hmem := List.mem_of_getElem? hj
      have := List.all_eq_true.1 hn g hmem
      refine ⟨by simpa [mkE] using hj, by simpa using this⟩
    · cases h
  · rcases ofList_get h with ⟨j, rfl, hj⟩ | h
    · exact types_info (P := P) (by simpa [mkE] using hj)
    · cases h
noncomputable section
/-- Summaries, each with those before it. -/
def checkSeq (P : Program) (fn : Tr Func) (ty : Tr TypeInfo) (d : Nat) (l : List (FuncId × D × D)) : Tr (List (D × D)) → Bool :=
  List.rec (motive := fun _ => Tr (List (D × D)) → Bool) (fun _ => true)
    (fun x _ ih tab => match checkE (mkE P fn ty tab) d x.1 x.2.1 x.2.2 with
      | true => ih (setK tab x.1 (x.2 :: match get tab x.1 with | some l => l | none => []) (fun t' => t') tab)
      | false => false) l
def si (n : Nat) : D := .sc (.int .i64 (Int.ofNat n))
def sn (n : Nat) : D := .sc (.int .i64 (Int.negSucc n))
def ll (l : List D) : D := List.rec (motive := fun _ => D) .nil (fun d _ ih => .cons d ih) l
end
theorem seq_ok {P : Program} {fn : Tr Func} {ty : Tr TypeInfo} (hE : EnvOK (mkE P fn ty .nil)) {d : Nat} : ∀ {l : List (FuncId × D × D)} {tab : Tr (List (D × D))}, TabsOK P tab → checkSeq P fn ty d l tab = true → TabsOK P (addAll l tab) := by
  intro l
  induction l with
  | nil => intro tab ht _; exact ht
  | cons x l ih =>
    intro tab ht h
    have h : (match checkE (mkE P fn ty tab) d x.1 x.2.1 x.2.2 with
      | true => checkSeq P fn ty d l (setK tab x.1 (x.2 :: match get tab x.1 with | some l => l | none => []) (fun t' => t') tab)
      | false => false) = true := h
    split at h
    · rename_i hc
      have h1 : checkAll (mkE P fn ty tab) d [x] = true := by
        show (match checkE (mkE P fn ty tab) d x.1 x.2.1 x.2.2 with | true => true | false => false) = true
        rw [hc]
      exact ih (batch_ok hE ht h1) h
    · cases h
end Go.Ex
