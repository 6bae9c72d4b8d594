import Derived.Test.YtobldeamemmokaaDoorKZa
import Derived.Test.YtobldeamemmokaaDoorPA
import Derived.Test.YtobldeamemmokaaDoorPx4
/-! code.rightBlock; what code.fits wants. -/
namespace Go.Proofs.YtobldeamemmokaaDoor.P
open Go.RowKit Go.Proofs.YtobldeamemmokaaDoorW.PrintWords Go.Proofs.YtobldeamemmokaaDoorW.PrintLast Go.Proofs.YtobldeamemmokaaDoorW.PrintMore
set_option linter.unusedVariables false
set_option linter.unusedSimpArgs false
def isT (t : Int) : Bool := (types_Is.f t).getD false
theorem isT_eq (t : Int) : types_Is.f t = some (isT t) := by
  unfold isT
  unfold types_Is.f
  repeat (split; · rfl)
  rfl
def rightB (bk bv bt : Int) : Bool := if bk = 0 then (0 == (0 : Int) && (bv == 0 && bt == 0)) else if bk = 1 then isT bv && bt == 0 else bk == 2 && bv == 0
set_option maxHeartbeats 4000000 in
theorem rightBlock_calls (bk bv bt : Int) (w : World) : Calls Tryd.prog 53 #[.agg #[.int .u8 bk, .int .u8 bv, .int .u32 bt]] w fun e w' => e = .returned (.bool (rightB bk bv bt)) ∧ Below w.heap.size w w' := by
  unfold rightB
  by_cases h0 : bk = 0
  · subst h0
    rw [if_pos rfl]
    go_enter Tryd.func53, Tryd.ntmps53
    go_wp2_with (first
      | ((with_reducible refine gate_dst (N := 9) rfl ?_); refine ev_eq41 rfl (.tmp 7) (.tmp 8) 41 rfl 0 bv bt 0 0 0 rfl rfl ?_))
    go_ret
    exact ⟨rfl, by repeat (first | exact Below.refl _ _ | apply pw_below_drewN | apply below_drew1 | apply below_alloc)⟩
  · rw [if_neg h0]
    have e0 : (bk == 0) = false := by simpa using h0
    by_cases h1 : bk = 1
    · subst h1
      rw [if_pos rfl]
      have ht := isT_eq bv
      cases hb : isT bv
      · rw [hb] at ht
        have HT := Aside0.mk ht
        clear ht hb h0
        go_enter Tryd.func53, Tryd.ntmps53
        go_wp2_with (first
          | (go_at_call 57; refine (types_Is.calls bv false _ HT.out).mono ?_; rintro e w' ⟨rfl, hw⟩; obtain ⟨nd, rfl⟩ := hw))
        go_ret
        exact ⟨rfl, by repeat (first | exact Below.refl _ _ | apply pw_below_drewN | apply below_drew1 | apply below_alloc)⟩
      · rw [hb] at ht
        have HT := Aside0.mk ht
        clear ht hb h0
        go_enter Tryd.func53, Tryd.ntmps53
        go_wp2_with (first
          | (go_at_call 57; refine (types_Is.calls bv true _ HT.out).mono ?_; rintro e w' ⟨rfl, hw⟩; obtain ⟨nd, rfl⟩ := hw))
        go_ret
        exact ⟨rfl, by repeat (first | exact Below.refl _ _ | apply pw_below_drewN | apply below_drew1 | apply below_alloc)⟩
    · rw [if_neg h1]
      have e1 : (bk == 1) = false := by simpa using h1
      cases e2 : (bk == 2)
      · go_enter Tryd.func53, Tryd.ntmps53
        go_wp2
        go_ret
        exact ⟨rfl, by repeat (first | exact Below.refl _ _ | apply pw_below_drewN | apply below_drew1 | apply below_alloc)⟩
      · go_enter Tryd.func53, Tryd.ntmps53
        go_wp2
        go_ret
        exact ⟨rfl, by repeat (first | exact Below.refl _ _ | apply pw_below_drewN | apply below_drew1 | apply below_alloc)⟩
theorem built43 (o : Int) : Tryd.prog.built 43 [(0, .int .u16 o)] = some (cellsI { zI with op := o } (.slice none 0 0) (.slice none 0 0) (.slice none 0 0) (.slice none 0 0)).toArray := by kernel_rfl
end Go.Proofs.YtobldeamemmokaaDoor.P

/-! Several cells of a block are written, as an event. -/
namespace Go.Proofs.YtobldeamemmokaaDoor.P
open Go.RowKit Go.Proofs.YtobldeamemmokaaDoorW.PrintWords Go.Proofs.YtobldeamemmokaaDoorW.PrintLast Go.Proofs.YtobldeamemmokaaDoorW.PrintMore
set_option linter.unusedVariables false
set_option linter.unusedSimpArgs false
def setR (cs : Array Value) : Nat → List Value → Array Value
  | _, [] => cs
  | o, v :: vs => setR (cs.setIfInBounds o v) (o + 1) vs
theorem blk_setCells {g : Nat} {t : TypeId} : ∀ (vs : List Value) (o : Nat) (w : World) (cs : Array Value), w.heap[g]? = some (.cells cs t (0, 0)) → (w.setCells g o vs).heap[g]? = some (.cells (setR cs o vs) t (0, 0)) ∧ (∀ k, k ≠ g → (w.setCells g o vs).heap[k]? = w.heap[k]?) ∧ (w.setCells g o vs).heap.size = w.heap.size ∧ ∀ B (w0 : World), B ≤ g → Below B w0 w → Below B w0 (w.setCells g o vs)
  | [], o, w, cs, h => ⟨h, fun _ _ => rfl, rfl, fun _ _ _ hb => hb⟩
  | v :: vs, o, w, cs, h => by
    obtain ⟨h1, h2, h3, h4⟩ := blk_setCells vs (o + 1) (w.setCell ⟨g, o, none⟩ v) _ (blk_set h o v)
    refine ⟨h1, fun k hk => (h2 k hk).trans (Below.heap_setCell w _ v k hk), h3.trans (by simp [World.setCell]), fun B w0 hB hb => h4 B w0 hB (hb.setCell hB v)⟩
theorem there_blk {w : World} {g o n : Nat} {cs : Array Value} {t : TypeId} (hb : w.heap[g]? = some (.cells cs t (0, 0))) (hn : o + n ≤ cs.size) : w.there g o n := fun i hi =>
  ⟨by rw [blk_cell hb (o + i), Array.getElem?_eq_getElem (by omega)]; rfl, blk_frozen hb (o + i)⟩
section
variable {ops : Array Oper} {rest : List Oper} {o : Oper} {a : Act} {w : World} {Q : Exit → Act → World → Prop} {Kc : Act → World → Prop}
theorem ev_storeM (hg : o.guard = none) (ty : TypeId) (x y : Operand) (ho : o.op = .store ty x y) (g j : Nat) (vs : List Value) (hx : a.eval x = .pointer (some ⟨g, j, none⟩)) (hy : a.eval y = .agg vs.toArray)
    (t : TypeId) (cs cs' : Array Value) (hb : w.heap[g]? = some (.cells cs t (0, 0))) (hj : j + vs.length ≤ cs.size) (hi : (Tryd.prog.info? ty).map (·.size) = some vs.length) (h1 : ∀ v ∈ vs, v.oneCell' = true) (hcs : setR cs j vs = cs')
    (h : ∀ w1, w1.heap[g]? = some (.cells cs' t (0, 0)) → (∀ k, k ≠ g → w1.heap[k]? = w.heap[k]?) → w1.heap.size = w.heap.size → (∀ B (w0 : World), B ≤ g → Below B w0 w → Below B w0 w1) → wpList Tryd.prog ops Q rest (a.put o.dst undef) w1) : wpList Tryd.prog ops Q (o :: rest) a w := by
  obtain ⟨q1, q2, q3, q4⟩ := blk_setCells vs j w cs hb
  exact wpList_store_mid hg ty x y ho g j vs.toArray hx hy (there_blk hb (by simpa using hj)) (by simpa using hi) (all_oneCell_toArray h1) (h _ (hcs ▸ q1) q2 q3 q4)
theorem storeM_step (hw : Region.wanted o (yielded ops a.tmps) = true) (ty : TypeId) (x y : Operand) (ho : o.op = .store ty x y) (g j : Nat) (vs : List Value) (hx : a.eval x = .pointer (some ⟨g, j, none⟩)) (hy : a.eval y = .agg vs.toArray)
    (t : TypeId) (cs cs' : Array Value) (hb : w.heap[g]? = some (.cells cs t (0, 0))) (hj : j + vs.length ≤ cs.size) (hi : (Tryd.prog.info? ty).map (·.size) = some vs.length) (h1 : ∀ v ∈ vs, v.oneCell' = true) (hcs : setR cs j vs = cs')
    (h : ∀ w1, w1.heap[g]? = some (.cells cs' t (0, 0)) → (∀ k, k ≠ g → w1.heap[k]? = w.heap[k]?) → w1.heap.size = w.heap.size → (∀ B (w0 : World), B ≤ g → Below B w0 w → Below B w0 w1) → Kc (a.put o.dst undef) w1) : if Region.wanted o (yielded ops a.tmps) = true then Oper.wp Tryd.prog o a w Kc Q else Kc (a.put o.dst undef) w := by
  obtain ⟨q1, q2, q3, q4⟩ := blk_setCells vs j w cs hb
  rw [if_pos hw]
  exact wp_store_mid ty x y ho g j vs.toArray hx hy (there_blk hb (by simpa using hj)) (by simpa using hi) (all_oneCell_toArray h1) (h _ (hcs ▸ q1) q2 q3 q4)
end
theorem cellsI_setk (x : I) (h : x.v.length = 16) (vl vt vb ve : Value) (bk bv bt : Int) : setR (cellsI x vl vt vb ve).toArray 22 [.int .u8 bk, .int .u8 bv, .int .u32 bt] = (cellsI { x with bk := bk, bv := bv, bt := bt } vl vt vb ve).toArray := by
  have hl : (encs (Value.int .u8) x.v).length = 16 := by rw [encs_length]; exact h
  have key : ∀ (j : Nat) (tl : List Value) (u : Value), (Value.int .u16 x.op :: .int .u32 x.a :: .int .u32 x.b :: .int .u64 x.n :: (encs (Value.int .u8) x.v ++ tl)).set (20 + j) u = (Value.int .u16 x.op :: .int .u32 x.a :: .int .u32 x.b :: .int .u64 x.n :: (encs (Value.int .u8) x.v ++ tl.set j u)) := by
    intro j tl u
    rw [show 20 + j = (16 + j) + 1 + 1 + 1 + 1 by omega]
    simp only [List.set_cons_succ]
    rw [List.set_append_right _ _ (by omega), hl, Nat.add_sub_cancel_left]
  unfold cellsI
  simp only [setR, List.setIfInBounds_toArray]
  rw [show (22 : Nat) = 20 + 2 from rfl, key 2, show (20 + 2 + 1 : Nat) = 20 + 3 from rfl, key 3, show (20 + 3 + 1 : Nat) = 20 + 4 from rfl, key 4]
  rfl
end Go.Proofs.YtobldeamemmokaaDoor.P

/-! code.fits. -/
namespace Go.Proofs.YtobldeamemmokaaDoor.P
open Go.RowKit Go.Proofs.YtobldeamemmokaaDoorW.PrintWords Go.Proofs.YtobldeamemmokaaDoorW.PrintLast Go.Proofs.YtobldeamemmokaaDoorW.PrintMore
set_option linter.unusedVariables false
set_option linter.unusedSimpArgs false
theorem zero79 : (Tryd.prog.info? 79).map (fun i => i.zero) = some (some (.agg #[.int .u16 0, .string (⟨#[]⟩ : ByteArray), .int .u8 0, .slice none 0 0, .slice none 0 0, .int .i64 0, .bool false])) := by kernel_rfl
theorem size79 : (Tryd.prog.info? 79).map (·.size) = some 7 := by kernel_rfl
theorem size41 : (Tryd.prog.info? 41).map (·.size) = some 3 := by kernel_rfl
theorem one7 (r1 : Int) (r2 : ByteArray) (r3 : Int) (A B : Option Addr) (a b c d : Nat) (r6 : Int) (r7 : Bool) : (#[.int .u16 r1, .string r2, .int .u8 r3, .slice A a b, .slice B c d, .int .i64 r6, .bool r7] : Array Value).all (·.oneCell') = true := all_oneCell_toArray (cs := [.int .u16 r1, .string r2, .int .u8 r3, .slice A a b, .slice B c d, .int .i64 r6, .bool r7]) (by intro v hv; simp only [List.mem_cons, List.not_mem_nil, or_false] at hv; rcases hv with rfl | rfl | rfl | rfl | rfl | rfl | rfl <;> rfl)
theorem ev_build43 {ops : Array Oper} {rest : List Oper} {o : Oper} {a : Act} {w : World} {Q : Exit → Act → World → Prop} (hg : o.guard = none) (x : Operand) (ho : o.op = .build 43 #[(0, x)]) (n : Int) (hx : a.eval x = .int .u16 n)
    (h : wpList Tryd.prog ops Q rest (a.put o.dst (.agg (cellsI { zI with op := n } (.slice none 0 0) (.slice none 0 0) (.slice none 0 0) (.slice none 0 0)).toArray)) w) : wpList Tryd.prog ops Q (o :: rest) a w := by
  refine Kd.event_run hg ?_ h
  unfold execOp
  simp only [ho, List.map_toArray, List.map_cons, List.map_nil, hx, Sem.run_bind, run_build w 43 _ _ (built43 n), Result.andThen_ok]
  rfl
theorem rng_blk {W : World} {g off n : Nat} {t : TypeId} {cs vs : List Value} (hb : W.heap[g]? = some (.cells cs.toArray t (0, 0))) (hvs : (cs.drop off).take n = vs) (hn : vs.length = n) : W.rangeAt g off vs := by
  intro j v hj
  rw [blk_cell hb, List.getElem?_toArray]
  have hj2 : j < n := by rw [← hn]; exact (List.getElem?_eq_some_iff.1 hj).1
  rw [← hvs, List.getElem?_take_of_lt hj2, List.getElem?_drop] at hj
  exact hj
/-- What the call holds: the instruction's own copy, what is known of it, what is wanted. -/
def FS (w W : World) (g1 g3 g5 : Nat) (cx : List Value) (ci : Array Value) (cw : List Value) : Prop :=
  W.heap[g1]? = some (.cells cx.toArray 43 (0, 0)) ∧ W.heap[g3]? = some (.cells ci 79 (0, 0)) ∧ W.heap[g5]? = some (.cells cw.toArray 43 (0, 0)) ∧ Below w.heap.size w W ∧ w.heap.size ≤ g5 ∧ g1 ≠ g5 ∧ g3 ≠ g5
theorem FS.bel {w W : World} {g1 g3 g5 : Nat} {cx : List Value} {ci : Array Value} {cw : List Value} (h : FS w W g1 g3 g5 cx ci cw) : Below w.heap.size w W := h.2.2.2.1
theorem FS.below {w W W1 : World} {g1 g3 g5 : Nat} {cx : List Value} {ci : Array Value} {cw : List Value} (h : FS w W g1 g3 g5 cx ci cw) (hb : Below W.heap.size W W1) : FS w W1 g1 g3 g5 cx ci cw :=
  ⟨blk_below h.1 hb, blk_below h.2.1 hb, blk_below h.2.2.1 hb, below_step h.bel hb, h.2.2.2.2⟩
theorem FS.drew {w W : World} {g1 g3 g5 : Nat} {cx : List Value} {ci : Array Value} {cw : List Value} (h : FS w W g1 g3 g5 cx ci cw) : FS w W.drew g1 g3 g5 cx ci cw := h.below (below_drew1 (Below.refl _ _))
theorem FS.drewN {w W : World} {g1 g3 g5 : Nat} {cx : List Value} {ci : Array Value} {cw : List Value} (h : FS w W g1 g3 g5 cx ci cw) (m : Nat) : FS w (W.drewN m) g1 g3 g5 cx ci cw := h.below (pw_below_drewN (Below.refl _ _) m)
theorem FS.store {w W W1 : World} {g1 g3 g5 : Nat} {cx : List Value} {ci : Array Value} {cw cw' : List Value} (h : FS w W g1 g3 g5 cx ci cw) (hb : W1.heap[g5]? = some (.cells cw'.toArray 43 (0, 0))) (ho : ∀ k, k ≠ g5 → W1.heap[k]? = W.heap[k]?) (hbel : ∀ B (w0 : World), B ≤ g5 → Below B w0 W → Below B w0 W1) : FS w W1 g1 g3 g5 cx ci cw' :=
  ⟨(ho _ h.2.2.2.2.2.1).trans h.1, (ho _ h.2.2.2.2.2.2).trans h.2.1, hb, hbel _ _ h.2.2.2.2.1 h.bel, h.2.2.2.2⟩
theorem blkI {W : World} {g : Nat} {y : I} {vl vt vb ve : Value} (hb : W.heap[g]? = some (.cells (cellsI y vl vt vb ve).toArray 43 (0, 0))) (h16 : y.v.length = 16) : W.cell? ⟨g, 20, none⟩ = some vl ∧ W.cell? ⟨g, 21, none⟩ = some vt ∧ W.cell? ⟨g, 25, none⟩ = some vb ∧ W.cell? ⟨g, 26, none⟩ = some ve := by
  obtain ⟨_, _, _, _, z20, z21, _, _, _, z25, z26⟩ := cellsI_at y h16 vl vt vb ve
  exact ⟨(blk_cell hb 20).trans (by rw [List.getElem?_toArray]; exact z20), (blk_cell hb 21).trans (by rw [List.getElem?_toArray]; exact z21), (blk_cell hb 25).trans (by rw [List.getElem?_toArray]; exact z25), (blk_cell hb 26).trans (by rw [List.getElem?_toArray]; exact z26)⟩
def wantB (x : I) : I := { zI with op := x.op, bk := x.bk, bv := x.bv, bt := x.bt, body := x.body, els := if x.op = 4 then x.els else [] }
def fitB (x : I) : Bool := if rightB x.bk x.bv x.bt = true then flatB (wantB x) x && (wantB x).els.length == x.els.length else false
def code_fits.T7 : Bool × List (List Nat × List Nat) := (true, [([], []), ([0], [0]), ([], []), ([2], [2]), ([0, 1], []), ([4, 1, 0, 1], [1, 4]), ([0, 1, 2, 3, 4, 5], []), ([6, 3, 5, 0, 1, 2, 3, 4, 5], [3, 6])])
def code_fits.B7 : List Nat := [0, 1, 0, 4, 3, 19, 63, 127]
theorem code_fits.tab7 : rtab .any (opsOf Tryd.f35 7) = code_fits.T7 := by kernel_rfl
theorem code_fits.bits7 : waitsOk code_fits.T7.2 code_fits.B7 = true := by kernel_rfl
set_option maxHeartbeats 8000000 in
set_option maxRecDepth 100000 in
theorem fits_blk (K : Nat) (x : I) (w : World) {Al At Ab Ae : Option Addr} {cl ct cb ce : Nat} {r1 : Int} {r2 : ByteArray} {r4 r5 : List Int} {r6 : Int} {r7 : Bool} (hT : Go.Proofs.YtobldeamemmokaaDoorTabs.Tab w) (ho : ops_Of.f K x.op = some (r1, r2, 1, r4, r5, r6, r7, 0)) (h16 : x.v.length = 16)
    (h1 : x.l.length ≤ cl ∧ (Kd.int .u32).C w Al x.l.length x.l) (h2 : x.t.length ≤ ct ∧ (Kd.int .u8).C w At x.t.length x.t) :
    Calls Tryd.prog 35 #[.agg (cellsI x (.slice Al x.l.length cl) (.slice At x.t.length ct) (.slice Ab x.body.length cb) (.slice Ae x.els.length ce)).toArray] w fun e w' => e = .returned (.bool (fitB x)) ∧ Below w.heap.size w w' := by
  obtain ⟨cx, hcx⟩ : ∃ cx, cx = cellsI x (.slice Al x.l.length cl) (.slice At x.t.length ct) (.slice Ab x.body.length cb) (.slice Ae x.els.length ce) := ⟨_, rfl⟩
  have X := cellsI_at x h16 (.slice Al x.l.length cl) (.slice At x.t.length ct) (.slice Ab x.body.length cb) (.slice Ae x.els.length ce)
  have XK := cellsI_k x h16 (.slice Al x.l.length cl) (.slice At x.t.length ct) (.slice Ab x.body.length cb) (.slice Ae x.els.length ce)
  have XL := cellsI_len x h16 (.slice Al x.l.length cl) (.slice At x.t.length ct) (.slice Ab x.body.length cb) (.slice Ae x.els.length ce)
  have HF := Aside0.mk (fun (W : World) (hW : Below w.heap.size w W) (ex : Nat) (Ax : Option Addr) (cx' : Nat) => flat_calls (wantB x) x W (Al := none) (At := none) (cl := 0) (ct := 0) (.slice Ab x.body.length cb) (.slice Ax ex cx') (.slice Ab x.body.length cb) (.slice Ae x.els.length ce) rfl h16 ⟨Nat.le_refl _, Kd.C_nil _ _⟩ ⟨Nat.le_refl _, Kd.C_nil _ _⟩ ⟨h1.1, Kd.C_below h1.2 hW⟩ ⟨h2.1, Kd.C_below h2.2 hW⟩)
  rw [← hcx] at X XK XL ⊢
  rw [← hcx] at HF
  have HX := Aside0.mk X
  have HXK := Aside0.mk XK
  have HXL := Aside0.mk XL
  have HTB := Aside0.mk hT
  have HO := Aside0.mk ho
  clear X XK XL hT ho h1 h2 hcx
  unfold fitB
  have eb : ((x.body.length : Int) == (x.body.length : Int)) = true := beq_self_eq_true _
  cases hr : rightB x.bk x.bv x.bt <;> cases hfl : flatB (wantB x) x <;> cases hee : ((wantB x).els.length == x.els.length)
  all_goals
    rw [hfl] at HF
    cases e4 : (x.op == 4)
    all_goals
      have hels : (wantB x).els = (if x.op = 4 then x.els else []) := rfl
      first
        | rw [if_neg (by simpa using e4)] at hels
        | rw [if_pos (by simpa using e4)] at hels
      have ee : (((wantB x).els.length : Int) == (x.els.length : Int)) = ((wantB x).els.length == x.els.length) := by
        by_cases h : (wantB x).els.length = x.els.length
        · simp [h]
        · rw [beq_eq_false_iff_ne.2 h, beq_eq_false_iff_ne.2 (by omega)]
      rw [hee, hels] at ee
      have HR := Aside0.mk hr
      clear hr hfl hee hels
      go_enter Tryd.func35, Tryd.ntmps35
      go_wp2_with (first
        | ((with_reducible refine gate_dst (N := 1) rfl ?_); refine ev_boxI rfl _ rfl cx rfl ?_; intro g1 hg1 w1 hb hbl; have B1 := Aside0.mk hb; have L1 := Aside0.mk (below_step (by repeat (first | exact Below.refl _ _ | apply pw_below_drewN | apply below_drew1)) hbl); have G1 := Aside0.mk (blk_lt hb); have z0 : w1.cell? ⟨g1, 0, none⟩ = some (.int .u16 x.op) := (blk_cell hb 0).trans (by rw [List.getElem?_toArray]; exact HX.out.1); clear hg1 hb hbl)
        | (go_at_call 42; refine (ops_Of.calls K x.op r1 r2 1 r4 r5 r6 r7 0 _ (HTB.out.below (by repeat (first | exact L1.out | apply pw_below_drewN | apply below_drew1))) HO.out).mono ?_; rintro e w2 ⟨v3, v4, rfl, h3, h4, hb⟩; obtain ⟨A3, c3, rfl⟩ := Kd.R_slice h3; obtain ⟨A4, c4, rfl⟩ := Kd.R_slice h4; have n0_ := Aside0.mk (blk_below B1.out hb); have n1_ := Aside0.mk (below_step L1.out hb); have n2_ := Aside0.mk (blk_lt n0_.out); clear B1 L1 G1 h3 h4 hb; have B1 := n0_; have L1 := n1_; have G1 := n2_; clear n0_ n1_ n2_)
        | ((with_reducible refine gate_dst (N := 3) rfl ?_); refine ev_alloc rfl 79 rfl _ zero79 ?_; intro g3 hg3 w3 hb hbl; have n0_ := Aside0.mk (blk_below B1.out hbl); have n1_ := Aside0.mk (below_step L1.out hbl); have n2_ := Aside0.mk hb; have n3_ := Aside0.mk (by have := G1.out; have := L1.out.size; rw [hg3]; omega : g1 ≠ g3 ∧ w.heap.size ≤ g3); clear B1 L1 hg3 hb hbl; have B1 := n0_; have L1 := n1_; have B3 := n2_; have N13 := n3_; clear n0_ n1_ n2_ n3_)
        | ((with_reducible refine gate_store (t := 79) (p := 3) (v := .tmp 10) rfl ?_); refine ev_storeB rfl 79 (.tmp 3) (.tmp 10) rfl g3 #[.int .u16 r1, .string r2, .int .u8 1, .slice A3 r4.length c3, .slice A4 r5.length c4, .int .i64 r6, .bool r7] rfl rfl 79 _ B3.out size79 rfl (one7 _ _ _ _ _ _ _ _ _ _ _) ?_; intro w4 hb hoth hsz hbel; have n0_ := Aside0.mk ((hoth _ N13.out.1).trans B1.out); have n1_ := Aside0.mk (hbel _ _ N13.out.2 L1.out); have n2_ := Aside0.mk hb; have c32 : w4.cell? ⟨g3, 2, none⟩ = some (.int .u8 1) := (blk_cell hb 2).trans rfl; have z0 : w4.cell? ⟨g1, 0, none⟩ = some (.int .u16 x.op) := (blk_cell n0_.out 0).trans (by rw [List.getElem?_toArray]; exact HX.out.1); clear B1 L1 B3 hb hoth hsz hbel; have B1 := n0_; have L1 := n1_; have B3 := n2_; clear n0_ n1_ n2_)
        | ((with_reducible refine gate_dst (N := 16) rfl ?_); refine ev_build43 rfl (.tmp 15) rfl x.op rfl ?_)
        | ((with_reducible refine gate_dst (N := 5) rfl ?_); refine ev_alloc rfl 43 rfl _ zero43 ?_; intro g5 hg5 w5 hb hbl; have n0_ := Aside0.mk (blk_below (by first | exact B1.out | exact blk_drewN B1.out _) hbl); have n1_ := Aside0.mk (blk_below (by first | exact B3.out | exact blk_drewN B3.out _) hbl); have n2_ := Aside0.mk (below_step (by repeat (first | exact L1.out | apply pw_below_drewN | apply below_drew1)) hbl); have n3_ := Aside0.mk hb; have n4_ : Aside0 (w.heap.size ≤ g5 ∧ g1 ≠ g5 ∧ g3 ≠ g5) := ⟨by have h1 := blk_lt B1.out; have h2 := blk_lt B3.out; have h3 := L1.out.size; have h4 : w4.heap.size ≤ g5 := by { rw [hg5]; exact Nat.le_refl _ }; omega⟩; clear B1 L1 B3 hg5 hb hbl; have B1 := n0_; have B3 := n1_; have L1 := n2_; have B5 := n3_; have N5 := n4_; clear n0_ n1_ n2_ n3_ n4_)
        | ((with_reducible refine gate_store (t := 43) (p := 5) (v := .tmp 16) rfl ?_); refine ev_storeB rfl 43 (.tmp 5) (.tmp 16) rfl g5 _ rfl rfl 43 _ B5.out (by rw [List.size_toArray]; exact info43) rfl (all_oneCell_toArray (kI.K_one (w := w) (x := { zI with op := x.op }) (kI_mk w { zI with op := x.op } (Al := none) (At := none) (Ab := none) (Ae := none) (cl := 0) (ct := 0) (cb := 0) (ce := 0) rfl ⟨Nat.le_refl _, Kd.C_nil _ _⟩ ⟨Nat.le_refl _, Kd.C_nil _ _⟩ ⟨Nat.le_refl _, Kd.C_nil _ _⟩ ⟨Nat.le_refl _, Kd.C_nil _ _⟩))) ?_; intro w6 hb hoth hsz hbel; have FSF : Aside0 (FS w w6 g1 g3 g5 cx _ _) := ⟨⟨(hoth _ N5.out.2.1).trans B1.out, (hoth _ N5.out.2.2).trans B3.out, hb, hbel _ _ N5.out.1 L1.out, N5.out⟩⟩; have c32 : w6.cell? ⟨g3, 2, none⟩ = some (.int .u8 1) := (blk_cell FSF.out.2.1 2).trans rfl; clear B1 L1 B3 B5 hb hoth hsz hbel))
      have n0_ := Aside0.mk FSF.out.drew
      clear FSF
      have FSF := n0_
      clear n0_
      refine start_ (n := 8) (S := fun w' => w'.heap[g1]? = some (.cells cx.toArray 43 (0, 0))) (ds := []) #[false,false,false,false,false,false,false,false] (by kernel_rfl) rfl rfl FSF.out.1 (fun hHeld => ?_); refine with_tabW code_fits.tab7 code_fits.bits7 (fun HT_ HW_ => ?_)
      refine pure_ (i := 0) (N := some 21) (v := ?_) (a' := ?_) #[true,false,false,false,false,false,false,false] rfl rfl (any_of HT_.out (by kernel_rfl)) (fun _ _ _ h => h) (Or.inl ⟨by rfl, ?_⟩) ?_ ?_
      rotate_left
      · intro w'
        go_simp
        with_reducible rfl
      rotate_left
      · simp only [Act.put, List.setIfInBounds_toArray, List.set_cons_zero, List.set_cons_succ, i64_w, i32_w]
        rfl
      refine pure_ (i := 2) (N := some 23) (v := ?_) (a' := ?_) #[true,false,true,false,false,false,false,false] rfl rfl (any_of HT_.out (by kernel_rfl)) (fun _ _ _ h => h) (Or.inl ⟨by rfl, ?_⟩) ?_ ?_
      rotate_left
      · intro w'
        go_simp
        with_reducible rfl
      rotate_left
      · simp only [Act.put, List.setIfInBounds_toArray, List.set_cons_zero, List.set_cons_succ, i64_w, i32_w]
        rfl
      refine take_ (i := 1) (N := some 22) (v := .agg ([.int .u8 x.bk, .int .u8 x.bv, .int .u32 x.bt] : List Value).toArray) (a' := ?_) #[true,true,true,false,false,false,false,false] rfl rfl (take_ofW HT_.out HW_.out (by kernel_rfl)) (fun _ _ _ h => h) (yieldsIf_load_mid (by rfl) 41 _ rfl g1 22 rfl [.int .u8 x.bk, .int .u8 x.bv, .int .u32 x.bt] _ (fun W hW => rng_blk hW HXK.out rfl) Tryd.underlying41 rfl size41) hHeld ?_ ?_
      rotate_left
      · simp only [Act.put, List.setIfInBounds_toArray, List.set_cons_zero, List.set_cons_succ, i64_w, i32_w]
        rfl
      refine pure_ (i := 4) (N := some 25) (v := ?_) (a' := ?_) #[true,true,true,false,true,false,false,false] rfl rfl (any_of HT_.out (by kernel_rfl)) (fun _ _ _ h => h) (Or.inl ⟨by rfl, ?_⟩) ?_ ?_
      rotate_left
      · intro w'
        go_simp
        with_reducible rfl
      rotate_left
      · simp only [Act.put, List.setIfInBounds_toArray, List.set_cons_zero, List.set_cons_succ, i64_w, i32_w]
        rfl
      refine take_ (i := 3) (N := some 24) (v := ?_) (a' := ?_) #[true,true,true,true,true,false,false,false] rfl rfl (take_ofW HT_.out HW_.out (by kernel_rfl)) (fun _ _ _ h => h) (Or.inl ⟨by rfl, ?_⟩) hHeld ?_ ?_
      rotate_left
      · intro w' s0
        have c0 : w'.cell? ⟨g1, 25, none⟩ = some (.slice Ab x.body.length cb) := (blk_cell s0 25).trans (by rw [List.getElem?_toArray]; exact HX.out.2.2.2.2.2.2.2.2.2.1)
        go_simp
        with_reducible rfl
      rotate_left
      · simp only [Act.put, List.setIfInBounds_toArray, List.set_cons_zero, List.set_cons_succ, i64_w, i32_w]
        rfl
      refine one_ (i := 5) (N := none) #[true,true,true,true,true,true,false,false] rfl rfl (one_of HT_.out (by kernel_rfl)) (by decide) (fun K hK => ?_)
      refine storeM_step (by rfl) 41 (.tmp 25) (.tmp 22) rfl g5 22 [.int .u8 x.bk, .int .u8 x.bv, .int .u32 x.bt] rfl rfl 43 _ _ FSF.out.2.2.1 (by rw [List.size_toArray, cellsI_len _ rfl]; exact (by decide : 22 + 3 ≤ 27)) size41 (by intro v hv; simp only [List.mem_cons, List.not_mem_nil, or_false] at hv; rcases hv with rfl | rfl | rfl <;> rfl) (cellsI_setk _ rfl _ _ _ _ _ _ _) ?_
      intro w7 hb hoth hsz hbel
      have n0_ := Aside0.mk (FSF.out.store hb hoth hbel)
      clear FSF hb hoth hsz hbel
      have FSF := n0_
      clear n0_
      refine hK.out _ _ FSF.out.1 (fun hHeld => ?_)
      clear hK K
      refine pure_ (i := 6) (N := some 26) (v := ?_) (a' := ?_) #[true,true,true,true,true,true,true,false] rfl rfl (any_of HT_.out (by kernel_rfl)) (fun _ _ _ h => h) (Or.inl ⟨by rfl, ?_⟩) ?_ ?_
      rotate_left
      · intro w'
        go_simp
        with_reducible rfl
      rotate_left
      · simp only [Act.put, List.setIfInBounds_toArray, List.set_cons_zero, List.set_cons_succ, i64_w, i32_w]
        rfl
      refine one_ (i := 7) (N := none) #[true,true,true,true,true,true,true,true] rfl rfl (one_of HT_.out (by kernel_rfl)) (by decide) (fun K hK => ?_)
      refine storeC_step (by rfl) 22 (.tmp 26) (.tmp 24) rfl g5 25 (.slice Ab x.body.length cb) rfl rfl 43 _ _ FSF.out.2.2.1 (by rw [List.size_toArray, cellsI_len _ rfl]; decide) size22 rfl (cellsI_set _ rfl _ _ _ _ _).2.2.1 ?_
      intro w8 hb hoth hsz hbel
      have n0_ := Aside0.mk (FSF.out.store hb hoth hbel)
      clear FSF hb hoth hsz hbel
      have FSF := n0_
      clear n0_
      refine hK.out _ _ FSF.out.1 (fun hHeld => ?_)
      clear hK K
      refine done_ (done_of HT_.out (by kernel_rfl)) ?_
      have z0 : w8.cell? ⟨g1, 0, none⟩ = some (.int .u16 x.op) := (blk_cell FSF.out.1 0).trans (by rw [List.getElem?_toArray]; exact HX.out.1)
      have z25 : w8.cell? ⟨g1, 25, none⟩ = some (.slice Ab x.body.length cb) := (blk_cell FSF.out.1 25).trans (by rw [List.getElem?_toArray]; exact HX.out.2.2.2.2.2.2.2.2.2.1)
      have z26 : w8.cell? ⟨g1, 26, none⟩ = some (.slice Ae x.els.length ce) := (blk_cell FSF.out.1 26).trans (by rw [List.getElem?_toArray]; exact HX.out.2.2.2.2.2.2.2.2.2.2)
      go_wp2_with (first
        | ((with_reducible refine gate_store (t := 22) (p := 32) (v := .tmp 31) rfl ?_); refine ev_storeC rfl 22 (.tmp 32) (.tmp 31) rfl g5 26 (.slice Ae x.els.length ce) rfl rfl 43 _ _ FSF.out.2.2.1 (by rw [List.size_toArray, cellsI_len _ rfl]; decide) size22 rfl (cellsI_set _ rfl _ _ _ _ _).2.2.2 ?_; intro w9 hb hoth hsz hbel; have n0_ := Aside0.mk (FSF.out.store hb hoth hbel); clear FSF hb hoth hsz hbel; have FSF := n0_; clear n0_)
        | ((with_reducible refine gate_dst (N := 34) rfl ?_); refine ev_loadB rfl 41 (.tmp 33) rfl g1 22 3 cx _ _ rfl (by first | exact FSF.out.1 | exact (FSF.out.drewN _).1) HXK.out rfl Tryd.underlying41 rfl size41 ?_)
        | (go_at_call 53; refine (rightBlock_calls x.bk x.bv x.bt _).mono ?_; rintro e w10 ⟨rfl, hb⟩; rw [HR.out]; have n0_ := Aside0.mk (FS.below (by first | exact FSF.out | exact FSF.out.drewN _) hb); clear FSF hb; have FSF := n0_; clear n0_)
        | ((with_reducible refine gate_dst (N := 140) rfl ?_); refine ev_loadB rfl 43 (.tmp 5) rfl g5 0 27 _ _ _ rfl (by first | exact FSF.out.2.2.1 | exact (FSF.out.drewN _).2.2.1) (by rw [List.drop_zero]; exact List.take_of_length_le (Nat.le_of_eq (cellsI_len _ rfl _ _ _ _))) (cellsI_len _ rfl _ _ _ _) Tryd.underlying43 rfl info43 ?_)
        | ((with_reducible refine gate_dst (N := 141) rfl ?_); refine ev_loadB rfl 43 (.tmp 1) rfl g1 0 27 cx cx _ rfl (by first | exact FSF.out.1 | exact (FSF.out.drewN _).1) (by rw [List.drop_zero]; exact List.take_of_length_le (Nat.le_of_eq HXL.out)) HXL.out Tryd.underlying43 rfl info43 ?_)
        | (go_at_call 36; refine (HF.out _ (by repeat (first | exact FSF.out.bel | apply pw_below_drewN | apply below_drew1)) _ _ _).mono ?_; rintro e w11 ⟨rfl, hb⟩; have n0_ := Aside0.mk (FS.below (by first | exact FSF.out | exact FSF.out.drewN _) hb); clear FSF hb; have FSF := n0_; clear n0_;
           have z25 : w11.cell? ⟨g1, 25, none⟩ = some (.slice Ab x.body.length cb) := (blk_cell FSF.out.1 25).trans (by rw [List.getElem?_toArray]; exact HX.out.2.2.2.2.2.2.2.2.2.1);
           have z26 : w11.cell? ⟨g1, 26, none⟩ = some (.slice Ae x.els.length ce) := (blk_cell FSF.out.1 26).trans (by rw [List.getElem?_toArray]; exact HX.out.2.2.2.2.2.2.2.2.2.2);
           have y25 := (blkI FSF.out.2.2.1 rfl).2.2.1; have y26 := (blkI FSF.out.2.2.1 rfl).2.2.2))
      first
        | (exfalso; simp at ee; done)
        | (go_ret; exact ⟨by first | rfl | (simp; done) | (simpa using ee), by repeat (first | exact FSF.out.bel | exact FS.bel FSF.out | apply pw_below_drewN | apply below_drew1)⟩)
end Go.Proofs.YtobldeamemmokaaDoor.P

