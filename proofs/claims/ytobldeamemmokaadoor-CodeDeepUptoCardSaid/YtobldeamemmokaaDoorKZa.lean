import Derived.Test.YtobldeamemmokaaDoorKR
import Derived.Test.YtobldeamemmokaaDoorPA
import Derived.Test.YtobldeamemmokaaDoorMH
import Derived.Great.BuildSlice
/-! A cell of a block is written, as an event; an instruction's cells with one changed. -/
namespace Go.Proofs.YtobldeamemmokaaDoor.P
open Go.RowKit Go.Proofs.YtobldeamemmokaaDoorW.PrintWords Go.Proofs.YtobldeamemmokaaDoorW.PrintLast Go.Proofs.YtobldeamemmokaaDoorW.PrintMore
set_option linter.unusedVariables false
set_option linter.unusedSimpArgs false
theorem info43a : (Tryd.prog.info? 43).map (fun i => (i.zero, i.size, i.bytes)) = some (some (.agg (cellsI zI (.slice none 0 0) (.slice none 0 0) (.slice none 0 0) (.slice none 0 0)).toArray), 27, 144) := by kernel_rfl
theorem size22 : (Tryd.prog.info? 22).map (·.size) = some 1 := by kernel_rfl
theorem kI_mk (w : World) (x : I) {Al At Ab Ae : Option Addr} {cl ct cb ce : Nat} (h16 : x.v.length = 16) (h1 : x.l.length ≤ cl ∧ (Kd.int .u32).C w Al x.l.length x.l) (h2 : x.t.length ≤ ct ∧ (Kd.int .u8).C w At x.t.length x.t) (h3 : x.body.length ≤ cb ∧ kI.C w Ab x.body.length x.body) (h4 : x.els.length ≤ ce ∧ kI.C w Ae x.els.length x.els) :
    kI.K w x (cellsI x (.slice Al x.l.length cl) (.slice At x.t.length ct) (.slice Ab x.body.length cb) (.slice Ae x.els.length ce)) := by
  obtain ⟨n1, q1⟩ := Kd.fix_C_back monoI h3.2
  obtain ⟨n2, q2⟩ := Kd.fix_C_back monoI h4.2
  have r1 := Kd.upto_C_le monoI szI (show n1 ≤ max n1 n2 by omega) q1
  have r2 := Kd.upto_C_le monoI szI (show n2 ≤ max n1 n2 by omega) q2
  exact ⟨max n1 n2 + 1, ⟨[_], _, rfl, rfl, ⟨[_], _, rfl, rfl, ⟨[_], _, rfl, rfl, ⟨[_], _, rfl, rfl, ⟨encs (Value.int .u8) x.v, _, rfl, Kd.K_of_M _ (Kd.arr_of_cells (w := w) (base := 0) (ok := fun _ => True) h16), ⟨[_], _, rfl, ⟨Al, cl, rfl, h1.1, h1.2⟩, ⟨[_], _, rfl, ⟨At, ct, rfl, h2.1, h2.2⟩, ⟨[_], _, rfl, rfl, ⟨[_], _, rfl, rfl, ⟨[_], _, rfl, rfl, ⟨[_], _, rfl, ⟨Ab, cb, rfl, h3.1, r1⟩, ⟨Ae, ce, rfl, h4.1, r2⟩⟩⟩⟩⟩⟩⟩⟩⟩⟩⟩⟩⟩
theorem run_storeC (w : World) (ty : TypeId) (g j : Nat) (v : Value) (cs : Array Value) (t : TypeId) (hb : w.heap[g]? = some (.cells cs t (0, 0))) (hj : j < cs.size) (hi : (Tryd.prog.info? ty).map (·.size) = some 1) (h1 : v.oneCell' = true) :
    (storeVar ty ⟨g, j, none⟩ v).run Tryd.prog w = .ok () (w.setCell ⟨g, j, none⟩ v) := by
  have hc : w.cell? ⟨g, j, none⟩ = some cs[j] := (blk_cell hb j).trans (Array.getElem?_eq_getElem hj)
  have hf : w.frozen? ⟨g, j, none⟩ = false := blk_frozen hb j
  cases hq : Tryd.prog.info? ty with
  | none => simp [hq] at hi
  | some i =>
    have hs : i.size = 1 := by simpa [hq] using hi
    have hvc : v.cells = #[v] := by cases v <;> first | rfl | cases h1
    simp [storeVar, sizeOf, typeInfo, hq, hs, hvc, storeCells, Addr.add_zero', run_store _ _ _ _ _ h1, stored, hc, hf]
section
variable {ops : Array Oper} {rest : List Oper} {o : Oper} {a : Act} {w : World} {Q : Exit → Act → World → Prop} {Kc : Act → World → Prop}
theorem ev_storeC (hg : o.guard = none) (ty : TypeId) (x y : Operand) (ho : o.op = .store ty x y) (g j : Nat) (v : Value) (hx : a.eval x = .pointer (some ⟨g, j, none⟩)) (hy : a.eval y = v)
    (t : TypeId) (cs cs' : Array Value) (hb : w.heap[g]? = some (.cells cs t (0, 0))) (hj : j < cs.size) (hi : (Tryd.prog.info? ty).map (·.size) = some 1) (h1 : v.oneCell' = true) (hcs : cs.setIfInBounds j v = cs')
    (h : ∀ w1, w1.heap[g]? = some (.cells cs' t (0, 0)) → (∀ k, k ≠ g → w1.heap[k]? = w.heap[k]?) → w1.heap.size = w.heap.size → (∀ B (w0 : World), B ≤ g → Below B w0 w → Below B w0 w1) → wpList Tryd.prog ops Q rest (a.put o.dst undef) w1) : wpList Tryd.prog ops Q (o :: rest) a w :=
  wpList_plain hg fun _ hK => by
    unfold Oper.wp execOp
    simp only [ho, hx, hy, Instr.storeAt, Instr.sureAddr, Sem.run_bind, Sem.run_pure, Result.andThen_ok, run_storeC w ty g j v cs t hb hj hi h1]
    exact hK _ _ (h _ (blk_put hb j v hcs) (fun k hk => Below.heap_setCell w _ v k hk) (by simp [World.setCell]) (fun B w0 hB hb2 => hb2.setCell hB v))
theorem storeC_step (hw : Region.wanted o (yielded ops a.tmps) = true) (ty : TypeId) (x y : Operand) (ho : o.op = .store ty x y) (g j : Nat) (v : Value) (hx : a.eval x = .pointer (some ⟨g, j, none⟩)) (hy : a.eval y = v)
    (t : TypeId) (cs cs' : Array Value) (hb : w.heap[g]? = some (.cells cs t (0, 0))) (hj : j < cs.size) (hi : (Tryd.prog.info? ty).map (·.size) = some 1) (h1 : v.oneCell' = true) (hcs : cs.setIfInBounds j v = cs')
    (h : ∀ w1, w1.heap[g]? = some (.cells cs' t (0, 0)) → (∀ k, k ≠ g → w1.heap[k]? = w.heap[k]?) → w1.heap.size = w.heap.size → (∀ B (w0 : World), B ≤ g → Below B w0 w → Below B w0 w1) → Kc (a.put o.dst undef) w1) : if Region.wanted o (yielded ops a.tmps) = true then Oper.wp Tryd.prog o a w Kc Q else Kc (a.put o.dst undef) w := by
  rw [if_pos hw]
  unfold Oper.wp execOp
  simp only [ho, hx, hy, Instr.storeAt, Instr.sureAddr, Sem.run_bind, Sem.run_pure, Result.andThen_ok, run_storeC w ty g j v cs t hb hj hi h1]
  exact h _ (blk_put hb j v hcs) (fun k hk => Below.heap_setCell w _ v k hk) (by simp [World.setCell]) (fun B w0 hB hb2 => hb2.setCell hB v)
end
/-- One instruction made a slice. -/
theorem run_lit1 {o : Oper} {a : Act} {w : World} (x : Operand) (ho : o.op = .buildSlice 22 1 #[(0, x)]) (cs : List Value) (hcs : cs.length = 27) (hx : a.eval x = .agg cs.toArray) :
    (execOp a.eval o).run Tryd.prog w = .ok (.value (.slice (some ⟨w.heap.size, 0, none⟩) 1 1)) (w.alloc (.cells cs.toArray 43)) := by
  obtain ⟨ie, hie, hz⟩ := Option.map_eq_some_iff.1 (show (Tryd.prog.info? 43).map (fun i => (i.zero, i.size)) = some (some (.agg (cellsI zI (.slice none 0 0) (.slice none 0 0) (.slice none 0 0) (.slice none 0 0)).toArray), 27) by kernel_rfl)
  simp only [Prod.mk.injEq] at hz
  obtain ⟨hz, hsz⟩ := hz
  have hv : ∀ v ∈ [Value.agg cs.toArray], v.cells.size = 27 := by
    intro v hv
    rcases List.mem_singleton.1 hv with rfl
    simp [Value.cells, hcs]
  have hf := Great.fill_whole (s := 27) (by decide) [Value.agg cs.toArray] ((Array.range (1 * 27)).map (((Value.agg (cellsI zI (.slice none 0 0) (.slice none 0 0) (.slice none 0 0) (.slice none 0 0)).toArray).cells)[· % (((Value.agg (cellsI zI (.slice none 0 0) (.slice none 0 0) (.slice none 0 0) (.slice none 0 0)).toArray).cells)).size]!)) hv (by simp)
  have hr := run_buildSlice (P := Tryd.prog) w 22 43 1 #[(0, Value.agg cs.toArray)] cs.toArray ie _ Tryd.underlying22 hie hz (by rw [hsz]; decide) (by rw [hsz]; decide) (by rw [hsz]; exact hf.trans (by simp [Value.cells]))
  unfold execOp
  simp only [ho, List.map_toArray, List.map_cons, List.map_nil, hx, Sem.run_bind, hr, Result.andThen_ok]
  rfl
theorem lit_R {W : World} {cs : List Value} (base : Nat) {y : I} {ok : Nat → Prop} (hM : kI.M W base ok y cs) (hcs : cs.length = 27) (hf : ok W.heap.size) (hbase : base ≤ W.heap.size) : kI.R 43 (W.alloc (.cells cs.toArray 43)) base ok (.slice (some ⟨W.heap.size, 0, none⟩) 1 1) [y] := by
  have hrep : Reps (kI.M W base ok) 27 [y] cs := Reps.front hM hcs (Reps.none _ _) (List.append_nil _)
  refine ⟨fun k hk => ?_, cs, ?_, ?_⟩
  · have : W.heap.size = k := by simpa [Value.ownBlock] using hk
    subst this
    exact hf
  · have h2 := World.ownsRow_lit (base := base) (e := 43) (size := 27) W cs.toArray 1 hbase (by decide) (by simp [hcs])
    have h3 : (W.alloc (.cells cs.toArray 43)).ownsRow base 43 27 (.slice (some ⟨W.heap.size, 0, none⟩) 1 1) 1 cs := by simpa using h2
    exact h3
  · refine hrep.imp_ (fun p c hp => kI.M_mono (fun k hk => ⟨hk.1, fun he => ?_⟩) (Kd.M_below (kI.M_bound hp) (below_alloc (Below.refl _ _) _)))
    have h3 : k = W.heap.size := by simpa [Value.ownBlock] using he
    have := hk.2.2.1
    omega
theorem ev_lit1 {ops : Array Oper} {rest : List Oper} {o : Oper} {a : Act} {w0 W : World} {Q : Exit → Act → World → Prop} (base : Nat) (hg : o.guard = none) (x : Operand) (ho : o.op = .buildSlice 22 1 #[(0, x)]) (cs : List Value) (hx : a.eval x = .agg cs.toArray) (hcs : cs.length = 27) (y : I) (ok : Nat → Prop) (hM : kI.M W base ok y cs) (hf : ok W.heap.size) (HB : Below base w0 W) (hbase : base ≤ W.heap.size)
    (h : ∀ v1 w1, kI.R 43 w1 base ok v1 [y] → Below base w0 w1 → Below W.heap.size W w1 → wpList Tryd.prog ops Q rest (a.put o.dst v1) w1) : wpList Tryd.prog ops Q (o :: rest) a W := by
  cases hd : o.dst with
  | none =>
    refine Kd.event_run hg (run_lit1 x ho cs hcs hx) ?_
    rw [hd]
    rw [hd] at h
    refine h _ _ ?_ (HB.alloc hbase _) (below_alloc (Below.refl _ _) _)
    exact lit_R base hM hcs hf hbase
  | some N =>
    refine Kd.event_run hg (run_lit1 x ho cs hcs hx) ?_
    rw [hd]
    rw [hd] at h
    refine h _ _ ?_ (HB.alloc hbase _) (below_alloc (Below.refl _ _) _)
    exact lit_R base hM hcs hf hbase
theorem R_rr {W : World} {base : Nat} {ok : Nat → Prop} {A : Option Addr} {n c : Nat} {xs : List I} (h : kI.R 43 W base ok (.slice A n c) xs) : ReadsRow (kI.M W base ok) kI.sz W A n xs := by
  obtain ⟨A', c', e, _, hr⟩ := OwnRow.reads h.2
  injection e with e1 e2 e3
  subst e1
  have e4 := hr.1
  subst e2
  exact ReadsRow.imp_ hr (Below.refl _ _) (fun p c hp => kI.M_mono (fun k hk => hk.1) hp)
theorem cellsI_set (x : I) (h : x.v.length = 16) (vl vt vb ve u : Value) :
    (cellsI x vl vt vb ve).toArray.setIfInBounds 20 u = (cellsI x u vt vb ve).toArray ∧ (cellsI x vl vt vb ve).toArray.setIfInBounds 21 u = (cellsI x vl u vb ve).toArray ∧
    (cellsI x vl vt vb ve).toArray.setIfInBounds 25 u = (cellsI x vl vt u ve).toArray ∧ (cellsI x vl vt vb ve).toArray.setIfInBounds 26 u = (cellsI x vl vt vb u).toArray := by
  have hl : (encs (Value.int .u8) x.v).length = 16 := by rw [encs_length]; exact h
  have key : ∀ (j : Nat) (tl : List Value), (Value.int .u16 x.op :: .int .u32 x.a :: .int .u32 x.b :: .int .u64 x.n :: (encs (Value.int .u8) x.v ++ tl)).set (20 + j) u = (Value.int .u16 x.op :: .int .u32 x.a :: .int .u32 x.b :: .int .u64 x.n :: (encs (Value.int .u8) x.v ++ tl.set j u)) := by
    intro j tl
    rw [show 20 + j = (16 + j) + 1 + 1 + 1 + 1 by omega]
    simp only [List.set_cons_succ]
    rw [List.set_append_right _ _ (by omega), hl, Nat.add_sub_cancel_left]
  simp only [List.setIfInBounds_toArray]
  exact ⟨congrArg _ (key 0 _), congrArg _ (key 1 _), congrArg _ (key 5 _), congrArg _ (key 6 _)⟩
theorem cellsI_size (x : I) (h : x.v.length = 16) (vl vt vb ve : Value) : (cellsI x vl vt vb ve).toArray.size = 27 := by rw [List.size_toArray]; exact cellsI_len x h vl vt vb ve
/-- The copy under way: its own variable, what is copied so far. -/
def Cst (w W : World) (g : Nat) (x : I) (v3 : Value) (pre : List I) (vl vt vb ve : Value) : Prop :=
  W.heap[g]? = some (.cells (cellsI x vl vt vb ve).toArray 43 (0, 0)) ∧ kI.R 43 W w.heap.size (fun k => k ≠ g) v3 pre ∧ Below w.heap.size w W ∧ w.heap.size ≤ g
theorem Cst.bel {w W : World} {g : Nat} {x : I} {v3 : Value} {pre : List I} {vl vt vb ve : Value} (h : Cst w W g x v3 pre vl vt vb ve) : Below w.heap.size w W := h.2.2.1
theorem Cst.below {w W W1 : World} {g : Nat} {x : I} {v3 : Value} {pre : List I} {vl vt vb ve : Value} (h : Cst w W g x v3 pre vl vt vb ve) (hb : Below W.heap.size W W1) : Cst w W1 g x v3 pre vl vt vb ve :=
  ⟨blk_below h.1 hb, Kd.R_below h.2.1 hb, below_step h.2.2.1 hb, h.2.2.2⟩
theorem Cst.store {w W W1 : World} {g : Nat} {x : I} {v3 : Value} {pre : List I} {vl vt vb ve ul ut ub ue : Value} (h : Cst w W g x v3 pre vl vt vb ve) (hb : W1.heap[g]? = some (.cells (cellsI x ul ut ub ue).toArray 43 (0, 0))) (ho : ∀ k, k ≠ g → W1.heap[k]? = W.heap[k]?) (hbel : ∀ B (w0 : World), B ≤ g → Below B w0 W → Below B w0 W1) : Cst w W1 g x v3 pre ul ut ub ue :=
  ⟨hb, Kd.R_move h.2.1 ho, hbel _ _ h.2.2.2 h.2.2.1, h.2.2.2⟩
/-- A row of the copy's own, apart from its variable and from what is copied so far. -/
def Rw {α : Type} (d : Kd α) (e : Nat) (w W : World) (g : Nat) (v3 v : Value) (xs : List α) : Prop := d.R e W w.heap.size (fun k => k ≠ g ∧ some k ≠ v3.ownBlock) v xs
theorem Rw.below {α : Type} {d : Kd α} {e : Nat} {w W W1 : World} {g : Nat} {v3 v : Value} {xs : List α} (h : Rw d e w W g v3 v xs) (hb : Below W.heap.size W W1) : Rw d e w W1 g v3 v xs := Kd.R_below h hb
theorem Rw.store {α : Type} {d : Kd α} {e : Nat} {w W W1 : World} {g : Nat} {v3 v : Value} {xs : List α} (h : Rw d e w W g v3 v xs) (ho : ∀ k, k ≠ g → W1.heap[k]? = W.heap[k]?) : Rw d e w W1 g v3 v xs := Kd.R_move h (fun k hk => ho k hk.1)
theorem Cst.fresh {α : Type} {d : Kd α} {e : Nat} {w W W1 : World} {g : Nat} {x : I} {v3 v : Value} {pre : List I} {xs : List α} {ok : Nat → Prop} {vl vt vb ve : Value} (h : Cst w W g x v3 pre vl vt vb ve) (hr : d.R e W1 W.heap.size ok v xs) : Rw d e w W1 g v3 v xs :=
  Kd.R_lower (Kd.R_mono (Kd.R_bound hr) (fun k hk => ⟨by have := blk_lt h.1; have := hk.2.1; omega, fun e => by have := Kd.R_lt h.2.1 k e.symm; have := hk.2.1; omega⟩)) h.2.2.1.size
theorem Cst.cells {w W : World} {g : Nat} {x : I} {v3 : Value} {pre : List I} {vl vt vb ve : Value} (h : Cst w W g x v3 pre vl vt vb ve) (h16 : x.v.length = 16) : W.cell? ⟨g, 20, none⟩ = some vl ∧ W.cell? ⟨g, 21, none⟩ = some vt ∧ W.cell? ⟨g, 25, none⟩ = some vb ∧ W.cell? ⟨g, 26, none⟩ = some ve := by
  obtain ⟨_, _, _, _, z20, z21, _, _, _, z25, z26⟩ := cellsI_at x h16 vl vt vb ve
  exact ⟨(blk_cell h.1 20).trans (by rw [List.getElem?_toArray]; exact z20), (blk_cell h.1 21).trans (by rw [List.getElem?_toArray]; exact z21), (blk_cell h.1 25).trans (by rw [List.getElem?_toArray]; exact z25), (blk_cell h.1 26).trans (by rw [List.getElem?_toArray]; exact z26)⟩
end Go.Proofs.YtobldeamemmokaaDoor.P

