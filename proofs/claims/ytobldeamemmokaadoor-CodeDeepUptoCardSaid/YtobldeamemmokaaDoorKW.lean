import Derived.Test.YtobldeamemmokaaDoorKI
import Derived.Test.YtobldeamemmokaaDoorWLast
/-! Arrays of bytes and blocks' types held against one another; loads and boxes of many cells as events. -/
namespace Go.Proofs.YtobldeamemmokaaDoor.P
open Go.RowKit Go.Proofs.YtobldeamemmokaaDoorW.PrintWords Go.Proofs.YtobldeamemmokaaDoorW.PrintLast Go.Proofs.YtobldeamemmokaaDoorW.PrintMore
set_option linter.unusedVariables false
set_option linter.unusedSimpArgs false
theorem size5 : (Tryd.prog.info? 5).map (·.size) = some 1 := by kernel_rfl
theorem part5 (w : World) (xs : List Int) (i : Nat) (h : i < xs.length) : (part 5 (encs (Value.int .u8) xs).toArray i).run Tryd.prog w = .ok (.int .u8 xs[i]) w := by
  have hagg : (isAgg 5).run Tryd.prog w = .ok false w := by
    unfold isAgg
    rw [Sem.run_bind, run_underlying Tryd.underlying5 w]
    rfl
  unfold part
  have e : (encs (Value.int .u8) xs).toArray[i]? = some (.int .u8 xs[i]) := by
    rw [List.getElem?_toArray]
    simp [encs, h]
  rw [Sem.run_bind, hagg, Result.andThen_ok, e]
  rfl
theorem eqLoop (d : Nat) (xs ys : List Int) : ∀ (n i : Nat) (w : World), xs.length = i + n → ys.length = i + n → (Sem.run Tryd.prog (forIn (List.range' i n) (none, ()) fun i (__s : Option Bool × Unit) => do
              let __do_lift ← part 5 (encs (Value.int IntKind.u8) xs).toArray (i * 1)
              let __do_lift_1 ← part 5 (encs (Value.int IntKind.u8) ys).toArray (i * 1)
              let __do_lift ← Op.equalIn (d + 1) 5 __do_lift __do_lift_1
              if (!__do_lift) = true then pure (ForInStep.done (some false, ())) else pure (ForInStep.yield (none, ())))
            w) = .ok (if xs.drop i = ys.drop i then (none, ()) else (some false, ())) w
  | 0, i, w, hx, hy => by
    rw [if_pos (by rw [List.drop_eq_nil_of_le (by omega), List.drop_eq_nil_of_le (by omega)])]
    rfl
  | n + 1, i, w, hx, hy => by
    have h1 : i < xs.length := by omega
    have h2 : i < ys.length := by omega
    have he := run_equalIn_int (P := Tryd.prog) w d 5 .u8 .u8 xs[i] ys[i] Tryd.underlying5
    simp only [List.range'_succ, List.forIn_cons, Sem.run_bind, Nat.mul_one, part5 w xs i h1, part5 w ys i h2, Result.andThen_ok, he]
    have ih := eqLoop d xs ys n (i + 1) w (by omega) (by omega)
    simp only [Nat.mul_one] at ih
    rw [List.drop_eq_getElem_cons h1, List.drop_eq_getElem_cons h2]
    by_cases e : xs[i] = ys[i]
    · have e1 : (xs[i] == ys[i]) = true := beq_iff_eq.mpr e
      simp only [e1, Bool.not_true, Bool.false_eq_true, if_false, Sem.run_pure, Result.andThen_ok]
      rw [ih, e]
      simp only [List.cons.injEq, true_and]
    · have e1 : (xs[i] == ys[i]) = false := beq_eq_false_iff_ne.mpr e
      simp only [e1, Bool.not_false, if_true, Sem.run_pure, Result.andThen_ok]
      rw [if_neg (by intro h; exact e (List.cons.inj h).1)]
theorem eqB (w : World) (d : Nat) (xs ys : List Int) (hx : xs.length = 16) (hy : ys.length = 16) :
    (Op.equalIn (d + 2) 36 (.agg (encs (Value.int .u8) xs).toArray) (.agg (encs (Value.int .u8) ys).toArray)).run Tryd.prog w = .ok (xs == ys) w := by
  have hu := Tryd.underlying36
  have hs : (sizeOf 5).run Tryd.prog w = .ok 1 w := by
    have := size5
    cases hq : Tryd.prog.info? 5 with
    | none => simp [hq] at this
    | some i =>
      have hi : i.size = 1 := by simpa [hq] using this
      simp [sizeOf, typeInfo, hq, hi]
  have hl := eqLoop d xs ys 16 0 w (by omega) (by omega)
  rw [Op.equalIn]
  simp only [Sem.run_bind, run_underlying hu, Result.andThen_ok, hs, Std.Legacy.Range.forIn_eq_forIn_range', Std.Legacy.Range.size]
  rw [show (16 - 0 + 1 - 1) / 1 = 16 from rfl, hl, Result.andThen_ok]
  simp only [List.drop_zero]
  by_cases e : xs = ys
  · rw [if_pos e, show (xs == ys) = true from beq_iff_eq.mpr e]
    rfl
  · rw [if_neg e, show (xs == ys) = false from beq_eq_false_iff_ne.mpr e]
    rfl
theorem eq41 (d : Nat) (w : World) (x0 y0 : Int) (x1 y1 : Int) (x2 y2 : Int) :
    (Op.equalIn (d + 2) 41 (.agg #[.int .u8 x0, .int .u8 x1, .int .u32 x2]) (.agg #[.int .u8 y0, .int .u8 y1, .int .u32 y2])).run Tryd.prog w = .ok (x0 == y0 && (x1 == y1 && (x2 == y2))) w := by
  refine eqA_of Tryd.underlying41 (by kernel_rfl) ?_
  refine eqf_cons (by rfl) (by go_simp; rfl) (by go_simp; rfl) (by go_simp) ?_
  refine eqf_cons (by rfl) (by go_simp; rfl) (by go_simp; rfl) (by go_simp) ?_
  exact eqf_last (by rfl) (by go_simp; rfl) (by go_simp; rfl) (by go_simp)
theorem info36 : (Tryd.prog.info? 36).map (·.size) = some 16 := by kernel_rfl
theorem info43 : (Tryd.prog.info? 43).map (·.size) = some 27 := by kernel_rfl
theorem info41 : (Tryd.prog.info? 41).map (·.size) = some 3 := by kernel_rfl
section
variable {ops : Array Oper} {rest : List Oper} {o : Oper} {a : Act} {w : World} {Q : Exit → Act → World → Prop}
/-- Two arrays of sixteen bytes, held against one another. -/
theorem ev_eqV (hg : o.guard = none) (x y : Operand) (t : TypeId) (ho : o.op = .binOp .eql 36 x y t) (xs ys : List Int) (hx : xs.length = 16) (hy : ys.length = 16) (h1 : a.eval x = .agg (encs (Value.int .u8) xs).toArray) (h2 : a.eval y = .agg (encs (Value.int .u8) ys).toArray)
    (h : wpList Tryd.prog ops Q rest (a.put o.dst (.bool (xs == ys))) w) : wpList Tryd.prog ops Q (o :: rest) a w := by
  refine Kd.event_run hg ?_ h
  unfold execOp
  simp only [ho, h1, h2, Sem.run_bind, run_eqGuard_agg (P := Tryd.prog) w .eql 36 x y _ _ (by kernel_rfl), Result.andThen_ok, run_eql_struct, eqB w 9998 xs ys hx hy]
  rfl
theorem ev_eq41 (hg : o.guard = none) (x y : Operand) (t : TypeId) (ho : o.op = .binOp .eql 41 x y t) (x0 x1 x2 y0 y1 y2 : Int) (h1 : a.eval x = .agg #[.int .u8 x0, .int .u8 x1, .int .u32 x2]) (h2 : a.eval y = .agg #[.int .u8 y0, .int .u8 y1, .int .u32 y2])
    (h : wpList Tryd.prog ops Q rest (a.put o.dst (.bool (x0 == y0 && (x1 == y1 && (x2 == y2))))) w) : wpList Tryd.prog ops Q (o :: rest) a w := by
  refine Kd.event_run hg ?_ h
  unfold execOp
  simp only [ho, h1, h2, Sem.run_bind, run_eqGuard_agg (P := Tryd.prog) w .eql 41 x y _ _ (by kernel_rfl), Result.andThen_ok, run_eql_struct, eq41 9998 w]
  rfl
/-- An instruction is boxed. -/
theorem ev_boxI (hg : o.guard = none) (x : Operand) (ho : o.op = .box 43 x) (cs : List Value) (hx : a.eval x = .agg cs.toArray)
    (h : ∀ g, g = w.heap.size → ∀ w1, w1.heap[g]? = some (.cells cs.toArray 43 (0, 0)) → Below w.heap.size w w1 → wpList Tryd.prog ops Q rest (a.put o.dst (.pointer (some ⟨g, 0, none⟩))) w1) : wpList Tryd.prog ops Q (o :: rest) a w := by
  refine Kd.event_run hg ?_ (h _ rfl _ (blk_new w _) (below_alloc (Below.refl _ _) _))
  unfold execOp
  simp only [ho, hx]
  rfl
/-- Many cells are read out of a block that holds cs. -/
theorem ev_loadB (hg : o.guard = none) (ty : TypeId) (x : Operand) (ho : o.op = .load ty x) (g off n : Nat) (cs vs : List Value) (d : TypeDesc) (hx : a.eval x = .pointer (some ⟨g, off, none⟩)) (hb : w.heap[g]? = some (.cells cs.toArray 43 (0, 0)))
    (hvs : (cs.drop off).take n = vs) (hn : vs.length = n) (hu : Tryd.prog.underlying ty = some d) (hd : d.isRow = true) (hi : (Tryd.prog.info? ty).map (·.size) = some n)
    (h : wpList Tryd.prog ops Q rest (a.put o.dst (.agg vs.toArray)) w) : wpList Tryd.prog ops Q (o :: rest) a w := by
  refine wpList_load_mid hg ty x ho g off hx vs d ?_ hu hd (by rw [hn]; exact hi) h
  intro j v hj
  rw [blk_cell hb]
  rw [List.getElem?_toArray]
  have hj2 : j < n := by rw [← hn]; exact (List.getElem?_eq_some_iff.1 hj).1
  rw [← hvs, List.getElem?_take_of_lt hj2, List.getElem?_drop] at hj
  exact hj
/-- A new variable of zeros. -/
theorem ev_alloc (hg : o.guard = none) (t : TypeId) (ho : o.op = .alloc t) (z : Value) (hz : (Tryd.prog.info? t).map (fun i => i.zero) = some (some z))
    (h : ∀ g, g = w.heap.size → ∀ w1, w1.heap[g]? = some (.cells z.cells t (0, 0)) → Below w.heap.size w w1 → wpList Tryd.prog ops Q rest (a.put o.dst (.pointer (some ⟨g, 0, none⟩))) w1) : wpList Tryd.prog ops Q (o :: rest) a w := by
  refine Kd.event_run hg ?_ (h _ rfl _ (blk_new w _) (below_alloc (Below.refl _ _) _))
  unfold execOp
  cases hq : Tryd.prog.info? t with
  | none => simp [hq] at hz
  | some i =>
    simp [hq] at hz
    simp [ho, Instr.alloc, zeroValue, typeInfo, hq, hz, newVar, newRow]
/-- A whole block is written over. -/
theorem ev_storeB (hg : o.guard = none) (ty : TypeId) (x y : Operand) (ho : o.op = .store ty x y) (g : Nat) (cells : Array Value) (hx : a.eval x = .pointer (some ⟨g, 0, none⟩)) (hy : a.eval y = .agg cells)
    (t : TypeId) (old : Array Value) (hb : w.heap[g]? = some (.cells old t (0, 0))) (hi : (Tryd.prog.info? ty).map (·.size) = some cells.size) (hold : old.size = cells.size) (h1 : cells.all (·.oneCell') = true)
    (h : ∀ w1, w1.heap[g]? = some (.cells cells t (0, 0)) → (∀ k, k ≠ g → w1.heap[k]? = w.heap[k]?) → w1.heap.size = w.heap.size → (∀ B (w0 : World), B ≤ g → Below B w0 w → Below B w0 w1) → wpList Tryd.prog ops Q rest (a.put o.dst undef) w1) : wpList Tryd.prog ops Q (o :: rest) a w :=
  wpList_store_row hg ty x y ho g cells hx hy t old hb hi hold h1 (h _ (setRow_heap w g old cells t (0, 0) hb) (fun k hk => setRow_other w g k cells hk) (by simp) (fun B w0 hB hb => ⟨hb.os, hb.tape, hb.output, by simpa using hb.size, fun k hk => (setRow_other w g k cells (by omega)).trans (hb.block k hk)⟩))
end
section
variable {ops : Array Oper} {o : Oper} {a : Act} {w : World} {Q : Exit → Act → World → Prop} {Kc : Act → World → Prop}
/-- The same two as steps of a region that draws. -/
theorem alloc_step (hw : Region.wanted o (yielded ops a.tmps) = true) (t : TypeId) (ho : o.op = .alloc t) (z : Value) (hz : (Tryd.prog.info? t).map (fun i => i.zero) = some (some z))
    (h : ∀ g, g = w.heap.size → ∀ w1, w1.heap[g]? = some (.cells z.cells t (0, 0)) → Below w.heap.size w w1 → Kc (a.put o.dst (.pointer (some ⟨g, 0, none⟩))) w1) : if Region.wanted o (yielded ops a.tmps) = true then Oper.wp Tryd.prog o a w Kc Q else Kc (a.put o.dst undef) w := by
  refine event_step hw ?_ (h _ rfl _ (blk_new w _) (below_alloc (Below.refl _ _) _))
  unfold execOp
  cases hq : Tryd.prog.info? t with
  | none => simp [hq] at hz
  | some i =>
    simp [hq] at hz
    simp [ho, Instr.alloc, zeroValue, typeInfo, hq, hz, newVar, newRow]
end
theorem cellsI_v (x : I) (h : x.v.length = 16) (vl vt vb ve : Value) : ((cellsI x vl vt vb ve).drop 4).take 16 = encs (Value.int .u8) x.v := by
  show (encs (Value.int .u8) x.v ++ _).take 16 = _
  rw [List.take_append_of_le_length (by rw [encs_length, h]; exact Nat.le_refl _), List.take_of_length_le (by rw [encs_length, h]; exact Nat.le_refl _)]
theorem cellsI_k (x : I) (h : x.v.length = 16) (vl vt vb ve : Value) : ((cellsI x vl vt vb ve).drop 22).take 3 = [.int .u8 x.bk, .int .u8 x.bv, .int .u32 x.bt] := by
  have e : (cellsI x vl vt vb ve).drop 22 = [.int .u8 x.bk, .int .u8 x.bv, .int .u32 x.bt, vb, ve] := by
    show (encs (Value.int .u8) x.v ++ [vl, vt, .int .u8 x.bk, .int .u8 x.bv, .int .u32 x.bt, vb, ve]).drop 18 = _
    rw [List.drop_append, List.drop_eq_nil_of_le (by rw [encs_length, h]; decide), encs_length, h]
    rfl
  rw [e]
  rfl
end Go.Proofs.YtobldeamemmokaaDoor.P

/-! slices.Equal of uint32 and of value types: printed, and told plainly. -/
namespace Go.Proofs.YtobldeamemmokaaDoor.P
open Go.RowKit Go.Proofs.YtobldeamemmokaaDoorW.PrintWords Go.Proofs.YtobldeamemmokaaDoorW.PrintLast Go.Proofs.YtobldeamemmokaaDoorW.PrintMore
attribute [local go_sem] max2_int min2_int max_two min_two max_three min_three max_four min_four
set_option linter.unusedVariables false
set_option linter.unusedSimpArgs false
/-! ### eq32: function 58 -/
def eq32.l0 : Nat → List Int → List Int → Int → Int → Option (Bool)
  | 0, _, _, _, _ => none
  | k + 1, x0, x1, x12, x13 => if x13 < x12 then (if 0 ≤ x13 then (if x13 < (x0.length : Int) then (if x13 < (x1.length : Int) then (if (rd x0 x13) = (rd x1 x13) then (eq32.l0 k x0 x1 x12 (wrap64 (x13 + 1))) else (some false)) else (none)) else (none)) else (none)) else (some true)
def eq32.f (k : Nat) (l0 : List Int) (l1 : List Int) : Option (Bool) := if (l0.length : Int) = (l1.length : Int) then (eq32.l0 k l0 l1 (l0.length : Int) 0) else (some false)
set_option maxHeartbeats 8000000 in
set_option maxRecDepth 100000 in
theorem eq32.calls (k : Nat) (A0 : Option Addr) (c0 : Nat) (l0 : List Int) (A1 : Option Addr) (c1 : Nat) (l1 : List Int) (r : Bool) (w : World) (hr0 : Kd.C (Kd.int .u32) w A0 l0.length l0) (hc0 : l0.length ≤ c0) (hr1 : Kd.C (Kd.int .u32) w A1 l1.length l1) (hc1 : l1.length ≤ c1) (h : eq32.f k l0 l1 = some r) :
    Calls Tryd.prog 58 #[.slice A0 l0.length c0, .slice A1 l1.length c1] w fun e w' => e = .returned (.bool r) ∧ Drawn0 w w' := by
  have HR0 := Aside0.mk hr0
  have HC0 := Aside0.mk hc0
  clear hr0 hc0
  have HR1 := Aside0.mk hr1
  have HC1 := Aside0.mk hc1
  clear hr1 hc1
  have H : (if (l0.length : Int) = (l1.length : Int) then (eq32.l0 k l0 l1 (l0.length : Int) 0) else (some false)) = some r := h
  clear h
  by_cases c3 : (l0.length : Int) = (l1.length : Int)
  · rw [if_pos c3] at H
    have c3b0 : ((l0.length : Int) == (l1.length : Int)) = true := beq_iff_eq.mpr c3
    have c3b1 : ((l0.length : Int) != (l1.length : Int)) = false := bne_eq_false_iff_eq.mpr c3
    have c3b2 : (l0.length == l1.length) = true := by first | simpa using c3 | (simp at c3 ⊢; omega)
    clear c3
    have H' := Aside0.mk H
    clear H
    go_enter Tryd.func58, Tryd.ntmps58
    go_wp2
    repeat (go_quiet (fail); try go_wp2)
    go_loopg [13] k (fun kq v13 w' => ∃ (x13_1 : Int), v13 = .int .i64 x13_1 ∧ Aside0 (eq32.l0 kq l0 l1 (l0.length : Int) x13_1 = some r) ∧ Aside0 (kq ≤ k) ∧ Drawn0 w w')
    case atStart => exact ⟨(0), (by first | rfl | (simp; done) | (simp [*]; done)), H', ⟨Nat.le_refl _⟩, by repeat (first | exact Drawn0.refl _ | apply Drawn0.step)⟩
    case round =>
      clear H'
      try clear c1
      try clear p2
      try clear c3
      try clear c3b0
      try clear c3b1
      try clear c3b2
      obtain ⟨x13_1, rfl, HA, HK1, ⟨m1, rfl⟩⟩ := hrel
      cases gk with
      | zero => exact absurd HA.out (by simp [eq32.l0])
      | succ k1 =>
        have H := HA.out
        clear HA
        simp only [eq32.l0] at H
        by_cases c4 : x13_1 < (l0.length : Int)
        · rw [if_pos c4] at H
          have c4b0 : decide (x13_1 < (l0.length : Int)) = true := decide_eq_true c4
          clear c4
          by_cases c5 : 0 ≤ x13_1
          · rw [if_pos c5] at H
            have c5b0 : decide (0 ≤ x13_1) = true := decide_eq_true c5
            clear c5
            by_cases c6 : x13_1 < (l0.length : Int)
            · rw [if_pos c6] at H
              have c6b0 : decide (x13_1 < (l0.length : Int)) = true := decide_eq_true c6
              clear c6
              by_cases c7 : x13_1 < (l1.length : Int)
              · rw [if_pos c7] at H
                have c7b0 : decide (x13_1 < (l1.length : Int)) = true := decide_eq_true c7
                clear c7
                by_cases c8 : (rd l0 x13_1) = (rd l1 x13_1)
                · rw [if_pos c8] at H
                  have c8b0 : ((rd l0 x13_1) == (rd l1 x13_1)) = true := beq_iff_eq.mpr c8
                  have c8b1 : ((rd l0 x13_1) != (rd l1 x13_1)) = false := bne_eq_false_iff_eq.mpr c8
                  clear c8
                  have H' := Aside0.mk H
                  clear H
                  have p230 : 0 ≤ (x13_1 : Int) := of_decide_eq_true (by first | (with_reducible assumption) | assumption)
                  have q230 : x13_1 < (l0.length : Int) := of_decide_eq_true (by first | (with_reducible assumption) | assumption)
                  obtain ⟨ad230, e230, hx230_0⟩ := Kd.at_int HR0.out x13_1 p230 q230
                  cases e230
                  replace p230 := eq_true p230
                  replace q230 := eq_true q230
                  have p231 : 0 ≤ (x13_1 : Int) := of_decide_eq_true (by first | (with_reducible assumption) | assumption)
                  have q231 : x13_1 < (l1.length : Int) := of_decide_eq_true (by first | (with_reducible assumption) | assumption)
                  obtain ⟨ad231, e231, hx231_0⟩ := Kd.at_int HR1.out x13_1 p231 q231
                  cases e231
                  replace p231 := eq_true p231
                  replace q231 := eq_true q231
                  go_wp2
                  repeat (go_quiet (fail); try go_wp2)
                  go_roundg k1
                  case measure => have := HK1.out; omega
                  case rel => exact ⟨(wrap64 (x13_1 + 1)), (by first | rfl | (simp; done) | (simp [*]; done)), H', ⟨by have := HK1.out; omega⟩, by repeat (first | exact Drawn0.refl _ | apply Drawn0.step)⟩
                · rw [if_neg c8] at H
                  have c8b0 : ((rd l0 x13_1) == (rd l1 x13_1)) = false := beq_eq_false_iff_ne.mpr c8
                  have c8b1 : ((rd l0 x13_1) != (rd l1 x13_1)) = true := bne_iff_ne.mpr c8
                  obtain rfl := Option.some.inj H
                  have p230 : 0 ≤ (x13_1 : Int) := of_decide_eq_true (by first | (with_reducible assumption) | assumption)
                  have q230 : x13_1 < (l0.length : Int) := of_decide_eq_true (by first | (with_reducible assumption) | assumption)
                  obtain ⟨ad230, e230, hx230_0⟩ := Kd.at_int HR0.out x13_1 p230 q230
                  cases e230
                  replace p230 := eq_true p230
                  replace q230 := eq_true q230
                  have p231 : 0 ≤ (x13_1 : Int) := of_decide_eq_true (by first | (with_reducible assumption) | assumption)
                  have q231 : x13_1 < (l1.length : Int) := of_decide_eq_true (by first | (with_reducible assumption) | assumption)
                  obtain ⟨ad231, e231, hx231_0⟩ := Kd.at_int HR1.out x13_1 p231 q231
                  cases e231
                  replace p231 := eq_true p231
                  replace q231 := eq_true q231
                  go_wp2
                  repeat (go_quiet (fail); try go_wp2)
                  go_ret
                  exact ⟨by first | rfl | (simp; done) | (simp [*]; done), by repeat (first | exact Drawn0.refl _ | apply Drawn0.step)⟩
              · rw [if_neg c7] at H
                exact absurd H (by simp)
            · rw [if_neg c6] at H
              exact absurd H (by simp)
          · rw [if_neg c5] at H
            exact absurd H (by simp)
        · rw [if_neg c4] at H
          have c4b0 : decide (x13_1 < (l0.length : Int)) = false := decide_eq_false c4
          clear c4
          obtain rfl := Option.some.inj H
          go_wp2
          repeat (go_quiet (fail); try go_wp2)
          go_ret
          exact ⟨by first | rfl | (simp; done) | (simp [*]; done), by repeat (first | exact Drawn0.refl _ | apply Drawn0.step)⟩
  · rw [if_neg c3] at H
    have c3b0 : ((l0.length : Int) == (l1.length : Int)) = false := beq_eq_false_iff_ne.mpr c3
    have c3b1 : ((l0.length : Int) != (l1.length : Int)) = true := bne_iff_ne.mpr c3
    have c3b2 : (l0.length == l1.length) = false := by first | simpa using c3 | (simp at c3 ⊢; omega)
    obtain rfl := Option.some.inj H
    go_enter Tryd.func58, Tryd.ntmps58
    go_wp2
    repeat (go_quiet (fail); try go_wp2)
    go_ret
    exact ⟨by first | rfl | (simp; done) | (simp [*]; done), by repeat (first | exact Drawn0.refl _ | apply Drawn0.step)⟩

/-! ### eq8: function 59 -/
def eq8.l0 : Nat → List Int → List Int → Int → Int → Option (Bool)
  | 0, _, _, _, _ => none
  | k + 1, x0, x1, x12, x13 => if x13 < x12 then (if 0 ≤ x13 then (if x13 < (x0.length : Int) then (if x13 < (x1.length : Int) then (if (rd x0 x13) = (rd x1 x13) then (eq8.l0 k x0 x1 x12 (wrap64 (x13 + 1))) else (some false)) else (none)) else (none)) else (none)) else (some true)
def eq8.f (k : Nat) (l0 : List Int) (l1 : List Int) : Option (Bool) := if (l0.length : Int) = (l1.length : Int) then (eq8.l0 k l0 l1 (l0.length : Int) 0) else (some false)
set_option maxHeartbeats 8000000 in
set_option maxRecDepth 100000 in
theorem eq8.calls (k : Nat) (A0 : Option Addr) (c0 : Nat) (l0 : List Int) (A1 : Option Addr) (c1 : Nat) (l1 : List Int) (r : Bool) (w : World) (hr0 : Kd.C (Kd.int .u8) w A0 l0.length l0) (hc0 : l0.length ≤ c0) (hr1 : Kd.C (Kd.int .u8) w A1 l1.length l1) (hc1 : l1.length ≤ c1) (h : eq8.f k l0 l1 = some r) :
    Calls Tryd.prog 59 #[.slice A0 l0.length c0, .slice A1 l1.length c1] w fun e w' => e = .returned (.bool r) ∧ Drawn0 w w' := by
  have HR0 := Aside0.mk hr0
  have HC0 := Aside0.mk hc0
  clear hr0 hc0
  have HR1 := Aside0.mk hr1
  have HC1 := Aside0.mk hc1
  clear hr1 hc1
  have H : (if (l0.length : Int) = (l1.length : Int) then (eq8.l0 k l0 l1 (l0.length : Int) 0) else (some false)) = some r := h
  clear h
  by_cases c3 : (l0.length : Int) = (l1.length : Int)
  · rw [if_pos c3] at H
    have c3b0 : ((l0.length : Int) == (l1.length : Int)) = true := beq_iff_eq.mpr c3
    have c3b1 : ((l0.length : Int) != (l1.length : Int)) = false := bne_eq_false_iff_eq.mpr c3
    have c3b2 : (l0.length == l1.length) = true := by first | simpa using c3 | (simp at c3 ⊢; omega)
    clear c3
    have H' := Aside0.mk H
    clear H
    go_enter Tryd.func59, Tryd.ntmps59
    go_wp2
    repeat (go_quiet (fail); try go_wp2)
    go_loopg [13] k (fun kq v13 w' => ∃ (x13_1 : Int), v13 = .int .i64 x13_1 ∧ Aside0 (eq8.l0 kq l0 l1 (l0.length : Int) x13_1 = some r) ∧ Aside0 (kq ≤ k) ∧ Drawn0 w w')
    case atStart => exact ⟨(0), (by first | rfl | (simp; done) | (simp [*]; done)), H', ⟨Nat.le_refl _⟩, by repeat (first | exact Drawn0.refl _ | apply Drawn0.step)⟩
    case round =>
      clear H'
      try clear c1
      try clear p2
      try clear c3
      try clear c3b0
      try clear c3b1
      try clear c3b2
      obtain ⟨x13_1, rfl, HA, HK1, ⟨m1, rfl⟩⟩ := hrel
      cases gk with
      | zero => exact absurd HA.out (by simp [eq8.l0])
      | succ k1 =>
        have H := HA.out
        clear HA
        simp only [eq8.l0] at H
        by_cases c4 : x13_1 < (l0.length : Int)
        · rw [if_pos c4] at H
          have c4b0 : decide (x13_1 < (l0.length : Int)) = true := decide_eq_true c4
          clear c4
          by_cases c5 : 0 ≤ x13_1
          · rw [if_pos c5] at H
            have c5b0 : decide (0 ≤ x13_1) = true := decide_eq_true c5
            clear c5
            by_cases c6 : x13_1 < (l0.length : Int)
            · rw [if_pos c6] at H
              have c6b0 : decide (x13_1 < (l0.length : Int)) = true := decide_eq_true c6
              clear c6
              by_cases c7 : x13_1 < (l1.length : Int)
              · rw [if_pos c7] at H
                have c7b0 : decide (x13_1 < (l1.length : Int)) = true := decide_eq_true c7
                clear c7
                by_cases c8 : (rd l0 x13_1) = (rd l1 x13_1)
                · rw [if_pos c8] at H
                  have c8b0 : ((rd l0 x13_1) == (rd l1 x13_1)) = true := beq_iff_eq.mpr c8
                  have c8b1 : ((rd l0 x13_1) != (rd l1 x13_1)) = false := bne_eq_false_iff_eq.mpr c8
                  clear c8
                  have H' := Aside0.mk H
                  clear H
                  have p232 : 0 ≤ (x13_1 : Int) := of_decide_eq_true (by first | (with_reducible assumption) | assumption)
                  have q232 : x13_1 < (l0.length : Int) := of_decide_eq_true (by first | (with_reducible assumption) | assumption)
                  obtain ⟨ad232, e232, hx232_0⟩ := Kd.at_int HR0.out x13_1 p232 q232
                  cases e232
                  replace p232 := eq_true p232
                  replace q232 := eq_true q232
                  have p233 : 0 ≤ (x13_1 : Int) := of_decide_eq_true (by first | (with_reducible assumption) | assumption)
                  have q233 : x13_1 < (l1.length : Int) := of_decide_eq_true (by first | (with_reducible assumption) | assumption)
                  obtain ⟨ad233, e233, hx233_0⟩ := Kd.at_int HR1.out x13_1 p233 q233
                  cases e233
                  replace p233 := eq_true p233
                  replace q233 := eq_true q233
                  go_wp2
                  repeat (go_quiet (fail); try go_wp2)
                  go_roundg k1
                  case measure => have := HK1.out; omega
                  case rel => exact ⟨(wrap64 (x13_1 + 1)), (by first | rfl | (simp; done) | (simp [*]; done)), H', ⟨by have := HK1.out; omega⟩, by repeat (first | exact Drawn0.refl _ | apply Drawn0.step)⟩
                · rw [if_neg c8] at H
                  have c8b0 : ((rd l0 x13_1) == (rd l1 x13_1)) = false := beq_eq_false_iff_ne.mpr c8
                  have c8b1 : ((rd l0 x13_1) != (rd l1 x13_1)) = true := bne_iff_ne.mpr c8
                  obtain rfl := Option.some.inj H
                  have p232 : 0 ≤ (x13_1 : Int) := of_decide_eq_true (by first | (with_reducible assumption) | assumption)
                  have q232 : x13_1 < (l0.length : Int) := of_decide_eq_true (by first | (with_reducible assumption) | assumption)
                  obtain ⟨ad232, e232, hx232_0⟩ := Kd.at_int HR0.out x13_1 p232 q232
                  cases e232
                  replace p232 := eq_true p232
                  replace q232 := eq_true q232
                  have p233 : 0 ≤ (x13_1 : Int) := of_decide_eq_true (by first | (with_reducible assumption) | assumption)
                  have q233 : x13_1 < (l1.length : Int) := of_decide_eq_true (by first | (with_reducible assumption) | assumption)
                  obtain ⟨ad233, e233, hx233_0⟩ := Kd.at_int HR1.out x13_1 p233 q233
                  cases e233
                  replace p233 := eq_true p233
                  replace q233 := eq_true q233
                  go_wp2
                  repeat (go_quiet (fail); try go_wp2)
                  go_ret
                  exact ⟨by first | rfl | (simp; done) | (simp [*]; done), by repeat (first | exact Drawn0.refl _ | apply Drawn0.step)⟩
              · rw [if_neg c7] at H
                exact absurd H (by simp)
            · rw [if_neg c6] at H
              exact absurd H (by simp)
          · rw [if_neg c5] at H
            exact absurd H (by simp)
        · rw [if_neg c4] at H
          have c4b0 : decide (x13_1 < (l0.length : Int)) = false := decide_eq_false c4
          clear c4
          obtain rfl := Option.some.inj H
          go_wp2
          repeat (go_quiet (fail); try go_wp2)
          go_ret
          exact ⟨by first | rfl | (simp; done) | (simp [*]; done), by repeat (first | exact Drawn0.refl _ | apply Drawn0.step)⟩
  · rw [if_neg c3] at H
    have c3b0 : ((l0.length : Int) == (l1.length : Int)) = false := beq_eq_false_iff_ne.mpr c3
    have c3b1 : ((l0.length : Int) != (l1.length : Int)) = true := bne_iff_ne.mpr c3
    have c3b2 : (l0.length == l1.length) = false := by first | simpa using c3 | (simp at c3 ⊢; omega)
    obtain rfl := Option.some.inj H
    go_enter Tryd.func59, Tryd.ntmps59
    go_wp2
    repeat (go_quiet (fail); try go_wp2)
    go_ret
    exact ⟨by first | rfl | (simp; done) | (simp [*]; done), by repeat (first | exact Drawn0.refl _ | apply Drawn0.step)⟩

theorem rd_nat (l : List Int) (i : Nat) (h : i < l.length) : rd l (i : Int) = l[i] := by
  simp [rd, List.getD_eq_getElem?_getD, h]
theorem drop_eq_cons (l m : List Int) (i : Nat) (h1 : i < l.length) (h2 : i < m.length) : (l.drop i == m.drop i) = ((l[i] == m[i]) && (l.drop (i + 1) == m.drop (i + 1))) := by
  rw [List.drop_eq_getElem_cons h1, List.drop_eq_getElem_cons h2]
  rfl
theorem eq32_l (l m : List Int) (hl : l.length ≤ 9223372036854775807) (he : l.length = m.length) : ∀ (k i : Nat), i ≤ l.length → l.length < k + i → eq32.l0 k l m (l.length : Int) (i : Int) = some (l.drop i == m.drop i)
  | 0, i, h1, h2 => by omega
  | k + 1, i, h1, h2 => by
    rw [eq32.l0]
    by_cases h : i < l.length
    · have w1 : wrap64 ((i : Int) + 1) = ((i + 1 : Nat) : Int) := by unfold wrap64; omega
      rw [if_pos (by omega), if_pos (by omega), if_pos (by omega), if_pos (by omega), rd_nat l i h, rd_nat m i (by omega), drop_eq_cons l m i h (by omega)]
      by_cases e : l[i] = m[i]'(by omega)
      · rw [if_pos e, w1, eq32_l l m hl he k (i + 1) h (by omega), beq_iff_eq.mpr e, Bool.true_and]
      · rw [if_neg e, beq_eq_false_iff_ne.mpr e, Bool.false_and]
    · rw [if_neg (by omega), List.drop_eq_nil_of_le (by omega), List.drop_eq_nil_of_le (by omega)]
      rfl
theorem eq8_l (l m : List Int) (hl : l.length ≤ 9223372036854775807) (he : l.length = m.length) : ∀ (k i : Nat), i ≤ l.length → l.length < k + i → eq8.l0 k l m (l.length : Int) (i : Int) = some (l.drop i == m.drop i)
  | 0, i, h1, h2 => by omega
  | k + 1, i, h1, h2 => by
    rw [eq8.l0]
    by_cases h : i < l.length
    · have w1 : wrap64 ((i : Int) + 1) = ((i + 1 : Nat) : Int) := by unfold wrap64; omega
      rw [if_pos (by omega), if_pos (by omega), if_pos (by omega), if_pos (by omega), rd_nat l i h, rd_nat m i (by omega), drop_eq_cons l m i h (by omega)]
      by_cases e : l[i] = m[i]'(by omega)
      · rw [if_pos e, w1, eq8_l l m hl he k (i + 1) h (by omega), beq_iff_eq.mpr e, Bool.true_and]
      · rw [if_neg e, beq_eq_false_iff_ne.mpr e, Bool.false_and]
    · rw [if_neg (by omega), List.drop_eq_nil_of_le (by omega), List.drop_eq_nil_of_le (by omega)]
      rfl
theorem beq_len {l m : List Int} (h : l.length ≠ m.length) : (l == m) = false := beq_eq_false_iff_ne.mpr (fun e => h (by rw [e]))
theorem eq32_f (l m : List Int) (hl : l.length ≤ 9223372036854775807) : eq32.f (l.length + 1) l m = some (l == m) := by
  unfold eq32.f
  by_cases e : l.length = m.length
  · rw [if_pos (by omega)]
    have := eq32_l l m hl e (l.length + 1) 0 (by omega) (by omega)
    simpa using this
  · rw [if_neg (by omega), beq_len e]
theorem eq8_f (l m : List Int) (hl : l.length ≤ 9223372036854775807) : eq8.f (l.length + 1) l m = some (l == m) := by
  unfold eq8.f
  by_cases e : l.length = m.length
  · rw [if_pos (by omega)]
    have := eq8_l l m hl e (l.length + 1) 0 (by omega) (by omega)
    simpa using this
  · rw [if_neg (by omega), beq_len e]
theorem Eq32_calls {A0 : Option Addr} {c0 : Nat} {l0 : List Int} {A1 : Option Addr} {c1 : Nat} {l1 : List Int} {w : World} (hr0 : Kd.C (Kd.int .u32) w A0 l0.length l0) (hc0 : l0.length ≤ c0) (hr1 : Kd.C (Kd.int .u32) w A1 l1.length l1) (hc1 : l1.length ≤ c1) :
    Calls Tryd.prog 58 #[.slice A0 l0.length c0, .slice A1 l1.length c1] w fun e w' => e = .returned (.bool (l0 == l1)) ∧ Drawn0 w w' :=
  eq32.calls _ A0 c0 l0 A1 c1 l1 _ w hr0 hc0 hr1 hc1 (eq32_f l0 l1 (Kd.C_max hr0))
theorem Eq8_calls {A0 : Option Addr} {c0 : Nat} {l0 : List Int} {A1 : Option Addr} {c1 : Nat} {l1 : List Int} {w : World} (hr0 : Kd.C (Kd.int .u8) w A0 l0.length l0) (hc0 : l0.length ≤ c0) (hr1 : Kd.C (Kd.int .u8) w A1 l1.length l1) (hc1 : l1.length ≤ c1) :
    Calls Tryd.prog 59 #[.slice A0 l0.length c0, .slice A1 l1.length c1] w fun e w' => e = .returned (.bool (l0 == l1)) ∧ Drawn0 w w' :=
  eq8.calls _ A0 c0 l0 A1 c1 l1 _ w hr0 hc0 hr1 hc1 (eq8_f l0 l1 (Kd.C_max hr0))
end Go.Proofs.YtobldeamemmokaaDoor.P

/-! code.flat. -/
namespace Go.Proofs.YtobldeamemmokaaDoor.P
open Go.RowKit Go.Proofs.YtobldeamemmokaaDoorW.PrintWords Go.Proofs.YtobldeamemmokaaDoorW.PrintLast Go.Proofs.YtobldeamemmokaaDoorW.PrintMore
set_option linter.unusedVariables false
set_option linter.unusedSimpArgs false
def flatB (x y : I) : Bool := x.op == y.op && (x.a == y.a && (x.b == y.b && (x.n == y.n && (x.v == y.v && ((x.bk == y.bk && (x.bv == y.bv && x.bt == y.bt)) && (x.l == y.l && x.t == y.t))))))
set_option maxHeartbeats 8000000 in
set_option maxRecDepth 100000 in
theorem flat_calls (x y : I) (w : World) {Al Bl At Bt : Option Addr} {cl dl ct dt : Nat} (vb ve ub ue : Value) (hx : x.v.length = 16) (hy : y.v.length = 16)
    (h1 : x.l.length ≤ cl ∧ (Kd.int .u32).C w Al x.l.length x.l) (h2 : x.t.length ≤ ct ∧ (Kd.int .u8).C w At x.t.length x.t) (h3 : y.l.length ≤ dl ∧ (Kd.int .u32).C w Bl y.l.length y.l) (h4 : y.t.length ≤ dt ∧ (Kd.int .u8).C w Bt y.t.length y.t) :
    Calls Tryd.prog 36 #[.agg (cellsI x (.slice Al x.l.length cl) (.slice At x.t.length ct) vb ve).toArray, .agg (cellsI y (.slice Bl y.l.length dl) (.slice Bt y.t.length dt) ub ue).toArray] w fun e w' => e = .returned (.bool (flatB x y)) ∧ Below w.heap.size w w' := by
  obtain ⟨cx, hcx⟩ : ∃ cx, cx = cellsI x (.slice Al x.l.length cl) (.slice At x.t.length ct) vb ve := ⟨_, rfl⟩
  obtain ⟨cy, hcy⟩ : ∃ cy, cy = cellsI y (.slice Bl y.l.length dl) (.slice Bt y.t.length dt) ub ue := ⟨_, rfl⟩
  have X := cellsI_at x hx (.slice Al x.l.length cl) (.slice At x.t.length ct) vb ve
  have Y := cellsI_at y hy (.slice Bl y.l.length dl) (.slice Bt y.t.length dt) ub ue
  have XV := cellsI_v x hx (.slice Al x.l.length cl) (.slice At x.t.length ct) vb ve
  have YV := cellsI_v y hy (.slice Bl y.l.length dl) (.slice Bt y.t.length dt) ub ue
  have XK := cellsI_k x hx (.slice Al x.l.length cl) (.slice At x.t.length ct) vb ve
  have YK := cellsI_k y hy (.slice Bl y.l.length dl) (.slice Bt y.t.length dt) ub ue
  rw [← hcx] at X XV XK ⊢
  rw [← hcy] at Y YV YK ⊢
  have HX := Aside0.mk X
  have HY := Aside0.mk Y
  have HXV := Aside0.mk XV
  have HYV := Aside0.mk YV
  have HXK := Aside0.mk XK
  have HYK := Aside0.mk YK
  have H16 := Aside0.mk hx
  have K16 := Aside0.mk hy
  have H1 := Aside0.mk h1
  have H2 := Aside0.mk h2
  have H3 := Aside0.mk h3
  have H4 := Aside0.mk h4
  clear X Y XV YV XK YK hx hy h1 h2 h3 h4 hcx hcy
  unfold flatB
  obtain ⟨b5, e5⟩ : ∃ b, (x.v == y.v) = b := ⟨_, rfl⟩
  obtain ⟨b6, e6⟩ : ∃ b, (x.bk == y.bk && (x.bv == y.bv && x.bt == y.bt)) = b := ⟨_, rfl⟩
  rw [e5, e6]
  have E5 := Aside0.mk e5
  have E6 := Aside0.mk e6
  clear e5 e6
  cases e1 : (x.op == y.op)
  rotate_left
  cases e2 : (x.a == y.a)
  rotate_left
  cases e3 : (x.b == y.b)
  rotate_left
  cases e4 : (x.n == y.n)
  rotate_left
  cases b5
  rotate_left
  cases b6
  rotate_left
  cases e7 : (x.l == y.l)
  rotate_left
  all_goals
    simp only [Bool.true_and, Bool.false_and]
    go_enter Tryd.func36, Tryd.ntmps36
    go_wp2_with (first
      | ((with_reducible refine gate_dst (N := 2) rfl ?_); refine ev_boxI rfl _ rfl cx rfl ?_; intro g hg w1 hb hbl; have HG := Aside0.mk hg; have HB := Aside0.mk hb; have HBL := Aside0.mk hbl; clear hg hb hbl)
      | ((with_reducible refine gate_dst (N := 3) rfl ?_); refine ev_boxI rfl _ rfl cy rfl ?_; intro g' hg' w2 hb' hbl'; have n0_ := Aside0.mk (blk_below HB.out hbl'); have n1_ := Aside0.mk (below_step HBL.out hbl'); have HB2 := Aside0.mk hb'; clear HB HBL hg' hb' hbl'; have HB := n0_; have HBL := n1_; clear n0_ n1_;
         have z0 : w2.cell? ⟨g, 0, none⟩ = some (.int .u16 x.op) := (blk_cell HB.out 0).trans (by rw [List.getElem?_toArray]; exact HX.out.1);
         have z1 : w2.cell? ⟨g, 1, none⟩ = some (.int .u32 x.a) := (blk_cell HB.out 1).trans (by rw [List.getElem?_toArray]; exact HX.out.2.1);
         have z2 : w2.cell? ⟨g, 2, none⟩ = some (.int .u32 x.b) := (blk_cell HB.out 2).trans (by rw [List.getElem?_toArray]; exact HX.out.2.2.1);
         have z3 : w2.cell? ⟨g, 3, none⟩ = some (.int .u64 x.n) := (blk_cell HB.out 3).trans (by rw [List.getElem?_toArray]; exact HX.out.2.2.2.1);
         have z20 : w2.cell? ⟨g, 20, none⟩ = some (.slice Al x.l.length cl) := (blk_cell HB.out 20).trans (by rw [List.getElem?_toArray]; exact HX.out.2.2.2.2.1);
         have z21 : w2.cell? ⟨g, 21, none⟩ = some (.slice At x.t.length ct) := (blk_cell HB.out 21).trans (by rw [List.getElem?_toArray]; exact HX.out.2.2.2.2.2.1);
         have y0 : w2.cell? ⟨g', 0, none⟩ = some (.int .u16 y.op) := (blk_cell HB2.out 0).trans (by rw [List.getElem?_toArray]; exact HY.out.1);
         have y1 : w2.cell? ⟨g', 1, none⟩ = some (.int .u32 y.a) := (blk_cell HB2.out 1).trans (by rw [List.getElem?_toArray]; exact HY.out.2.1);
         have y2 : w2.cell? ⟨g', 2, none⟩ = some (.int .u32 y.b) := (blk_cell HB2.out 2).trans (by rw [List.getElem?_toArray]; exact HY.out.2.2.1);
         have y3 : w2.cell? ⟨g', 3, none⟩ = some (.int .u64 y.n) := (blk_cell HB2.out 3).trans (by rw [List.getElem?_toArray]; exact HY.out.2.2.2.1);
         have y20 : w2.cell? ⟨g', 20, none⟩ = some (.slice Bl y.l.length dl) := (blk_cell HB2.out 20).trans (by rw [List.getElem?_toArray]; exact HY.out.2.2.2.2.1);
         have y21 : w2.cell? ⟨g', 21, none⟩ = some (.slice Bt y.t.length dt) := (blk_cell HB2.out 21).trans (by rw [List.getElem?_toArray]; exact HY.out.2.2.2.2.2.1))
      | ((with_reducible refine gate_dst (N := 33) rfl ?_); refine gate_guard (by rfl) ?_; refine ev_loadB rfl 36 (.tmp 32) rfl g 4 16 cx _ _ rfl HB.out HXV.out (by rw [encs_length]; exact H16.out) Tryd.underlying36 rfl info36 ?_)
      | ((with_reducible refine gate_dst (N := 35) rfl ?_); refine gate_guard (by rfl) ?_; refine ev_loadB rfl 36 (.tmp 34) rfl g' 4 16 cy _ _ rfl HB2.out HYV.out (by rw [encs_length]; exact K16.out) Tryd.underlying36 rfl info36 ?_)
      | ((with_reducible refine gate_dst (N := 36) rfl ?_); refine gate_guard (by rfl) ?_; refine ev_eqV rfl (.tmp 33) (.tmp 35) 36 rfl x.v y.v H16.out K16.out rfl rfl ?_; rw [E5.out])
      | ((with_reducible refine gate_dst (N := 40) rfl ?_); refine gate_guard (by rfl) ?_; refine ev_loadB rfl 41 (.tmp 39) rfl g 22 3 cx _ _ rfl HB.out HXK.out rfl Tryd.underlying41 rfl info41 ?_)
      | ((with_reducible refine gate_dst (N := 42) rfl ?_); refine gate_guard (by rfl) ?_; refine ev_loadB rfl 41 (.tmp 41) rfl g' 22 3 cy _ _ rfl HB2.out HYK.out rfl Tryd.underlying41 rfl info41 ?_)
      | ((with_reducible refine gate_dst (N := 43) rfl ?_); refine gate_guard (by rfl) ?_; refine ev_eq41 rfl (.tmp 40) (.tmp 42) 41 rfl x.bk x.bv x.bt y.bk y.bv y.bt rfl rfl ?_; rw [E6.out])
      | (go_at_call 58; refine (Eq32_calls (Kd.C_below H1.out.2 HBL.out) H1.out.1 (Kd.C_below H3.out.2 HBL.out) H3.out.1).mono ?_; rintro e w' ⟨rfl, ⟨nd, rfl⟩⟩; rw [e7])
      | (go_at_call 59; refine (Eq8_calls (Kd.C_below H2.out.2 (pw_below_drewN HBL.out _)) H2.out.1 (Kd.C_below H4.out.2 (pw_below_drewN HBL.out _)) H4.out.1).mono ?_; rintro e w' ⟨rfl, ⟨nd, rfl⟩⟩))
    go_ret
    exact ⟨rfl, by repeat (first | exact HBL.out | apply pw_below_drewN)⟩
end Go.Proofs.YtobldeamemmokaaDoor.P

