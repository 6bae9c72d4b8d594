import Derived.Test.YtobldeamemmokaaDoorPx0
import Derived.Outline
/-! An instruction, as memory holds it: 27 cells; the array in line as a list of sixteen. -/
namespace Go.Proofs.YtobldeamemmokaaDoor.P
open Go.RowKit Go.Proofs.YtobldeamemmokaaDoorW.PrintWords Go.Proofs.YtobldeamemmokaaDoorW.PrintLast Go.Proofs.YtobldeamemmokaaDoorW.PrintMore
set_option linter.unusedVariables false
set_option linter.unusedSimpArgs false
structure I where
  op : Int
  a : Int
  b : Int
  n : Int
  v : List Int
  l : List Int
  t : List Int
  bk : Int
  bv : Int
  bt : Int
  body : List I
  els : List I
def zI : I := ⟨0, 0, 0, 0, List.replicate 16 0, [], [], 0, 0, 0, [], []⟩
instance : Inhabited I := ⟨zI⟩
def Kv : Kd (List Int) := Kd.arr 16 (Kd.int .u8) (by decide)
def FI (d : Kd I) : Kd I := Kd.iso (Kd.pair (Kd.int .u16) (Kd.pair (Kd.int .u32) (Kd.pair (Kd.int .u32) (Kd.pair (Kd.int .u64) (Kd.pair Kv (Kd.pair (Kd.slice 34 (Kd.int .u32)) (Kd.pair (Kd.slice 39 (Kd.int .u8)) (Kd.pair (Kd.int .u8) (Kd.pair (Kd.int .u8) (Kd.pair (Kd.int .u32) (Kd.pair (Kd.slice 43 d) (Kd.slice 43 d)))))))))))) (fun x : I => (x.op, x.a, x.b, x.n, x.v, x.l, x.t, x.bk, x.bv, x.bt, x.body, x.els))
theorem monoI : Kd.Mono FI := Kd.mono_iso _ (Kd.mono_pair (Kd.mono_const _) (Kd.mono_pair (Kd.mono_const _) (Kd.mono_pair (Kd.mono_const _) (Kd.mono_pair (Kd.mono_const _) (Kd.mono_pair (Kd.mono_const _) (Kd.mono_pair (Kd.mono_const _) (Kd.mono_pair (Kd.mono_const _) (Kd.mono_pair (Kd.mono_const _) (Kd.mono_pair (Kd.mono_const _) (Kd.mono_pair (Kd.mono_const _) (Kd.mono_pair (Kd.mono_slice 43 Kd.mono_id) (Kd.mono_slice 43 Kd.mono_id))))))))))))
theorem subI : Kd.Sub FI [34, 39, 43] := Kd.sub_iso _ (Kd.sub_pair (Kd.sub_const _ (by decide)) (Kd.sub_pair (Kd.sub_const _ (by decide)) (Kd.sub_pair (Kd.sub_const _ (by decide)) (Kd.sub_pair (Kd.sub_const _ (by decide)) (Kd.sub_pair (Kd.sub_const _ (by decide)) (Kd.sub_pair (Kd.sub_const _ (by decide)) (Kd.sub_pair (Kd.sub_const _ (by decide)) (Kd.sub_pair (Kd.sub_const _ (by decide)) (Kd.sub_pair (Kd.sub_const _ (by decide)) (Kd.sub_pair (Kd.sub_const _ (by decide)) (Kd.sub_pair (Kd.sub_slice 43 (by decide) Kd.sub_id) (Kd.sub_slice 43 (by decide) Kd.sub_id))))))))))))
theorem szI : ∀ n, (Kd.upto FI 27 [34, 39, 43] n).sz = 27 := Kd.upto_sz (fun _ => rfl)
def kI : Kd I := Kd.fix FI 27 [34, 39, 43] szI (Kd.upto_E subI)
/-- The cells of an instruction whose slices read so. -/
def cellsI (x : I) (vl vt vb ve : Value) : List Value := .int .u16 x.op :: .int .u32 x.a :: .int .u32 x.b :: .int .u64 x.n :: (encs (Value.int .u8) x.v ++ [vl, vt, .int .u8 x.bk, .int .u8 x.bv, .int .u32 x.bt, vb, ve])
theorem kI_open {w : World} {x : I} {cs : List Value} (h : kI.K w x cs) : ∃ Al cl At ct Ab cb Ae ce, cs = cellsI x (.slice Al x.l.length cl) (.slice At x.t.length ct) (.slice Ab x.body.length cb) (.slice Ae x.els.length ce) ∧ x.v.length = 16 ∧ (x.l.length ≤ cl ∧ (Kd.int .u32).C w Al x.l.length x.l) ∧ (x.t.length ≤ ct ∧ (Kd.int .u8).C w At x.t.length x.t) ∧ (x.body.length ≤ cb ∧ kI.C w Ab x.body.length x.body) ∧ x.els.length ≤ ce ∧ kI.C w Ae x.els.length x.els := by
  obtain ⟨n, h⟩ := h
  cases n with
  | zero => exact h.elim
  | succ n =>
    obtain ⟨_, _, rfl, rfl, ⟨_, _, rfl, rfl, ⟨_, _, rfl, rfl, ⟨_, _, rfl, rfl, ⟨_, _, rfl, s4, ⟨_, _, rfl, ⟨Al, cl, rfl, ll, gl⟩, ⟨_, _, rfl, ⟨At, ct, rfl, lt, gt⟩, ⟨_, _, rfl, rfl, ⟨_, _, rfl, rfl, ⟨_, _, rfl, rfl, ⟨_, _, rfl, ⟨Ab, cb, rfl, lb, gb⟩, ⟨Ae, ce, rfl, le, ge⟩⟩⟩⟩⟩⟩⟩⟩⟩⟩⟩⟩ := h
    obtain ⟨h16, rfl⟩ := Kd.arr_cells s4
    exact ⟨Al, cl, At, ct, Ab, cb, Ae, ce, rfl, h16, ⟨ll, gl⟩, ⟨lt, gt⟩, ⟨lb, Kd.fix_C gb⟩, le, Kd.fix_C ge⟩
theorem kI_openM {w : World} {base : Nat} {ok : Nat → Prop} {x : I} {cs : List Value} (h : kI.M w base ok x cs) : ∃ vl vt vb ve, cs = cellsI x vl vt vb ve ∧ x.v.length = 16 ∧ (Kd.int .u32).R 34 w base ok vl x.l ∧ (Kd.int .u8).R 39 w base ok vt x.t ∧ kI.R 43 w base ok vb x.body ∧ kI.R 43 w base ok ve x.els := by
  obtain ⟨n, h⟩ := h
  cases n with
  | zero => exact h.elim
  | succ n =>
    obtain ⟨_, _, rfl, rfl, ⟨_, _, rfl, rfl, ⟨_, _, rfl, rfl, ⟨_, _, rfl, rfl, ⟨_, _, rfl, s4, ⟨_, _, rfl, ⟨vl, rfl, gl⟩, ⟨_, _, rfl, ⟨vt, rfl, gt⟩, ⟨_, _, rfl, rfl, ⟨_, _, rfl, rfl, ⟨_, _, rfl, rfl, ⟨_, _, rfl, ⟨vb, rfl, gb⟩, ⟨ve, rfl, ge⟩⟩⟩⟩⟩⟩⟩⟩⟩⟩⟩⟩ := h
    obtain ⟨h16, rfl⟩ := Kd.arr_cells (w := w) (Kd.K_of_M _ s4)
    exact ⟨vl, vt, vb, ve, rfl, h16, gl, gt, Kd.fix_R gb, Kd.fix_R ge⟩
theorem kI_mkM (w : World) (base : Nat) (ok : Nat → Prop) (x : I) {vl vt vb ve : Value} (h16 : x.v.length = 16) (gl : (Kd.int .u32).R 34 w base ok vl x.l) (gt : (Kd.int .u8).R 39 w base ok vt x.t) (gb : kI.R 43 w base ok vb x.body) (ge : kI.R 43 w base ok ve x.els) : kI.M w base ok x (cellsI x vl vt vb ve) := by
  obtain ⟨n1, q1⟩ := Kd.fix_R_back monoI gb
  obtain ⟨n2, q2⟩ := Kd.fix_R_back monoI ge
  have r1 := Kd.upto_R_le monoI szI (show n1 ≤ max n1 n2 by omega) q1
  have r2 := Kd.upto_R_le monoI szI (show n2 ≤ max n1 n2 by omega) q2
  exact ⟨max n1 n2 + 1, ⟨[_], _, rfl, rfl, ⟨[_], _, rfl, rfl, ⟨[_], _, rfl, rfl, ⟨[_], _, rfl, rfl, ⟨encs (Value.int .u8) x.v, _, rfl, Kd.arr_of_cells h16, ⟨[_], _, rfl, ⟨vl, rfl, gl⟩, ⟨[_], _, rfl, ⟨vt, rfl, gt⟩, ⟨[_], _, rfl, rfl, ⟨[_], _, rfl, rfl, ⟨[_], _, rfl, rfl, ⟨[_], _, rfl, ⟨vb, rfl, r1⟩, ⟨ve, rfl, r2⟩⟩⟩⟩⟩⟩⟩⟩⟩⟩⟩⟩⟩
theorem cellsI_len (x : I) (h : x.v.length = 16) (vl vt vb ve : Value) : (cellsI x vl vt vb ve).length = 27 := by
  simp [cellsI, encs_length, h]
theorem cellsI_at (x : I) (h : x.v.length = 16) (vl vt vb ve : Value) : (cellsI x vl vt vb ve)[0]? = some (.int .u16 x.op) ∧ (cellsI x vl vt vb ve)[1]? = some (.int .u32 x.a) ∧ (cellsI x vl vt vb ve)[2]? = some (.int .u32 x.b) ∧ (cellsI x vl vt vb ve)[3]? = some (.int .u64 x.n) ∧
    (cellsI x vl vt vb ve)[20]? = some vl ∧ (cellsI x vl vt vb ve)[21]? = some vt ∧ (cellsI x vl vt vb ve)[22]? = some (.int .u8 x.bk) ∧ (cellsI x vl vt vb ve)[23]? = some (.int .u8 x.bv) ∧ (cellsI x vl vt vb ve)[24]? = some (.int .u32 x.bt) ∧ (cellsI x vl vt vb ve)[25]? = some vb ∧ (cellsI x vl vt vb ve)[26]? = some ve := by
  have hl : (encs (Value.int .u8) x.v).length = 16 := by rw [encs_length]; exact h
  have key : ∀ j u, [vl, vt, Value.int .u8 x.bk, .int .u8 x.bv, .int .u32 x.bt, vb, ve][j]? = some u → (cellsI x vl vt vb ve)[20 + j]? = some u := by
    intro j u hj
    have e : (cellsI x vl vt vb ve)[20 + j]? = (encs (Value.int .u8) x.v ++ [vl, vt, Value.int .u8 x.bk, .int .u8 x.bv, .int .u32 x.bt, vb, ve])[16 + j]? := by
      show (_ :: _ :: _ :: _ :: _)[20 + j]? = _
      rw [show 20 + j = (16 + j) + 1 + 1 + 1 + 1 by omega]
      rfl
    rw [e, List.getElem?_append_right (by omega), hl, Nat.add_sub_cancel_left]
    exact hj
  exact ⟨rfl, rfl, rfl, rfl, key 0 _ rfl, key 1 _ rfl, key 2 _ rfl, key 3 _ rfl, key 4 _ rfl, key 5 _ rfl, key 6 _ rfl⟩
end Go.Proofs.YtobldeamemmokaaDoor.P

/-! code.each, by hand: over whatever is called at each instruction. -/
namespace Go.Proofs.YtobldeamemmokaaDoor.P
open Go.RowKit Go.Proofs.YtobldeamemmokaaDoorW.PrintWords Go.Proofs.YtobldeamemmokaaDoorW.PrintLast Go.Proofs.YtobldeamemmokaaDoorW.PrintMore
set_option linter.unusedVariables false
set_option linter.unusedSimpArgs false
/-- A list that is gone over: how far, how deep. -/
structure P_ where
  l : List I
  at_ : Nat
  high : Int
def zP : P_ := ⟨[], 0, 0⟩
def kP (w0 : World) : Kd P_ := Kd.iso (Kd.pair (Kd.fixed (Kd.slice 43 kI) w0) (Kd.pair (Kd.int .i64) (Kd.int .i64))) (fun x : P_ => (x.l, (x.at_ : Int), x.high))
theorem kP_openM {w0 w : World} {base : Nat} {ok : Nat → Prop} {x : P_} {cs : List Value} (h : (kP w0).M w base ok x cs) : ∃ A c, cs = [.slice A x.l.length c, .int .i64 (x.at_ : Int), .int .i64 x.high] ∧ x.l.length ≤ c ∧ kI.C w0 A x.l.length x.l := by
  obtain ⟨_, _, rfl, ⟨A, c, rfl, hl, hc⟩, ⟨_, _, rfl, rfl, rfl⟩⟩ := h
  exact ⟨A, c, rfl, hl, hc⟩
theorem kP_mkM (w0 w : World) (base : Nat) (ok : Nat → Prop) (x : P_) {A : Option Addr} {c : Nat} (hl : x.l.length ≤ c) (hc : kI.C w0 A x.l.length x.l) : (kP w0).M w base ok x [.slice A x.l.length c, .int .i64 (x.at_ : Int), .int .i64 x.high] :=
  ⟨[.slice A x.l.length c], [.int .i64 (x.at_ : Int), .int .i64 x.high], rfl, ⟨A, c, rfl, hl, hc⟩, ⟨[.int .i64 (x.at_ : Int)], [.int .i64 x.high], rfl, rfl, rfl⟩⟩
theorem info100 : (Tryd.prog.info? 100).map (fun i => (i.zero, i.size, i.bytes)) = some (some (.agg #[.slice none 0 0, .int .i64 0, .int .i64 0]), 3, 40) := by kernel_rfl
section
variable {P : Program} {ops : Array Oper} {rest : List Oper} {Q : Exit → Act → World → Prop}
/-- A call of a function value, as an arm of go_wp2_with. -/
theorem goesV_ {oi : Oper} {a : Act} {w : World} (N : Option Tmp) (hd : oi.dst = N) (hg : oi.guard = none) {f : FuncId} {fn : Func} {az : Array Operand} {ts : Array TypeId} (o : Operand) (cap : Array Value) (hf : P.funcs[f]? = some fn) (hname : (fn.name == "runtime.NumGoroutine") = false) (hb : fn.body.isSome = true) (args : Array Value)
    (hop : oi.op = .call { callee := .value o, args := az, argTypes := ts }) (hov : a.eval o = .func (.func f) #[] cap) (hargs : az.map a.eval = args)
    (h : Calls P f (args ++ cap) w fun e w' => ∃ v, e = .returned v ∧ wpList P ops Q rest (a.put N v) w') : wpList P ops Q (oi :: rest) a w := by
  refine wpList_plain hg fun K hK => ?_
  have he := enters_ hf hname hb (args ++ cap) w
  have hrun : (execOp a.eval oi).run P w = .ok (.enter f (args ++ cap)) w := by
    unfold execOp
    simp [hop, resolve, Deferred.ofValue, invoke, hargs, hov, he]
  unfold Oper.wp
  rw [hrun, Oper.upon_enter]
  refine h.mono fun e w'' hh => ?_
  obtain ⟨v, rfl, hk⟩ := hh
  subst hd
  exact hK _ _ hk
end
def isBlk (o : Int) : Bool := o == 2 || o == 3 || o == 4
/-- What each does: the stack's top is the list's head. -/
def eachL {σ : Type} (step : σ → I → Int → σ × Bool) : Nat → List P_ → σ → Option σ
  | 0, _, _ => none
  | k + 1, [], s => some s
  | k + 1, p :: rs, s => if p.at_ = p.l.length then eachL step k rs s else if p.at_ < p.l.length then (if (step s (p.l.getD p.at_ zI) p.high).2 = true then (if rs.length < 1000000000000 then eachL step k
      ((if 0 < (p.l.getD p.at_ zI).body.length then [⟨(p.l.getD p.at_ zI).body, 0, (if isBlk (p.l.getD p.at_ zI).op = true then wrap64 (p.high + 1) else p.high)⟩] else []) ++
       ((if 0 < (p.l.getD p.at_ zI).els.length then [⟨(p.l.getD p.at_ zI).els, 0, (if isBlk (p.l.getD p.at_ zI).op = true then wrap64 (p.high + 1) else p.high)⟩] else []) ++ ⟨p.l, p.at_ + 1, p.high⟩ :: rs)) (step s (p.l.getD p.at_ zI) p.high).1 else none) else some (step s (p.l.getD p.at_ zI) p.high).1) else none
/-- The same, of a step that may be left open. -/
def eachO {σ : Type} (step : σ → I → Int → Option (σ × Bool)) : Nat → List P_ → σ → Option σ
  | 0, _, _ => none
  | k + 1, [], s => some s
  | k + 1, p :: rs, s => if p.at_ = p.l.length then eachO step k rs s else if p.at_ < p.l.length then (step s (p.l.getD p.at_ zI) p.high).bind fun q => (if q.2 = true then (if rs.length < 1000000000000 then eachO step k
      ((if 0 < (p.l.getD p.at_ zI).body.length then [⟨(p.l.getD p.at_ zI).body, 0, (if isBlk (p.l.getD p.at_ zI).op = true then wrap64 (p.high + 1) else p.high)⟩] else []) ++
       ((if 0 < (p.l.getD p.at_ zI).els.length then [⟨(p.l.getD p.at_ zI).els, 0, (if isBlk (p.l.getD p.at_ zI).op = true then wrap64 (p.high + 1) else p.high)⟩] else []) ++ ⟨p.l, p.at_ + 1, p.high⟩ :: rs)) q.1 else none) else some q.1) else none
theorem eachO_some {σ : Type} (step : σ → I → Int → σ × Bool) : ∀ (k : Nat) (ps : List P_) (s : σ), eachO (fun s x d => some (step s x d)) k ps s = eachL step k ps s
  | 0, _, _ => rfl
  | k + 1, [], s => rfl
  | k + 1, p :: rs, s => by
    rw [eachO, eachL]
    simp only [Option.bind_some, eachO_some step k]
theorem isBlock_calls (o : Int) (w : World) : Calls Tryd.prog 30 #[.int .u16 o] w fun e w' => e = .returned (.bool (isBlk o)) ∧ w = w' := by
  unfold isBlk
  by_cases h2 : o = 2
  · subst h2
    go_enter Tryd.func30, Tryd.ntmps30
    go_wp2
    go_ret
    exact ⟨rfl, rfl⟩
  · by_cases h3 : o = 3
    · subst h3
      go_enter Tryd.func30, Tryd.ntmps30
      go_wp2
      go_ret
      exact ⟨rfl, rfl⟩
    · have e2 : (o == 2) = false := by simpa using h2
      have e3 : (o == 3) = false := by simpa using h3
      go_enter Tryd.func30, Tryd.ntmps30
      go_wp2
      go_ret
      exact ⟨by simp [e2, e3], rfl⟩
end Go.Proofs.YtobldeamemmokaaDoor.P

