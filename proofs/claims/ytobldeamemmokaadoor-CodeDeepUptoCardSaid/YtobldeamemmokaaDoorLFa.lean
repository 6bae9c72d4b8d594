import Derived.Test.YtobldeamemmokaaDoorLC
import Derived.Test.YtobldeamemmokaaDoorKG
/-! code.May. -/
namespace Go.Proofs.YtobldeamemmokaaDoor.P
open Go.RowKit Go.Proofs.YtobldeamemmokaaDoorW.PrintWords Go.Proofs.YtobldeamemmokaaDoorW.PrintLast Go.Proofs.YtobldeamemmokaaDoorW.PrintMore
set_option linter.unusedVariables false
set_option linter.unusedSimpArgs false
/-- May an instruction be, by itself? (What is walked so far.) -/
def fitsO (K : Nat) (x : I) : Option Bool := (ops_Of.f K x.op).bind fun q => if q.2.2.1 = 1 ∧ q.2.2.2.2.2.2.2 = 0 then some (fitB x) else none
theorem fits_calls (K : Nat) (x : I) (b : Bool) (w : World) {Al At Ab Ae : Option Addr} {cl ct cb ce : Nat} (hT : Go.Proofs.YtobldeamemmokaaDoorTabs.Tab w) (h : fitsO K x = some b) (h16 : x.v.length = 16)
    (h1 : x.l.length ≤ cl ∧ (Kd.int .u32).C w Al x.l.length x.l) (h2 : x.t.length ≤ ct ∧ (Kd.int .u8).C w At x.t.length x.t) :
    Calls Tryd.prog 35 #[.agg (cellsI x (.slice Al x.l.length cl) (.slice At x.t.length ct) (.slice Ab x.body.length cb) (.slice Ae x.els.length ce)).toArray] w fun e w' => e = .returned (.bool b) ∧ Below w.heap.size w w' := by
  obtain ⟨⟨r1, r2, r3, r4, r5, r6, r7, r8⟩, ho, h⟩ := Option.bind_eq_some_iff.1 h
  by_cases hc : r3 = 1 ∧ r8 = 0
  · have h' : (if r3 = 1 ∧ r8 = 0 then some (fitB x) else none) = some b := h
    rw [if_pos hc] at h'
    obtain rfl := Option.some.inj h'
    obtain ⟨rfl, rfl⟩ := hc
    exact fits_blk K x w hT ho h16 h1 h2
  · have h' : (if r3 = 1 ∧ r8 = 0 then some (fitB x) else none) = some b := h
    rw [if_neg hc] at h'
    cases h'
def stepM (K : Nat) (ok : Bool) (x : I) (_ : Int) : Option (Bool × Bool) := if ok = true then (fitsO K x).map (fun b => (b, b)) else some (false, false)
set_option maxHeartbeats 4000000 in
theorem may1_calls (K : Nat) (W w0 : World) (gn : Nat) (ok : Bool) (x : I) (deep : Int) (q : Bool × Bool) (ad : Addr) (cs : List Value) (hT : Go.Proofs.YtobldeamemmokaaDoorTabs.Tab w0) (hq : stepM K ok x deep = some q) (hB : Below w0.heap.size w0 W) (hg : W.heap[gn]? = some (oBool ok)) (hn : w0.heap.size ≤ gn) (hK : kI.K W x cs) (hc : ∀ j u, cs[j]? = some u → W.cell? (ad.add j) = some u) :
    Calls Tryd.prog 34 #[.pointer (some ad), .int .i64 deep, .pointer (some ⟨gn, 0, none⟩)] W fun e W' => e = .returned (.bool q.2) ∧ W'.heap[gn]? = some (oBool q.1) ∧ KeepBut W W' gn none ∧ Below w0.heap.size w0 W' := by
  have c0 : W.cell? ⟨gn, 0, none⟩ = some (.bool ok) := (blk_cell hg 0).trans rfl
  have f0 := blk_frozen hg 0
  obtain ⟨Al, cl, At, ct, Ab, cb, Ae, ce, rfl, h16, h1, h2, _, _⟩ := kI_open hK
  have hl := cellsI_len x h16 (.slice Al x.l.length cl) (.slice At x.t.length ct) (.slice Ab x.body.length cb) (.slice Ae x.els.length ce)
  obtain ⟨b, o, s⟩ := ad
  cases s with
  | some s =>
    have y0 : W.cell? ((⟨b, o, some s⟩ : Addr).add 0) = some (.int .u16 x.op) := hc 0 _ rfl
    rw [Addr.add_zero'] at y0
    unfold World.cell? at y0
    split at y0
    · simp at y0
    · cases y0
  | none =>
  have hr : W.rangeAt b o (cellsI x (.slice Al x.l.length cl) (.slice At x.t.length ct) (.slice Ab x.body.length cb) (.slice Ae x.els.length ce)) := fun j u hj => by
    have := hc j u hj
    rwa [Addr.add_mid] at this
  have hi43 : (Tryd.prog.info? 43).map (·.size) = some (cellsI x (.slice Al x.l.length cl) (.slice At x.t.length ct) (.slice Ab x.body.length cb) (.slice Ae x.els.length ce)).length := by rw [info43]; exact congrArg some hl.symm
  have HG := Aside0.mk hg
  have HB := Aside0.mk hB
  have HN := Aside0.mk hn
  have RX := Aside0.mk hr
  have HI := Aside0.mk hi43
  cases ok
  · obtain rfl : (false, false) = q := Option.some.inj hq
    clear hg hB hn hK hc hr h16 hi43 hl hq
    go_enter Tryd.func34, Tryd.ntmps34
    go_wp2
    go_ret
    exact ⟨rfl, blk_put HG.out 0 _ rfl, (KeepBut.refl W gn none).set_ 0 _, HB.out.setCell HN.out _⟩
  · obtain ⟨b2, hf, hq⟩ := Option.map_eq_some_iff.1 (show (fitsO K x).map (fun b => (b, b)) = some q from hq)
    subst hq
    have HF := Aside0.mk (fun (W1 : World) (hW : Below w0.heap.size w0 W1) (hW2 : Below W.heap.size W W1) => fits_calls K x b2 W1 (Ab := Ab) (Ae := Ae) (cb := cb) (ce := ce) (hT.below hW) hf h16 ⟨h1.1, Kd.C_below h1.2 hW2⟩ ⟨h2.1, Kd.C_below h2.2 hW2⟩)
    clear hg hB hn hK hc hr h16 hi43 hl h1 h2 hf
    go_enter Tryd.func34, Tryd.ntmps34
    go_wp2_with (first
      | ((with_reducible refine gate_dst (N := 10) rfl ?_); refine gate_guard (by rfl) ?_; refine wpList_load_mid rfl 43 (.tmp 9) rfl b o rfl _ _ RX.out Tryd.underlying43 rfl HI.out ?_)
      | (go_at_call 35; refine (HF.out _ (by repeat (first | exact HB.out | apply pw_below_drewN | apply below_drew1)) (by repeat (first | exact Below.refl _ _ | apply pw_below_drewN | apply below_drew1))).mono ?_; rintro e w1 ⟨rfl, hb⟩; have HG1 := Aside0.mk (blk_below HG.out hb); have HBW := Aside0.mk hb; have c0 : w1.cell? ⟨gn, 0, none⟩ = some (.bool true) := (blk_cell HG1.out 0).trans rfl; have f0 := blk_frozen HG1.out 0; clear hb))
    go_ret
    exact ⟨rfl, blk_put HG1.out 0 _ rfl, (KeepBut.of_below HBW.out gn none).set_ 0 _, (HB.out.trans (HBW.out.mono HB.out.size)).setCell HN.out _⟩
def mayO (K k : Nat) (l : List I) (d : Int) : Option Bool := if min d 1001 ≤ 1000 then eachO (stepM K) k [⟨l, 0, 0⟩] true else some false
set_option maxHeartbeats 4000000 in
theorem May_calls (K k k2 : Nat) (A : Option Addr) (c : Nat) (l : List I) (d : Int) (r : Bool) (w : World) (hT : Go.Proofs.YtobldeamemmokaaDoorTabs.Tab w) (hc : l.length ≤ c) (hl : kI.C w A l.length l) (hd : eachL sDepth k [⟨l, 0, 0⟩] 0 = some d) (h : mayO K k2 l d = some r) :
    Calls Tryd.prog 19 #[.slice A l.length c] w fun e w' => e = .returned (.bool r) ∧ Below w.heap.size w w' := by
  have HT := Aside0.mk hT
  have HC := Aside0.mk hc
  have HL := Aside0.mk hl
  have HD := Aside0.mk hd
  unfold mayO at h
  clear hT hc hl hd
  by_cases hm : min d 1001 ≤ 1000
  · rw [if_pos hm] at h
    have e1 : decide (min d 1001 ≤ 1000) = true := decide_eq_true hm
    have H := Aside0.mk h
    clear h hm
    go_enter Tryd.func19, Tryd.ntmps19
    go_wp2_with (first
      | (go_at_call 21; refine (Depth_calls k A c l w HC.out HL.out HD.out).mono ?_; rintro e w1 ⟨rfl, hb⟩; have HB := Aside0.mk hb; clear hb)
      | (go_at_call 33; refine (eachO_calls 34 Tryd.f34 Tryd.func34 rfl rfl (stepM K) w1.heap.size oBool w (fun W s x deep q ad cs hq h1 h2 h3 h4 => may1_calls K W w _ s x deep q ad cs HT.out hq h1 h2 HB.out.size h3 h4) k2 A c l true r _ ?b ?g HC.out HL.out H.out).mono ?_; (case b => repeat (first | exact HB.out | refine below_alloc ?_ _ | exact (HB.out.alloc HB.out.size _).setCell HB.out.size _ | apply pw_below_drewN | apply below_drew1)); (case g => first | exact blk_put (blk_new _ _) 0 _ rfl | exact blk_new _ _); rintro e w' ⟨rfl, hg, hk, hb⟩; have c0 : w'.cell? ⟨w1.heap.size, 0, none⟩ = some (.bool r) := (blk_cell hg 0).trans rfl; have HB2 := Aside0.mk hb; clear hg hk hb))
    go_ret
    exact ⟨rfl, HB2.out⟩
  · rw [if_neg hm] at h
    obtain rfl := Option.some.inj h
    have e1 : decide (min d 1001 ≤ 1000) = false := decide_eq_false hm
    clear h hm
    go_enter Tryd.func19, Tryd.ntmps19
    go_wp2_with (first
      | (go_at_call 21; refine (Depth_calls k A c l w HC.out HL.out HD.out).mono ?_; rintro e w1 ⟨rfl, hb⟩; have HB := Aside0.mk hb; clear hb))
    go_ret
    exact ⟨rfl, by repeat (first | exact HB.out | refine below_alloc ?_ _ | exact (HB.out.alloc HB.out.size _).setCell HB.out.size _ | apply pw_below_drewN | apply below_drew1)⟩
end Go.Proofs.YtobldeamemmokaaDoor.P

/-! code.behind (of a block without a type). -/
namespace Go.Proofs.YtobldeamemmokaaDoor.P
open Go.RowKit Go.Proofs.YtobldeamemmokaaDoorW.PrintWords Go.Proofs.YtobldeamemmokaaDoorW.PrintLast Go.Proofs.YtobldeamemmokaaDoorW.PrintMore
set_option linter.unusedVariables false
set_option linter.unusedSimpArgs false
/-- What stands behind an instruction's number. (What is walked so far.) -/
def behO (K : Nat) (x : I) : Option (List Int) := (ops_Of.f K x.op).bind fun q => if q.2.2.1 = 1 ∧ x.bk = 0 then some [64] else none
set_option maxHeartbeats 8000000 in
set_option maxRecDepth 100000 in
theorem behind_calls (K : Nat) (x : I) (bs : List Int) (w : World) (vl vt vb ve : Value) (hT : Go.Proofs.YtobldeamemmokaaDoorTabs.Tab w) (h : behO K x = some bs) (h16 : x.v.length = 16) :
    Calls Tryd.prog 29 #[.agg (cellsI x vl vt vb ve).toArray] w fun e w' => ∃ v, e = .returned v ∧ (Kd.int .u8).R 5 w' w.heap.size (fun _ => True) v bs ∧ Below w.heap.size w w' := by
  obtain ⟨⟨r1, r2, r3, r4, r5, r6, r7, r8⟩, ho, h⟩ := Option.bind_eq_some_iff.1 h
  have h' : (if r3 = 1 ∧ x.bk = 0 then some [64] else none) = some bs := h
  by_cases hc : r3 = 1 ∧ x.bk = 0
  rotate_left
  · rw [if_neg hc] at h'
    cases h'
  rw [if_pos hc] at h'
  obtain rfl := Option.some.inj h'
  obtain ⟨rfl, hbk⟩ := hc
  clear h h'
  obtain ⟨cx, hcx⟩ : ∃ cx, cx = cellsI x vl vt vb ve := ⟨_, rfl⟩
  have X := cellsI_at x h16 vl vt vb ve
  rw [← hcx] at X ⊢
  have HX := Aside0.mk X
  have HTB := Aside0.mk hT
  have HO := Aside0.mk ho
  clear X hT ho hcx
  go_enter Tryd.func29, Tryd.ntmps29
  go_wp2_with (first
    | ((with_reducible refine gate_dst (N := 1) rfl ?_); refine ev_boxI rfl _ rfl cx rfl ?_; intro g1 hg1 w1 hb hbl; have B1 := Aside0.mk hb; have L1 := Aside0.mk (below_step (by repeat (first | exact Below.refl _ _ | apply pw_below_drewN | apply below_drew1)) hbl); have G1 := Aside0.mk (blk_lt hb); have z0 : w1.cell? ⟨g1, 0, none⟩ = some (.int .u16 x.op) := (blk_cell hb 0).trans (by rw [List.getElem?_toArray]; exact HX.out.1); clear hg1 hb hbl)
    | (go_at_call 42; refine (ops_Of.calls K x.op r1 r2 1 r4 r5 r6 r7 r8 _ (HTB.out.below (by repeat (first | exact L1.out | apply pw_below_drewN | apply below_drew1))) HO.out).mono ?_; rintro e w2 ⟨v3, v4, rfl, h3, h4, hb⟩; obtain ⟨A3, c3, rfl⟩ := Kd.R_slice h3; obtain ⟨A4, c4, rfl⟩ := Kd.R_slice h4; have n0_ := Aside0.mk (blk_below B1.out hb); have n1_ := Aside0.mk (below_step L1.out hb); have n2_ := Aside0.mk (blk_lt n0_.out); clear B1 L1 G1 h3 h4 hb; have B1 := n0_; have L1 := n1_; have G1 := n2_; clear n0_ n1_ n2_)
    | ((with_reducible refine gate_dst (N := 3) rfl ?_); refine ev_alloc rfl 79 rfl _ zero79 ?_; intro g3 hg3 w3 hb hbl; have n0_ := Aside0.mk (blk_below B1.out hbl); have n1_ := Aside0.mk (below_step L1.out hbl); have n2_ := Aside0.mk hb; have n3_ := Aside0.mk (by have := G1.out; have := L1.out.size; rw [hg3]; omega : g1 ≠ g3 ∧ w.heap.size ≤ g3); clear B1 L1 hg3 hb hbl; have B1 := n0_; have L1 := n1_; have B3 := n2_; have N13 := n3_; clear n0_ n1_ n2_ n3_)
    | ((with_reducible refine gate_store (t := 79) (p := 3) (v := .tmp 16) rfl ?_); refine ev_storeB rfl 79 (.tmp 3) (.tmp 16) rfl g3 #[.int .u16 r1, .string r2, .int .u8 1, .slice A3 r4.length c3, .slice A4 r5.length c4, .int .i64 r6, .bool r7] rfl rfl 79 _ B3.out size79 rfl (one7 _ _ _ _ _ _ _ _ _ _ _) ?_; intro w4 hb hoth hsz hbel; have n0_ := Aside0.mk ((hoth _ N13.out.1).trans B1.out); have n1_ := Aside0.mk (hbel _ _ N13.out.2 L1.out); have n2_ := Aside0.mk hb; have c32 : w4.cell? ⟨g3, 2, none⟩ = some (.int .u8 1) := (blk_cell hb 2).trans rfl; have z22 : w4.cell? ⟨g1, 22, none⟩ = some (.int .u8 0) := (blk_cell n0_.out 22).trans (by rw [List.getElem?_toArray, ← hbk]; exact HX.out.2.2.2.2.2.2.1); clear B1 L1 B3 hb hoth hsz hbel; have B1 := n0_; have L1 := n1_; have B3 := n2_; clear n0_ n1_ n2_)
    | ((with_reducible refine gate_dst (N := 27) rfl ?_); refine Kd.R_lit (Kd.int .u8) _ 5 ?hg (N := 27) ?hd (xs := ([64] : List Int)) (inner := [.int .u8 64]) (ok := fun _ => True) (okp := fun _ => True) ?hr ?hp (fun _ hk => hk) trivial (Below.refl _ _) (Nat.le_refl _) (by simp) ?_; (case hd => rfl); (case hg => rfl); (case hr => first | (go_simp; done) | (go_simp; rfl)); (case hp => exact (Reps.one (show Kd.M (Kd.int .u8) _ _ _ 64 [.int .u8 64] from rfl) (Reps.none _ _))); intro v27 w5 ho4 hb hg_ hnew_; clear hg_ hnew_; have RV := Aside0.mk (Kd.R_lower ho4 (below_size (by repeat (first | exact L1.out | apply pw_below_drewN | apply below_drew1)))); have n1_ := Aside0.mk (below_step (by repeat (first | exact L1.out | apply pw_below_drewN | apply below_drew1)) hb); clear L1 ho4 hb; have L1 := n1_; clear n1_))
  go_ret
  exact ⟨_, rfl, by (with_reducible repeat (first | apply Kd.R_alloc | apply Kd.R_drewN | apply Kd.R_drew)); exact RV.out, by repeat (first | exact L1.out | apply pw_below_drewN | apply below_drew1)⟩
end Go.Proofs.YtobldeamemmokaaDoor.P

/-! code.Put: what its walk uses. -/
namespace Go.Proofs.YtobldeamemmokaaDoor.P
open Go.RowKit Go.Proofs.YtobldeamemmokaaDoorW.PrintWords Go.Proofs.YtobldeamemmokaaDoorW.PrintLast Go.Proofs.YtobldeamemmokaaDoorW.PrintMore
set_option linter.unusedVariables false
set_option linter.unusedSimpArgs false
theorem ev_cut1 {ops : Array Oper} {rest : List Oper} {o : Oper} {a : Act} {w : World} {Q : Exit → Act → World → Prop} (hg : o.guard = none) (x : Operand) (ho : o.op = .slice 22 x (some (.const (.int .i64 1))) none none) (A : Option Addr) (n c : Nat) (hx : a.eval x = .slice A n c) (hn : 1 ≤ n) (hc : n ≤ c)
    (h : wpList Tryd.prog ops Q rest (a.put o.dst (.slice (if c = 1 then A else A.map (·.add 27)) (n - 1) (c - 1))) w) : wpList Tryd.prog ops Q (o :: rest) a w := by
  refine Kd.event_run hg ?_ h
  have hel : Tryd.prog.elem 22 = 43 := by simp [Program.elem, Tryd.underlying22]
  have hu : Tryd.prog.underlying 22 = some (.slice (Tryd.prog.elem 22)) := by rw [hel]; exact Tryd.underlying22
  have hr := run_slice_l w 22 A n c hu .i64 1 (by omega) (by omega)
  have hs : (sizeOf (Tryd.prog.elem 22)).run Tryd.prog w = .ok 27 w := by
    rw [hel]
    cases hq : Tryd.prog.info? 43 with
    | none => have := info43; simp [hq] at this
    | some i =>
      have hi : i.size = 27 := by have := info43; simpa [hq] using this
      simp [sizeOf, typeInfo, hq, hi]
  have hr2 : (Instr.slice 22 (.slice A n c) (some (.int .i64 1)) none none).run Tryd.prog w = .ok (.slice (if c = 1 then A else A.map (·.add 27)) (n - 1) (c - 1)) w := by
    rw [hr, hs, Result.andThen_ok]
    rfl
  unfold execOp
  have hk : a.eval (.const (.int .i64 1)) = .int .i64 1 := rfl
  simp only [ho, hx, hk, Option.map_some, Option.map_none, Sem.run_bind]
  rw [run_sliceAt_slice (P := Tryd.prog) (w := w) 22 _ _ _ _ hu, hr2]
  rfl
theorem ev_cut1g {ops : Array Oper} {rest : List Oper} {o : Oper} {a : Act} {w : World} {Q : Exit → Act → World → Prop} (hg : o.guard = none) (x : Operand) (ho : o.op = .slice 22 x (some (.const (.int .i64 1))) none none) (A : Option Addr) (n c : Nat) (hx : a.eval x = .slice A n c) (hn : 1 ≤ n) (hc : n ≤ c)
    (h : ∀ A', A' = (if c = 1 then A else A.map (·.add 27)) → wpList Tryd.prog ops Q rest (a.put o.dst (.slice A' (n - 1) (c - 1))) w) : wpList Tryd.prog ops Q (o :: rest) a w := ev_cut1 hg x ho A n c hx hn hc (h _ rfl)
theorem R_none {α : Type} {d : Kd α} {e : Nat} {W w1 : World} {base : Nat} {ok : Nat → Prop} {v : Value} {xs : List α} (h : d.R e W base ok v xs) (hg : W.grownBy w1 none) : d.R e w1 base ok v xs := Kd.R_step h (fun k _ hlt => hg.block k hlt (by simp))
/-- A row of the call's own, where a row of another element type grows. -/
theorem R_apart {α β : Type} {d : Kd α} {d' : Kd β} {e e' : Nat} {W w1 : World} {base base' : Nat} {ok' : Nat → Prop} {v v' : Value} {xs : List α} {ys : List β} (hg : W.grownBy w1 v'.ownBlock) (hE : d.E = []) (hne : e ≠ e') (h : d.R e W base (fun _ => True) v xs) (h' : d'.R e' W base' ok' v' ys) : d.R e w1 base (fun _ => True) v xs := by
  refine Kd.R_mono (Kd.R_step (Kd.R_bound h) (fun k hk hlt => hg.block k hlt (fun e2 => ?_))) (fun _ _ => trivial)
  obtain ⟨_, _, _, q, hq, cells, hc⟩ := hk
  rw [hE] at hq
  rcases List.mem_singleton.1 hq with rfl
  obtain ⟨_, inner, ho, _⟩ := h'
  obtain ⟨cells', hc'⟩ := own_typed ho k e2.symm
  rw [hc] at hc'
  simp only [Option.some.injEq, Obj.cells.injEq] at hc'
  exact hne hc'.2.1
theorem blk_apart {β : Type} {d' : Kd β} {e e' : Nat} {W w1 : World} {base' : Nat} {ok' : Nat → Prop} {v' : Value} {ys : List β} {g : Nat} {cs : Array Value} (hg : W.grownBy w1 v'.ownBlock) (hne : e ≠ e') (h : W.heap[g]? = some (.cells cs e (0, 0))) (h' : d'.R e' W base' ok' v' ys) : w1.heap[g]? = some (.cells cs e (0, 0)) := by
  refine (hg.block g (blk_lt h) (fun e2 => ?_)).trans h
  obtain ⟨_, inner, ho, _⟩ := h'
  obtain ⟨cells', hc'⟩ := own_typed ho g e2.symm
  rw [h] at hc'
  simp only [Option.some.injEq, Obj.cells.injEq] at hc'
  exact hne hc'.2.1
/-- A cell of a block of another element type is written. -/
theorem R_set {α : Type} {d : Kd α} {e e' : Nat} {W : World} {base g j : Nat} {v u : Value} {xs : List α} {cs : Array Value} (hE : d.E = []) (hne : e ≠ e') (h : d.R e W base (fun _ => True) v xs) (hb : W.heap[g]? = some (.cells cs e' (0, 0))) : d.R e (W.setCell ⟨g, j, none⟩ u) base (fun _ => True) v xs := by
  refine Kd.R_mono (Kd.R_step (Kd.R_bound h) (fun k hk hlt => Below.heap_setCell W _ u k (fun e2 => ?_))) (fun _ _ => trivial)
  obtain ⟨_, _, _, q, hq, cells, hc⟩ := hk
  rw [hE] at hq
  rcases List.mem_singleton.1 hq with rfl
  subst e2
  rw [hb] at hc
  simp only [Option.some.injEq, Obj.cells.injEq] at hc
  exact hne hc.2.1.symm
theorem kPr_set {w0 W : World} {base g m cap : Nat} {qs : List Pr} {p p' : Pr} {A B A' B' : Option Addr} {c d c' d' : Nat} (HR : (kPr w0).R 58 W base (fun _ => True) (.slice (some ⟨g, 0, none⟩) (m + 1) cap) (qs ++ [p])) (hm : m = qs.length)
    (q0 : W.cell? ⟨g, m * 2, none⟩ = some (.slice A p.a.length c)) (q1 : W.cell? ⟨g, m * 2 + 1, none⟩ = some (.slice B p.b.length d)) (j : Nat) (u : Value)
    (hu : (j = 0 ∧ u = .slice A' p'.a.length c' ∧ B' = B ∧ d' = d ∧ p'.b = p.b) ∨ (j = 1 ∧ u = .slice B' p'.b.length d' ∧ A' = A ∧ c' = c ∧ p'.a = p.a))
    (ha : p'.a.length ≤ c' ∧ kI.C w0 A' p'.a.length p'.a) (hb : p'.b.length ≤ d' ∧ kI.C w0 B' p'.b.length p'.b) :
    (kPr w0).R 58 (W.setCell ⟨g, m * 2 + j, none⟩ u) base (fun _ => True) (.slice (some ⟨g, 0, none⟩) (m + 1) cap) (qs ++ [p']) := by
  have hcc : ∀ i v, ([.slice A p.a.length c, .slice B p.b.length d] : List Value)[i]? = some v → W.cell? ⟨g, ((m : Int)).toNat * (kPr w0).sz + i, none⟩ = some v := by
    intro i v hi
    rw [Int.toNat_natCast]
    match i, hi with
    | 0, hi => obtain rfl := Option.some.inj hi; exact q0
    | 1, hi => obtain rfl := Option.some.inj hi; exact q1
  have e : (qs ++ [p]).set ((m : Int)).toNat p' = qs ++ [p'] := by
    rw [Int.toNat_natCast, hm, List.set_append_right _ _ (Nat.le_refl _), Nat.sub_self]
    rfl
  have hM := kPr_mkM w0 W base (fun _ => False) p' ha.1 ha.2 hb.1 hb.2
  rcases hu with ⟨rfl, rfl, rfl, rfl, hpb⟩ | ⟨rfl, rfl, rfl, rfl, hpa⟩
  · have h := (Kd.R_seg (i := (m : Int)) (j := 0) (seg := [.slice A' p'.a.length c']) (x' := p') (okp := fun _ => False) HR (by omega) (by omega) rfl hcc (show 0 + 1 ≤ 2 by decide) (by rw [hpb] at hM; exact hM) (fun _ hk => hk.elim)).1
    rw [e] at h
    exact h
  · have h := (Kd.R_seg (i := (m : Int)) (j := 1) (seg := [.slice B' p'.b.length d']) (x' := p') (okp := fun _ => False) HR (by omega) (by omega) rfl hcc (show 1 + 1 ≤ 2 by decide) (by rw [hpa] at hM; exact hM) (fun _ hk => hk.elim)).1
    rw [e] at h
    exact h
theorem kPr_move2 {w0 W : World} {base g m cap : Nat} {qs : List Pr} {p : Pr} {A B : Option Addr} {c d : Nat} {cs : Array Value} (HR : (kPr w0).R 58 W base (fun _ => True) (.slice (some ⟨g, 0, none⟩) (m + 1) cap) (qs ++ [p])) (hm : m = qs.length) (hg : W.heap[g]? = some (.cells cs 58 (0, 0)))
    (q0 : W.cell? ⟨g, m * 2, none⟩ = some (.slice A p.a.length c)) (q1 : W.cell? ⟨g, m * 2 + 1, none⟩ = some (.slice B p.b.length d)) (hb : p.b.length ≤ d ∧ kI.C w0 B p.b.length p.b) :
    (kPr w0).R 58 ((W.setCell ⟨g, m * 2, none⟩ (.slice B p.b.length d)).setCell ⟨g, m * 2 + 1, none⟩ (.slice none 0 0)) base (fun _ => True) (.slice (some ⟨g, 0, none⟩) (m + 1) cap) (qs ++ [⟨p.b, []⟩]) := by
  have h1 := kPr_set (p' := ⟨p.b, p.b⟩) (A' := B) (c' := d) (B' := B) (d' := d) HR hm q0 q1 0 (.slice B p.b.length d) (.inl ⟨rfl, rfl, rfl, rfl, rfl⟩) hb hb
  have e0 := (blk_cell hg (m * 2)).symm.trans q0
  have e1 := (blk_cell hg (m * 2 + 1)).symm.trans q1
  have hs := blk_set hg (m * 2) (.slice B p.b.length d)
  have r0 : (W.setCell ⟨g, m * 2, none⟩ (.slice B p.b.length d)).cell? ⟨g, m * 2, none⟩ = some (.slice B p.b.length d) := by
    rw [blk_cell hs]
    have := (Array.getElem?_eq_some_iff.1 e0).1
    simp [Array.getElem?_setIfInBounds, this]
  have r1 : (W.setCell ⟨g, m * 2, none⟩ (.slice B p.b.length d)).cell? ⟨g, m * 2 + 1, none⟩ = some (.slice B p.b.length d) := by
    rw [blk_cell hs]
    rw [Array.getElem?_setIfInBounds, if_neg (by omega)]
    exact e1
  exact kPr_set (p := ⟨p.b, p.b⟩) (p' := ⟨p.b, []⟩) (A' := B) (c' := d) (B' := none) (d' := 0) h1 hm r0 r1 1 (.slice none 0 0) (.inr ⟨rfl, rfl, rfl, rfl, rfl⟩) hb ⟨Nat.le_refl _, Kd.C_nil _ _⟩
theorem info58 : (Tryd.prog.info? 58).map (fun i => (i.zero, i.size, i.bytes)) = some (some (.agg #[.slice none 0 0, .slice none 0 0]), 2, 48) := by kernel_rfl
/-- What Put lays: the stack's top is the list's head. -/
def putL (K : Nat) : Nat → List Pr → List Int → Option (List Int)
  | 0, _, _ => none
  | k + 1, [], b => some b
  | k + 1, p :: rs, b => if b.length < 1000000000000 then (if rs.length < 1000000000000 then (if 0 < p.a.length then (code_number.f K (p.a.getD 0 zI).op).bind fun n => (behO K (p.a.getD 0 zI)).bind fun h => (if n.length + h.length < 1000000000000 then
      putL K k ((if isBlk (p.a.getD 0 zI).op = true then [⟨(p.a.getD 0 zI).body, (p.a.getD 0 zI).els⟩] else []) ++ ⟨p.a.drop 1, p.b⟩ :: rs) ((b ++ n) ++ h) else none)
      else if 0 < p.b.length then putL K k (⟨p.b, []⟩ :: rs) (b ++ [5]) else putL K k rs (b ++ [11])) else none) else none
end Go.Proofs.YtobldeamemmokaaDoor.P

