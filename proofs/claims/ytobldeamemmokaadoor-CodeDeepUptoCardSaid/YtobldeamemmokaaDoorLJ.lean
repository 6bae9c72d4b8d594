import Derived.Test.YtobldeamemmokaaDoorLI
/-! code.parse: what its walk uses. -/
namespace Go.Proofs.YtobldeamemmokaaDoor.P
open Go.RowKit Go.Proofs.YtobldeamemmokaaDoorW.PrintWords Go.Proofs.YtobldeamemmokaaDoorW.PrintLast Go.Proofs.YtobldeamemmokaaDoorW.PrintMore
set_option linter.unusedVariables false
set_option linter.unusedSimpArgs false
theorem zero65 : (Tryd.prog.info? 65).map (fun i => i.zero) = some (some (.agg #[.slice none 0 0, .int .i64 0, .int .i64 0, .bool false])) := by kernel_rfl
theorem size65 : (Tryd.prog.info? 65).map (·.size) = some 4 := by kernel_rfl
theorem built89 : Tryd.prog.built 89 [] = some (openC zI (.slice none 0 0) (.slice none 0 0) (.slice none 0 0) (.slice none 0 0) (.slice none 0 0) false).toArray := by kernel_rfl
theorem info89 : (Tryd.prog.info? 89).map (fun i => (i.zero, i.size)) = some (some (.agg (openC zI (.slice none 0 0) (.slice none 0 0) (.slice none 0 0) (.slice none 0 0) (.slice none 0 0) false).toArray), 29) := by kernel_rfl
section
variable {ops : Array Oper} {rest : List Oper} {o : Oper} {a : Act} {w : World} {Q : Exit → Act → World → Prop}
theorem ev_box (hg : o.guard = none) (t : TypeId) (x : Operand) (ho : o.op = .box t x) (cs : List Value) (hx : a.eval x = .agg cs.toArray)
    (h : ∀ g, g = w.heap.size → ∀ w1, w1.heap[g]? = some (.cells cs.toArray t (0, 0)) → Below w.heap.size w w1 → wpList Tryd.prog ops Q rest (a.put o.dst (.pointer (some ⟨g, 0, none⟩))) w1) : wpList Tryd.prog ops Q (o :: rest) a w := by
  refine Kd.event_run hg ?_ (h _ rfl _ (blk_new w _) (below_alloc (Below.refl _ _) _))
  unfold execOp
  simp only [ho, hx]
  rfl
theorem ev_built (hg : o.guard = none) (t : TypeId) (ho : o.op = .build t #[]) (cs : Array Value) (hb : Tryd.prog.built t [] = some cs)
    (h : wpList Tryd.prog ops Q rest (a.put o.dst (.agg cs)) w) : wpList Tryd.prog ops Q (o :: rest) a w := by
  refine Kd.event_run hg ?_ h
  unfold execOp
  simp only [ho, List.map_toArray, List.map_nil, Sem.run_bind, run_build w t _ _ hb, Result.andThen_ok]
  rfl
theorem run_litG (t e s : Nat) (x : Operand) (ho : o.op = .buildSlice t 1 #[(0, x)]) (cs : List Value) (hcs : cs.length = s) (hx : a.eval x = .agg cs.toArray) (hu : Tryd.prog.underlying t = some (.slice e)) (z : Value) (hinfo : (Tryd.prog.info? e).map (fun i => (i.zero, i.size)) = some (some z, s)) (hs0 : 0 < s) (hs1 : s ≤ 1000) :
    (execOp a.eval o).run Tryd.prog w = .ok (.value (.slice (some ⟨w.heap.size, 0, none⟩) 1 1)) (w.alloc (.cells cs.toArray e)) := by
  obtain ⟨ie, hie, hz⟩ := Option.map_eq_some_iff.1 hinfo
  simp only [Prod.mk.injEq] at hz
  obtain ⟨hz, hsz⟩ := hz
  have hv : ∀ v ∈ [Value.agg cs.toArray], v.cells.size = s := by
    intro v hv
    rcases List.mem_singleton.1 hv with rfl
    simp [Value.cells, hcs]
  have hf := Great.fill_whole (s := s) hs0 [Value.agg cs.toArray] ((Array.range (1 * s)).map (z.cells[· % z.cells.size]!)) hv (by simp)
  have hr := run_buildSlice (P := Tryd.prog) w t e 1 #[(0, Value.agg cs.toArray)] cs.toArray ie _ hu hie hz (by rw [hsz]; omega) (by rw [hsz]; omega) (by rw [hsz]; exact hf.trans (by simp [Value.cells]))
  unfold execOp
  simp only [ho, List.map_toArray, List.map_cons, List.map_nil, hx, Sem.run_bind, hr, Result.andThen_ok]
  rfl
theorem ev_litG (hg : o.guard = none) (t e s : Nat) (x : Operand) (ho : o.op = .buildSlice t 1 #[(0, x)]) (cs : List Value) (hcs : cs.length = s) (hx : a.eval x = .agg cs.toArray) (hu : Tryd.prog.underlying t = some (.slice e)) (z : Value) (hinfo : (Tryd.prog.info? e).map (fun i => (i.zero, i.size)) = some (some z, s)) (hs0 : 0 < s) (hs1 : s ≤ 1000)
    (h : ∀ g, g = w.heap.size → ∀ w1, w1.heap[g]? = some (.cells cs.toArray e (0, 0)) → Below w.heap.size w w1 → wpList Tryd.prog ops Q rest (a.put o.dst (.slice (some ⟨g, 0, none⟩) 1 1)) w1) : wpList Tryd.prog ops Q (o :: rest) a w :=
  Kd.event_run hg (run_litG t e s x ho cs hcs hx hu z hinfo hs0 hs1) (h _ rfl _ (blk_new w _) (below_alloc (Below.refl _ _) _))
end
theorem openC_set (x : I) (h : x.v.length = 16) (vl vt vb ve v u : Value) (e : Bool) : (openC x vl vt vb ve v e).toArray.setIfInBounds 27 u = (openC x vl vt vb ve u e).toArray := by
  have hl := cellsI_len x h vl vt vb ve
  simp only [List.setIfInBounds_toArray, openC]
  rw [List.set_append_right _ _ (by omega), hl]
  rfl
def i32c : I := { zI with op := 65, n := 4294967295 }
end Go.Proofs.YtobldeamemmokaaDoor.P

/-! code.parse, of the bytes 41 7f 0b. -/
namespace Go.Proofs.YtobldeamemmokaaDoor.P
open Go.RowKit Go.Proofs.YtobldeamemmokaaDoorW.PrintWords Go.Proofs.YtobldeamemmokaaDoorW.PrintLast Go.Proofs.YtobldeamemmokaaDoorW.PrintMore
set_option linter.unusedVariables false
set_option linter.unusedSimpArgs false
def code_parse.T22 : Bool × List (List Nat × List Nat) := (true, [([], []), ([0], [0]), ([0], [0]), ([0, 0, 1, 2], [0])])
def code_parse.B22 : List Nat := [0, 1, 1, 7]
theorem code_parse.tab22 : rtab .any (opsOf Tryd.f31 22) = code_parse.T22 := by kernel_rfl
theorem code_parse.bits22 : waitsOk code_parse.T22.2 code_parse.B22 = true := by kernel_rfl
def code_parse.T25 : Bool × List (List Nat × List Nat) := (true, [([], []), ([], []), ([1], [1]), ([2], [2]), ([3], [3]), ([], []), ([5], [5]), ([4, 6], [4, 6]), ([0, 0, 1, 2, 3, 4, 5, 6, 7], [0]), ([8, 0, 1, 2, 3, 4, 5, 6, 7], [8]), ([9, 7, 7, 0, 1, 2, 3, 4, 5, 6, 7], [7, 9])])
def code_parse.B25 : List Nat := [0, 0, 2, 6, 14, 0, 32, 126, 255, 511, 1023]
theorem code_parse.tab25 : rtab .any (opsOf Tryd.f31 25) = code_parse.T25 := by kernel_rfl
theorem code_parse.bits25 : waitsOk code_parse.T25.2 code_parse.B25 = true := by kernel_rfl
theorem zero4 : (Tryd.prog.info? 4).map (fun i => i.zero) = some (some (.bool false)) := by kernel_rfl
/-- What parse holds at the head of its loop. -/
def PS (w W : World) (gg gr gs : Nat) (A : Option Addr) (c : Nat) (at_ : Int) (vL : Value) (l : List I) : Prop :=
  W.heap[gg]? = some (oGot (.slice none 0 0) 0 0 false) ∧ W.heap[gr]? = some (oRd A c [65, 127, 11] at_ false) ∧ W.heap[gs]? = some (.cells (openC zI (.slice none 0 0) (.slice none 0 0) (.slice none 0 0) (.slice none 0 0) vL false).toArray 89 (0, 0)) ∧
  kI.R 43 W w.heap.size (fun k => k ≠ gg ∧ k ≠ gr ∧ k ≠ gs) vL l ∧ Below w.heap.size w W
theorem PS.below {w W W1 : World} {gg gr gs : Nat} {A : Option Addr} {c : Nat} {at_ : Int} {vL : Value} {l : List I} (h : PS w W gg gr gs A c at_ vL l) (hb : Below W.heap.size W W1) : PS w W1 gg gr gs A c at_ vL l :=
  ⟨(hb.block _ (Array.getElem?_eq_some_iff.1 h.1).1).trans h.1, (hb.block _ (Array.getElem?_eq_some_iff.1 h.2.1).1).trans h.2.1, blk_below h.2.2.1 hb, Kd.R_below h.2.2.2.1 hb, below_step h.2.2.2.2 hb⟩
theorem PS.drewN {w W : World} {gg gr gs : Nat} {A : Option Addr} {c : Nat} {at_ : Int} {vL : Value} {l : List I} (h : PS w W gg gr gs A c at_ vL l) (m : Nat) : PS w (W.drewN m) gg gr gs A c at_ vL l := h.below (pw_below_drewN (Below.refl _ _) m)
theorem PS.fill {w W : World} {gg gr gs g c5 : Nat} {A : Option Addr} {c : Nat} {at_ : Int} (h : PS w W gg gr gs A c at_ (.slice (some ⟨g, 0, none⟩) 1 c5) [zI]) :
    W.there g 0 (cellsI i32c (.slice none 0 0) (.slice none 0 0) (.slice none 0 0) (.slice none 0 0)).toArray.size ∧ PS w (W.setCells g 0 (cellsI i32c (.slice none 0 0) (.slice none 0 0) (.slice none 0 0) (.slice none 0 0)).toArray.toList) gg gr gs A c at_ (.slice (some ⟨g, 0, none⟩) 1 c5) [i32c] := by
  obtain ⟨hne1, hne2, hne3⟩ := h.2.2.2.1.1 g rfl
  obtain ⟨cs, hcl, hM, hcc, hff⟩ := Kd.R_elem h.2.2.2.1 zI (0 : Int) (by decide) (by decide)
  obtain ⟨g', c', e, hbase, hlt, cells, hcells⟩ := Kd.R_form h.2.2.2.1 (by decide)
  obtain ⟨rfl, _⟩ : g = g' ∧ True := by
    injection e with e1 e2 e3
    injection e1 with e1
    injection e1 with e1
    exact ⟨e1, trivial⟩
  have hR := (Kd.R_seg (i := (0 : Int)) (j := 0) (seg := cellsI i32c (.slice none 0 0) (.slice none 0 0) (.slice none 0 0) (.slice none 0 0)) (x' := i32c) (okp := fun _ => False) h.2.2.2.1 (by decide) (by decide) hcl hcc (show 0 + 27 ≤ 27 by decide) (by
    have hl : cs.length = 27 := hcl
    have hx := kI_mkM W w.heap.size (fun _ => False) i32c (vl := .slice none 0 0) (vt := .slice none 0 0) (vb := .slice none 0 0) (ve := .slice none 0 0) rfl (Kd.R_nil _ _ _ _ _) (Kd.R_nil _ _ _ _ _) (Kd.R_nil _ _ _ _ _) (Kd.R_nil _ _ _ _ _)
    have e2 : cs.drop (0 + (cellsI i32c (.slice none 0 0) (.slice none 0 0) (.slice none 0 0) (.slice none 0 0)).length) = [] := List.drop_eq_nil_of_le (by rw [hl]; exact Nat.le_refl _)
    rw [e2, List.take_zero, List.nil_append, List.append_nil]
    exact hx) (fun _ hk => hk.elim)).1
  obtain ⟨q1, q2, q3, q4⟩ := blk_setCells (cellsI i32c (.slice none 0 0) (.slice none 0 0) (.slice none 0 0) (.slice none 0 0)) 0 W cells hcells
  refine ⟨fun j hj => ⟨?_, hff j⟩, ?_⟩
  · have hj2 : j < cs.length := by rw [show cs.length = 27 from hcl]; exact hj
    have h9 := hcc j _ (List.getElem?_eq_getElem hj2)
    have h8 : W.cell? ⟨g, 0 + j, none⟩ = some cs[j] := h9
    rw [h8]
    rfl
  · exact ⟨(q2 _ (Ne.symm hne1)).trans h.1, (q2 _ (Ne.symm hne2)).trans h.2.1, (q2 _ (Ne.symm hne3)).trans h.2.2.1, hR, q4 _ _ hbase h.2.2.2.2⟩
theorem PS.other {w W W1 : World} {gg gr gs k : Nat} {A : Option Addr} {c : Nat} {at_ : Int} (h : PS w W gg gr gs A c at_ (.slice none 0 0) []) (hk : gg ≠ k ∧ gr ≠ k ∧ gs ≠ k) (hkw : w.heap.size ≤ k) (hoth : ∀ i, i ≠ k → W1.heap[i]? = W.heap[i]?) (hbel : ∀ B (w0 : World), B ≤ k → Below B w0 W → Below B w0 W1) : PS w W1 gg gr gs A c at_ (.slice none 0 0) [] :=
  ⟨(hoth _ hk.1).trans h.1, (hoth _ hk.2.1).trans h.2.1, (hoth _ hk.2.2).trans h.2.2.1, Kd.R_nil _ _ _ _ _, hbel _ _ hkw h.2.2.2.2⟩
set_option maxHeartbeats 8000000 in
set_option maxRecDepth 100000 in
theorem parse_calls (K k0 : Nat) (A : Option Addr) (c : Nat) (w : World) {r2 : ByteArray} {r4 r5 : List Int} {r6 : Int} {r7 : Bool} (hT : Go.Proofs.YtobldeamemmokaaDoorTabs.Tab w) (hc : 3 ≤ c) (hC : (Kd.int .u8).C w A 3 [65, 127, 11]) (ho : ops_Of.f K 65 = some (65, r2, 20, r4, r5, r6, r7, 0)) (hs : leb_S.f k0 [65, 127, 11] 1 32 = some (-1, 2, 0)) :
    Calls Tryd.prog 31 #[.slice A 3 c, .int .i64 0] w fun e w' => ∃ vL, e = .returned (.tuple #[.agg #[vL, .int .i64 3, .int .i64 0, .bool false], .bool true]) ∧ kI.R 43 w' w.heap.size (fun _ => True) vL [i32c] ∧ Below w.heap.size w w' := by
  have HT := Aside0.mk hT
  have HC := Aside0.mk hC
  have HO := Aside0.mk ho
  have HS := Aside0.mk hs
  obtain ⟨ad, rfl, x0⟩ := Kd.at_int hC 0 (by omega) (by omega)
  have x1 := (Kd.at_int hC 1 (by omega) (by omega))
  obtain ⟨ad1, e1, x1⟩ := x1
  obtain rfl := Option.some.inj e1
  have x2 := (Kd.at_int hC 2 (by omega) (by omega))
  obtain ⟨ad2, e2, x2⟩ := x2
  obtain rfl := Option.some.inj e2
  have X0 := Aside0.mk x0
  have X2 := Aside0.mk x2
  have HCC := Aside0.mk hc
  have HB := Aside0.mk (Below.refl w.heap.size w)
  clear hT hC ho hs x0 x1 x2 e1 e2
  go_enter Tryd.func31, Tryd.ntmps31
  go_wp2_with (first
    | ((with_reducible refine gate_dst (N := 4) rfl ?_); refine ev_alloc rfl 65 rfl _ zero65 ?_; intro gg hgg w1 hb hbl; have GG := Aside0.mk hb; have N1 := Aside0.mk (by rw [hgg]; exact Nat.le_refl _ : w.heap.size ≤ gg); have n0_ := Aside0.mk (below_step HB.out hbl); clear HB hgg hb hbl; have HB := n0_; clear n0_)
    | ((with_reducible refine gate_dst (N := 14) rfl ?_); refine ev_box rfl 87 _ rfl [.slice (some ad) 3 c, .int .i64 0, .bool false] rfl ?_; intro gr hgr w2 hb hbl; have GR := Aside0.mk hb; have n1_ := Aside0.mk (blk_below GG.out hbl); have N2 : Aside0 (gg < gr ∧ w.heap.size ≤ gr) := ⟨by have h1 := blk_lt GG.out; have h2 := HB.out.size; have h3 : w1.heap.size ≤ gr := by { rw [hgr]; exact Nat.le_refl _ }; omega⟩; have n0_ := Aside0.mk (below_step HB.out hbl); clear HB GG hgr hb hbl; have HB := n0_; have GG := n1_; clear n0_ n1_)
    | ((with_reducible refine gate_dst (N := 15) rfl ?_); refine ev_built rfl 89 rfl _ built89 ?_)
    | ((with_reducible refine gate_dst (N := 16) rfl ?_); refine ev_litG rfl 90 89 29 (.tmp 15) rfl (openC zI (.slice none 0 0) (.slice none 0 0) (.slice none 0 0) (.slice none 0 0) (.slice none 0 0) false) (openC_len _ rfl _ _ _ _ _ _) rfl Tryd.underlying90 _ info89 (by decide) (by decide) ?_; intro gs hgs w3 hb hbl; have GS := Aside0.mk hb; have n1_ := Aside0.mk (blk_below GG.out hbl); have n2_ := Aside0.mk (blk_below GR.out hbl); have N3 : Aside0 (gr < gs ∧ w.heap.size ≤ gs) := ⟨by have h1 := blk_lt GR.out; have h2 := HB.out.size; have h3 : w2.heap.size ≤ gs := by { rw [hgs]; exact Nat.le_refl _ }; omega⟩; have n0_ := Aside0.mk (below_step HB.out hbl); clear HB GG GR hgs hb hbl; have HB := n0_; have GG := n1_; have GR := n2_; clear n0_ n1_ n2_))
  go_loopg [5, 7] 2 (fun kq v5 v7 w' => ∃ (at_ : Int) (vL : Value) (l : List I), v7 = .slice (some ⟨gs, 0, none⟩) 1 1 ∧ Aside0 (PS w w' gg gr gs (some ad) c at_ vL l) ∧ ((kq = 2 ∧ at_ = 0 ∧ l = [] ∧ vL = .slice none 0 0) ∨ (kq = 1 ∧ at_ = 2 ∧ l = [i32c])))
  case atStart => exact ⟨0, .slice none 0 0, [], rfl, ⟨⟨GG.out, GR.out, GS.out, Kd.R_nil _ _ _ _ _, HB.out⟩⟩, .inl ⟨rfl, rfl, rfl, rfl⟩⟩
  case round =>
    clear GG GR GS HB
    obtain ⟨at_, vL, l, rfl, HP, hcase⟩ := hrel
    have r1 : wr.cell? ⟨gr, 1, none⟩ = some (.int .i64 at_) := (blk_cell HP.out.2.1 1).trans rfl
    have r2_ : wr.cell? ⟨gr, 2, none⟩ = some (.bool false) := (blk_cell HP.out.2.1 2).trans rfl
    have fr1 := blk_frozen HP.out.2.1 1
    have y0 : wr.cell? (ad.add 0) = some (.int .u8 65) := (HP.out.2.2.2.2.cell (World.block_lt_of_cell? w _ X0.out)).trans X0.out
    have y2 : wr.cell? (ad.add 2) = some (.int .u8 11) := (HP.out.2.2.2.2.cell (World.block_lt_of_cell? w _ X2.out)).trans X2.out
    have y0' : wr.cell? ad = some (.int .u8 65) := by rw [Addr.add_zero'] at y0; exact y0
    have y2' : wr.cell? ⟨ad.block, ad.off + 2, none⟩ = some (.int .u8 11) := y2
    rcases hcase with ⟨rfl, rfl, rfl, rfl⟩ | ⟨rfl, rfl, rfl⟩
    rotate_left
    · -- the end byte
      obtain ⟨AL, cAL, rfl⟩ := Kd.R_slice HP.out.2.2.2.1
      go_wp2_with (first
        | ((with_reducible refine gate_store (t := 3) (p := 51) (v := .tmp 49) rfl ?_); refine ev_storeC rfl 3 (.tmp 51) (.tmp 49) rfl gr 1 (.int .i64 3) rfl rfl 87 #[.slice (some ad) 3 c, .int .i64 2, .bool false] #[.slice (some ad) 3 c, .int .i64 3, .bool false] (by first | exact HP.out.2.1 | exact (HP.out.drewN _).2.1) (show 1 < 3 by decide) size3 rfl rfl ?_; intro w4 hb hoth hsz hbel; have GR := Aside0.mk hb; have GG := Aside0.mk ((hoth gg (Nat.ne_of_lt N2.out.1)).trans HP.out.1); have GS := Aside0.mk ((hoth gs (Nat.ne_of_gt N3.out.1)).trans HP.out.2.2.1); have RL := Aside0.mk (Kd.R_move HP.out.2.2.2.1 (fun k hk => hoth k hk.2.1)); have HB := Aside0.mk (hbel _ _ N2.out.2 HP.out.2.2.2.2); clear hb hoth hsz hbel)
        | (go_at_call 47; refine (close1_calls w _ gg gs 1 zI (.slice none 0 0) (.slice none 0 0) (.slice none 0 0) (.slice none 0 0) (.slice AL [i32c].length cAL) (.slice none 0 0) false 0 0 false rfl ?one rfl GG.out GS.out (Nat.le_refl _) HB.out N1.out).mono ?_; (case one => intro u hu; rcases List.mem_append.1 hu with hu | hu; exact kI.K_one (w := w) (x := zI) (kI_mk w zI (Al := none) (At := none) (Ab := none) (Ae := none) (cl := 0) (ct := 0) (cb := 0) (ce := 0) rfl ⟨Nat.le_refl _, Kd.C_nil _ _⟩ ⟨Nat.le_refl _, Kd.C_nil _ _⟩ ⟨Nat.le_refl _, Kd.C_nil _ _⟩ ⟨Nat.le_refl _, Kd.C_nil _ _⟩) u hu; rcases List.mem_cons.1 hu with rfl | hu; rfl; rcases List.mem_cons.1 hu with rfl | hu; rfl; cases hu); rintro e w5 ⟨rfl, h1, h2, h3⟩; have n0_ := Aside0.mk h1; have n1_ := Aside0.mk ((h2.2 gr (blk_lt GR.out) (Nat.ne_of_gt N2.out.1) (by simp)).trans GR.out); have n2_ := Aside0.mk (Kd.R_keep RL.out h2 (fun k hk => hk.1)); have r1' : w5.cell? ⟨gr, 1, none⟩ = some (.int .i64 3) := (blk_cell n1_.out 1).trans rfl; have g0 : w5.cell? ⟨gg, 1, none⟩ = some (.int .i64 0) := (blk_cell h1 1).trans rfl; have fg := blk_frozen h1 1; clear GG GR GS RL HB h1 h2; have GG := n0_; have GR := n1_; have RL := n2_; have HB := Aside0.mk h3; clear n0_ n1_ n2_ h3)
        | ((with_reducible refine gate_store (t := 3) (p := 63) (v := .tmp 62) rfl ?_); refine ev_storeC rfl 3 (.tmp 63) (.tmp 62) rfl gg 1 (.int .i64 3) rfl rfl 65 #[.slice AL [i32c].length cAL, .int .i64 0, .int .i64 0, .bool false] #[.slice AL [i32c].length cAL, .int .i64 3, .int .i64 0, .bool false] (by first | exact GG.out | exact blk_drewN GG.out _) (show 1 < 4 by decide) size3 rfl rfl ?_; intro w6 hb hoth hsz hbel; have n1_ := Aside0.mk (Kd.R_move RL.out (fun k hk => hoth k hk.1)); have n2_ := Aside0.mk (hbel _ _ N1.out (by repeat (first | exact HB.out | apply pw_below_drewN | apply below_drew1))); clear GG RL HB; have GG := Aside0.mk hb; have RL := n1_; have HB := n2_; clear n1_ n2_ hb hoth hsz hbel)
        | ((with_reducible refine gate_dst (N := 64) rfl ?_); refine wpList_load_mid rfl 65 (.tmp 4) rfl gg 0 rfl [.slice AL [i32c].length cAL, .int .i64 3, .int .i64 0, .bool false] _ (rng_blk (n := 4) (cs := [.slice AL [i32c].length cAL, .int .i64 3, .int .i64 0, .bool false]) GG.out rfl rfl) Tryd.underlying65 rfl size65 ?_)
        | ((with_reducible refine gate_store (t := 65) (p := 4) (v := .tmp 64) rfl ?_); refine ev_storeB rfl 65 (.tmp 4) (.tmp 64) rfl gg #[.slice AL [i32c].length cAL, .int .i64 3, .int .i64 0, .bool false] rfl rfl 65 _ GG.out size65 rfl (all_oneCell_toArray (cs := [.slice AL [i32c].length cAL, .int .i64 3, .int .i64 0, .bool false]) (by intro v hv; simp only [List.mem_cons, List.not_mem_nil, or_false] at hv; rcases hv with rfl | rfl | rfl | rfl <;> rfl)) ?_; intro w7 hb hoth hsz hbel; have n1_ := Aside0.mk (Kd.R_move RL.out (fun k hk => hoth k hk.1)); have n2_ := Aside0.mk (hbel _ _ N1.out HB.out); clear GG RL HB; have GG := Aside0.mk hb; have RL := n1_; have HB := n2_; clear n1_ n2_ hb hoth hsz hbel))
      refine bodyPost_ret (results_ct rfl _ _ gg 65 #[.slice AL [i32c].length cAL, .int .i64 3, .int .i64 0, .bool false] (0, 0) _ rfl GG.out Tryd.underlying65 rfl size65) rfl ?_
      exact ⟨_, rfl, Kd.R_mono RL.out (fun _ _ => trivial), HB.out⟩
    · -- the constant
      have OP := Aside0.mk (fun (W : World) (h9 : PS w W gg gr gs (some ad) c 0 (.slice none 0 0) []) => op_calls K w W gr (some ad) c [65, 127, 11] 0 65 HT.out h9.2.2.2.2 h9.2.1 N2.out.2 HC.out HCC.out (by decide) (by decide) rfl (by decide) (by decide) HO.out)
      have IMM := Aside0.mk (fun (W : World) (gx : Nat) (h9 : PS w W gg gr gs (some ad) c 1 (.slice none 0 0) []) (hx : W.heap[gx]? = some (.cells (cellsI { zI with op := 65 } (.slice none 0 0) (.slice none 0 0) (.slice none 0 0) (.slice none 0 0)).toArray 43 (0, 0))) (hw : w.heap.size ≤ gx) (hne : gr ≠ gx) => imm32_calls k0 w W gr gx (some ad) c [65, 127, 11] 1 (-1) 2 { zI with op := 65 } (.slice none 0 0) (.slice none 0 0) (.slice none 0 0) (.slice none 0 0) h9.2.2.2.2 h9.2.1 N2.out.2 HC.out HCC.out rfl hx hw hne HS.out 4294967295 (by decide))
      go_wp2_with (first
        | (go_at_call 48; refine (OP.out _ (by first | exact HP.out | exact HP.out.drewN _)).mono ?_; rintro e w4 ⟨A3, c3, A4, c4, rfl, hS⟩; have n0_ : Aside0 (PS w w4 gg gr gs (some ad) c 1 (.slice none 0 0) []) := ⟨⟨(hS.2.1.2 gg (Array.getElem?_eq_some_iff.1 HP.out.1).1 (Nat.ne_of_lt N2.out.1) (by simp)).trans HP.out.1, hS.1, (hS.2.1.2 gs (blk_lt HP.out.2.2.1) (Nat.ne_of_gt N3.out.1) (by simp)).trans HP.out.2.2.1, Kd.R_nil _ _ _ _ _, hS.2.2.1⟩⟩; clear HP hS; have HP := n0_; clear n0_)
        | ((with_reducible refine gate_dst (N := 9) rfl ?_); refine ev_alloc rfl 79 rfl _ zero79 ?_; intro g9 hg9 w5 hb hbl; have B9 := Aside0.mk hb; have N9 : Aside0 (gs < g9 ∧ w.heap.size ≤ g9) := ⟨by have h1 := blk_lt HP.out.2.2.1; have h3 : w4.heap.size ≤ g9 := by { rw [hg9]; exact Nat.le_refl _ }; have := N3.out; omega⟩; have n0_ := Aside0.mk (HP.out.below hbl); clear HP hg9 hb hbl; have HP := n0_; clear n0_)
        | ((with_reducible refine gate_store (t := 79) (p := 9) (v := .tmp 111) rfl ?_); refine ev_storeB rfl 79 (.tmp 9) (.tmp 111) rfl g9 (infoC 65 r2 20 (.slice A3 r4.length c3) (.slice A4 r5.length c4) r6 r7).toArray rfl rfl 79 _ B9.out size79 rfl (one7 _ _ _ _ _ _ _ _ _ _ _) ?_; intro w6 hb hoth hsz hbel; have n0_ := Aside0.mk (HP.out.other (by have := N9.out; have := N2.out; have := N3.out; omega) N9.out.2 hoth hbel); clear HP B9; have HP := n0_; have B9 := Aside0.mk hb; have c90 : w6.cell? ⟨g9, 0, none⟩ = some (.int .u16 65) := (blk_cell hb 0).trans rfl; clear n0_ hb hoth hsz hbel)
        | ((with_reducible refine gate_dst (N := 114) rfl ?_); refine ev_build43 rfl (.tmp 113) rfl 65 rfl ?_)
        | ((with_reducible refine gate_dst (N := 10) rfl ?_); refine ev_alloc rfl 43 rfl _ zero43 ?_; intro g10 hg10 w7 hb hbl; have B10 := Aside0.mk hb; have n1_ := Aside0.mk (blk_below B9.out hbl); have N10 : Aside0 (g9 < g10) := ⟨by have h1 := blk_lt B9.out; have h3 : w6.heap.size ≤ g10 := by { rw [hg10]; exact Nat.le_refl _ }; omega⟩; have n0_ := Aside0.mk (HP.out.below hbl); clear HP B9 hg10 hb hbl; have HP := n0_; have B9 := n1_; clear n0_ n1_)
        | ((with_reducible refine gate_store (t := 43) (p := 10) (v := .tmp 114) rfl ?_); refine ev_storeB rfl 43 (.tmp 10) (.tmp 114) rfl g10 (cellsI { zI with op := 65 } (.slice none 0 0) (.slice none 0 0) (.slice none 0 0) (.slice none 0 0)).toArray rfl rfl 43 _ B10.out (by rw [List.size_toArray]; exact info43) rfl (all_oneCell_toArray (kI.K_one (w := w) (x := { zI with op := 65 }) (kI_mk w { zI with op := 65 } (Al := none) (At := none) (Ab := none) (Ae := none) (cl := 0) (ct := 0) (cb := 0) (ce := 0) rfl ⟨Nat.le_refl _, Kd.C_nil _ _⟩ ⟨Nat.le_refl _, Kd.C_nil _ _⟩ ⟨Nat.le_refl _, Kd.C_nil _ _⟩ ⟨Nat.le_refl _, Kd.C_nil _ _⟩))) ?_; intro w8 hb hoth hsz hbel; have n0_ := Aside0.mk (HP.out.other (by have := N10.out; have := N9.out; have := N2.out; have := N3.out; omega) (by have := N10.out; have := N9.out; omega) hoth hbel); have n1_ := Aside0.mk ((hoth _ (Nat.ne_of_lt N10.out)).trans B9.out); clear HP B9 B10; have HP := n0_; have B9 := n1_; have B10 := Aside0.mk hb; have c92 : w8.cell? ⟨g9, 2, none⟩ = some (.int .u8 20) := (blk_cell B9.out 2).trans rfl; clear n0_ n1_ hb hoth hsz hbel)
        | (go_at_call 50; refine (IMM.out _ g10 HP.out B10.out (by have := N10.out; have := N9.out; omega) (by have := N10.out; have := N9.out; have := N3.out; omega)).mono ?_; rintro e w9 ⟨rfl, h1, h2, h3, h4⟩; have n0_ : Aside0 (PS w w9 gg gr gs (some ad) c 2 (.slice none 0 0) []) := ⟨⟨(h3.2 gg (Array.getElem?_eq_some_iff.1 HP.out.1).1 (Nat.ne_of_lt N2.out.1) (by have := N10.out; have := N9.out; have := N3.out; have := N2.out; intro e; have := Option.some.inj e; omega)).trans HP.out.1, h1, (h3.2 gs (blk_lt HP.out.2.2.1) (Nat.ne_of_gt N3.out.1) (by have := N10.out; have := N9.out; intro e; have := Option.some.inj e; omega)).trans HP.out.2.2.1, Kd.R_nil _ _ _ _ _, h4⟩⟩; have n1_ := Aside0.mk ((h3.2 g9 (blk_lt B9.out) (by have := N9.out; have := N3.out; omega) (by have := N10.out; intro e; have := Option.some.inj e; omega)).trans B9.out); clear HP B9 B10; have HP := n0_; have B9 := n1_; have B10 := Aside0.mk h2; have c92 : w9.cell? ⟨g9, 2, none⟩ = some (.int .u8 20) := (blk_cell B9.out 2).trans rfl; have cg3 : w9.cell? ⟨gg, 3, none⟩ = some (.bool false) := (blk_cell HP.out.1 3).trans rfl; clear n0_ n1_ h1 h2 h3 h4)
        | ((with_reducible refine gate_store (t := 4) (p := 149) (v := .tmp 148) rfl ?_); refine ev_storeC rfl 4 (.tmp 149) (.tmp 148) rfl gg 3 (.bool false) rfl rfl 65 #[.slice none 0 0, .int .i64 0, .int .i64 0, .bool false] #[.slice none 0 0, .int .i64 0, .int .i64 0, .bool false] HP.out.1 (show 3 < 4 by decide) size4 rfl rfl ?_; intro w10 hb hoth hsz hbel; have n0_ : Aside0 (PS w w10 gg gr gs (some ad) c 2 (.slice none 0 0) []) := ⟨⟨hb, (hoth _ (Nat.ne_of_gt N2.out.1)).trans HP.out.2.1, (hoth _ (by have := N2.out; have := N3.out; omega)).trans HP.out.2.2.1, Kd.R_nil _ _ _ _ _, hbel _ _ N1.out HP.out.2.2.2.2⟩⟩; have n1_ := Aside0.mk ((hoth _ (by have := N10.out; have := N9.out; have := N2.out; have := N3.out; omega)).trans B10.out); clear HP B9 B10; have HP := n0_; have B10 := n1_; clear n0_ n1_ hb hoth hsz hbel))
      have n0_ := Aside0.mk (PS.below HP.out (below_drew1 (Below.refl _ _)))
      have n1_ := Aside0.mk (blk_drew B10.out)
      clear HP B10
      have HP := n0_
      have B10 := n1_
      clear n0_ n1_
      refine start_ (n := 4) (S := fun w' => True) (ds := []) #[false,false,false,false] (by kernel_rfl) rfl rfl trivial (fun hHeld => ?_); refine with_tabW code_parse.tab22 code_parse.bits22 (fun HT_ HW_ => ?_)
      refine one_ (i := 0) (N := some 150) #[true,false,false,false] rfl rfl (one_of HT_.out (by kernel_rfl)) (by decide) (fun K hK => ?_)
      refine alloc_step (by rfl) 4 rfl _ zero4 ?_
      intro gb hgb w11 hb hbl
      have n0_ := Aside0.mk (HP.out.below hbl)
      have n1_ := Aside0.mk (blk_below B10.out hbl)
      have NB : Aside0 (g10 < gb) := ⟨by rw [hgb]; exact blk_lt B10.out⟩
      clear HP B10
      have HP := n0_
      have B10 := n1_
      have FB := Aside0.mk hb
      clear n0_ n1_ hgb hb hbl
      refine hK.out _ _ trivial (fun hHeld => ?_)
      clear hK K
      refine norm_ (a' := ?_) ?_ ?_
      rotate_left
      · show Act.put _ (some 150) _ = _
        simp only [Act.put, List.setIfInBounds_toArray, List.set_cons_zero, List.set_cons_succ, i64_w, i32_w]
        rfl
      refine join_ (σ := Unit) 1 #[true,true,true,false] (fun _ => []) (fun _ w' => ∃ bb, w'.heap[gb]? = some (.cells #[.bool bb] 4 (0, 0)) ∧ PS w w' gg gr gs (some ad) c 2 (.slice none 0 0) [] ∧ w'.heap[g10]? = some (.cells (cellsI i32c (.slice none 0 0) (.slice none 0 0) (.slice none 0 0) (.slice none 0 0)).toArray 43 (0, 0))) ?_ ?_
      rotate_left
      · intro hCont
        refine two_ (i := 1) (j := 2) (Ni := none) (Nj := none) #[true,true,false,false] #[true,false,true,false] rfl rfl rfl rfl (two_of HT_.out (by kernel_rfl)) (by decide) (by decide) (fun K hK => ?_) (fun K hK => ?_)
        · refine storeC_step (by rfl) 4 (.tmp 150) (.const (.bool true)) rfl gb 0 (.bool true) rfl rfl 4 #[.bool false] #[.bool true] FB.out (show 0 < 1 by decide) size4 rfl rfl ?_
          intro wk hb hoth hsz hbel
          have n0_ := Aside0.mk (HP.out.other (by have := NB.out; have := N10.out; have := N9.out; have := N2.out; have := N3.out; omega) (by have := NB.out; have := N10.out; have := N9.out; omega) hoth hbel)
          have n1_ := Aside0.mk ((hoth _ (Nat.ne_of_lt NB.out)).trans B10.out)
          clear HP B10 FB
          have HP := n0_
          have B10 := n1_
          have FB := Aside0.mk hb
          clear n0_ n1_ hb hoth hsz hbel
          refine hK.out _ _ trivial (fun hHeld => ?_)
          clear hK K
          refine one_ (i := 2) (N := none) #[true,true,true,false] rfl rfl (one_of HT_.out (by kernel_rfl)) (by decide) (fun K hK => ?_)
          refine storeC_step (by rfl) 4 (.tmp 150) (.const (.bool false)) rfl gb 0 (.bool false) rfl rfl 4 #[.bool true] #[.bool false] FB.out (show 0 < 1 by decide) size4 rfl rfl ?_
          intro wk hb hoth hsz hbel
          have n0_ := Aside0.mk (HP.out.other (by have := NB.out; have := N10.out; have := N9.out; have := N2.out; have := N3.out; omega) (by have := NB.out; have := N10.out; have := N9.out; omega) hoth hbel)
          have n1_ := Aside0.mk ((hoth _ (Nat.ne_of_lt NB.out)).trans B10.out)
          clear HP B10 FB
          have HP := n0_
          have B10 := n1_
          have FB := Aside0.mk hb
          clear n0_ n1_ hb hoth hsz hbel
          refine hK.out _ _ trivial (fun hHeld => ?_)
          clear hK K
          exact norm_ (by first | rfl | simp only [putAll, Act.put]) (hCont () _ ⟨_, FB.out, HP.out, B10.out⟩)
        · refine storeC_step (by rfl) 4 (.tmp 150) (.const (.bool false)) rfl gb 0 (.bool false) rfl rfl 4 #[.bool false] #[.bool false] FB.out (show 0 < 1 by decide) size4 rfl rfl ?_
          intro wk hb hoth hsz hbel
          have n0_ := Aside0.mk (HP.out.other (by have := NB.out; have := N10.out; have := N9.out; have := N2.out; have := N3.out; omega) (by have := NB.out; have := N10.out; have := N9.out; omega) hoth hbel)
          have n1_ := Aside0.mk ((hoth _ (Nat.ne_of_lt NB.out)).trans B10.out)
          clear HP B10 FB
          have HP := n0_
          have B10 := n1_
          have FB := Aside0.mk hb
          clear n0_ n1_ hb hoth hsz hbel
          refine hK.out _ _ trivial (fun hHeld => ?_)
          clear hK K
          refine one_ (i := 1) (N := none) #[true,true,true,false] rfl rfl (one_of HT_.out (by kernel_rfl)) (by decide) (fun K hK => ?_)
          refine storeC_step (by rfl) 4 (.tmp 150) (.const (.bool true)) rfl gb 0 (.bool true) rfl rfl 4 #[.bool false] #[.bool true] FB.out (show 0 < 1 by decide) size4 rfl rfl ?_
          intro wk hb hoth hsz hbel
          have n0_ := Aside0.mk (HP.out.other (by have := NB.out; have := N10.out; have := N9.out; have := N2.out; have := N3.out; omega) (by have := NB.out; have := N10.out; have := N9.out; omega) hoth hbel)
          have n1_ := Aside0.mk ((hoth _ (Nat.ne_of_lt NB.out)).trans B10.out)
          clear HP B10 FB
          have HP := n0_
          have B10 := n1_
          have FB := Aside0.mk hb
          clear n0_ n1_ hb hoth hsz hbel
          refine hK.out _ _ trivial (fun hHeld => ?_)
          clear hK K
          exact norm_ (by first | rfl | simp only [putAll, Act.put]) (hCont () _ ⟨_, FB.out, HP.out, B10.out⟩)
      rintro _ w12 ⟨bb, h1, h2, h3⟩
      refine norm_ (a' := ?_) ?_ ?_
      rotate_left
      · simp only [putAll, Act.put, List.setIfInBounds_toArray, List.set_cons_zero, List.set_cons_succ]
        rfl
      clear HP B10 FB
      have FB := Aside0.mk h1
      have HP := Aside0.mk h2
      have B10 := Aside0.mk h3
      have c0 : w12.cell? ⟨gb, 0, none⟩ = some (.bool bb) := (blk_cell h1 0).trans rfl
      clear h1 h2 h3
      refine one_ (i := 3) (N := some 151) #[true,true,true,true] rfl rfl (one_of HT_.out (by kernel_rfl)) (by decide) (fun K hK => ?_)
      refine value_ (w1 := ?_) (v := ?_) (by rfl) rfl ?_ ?_
      rotate_left 2
      · go_simp
        constructor
        · rfl
        · rfl
      refine hK.out _ _ trivial (fun hHeld => ?_)
      clear hK K
      refine norm_ (a' := ?_) ?_ ?_
      rotate_left
      · show Act.put _ (some 151) _ = _
        simp only [Act.put, List.setIfInBounds_toArray, List.set_cons_zero, List.set_cons_succ, i64_w, i32_w]
        rfl
      refine done_ (done_of HT_.out (by kernel_rfl)) ?_
      cases bb
      · go_wp2
        have n0_ := Aside0.mk (PS.below HP.out (below_drew1 (Below.refl _ _)))
        have n1_ := Aside0.mk (blk_drew B10.out)
        clear HP B10 FB
        have HP := n0_
        have B10 := n1_
        clear n0_ n1_
        refine start_ (n := 11) (S := fun w' => w'.heap[gs]? = some (.cells (openC zI (.slice none 0 0) (.slice none 0 0) (.slice none 0 0) (.slice none 0 0) (.slice none 0 0) false).toArray 89 (0, 0)) ∧ w'.heap[g10]? = some (.cells (cellsI i32c (.slice none 0 0) (.slice none 0 0) (.slice none 0 0) (.slice none 0 0)).toArray 43 (0, 0))) (ds := [7, 10]) #[false,false,false,false,false,false,false,false,false,false,false] (by kernel_rfl) rfl rfl ⟨HP.out.2.2.1, B10.out⟩ (fun hHeld => ?_); refine with_tabW code_parse.tab25 code_parse.bits25 (fun HT_ HW_ => ?_)
        generalize w12.drew = w13 at HP B10 hHeld ⊢
        refine pure_ (i := 0) (N := some 163) (v := ?_) (a' := ?_) #[true,false,false,false,false,false,false,false,false,false,false] rfl rfl (any_of HT_.out (by kernel_rfl)) (fun _ _ _ h => h) (Or.inl ⟨by rfl, ?_⟩) ?_ ?_
        rotate_left
        · intro w'
          go_simp
          with_reducible rfl
        rotate_left
        · simp only [Act.put, List.setIfInBounds_toArray, List.set_cons_zero, List.set_cons_succ, i64_w, i32_w]
          rfl
        refine pure_ (i := 1) (N := some 164) (v := ?_) (a' := ?_) #[true,true,false,false,false,false,false,false,false,false,false] rfl rfl (any_of HT_.out (by kernel_rfl)) (fun _ _ _ h => h) (Or.inl ⟨by rfl, ?_⟩) ?_ ?_
        rotate_left
        · intro w'
          go_simp
          with_reducible rfl
        rotate_left
        · simp only [Act.put, List.setIfInBounds_toArray, List.set_cons_zero, List.set_cons_succ, i64_w, i32_w]
          rfl
        refine pure_ (i := 2) (N := some 165) (v := ?_) (a' := ?_) #[true,true,true,false,false,false,false,false,false,false,false] rfl rfl (any_of HT_.out (by kernel_rfl)) (fun _ _ _ h => h) (Or.inl ⟨by rfl, ?_⟩) ?_ ?_
        rotate_left
        · intro w'
          go_simp
          with_reducible rfl
        rotate_left
        · simp only [Act.put, List.setIfInBounds_toArray, List.set_cons_zero, List.set_cons_succ, i64_w, i32_w]
          rfl
        refine pure_ (i := 3) (N := some 166) (v := ?_) (a' := ?_) #[true,true,true,true,false,false,false,false,false,false,false] rfl rfl (any_of HT_.out (by kernel_rfl)) (fun _ _ _ h => h) (Or.inl ⟨by rfl, ?_⟩) ?_ ?_
        rotate_left
        · intro w'
          go_simp
          with_reducible rfl
        rotate_left
        · simp only [Act.put, List.setIfInBounds_toArray, List.set_cons_zero, List.set_cons_succ, i64_w, i32_w]
          rfl
        refine take_ (i := 4) (N := some 167) (v := ?_) (a' := ?_) #[true,true,true,true,true,false,false,false,false,false,false] rfl rfl (take_ofW HT_.out HW_.out (by kernel_rfl)) (fun _ _ _ h => h) (Or.inl ⟨by rfl, ?_⟩) hHeld ?_ ?_
        rotate_left
        · intro w' s0
          have c0 : w'.cell? ⟨gs, 27, none⟩ = some (.slice none 0 0) := (blk_cell s0.1 27).trans rfl
          go_simp
          with_reducible rfl
        rotate_left
        · simp only [Act.put, List.setIfInBounds_toArray, List.set_cons_zero, List.set_cons_succ, i64_w, i32_w]
          rfl
        refine take_ (i := 5) (N := some 168) (v := .agg (cellsI i32c (.slice none 0 0) (.slice none 0 0) (.slice none 0 0) (.slice none 0 0)).toArray) (a' := ?_) #[true,true,true,true,true,true,false,false,false,false,false] rfl rfl (take_ofW HT_.out HW_.out (by kernel_rfl)) (fun _ _ _ h => h) (yieldsIf_load_mid (by rfl) 43 _ rfl g10 0 rfl (cellsI i32c (.slice none 0 0) (.slice none 0 0) (.slice none 0 0) (.slice none 0 0)) _ (fun W hW => rng_blk (n := 27) hW.2 rfl rfl) Tryd.underlying43 rfl info43) hHeld ?_ ?_
        rotate_left
        · simp only [Act.put, List.setIfInBounds_toArray, List.set_cons_zero, List.set_cons_succ, i64_w, i32_w]
          rfl
        refine one_ (i := 6) (N := some 169) #[true,true,true,true,true,true,true,false,false,false,false] rfl rfl (one_of HT_.out (by kernel_rfl)) (by decide) (fun K hK => ?_)
        refine value_ (by rfl) rfl (run_lit1 (.tmp 168) rfl (cellsI i32c (.slice none 0 0) (.slice none 0 0) (.slice none 0 0) (.slice none 0 0)) rfl rfl) ?_
        have ho := lit_R (W := w13) (ok := fun k => k ≠ gg ∧ k ≠ gr ∧ k ≠ gs) w.heap.size (kI_mkM w13 w.heap.size (fun k => k ≠ gg ∧ k ≠ gr ∧ k ≠ gs) i32c rfl (Kd.R_nil _ _ _ _ _) (Kd.R_nil _ _ _ _ _) (Kd.R_nil _ _ _ _ _) (Kd.R_nil _ _ _ _ _)) rfl (by have h1 := blk_lt HP.out.2.2.1; have := N2.out; have := N3.out; omega) HP.out.2.2.2.2.size
        have hb := below_alloc (Below.refl w13.heap.size w13) (.cells (cellsI i32c (.slice none 0 0) (.slice none 0 0) (.slice none 0 0) (.slice none 0 0)).toArray 43 (0, 0))
        have n0_ := Aside0.mk (HP.out.below hb)
        have n1_ := Aside0.mk (blk_below B10.out hb)
        have HO69 := Aside0.mk ho
        clear HP B10 ho hb
        have HP := n0_
        have B10 := n1_
        clear n0_ n1_
        generalize (w13.alloc (.cells (cellsI i32c (.slice none 0 0) (.slice none 0 0) (.slice none 0 0) (.slice none 0 0)).toArray 43 (0, 0))) = w14 at HP B10 HO69 ⊢
        generalize (some ⟨w13.heap.size, 0, none⟩ : Option Addr) = A69 at HO69 ⊢
        refine hK.out _ _ ⟨HP.out.2.2.1, B10.out⟩ (fun hHeld => ?_)
        clear hK K
        refine norm_ (a' := ?_) ?_ ?_
        rotate_left
        · show Act.put _ (some 169) _ = _
          simp only [Act.put, List.setIfInBounds_toArray, List.set_cons_zero, List.set_cons_succ, i64_w, i32_w]
          rfl
        refine last_ (i := 7) (N := some 170) #[true,true,true,true,true,true,true,true,false,false,false] rfl rfl (one_of HT_.out (by kernel_rfl)) (by decide) (fun K hK => ?_)
        refine Kd.R_append_rows_step kI (w0 := w) w.heap.size (by rfl) (.tmp 167) (.tmp 169) 22 43 (.agg (cellsI zI (.slice none 0 0) (.slice none 0 0) (.slice none 0 0) (.slice none 0 0)).toArray) 144 rfl Tryd.underlying22 info43a rfl (show 0 < 27 by decide) (by decide) (.slice none 0 0) ([] : List I) [i32c] A69 1 1 (fun k => k ≠ gg ∧ k ≠ gr ∧ k ≠ gs) (fun k => k ≠ gg ∧ k ≠ gr ∧ k ≠ gs) rfl rfl (Kd.R_nil _ _ _ _ _) (R_rr HO69.out) (fun _ _ h => h) (fun _ hk => ⟨hk, by simp [Value.ownBlock]⟩) (fun k hk => by have h1 := blk_lt HP.out.2.2.1; have := N2.out; have := N3.out; omega) HP.out.2.2.2.2 HP.out.2.2.2.2.size (by decide) ?_
        intro v70 w15 ho hb hg hat
        rw [List.nil_append] at ho
        obtain ⟨A70, c70, rfl⟩ := Kd.R_slice ho
        have HO70 := Aside0.mk ho
        have n0_ : Aside0 (PS w w15 gg gr gs (some ad) c 2 (.slice none 0 0) []) := ⟨⟨(hg.block gg (Array.getElem?_eq_some_iff.1 HP.out.1).1 (by simp [Value.ownBlock])).trans HP.out.1, (hg.block gr (Array.getElem?_eq_some_iff.1 HP.out.2.1).1 (by simp [Value.ownBlock])).trans HP.out.2.1, (hg.block gs (blk_lt HP.out.2.2.1) (by simp [Value.ownBlock])).trans HP.out.2.2.1, Kd.R_nil _ _ _ _ _, hb⟩⟩
        clear HP HO69 ho hb hg hat
        have HP := n0_
        clear n0_
        refine hK.out _ _ ?_
        clear hK K
        refine norm_ (a' := ?_) ?_ ?_
        rotate_left
        · show Act.put _ (some 170) _ = _
          simp only [Act.put, List.setIfInBounds_toArray, List.set_cons_zero, List.set_cons_succ, i64_w, i32_w]
          rfl
        refine pure_ (i := 8) (N := some 171) (v := ?_) (a' := ?_) #[true,true,true,true,true,true,true,true,true,false,false] rfl rfl (any_of HT_.out (by kernel_rfl)) (fun _ _ _ h => h) (Or.inl ⟨by rfl, ?_⟩) ?_ ?_
        rotate_left
        · intro w'
          go_simp
          with_reducible rfl
        rotate_left
        · simp only [Act.put, List.setIfInBounds_toArray, List.set_cons_zero, List.set_cons_succ, i64_w, i32_w]
          rfl
        refine pure_ (i := 9) (N := some 172) (v := ?_) (a' := ?_) #[true,true,true,true,true,true,true,true,true,true,false] rfl rfl (any_of HT_.out (by kernel_rfl)) (fun _ _ _ h => h) (Or.inl ⟨by rfl, ?_⟩) ?_ ?_
        rotate_left
        · intro w'
          go_simp
          with_reducible rfl
        rotate_left
        · simp only [Act.put, List.setIfInBounds_toArray, List.set_cons_zero, List.set_cons_succ, i64_w, i32_w]
          rfl
        refine last_ (i := 10) (N := none) #[true,true,true,true,true,true,true,true,true,true,true] rfl rfl (one_of HT_.out (by kernel_rfl)) (by decide) (fun K hK => ?_)
        refine storeC_step (by rfl) 22 (.tmp 172) (.tmp 170) rfl gs 27 (.slice A70 [i32c].length c70) rfl rfl 89 _ _ HP.out.2.2.1 (by rw [List.size_toArray, openC_len _ rfl]; decide) size22 rfl (openC_set _ rfl _ _ _ _ _ _ _) ?_
        intro w16 hb hoth hsz hbel
        have n0_ : Aside0 (PS w w16 gg gr gs (some ad) c 2 (.slice A70 [i32c].length c70) [i32c]) := ⟨⟨(hoth _ (by have := N2.out; have := N3.out; omega)).trans HP.out.1, (hoth _ (by have := N3.out; omega)).trans HP.out.2.1, hb, Kd.R_move HO70.out (fun k hk => hoth k hk.2.2), hbel _ _ N3.out.2 HP.out.2.2.2.2⟩⟩
        clear HP HO70 hb hoth hsz hbel
        have HP := n0_
        clear n0_
        refine hK.out _ _ ?_
        clear hK K
        refine done_ (done_of HT_.out (by kernel_rfl)) ?_
        try go_wp2
        go_roundg 1
        case measure => omega
        case rel => exact ⟨2, .slice A70 [i32c].length c70, [i32c], rfl, HP, .inr ⟨rfl, rfl, rfl⟩⟩
      · have c27 : w12.cell? ⟨gs, 27, none⟩ = some (.slice none 0 0) := (blk_cell HP.out.2.2.1 27).trans rfl
        have f27 := blk_frozen HP.out.2.2.1 27
        go_wp2_with (first
          | ((with_reducible refine gate_dst (N := 157) rfl ?_); refine ev_lit1 (w0 := w) w.heap.size rfl _ rfl (cellsI zI (.slice none 0 0) (.slice none 0 0) (.slice none 0 0) (.slice none 0 0)) rfl rfl zI (fun k => k ≠ gg ∧ k ≠ gr ∧ k ≠ gs) (kI_mkM _ _ _ zI rfl (Kd.R_nil _ _ _ _ _) (Kd.R_nil _ _ _ _ _) (Kd.R_nil _ _ _ _ _) (Kd.R_nil _ _ _ _ _)) (by have h1 := blk_lt HP.out.2.2.1; have := N2.out; have := N3.out; exact ⟨by omega, by omega, by omega⟩) HP.out.2.2.2.2 HP.out.2.2.2.2.size ?_; intro v57 w13 ho hB hb; obtain ⟨A57, c57, rfl⟩ := Kd.R_slice ho; have HO57 := Aside0.mk ho; have n0_ := Aside0.mk (HP.out.below hb); have n1_ := Aside0.mk (blk_below B10.out hb); clear HP B10 FB ho hB hb; have HP := n0_; have B10 := n1_; clear n0_ n1_)
          | ((with_reducible refine gate_builtin (b := .append) (xs := #[.tmp 155, .tmp 157]) rfl ?_); at_builtin; refine Kd.R_append_rows kI (w0 := w) w.heap.size rfl (.tmp 155) (.tmp 157) 22 43 (.agg (cellsI zI (.slice none 0 0) (.slice none 0 0) (.slice none 0 0) (.slice none 0 0)).toArray) 144 rfl Tryd.underlying22 info43a rfl (show 0 < 27 by decide) (by decide) (.slice none 0 0) ([] : List I) [zI] A57 1 c57 (fun k => k ≠ gg ∧ k ≠ gr ∧ k ≠ gs) (fun k => k ≠ gg ∧ k ≠ gr ∧ k ≠ gs) rfl rfl (Kd.R_nil _ _ _ _ _) (R_rr HO57.out) (fun _ _ h => h) (fun _ hk => ⟨hk, by simp [Value.ownBlock]⟩) (fun k hk => by have h1 := blk_lt HP.out.2.2.1; have := N2.out; have := N3.out; omega) HP.out.2.2.2.2 HP.out.2.2.2.2.size (by decide) ?_; intro v58 w14 ho hb hg hat; rw [List.nil_append] at ho; obtain ⟨g58, c58, rfl, hg58, hl58, hty58⟩ := Kd.R_form ho (by decide); have HO58 := Aside0.mk ho; have n1_ := Aside0.mk ((hg.block g10 (blk_lt B10.out) (by simp [Value.ownBlock])).trans B10.out); have n0_ : Aside0 (PS w w14 gg gr gs (some ad) c 2 (.slice none 0 0) []) := ⟨⟨(hg.block gg (Array.getElem?_eq_some_iff.1 HP.out.1).1 (by simp [Value.ownBlock])).trans HP.out.1, (hg.block gr (Array.getElem?_eq_some_iff.1 HP.out.2.1).1 (by simp [Value.ownBlock])).trans HP.out.2.1, (hg.block gs (blk_lt HP.out.2.2.1) (by simp [Value.ownBlock])).trans HP.out.2.2.1, Kd.R_nil _ _ _ _ _, hb⟩⟩; have N58 := Aside0.mk (ho.1 g58 rfl); clear HP B10 HO57 ho hb hg hat hg58 hl58 hty58; have HP := n0_; have B10 := n1_; have f27 := blk_frozen HP.out.2.2.1 27; clear n0_ n1_)
          | ((with_reducible refine gate_store (t := 22) (p := 160) (v := .tmp 158) rfl ?_); refine ev_storeC rfl 22 (.tmp 160) (.tmp 158) rfl gs 27 (.slice (some ⟨g58, 0, none⟩) 1 c58) rfl rfl 89 _ _ HP.out.2.2.1 (by rw [List.size_toArray, openC_len _ rfl]; decide) size22 rfl (openC_set _ rfl _ _ _ _ _ _ _) ?_; intro w15 hb hoth hsz hbel; have n0_ : Aside0 (PS w w15 gg gr gs (some ad) c 2 (.slice (some ⟨g58, 0, none⟩) 1 c58) [zI]) := ⟨⟨(hoth _ (by have := N2.out; have := N3.out; omega)).trans HP.out.1, (hoth _ (by have := N3.out; omega)).trans HP.out.2.1, hb, Kd.R_move HO58.out (fun k hk => hoth k hk.2.2), hbel _ _ N3.out.2 HP.out.2.2.2.2⟩⟩; have n1_ := Aside0.mk ((hoth _ (by have := N10.out; have := N9.out; omega)).trans B10.out); clear HP B10 HO58 hb hoth hsz hbel; have HP := n0_; have B10 := n1_; clear n0_ n1_)
          | ((with_reducible refine gate_dst (N := 161) rfl ?_); refine ev_loadB rfl 43 (.tmp 10) rfl g10 0 27 (cellsI i32c (.slice none 0 0) (.slice none 0 0) (.slice none 0 0) (.slice none 0 0)) (cellsI i32c (.slice none 0 0) (.slice none 0 0) (.slice none 0 0) (.slice none 0 0)) _ rfl B10.out rfl rfl Tryd.underlying43 rfl info43 ?_)
          | ((with_reducible refine gate_store (t := 43) (p := 162) (v := .tmp 161) rfl ?_); refine wpList_store_mid rfl 43 (.tmp 162) (.tmp 161) rfl g58 0 (cellsI i32c (.slice none 0 0) (.slice none 0 0) (.slice none 0 0) (.slice none 0 0)).toArray rfl rfl (PS.fill HP.out).1 (by rw [List.size_toArray]; exact info43) (all_oneCell_toArray (kI.K_one (w := w) (x := i32c) (kI_mk w i32c (Al := none) (At := none) (Ab := none) (Ae := none) (cl := 0) (ct := 0) (cb := 0) (ce := 0) rfl ⟨Nat.le_refl _, Kd.C_nil _ _⟩ ⟨Nat.le_refl _, Kd.C_nil _ _⟩ ⟨Nat.le_refl _, Kd.C_nil _ _⟩ ⟨Nat.le_refl _, Kd.C_nil _ _⟩))) ?_; have n0_ := Aside0.mk (PS.fill HP.out).2; clear HP; have HP := n0_; clear n0_))
        go_roundg 1
        case measure => omega
        case rel => exact ⟨2, .slice (some ⟨g58, 0, none⟩) 1 c58, [i32c], rfl, HP, .inr ⟨rfl, rfl, rfl⟩⟩
end Go.Proofs.YtobldeamemmokaaDoor.P

/-! code.Expr, of the bytes 41 7f 0b. -/
namespace Go.Proofs.YtobldeamemmokaaDoor.P
open Go.RowKit Go.Proofs.YtobldeamemmokaaDoorW.PrintWords Go.Proofs.YtobldeamemmokaaDoorW.PrintLast Go.Proofs.YtobldeamemmokaaDoorW.PrintMore
set_option linter.unusedVariables false
set_option linter.unusedSimpArgs false
set_option maxHeartbeats 8000000 in
theorem Expr_calls (K k0 : Nat) (A : Option Addr) (c : Nat) (w : World) {r2 : ByteArray} {r4 r5 : List Int} {r6 : Int} {r7 : Bool} (hT : Go.Proofs.YtobldeamemmokaaDoorTabs.Tab w) (hc : 3 ≤ c) (hC : (Kd.int .u8).C w A 3 [65, 127, 11]) (ho : ops_Of.f K 65 = some (65, r2, 20, r4, r5, r6, r7, 0)) (hs : leb_S.f k0 [65, 127, 11] 1 32 = some (-1, 2, 0)) :
    Calls Tryd.prog 12 #[.slice A 3 c, .int .i64 0] w fun e w' => ∃ vL, e = .returned (.tuple #[vL, .int .i64 3, .int .i64 0]) ∧ kI.R 43 w' w.heap.size (fun _ => True) vL [i32c] ∧ Below w.heap.size w w' := by
  have HP := Aside0.mk (fun (W : World) (hW : Below w.heap.size w W) => parse_calls K k0 A c W (hT.below hW) hc (Kd.C_below hC hW) ho hs)
  clear hT hc hC ho hs
  go_enter Tryd.func12, Tryd.ntmps12
  go_wp2_with (first
    | (go_at_call 31; refine (HP.out _ (by repeat (first | exact Below.refl _ _ | apply pw_below_drewN | apply below_drew1))).mono ?_; rintro e w1 ⟨vL, rfl, hr, hb⟩; obtain ⟨AL, cAL, rfl⟩ := Kd.R_slice hr; have HB := Aside0.mk (show Below w.heap.size w w1 from below_step (by repeat (first | exact Below.refl _ _ | apply pw_below_drewN | apply below_drew1)) hb); have RL := Aside0.mk (Kd.R_lower hr (show w.heap.size ≤ _ from (show Below w.heap.size w _ by repeat (first | exact Below.refl _ _ | apply pw_below_drewN | apply below_drew1)).size)); clear hr hb)
    | ((with_reducible refine gate_dst (N := 7) rfl ?_); refine ev_alloc rfl 65 rfl _ zero65 ?_; intro g7 hg7 w2 hb hbl; have B7 := Aside0.mk hb; have n1_ := Aside0.mk (Kd.R_mono (Kd.R_below (Kd.R_bound RL.out) hbl) (fun k hk => (by have := hk.2.2.1; have h3 : w1.heap.size ≤ g7 := by { rw [hg7]; exact Nat.le_refl _ }; omega : k ≠ g7))); have N7 : Aside0 (w.heap.size ≤ g7) := ⟨by rw [hg7]; exact HB.out.size⟩; have n0_ := Aside0.mk (below_step HB.out hbl); clear HB RL hg7 hb hbl; have HB := n0_; have RL := n1_; clear n0_ n1_)
    | ((with_reducible refine gate_store (t := 65) (p := 7) (v := .tmp 21) rfl ?_); refine ev_storeB rfl 65 (.tmp 7) (.tmp 21) rfl g7 #[.slice AL [i32c].length cAL, .int .i64 3, .int .i64 0, .bool false] rfl rfl 65 _ B7.out size65 rfl (all_oneCell_toArray (cs := [.slice AL [i32c].length cAL, .int .i64 3, .int .i64 0, .bool false]) (by intro v hv; simp only [List.mem_cons, List.not_mem_nil, or_false] at hv; rcases hv with rfl | rfl | rfl | rfl <;> rfl)) ?_; intro w3 hb hoth hsz hbel; have n1_ := Aside0.mk (Kd.R_move RL.out (fun k hk => hoth k hk)); have n2_ := Aside0.mk (hbel _ _ N7.out HB.out); clear B7 RL HB; have RL := n1_; have HB := n2_; have c0 : w3.cell? ⟨g7, 0, none⟩ = some (.slice AL [i32c].length cAL) := (blk_cell hb 0).trans rfl; have c1 : w3.cell? ⟨g7, 1, none⟩ = some (.int .i64 3) := (blk_cell hb 1).trans rfl; have c2 : w3.cell? ⟨g7, 2, none⟩ = some (.int .i64 0) := (blk_cell hb 2).trans rfl; clear n1_ n2_ hb hoth hsz hbel))
  go_quiet (fail)
  go_wp2
  go_ret3
  exact ⟨_, rfl, by (with_reducible repeat (first | apply Kd.R_alloc | apply Kd.R_drewN | apply Kd.R_drew)); exact Kd.R_mono RL.out (fun _ _ => trivial), by repeat (first | exact HB.out | apply pw_below_drewN | apply below_drew1)⟩
end Go.Proofs.YtobldeamemmokaaDoor.P

