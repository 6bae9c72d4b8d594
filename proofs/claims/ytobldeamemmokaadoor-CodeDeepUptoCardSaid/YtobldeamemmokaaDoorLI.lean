import Derived.Test.YtobldeamemmokaaDoorLC
import Derived.Test.YtobldeamemmokaaDoorPB
/-! code.reader: one, s, op. -/
namespace Go.Proofs.YtobldeamemmokaaDoor.P
open Go.RowKit Go.Proofs.YtobldeamemmokaaDoorW.PrintWords Go.Proofs.YtobldeamemmokaaDoorW.PrintLast Go.Proofs.YtobldeamemmokaaDoorW.PrintMore
set_option linter.unusedVariables false
set_option linter.unusedSimpArgs false
theorem size3 : (Tryd.prog.info? 3).map (·.size) = some 1 := by kernel_rfl
theorem size4 : (Tryd.prog.info? 4).map (·.size) = some 1 := by kernel_rfl
/-- A reader, at block g. -/
def oRd (A : Option Addr) (c : Nat) (b : List Int) (at_ : Int) (bad : Bool) : Obj := .cells #[.slice A b.length c, .int .i64 at_, .bool bad] 87 (0, 0)
set_option maxHeartbeats 4000000 in
theorem one_calls (w0 W : World) (g : Nat) (A : Option Addr) (c : Nat) (b : List Int) (at_ : Int) (hB : Below w0.heap.size w0 W) (hg : W.heap[g]? = some (oRd A c b at_ false)) (hn : w0.heap.size ≤ g) (hC : (Kd.int .u8).C w0 A b.length b) (hc : b.length ≤ c) (h0 : 0 ≤ at_) (h1 : at_ < b.length) :
    Calls Tryd.prog 63 #[.pointer (some ⟨g, 0, none⟩)] W fun e W' => e = .returned (.int .u8 (rd b at_)) ∧ W'.heap[g]? = some (oRd A c b (at_ + 1) false) ∧ KeepBut W W' g none ∧ Below w0.heap.size w0 W' := by
  have c0 : W.cell? ⟨g, 0, none⟩ = some (.slice A b.length c) := (blk_cell hg 0).trans rfl
  have c1 : W.cell? ⟨g, 1, none⟩ = some (.int .i64 at_) := (blk_cell hg 1).trans rfl
  have c2 : W.cell? ⟨g, 2, none⟩ = some (.bool false) := (blk_cell hg 2).trans rfl
  have f1 := blk_frozen hg 1
  obtain ⟨ad, rfl, hx⟩ := Kd.at_int hC at_ h0 h1
  have hx2 : W.cell? (ad.add at_.toNat) = some (.int .u8 (rd b at_)) := (hB.cell (World.block_lt_of_cell? w0 _ hx)).trans hx
  have e1 : decide ((b.length : Int) ≤ at_) = false := decide_eq_false (by omega)
  have hm := Kd.C_max hC
  have w1eq : wrap64 (at_ + 1) = at_ + 1 := by unfold wrap64; omega
  have w2eq : wrap64 (at_ + 1 - 1) = at_ := by unfold wrap64; omega
  have wq : IntKind.i64.wrap at_ = at_ := by rw [i64_w]; unfold wrap64; omega
  have HX := Aside0.mk hx
  have HG := Aside0.mk hg
  have HB := Aside0.mk hB
  have HN := Aside0.mk hn
  clear hg hB hn hC
  go_enter Tryd.func63, Tryd.ntmps63
  go_wp2
  go_quiet (fail)
  go_wp2_with (first
    | ((with_reducible refine gate_store (t := 3) (p := 28) (v := .tmp 26) rfl ?_); refine ev_storeC rfl 3 (.tmp 28) (.tmp 26) rfl g 1 (.int .i64 (at_ + 1)) rfl (by first | rfl | (go_simp; done) | (go_simp; rw [w1eq]) | exact congrArg (Value.int .i64) w1eq) 87 #[.slice (some ad) b.length c, .int .i64 at_, .bool false] #[.slice (some ad) b.length c, .int .i64 (at_ + 1), .bool false] (by first | exact HG.out | exact blk_drewN HG.out _) (show 1 < 3 by decide) size3 rfl rfl ?_; intro w1 hb hoth hsz hbel; have HG1 := Aside0.mk hb; have HK1 := Aside0.mk (show KeepBut W w1 g none from ⟨Nat.le_of_eq hsz.symm, fun i hi hg hr => hoth i hg⟩); have HB1 := Aside0.mk (hbel _ _ HN.out (by repeat (first | exact HB.out | apply pw_below_drewN | apply below_drew1))); have c0 : w1.cell? ⟨g, 0, none⟩ = some (.slice (some ad) b.length c) := (blk_cell hb 0).trans rfl; have c1 : w1.cell? ⟨g, 1, none⟩ = some (.int .i64 (at_ + 1)) := (blk_cell hb 1).trans rfl; have hx3 : w1.cell? (ad.add at_.toNat) = some (.int .u8 (rd b at_)) := (HB1.out.cell (World.block_lt_of_cell? w0 _ HX.out)).trans HX.out; clear hb hoth hsz hbel))
  go_quiet (fail)
  go_wp2
  go_ret
  exact ⟨rfl, by first | exact HG1.out | exact blk_drewN HG1.out _, by first | exact HK1.out | exact keep_drewN HK1.out _, by repeat (first | exact HB1.out | apply pw_below_drewN | apply below_drew1)⟩
set_option maxHeartbeats 4000000 in
theorem s_calls (k : Nat) (w0 W : World) (g : Nat) (A : Option Addr) (c : Nat) (b : List Int) (at_ wd : Int) (r1 r2 : Int) (hB : Below w0.heap.size w0 W) (hg : W.heap[g]? = some (oRd A c b at_ false)) (hn : w0.heap.size ≤ g) (hC : (Kd.int .u8).C w0 A b.length b) (hc : b.length ≤ c) (h : leb_S.f k b at_ wd = some (r1, r2, 0)) :
    Calls Tryd.prog 65 #[.pointer (some ⟨g, 0, none⟩), .int .i64 wd] W fun e W' => e = .returned (.int .i64 r1) ∧ W'.heap[g]? = some (oRd A c b r2 false) ∧ KeepBut W W' g none ∧ Below w0.heap.size w0 W' := by
  have c0 : W.cell? ⟨g, 0, none⟩ = some (.slice A b.length c) := (blk_cell hg 0).trans rfl
  have c1 : W.cell? ⟨g, 1, none⟩ = some (.int .i64 at_) := (blk_cell hg 1).trans rfl
  have c2 : W.cell? ⟨g, 2, none⟩ = some (.bool false) := (blk_cell hg 2).trans rfl
  have f1 := blk_frozen hg 1
  have HG := Aside0.mk hg
  have HB := Aside0.mk hB
  have HN := Aside0.mk hn
  have HC := Aside0.mk hC
  have HCC := Aside0.mk hc
  have H := Aside0.mk h
  clear hg hB hn hC hc h
  go_enter Tryd.func65, Tryd.ntmps65
  go_wp2
  go_quiet (first
    | (go_at_call 79; with_reducible refine (leb_S.calls k A c b at_ wd r1 r2 0 _ (Kd.C_drewN (Kd.C_below HC.out HB.out) _) HCC.out H.out).mono ?_; rintro e w' ⟨rfl, ⟨nd, rfl⟩⟩; first | exact ⟨rfl, _, World.drewN_drewN _ _ _⟩ | exact ⟨rfl, _, Eq.trans (World.drewN_drewN _ _ _) (congrArg (World.drewN _) (Nat.add_assoc _ _ _))⟩))
  go_wp2_with (first
    | ((with_reducible refine gate_store (t := 3) (p := 34) (v := .tmp 32) rfl ?_); refine ev_storeC rfl 3 (.tmp 34) (.tmp 32) rfl g 1 (.int .i64 r2) rfl rfl 87 #[.slice A b.length c, .int .i64 at_, .bool false] #[.slice A b.length c, .int .i64 r2, .bool false] (by first | exact HG.out | exact blk_drewN HG.out _) (show 1 < 3 by decide) size3 rfl rfl ?_; intro w1 hb hoth hsz hbel; have HG1 := Aside0.mk hb; have HK1 := Aside0.mk (show KeepBut W w1 g none from ⟨Nat.le_of_eq hsz.symm, fun i hi hg hr => hoth i hg⟩); have HB1 := Aside0.mk (hbel _ _ HN.out (by repeat (first | exact HB.out | apply pw_below_drewN | apply below_drew1))); clear hb hoth hsz hbel))
  go_ret
  exact ⟨rfl, by first | exact HG1.out | exact blk_drewN HG1.out _, by first | exact HK1.out | exact keep_drewN HK1.out _, by repeat (first | exact HB1.out | apply pw_below_drewN | apply below_drew1)⟩
/-- A call's world W, that began in W0: block g holds o, every other block that was there is as it was. -/
def KS_ (w0 W0 W : World) (g : Nat) (o : Obj) : Prop := W.heap[g]? = some o ∧ KeepBut W0 W g none ∧ Below w0.heap.size w0 W ∧ g < W0.heap.size ∧ w0.heap.size ≤ g
theorem KS_.start {w0 W : World} {g : Nat} {o : Obj} (hg : W.heap[g]? = some o) (hB : Below w0.heap.size w0 W) (hn : w0.heap.size ≤ g) : KS_ w0 W W g o := ⟨hg, KeepBut.refl W g none, hB, (Array.getElem?_eq_some_iff.1 hg).1, hn⟩
theorem KS_.below {w0 W0 W W1 : World} {g : Nat} {o : Obj} (h : KS_ w0 W0 W g o) (hb : Below W.heap.size W W1) : KS_ w0 W0 W1 g o :=
  ⟨(hb.block g (Array.getElem?_eq_some_iff.1 h.1).1).trans h.1, h.2.1.trans (KeepBut.of_below hb g none) (.inl rfl), h.2.2.1.trans (hb.mono h.2.2.1.size), h.2.2.2⟩
theorem KS_.drewN {w0 W0 W : World} {g : Nat} {o : Obj} (h : KS_ w0 W0 W g o) (m : Nat) : KS_ w0 W0 (W.drewN m) g o := h.below (pw_below_drewN (Below.refl _ _) m)
theorem KS_.drew {w0 W0 W : World} {g : Nat} {o : Obj} (h : KS_ w0 W0 W g o) : KS_ w0 W0 W.drew g o := h.below (below_drew1 (Below.refl _ _))
theorem KS_.call {w0 W0 W W1 : World} {g : Nat} {o o1 : Obj} (h : KS_ w0 W0 W g o) (h1 : W1.heap[g]? = some o1) (hk : KeepBut W W1 g none) (hb : Below w0.heap.size w0 W1) : KS_ w0 W0 W1 g o1 := ⟨h1, h.2.1.trans hk (.inl rfl), hb, h.2.2.2⟩
theorem KS_.self {w0 W0 W W1 : World} {g : Nat} {o o1 : Obj} (h : KS_ w0 W0 W g o) (h1 : W1.heap[g]? = some o1) (ho : ∀ k, k ≠ g → W1.heap[k]? = W.heap[k]?) (hs : W1.heap.size = W.heap.size) (hbel : ∀ B (w0 : World), B ≤ g → Below B w0 W → Below B w0 W1) : KS_ w0 W0 W1 g o1 :=
  ⟨h1, h.2.1.trans ⟨Nat.le_of_eq hs.symm, fun i hi hg hr => ho i hg⟩ (.inl rfl), hbel _ _ h.2.2.2.2 h.2.2.1, h.2.2.2⟩
theorem KS_.other {w0 W0 W W1 : World} {g k : Nat} {o : Obj} (h : KS_ w0 W0 W g o) (hk : W0.heap.size ≤ k) (ho : ∀ i, i ≠ k → W1.heap[i]? = W.heap[i]?) (hs : W1.heap.size = W.heap.size) (hbel : ∀ B (w0 : World), B ≤ k → Below B w0 W → Below B w0 W1) : KS_ w0 W0 W1 g o :=
  ⟨(ho g (by have := h.2.2.2.1; omega)).trans h.1, ⟨by rw [hs]; exact h.2.1.1, fun i hi hg hr => (ho i (by omega)).trans (h.2.1.2 i hi hg hr)⟩, hbel _ _ (by have := h.2.2.2; omega) h.2.2.1, h.2.2.2⟩
theorem KS_.size {w0 W0 W : World} {g : Nat} {o : Obj} (h : KS_ w0 W0 W g o) : W0.heap.size ≤ W.heap.size := h.2.1.1
end Go.Proofs.YtobldeamemmokaaDoor.P

/-! code.reader: op (of a number of one byte), imm (of an i32's constant). -/
namespace Go.Proofs.YtobldeamemmokaaDoor.P
open Go.RowKit Go.Proofs.YtobldeamemmokaaDoorW.PrintWords Go.Proofs.YtobldeamemmokaaDoorW.PrintLast Go.Proofs.YtobldeamemmokaaDoorW.PrintMore
set_option linter.unusedVariables false
set_option linter.unusedSimpArgs false
theorem results_c1 {P : Program} {fn : Func} {p : Tmp} {ty : TypeId} (h : fn.results = #[.cell p ty]) (tmps : Array Value) (w : World) (g : Nat) (t : TypeId) (cs : Array Value) (fr : Nat × Nat) (d : TypeDesc)
    (hp : tmps.getD p undef = .pointer (some ⟨g, 0, none⟩)) (hg : w.heap[g]? = some (.cells cs t fr))
    (hu : P.underlying ty = some d) (hd : (match d with | .struct _ | .array _ _ => true | _ => false) = true) (hi : (P.info? ty).map (·.size) = some cs.size) :
    (results fn tmps).run P w = .ok (.agg cs) w := by
  have hp' : tmps[p]?.getD undef = .pointer (some ⟨g, 0, none⟩) := by simpa using hp
  simp [results, h, hp', asAddr, run_loadVar_row w g t ty cs fr d hg hu hd hi]
def infoC (r1 : Int) (r2 : ByteArray) (r3 : Int) (v3 v4 : Value) (r6 : Int) (r7 : Bool) : List Value := [.int .u16 r1, .string r2, .int .u8 r3, v3, v4, .int .i64 r6, .bool r7]
set_option maxHeartbeats 8000000 in
theorem op_calls (K : Nat) (w0 W : World) (g : Nat) (A : Option Addr) (c : Nat) (b : List Int) (at_ o : Int) {r1 : Int} {r2 : ByteArray} {r3 : Int} {r4 r5 : List Int} {r6 : Int} {r7 : Bool} (hT : Go.Proofs.YtobldeamemmokaaDoorTabs.Tab w0) (hB : Below w0.heap.size w0 W) (hg : W.heap[g]? = some (oRd A c b at_ false)) (hn : w0.heap.size ≤ g) (hC : (Kd.int .u8).C w0 A b.length b) (hc : b.length ≤ c) (h0 : 0 ≤ at_) (h1 : at_ < b.length) (ho : rd b at_ = o) (ho0 : 0 ≤ o) (ho1 : o < 252) (hi : ops_Of.f K o = some (r1, r2, r3, r4, r5, r6, r7, 0)) :
    Calls Tryd.prog 48 #[.pointer (some ⟨g, 0, none⟩)] W fun e W' => ∃ A3 c3 A4 c4, e = .returned (.agg (infoC r1 r2 r3 (.slice A3 r4.length c3) (.slice A4 r5.length c4) r6 r7).toArray) ∧ KS_ w0 W W' g (oRd A c b (at_ + 1) false) := by
  have S0 := Aside0.mk (KS_.start hg hB hn)
  have HT := Aside0.mk hT
  have HI := Aside0.mk hi
  have ONE := Aside0.mk (fun (W1 : World) (h9 : KS_ w0 W W1 g (oRd A c b at_ false)) => one_calls w0 W1 g A c b at_ h9.2.2.1 h9.1 hn hC hc h0 h1)
  rw [ho] at ONE
  have w16 : o % 65536 = o := by omega
  have w16b : IntKind.u16.wrap o = o := by unfold IntKind.wrap; simp [IntKind.signed, IntKind.bits]; omega
  have e1 : (o == 252) = false := by rw [beq_eq_false_iff_ne]; omega
  have e2 : (o == 253) = false := by rw [beq_eq_false_iff_ne]; omega
  clear hT hB hg hn hC hc h0 h1 ho hi
  go_enter Tryd.func48, Tryd.ntmps48
  go_wp2_with (first
    | ((with_reducible refine gate_dst (N := 2) rfl ?_); refine ev_alloc rfl 79 rfl _ zero79 ?_; intro g2 hg2 w1 hb hbl; have n0_ := Aside0.mk (S0.out.below hbl); have B2 := Aside0.mk hb; have N2 : Aside0 (W.heap.size ≤ g2) := ⟨by rw [hg2]; exact S0.out.size⟩; clear S0 hg2 hb hbl; have S0 := n0_; clear n0_)
    | (go_at_call 63; refine (ONE.out _ (by first | exact S0.out | exact S0.out.drewN _)).mono ?_; rintro e w2 ⟨rfl, h1, h2, h3⟩; have n0_ := Aside0.mk (KS_.call (by first | exact S0.out | exact S0.out.drewN _) h1 h2 h3); have n1_ := Aside0.mk ((h2.2 g2 (blk_lt B2.out) (by have := N2.out; have := n0_.out.2.2.2.1; omega) (by simp)).trans B2.out); clear S0 B2 h1 h2 h3; have S0 := n0_; have B2 := n1_; clear n0_ n1_)
    | (go_at_call 42; refine (ops_Of.calls K o r1 r2 r3 r4 r5 r6 r7 0 _ (HT.out.below (by first | exact S0.out.2.2.1 | exact (S0.out.drewN _).2.2.1)) HI.out).mono ?_; rintro e w3 ⟨v3, v4, rfl, h3, h4, hb⟩; obtain ⟨A3, c3, rfl⟩ := Kd.R_slice h3; obtain ⟨A4, c4, rfl⟩ := Kd.R_slice h4; have n0_ := Aside0.mk (S0.out.below hb); have n1_ := Aside0.mk (blk_below B2.out hb); clear S0 B2 h3 h4 hb; have S0 := n0_; have B2 := n1_; clear n0_ n1_)
    | ((with_reducible refine gate_dst (N := 5) rfl ?_); refine ev_alloc rfl 79 rfl _ zero79 ?_; intro g5 hg5 w4 hb hbl; have n0_ := Aside0.mk (S0.out.below hbl); have n1_ := Aside0.mk (blk_below B2.out hbl); have B5 := Aside0.mk hb; have N5 : Aside0 (W.heap.size ≤ g5 ∧ g2 ≠ g5) := ⟨by have h9 := S0.out.size; have h8 := blk_lt B2.out; have h7 : w3.heap.size ≤ g5 := by { rw [hg5]; exact Nat.le_refl _ }; omega⟩; clear S0 B2 hg5 hb hbl; have S0 := n0_; have B2 := n1_; clear n0_ n1_)
    | ((with_reducible refine gate_store (t := 79) (p := 5) (v := .tmp 38) rfl ?_); refine ev_storeB rfl 79 (.tmp 5) (.tmp 38) rfl g5 (infoC r1 r2 r3 (.slice A3 r4.length c3) (.slice A4 r5.length c4) r6 r7).toArray rfl rfl 79 _ B5.out size79 rfl (one7 _ _ _ _ _ _ _ _ _ _ _) ?_; intro w5 hb hoth hsz hbel; have n0_ := Aside0.mk (S0.out.other N5.out.1 hoth hsz hbel); have n1_ := Aside0.mk ((hoth _ N5.out.2).trans B2.out); have n2_ := Aside0.mk hb; clear S0 B2 B5 hb hoth hsz hbel; have S0 := n0_; have B2 := n1_; have B5 := n2_; clear n0_ n1_ n2_; have c2 : w5.cell? ⟨g, 2, none⟩ = some (.bool false) := (blk_cell S0.out.1 2).trans rfl)
    | ((with_reducible refine gate_store (t := 4) (p := 50) (v := .tmp 48) rfl ?_); refine ev_storeC rfl 4 (.tmp 50) (.tmp 48) rfl g 2 (.bool false) rfl rfl 87 #[.slice A b.length c, .int .i64 (at_ + 1), .bool false] #[.slice A b.length c, .int .i64 (at_ + 1), .bool false] (by first | exact S0.out.1 | exact (S0.out.drewN _).1) (show 2 < 3 by decide) size4 rfl rfl ?_; intro w6 hb hoth hsz hbel; have hgg : g ≠ g5 ∧ g ≠ g2 := by { have := S0.out.2.2.2.1; have := N5.out.1; have := N2.out; omega }; have n1_ := Aside0.mk ((hoth _ (Ne.symm hgg.2)).trans B2.out); have n2_ := Aside0.mk ((hoth _ (Ne.symm hgg.1)).trans B5.out); have n0_ := Aside0.mk (KS_.self (o1 := oRd A c b (at_ + 1) false) S0.out hb hoth hsz hbel); clear S0 B2 B5 hgg hb hoth hsz hbel; have S0 := n0_; have B2 := n1_; have B5 := n2_; clear n0_ n1_ n2_)
    | ((with_reducible refine gate_dst (N := 51) rfl ?_); refine wpList_load_mid rfl 79 (.tmp 5) rfl g5 0 rfl (infoC r1 r2 r3 (.slice A3 r4.length c3) (.slice A4 r5.length c4) r6 r7) _ (rng_blk (n := 7) (cs := infoC r1 r2 r3 (.slice A3 r4.length c3) (.slice A4 r5.length c4) r6 r7) B5.out rfl rfl) Tryd.underlying79 rfl size79 ?_)
    | ((with_reducible refine gate_store (t := 79) (p := 2) (v := .tmp 51) rfl ?_); refine ev_storeB rfl 79 (.tmp 2) (.tmp 51) rfl g2 (infoC r1 r2 r3 (.slice A3 r4.length c3) (.slice A4 r5.length c4) r6 r7).toArray rfl rfl 79 _ B2.out size79 rfl (one7 _ _ _ _ _ _ _ _ _ _ _) ?_; intro w7 hb hoth hsz hbel; have n0_ := Aside0.mk (S0.out.other N2.out hoth hsz hbel); have n2_ := Aside0.mk hb; clear S0 B2 hb hoth hsz hbel; have S0 := n0_; have B2 := n2_; clear n0_ n2_))
  refine bodyPost_ret (results_c1 rfl _ _ g2 79 (infoC r1 r2 r3 (.slice A3 r4.length c3) (.slice A4 r5.length c4) r6 r7).toArray (0, 0) _ rfl B2.out Tryd.underlying79 rfl size79) rfl ?_
  exact ⟨A3, c3, A4, c4, rfl, S0.out⟩
end Go.Proofs.YtobldeamemmokaaDoor.P

/-! code.reader.imm, of an i32's constant. -/
namespace Go.Proofs.YtobldeamemmokaaDoor.P
open Go.RowKit Go.Proofs.YtobldeamemmokaaDoorW.PrintWords Go.Proofs.YtobldeamemmokaaDoorW.PrintLast Go.Proofs.YtobldeamemmokaaDoorW.PrintMore
set_option linter.unusedVariables false
set_option linter.unusedSimpArgs false
theorem size35 : (Tryd.prog.info? 35).map (·.size) = some 1 := by kernel_rfl
theorem cellsI_setn (x : I) (vl vt vb ve : Value) (n : Int) : (cellsI x vl vt vb ve).toArray.setIfInBounds 3 (.int .u64 n) = (cellsI { x with n := n } vl vt vb ve).toArray := by
  simp only [List.setIfInBounds_toArray]
  rfl
set_option maxHeartbeats 8000000 in
set_option maxRecDepth 100000 in
theorem imm32_calls (k : Nat) (w0 W : World) (g gx : Nat) (A : Option Addr) (c : Nat) (b : List Int) (at_ : Int) (r1 r2 : Int) (x : I) (vl vt vb ve : Value) (hB : Below w0.heap.size w0 W) (hg : W.heap[g]? = some (oRd A c b at_ false)) (hn : w0.heap.size ≤ g) (hC : (Kd.int .u8).C w0 A b.length b) (hc : b.length ≤ c) (h16 : x.v.length = 16) (hx : W.heap[gx]? = some (.cells (cellsI x vl vt vb ve).toArray 43 (0, 0))) (hnx : w0.heap.size ≤ gx) (hne : g ≠ gx) (h : leb_S.f k b at_ 32 = some (r1, r2, 0)) (n : Int) (hw : r1 % 4294967296 = n) :
    Calls Tryd.prog 50 #[.pointer (some ⟨g, 0, none⟩), .int .u8 20, .pointer (some ⟨gx, 0, none⟩)] W fun e W' => e = .returned (.tuple #[]) ∧ W'.heap[g]? = some (oRd A c b r2 false) ∧ W'.heap[gx]? = some (.cells (cellsI { x with n := n } vl vt vb ve).toArray 43 (0, 0)) ∧ KeepBut W W' g (some gx) ∧ Below w0.heap.size w0 W' := by
  have S0 := Aside0.mk (KS_.start hg hB hn)
  have HX := Aside0.mk hx
  have H16 := Aside0.mk h16
  have HN := Aside0.mk (And.intro hnx hne)
  have SC := Aside0.mk (fun (W1 : World) (h9 : KS_ w0 W W1 g (oRd A c b at_ false)) => s_calls k w0 W1 g A c b at_ 32 r1 r2 h9.2.2.1 h9.1 hn hC hc h)
  have hn2 : n % 18446744073709551616 = n := by omega
  have hn0 : IntKind.u32.wrap r1 = n := by unfold IntKind.wrap; simp [IntKind.signed, IntKind.bits]; omega
  have hn1 : IntKind.u64.wrap n = n := by unfold IntKind.wrap; simp [IntKind.signed, IntKind.bits]; omega
  clear hB hg hn hC hc hx hnx hne h h16
  go_enter Tryd.func50, Tryd.ntmps50
  go_wp2_with (first
    | (go_at_call 65; refine (SC.out _ (by first | exact S0.out | exact S0.out.drewN _)).mono ?_; rintro e w2 ⟨rfl, h1, h2, h3⟩; have n1_ := Aside0.mk ((h2.2 gx (blk_lt HX.out) (Ne.symm HN.out.2) (by simp)).trans HX.out); have n0_ := Aside0.mk (KS_.call (by first | exact S0.out | exact S0.out.drewN _) h1 h2 h3); clear S0 HX h1 h2 h3; have S0 := n0_; have HX := n1_; clear n0_ n1_)
    | ((with_reducible refine gate_store (t := 35) (p := 127) (v := .tmp 125) rfl ?_); refine ev_storeC rfl 35 (.tmp 127) (.tmp 125) rfl gx 3 (.int .u64 n) rfl (by first | rfl | (go_simp; done) | (go_simp; simp [*]; done)) 43 _ _ HX.out (by rw [cellsI_size _ H16.out]; decide) size35 rfl (cellsI_setn _ _ _ _ _ _) ?_; intro w3 hb hoth hsz hbel; have HX3 := Aside0.mk hb; have HG3 := Aside0.mk ((hoth _ HN.out.2).trans S0.out.1); have HK3 := Aside0.mk (show KeepBut W w3 g (some gx) from ⟨by rw [hsz]; exact S0.out.2.1.1, fun i hi hg hr => (hoth i (fun e => hr (by rw [e]))).trans (S0.out.2.1.2 i hi hg (by simp))⟩); have HB3 := Aside0.mk (hbel _ _ HN.out.1 S0.out.2.2.1); clear S0 HX hb hoth hsz hbel))
  exact ⟨rfl, .tuple #[], by first | rfl | simp [results, Tryd.f50], rfl, HG3.out, HX3.out, HK3.out, HB3.out⟩
/-- An open block, as memory holds it. -/
def openC (x : I) (vl vt vb ve v : Value) (e : Bool) : List Value := cellsI x vl vt vb ve ++ [v, .bool e]
theorem openC_len (x : I) (h : x.v.length = 16) (vl vt vb ve v : Value) (e : Bool) : (openC x vl vt vb ve v e).length = 29 := by rw [openC, List.length_append, cellsI_len x h]; rfl
theorem openC_at (x : I) (h : x.v.length = 16) (vl vt vb ve v : Value) (e : Bool) : (openC x vl vt vb ve v e)[27]? = some v ∧ (openC x vl vt vb ve v e)[28]? = some (.bool e) ∧ (openC x vl vt vb ve v e)[0]? = some (.int .u16 x.op) := by
  have hl := cellsI_len x h vl vt vb ve
  refine ⟨?_, ?_, rfl⟩
  · rw [openC, List.getElem?_append_right (by omega), hl]; rfl
  · rw [openC, List.getElem?_append_right (by omega), hl]; rfl
theorem zero89 : (Tryd.prog.info? 89).map (fun i => i.zero) = some (some (.agg (openC zI (.slice none 0 0) (.slice none 0 0) (.slice none 0 0) (.slice none 0 0) (.slice none 0 0) false).toArray)) := by kernel_rfl
theorem size89 : (Tryd.prog.info? 89).map (·.size) = some 29 := by kernel_rfl
def oGot (v : Value) (next depth : Int) (datas : Bool) : Obj := .cells #[v, .int .i64 next, .int .i64 depth, .bool datas] 65 (0, 0)
set_option maxHeartbeats 8000000 in
set_option maxRecDepth 100000 in
theorem close1_calls (w0 W : World) (gg gs cap : Nat) (x : I) (vl vt vb ve v v0 : Value) (e : Bool) (next depth : Int) (datas : Bool) (h16 : x.v.length = 16) (hone : ∀ u ∈ openC x vl vt vb ve v e, u.oneCell' = true) (hv : v.oneCell' = true) (hg : W.heap[gg]? = some (oGot v0 next depth datas)) (hs : W.heap[gs]? = some (.cells (openC x vl vt vb ve v e).toArray 89 (0, 0))) (hcap : 1 ≤ cap) (hB : Below w0.heap.size w0 W) (hn : w0.heap.size ≤ gg) :
    Calls Tryd.prog 47 #[.pointer (some ⟨gg, 0, none⟩), .slice (some ⟨gs, 0, none⟩) 1 cap] W fun e W' => e = .returned (.tuple #[.slice none 0 0, .bool false]) ∧ W'.heap[gg]? = some (oGot v next depth datas) ∧ KeepBut W W' gg none ∧ Below w0.heap.size w0 W' := by
  have HB := Aside0.mk hB
  have HN := Aside0.mk hn
  have HG := Aside0.mk hg
  have HS := Aside0.mk hs
  have H16 := Aside0.mk h16
  have HO := Aside0.mk hone
  have HV := Aside0.mk hv
  have HL := Aside0.mk (openC_len x h16 vl vt vb ve v e)
  have HA := Aside0.mk (openC_at x h16 vl vt vb ve v e)
  have hcc := cellsI_len x h16 vl vt vb ve
  obtain ⟨co, hco⟩ : ∃ co, co = openC x vl vt vb ve v e := ⟨_, rfl⟩
  rw [← hco] at HS HO HL HA
  clear hg hs h16 hone hv hco hcc hB hn
  go_enter Tryd.func47, Tryd.ntmps47
  go_wp2_with (first
    | ((with_reducible refine gate_dst (N := 13) rfl ?_); refine wpList_load_mid rfl 89 (.tmp 12) rfl gs 0 rfl co _ (rng_blk (n := 29) HS.out (by rw [List.drop_zero]; exact List.take_of_length_le (Nat.le_of_eq HL.out)) HL.out) Tryd.underlying89 rfl (by rw [HL.out]; exact size89) ?_)
    | ((with_reducible refine gate_dst (N := 6) rfl ?_); refine ev_alloc rfl 89 rfl _ zero89 ?_; intro g6 hg6 w2 hb hbl; have BL := Aside0.mk hbl; have B6 := Aside0.mk hb; have N6 := Aside0.mk hg6; clear hg6 hb hbl)
    | ((with_reducible refine gate_store (t := 89) (p := 6) (v := .tmp 13) rfl ?_); refine ev_storeB rfl 89 (.tmp 6) (.tmp 13) rfl g6 co.toArray rfl rfl 89 _ B6.out (by rw [List.size_toArray, HL.out]; exact size89) ((show (Value.agg (openC zI (.slice none 0 0) (.slice none 0 0) (.slice none 0 0) (.slice none 0 0) (.slice none 0 0) false).toArray).cells.size = 29 from rfl).trans (List.size_toArray.trans HL.out).symm) (all_oneCell_toArray HO.out) ?_; intro w3 hb hoth hsz hbel; have c27 : w3.cell? ⟨g6, 27, none⟩ = some v := (blk_cell hb 27).trans (by rw [List.getElem?_toArray]; exact HA.out.1); have B3 := Aside0.mk hb; have L3 : Aside0 (Below w0.heap.size w0 w3) := ⟨hbel _ _ (by rw [N6.out]; exact HB.out.size) (HB.out.trans (BL.out.mono HB.out.size))⟩; have O3 := Aside0.mk (And.intro hoth hsz); clear B6 hb hoth hsz hbel)
    | ((with_reducible refine gate_store (t := 22) (p := 26) (v := .tmp 24) rfl ?_); refine ev_storeC rfl 22 (.tmp 26) (.tmp 24) rfl gg 0 v rfl rfl 65 #[v0, .int .i64 next, .int .i64 depth, .bool datas] #[v, .int .i64 next, .int .i64 depth, .bool datas] ((O3.out.1 gg (by rw [N6.out]; have := blk_lt HG.out; first | omega | exact Nat.ne_of_lt this)).trans (blk_below HG.out BL.out)) (show 0 < 4 by decide) size22 HV.out rfl ?_; intro w4 hb hoth hsz hbel; have HG4 := Aside0.mk hb; have HK4 : Aside0 (KeepBut W w4 gg none) := ⟨⟨by rw [hsz, O3.out.2]; exact BL.out.size, fun i hi hne hr => (hoth i hne).trans ((O3.out.1 i (by rw [N6.out]; exact Nat.ne_of_lt hi)).trans (BL.out.block i hi))⟩⟩; have L4 := Aside0.mk (hbel _ _ HN.out L3.out); clear hb hoth hsz hbel))
  go_ret2
  exact ⟨rfl, HG4.out, HK4.out, L4.out⟩
end Go.Proofs.YtobldeamemmokaaDoor.P

