import Derived.Test.YtobldeamemmokaaDoorKU
/-! jacquardref11.words, jacquardref00.Types, jacquardref11.bare. -/
namespace Go.Proofs.YtobldeamemmokaaDoor.P
open Go.RowKit Go.Proofs.YtobldeamemmokaaDoorW.PrintWords Go.Proofs.YtobldeamemmokaaDoorW.PrintLast Go.Proofs.YtobldeamemmokaaDoorW.PrintMore
set_option linter.unusedVariables false
set_option linter.unusedSimpArgs false
set_option maxHeartbeats 8000000 in
set_option maxRecDepth 100000 in
theorem Words_calls {A0 : Option Addr} {c0 : Nat} {l0 : List Int} {A1 : Option Addr} {c1 : Nat} {l1 : List Int} {w : World} (hr0 : Kd.C (Kd.int .u32) w A0 l0.length l0) (hr1 : Kd.C (Kd.int .u32) w A1 l1.length l1) :
    Calls Tryd.prog 51 #[.slice A0 l0.length c0, .slice A1 l1.length c1] w fun e w' => e = .returned (.bool (l0 == l1)) ∧ Drawn0 w w' := by
  have HR0 := Aside0.mk hr0
  have HR1 := Aside0.mk hr1
  clear hr0 hr1
  by_cases he : l0.length = l1.length
  rotate_left
  · have e1 : ((l0.length : Int) != (l1.length : Int)) = true := by rw [bne_iff_ne]; omega
    rw [beq_len he]
    go_enter Tryd.func51, Tryd.ntmps51
    go_wp2
    go_ret
    exact ⟨rfl, Drawn0.refl _⟩
  · have e1 : ((l0.length : Int) != (l1.length : Int)) = false := by rw [bne_eq_false_iff_eq]; omega
    have H' := Aside0.mk (show (l0.drop 0 == l1.drop 0) = (l0 == l1) from rfl)
    obtain ⟨r, hr⟩ : ∃ r, (l0 == l1) = r := ⟨_, rfl⟩
    rw [hr] at H' ⊢
    have HEQ := Aside0.mk he
    clear hr he
    go_enter Tryd.func51, Tryd.ntmps51
    go_wp2
    go_loopg [5] l0.length (fun kq v5 w' => ∃ (i : Nat), v5 = .int .i64 (i : Int) ∧ kq + i = l0.length ∧ Aside0 ((l0.drop i == l1.drop i) = r) ∧ Drawn0 w w')
    case atStart => exact ⟨0, rfl, rfl, H', Drawn0.refl _⟩
    case round =>
      clear H'
      obtain ⟨i, rfl, hki, HA, ⟨m1, rfl⟩⟩ := hrel
      by_cases hi : i < l0.length
      rotate_left
      · have e2 : decide ((i : Int) < (l0.length : Int)) = false := decide_eq_false (by omega)
        have h1 := HA.out
        rw [List.drop_eq_nil_of_le (by omega), List.drop_eq_nil_of_le (by have := HEQ.out; omega)] at h1
        obtain rfl : true = r := h1
        go_wp2
        go_ret
        exact ⟨rfl, ⟨_, rfl⟩⟩
      · have e2 : decide ((i : Int) < (l0.length : Int)) = true := decide_eq_true (by omega)
        have w1eq : wrap64 ((i : Int) + 1) = ((i + 1 : Nat) : Int) := by unfold wrap64; have := Kd.C_max HR0.out; omega
        have h1 := HA.out
        rw [drop_eq_cons l0 l1 i hi (by have := HEQ.out; omega), ← rd_nat l0 i hi, ← rd_nat l1 i (by have := HEQ.out; omega)] at h1
        obtain ⟨ad0, rfl, hx0⟩ := Kd.at_int HR0.out (i : Int) (by omega) (by omega)
        obtain ⟨ad1, rfl, hx1⟩ := Kd.at_int HR1.out (i : Int) (by omega) (by have := HEQ.out; omega)
        simp only [Int.toNat_natCast] at hx0 hx1
        have i1 : (i : Int) < (l1.length : Int) := by have := HEQ.out; omega
        have i0 : (i : Int) < (l0.length : Int) := by omega
        have i00 : 0 ≤ (i : Int) := by omega
        cases e3 : (rd l0 (i : Int) == rd l1 (i : Int))
        · have e4 : (rd l0 (i : Int) != rd l1 (i : Int)) = true := by rw [bne, e3]; rfl
          rw [e3, Bool.false_and] at h1
          obtain rfl : false = r := h1
          go_wp2
          repeat (go_quiet (fail); try go_wp2)
          go_ret
          exact ⟨rfl, ⟨_, by first | rfl | exact World.drewN_drewN _ _ _⟩⟩
        · have e4 : (rd l0 (i : Int) != rd l1 (i : Int)) = false := by rw [bne, e3]; rfl
          rw [e3, Bool.true_and] at h1
          have HHA := Aside0.mk h1
          clear h1
          go_wp2
          repeat (go_quiet (fail); try go_wp2)
          go_roundg (gk - 1)
          case measure => omega
          case rel => exact ⟨i + 1, by first | rfl | rw [w1eq], by omega, HHA, by repeat (first | exact ⟨_, rfl⟩ | exact Drawn0.refl _ | apply Drawn0.step)⟩
set_option maxHeartbeats 8000000 in
set_option maxRecDepth 100000 in
theorem Types_calls {A0 : Option Addr} {c0 : Nat} {l0 : List Int} {A1 : Option Addr} {c1 : Nat} {l1 : List Int} {w : World} (hr0 : Kd.C (Kd.int .u8) w A0 l0.length l0) (hr1 : Kd.C (Kd.int .u8) w A1 l1.length l1) :
    Calls Tryd.prog 52 #[.slice A0 l0.length c0, .slice A1 l1.length c1] w fun e w' => e = .returned (.bool (l0 == l1)) ∧ Drawn0 w w' := by
  have HR0 := Aside0.mk hr0
  have HR1 := Aside0.mk hr1
  clear hr0 hr1
  by_cases he : l0.length = l1.length
  rotate_left
  · have e1 : ((l0.length : Int) != (l1.length : Int)) = true := by rw [bne_iff_ne]; omega
    rw [beq_len he]
    go_enter Tryd.func52, Tryd.ntmps52
    go_wp2
    go_ret
    exact ⟨rfl, Drawn0.refl _⟩
  · have e1 : ((l0.length : Int) != (l1.length : Int)) = false := by rw [bne_eq_false_iff_eq]; omega
    have H' := Aside0.mk (show (l0.drop 0 == l1.drop 0) = (l0 == l1) from rfl)
    obtain ⟨r, hr⟩ : ∃ r, (l0 == l1) = r := ⟨_, rfl⟩
    rw [hr] at H' ⊢
    have HEQ := Aside0.mk he
    clear hr he
    go_enter Tryd.func52, Tryd.ntmps52
    go_wp2
    go_loopg [5] l0.length (fun kq v5 w' => ∃ (i : Nat), v5 = .int .i64 (i : Int) ∧ kq + i = l0.length ∧ Aside0 ((l0.drop i == l1.drop i) = r) ∧ Drawn0 w w')
    case atStart => exact ⟨0, rfl, rfl, H', Drawn0.refl _⟩
    case round =>
      clear H'
      obtain ⟨i, rfl, hki, HA, ⟨m1, rfl⟩⟩ := hrel
      by_cases hi : i < l0.length
      rotate_left
      · have e2 : decide ((i : Int) < (l0.length : Int)) = false := decide_eq_false (by omega)
        have h1 := HA.out
        rw [List.drop_eq_nil_of_le (by omega), List.drop_eq_nil_of_le (by have := HEQ.out; omega)] at h1
        obtain rfl : true = r := h1
        go_wp2
        go_ret
        exact ⟨rfl, ⟨_, rfl⟩⟩
      · have e2 : decide ((i : Int) < (l0.length : Int)) = true := decide_eq_true (by omega)
        have w1eq : wrap64 ((i : Int) + 1) = ((i + 1 : Nat) : Int) := by unfold wrap64; have := Kd.C_max HR0.out; omega
        have h1 := HA.out
        rw [drop_eq_cons l0 l1 i hi (by have := HEQ.out; omega), ← rd_nat l0 i hi, ← rd_nat l1 i (by have := HEQ.out; omega)] at h1
        obtain ⟨ad0, rfl, hx0⟩ := Kd.at_int HR0.out (i : Int) (by omega) (by omega)
        obtain ⟨ad1, rfl, hx1⟩ := Kd.at_int HR1.out (i : Int) (by omega) (by have := HEQ.out; omega)
        simp only [Int.toNat_natCast] at hx0 hx1
        have i1 : (i : Int) < (l1.length : Int) := by have := HEQ.out; omega
        have i0 : (i : Int) < (l0.length : Int) := by omega
        have i00 : 0 ≤ (i : Int) := by omega
        cases e3 : (rd l0 (i : Int) == rd l1 (i : Int))
        · have e4 : (rd l0 (i : Int) != rd l1 (i : Int)) = true := by rw [bne, e3]; rfl
          rw [e3, Bool.false_and] at h1
          obtain rfl : false = r := h1
          go_wp2
          repeat (go_quiet (fail); try go_wp2)
          go_ret
          exact ⟨rfl, ⟨_, by first | rfl | exact World.drewN_drewN _ _ _⟩⟩
        · have e4 : (rd l0 (i : Int) != rd l1 (i : Int)) = false := by rw [bne, e3]; rfl
          rw [e3, Bool.true_and] at h1
          have HHA := Aside0.mk h1
          clear h1
          go_wp2
          repeat (go_quiet (fail); try go_wp2)
          go_roundg (gk - 1)
          case measure => omega
          case rel => exact ⟨i + 1, by first | rfl | rw [w1eq], by omega, HHA, by repeat (first | exact ⟨_, rfl⟩ | exact Drawn0.refl _ | apply Drawn0.step)⟩
set_option maxHeartbeats 8000000 in
set_option maxRecDepth 100000 in
theorem bare_calls (x y : I) (w : World) {Al Bl At Bt : Option Addr} {cl dl ct dt : Nat} (vb ve ub ue : Value) (hx : x.v.length = 16) (hy : y.v.length = 16)
    (h1 : x.l.length ≤ cl ∧ (Kd.int .u32).C w Al x.l.length x.l) (h2 : x.t.length ≤ ct ∧ (Kd.int .u8).C w At x.t.length x.t) (h3 : y.l.length ≤ dl ∧ (Kd.int .u32).C w Bl y.l.length y.l) (h4 : y.t.length ≤ dt ∧ (Kd.int .u8).C w Bt y.t.length y.t) :
    Calls Tryd.prog 32 #[.agg (cellsI x (.slice Al x.l.length cl) (.slice At x.t.length ct) vb ve).toArray, .agg (cellsI y (.slice Bl y.l.length dl) (.slice Bt y.t.length dt) ub ue).toArray] w fun e w' => e = .returned (.bool (flatB x y)) ∧ Below w.heap.size w w' := by
  obtain ⟨cx, hcx⟩ : ∃ cx, cx = cellsI x (.slice Al x.l.length cl) (.slice At x.t.length ct) vb ve := ⟨_, rfl⟩
  obtain ⟨cy, hcy⟩ : ∃ cy, cy = cellsI y (.slice Bl y.l.length dl) (.slice Bt y.t.length dt) ub ue := ⟨_, rfl⟩
  have X := cellsI_at x hx (.slice Al x.l.length cl) (.slice At x.t.length ct) vb ve
  have Y := cellsI_at y hy (.slice Bl y.l.length dl) (.slice Bt y.t.length dt) ub ue
  have XV := cellsI_v x hx (.slice Al x.l.length cl) (.slice At x.t.length ct) vb ve
  have YV := cellsI_v y hy (.slice Bl y.l.length dl) (.slice Bt y.t.length dt) ub ue
  have XK := cellsI_k x hx (.slice Al x.l.length cl) (.slice At x.t.length ct) vb ve
  have YK := cellsI_k y hy (.slice Bl y.l.length dl) (.slice Bt y.t.length dt) ub ue
  rw [← hcx] at X XV XK ⊢
  rw [← hcy] at Y YV YK ⊢
  have HX := Aside0.mk X
  have HY := Aside0.mk Y
  have HXV := Aside0.mk XV
  have HYV := Aside0.mk YV
  have HXK := Aside0.mk XK
  have HYK := Aside0.mk YK
  have H16 := Aside0.mk hx
  have K16 := Aside0.mk hy
  have H1 := Aside0.mk h1
  have H2 := Aside0.mk h2
  have H3 := Aside0.mk h3
  have H4 := Aside0.mk h4
  clear X Y XV YV XK YK hx hy h1 h2 h3 h4 hcx hcy
  unfold flatB
  obtain ⟨b5, e5⟩ : ∃ b, (x.v == y.v) = b := ⟨_, rfl⟩
  obtain ⟨b6, e6⟩ : ∃ b, (x.bk == y.bk && (x.bv == y.bv && x.bt == y.bt)) = b := ⟨_, rfl⟩
  rw [e5, e6]
  have E5 := Aside0.mk e5
  have E6 := Aside0.mk e6
  clear e5 e6
  cases e1 : (x.op == y.op)
  rotate_left
  cases e2 : (x.a == y.a)
  rotate_left
  cases e3 : (x.b == y.b)
  rotate_left
  cases e4 : (x.n == y.n)
  rotate_left
  cases b5
  rotate_left
  cases b6
  rotate_left
  cases e7 : (x.l == y.l)
  rotate_left
  all_goals
    simp only [Bool.true_and, Bool.false_and]
    go_enter Tryd.func32, Tryd.ntmps32
    go_wp2_with (first
      | ((with_reducible refine gate_dst (N := 2) rfl ?_); refine ev_boxI rfl _ rfl cx rfl ?_; intro g hg w1 hb hbl; have HG := Aside0.mk hg; have HB := Aside0.mk hb; have HBL := Aside0.mk hbl; clear hg hb hbl)
      | ((with_reducible refine gate_dst (N := 3) rfl ?_); refine ev_boxI rfl _ rfl cy rfl ?_; intro g' hg' w2 hb' hbl'; have n0_ := Aside0.mk (blk_below HB.out hbl'); have n1_ := Aside0.mk (below_step HBL.out hbl'); have HB2 := Aside0.mk hb'; clear HB HBL hg' hb' hbl'; have HB := n0_; have HBL := n1_; clear n0_ n1_;
         have z0 : w2.cell? ⟨g, 0, none⟩ = some (.int .u16 x.op) := (blk_cell HB.out 0).trans (by rw [List.getElem?_toArray]; exact HX.out.1);
         have z1 : w2.cell? ⟨g, 1, none⟩ = some (.int .u32 x.a) := (blk_cell HB.out 1).trans (by rw [List.getElem?_toArray]; exact HX.out.2.1);
         have z2 : w2.cell? ⟨g, 2, none⟩ = some (.int .u32 x.b) := (blk_cell HB.out 2).trans (by rw [List.getElem?_toArray]; exact HX.out.2.2.1);
         have z3 : w2.cell? ⟨g, 3, none⟩ = some (.int .u64 x.n) := (blk_cell HB.out 3).trans (by rw [List.getElem?_toArray]; exact HX.out.2.2.2.1);
         have z20 : w2.cell? ⟨g, 20, none⟩ = some (.slice Al x.l.length cl) := (blk_cell HB.out 20).trans (by rw [List.getElem?_toArray]; exact HX.out.2.2.2.2.1);
         have z21 : w2.cell? ⟨g, 21, none⟩ = some (.slice At x.t.length ct) := (blk_cell HB.out 21).trans (by rw [List.getElem?_toArray]; exact HX.out.2.2.2.2.2.1);
         have y0 : w2.cell? ⟨g', 0, none⟩ = some (.int .u16 y.op) := (blk_cell HB2.out 0).trans (by rw [List.getElem?_toArray]; exact HY.out.1);
         have y1 : w2.cell? ⟨g', 1, none⟩ = some (.int .u32 y.a) := (blk_cell HB2.out 1).trans (by rw [List.getElem?_toArray]; exact HY.out.2.1);
         have y2 : w2.cell? ⟨g', 2, none⟩ = some (.int .u32 y.b) := (blk_cell HB2.out 2).trans (by rw [List.getElem?_toArray]; exact HY.out.2.2.1);
         have y3 : w2.cell? ⟨g', 3, none⟩ = some (.int .u64 y.n) := (blk_cell HB2.out 3).trans (by rw [List.getElem?_toArray]; exact HY.out.2.2.2.1);
         have y20 : w2.cell? ⟨g', 20, none⟩ = some (.slice Bl y.l.length dl) := (blk_cell HB2.out 20).trans (by rw [List.getElem?_toArray]; exact HY.out.2.2.2.2.1);
         have y21 : w2.cell? ⟨g', 21, none⟩ = some (.slice Bt y.t.length dt) := (blk_cell HB2.out 21).trans (by rw [List.getElem?_toArray]; exact HY.out.2.2.2.2.2.1))
      | ((with_reducible refine gate_dst (N := 33) rfl ?_); refine gate_guard (by rfl) ?_; refine ev_loadB rfl 36 (.tmp 32) rfl g 4 16 cx _ _ rfl HB.out HXV.out (by rw [encs_length]; exact H16.out) Tryd.underlying36 rfl info36 ?_)
      | ((with_reducible refine gate_dst (N := 35) rfl ?_); refine gate_guard (by rfl) ?_; refine ev_loadB rfl 36 (.tmp 34) rfl g' 4 16 cy _ _ rfl HB2.out HYV.out (by rw [encs_length]; exact K16.out) Tryd.underlying36 rfl info36 ?_)
      | ((with_reducible refine gate_dst (N := 36) rfl ?_); refine gate_guard (by rfl) ?_; refine ev_eqV rfl (.tmp 33) (.tmp 35) 36 rfl x.v y.v H16.out K16.out rfl rfl ?_; rw [E5.out])
      | ((with_reducible refine gate_dst (N := 40) rfl ?_); refine gate_guard (by rfl) ?_; refine ev_loadB rfl 41 (.tmp 39) rfl g 22 3 cx _ _ rfl HB.out HXK.out rfl Tryd.underlying41 rfl info41 ?_)
      | ((with_reducible refine gate_dst (N := 42) rfl ?_); refine gate_guard (by rfl) ?_; refine ev_loadB rfl 41 (.tmp 41) rfl g' 22 3 cy _ _ rfl HB2.out HYK.out rfl Tryd.underlying41 rfl info41 ?_)
      | ((with_reducible refine gate_dst (N := 43) rfl ?_); refine gate_guard (by rfl) ?_; refine ev_eq41 rfl (.tmp 40) (.tmp 42) 41 rfl x.bk x.bv x.bt y.bk y.bv y.bt rfl rfl ?_; rw [E6.out])
      | (go_at_call 51; refine (Words_calls (Kd.C_below H1.out.2 HBL.out) (Kd.C_below H3.out.2 HBL.out)).mono ?_; rintro e w' ⟨rfl, ⟨nd, rfl⟩⟩; rw [e7])
      | (go_at_call 52; refine (Types_calls (Kd.C_below H2.out.2 (pw_below_drewN HBL.out _)) (Kd.C_below H4.out.2 (pw_below_drewN HBL.out _))).mono ?_; rintro e w' ⟨rfl, ⟨nd, rfl⟩⟩))
    go_ret
    exact ⟨rfl, by repeat (first | exact HBL.out | apply pw_below_drewN)⟩
end Go.Proofs.YtobldeamemmokaaDoor.P

