import Derived.Test.YtobldeamemmokaaDoorKZa
/-! jacquardref11.Copy. -/
namespace Go.Proofs.YtobldeamemmokaaDoor.P
open Go.RowKit Go.Proofs.YtobldeamemmokaaDoorW.PrintWords Go.Proofs.YtobldeamemmokaaDoorW.PrintLast Go.Proofs.YtobldeamemmokaaDoorW.PrintMore
set_option linter.unusedVariables false
set_option linter.unusedSimpArgs false
def jacquardref11_Copy.T7 : Bool × List (List Nat × List Nat) := (true, [([], []), ([0], [0]), ([], []), ([], []), ([2, 3], [2, 3]), ([4], [4]), ([5], [5]), ([1, 6], [1, 6]), ([0, 1, 2, 3, 4, 5, 6, 7], []), ([8, 7, 7, 0, 1, 2, 3, 4, 5, 6, 7], [7, 8])])
def jacquardref11_Copy.B7 : List Nat := [0, 1, 0, 0, 12, 28, 60, 127, 255, 511]
theorem jacquardref11_Copy.tab7 : rtab .any (opsOf Tryd.f9 7) = jacquardref11_Copy.T7 := by kernel_rfl
theorem jacquardref11_Copy.bits7 : waitsOk jacquardref11_Copy.T7.2 jacquardref11_Copy.B7 = true := by kernel_rfl
set_option maxHeartbeats 8000000 in
set_option maxRecDepth 100000 in
theorem copy_calls : ∀ (k : Nat) (A : Option Addr) (c : Nat) (l : List I) (w : World), l.length ≤ c → kI.C w A l.length l → wL l < k → wL l ≤ 1000000000 →
    Calls Tryd.prog 9 #[.slice A l.length c] w fun e w' => ∃ v, e = .returned v ∧ kI.R 43 w' w.heap.size (fun _ => True) v l ∧ Below w.heap.size w w'
  | 0, _, _, _, _, _, _, h, _ => absurd h (Nat.not_lt_zero _)
  | k + 1, A, c, l, w, hc, hl, hk, hb => by
    have HI := Aside0.mk (copy_calls k)
    have HL := Aside0.mk hl
    have HC := Aside0.mk hc
    have HWK := Aside0.mk hk
    have HWB := Aside0.mk hb
    clear hc hl hk hb
    go_enter Tryd.func9, Tryd.ntmps9
    go_wp2
    go_loopg [3, 4] l.length (fun kq v3 v4 w' => ∃ (i : Nat), v4 = .int .i64 (i : Int) ∧ kq + i = l.length ∧ Aside0 (kI.R 43 w' w.heap.size (fun _ => True) v3 (l.take i)) ∧ Aside0 (Below w.heap.size w w'))
    case atStart => exact ⟨0, rfl, rfl, ⟨Kd.R_nil _ _ _ _ _⟩, ⟨by repeat (first | exact Below.refl _ _ | apply pw_below_drewN | apply below_drew1)⟩⟩
    case round =>
      obtain ⟨i, rfl, hki, HO, HB⟩ := hrel
      by_cases hi : i < l.length
      rotate_left
      · have e2 : decide ((i : Int) < (l.length : Int)) = false := decide_eq_false (by omega)
        have ho := HO.out
        rw [List.take_of_length_le (by omega)] at ho
        have HO2 := Aside0.mk ho
        clear HO ho
        go_wp2
        go_ret
        exact ⟨_, rfl, by (with_reducible repeat (first | apply Kd.R_alloc | apply Kd.R_drewN | apply Kd.R_drew)); exact HO2.out, by repeat (first | exact HB.out | apply pw_below_drewN | apply below_drew1)⟩
      have e2 : decide ((i : Int) < (l.length : Int)) = true := decide_eq_true (by omega)
      have i1 : (i : Int) < (l.length : Int) := by omega
      obtain ⟨xb, xo, Axl, cxl, Axt, cxt, Axb, cxb, Axe, cxe, rfl, rx, x16, xl, xt, xbd, xe⟩ := I_at HL.out hi
      have hwx := wL_at l i hi
      have hsn := take_snoc hi
      obtain ⟨x, hx⟩ : ∃ x, l.getD i zI = x := ⟨_, rfl⟩
      rw [hx] at rx x16 xl xt xbd xe hwx hsn
      rw [wI_eq] at hwx
      have LL : Aside0 ((([] : List Int).length + x.l.length) * 4 ≤ 140737488355328) := ⟨by have := HWB.out; generalize wL x.body = B at *; generalize wL x.els = E at *; generalize wL l = W at *; simp only [List.length_nil]; omega⟩
      have TF : Aside0 (jacquardref00_CopyTypes.f x.t = some x.t) := ⟨by unfold jacquardref00_CopyTypes.f; rw [if_pos (by have := HWB.out; generalize wL x.body = B at *; generalize wL x.els = E at *; generalize wL l = W at *; simp only [List.length_nil]; omega), List.nil_append]⟩
      have WB : Aside0 (wL x.body < k ∧ wL x.body ≤ 1000000000) := ⟨by have := HWB.out; have := HWK.out; generalize wL x.body = B at *; generalize wL x.els = E at *; generalize wL l = W at *; omega⟩
      have WE : Aside0 (wL x.els < k ∧ wL x.els ≤ 1000000000) := ⟨by have := HWB.out; have := HWK.out; generalize wL x.body = B at *; generalize wL x.els = E at *; generalize wL l = W at *; omega⟩
      have AP : Aside0 (((l.take i).length + 1) * 144 ≤ 140737488355328) := ⟨by have := HWB.out; have := wL_len l; rw [List.length_take]; omega⟩
      have H16 := Aside0.mk x16
      have hxl := cellsI_len x x16 (.slice Axl x.l.length cxl) (.slice Axt x.t.length cxt) (.slice Axb x.body.length cxb) (.slice Axe x.els.length cxe)
      have hi43 : (Tryd.prog.info? 43).map (·.size) = some (cellsI x (.slice Axl x.l.length cxl) (.slice Axt x.t.length cxt) (.slice Axb x.body.length cxb) (.slice Axe x.els.length cxe)).length := by rw [info43]; exact congrArg some hxl.symm
      have hz1 : (Tryd.prog.info? 43).map (·.size) = some (cellsI x (.slice Axl x.l.length cxl) (.slice Axt x.t.length cxt) (.slice Axb x.body.length cxb) (.slice Axe x.els.length cxe)).toArray.size := by rw [List.size_toArray]; exact hi43
      have hold27 : (Value.agg (cellsI zI (.slice none 0 0) (.slice none 0 0) (.slice none 0 0) (.slice none 0 0)).toArray).cells.size = 27 := rfl
      have ho1 : (cellsI x (.slice Axl x.l.length cxl) (.slice Axt x.t.length cxt) (.slice Axb x.body.length cxb) (.slice Axe x.els.length cxe)).toArray.all (·.oneCell') = true := all_oneCell_toArray (kI.K_one (w := w) (x := x) (kI_mk w x x16 xl xt xbd xe))
      have HHI := Aside0.mk hi43
      have HZ1 := Aside0.mk (And.intro hz1 (And.intro (hold27.trans (List.size_toArray.trans hxl).symm) ho1))
      have RX := Aside0.mk (fun (W : World) (hW : Below w.heap.size w W) => (fun j u hj => (hW.cell (World.block_lt_of_cell? w _ (rx j u hj))).trans (rx j u hj) : W.rangeAt xb (xo + i * 27) _))
      have CL := Aside0.mk (fun (W : World) (hW : Below w.heap.size w W) => Kd.C_below xl.2 hW)
      have CT := Aside0.mk (And.intro xt.1 (fun (W : World) (hW : Below w.heap.size w W) => Kd.C_below xt.2 hW))
      have CB := Aside0.mk (And.intro xbd.1 (fun (W : World) (hW : Below w.heap.size w W) => Kd.C_below xbd.2 hW))
      have CE := Aside0.mk (And.intro xe.1 (fun (W : World) (hW : Below w.heap.size w W) => Kd.C_below xe.2 hW))
      have HSN := Aside0.mk hsn
      have w1eq : wrap64 ((i : Int) + 1) = ((i + 1 : Nat) : Int) := by unfold wrap64; have := Kd.C_max HL.out; omega
      clear rx x16 xl xt xbd xe hx hwx hsn hi43 hz1 hold27 ho1 hxl
      go_wp2_with (first
        | ((with_reducible refine gate_dst (N := 15) rfl ?_); refine wpList_load_mid rfl 43 (.tmp 14) rfl xb (xo + i * 27) rfl (cellsI x (.slice Axl x.l.length cxl) (.slice Axt x.t.length cxt) (.slice Axb x.body.length cxb) (.slice Axe x.els.length cxe)) _ (RX.out _ (by repeat (first | exact HB.out | apply pw_below_drewN | apply below_drew1))) Tryd.underlying43 rfl HHI.out ?_)
        | ((with_reducible refine gate_dst (N := 5) rfl ?_); refine ev_alloc rfl 43 rfl _ zero43 ?_; intro g5 hg5 w2 hb5 hbl; have HB5 := Aside0.mk hb5; have HG5 := Aside0.mk hg5; have HBL := Aside0.mk hbl; clear hb5 hg5 hbl)
        | ((with_reducible refine gate_store (t := 43) (p := 5) (v := .tmp 15) rfl ?_); refine ev_storeB rfl 43 (.tmp 5) (.tmp 15) rfl g5 _ rfl rfl 43 _ HB5.out HZ1.out.1 HZ1.out.2.1 HZ1.out.2.2 ?_; intro w3 hb3 hoth hsz hbel; have CS : Aside0 (Cst w w3 g5 x u3 (l.take i) (.slice Axl x.l.length cxl) (.slice Axt x.t.length cxt) (.slice Axb x.body.length cxb) (.slice Axe x.els.length cxe)) := ⟨⟨hb3, Kd.R_move (Kd.R_below (Kd.R_mono (Kd.R_bound (by (with_reducible repeat (first | apply Kd.R_alloc | apply Kd.R_drewN | apply Kd.R_drew)); exact HO.out)) (fun k hk => by have := hk.2.2.1; have := HG5.out; omega)) HBL.out) hoth, hbel _ _ (by rw [HG5.out]; exact (show Below w.heap.size w _ by repeat (first | exact HB.out | apply pw_below_drewN | apply below_drew1)).size) (below_step (by repeat (first | exact HB.out | apply pw_below_drewN | apply below_drew1)) HBL.out), by rw [HG5.out]; exact (show Below w.heap.size w _ by repeat (first | exact HB.out | apply pw_below_drewN | apply below_drew1)).size⟩⟩; clear HB5 HG5 HBL hb3 hoth hsz hbel)
        | ((with_reducible refine gate_store (t := 37) (p := 16) (v := .const (.slice none 0 0)) rfl ?_); refine ev_storeC rfl 37 (.tmp 16) (.const (.slice none 0 0)) rfl g5 20 _ rfl rfl 43 _ _ CS.out.1 (by rw [cellsI_size _ H16.out]; decide) size37 (by rfl) (cellsI_set _ H16.out _ _ _ _ _).1 ?_; intro w4 hb hoth hsz hbel; have n0_ := Aside0.mk (CS.out.store hb hoth hbel); clear CS hb hoth hsz hbel; have CS := n0_; clear n0_))
      have X20 : Aside0 (w4.cell? ⟨xb, xo + i * 27 + 20, none⟩ = some (.slice Axl x.l.length cxl)) := ⟨RX.out w4 CS.out.2.2.1 20 _ (cellsI_at x H16.out _ _ _ _).2.2.2.2.1⟩
      refine start_ (n := 10) (S := fun w' => w'.cell? ⟨g5, 20, none⟩ = some (.slice none 0 0) ∧ w'.cell? ⟨xb, xo + i * 27 + 20, none⟩ = some (.slice Axl x.l.length cxl)) (ds := [7, 9]) #[false,false,false,false,false,false,false,false,false,false] (by kernel_rfl) rfl rfl ⟨(CS.out.cells H16.out).1, X20.out⟩ (fun hHeld => ?_); refine with_tabW jacquardref11_Copy.tab7 jacquardref11_Copy.bits7 (fun HT_ HW_ => ?_)
      refine pure_ (i := 0) (N := some 17) (v := ?_) (a' := ?_) #[true,false,false,false,false,false,false,false,false,false] rfl rfl (any_of HT_.out (by kernel_rfl)) (fun _ _ _ h => h) (Or.inl ⟨by rfl, ?_⟩) ?_ ?_
      rotate_left
      · intro w'
        go_simp
        with_reducible rfl
      rotate_left
      · simp only [Act.put, List.setIfInBounds_toArray, List.set_cons_zero, List.set_cons_succ, i64_w, i32_w]
        rfl
      refine pure_ (i := 2) (N := some 19) (v := ?_) (a' := ?_) #[true,false,true,false,false,false,false,false,false,false] rfl rfl (any_of HT_.out (by kernel_rfl)) (fun _ _ _ h => h) (Or.inl ⟨by rfl, ?_⟩) ?_ ?_
      rotate_left
      · intro w'
        go_simp
        with_reducible rfl
      rotate_left
      · simp only [Act.put, List.setIfInBounds_toArray, List.set_cons_zero, List.set_cons_succ, i64_w, i32_w]
        rfl
      refine pure_ (i := 3) (N := some 20) (v := ?_) (a' := ?_) #[true,false,true,true,false,false,false,false,false,false] rfl rfl (any_of HT_.out (by kernel_rfl)) (fun _ _ _ h => h) (Or.inl ⟨by rfl, ?_⟩) ?_ ?_
      rotate_left
      · intro w'
        go_simp
        with_reducible rfl
      rotate_left
      · simp only [Act.put, List.setIfInBounds_toArray, List.set_cons_zero, List.set_cons_succ, i64_w, i32_w]
        rfl
      refine pure_ (i := 4) (N := some 21) (v := ?_) (a' := ?_) #[true,false,true,true,true,false,false,false,false,false] rfl rfl (any_of HT_.out (by kernel_rfl)) (fun _ _ _ h => h) (Or.inl ⟨by rfl, ?_⟩) ?_ ?_
      rotate_left
      · intro w'
        go_simp
        with_reducible rfl
      rotate_left
      · simp only [Act.put, List.setIfInBounds_toArray, List.set_cons_zero, List.set_cons_succ, i64_w, i32_w]
        rfl
      refine pure_ (i := 5) (N := some 22) (v := ?_) (a' := ?_) #[true,false,true,true,true,true,false,false,false,false] rfl rfl (any_of HT_.out (by kernel_rfl)) (fun _ _ _ h => h) (Or.inl ⟨by rfl, ?_⟩) ?_ ?_
      rotate_left
      · intro w'
        go_simp
        with_reducible rfl
      rotate_left
      · simp only [Act.put, List.setIfInBounds_toArray, List.set_cons_zero, List.set_cons_succ, i64_w, i32_w]
        rfl
      refine take_ (i := 1) (N := some 18) (v := ?_) (a' := ?_) #[true,true,true,true,true,true,false,false,false,false] rfl rfl (take_ofW HT_.out HW_.out (by kernel_rfl)) (fun _ _ _ h => h) (Or.inl ⟨by rfl, ?_⟩) hHeld ?_ ?_
      rotate_left
      · intro w' s0
        have c0 := s0.1
        go_simp
        with_reducible rfl
      rotate_left
      · simp only [Act.put, List.setIfInBounds_toArray, List.set_cons_zero, List.set_cons_succ, i64_w, i32_w]
        rfl
      refine take_ (i := 6) (N := some 23) (v := ?_) (a' := ?_) #[true,true,true,true,true,true,true,false,false,false] rfl rfl (take_ofW HT_.out HW_.out (by kernel_rfl)) (fun _ _ _ h => h) (Or.inl ⟨by rfl, ?_⟩) hHeld ?_ ?_
      rotate_left
      · intro w' s0
        have c0 := s0.2
        go_simp
        with_reducible rfl
      rotate_left
      · simp only [Act.put, List.setIfInBounds_toArray, List.set_cons_zero, List.set_cons_succ, i64_w, i32_w]
        rfl
      refine last_ (i := 7) (N := some 24) #[true,true,true,true,true,true,true,true,false,false] rfl rfl (one_of HT_.out (by kernel_rfl)) (by decide) (fun K hK => ?_)
      refine Kd.R_append_rows_step (Kd.int .u32) (w0 := w4) w4.heap.size (by rfl) (.tmp 18) (.tmp 23) 37 34 (.int .u32 0) 4 rfl Tryd.underlying37 info34 rfl (by decide) (by decide) (.slice none 0 0) ([] : List Int) x.l _ _ _ (fun _ => True) (fun _ => False) rfl rfl (Kd.R_nil _ _ _ _ (fun _ => True)) (Kd.C_drew (CL.out w4 CS.out.2.2.1)) (fun _ _ h => h) (fun _ h => h.elim) (fun _ _ => trivial) (below_drew1 (Below.refl _ _)) (Nat.le_refl _) LL.out ?_
      intro vL w5 ho hb hg hat
      rw [List.nil_append] at ho
      obtain ⟨AL, cAL, rfl⟩ := Kd.R_slice ho
      have n0_ := Aside0.mk (CS.out.below hb)
      have n1_ := Aside0.mk (CS.out.fresh ho)
      have n2_ := Aside0.mk (RX.out)
      clear CS ho hb hg hat
      have CS := n0_
      have RL := n1_
      clear n0_ n1_ n2_
      refine hK.out _ _ ?_
      clear hK K
      refine norm_ (a' := ?_) ?_ ?_
      rotate_left
      · show Act.put _ (some 24) _ = _
        simp only [Act.put, List.setIfInBounds_toArray, List.set_cons_zero, List.set_cons_succ, i64_w, i32_w]
        rfl
      refine pure_ (i := 8) (N := some 25) (v := ?_) (a' := ?_) #[true,true,true,true,true,true,true,true,true,false] rfl rfl (any_of HT_.out (by kernel_rfl)) (fun _ _ _ h => h) (Or.inl ⟨by rfl, ?_⟩) ?_ ?_
      rotate_left
      · intro w'
        go_simp
        with_reducible rfl
      rotate_left
      · simp only [Act.put, List.setIfInBounds_toArray, List.set_cons_zero, List.set_cons_succ, i64_w, i32_w]
        rfl
      refine last_ (i := 9) (N := none) #[true,true,true,true,true,true,true,true,true,true] rfl rfl (one_of HT_.out (by kernel_rfl)) (by decide) (fun K hK => ?_)
      refine storeC_step (by rfl) 37 (.tmp 25) (.tmp 24) rfl g5 20 (.slice AL x.l.length cAL) rfl rfl 43 _ _ CS.out.1 (by rw [cellsI_size _ H16.out]; decide) size37 rfl (cellsI_set _ H16.out _ _ _ _ _).1 ?_
      intro w6 hb hoth hsz hbel
      have n0_ := Aside0.mk (CS.out.store hb hoth hbel)
      have n1_ := Aside0.mk (RL.out.store hoth)
      clear CS RL hb hoth hsz hbel
      have CS := n0_
      have RL := n1_
      clear n0_ n1_
      refine hK.out _ _ ?_
      clear hK K
      refine done_ (done_of HT_.out (by kernel_rfl)) ?_
      have c21 := (CS.out.cells H16.out).2.1
      have c25 := (CS.out.cells H16.out).2.2.1
      have c26 := (CS.out.cells H16.out).2.2.2
      have CC := Aside0.mk (And.intro c21 (And.intro c25 c26))
      try go_wp2_with (first
        | (go_at_call 27; refine (jacquardref00_CopyTypes.calls Axt cxt x.t x.t _ (CT.out.2 _ (by repeat (first | exact Cst.bel CS.out | apply pw_below_drewN | apply below_drew1))) CT.out.1 TF.out).mono ?_; rintro e w7 ⟨vT, rfl, ho, hb⟩; obtain ⟨AT, cAT, rfl⟩ := Kd.R_slice ho; have n0_ := Aside0.mk (CS.out.below hb); have n1_ := Aside0.mk (CS.out.fresh ho); have n2_ := Aside0.mk (RL.out.below hb); clear CS RL ho hb; have CS := n0_; have RT := n1_; have RL := n2_; clear n0_ n1_ n2_)
        | ((with_reducible refine gate_store (t := 38) (p := 29) (v := .tmp 28) rfl ?_); refine ev_storeC rfl 38 (.tmp 29) (.tmp 28) rfl g5 21 _ rfl rfl 43 _ _ CS.out.1 (by rw [cellsI_size _ H16.out]; decide) size38 (by rfl) (cellsI_set _ H16.out _ _ _ _ _).2.1 ?_; intro w8 hb hoth hsz hbel; have n0_ := Aside0.mk (CS.out.store hb hoth hbel); have n1_ := Aside0.mk (RL.out.store hoth); have n2_ := Aside0.mk (RT.out.store hoth); clear CS RL RT hb hoth hsz hbel; have CS := n0_; have RL := n1_; have RT := n2_; clear n0_ n1_ n2_; have c25 := (CS.out.cells H16.out).2.2.1)
        | (go_at_call 9; with_reducible refine (HI.out Axb cxb x.body _ CB.out.1 (CB.out.2 _ (by repeat (first | exact Cst.bel CS.out | apply pw_below_drewN | apply below_drew1))) WB.out.1 WB.out.2).mono ?_; rintro e w9 ⟨vB, rfl, ho, hb⟩; obtain ⟨AB, cAB, rfl⟩ := Kd.R_slice ho; have n0_ := Aside0.mk (CS.out.below hb); have n1_ := Aside0.mk (CS.out.fresh ho); have n2_ := Aside0.mk (RL.out.below hb); have n3_ := Aside0.mk (RT.out.below hb); clear CS RL RT ho hb; have CS := n0_; have RB := n1_; have RL := n2_; have RT := n3_; clear n0_ n1_ n2_ n3_)
        | ((with_reducible refine gate_store (t := 22) (p := 33) (v := .tmp 32) rfl ?_); refine ev_storeC rfl 22 (.tmp 33) (.tmp 32) rfl g5 25 _ rfl rfl 43 _ _ CS.out.1 (by rw [cellsI_size _ H16.out]; decide) size22 (by rfl) (cellsI_set _ H16.out _ _ _ _ _).2.2.1 ?_; intro w10 hb hoth hsz hbel; have n0_ := Aside0.mk (CS.out.store hb hoth hbel); have n1_ := Aside0.mk (RL.out.store hoth); have n2_ := Aside0.mk (RT.out.store hoth); have n3_ := Aside0.mk (RB.out.store hoth); clear CS RL RT RB hb hoth hsz hbel; have CS := n0_; have RL := n1_; have RT := n2_; have RB := n3_; clear n0_ n1_ n2_ n3_; have c26 := (CS.out.cells H16.out).2.2.2)
        | (go_at_call 9; with_reducible refine (HI.out Axe cxe x.els _ CE.out.1 (CE.out.2 _ (by repeat (first | exact Cst.bel CS.out | apply pw_below_drewN | apply below_drew1))) WE.out.1 WE.out.2).mono ?_; rintro e w11 ⟨vE, rfl, ho, hb⟩; obtain ⟨AE, cAE, rfl⟩ := Kd.R_slice ho; have n0_ := Aside0.mk (CS.out.below hb); have n1_ := Aside0.mk (CS.out.fresh ho); have n2_ := Aside0.mk (RL.out.below hb); have n3_ := Aside0.mk (RT.out.below hb); have n4_ := Aside0.mk (RB.out.below hb); clear CS RL RT RB ho hb; have CS := n0_; have RE := n1_; have RL := n2_; have RT := n3_; have RB := n4_; clear n0_ n1_ n2_ n3_ n4_)
        | ((with_reducible refine gate_store (t := 22) (p := 37) (v := .tmp 36) rfl ?_); refine ev_storeC rfl 22 (.tmp 37) (.tmp 36) rfl g5 26 _ rfl rfl 43 _ _ CS.out.1 (by rw [cellsI_size _ H16.out]; decide) size22 (by rfl) (cellsI_set _ H16.out _ _ _ _ _).2.2.2 ?_; intro w12 hb hoth hsz hbel; have n0_ := Aside0.mk (CS.out.store hb hoth hbel); have n1_ := Aside0.mk (RL.out.store hoth); have n2_ := Aside0.mk (RT.out.store hoth); have n3_ := Aside0.mk (RB.out.store hoth); have n4_ := Aside0.mk (RE.out.store hoth); clear CS RL RT RB RE hb hoth hsz hbel; have CS := n0_; have RL := n1_; have RT := n2_; have RB := n3_; have RE := n4_; clear n0_ n1_ n2_ n3_ n4_)
        | ((with_reducible refine gate_dst (N := 39) rfl ?_); refine ev_loadB rfl 43 (.tmp 5) rfl g5 0 27 (cellsI x (.slice AL x.l.length cAL) (.slice AT x.t.length cAT) (.slice AB x.body.length cAB) (.slice AE x.els.length cAE)) (cellsI x (.slice AL x.l.length cAL) (.slice AT x.t.length cAT) (.slice AB x.body.length cAB) (.slice AE x.els.length cAE)) _ rfl (by first | exact CS.out.1 | exact blk_drewN CS.out.1 _) (by rw [List.drop_zero]; exact List.take_of_length_le (Nat.le_of_eq (cellsI_len x H16.out _ _ _ _))) (cellsI_len x H16.out _ _ _ _) Tryd.underlying43 rfl info43 ?_)
        | ((with_reducible refine gate_dst (N := 40) rfl ?_); refine ev_lit1 (w0 := w) w.heap.size rfl (.tmp 39) rfl (cellsI x (.slice AL x.l.length cAL) (.slice AT x.t.length cAT) (.slice AB x.body.length cAB) (.slice AE x.els.length cAE)) rfl (cellsI_len x H16.out _ _ _ _) x (fun k => k ≠ g5 ∧ some k ≠ u3.ownBlock) (kI_mkM _ _ _ x H16.out (by first | exact RL.out | exact Kd.R_drewN RL.out _) (by first | exact RT.out | exact Kd.R_drewN RT.out _) (by first | exact RB.out | exact Kd.R_drewN RB.out _) (by first | exact RE.out | exact Kd.R_drewN RE.out _)) ⟨Nat.ne_of_gt (blk_lt CS.out.1), fun e => absurd (Kd.R_lt CS.out.2.1 _ e.symm) (Nat.lt_irrefl _)⟩ (by repeat (first | exact Cst.bel CS.out | apply pw_below_drewN | apply below_drew1)) (Cst.bel CS.out).size ?_; intro v40 w13 ho hB hb; obtain ⟨A40, c40, rfl⟩ := Kd.R_slice ho; have HO40 := Aside0.mk ho; have HB13 := Aside0.mk hB; have HO3 := Aside0.mk (Kd.R_below CS.out.2.1 hb); have n0_ := Aside0.mk (blk_below CS.out.1 hb); clear CS RL RT RB RE ho hB hb; have BK := n0_; clear n0_)
        | ((with_reducible refine gate_builtin (b := .append) (xs := #[.tmp 38, .tmp 40]) rfl ?_); at_builtin; refine Kd.R_append_rows kI (w0 := w) w.heap.size rfl (.tmp 38) (.tmp 40) 22 43 (.agg (cellsI zI (.slice none 0 0) (.slice none 0 0) (.slice none 0 0) (.slice none 0 0)).toArray) 144 rfl Tryd.underlying22 info43a rfl (show 0 < 27 by decide) (by decide) u3 (l.take i) [x] A40 1 c40 (fun k => k ≠ g5) (fun k => k ≠ g5 ∧ some k ≠ u3.ownBlock) rfl rfl HO3.out (R_rr HO40.out) (fun _ _ h => h) (fun _ hk => hk) (fun k hk => by have := blk_lt BK.out; omega) HB13.out HB13.out.size AP.out ?_; intro v41 w14 ho hb hg hat; rw [HSN.out] at ho; have n0_ := Aside0.mk (Kd.R_mono ho (fun _ _ => trivial)); have n1_ := Aside0.mk hb; clear HO HB HO3 HO40 HB13 BK ho hb hg hat; have HO := n0_; have HB := n1_; clear n0_ n1_))
      go_roundg (gk - 1)
      case measure => omega
      case rel => exact ⟨i + 1, by rw [w1eq], by omega, ⟨by (with_reducible repeat (first | apply Kd.R_alloc | apply Kd.R_drewN | apply Kd.R_drew)); exact HO.out⟩, ⟨by repeat (first | exact HB.out | apply pw_below_drewN | apply below_drew1)⟩⟩
end Go.Proofs.YtobldeamemmokaaDoor.P

