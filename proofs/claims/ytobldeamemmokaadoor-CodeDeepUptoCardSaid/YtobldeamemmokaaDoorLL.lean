import Derived.Test.YtobldeamemmokaaDoorLJ
import Derived.Test.YtobldeamemmokaaDoorLF
/-! The law's lives. -/
namespace Go.Proofs.YtobldeamemmokaaDoor.P
open Go.RowKit Go.Proofs.YtobldeamemmokaaDoorW.PrintWords Go.Proofs.YtobldeamemmokaaDoorW.PrintLast Go.Proofs.YtobldeamemmokaaDoorW.PrintMore
set_option linter.unusedVariables false
set_option linter.unusedSimpArgs false
theorem of65 : (ops_Of.f 300 65).map (fun q => (q.1, q.2.2.1, q.2.2.2.2.2.2.2)) = some (65, 20, 0) := by kernel_rfl
theorem lebS : leb_S.f 300 [65, 127, 11] 1 32 = some (-1, 2, 0) := by kernel_rfl
def blk0 : I := { zI with op := 2 }
def blk1 : I := { zI with op := 2, body := [blk0] }
theorem put1 : putL 300 20 [⟨[blk1], []⟩] [] = some [2, 64, 2, 64, 11, 11, 11] := by kernel_rfl
theorem dep1 : eachL sDepth 20 [⟨[blk1], 0, 0⟩] 0 = some 2 := by kernel_rfl
theorem may1 : mayO 300 20 [blk1] 2 = some true := by kernel_rfl
theorem same1 : jacquardref00_Same.f 300 [2, 64, 2, 64, 11, 11, 11] [2, 64, 2, 64, 11, 11, 11] = some true := by kernel_rfl
theorem built43c (A : Option Addr) (c : Nat) : Tryd.prog.built 43 [(0, .int .u16 2), (8, .slice A 1 c)] = some (cellsI blk1 (.slice none 0 0) (.slice none 0 0) (.slice A 1 c) (.slice none 0 0)).toArray := by kernel_rfl
theorem ev_build43c {ops : Array Oper} {rest : List Oper} {o : Oper} {a : Act} {w : World} {Q : Exit → Act → World → Prop} (hg : o.guard = none) (y : Operand) (ho : o.op = .build 43 #[(0, .const (.int .u16 2)), (8, y)]) (A : Option Addr) (c : Nat) (hx : a.eval y = .slice A 1 c)
    (h : wpList Tryd.prog ops Q rest (a.put o.dst (.agg (cellsI blk1 (.slice none 0 0) (.slice none 0 0) (.slice A 1 c) (.slice none 0 0)).toArray)) w) : wpList Tryd.prog ops Q (o :: rest) a w := by
  refine Kd.event_run hg ?_ h
  have hk : a.eval (.const (.int .u16 2)) = .int .u16 2 := rfl
  unfold execOp
  simp only [ho, List.map_toArray, List.map_cons, List.map_nil, hk, hx, Sem.run_bind, run_build w 43 _ _ (built43c A c), Result.andThen_ok]
  rfl
set_option maxHeartbeats 8000000 in
set_option maxRecDepth 100000 in
theorem lives_calls (w : World) (hT : Go.Proofs.YtobldeamemmokaaDoorTabs.Tab w) : Calls Tryd.prog 11 #[] w fun e w' => e = .returned (.bool true) ∧ Below w.heap.size w w' := by
  obtain ⟨⟨q1, r2, q3, r4, r5, r6, r7, q8⟩, ho, hq⟩ := Option.map_eq_some_iff.1 of65
  simp only [Prod.mk.injEq] at hq
  obtain ⟨rfl, rfl, rfl⟩ := hq
  have HT := Aside0.mk hT
  have HO := Aside0.mk ho
  have HB := Aside0.mk (Below.refl w.heap.size w)
  clear hT ho
  go_enter Tryd.func11, Tryd.ntmps11
  go_wp2_with (first
    | ((with_reducible refine gate_dst (N := 7) rfl ?_); refine Kd.R_lit (Kd.int .u8) (w0 := w) w.heap.size 5 ?hg (N := 7) ?hd (xs := ([65, 127, 11] : List Int)) (inner := [.int .u8 65, .int .u8 127, .int .u8 11]) (ok := fun _ => True) (okp := fun _ => True) ?hr ?hp (fun _ hk => hk) trivial HB.out (Nat.le_refl _) (by simp) ?_; (case hd => rfl); (case hg => rfl); (case hr => first | (go_simp; done) | (go_simp; rfl)); (case hp => exact Reps.one (show Kd.M (Kd.int .u8) _ _ _ 65 [.int .u8 65] from rfl) (Reps.one (show Kd.M (Kd.int .u8) _ _ _ 127 [.int .u8 127] from rfl) (Reps.one (show Kd.M (Kd.int .u8) _ _ _ 11 [.int .u8 11] from rfl) (Reps.none _ _)))); intro v7 w1 ho hb hg_ hnew_; obtain ⟨A7, c7, rfl⟩ := Kd.R_slice ho; have RB := Aside0.mk ho; clear HB ho hg_ hnew_; have HB := Aside0.mk hb; clear hb)
    | (go_at_call 12; refine (Expr_calls 300 300 A7 c7 _ (HT.out.below HB.out) (Kd.R_reads' RB.out).2.1 (Kd.R_reads' RB.out).2.2 HO.out lebS).mono ?_; rintro e w2 ⟨vL, rfl, hr, hb⟩; obtain ⟨AL, cAL, rfl⟩ := Kd.R_slice hr; have RL := Aside0.mk (Kd.R_lower hr HB.out.size); have n0_ := Aside0.mk (below_step HB.out hb); clear HB RB hr hb; have HB := n0_; clear n0_)
    | ((with_reducible refine gate_dst (N := 13) rfl ?_); refine ev_build43 rfl (.const (.int .u16 2)) rfl 2 rfl ?_)
    | ((with_reducible refine gate_dst (N := 14) rfl ?_); refine ev_lit1 (w0 := w) w.heap.size rfl (.tmp 13) rfl (cellsI blk0 (.slice none 0 0) (.slice none 0 0) (.slice none 0 0) (.slice none 0 0)) rfl rfl blk0 (fun _ => True) (kI_mkM _ _ _ blk0 rfl (Kd.R_nil _ _ _ _ _) (Kd.R_nil _ _ _ _ _) (Kd.R_nil _ _ _ _ _) (Kd.R_nil _ _ _ _ _)) trivial HB.out HB.out.size ?_; intro v14 w3 ho hB hb; obtain ⟨A14, c14, rfl⟩ := Kd.R_slice ho; have R14 := Aside0.mk ho; have n1_ := Aside0.mk (Kd.R_below RL.out hb); clear HB RL ho hb; have HB := Aside0.mk hB; have RL := n1_; clear n1_ hB)
    | ((with_reducible refine gate_dst (N := 15) rfl ?_); refine ev_build43c rfl (.tmp 14) rfl A14 c14 rfl ?_)
    | ((with_reducible refine gate_dst (N := 16) rfl ?_); refine ev_lit1 (w0 := w) w.heap.size rfl (.tmp 15) rfl (cellsI blk1 (.slice none 0 0) (.slice none 0 0) (.slice A14 1 c14) (.slice none 0 0)) rfl rfl blk1 (fun _ => True) (kI_mkM _ _ _ blk1 rfl (Kd.R_nil _ _ _ _ _) (Kd.R_nil _ _ _ _ _) R14.out (Kd.R_nil _ _ _ _ _)) trivial HB.out HB.out.size ?_; intro v16 w4 ho hB hb; obtain ⟨A16, c16, rfl⟩ := Kd.R_slice ho; have R16 := Aside0.mk ho; have n1_ := Aside0.mk (Kd.R_below RL.out hb); clear HB RL R14 ho hb; have HB := Aside0.mk hB; have RL := n1_; clear n1_ hB)
    | (go_at_call 10; refine (Put_calls 300 20 A16 c16 [blk1] [2, 64, 2, 64, 11, 11, 11] _ (HT.out.below HB.out) (Kd.R_reads' R16.out).2.1 (Kd.R_reads' R16.out).2.2 (fun W hW => May_calls 300 20 20 A16 c16 [blk1] 2 true W ((HT.out.below HB.out).below hW) (Kd.R_reads' R16.out).2.1 (Kd.C_below (Kd.R_reads' R16.out).2.2 hW) dep1 may1) put1).mono ?_; rintro e w5 ⟨vP, rfl, hr, hb⟩; obtain ⟨AP, cAP, rfl⟩ := Kd.R_slice hr; have RP := Aside0.mk hr; have n1_ := Aside0.mk (Kd.R_below RL.out hb); have n0_ := Aside0.mk (below_step HB.out hb); clear HB RL R16 hr hb; have HB := n0_; have RL := n1_; clear n0_ n1_; obtain ⟨gl, cl, el, hgl, hll, hty⟩ := Kd.R_form RL.out (by decide); obtain ⟨cs, hcl, hM, hcc, hff⟩ := Kd.R_elem (by have h9 := RL.out; rw [el] at h9; exact h9) zI (0 : Int) (by decide) (by decide); obtain ⟨vl, vt, vb, ve, rfl, _, _, _, _, _⟩ := kI_openM (show kI.M _ _ _ i32c cs from hM); have c3 : w5.cell? ⟨gl, 3, none⟩ = some (.int .u64 4294967295) := hcc 3 _ rfl; clear hcc hff hM hcl hty hll hgl)
    | ((with_reducible refine gate_dst (N := 44) rfl ?_); refine gate_guard (by rfl) ?_; refine Kd.R_lit (Kd.int .u8) (w0 := w) w.heap.size 5 ?hg3 (N := 44) ?hd3 (xs := ([2, 64, 2, 64, 11, 11, 11] : List Int)) (inner := [.int .u8 2, .int .u8 64, .int .u8 2, .int .u8 64, .int .u8 11, .int .u8 11, .int .u8 11]) (ok := fun _ => True) (okp := fun _ => True) ?hr3 ?hp3 (fun _ hk => hk) trivial ?hb3 ?hs3 (by simp) ?_; (case hd3 => rfl); (case hg3 => rfl); (case hb3 => repeat (first | exact HB.out | apply pw_below_drewN | apply below_drew1)); (case hs3 => exact HB.out.size); (case hr3 => first | (go_simp; done) | (go_simp; rfl)); (case hp3 => exact Reps.one (show Kd.M (Kd.int .u8) _ _ _ 2 [.int .u8 2] from rfl) (Reps.one (show Kd.M (Kd.int .u8) _ _ _ 64 [.int .u8 64] from rfl) (Reps.one (show Kd.M (Kd.int .u8) _ _ _ 2 [.int .u8 2] from rfl) (Reps.one (show Kd.M (Kd.int .u8) _ _ _ 64 [.int .u8 64] from rfl) (Reps.one (show Kd.M (Kd.int .u8) _ _ _ 11 [.int .u8 11] from rfl) (Reps.one (show Kd.M (Kd.int .u8) _ _ _ 11 [.int .u8 11] from rfl) (Reps.one (show Kd.M (Kd.int .u8) _ _ _ 11 [.int .u8 11] from rfl) (Reps.none _ _)))))))); intro v44 w6 ho hb hg_ hnew_; obtain ⟨A44, c44, rfl⟩ := Kd.R_slice ho; have R44 := Aside0.mk ho; have n1_ := Aside0.mk (R_none RP.out hg_); clear HB RP ho hg_ hnew_; have HB := Aside0.mk hb; have RP := n1_; clear hb n1_)
    | (go_at_call 16; refine (jacquardref00_Same.calls 300 AP cAP [2, 64, 2, 64, 11, 11, 11] A44 c44 [2, 64, 2, 64, 11, 11, 11] true _ (Kd.R_reads' RP.out).2.2 (Kd.R_reads' RP.out).2.1 (Kd.R_reads' R44.out).2.2 (Kd.R_reads' R44.out).2.1 same1).mono ?_; rintro e w7 ⟨rfl, ⟨nd, rfl⟩⟩))
  go_ret
  exact ⟨rfl, by repeat (first | exact HB.out | apply pw_below_drewN | apply below_drew1)⟩
end Go.Proofs.YtobldeamemmokaaDoor.P

