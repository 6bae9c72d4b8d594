import Derived.Test.YtobldeamemmokaaDoorLFa
/-! code.Put. -/
namespace Go.Proofs.YtobldeamemmokaaDoor.P
open Go.RowKit Go.Proofs.YtobldeamemmokaaDoorW.PrintWords Go.Proofs.YtobldeamemmokaaDoorW.PrintLast Go.Proofs.YtobldeamemmokaaDoorW.PrintMore
set_option linter.unusedVariables false
set_option linter.unusedSimpArgs false
def code_Put.T12 : Bool × List (List Nat × List Nat) := (true, [([], []), ([], []), ([1], [1]), ([2], [2]), ([0, 3, 3], [0, 3]), ([], []), ([5, 4], [5]), ([4, 6, 6], [4, 6]), ([7, 7, 0, 1, 2, 3, 4, 5, 6, 7], [0, 7])])
def code_Put.B12 : List Nat := [0, 0, 2, 6, 15, 0, 63, 127, 255]
theorem code_Put.tab12 : rtab .any (opsOf Tryd.f10 12) = code_Put.T12 := by kernel_rfl
theorem code_Put.bits12 : waitsOk code_Put.T12.2 code_Put.B12 = true := by kernel_rfl
set_option maxHeartbeats 8000000 in
set_option maxRecDepth 100000 in
theorem Put_calls (K0 k : Nat) (A : Option Addr) (c : Nat) (l : List I) (bs : List Int) (w : World) (hT : Go.Proofs.YtobldeamemmokaaDoorTabs.Tab w) (hc : l.length ≤ c) (hl : kI.C w A l.length l)
    (hM : ∀ W, Below w.heap.size w W → Calls Tryd.prog 19 #[.slice A l.length c] W fun e w' => e = .returned (.bool true) ∧ Below W.heap.size W w') (h : putL K0 k [⟨l, []⟩] [] = some bs) :
    Calls Tryd.prog 10 #[.slice A l.length c] w fun e w' => ∃ v, e = .returned (.tuple #[v, .int .i64 0]) ∧ (Kd.int .u8).R 5 w' w.heap.size (fun _ => True) v bs ∧ Below w.heap.size w w' := by
  have HL := Aside0.mk hl
  have HC := Aside0.mk hc
  have HT := Aside0.mk hT
  have HM := Aside0.mk hM
  have H' := Aside0.mk h
  clear hl hc hT hM h
  go_enter Tryd.func10, Tryd.ntmps10
  go_wp2_with (first
    | (go_at_call 19; refine (HM.out _ (by repeat (first | exact Below.refl _ _ | apply pw_below_drewN | apply below_drew1))).mono ?_; rintro e w1 ⟨rfl, hb⟩; have HB0 := Aside0.mk (show Below w.heap.size w w1 from below_step (by repeat (first | exact Below.refl _ _ | apply pw_below_drewN | apply below_drew1)) hb); clear hb)
    | ((with_reducible refine gate_dst (N := 13) rfl ?_); refine Kd.R_lit (kPr w) w.heap.size 58 ?hg (N := 13) ?hd (xs := [(⟨l, []⟩ : Pr)]) (inner := [.slice A l.length c, .slice none 0 0]) (ok := fun _ => True) (okp := fun _ => True) ?hr ?hp (fun _ hk => hk) trivial HB0.out HB0.out.size (by simp) ?_; (case hd => rfl); (case hg => rfl); (case hr => first | (go_simp; done) | (go_simp; rfl)); (case hp => exact Reps.c2 (kPr_mkM w _ _ _ ⟨l, []⟩ HC.out HL.out (Nat.le_refl _) (Kd.C_nil _ _)) (Reps.none _ _)); intro v13 w2 ho hb hg_ hnew_; clear hg_ hnew_; have HO := Aside0.mk ho; have n1_ := Aside0.mk hb; clear HB0; have HB0 := n1_; clear n1_ ho hb))
  go_loopg [4, 5] k (fun kq v4 v5 w' => ∃ (rs : List Pr) (b : List Int), Aside0 (putL K0 kq rs b = some bs) ∧ Aside0 ((Kd.int .u8).R 5 w' w.heap.size (fun _ => True) v4 b) ∧ Aside0 ((kPr w).R 58 w' w.heap.size (fun _ => True) v5 rs.reverse) ∧ Aside0 (Below w.heap.size w w') ∧ Aside0 (kq ≤ k))
  case atStart => exact ⟨[⟨l, []⟩], [], H', ⟨Kd.R_nil _ _ _ _ _⟩, HO, HB0, ⟨Nat.le_refl _⟩⟩
  case round =>
    clear H' HO HB0 HM
    obtain ⟨rs, b, HA, HV, HR, HB0, HK1⟩ := hrel
    cases gk with
    | zero => exact absurd HA.out (by simp [putL])
    | succ k1 =>
      cases rs with
      | nil =>
        have HR' := HR.out
        obtain ⟨A5, c5, rfl⟩ := Kd.R_slice HR'
        obtain rfl : b = bs := Option.some.inj HA.out
        clear HR' HA
        go_wp2
        go_ret2
        exact ⟨_, rfl, by (with_reducible repeat (first | apply Kd.R_alloc | apply Kd.R_drewN | apply Kd.R_drew)); exact HV.out, by repeat (first | exact HB0.out | apply pw_below_drewN | apply below_drew1)⟩
      | cons p rs =>
        have HR' := HR.out
        rw [List.reverse_cons] at HR'
        have hlen : (rs.reverse ++ [p]).length = rs.length + 1 := by simp
        obtain ⟨g, cap, rfl, hbg, hlt, hty⟩ := Kd.R_form HR' (by omega)
        rw [hlen] at HR' ⊢
        obtain ⟨n, hn⟩ : ∃ n, n = rs.length := ⟨_, rfl⟩
        rw [← hn] at HR' ⊢
        obtain ⟨cs, hcl, hM, hcc, hff⟩ := Kd.R_elem HR' zPr (n : Int) (by omega) (by omega)
        have hgp : (rs.reverse ++ [p]).getD ((n : Int)).toNat zPr = p := by rw [Int.toNat_natCast, List.getD_eq_getElem?_getD, List.getElem?_append_right (by simp [hn]), List.length_reverse, hn]; simp
        rw [hgp] at hM
        obtain ⟨Ap, cp, Bp, dp, rfl, hlp, hcp, hlp', hcp'⟩ := kPr_openM hM
        have hn2 : n < 9223372036854775807 := by have := Kd.C_max (Kd.R_reads' HR').2.2; have := (Kd.R_reads' HR').1; omega
        have q0 : wr.cell? ⟨g, n * 2, none⟩ = some (.slice Ap p.a.length cp) := hcc 0 _ rfl
        have q1 : wr.cell? ⟨g, n * 2 + 1, none⟩ = some (.slice Bp p.b.length dp) := hcc 1 _ rfl
        have f0 : wr.frozen? ⟨g, n * 2, none⟩ = false := hff 0
        have f1 : wr.frozen? ⟨g, n * 2 + 1, none⟩ = false := hff 1
        have hcap : n + 1 ≤ cap := (Kd.R_reads' HR').2.1
        have hcap2 : n ≤ cap := by omega
        obtain ⟨scells, hscells⟩ := hty
        have HTY := Aside0.mk hscells
        have HHR := Aside0.mk HR'
        have HHN := Aside0.mk hn
        have HCP := Aside0.mk (And.intro hlp hcp)
        have HCP' := Aside0.mk (And.intro hlp' hcp')
        have SQ := Aside0.mk (And.intro ((blk_cell hscells (n * 2)).symm.trans q0) ((blk_cell hscells (n * 2 + 1)).symm.trans q1))
        have HBG := Aside0.mk hbg
        clear HR' hcc hcl hM hff hlp hcp hlp' hcp' hn hgp hlen hbg hlt HR hscells
        have d0 : decide (0 < (n : Int) + 1) = true := decide_eq_true (by omega)
        have hA := HA.out
        rw [putL] at hA
        have hb1 : b.length < 1000000000000 := by
          by_cases h : b.length < 1000000000000
          · exact h
          · rw [if_neg h] at hA; cases hA
        rw [if_pos hb1] at hA
        have hr1 : rs.length < 1000000000000 := by
          by_cases h : rs.length < 1000000000000
          · exact h
          · rw [if_neg h] at hA; cases hA
        rw [if_pos hr1] at hA
        have HBL := Aside0.mk hb1
        have HRL := Aside0.mk hr1
        clear hb1 hr1 HA
        by_cases ha : 0 < p.a.length
        rotate_left
        · rw [if_neg ha] at hA
          have e1 : decide (0 < (p.a.length : Int)) = false := decide_eq_false (by omega)
          have ha0 : p.a = [] := List.eq_nil_of_length_eq_zero (by omega)
          by_cases hb : 0 < p.b.length
          · rw [if_pos hb] at hA
            have e2 : decide (0 < (p.b.length : Int)) = true := decide_eq_true (by omega)
            have HHA := Aside0.mk hA
            clear hA
            go_wp2_with (first
              | ((with_reducible refine gate_builtin (b := .append) (xs := #[.tmp 77, .tmp 78]) rfl ?_); at_builtin; refine Kd.R_append (Kd.int .u8) (w0 := w) w.heap.size rfl (.tmp 77) (.tmp 78) 24 5 (.int .u8 0) 1 rfl Tryd.underlying24 info5 rfl (by decide) (by omega) u4 b 5 [.int .u8 5] (fun _ => True) (fun _ => False) rfl rfl ?aP (fun _ hk => hk.elim) ?aF ?aO ?aB ?aS ?aL ?_; (case aP => exact rfl); (case aB => exact (by repeat (first | exact HB0.out | apply below_alloc | apply pw_below_drewN | apply below_drew1))); (case aF => exact (fun _ _ => trivial)); (case aO => exact (by (with_reducible repeat (first | apply Kd.R_alloc | apply Kd.R_drewN | apply Kd.R_drew)); exact HV.out)); (case aS => exact (below_size (by repeat (first | exact HB0.out | apply below_alloc | apply pw_below_drewN | apply below_drew1)))); (case aL => have := HBL.out; omega); intro v_ w7 ho hb hg hat; have n0_ := Aside0.mk (R_apart (d := kPr w) (d' := Kd.int .u8) (base := w.heap.size) (xs := rs.reverse ++ [p]) (v := .slice (some ⟨g, 0, none⟩) (n + 1) cap) hg rfl (show 58 ≠ 5 by decide) (by (with_reducible repeat (first | apply Kd.R_alloc | apply Kd.R_drewN | apply Kd.R_drew)); exact HHR.out) (by (with_reducible repeat (first | apply Kd.R_alloc | apply Kd.R_drewN | apply Kd.R_drew)); exact HV.out)); have n1_ := Aside0.mk ho; have n2_ := Aside0.mk hb; have n3_ := Aside0.mk (blk_apart (d' := Kd.int .u8) (g := g) (cs := scells) hg (show 58 ≠ 5 by decide) (by (with_reducible repeat (first | refine blk_drewN ?_ _ | refine blk_drew ?_ | refine blk_alloc ?_ _)); exact HTY.out) (by (with_reducible repeat (first | apply Kd.R_alloc | apply Kd.R_drewN | apply Kd.R_drew)); exact HV.out)); clear HHR HV HB0 HTY ho hb hg hat; have HHR := n0_; have HV := n1_; have HB0 := n2_; have HTY := n3_; clear n0_ n1_ n2_ n3_; have q0 : w7.cell? ⟨g, n * 2, none⟩ = some (.slice Ap p.a.length cp) := (blk_cell HTY.out _).trans SQ.out.1; have q1 : w7.cell? ⟨g, n * 2 + 1, none⟩ = some (.slice Bp p.b.length dp) := (blk_cell HTY.out _).trans SQ.out.2; have f0 := blk_frozen HTY.out (n * 2); have f1 := blk_frozen HTY.out (n * 2 + 1)))
            go_roundg k1
            case measure => have := HK1.out; omega
            case rel => exact ⟨⟨p.b, []⟩ :: rs, b ++ [5], HHA, ⟨R_set rfl (show 5 ≠ 58 by decide) (R_set rfl (show 5 ≠ 58 by decide) HV.out HTY.out) (blk_set HTY.out _ _)⟩, ⟨by rw [List.reverse_cons]; exact kPr_move2 HHR.out (by rw [HHN.out, List.length_reverse]) HTY.out q0 q1 HCP'.out⟩, ⟨(HB0.out.setCell HBG.out _).setCell HBG.out _⟩, ⟨by have := HK1.out; omega⟩⟩
          · rw [if_neg hb] at hA
            have e2 : decide (0 < (p.b.length : Int)) = false := decide_eq_false (by omega)
            have HHA := Aside0.mk hA
            clear hA
            go_wp2_with (first
              | ((with_reducible refine gate_builtin (b := .append) (xs := #[.tmp 22, .tmp 23]) rfl ?_); at_builtin; refine Kd.R_append (Kd.int .u8) (w0 := w) w.heap.size rfl (.tmp 22) (.tmp 23) 24 5 (.int .u8 0) 1 rfl Tryd.underlying24 info5 rfl (by decide) (by omega) u4 b 11 [.int .u8 11] (fun _ => True) (fun _ => False) rfl rfl ?aP (fun _ hk => hk.elim) ?aF ?aO ?aB ?aS ?aL ?_; (case aP => exact rfl); (case aB => exact (by repeat (first | exact HB0.out | apply below_alloc | apply pw_below_drewN | apply below_drew1))); (case aF => exact (fun _ _ => trivial)); (case aO => exact (by (with_reducible repeat (first | apply Kd.R_alloc | apply Kd.R_drewN | apply Kd.R_drew)); exact HV.out)); (case aS => exact (below_size (by repeat (first | exact HB0.out | apply below_alloc | apply pw_below_drewN | apply below_drew1)))); (case aL => have := HBL.out; omega); intro v_ w7 ho hb hg hat; have n0_ := Aside0.mk (R_apart (d := kPr w) (d' := Kd.int .u8) (base := w.heap.size) (xs := rs.reverse ++ [p]) (v := .slice (some ⟨g, 0, none⟩) (n + 1) cap) hg rfl (show 58 ≠ 5 by decide) (by (with_reducible repeat (first | apply Kd.R_alloc | apply Kd.R_drewN | apply Kd.R_drew)); exact HHR.out) (by (with_reducible repeat (first | apply Kd.R_alloc | apply Kd.R_drewN | apply Kd.R_drew)); exact HV.out)); have n1_ := Aside0.mk ho; have n2_ := Aside0.mk hb; have n3_ := Aside0.mk (blk_apart (d' := Kd.int .u8) (g := g) (cs := scells) hg (show 58 ≠ 5 by decide) (by (with_reducible repeat (first | refine blk_drewN ?_ _ | refine blk_drew ?_ | refine blk_alloc ?_ _)); exact HTY.out) (by (with_reducible repeat (first | apply Kd.R_alloc | apply Kd.R_drewN | apply Kd.R_drew)); exact HV.out)); clear HHR HV HB0 HTY ho hb hg hat; have HHR := n0_; have HV := n1_; have HB0 := n2_; have HTY := n3_; clear n0_ n1_ n2_ n3_; have q0 : w7.cell? ⟨g, n * 2, none⟩ = some (.slice Ap p.a.length cp) := (blk_cell HTY.out _).trans SQ.out.1; have q1 : w7.cell? ⟨g, n * 2 + 1, none⟩ = some (.slice Bp p.b.length dp) := (blk_cell HTY.out _).trans SQ.out.2; have f0 := blk_frozen HTY.out (n * 2); have f1 := blk_frozen HTY.out (n * 2 + 1)))
            go_roundg k1
            case measure => have := HK1.out; omega
            case rel =>
              have h2 := Kd.R_take (m := n) HHR.out (by rw [List.length_append, List.length_reverse, ← HHN.out]; omega)
              have e3 : (rs.reverse ++ [p]).take n = rs.reverse := by rw [HHN.out, ← List.length_reverse, List.take_left]
              rw [e3] at h2
              exact ⟨rs, b ++ [11], HHA, HV, ⟨h2⟩, HB0, ⟨by have := HK1.out; omega⟩⟩
        · rw [if_pos ha] at hA
          have e1 : decide (0 < (p.a.length : Int)) = true := decide_eq_true (by omega)
          obtain ⟨xb, xo, Axl, cxl, Axt, cxt, Axb, cxb, Axe, cxe, rfl, rx, x16, xl, xt, xbd, xe⟩ := I_at HCP.out.2 ha
          obtain ⟨x, hx⟩ : ∃ x, p.a.getD 0 zI = x := ⟨_, rfl⟩
          rw [hx] at rx x16 xl xt xbd xe hA
          obtain ⟨nb, hnb, hA⟩ := Option.bind_eq_some_iff.1 hA
          obtain ⟨hh, hhh, hA⟩ := Option.bind_eq_some_iff.1 hA
          have hsz : nb.length + hh.length < 1000000000000 := by
            by_cases h : nb.length + hh.length < 1000000000000
            · exact h
            · rw [if_neg h] at hA; cases hA
          rw [if_pos hsz] at hA
          have HHA := Aside0.mk hA
          have HSZ := Aside0.mk hsz
          have HNB := Aside0.mk hnb
          have HHH := Aside0.mk hhh
          have H16 := Aside0.mk x16
          have HXB := Aside0.mk xbd
          have HXE := Aside0.mk xe
          obtain ⟨cx, hcx⟩ : ∃ cx, cx = cellsI x (.slice Axl x.l.length cxl) (.slice Axt x.t.length cxt) (.slice Axb x.body.length cxb) (.slice Axe x.els.length cxe) := ⟨_, rfl⟩
          have HBH := Aside0.mk (fun (W : World) (hW : Below w.heap.size w W) => behind_calls K0 x hh W (.slice Axl x.l.length cxl) (.slice Axt x.t.length cxt) (.slice Axb x.body.length cxb) (.slice Axe x.els.length cxe) (HT.out.below hW) hhh x16)
          have X := cellsI_at x x16 (.slice Axl x.l.length cxl) (.slice Axt x.t.length cxt) (.slice Axb x.body.length cxb) (.slice Axe x.els.length cxe)
          have XL := cellsI_len x x16 (.slice Axl x.l.length cxl) (.slice Axt x.t.length cxt) (.slice Axb x.body.length cxb) (.slice Axe x.els.length cxe)
          have XO : cx.toArray.all (·.oneCell') = true := by rw [hcx]; exact all_oneCell_toArray (kI.K_one (w := w) (x := x) (kI_mk w x x16 xl xt xbd xe))
          rw [← hcx] at rx HBH X XL
          have rx' : w.rangeAt xb xo cx := by simpa using rx
          have HX := Aside0.mk X
          have HXL := Aside0.mk XL
          have HXO := Aside0.mk XO
          have RX := Aside0.mk (fun (W : World) (hW : Below w.heap.size w W) => (fun j u hj => (hW.cell (World.block_lt_of_cell? w _ (rx' j u hj))).trans (rx' j u hj) : W.rangeAt xb xo cx))
          have hi43 : (Tryd.prog.info? 43).map (·.size) = some cx.length := by rw [info43]; exact congrArg some XL.symm
          have HI43 := Aside0.mk hi43
          have CA := Kd.C_drop (c := cp) (m := 1) HCP.out.2 (by omega) HCP.out.1
          have HCA := Aside0.mk CA
          clear hA hsz hnb hhh x16 xl xt xbd xe X XL XO rx rx' hcx hi43 CA
          go_wp2_with (first
            | ((with_reducible refine gate_dst (N := 42) rfl ?_); refine wpList_load_mid rfl 43 (.tmp 41) rfl xb xo rfl cx _ (RX.out _ (by repeat (first | exact HB0.out | apply pw_below_drewN | apply below_drew1))) Tryd.underlying43 rfl HI43.out ?_)
            | ((with_reducible refine gate_dst (N := 7) rfl ?_); refine ev_alloc rfl 43 rfl _ zero43 ?_; intro g7 hg7 w2 hb hbl; have n0_ := Aside0.mk (Kd.R_below HHR.out hbl); have n1_ := Aside0.mk (Kd.R_below HV.out hbl); have n2_ := Aside0.mk (below_step HB0.out hbl); have n3_ := Aside0.mk (blk_below HTY.out hbl); have n4_ := Aside0.mk hb; have n5_ : Aside0 (w.heap.size ≤ g7 ∧ g ≠ g7) := ⟨by have := HB0.out.size; have := blk_lt HTY.out; have h9 : wr.heap.size ≤ g7 := by { rw [hg7]; exact Nat.le_refl _ }; omega⟩; clear HHR HV HB0 HTY hg7 hb hbl; have HHR := n0_; have HV := n1_; have HB0 := n2_; have HTY := n3_; have B7 := n4_; have N7 := n5_; clear n0_ n1_ n2_ n3_ n4_ n5_)
            | ((with_reducible refine gate_store (t := 43) (p := 7) (v := .tmp 42) rfl ?_); refine ev_storeB rfl 43 (.tmp 7) (.tmp 42) rfl g7 cx.toArray rfl rfl 43 _ B7.out (by rw [List.size_toArray]; exact HI43.out) ((show (Value.agg (cellsI zI (.slice none 0 0) (.slice none 0 0) (.slice none 0 0) (.slice none 0 0)).toArray).cells.size = 27 from rfl).trans (List.size_toArray.trans HXL.out).symm) HXO.out ?_; intro w3 hb hoth hsz hbel; have n0_ := Aside0.mk (Kd.R_mono (Kd.R_step (Kd.R_bound HHR.out) (fun k hk hlt => hoth k (fun e => by obtain ⟨_, _, _, q, hq, cells, hc⟩ := hk; rcases List.mem_singleton.1 hq with rfl; rw [e, B7.out] at hc; simp at hc))) (fun _ _ => trivial)); have n1_ := Aside0.mk (Kd.R_mono (Kd.R_step (Kd.R_bound HV.out) (fun k hk hlt => hoth k (fun e => by obtain ⟨_, _, _, q, hq, cells, hc⟩ := hk; rcases List.mem_singleton.1 hq with rfl; rw [e, B7.out] at hc; simp at hc))) (fun _ _ => trivial)); have n2_ := Aside0.mk (hbel _ _ N7.out.1 HB0.out); have n3_ := Aside0.mk ((hoth _ N7.out.2).trans HTY.out); have n4_ := Aside0.mk hb; clear HHR HV HB0 HTY B7 hb hoth hsz hbel; have HHR := n0_; have HV := n1_; have HB0 := n2_; have HTY := n3_; have B7 := n4_; clear n0_ n1_ n2_ n3_ n4_; have q0 : w3.cell? ⟨g, n * 2, none⟩ = some (.slice (some ⟨xb, xo, none⟩) p.a.length cp) := (blk_cell HTY.out _).trans SQ.out.1; have q1 : w3.cell? ⟨g, n * 2 + 1, none⟩ = some (.slice Bp p.b.length dp) := (blk_cell HTY.out _).trans SQ.out.2; have f0 := blk_frozen HTY.out (n * 2); have f1 := blk_frozen HTY.out (n * 2 + 1))
            | ((with_reducible refine gate_dst (N := 48) rfl ?_); refine ev_cut1g rfl (.tmp 47) rfl (some ⟨xb, xo, none⟩) p.a.length cp rfl ha HCP.out.1 ?_; intro A1 hA1; have HA1 := Aside0.mk hA1; clear hA1))
          have hca : (p.a.drop 1).length ≤ cp - 1 ∧ kI.C w A1 (p.a.drop 1).length (p.a.drop 1) := ⟨by rw [List.length_drop]; have := HCP.out.1; omega, by rw [HA1.out]; exact HCA.out⟩
          have hHR4 : (kPr w).R 58 (w3.setCell ⟨g, n * 2, none⟩ (.slice A1 (p.a.length - 1) (cp - 1))) w.heap.size (fun _ => True) (.slice (some ⟨g, 0, none⟩) (n + 1) cap) (rs.reverse ++ [⟨p.a.drop 1, p.b⟩]) :=
            kPr_set (p' := ⟨p.a.drop 1, p.b⟩) (A' := A1) (c' := cp - 1) (B' := Bp) (d' := dp) HHR.out (by rw [HHN.out, List.length_reverse]) q0 q1 0 (.slice A1 (p.a.length - 1) (cp - 1)) (.inl ⟨rfl, by rw [List.length_drop], rfl, rfl, rfl⟩) hca HCP'.out
          have n0_ := Aside0.mk hHR4
          have n1_ : Aside0 ((Kd.int .u8).R 5 (w3.setCell ⟨g, n * 2, none⟩ (.slice A1 (p.a.length - 1) (cp - 1))) w.heap.size (fun _ => True) u4 b) := ⟨R_set rfl (show 5 ≠ 58 by decide) HV.out HTY.out⟩
          have n2_ : Aside0 (Below w.heap.size w (w3.setCell ⟨g, n * 2, none⟩ (.slice A1 (p.a.length - 1) (cp - 1)))) := ⟨HB0.out.setCell HBG.out _⟩
          have n3_ : Aside0 ((w3.setCell ⟨g, n * 2, none⟩ (.slice A1 (p.a.length - 1) (cp - 1))).heap[g7]? = some (.cells cx.toArray 43 (0, 0))) := ⟨blk_far B7.out (Ne.symm N7.out.2) _⟩
          clear HHR HV HB0 B7 HTY q0 q1 f0 f1 hHR4 hca SQ
          generalize (w3.setCell ⟨g, n * 2, none⟩ (.slice A1 (p.a.length - 1) (cp - 1))) = w4 at n0_ n1_ n2_ n3_ ⊢
          have HHR := Aside0.mk (Kd.R_drew n0_.out)
          have HV := Aside0.mk (Kd.R_drew n1_.out)
          have HB0 := Aside0.mk (below_drew1 n2_.out)
          have B7 := Aside0.mk (blk_drew n3_.out)
          clear n0_ n1_ n2_ n3_
          refine start_ (n := 9) (S := fun w' => w'.heap[g7]? = some (.cells cx.toArray 43 (0, 0))) (ds := []) #[false,false,false,false,false,false,false,false,false] (by kernel_rfl) rfl rfl B7.out (fun hHeld => ?_); refine with_tabW code_Put.tab12 code_Put.bits12 (fun HT_ HW_ => ?_)
          refine pure_ (i := 0) (N := some 51) (v := ?_) (a' := ?_) #[true,false,false,false,false,false,false,false,false] rfl rfl (any_of HT_.out (by kernel_rfl)) (fun _ _ _ h => h) (Or.inl ⟨by rfl, ?_⟩) ?_ ?_
          rotate_left
          · intro w'
            go_simp
            with_reducible rfl
          rotate_left
          · simp only [Act.put, List.setIfInBounds_toArray, List.set_cons_zero, List.set_cons_succ, i64_w, i32_w]
            rfl
          refine pure_ (i := 1) (N := some 52) (v := ?_) (a' := ?_) #[true,true,false,false,false,false,false,false,false] rfl rfl (any_of HT_.out (by kernel_rfl)) (fun _ _ _ h => h) (Or.inl ⟨by rfl, ?_⟩) ?_ ?_
          rotate_left
          · intro w'
            go_simp
            with_reducible rfl
          rotate_left
          · simp only [Act.put, List.setIfInBounds_toArray, List.set_cons_zero, List.set_cons_succ, i64_w, i32_w]
            rfl
          refine take_ (i := 2) (N := some 53) (v := ?_) (a' := ?_) #[true,true,true,false,false,false,false,false,false] rfl rfl (take_ofW HT_.out HW_.out (by kernel_rfl)) (fun _ _ _ h => h) (Or.inl ⟨by rfl, ?_⟩) hHeld ?_ ?_
          rotate_left
          · intro w' s0
            have c0 : w'.cell? ⟨g7, 0, none⟩ = some (.int .u16 x.op) := (blk_cell s0 0).trans (by rw [List.getElem?_toArray]; exact HX.out.1)
            go_simp
            with_reducible rfl
          rotate_left
          · simp only [Act.put, List.setIfInBounds_toArray, List.set_cons_zero, List.set_cons_succ, i64_w, i32_w]
            rfl
          refine take_ (i := 5) (N := some 56) (v := .agg cx.toArray) (a' := ?_) #[true,true,true,false,false,true,false,false,false] rfl rfl (take_ofW HT_.out HW_.out (by kernel_rfl)) (fun _ _ _ h => h) (yieldsIf_load_mid (by rfl) 43 _ rfl g7 0 rfl cx _ (fun W hW => rng_blk hW (by rw [List.drop_zero]; exact List.take_of_length_le (Nat.le_of_eq HXL.out)) HXL.out) Tryd.underlying43 rfl HI43.out) hHeld ?_ ?_
          rotate_left
          · simp only [Act.put, List.setIfInBounds_toArray, List.set_cons_zero, List.set_cons_succ, i64_w, i32_w]
            rfl
          refine one_ (i := 3) (N := some 54) #[true,true,true,true,false,true,false,false,false] rfl rfl (one_of HT_.out (by kernel_rfl)) (by decide) (fun K hK => ?_)
          refine goes_ Tryd.func28 (by kernel_rfl) rfl #[.int .u16 x.op] (by rfl) rfl rfl (by simp only [List.map_toArray, List.map_cons, List.map_nil]; rfl) ?_
          with_reducible refine (code_number.calls K0 x.op nb _ HNB.out).mono ?_
          rintro e w5 ⟨vn, rfl, ho, hb⟩
          obtain ⟨An, cn, rfl⟩ := Kd.R_slice ho
          refine ⟨_, rfl, ?_⟩
          have n0_ := Aside0.mk (Kd.R_below HHR.out hb)
          have n1_ := Aside0.mk (Kd.R_below HV.out hb)
          have n2_ := Aside0.mk (below_step HB0.out hb)
          have n3_ := Aside0.mk (blk_below B7.out hb)
          have RN := Aside0.mk ho
          clear HHR HV HB0 B7 ho hb
          have HHR := n0_
          have HV := n1_
          have HB0 := n2_
          have B7 := n3_
          clear n0_ n1_ n2_ n3_
          refine hK.out _ _ B7.out (fun hHeld => ?_)
          clear hK K
          refine norm_ (a' := ?_) ?_ ?_
          rotate_left
          · show Act.put _ (some 54) _ = _
            simp only [Act.put, List.setIfInBounds_toArray, List.set_cons_zero, List.set_cons_succ, i64_w, i32_w]
            rfl
          refine one_ (i := 4) (N := some 55) #[true,true,true,true,true,true,false,false,false] rfl rfl (one_of HT_.out (by kernel_rfl)) (by decide) (fun K hK => ?_)
          refine Kd.R_append_rows_step (Kd.int .u8) (w0 := w) w.heap.size (by rfl) (.tmp 51) (.tmp 54) 24 5 (.int .u8 0) 1 rfl Tryd.underlying24 info5 rfl (by decide) (by decide) u4 (b) nb An nb.length cn (fun _ => True) (fun _ => False) rfl rfl HV.out (Kd.R_reads' RN.out).2.2 (fun _ _ h => h) (fun _ h => h.elim) (fun _ _ => trivial) HB0.out HB0.out.size (by have := HBL.out; have := HSZ.out; first | omega | (simp only [List.length_append]; omega)) ?_
          intro v55 w6 ho hb hg hat
          have n0_ := Aside0.mk (R_apart (d := kPr w) (d' := Kd.int .u8) hg rfl (show 58 ≠ 5 by decide) HHR.out HV.out)
          have n1_ := Aside0.mk ho
          have n2_ := Aside0.mk hb
          have n3_ := Aside0.mk (blk_apart (d' := Kd.int .u8) hg (show 43 ≠ 5 by decide) B7.out HV.out)
          clear HHR HV HB0 B7 RN ho hb hg hat
          have HHR := n0_
          have HV := n1_
          have HB0 := n2_
          have B7 := n3_
          clear n0_ n1_ n2_ n3_
          refine hK.out _ _ B7.out (fun hHeld => ?_)
          clear hK K
          refine norm_ (a' := ?_) ?_ ?_
          rotate_left
          · show Act.put _ (some 55) _ = _
            simp only [Act.put, List.setIfInBounds_toArray, List.set_cons_zero, List.set_cons_succ, i64_w, i32_w]
            rfl
          refine one_ (i := 6) (N := some 57) #[true,true,true,true,true,true,true,false,false] rfl rfl (one_of HT_.out (by kernel_rfl)) (by decide) (fun K hK => ?_)
          refine goes_ Tryd.func29 (by kernel_rfl) rfl #[.agg cx.toArray] (by rfl) rfl rfl (by simp only [List.map_toArray, List.map_cons, List.map_nil]; rfl) ?_
          with_reducible refine (HBH.out _ HB0.out).mono ?_
          rintro e w7 ⟨vh, rfl, ho, hb⟩
          obtain ⟨Ah, ch, rfl⟩ := Kd.R_slice ho
          refine ⟨_, rfl, ?_⟩
          have n0_ := Aside0.mk (Kd.R_below HHR.out hb)
          have n1_ := Aside0.mk (Kd.R_below HV.out hb)
          have n2_ := Aside0.mk (below_step HB0.out hb)
          have n3_ := Aside0.mk (blk_below B7.out hb)
          have RN := Aside0.mk ho
          clear HHR HV HB0 B7 ho hb
          have HHR := n0_
          have HV := n1_
          have HB0 := n2_
          have B7 := n3_
          clear n0_ n1_ n2_ n3_
          refine hK.out _ _ B7.out (fun hHeld => ?_)
          clear hK K
          refine norm_ (a' := ?_) ?_ ?_
          rotate_left
          · show Act.put _ (some 57) _ = _
            simp only [Act.put, List.setIfInBounds_toArray, List.set_cons_zero, List.set_cons_succ, i64_w, i32_w]
            rfl
          refine one_ (i := 7) (N := some 58) #[true,true,true,true,true,true,true,true,false] rfl rfl (one_of HT_.out (by kernel_rfl)) (by decide) (fun K hK => ?_)
          refine Kd.R_append_rows_step (Kd.int .u8) (w0 := w) w.heap.size (by rfl) (.tmp 55) (.tmp 57) 24 5 (.int .u8 0) 1 rfl Tryd.underlying24 info5 rfl (by decide) (by decide) v55 (b ++ nb) hh Ah hh.length ch (fun _ => True) (fun _ => False) rfl rfl HV.out (Kd.R_reads' RN.out).2.2 (fun _ _ h => h) (fun _ h => h.elim) (fun _ _ => trivial) HB0.out HB0.out.size (by have := HBL.out; have := HSZ.out; first | omega | (simp only [List.length_append]; omega)) ?_
          intro v58 w8 ho hb hg hat
          have n0_ := Aside0.mk (R_apart (d := kPr w) (d' := Kd.int .u8) hg rfl (show 58 ≠ 5 by decide) HHR.out HV.out)
          have n1_ := Aside0.mk ho
          have n2_ := Aside0.mk hb
          have n3_ := Aside0.mk (blk_apart (d' := Kd.int .u8) hg (show 43 ≠ 5 by decide) B7.out HV.out)
          clear HHR HV HB0 B7 RN ho hb hg hat
          have HHR := n0_
          have HV := n1_
          have HB0 := n2_
          have B7 := n3_
          clear n0_ n1_ n2_ n3_
          refine hK.out _ _ B7.out (fun hHeld => ?_)
          clear hK K
          refine norm_ (a' := ?_) ?_ ?_
          rotate_left
          · show Act.put _ (some 58) _ = _
            simp only [Act.put, List.setIfInBounds_toArray, List.set_cons_zero, List.set_cons_succ, i64_w, i32_w]
            rfl
          refine pure_ (i := 8) (N := some 4) (v := ?_) (a' := ?_) #[true,true,true,true,true,true,true,true,true] rfl rfl (any_of HT_.out (by kernel_rfl)) (fun _ _ _ h => h) (Or.inl ⟨by rfl, ?_⟩) ?_ ?_
          rotate_left
          · intro w'
            go_simp
            with_reducible rfl
          rotate_left
          · simp only [Act.put, List.setIfInBounds_toArray, List.set_cons_zero, List.set_cons_succ, i64_w, i32_w]
            rfl
          refine done_ (done_of HT_.out (by kernel_rfl)) ?_
          have z0 : w8.cell? ⟨g7, 0, none⟩ = some (.int .u16 x.op) := (blk_cell B7.out 0).trans (by rw [List.getElem?_toArray]; exact HX.out.1)
          have z25 : w8.cell? ⟨g7, 25, none⟩ = some (.slice Axb x.body.length cxb) := (blk_cell B7.out 25).trans (by rw [List.getElem?_toArray]; exact HX.out.2.2.2.2.2.2.2.2.2.1)
          have z26 : w8.cell? ⟨g7, 26, none⟩ = some (.slice Axe x.els.length cxe) := (blk_cell B7.out 26).trans (by rw [List.getElem?_toArray]; exact HX.out.2.2.2.2.2.2.2.2.2.2)
          have hA := HHA.out
          clear HHA
          cases hbk : isBlk x.op
          · rw [hbk, if_neg (by simp)] at hA
            have HHA := Aside0.mk hA
            clear hA
            go_wp2_with (first
              | (go_at_call 30; refine (isBlock_calls _ _).mono ?_; rintro e w' ⟨rfl, rfl⟩; rw [hbk]))
            go_roundg k1
            case measure => have := HK1.out; omega
            case rel => exact ⟨⟨p.a.drop 1, p.b⟩ :: rs, b ++ nb ++ hh, HHA, ⟨by (with_reducible repeat (first | apply Kd.R_alloc | apply Kd.R_drewN | apply Kd.R_drew)); exact HV.out⟩, ⟨by rw [List.reverse_cons]; (with_reducible repeat (first | apply Kd.R_alloc | apply Kd.R_drewN | apply Kd.R_drew)); exact HHR.out⟩, ⟨by repeat (first | exact HB0.out | apply pw_below_drewN | apply below_drew1)⟩, ⟨by have := HK1.out; omega⟩⟩
          · rw [hbk, if_pos rfl] at hA
            have HHA := Aside0.mk hA
            clear hA
            go_wp2_with (first
              | (go_at_call 30; refine (isBlock_calls _ _).mono ?_; rintro e w' ⟨rfl, rfl⟩; rw [hbk])
              | ((with_reducible refine gate_dst (N := 68) rfl ?_); refine Kd.R_lit (kPr w) (w0 := w) w.heap.size 58 ?hg2 (N := 68) ?hd2 (xs := [(⟨x.body, x.els⟩ : Pr)]) (inner := [.slice Axb x.body.length cxb, .slice Axe x.els.length cxe]) (ok := fun _ => True) (okp := fun _ => True) ?hr2 ?hp2 (fun _ hk => hk) trivial ?hb2 ?hs2 (by simp) ?_; (case hd2 => rfl); (case hg2 => rfl); (case hb2 => repeat (first | exact HB0.out | apply pw_below_drewN | apply below_drew1)); (case hs2 => exact HB0.out.size); (case hr2 => first | (go_simp; done) | (go_simp; rfl)); (case hp2 => exact Reps.c2 (kPr_mkM w _ _ _ ⟨x.body, x.els⟩ HXB.out.1 HXB.out.2 HXE.out.1 HXE.out.2) (Reps.none _ _)); intro v68 w10 ho hb hg_ hnew_; obtain ⟨A68, c68, rfl⟩ := Kd.R_slice ho; have HO := Aside0.mk ho; have n0_ := Aside0.mk hb; have n1_ := Aside0.mk (R_none HHR.out hg_); have n2_ := Aside0.mk (R_none HV.out hg_); clear HB0 HHR HV ho hb hg_ hnew_; have HB0 := n0_; have HHR := n1_; have HV := n2_; clear n0_ n1_ n2_)
              | ((with_reducible refine gate_builtin (b := .append) (xs := #[.tmp 62, .tmp 68]) rfl ?_); at_builtin; refine Kd.R_append_rows (kPr w) (w0 := w) w.heap.size rfl (.tmp 62) (.tmp 68) 59 58 (.agg #[.slice none 0 0, .slice none 0 0]) 48 rfl Tryd.underlying59 info58 rfl (show 0 < 2 by decide) (by decide) (.slice (some ⟨g, 0, none⟩) (n + 1) cap) (rs.reverse ++ [⟨p.a.drop 1, p.b⟩]) [(⟨x.body, x.els⟩ : Pr)] A68 1 c68 (fun _ => True) (fun _ => False) rfl rfl HHR.out (Kd.R_reads' HO.out).2.2 (fun x cs h => kPr_KM h) (fun _ hk => hk.elim) (fun _ _ => trivial) HB0.out HB0.out.size ?aL ?_; (case aL => simp only [List.length_append, List.length_reverse, List.length_singleton]; have := HRL.out; omega); intro v69 w11 ho hb hg hat; have n0_ := Aside0.mk ho; have n1_ := Aside0.mk hb; have n2_ := Aside0.mk (R_apart (d := Kd.int .u8) (d' := kPr w) hg rfl (show 5 ≠ 58 by decide) HV.out HHR.out); clear HB0 HHR HV HO ho hb hg hat; have HHR := n0_; have HB0 := n1_; have HV := n2_; clear n0_ n1_ n2_))
            go_roundg k1
            case measure => have := HK1.out; omega
            case rel => exact ⟨⟨x.body, x.els⟩ :: ⟨p.a.drop 1, p.b⟩ :: rs, b ++ nb ++ hh, HHA, ⟨by (with_reducible repeat (first | apply Kd.R_alloc | apply Kd.R_drewN | apply Kd.R_drew)); exact HV.out⟩, ⟨by rw [List.reverse_cons, List.reverse_cons]; (with_reducible repeat (first | apply Kd.R_alloc | apply Kd.R_drewN | apply Kd.R_drew)); exact HHR.out⟩, ⟨by repeat (first | exact HB0.out | apply pw_below_drewN | apply below_drew1)⟩, ⟨by have := HK1.out; omega⟩⟩
end Go.Proofs.YtobldeamemmokaaDoor.P

