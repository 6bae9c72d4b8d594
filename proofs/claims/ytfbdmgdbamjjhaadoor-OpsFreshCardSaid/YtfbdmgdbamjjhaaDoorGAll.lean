import Derived.Test.YtfbdmgdbamjjhaaDoorPx4
/-! The contract of ops.All: printed but for its array of pages, which is by hand (wip/all10.py). -/
namespace Go.Proofs.YtfbdmgdbamjjhaaDoor.P
open Go.Proofs.YtfbdmgdbamjjhaaDoorTabs
open Go.Proofs.YtfbdmgdbamjjhaaDoorCaps
open Go.RowKit Go.Proofs.YtfbdmgdbamjjhaaDoorW.PrintWords Go.Proofs.YtfbdmgdbamjjhaaDoorW.PrintLast Go.Proofs.YtfbdmgdbamjjhaaDoorW.PrintMore
attribute [local go_sem] max2_int min2_int max_two min_two max_three min_three max_four min_four
set_option linter.unusedVariables false
set_option linter.unusedSimpArgs false
theorem info23 : (Tryd.prog.info? 23).map (fun i => (i.zero, i.size, i.bytes)) = some (some (.int .u16 0), 1, 2) := by kernel_rfl
def pg10 (x : Int) : Int := if x = 0 then 0 else if x = 1 then 64512 else 64768
theorem run_pg (x : Int) (h0 : 0 ≤ x) (h3 : x < 3) : ∀ w : World, (Instr.index 57 (.agg #[.int .i64 0, .int .i64 64512, .int .i64 64768]) (.int .i64 x)).run Tryd.prog w = .ok (.int .i64 (pg10 x)) w := by
 intro w
 have h : x = 0 ∨ x = 1 ∨ x = 2 := by omega
 rcases h with rfl | rfl | rfl
 ·simp [Instr.index, part, asIntOf, go_sem, pg10]
 ·simp [Instr.index, part, asIntOf, go_sem, pg10]
 ·simp [Instr.index, part, asIntOf, go_sem, pg10]
/-! ### ops_All: function 15 -/
mutual
def ops_All.l0 : Nat → List Int → Int → Option (List Int)
 | 0, _, _ => none
 | k + 1, x1, x8 => if x8 < 3 then (if 0 ≤ x8 then (ops_All.l1 k x1 (pg10 x8) x8 0) else none) else (some x1)
def ops_All.l1 : Nat → List Int → Int → Int → Int → Option (List Int)
 | 0, _, _, _, _ => none
 | k + 1, x1, x3, x8, x11 => if x11 < 256 then ((ops_look.f k (IntKind.u16.wrap (wrap64 (x3 + x11)))).bind fun bt259 => (if bt259.2.2.2.2.2 = true then (if x1.length < 70368744177664 then (ops_All.l1 k (x1 ++ [IntKind.u16.wrap (wrap64 (x3 + x11))]) x3 x8 (wrap64 (x11 + 1))) else (none)) else (ops_All.l1 k x1 x3 x8 (wrap64 (x11 + 1))))) else (ops_All.l0 k x1 (wrap64 (x8 + 1)))
end
def ops_All.f (k : Nat)  : Option (List Int) := ops_All.l0 k ([] : List Int) 0
theorem ops_All.mono_l : ∀ k, (∀ y0 y1, LeO (ops_All.l0 k y0 y1) (ops_All.l0 (k + 1) y0 y1)) ∧ (∀ y0 y1 y2 y3, LeO (ops_All.l1 k y0 y1 y2 y3) (ops_All.l1 (k + 1) y0 y1 y2 y3))
 | 0 => ⟨fun _ _ r h => by simp [ops_All.l0] at h, fun _ _ _ _ r h => by simp [ops_All.l1] at h⟩
 | k + 1 => by
  obtain ⟨ih0, ih1⟩ := ops_All.mono_l k
  refine ⟨?_, ?_⟩ <;> intros <;> (first | unfold ops_All.l0 | unfold ops_All.l1) <;> (repeat' first | (with_reducible exact LeO.refl _) | (with_reducible exact ih0 _ _) | (with_reducible exact ih1 _ _ _ _) | (with_reducible exact LeO.none _) | (with_reducible refine LeO.ite ?_ ?_) | (with_reducible refine LeO.bind ?_ (fun _ => ?_)) | exact ops_look.mono _ _ | exact ih0 _ _ | exact ih1 _ _ _ _ | exact LeO.none _ | refine LeO.ite ?_ ?_ | refine LeO.bind ?_ (fun _ => ?_))
theorem ops_All.mono : ∀ k, LeO (ops_All.f k ) (ops_All.f (k + 1) ) := by
 intro  k
 obtain ⟨ih0, ih1⟩ := ops_All.mono_l k
 unfold ops_All.f
 repeat' first
   | (with_reducible exact ih0 _ _)
   | (with_reducible exact ih1 _ _ _ _)
   | (with_reducible exact ops_look.mono _ _)
   | (with_reducible exact LeO.refl _)
   | (with_reducible exact LeO.none _)
   | (with_reducible refine LeO.ite ?_ ?_)
   | (with_reducible refine LeO.bind ?_ (fun _ => ?_))
   | exact ih0 _ _
   | exact ih1 _ _ _ _
   | exact ops_look.mono _ _
   | exact LeO.none _
   | refine LeO.ite ?_ ?_
   | refine LeO.bind ?_ (fun _ => ?_)
set_option maxHeartbeats 8000000 in
set_option maxRecDepth 100000 in
theorem ops_All.calls (k : Nat)  (r : List Int) (w : World) (hT : Go.Proofs.YtfbdmgdbamjjhaaDoorTabs.Tab w) (h : ops_All.f k  = some r) :
  Calls Tryd.prog 15 #[] w fun e w' => ∃ v0_ : Value, e = .returned (v0_) ∧ Kd.R (Kd.int .u16) 23 w' w.heap.size (fun _ => True) v0_ r ∧ Below w.heap.size w w' := by
 have HT := Aside0.mk hT
 clear hT
 have hu42 := Tryd.underlying42
 have HB := Aside0.mk (Below.refl w.heap.size w)
 have H : (ops_All.l0 k ([] : List Int) 0) = some r := h
 clear h
 have H' := Aside0.mk H
 clear H
 go_enter Tryd.func15, Tryd.ntmps15
 go_wp2
 go_loopg [1, 8] k (fun kq v1 v8 w' => ∃ (x1_1 : List Int) (x8_1 : Int), v8 = .int .i64 x8_1 ∧ Aside0 (ops_All.l0 kq x1_1 x8_1 = some r) ∧ Aside0 (kq ≤ k) ∧ Aside0 (Kd.R (Kd.int .u16) 23 w' w.heap.size (fun _ => True) v1 x1_1) ∧ Aside0 (Below w.heap.size w w'))
 case atStart => exact ⟨(([] : List Int)), (0), (by first | rfl | (simp; done) | (simp [*]; done)), H', ⟨Nat.le_refl _⟩, ⟨by first | exact Kd.R_nil _ _ _ _ _ | exact Kd.N_nil _ _ _ _ _ | exact Kd.V_nil _ _ _ _ _ | exact Kd.Q_nil _ _ _ _ _ | exact Kd.S_nil _ _ _ _ _⟩, ⟨by repeat (first | (with_reducible first | exact HB.out | apply bA|apply bN|apply bD) | exact HB.out)⟩⟩
 case round =>
  clear H'
  obtain ⟨x1_1, x8_1, rfl, HA, HK1, HO_1, HB⟩ := hrel
  cases gk with
  | zero => exact absurd HA.out (by simp [ops_All.l0])
  | succ k1 =>
   have H := HA.out
   clear HA
   simp only [ops_All.l0] at H
   by_cases c1 : x8_1 < 3
   ·rw [if_pos c1] at H
    have c1b0 : decide (x8_1 < 3) = true := decide_eq_true c1
    by_cases c0 : 0 ≤ x8_1
    case neg =>
     rw [if_neg c0] at H
     exact absurd H (by simp)
    rw [if_pos c0] at H
    have hidx := run_pg x8_1 c0 c1
    obtain ⟨pq, hpq⟩ : ∃ p, pg10 x8_1 = p := ⟨_, rfl⟩
    rw [hpq] at hidx H
    clear c1 c0 hpq
    have H' := Aside0.mk H
    clear H
    go_wp2
    clear hidx
    go_loopg [1, 11] k1 (fun kq v1 v11 w' => ∃ (x1_2 : List Int) (x11_2 : Int), v11 = .int .i64 x11_2 ∧ Aside0 (ops_All.l1 kq x1_2 pq x8_1 x11_2 = some r) ∧ Aside0 (kq ≤ k1) ∧ Aside0 (Kd.R (Kd.int .u16) 23 w' w.heap.size (fun _ => True) v1 x1_2) ∧ Aside0 (Below w.heap.size w w'))
    case atStart => exact ⟨(x1_1), (0), (by first | rfl | (simp; done) | (simp [*]; done)), H', ⟨Nat.le_refl _⟩, ⟨by (with_reducible repeat (first | apply rA|apply rN|apply rD)); exact HO_1.out⟩, ⟨by repeat (first | (with_reducible first | exact HB.out | apply bA|apply bN|apply bD) | exact HB.out)⟩⟩
    case round =>
     clear H'
     try clear c1
     try clear c1b0
     obtain ⟨x1_2, x11_2, rfl, HA, HK2, HO_1, HB⟩ := hrel
     cases gk with
     | zero => exact absurd HA.out (by simp [ops_All.l1])
     | succ k2 =>
      have H := HA.out
      clear HA
      simp only [ops_All.l1] at H
      by_cases c2 : x11_2 < 256
      ·rw [if_pos c2] at H
       have c2b0 : decide (x11_2 < 256) = true := decide_eq_true c2
       clear c2
       replace H := Option.bind_eq_some_iff.mp H
       obtain ⟨⟨t259, t260, t261, t262, t263, t264⟩, A30, H⟩ := H
       replace H : (if t264 = true then (if x1_2.length < 70368744177664 then (ops_All.l1 k2 (x1_2 ++ [IntKind.u16.wrap (wrap64 (pq + x11_2))]) pq x8_1 (wrap64 (x11_2 + 1))) else (none)) else (ops_All.l1 k2 x1_2 pq x8_1 (wrap64 (x11_2 + 1)))) = some r := H
       have A3 := Aside0.mk A30
       clear A30
       by_cases c4 : t264 = true
       ·subst c4
        have H1 : (if x1_2.length < 70368744177664 then (ops_All.l1 k2 (x1_2 ++ [IntKind.u16.wrap (wrap64 (pq + x11_2))]) pq x8_1 (wrap64 (x11_2 + 1))) else (none)) = some r := by rw [if_pos rfl] at H; exact H
        clear H
        have H := H1
        clear H1
        by_cases c5 : x1_2.length < 70368744177664
        ·rw [if_pos c5] at H
         have LMc5 := Aside0.mk c5
         clear c5
         obtain ⟨y266, hy266⟩ : ∃ y_ : List Int, y_ = (x1_2 ++ [IntKind.u16.wrap (wrap64 (pq + x11_2))]) := ⟨_, rfl⟩
         replace H : (ops_All.l1 k2 y266 pq x8_1 (wrap64 (x11_2 + 1))) = some r := by first | (rw [hy266]; with_reducible exact H) | (have H2_ := (Option.bind_some _ _).symm.trans H; rw [hy266]; with_reducible exact H2_) | (have H2_ := (Option.bind_some _ _).symm.trans H; with_reducible exact H2_) | with_reducible exact H | (rw [hy266]; exact H) | exact H
         have Ny266 := Aside0.mk hy266
         clear hy266
         have H' := Aside0.mk H
         clear H
         go_wp2_with (first | ((with_reducible refine gate_callee (f := 18) rfl ?_); refine goesL_ (some 19) rfl rfl Tryd.func18 (by kernel_rfl) rfl #[.int .u16 (IntKind.u16.wrap (wrap64 (pq + x11_2)))] rfl (by (try simp only [List.map_toArray, List.map_cons, List.map_nil]); first | done | rfl | (simp only [List.length_drop, List.length_take]; rfl)) ?_; (with_reducible refine (ops_look.calls (hT := by first | exact HT.out | exact Go.Proofs.YtfbdmgdbamjjhaaDoorTabs.Tab.below HT.out (by repeat (first | (with_reducible first | exact HB.out | apply bA|apply bN|apply bD | refine below_set ?_ (Aside0.out (by assumption))) | exact HB.out)) | exact Go.Proofs.YtfbdmgdbamjjhaaDoorTabs.Tab.drawn HT.out (by repeat (first | exact Drawn0.refl _ | apply Drawn0.step))) k2 (IntKind.u16.wrap (wrap64 (pq + x11_2))) t259 t260 t261 t262 t263 true _ A3.out).mono ?_); rintro e w6 ⟨rfl, hb⟩; refine ⟨_, rfl, ?_⟩; have n0_ := Aside0.mk (Kd.R_below (by (with_reducible repeat (first | apply rA|apply rN|apply rD)); exact HO_1.out) hb); have n1_ := Aside0.mk (below_step (by repeat (first | (with_reducible first | exact HB.out | apply bA|apply bN|apply bD) | exact HB.out)) hb); clear HO_1; clear HB; have HO_1 := n0_; have HB := n1_; clear n0_ n1_; (try clear hb); (try clear hb2); (try clear hk); (try clear hi)) | ((with_reducible refine gate_dst (N := 5) rfl ?_); refine box_event ?hg (N := 5) ?hd (cs := #[.string (⟨#[]⟩ : ByteArray), .string (⟨#[]⟩ : ByteArray), .int .u8 0, .int .i64 0, .bool false]) (t := 42) ?hr ?_; (case hd => rfl); (case hg => rfl); (case hr => first | (go_simp; done) | (go_simp; rfl)); intro gb265 hg w7 hbox hb; have n0_ := Aside0.mk (Kd.R_below (by (with_reducible repeat (first | apply rA|apply rN|apply rD)); exact HO_1.out) hb); have n1_ := Aside0.mk (below_step (by repeat (first | (with_reducible first | exact HB.out | apply bA|apply bN|apply bD) | exact HB.out)) hb); have n2_ := Aside0.mk (hbox); have n3_ := Aside0.mk ((by rw [hg]; exact (below_size (by repeat (first | (with_reducible first | exact HB.out | apply bA|apply bN|apply bD) | exact HB.out))) : w.heap.size ≤ gb265)); have n4_ := Aside0.mk ((by rw [hg]; exact (below_size (by repeat (first | (with_reducible first | exact HB.out | apply bA|apply bN|apply bD) | exact HB.out))) : w.heap.size ≤ gb265)); clear HO_1; clear HB; have HO_1 := n0_; have HB := n1_; have BK265 := n2_; have GW265 := n3_; have GE265 := n4_; clear n0_ n1_ n2_ n3_ n4_; clear hb hbox hg; have hcz8_0 : w7.cell? ⟨gb265, 0, none⟩ = some (.string (⟨#[]⟩ : ByteArray)) := (blk_cell BK265.out 0).trans rfl; have hcz8_1 : w7.cell? ⟨gb265, 1, none⟩ = some (.string (⟨#[]⟩ : ByteArray)) := (blk_cell BK265.out 1).trans rfl; have hcz8_2 : w7.cell? ⟨gb265, 2, none⟩ = some (.int .u8 0) := (blk_cell BK265.out 2).trans rfl; have hcz8_3 : w7.cell? ⟨gb265, 3, none⟩ = some (.int .i64 0) := (blk_cell BK265.out 3).trans rfl; have hcz8_4 : w7.cell? ⟨gb265, 4, none⟩ = some (.bool false) := (blk_cell BK265.out 4).trans rfl; have hfz8_0 := blk_frozen BK265.out 0; have hfz8_1 := blk_frozen BK265.out 1; have hfz8_2 := blk_frozen BK265.out 2; have hfz8_3 := blk_frozen BK265.out 3; have hfz8_4 := blk_frozen BK265.out 4) | ((with_reducible refine gate_builtin (b := .append) (xs := #[.tmp 23, .tmp 28]) rfl ?_); at_builtin; refine Kd.R_append (Kd.int .u16) (w0 := w) w.heap.size rfl (.tmp 23) (.tmp 28) 36 23 (.int .u16 0) 2 rfl Tryd.underlying36 info23 rfl (by decide) (by omega) u1 x1_2 (IntKind.u16.wrap (wrap64 (pq + x11_2))) [.int .u16 (IntKind.u16.wrap (wrap64 (pq + x11_2)))] (fun _ => True) (fun _ => False) rfl (by first | (go_simp; done) | (go_simp; rfl)) ?aP (fun _ hk => hk.elim) ?aF ?aO ?aB ?aS ?aL ?_; (case aP => exact rfl); (case aB => exact (by repeat (first | (with_reducible first | exact HB.out | apply bA|apply bN|apply bD | refine below_set ?_ GE265.out) | exact HB.out))); (case aF => exact (fun _ _ => trivial)); (case aO => exact (by (with_reducible repeat (first | apply rA|apply rN|apply rD)); exact Kd.R_mono (Kd.R_far (p := ⟨gb265, 4, none⟩) (Kd.R_far (p := ⟨gb265, 3, none⟩) (Kd.R_far (p := ⟨gb265, 2, none⟩) (Kd.R_far (p := ⟨gb265, 1, none⟩) (Kd.R_far (p := ⟨gb265, 0, none⟩) (Kd.R_types HO_1.out BK265.out (by decide)) (fun _ hk => hk.2) (.string t259)) (fun _ hk => hk.2) (.string t260)) (fun _ hk => hk.2) (.int .u8 t261)) (fun _ hk => hk.2) (.int .i64 t262)) (fun _ hk => hk.2) (.bool t263)) (fun _ hk => trivial))); (case aS => exact (below_size (by repeat (first | (with_reducible first | exact HB.out | apply bA|apply bN|apply bD | refine below_set ?_ GE265.out) | exact HB.out)))); (case aL => have := LMc5.out; omega); intro v267 w9 ho hb hg hat; rw [← Ny266.out] at ho; have n0_ := Aside0.mk (blk_grown (g := gb265) (o := .cells #[.string t259, .string t260, .int .u8 t261, .int .i64 t262, .bool t263] 42 (0, 0)) (by (with_reducible repeat (first | apply kN|apply kD|apply kA)); refine blk_put (cs := #[.string t259, .string t260, .int .u8 t261, .int .i64 t262, .bool false]) ?_ 4 _ rfl; (with_reducible repeat (first | apply kN|apply kD|apply kA)); refine blk_put (cs := #[.string t259, .string t260, .int .u8 t261, .int .i64 0, .bool false]) ?_ 3 _ rfl; (with_reducible repeat (first | apply kN|apply kD|apply kA)); refine blk_put (cs := #[.string t259, .string t260, .int .u8 0, .int .i64 0, .bool false]) ?_ 2 _ rfl; (with_reducible repeat (first | apply kN|apply kD|apply kA)); refine blk_put (cs := #[.string t259, .string (⟨#[]⟩ : ByteArray), .int .u8 0, .int .i64 0, .bool false]) ?_ 1 _ rfl; (with_reducible repeat (first | apply kN|apply kD|apply kA)); refine blk_put (cs := #[.string (⟨#[]⟩ : ByteArray), .string (⟨#[]⟩ : ByteArray), .int .u8 0, .int .i64 0, .bool false]) ?_ 0 _ rfl; (with_reducible repeat (first | apply kN|apply kD|apply kA)); exact BK265.out) hg (Kd.R_ne HO_1.out BK265.out (by decide))); have n1_ := Aside0.mk (hb); have n2_ := Aside0.mk (ho); clear BK265; clear HB; clear HO_1; have BK265 := n0_; have HB := n1_; have HO268 := n2_; clear n0_ n1_ n2_; clear ho hb hg hat))
         go_roundg k2
         case measure => have := HK1.out; have := HK2.out; omega
         case rel => exact ⟨(y266), (wrap64 (x11_2 + 1)), (by first | rfl | (simp; done) | (simp [*]; done)), H', ⟨by have := HK1.out; have := HK2.out; omega⟩, ⟨by (with_reducible repeat (first | apply rA|apply rN|apply rD)); exact HO268.out⟩, ⟨by repeat (first | (with_reducible first | exact HB.out | apply bA|apply bN|apply bD | refine below_set ?_ GE265.out) | exact HB.out)⟩⟩
        ·rw [if_neg c5] at H
         exact absurd H (by simp)
       ·replace c4 := Bool.eq_false_iff.mpr c4
        subst c4
        have H1 : (ops_All.l1 k2 x1_2 pq x8_1 (wrap64 (x11_2 + 1))) = some r := by rw [if_neg (show ¬ (false = true) by decide)] at H; exact H
        clear H
        have H := H1
        clear H1
        have H' := Aside0.mk H
        clear H
        go_wp2_with (first | ((with_reducible refine gate_callee (f := 18) rfl ?_); refine goesL_ (some 19) rfl rfl Tryd.func18 (by kernel_rfl) rfl #[.int .u16 (IntKind.u16.wrap (wrap64 (pq + x11_2)))] rfl (by (try simp only [List.map_toArray, List.map_cons, List.map_nil]); first | done | rfl | (simp only [List.length_drop, List.length_take]; rfl)) ?_; (with_reducible refine (ops_look.calls (hT := by first | exact HT.out | exact Go.Proofs.YtfbdmgdbamjjhaaDoorTabs.Tab.below HT.out (by repeat (first | (with_reducible first | exact HB.out | apply bA|apply bN|apply bD | refine below_set ?_ (Aside0.out (by assumption))) | exact HB.out)) | exact Go.Proofs.YtfbdmgdbamjjhaaDoorTabs.Tab.drawn HT.out (by repeat (first | exact Drawn0.refl _ | apply Drawn0.step))) k2 (IntKind.u16.wrap (wrap64 (pq + x11_2))) t259 t260 t261 t262 t263 false _ A3.out).mono ?_); rintro e w10 ⟨rfl, hb⟩; refine ⟨_, rfl, ?_⟩; have n0_ := Aside0.mk (Kd.R_below (by (with_reducible repeat (first | apply rA|apply rN|apply rD)); exact HO_1.out) hb); have n1_ := Aside0.mk (below_step (by repeat (first | (with_reducible first | exact HB.out | apply bA|apply bN|apply bD) | exact HB.out)) hb); clear HO_1; clear HB; have HO_1 := n0_; have HB := n1_; clear n0_ n1_; (try clear hb); (try clear hb2); (try clear hk); (try clear hi)) | ((with_reducible refine gate_dst (N := 5) rfl ?_); refine box_event ?hg (N := 5) ?hd (cs := #[.string (⟨#[]⟩ : ByteArray), .string (⟨#[]⟩ : ByteArray), .int .u8 0, .int .i64 0, .bool false]) (t := 42) ?hr ?_; (case hd => rfl); (case hg => rfl); (case hr => first | (go_simp; done) | (go_simp; rfl)); intro gb265 hg w11 hbox hb; have n0_ := Aside0.mk (Kd.R_below (by (with_reducible repeat (first | apply rA|apply rN|apply rD)); exact HO_1.out) hb); have n1_ := Aside0.mk (below_step (by repeat (first | (with_reducible first | exact HB.out | apply bA|apply bN|apply bD) | exact HB.out)) hb); have n2_ := Aside0.mk (hbox); have n3_ := Aside0.mk ((by rw [hg]; exact (below_size (by repeat (first | (with_reducible first | exact HB.out | apply bA|apply bN|apply bD) | exact HB.out))) : w.heap.size ≤ gb265)); have n4_ := Aside0.mk ((by rw [hg]; exact (below_size (by repeat (first | (with_reducible first | exact HB.out | apply bA|apply bN|apply bD) | exact HB.out))) : w.heap.size ≤ gb265)); clear HO_1; clear HB; have HO_1 := n0_; have HB := n1_; have BK265 := n2_; have GW265 := n3_; have GE265 := n4_; clear n0_ n1_ n2_ n3_ n4_; clear hb hbox hg; have hcz12_0 : w11.cell? ⟨gb265, 0, none⟩ = some (.string (⟨#[]⟩ : ByteArray)) := (blk_cell BK265.out 0).trans rfl; have hcz12_1 : w11.cell? ⟨gb265, 1, none⟩ = some (.string (⟨#[]⟩ : ByteArray)) := (blk_cell BK265.out 1).trans rfl; have hcz12_2 : w11.cell? ⟨gb265, 2, none⟩ = some (.int .u8 0) := (blk_cell BK265.out 2).trans rfl; have hcz12_3 : w11.cell? ⟨gb265, 3, none⟩ = some (.int .i64 0) := (blk_cell BK265.out 3).trans rfl; have hcz12_4 : w11.cell? ⟨gb265, 4, none⟩ = some (.bool false) := (blk_cell BK265.out 4).trans rfl; have hfz12_0 := blk_frozen BK265.out 0; have hfz12_1 := blk_frozen BK265.out 1; have hfz12_2 := blk_frozen BK265.out 2; have hfz12_3 := blk_frozen BK265.out 3; have hfz12_4 := blk_frozen BK265.out 4))
        go_roundg k2
        case measure => have := HK1.out; have := HK2.out; omega
        case rel => exact ⟨(x1_2), (wrap64 (x11_2 + 1)), (by first | rfl | (simp; done) | (simp [*]; done)), H', ⟨by have := HK1.out; have := HK2.out; omega⟩, ⟨by (with_reducible repeat (first | apply rA|apply rN|apply rD)); exact Kd.R_mono (Kd.R_far (p := ⟨gb265, 4, none⟩) (Kd.R_far (p := ⟨gb265, 3, none⟩) (Kd.R_far (p := ⟨gb265, 2, none⟩) (Kd.R_far (p := ⟨gb265, 1, none⟩) (Kd.R_far (p := ⟨gb265, 0, none⟩) (Kd.R_types HO_1.out BK265.out (by decide)) (fun _ hk => hk.2) (.string t259)) (fun _ hk => hk.2) (.string t260)) (fun _ hk => hk.2) (.int .u8 t261)) (fun _ hk => hk.2) (.int .i64 t262)) (fun _ hk => hk.2) (.bool t263)) (fun _ hk => trivial)⟩, ⟨by repeat (first | (with_reducible first | exact HB.out | apply bA|apply bN|apply bD | refine below_set ?_ GE265.out) | exact HB.out)⟩⟩
      ·rw [if_neg c2] at H
       have c2b0 : decide (x11_2 < 256) = false := decide_eq_false c2
       clear c2
       have H' := Aside0.mk H
       clear H
       go_wp2
       go_roundg k2
       case measure => have := HK1.out; have := HK2.out; omega
       case rel => exact ⟨(x1_2), (wrap64 (x8_1 + 1)), (by first | rfl | (simp; done) | (simp [*]; done)), H', ⟨by have := HK1.out; have := HK2.out; omega⟩, ⟨by (with_reducible repeat (first | apply rA|apply rN|apply rD)); exact HO_1.out⟩, ⟨by repeat (first | (with_reducible first | exact HB.out | apply bA|apply bN|apply bD) | exact HB.out)⟩⟩
   ·rw [if_neg c1] at H
    have c1b0 : decide (x8_1 < 3) = false := decide_eq_false c1
    clear c1
    obtain rfl := Option.some.inj H
    go_wp2
    go_ret
    exact ⟨_, by first | rfl | (simp [errW_none, errW_some] <;> rfl) | (simp [*, errW_none, errW_some] <;> rfl), by (with_reducible repeat (first | apply rA|apply rN|apply rD)); exact HO_1.out, by repeat (first | (with_reducible first | exact HB.out | apply bA|apply bN|apply bD) | exact HB.out)⟩

end Go.Proofs.YtfbdmgdbamjjhaaDoor.P
