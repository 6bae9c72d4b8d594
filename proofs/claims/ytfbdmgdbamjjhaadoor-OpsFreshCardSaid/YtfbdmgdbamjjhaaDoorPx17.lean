-- Printed by a program of this session (wip/patch-print.py over the kit's print): Lean checks it.
import Derived.Test.YtfbdmgdbamjjhaaDoorPx0
import Derived.Test.YtfbdmgdbamjjhaaDoorPx4
import Derived.Test.YtfbdmgdbamjjhaaDoorPx9
import Derived.Test.YtfbdmgdbamjjhaaDoorPx10
import Derived.Test.YtfbdmgdbamjjhaaDoorPx11
import Derived.Test.YtfbdmgdbamjjhaaDoorGAll
namespace Go.Proofs.YtfbdmgdbamjjhaaDoor.P
open Go.Proofs.YtfbdmgdbamjjhaaDoorTabs
open Go.Proofs.YtfbdmgdbamjjhaaDoorCaps
open Go.RowKit Go.Proofs.YtfbdmgdbamjjhaaDoorW.PrintWords Go.Proofs.YtfbdmgdbamjjhaaDoorW.PrintLast Go.Proofs.YtfbdmgdbamjjhaaDoorW.PrintMore
attribute [local go_sem] max2_int min2_int max_two min_two max_three min_three max_four min_four   -- for this text's walks alone
set_option linter.unusedVariables false
set_option linter.unusedSimpArgs false

/-! ### jacquardlaw10_OpsFresh: function 8 -/
mutual
def jacquardlaw10_OpsFresh.l0 : Nat → Int → Int → Int → ByteArray → Int → List Int → List Int → Int → Bool → Option (Bool)
 | 0, _, _, _, _, _, _, _, _, _ => none
 | k + 1, x0, x5, x902000, x902001, x902002, x902003, x902004, x902005, x902006 => if x5 < (x902003.length : Int) then (if 0 ≤ x5 then (jacquardlaw10_OpsFresh.l0 k x0 (wrap64 (x5 + 1)) x902000 x902001 x902002 (x902003.set (x5 : Int).toNat 0) x902004 x902005 x902006) else (none)) else (jacquardlaw10_OpsFresh.l1 k x0 0 x902000 x902001 x902002 x902003 x902004 x902005 x902006)
def jacquardlaw10_OpsFresh.l1 : Nat → Int → Int → Int → ByteArray → Int → List Int → List Int → Int → Bool → Option (Bool)
 | 0, _, _, _, _, _, _, _, _, _ => none
 | k + 1, x0, x6, x902000, x902001, x902002, x902003, x902004, x902005, x902006 => if x6 < (x902004.length : Int) then (if 0 ≤ x6 then (jacquardlaw10_OpsFresh.l1 k x0 (wrap64 (x6 + 1)) x902000 x902001 x902002 x902003 (x902004.set (x6 : Int).toNat 0) x902005 x902006) else (none)) else ((ops_All.f k).bind fun t904 => (jacquardlaw10_OpsFresh.l2 k x0 t904 0))
def jacquardlaw10_OpsFresh.l2 : Nat → Int → List Int → Int → Option (Bool)
 | 0, _, _, _ => none
 | k + 1, x0, x7, x8 => if x8 < (x7.length : Int) then (if 0 ≤ x8 then (jacquardlaw10_OpsFresh.l2 k x0 (x7.set (x8 : Int).toNat 0) (wrap64 (x8 + 1))) else (none)) else ((ops_Of.f k x0).bind fun bt908 => ((jacquardref10_Of.f k x0).bind fun bt921 => ((ops_All.f k).bind fun t934 => ((jacquardref00_Info.f k bt908.1 bt908.2.1 bt908.2.2.1 bt908.2.2.2.1 bt908.2.2.2.2.1 bt908.2.2.2.2.2.1 bt908.2.2.2.2.2.2.1 bt921.1 bt921.2.1 bt921.2.2.1 bt921.2.2.2.1 bt921.2.2.2.2.1 bt921.2.2.2.2.2.1 bt921.2.2.2.2.2.2.1).bind fun t937 => (if t937 = true then (if (t934.length : Int) = 435 then (if 1 < (t934.length : Int) then (if (rd t934 1) = 1 then ((jacquardlaw10_works.f k).bind fun t939 => (some t939)) else (some false)) else (none)) else (some false)) else (some false))))))
end
def jacquardlaw10_OpsFresh.f (k : Nat) (a0 : Int) : Option (Bool) := (ops_Of.f k a0).bind fun bt889 => (jacquardlaw10_OpsFresh.l0 k a0 0 bt889.1 bt889.2.1 bt889.2.2.1 bt889.2.2.2.1 bt889.2.2.2.2.1 bt889.2.2.2.2.2.1 bt889.2.2.2.2.2.2.1)
theorem jacquardlaw10_OpsFresh.mono_l : ∀ k, (∀ y0 y1 y2 y3 y4 y5 y6 y7 y8, LeO (jacquardlaw10_OpsFresh.l0 k y0 y1 y2 y3 y4 y5 y6 y7 y8) (jacquardlaw10_OpsFresh.l0 (k + 1) y0 y1 y2 y3 y4 y5 y6 y7 y8)) ∧ (∀ y0 y1 y2 y3 y4 y5 y6 y7 y8, LeO (jacquardlaw10_OpsFresh.l1 k y0 y1 y2 y3 y4 y5 y6 y7 y8) (jacquardlaw10_OpsFresh.l1 (k + 1) y0 y1 y2 y3 y4 y5 y6 y7 y8)) ∧ (∀ y0 y1 y2, LeO (jacquardlaw10_OpsFresh.l2 k y0 y1 y2) (jacquardlaw10_OpsFresh.l2 (k + 1) y0 y1 y2))
 | 0 => ⟨fun _ _ _ _ _ _ _ _ _ r h => by simp [jacquardlaw10_OpsFresh.l0] at h, fun _ _ _ _ _ _ _ _ _ r h => by simp [jacquardlaw10_OpsFresh.l1] at h, fun _ _ _ r h => by simp [jacquardlaw10_OpsFresh.l2] at h⟩
 | k + 1 => by
  obtain ⟨ih0, ih1, ih2⟩ := jacquardlaw10_OpsFresh.mono_l k
  refine ⟨?_, ?_, ?_⟩ <;> intros <;> (first | unfold jacquardlaw10_OpsFresh.l0 | unfold jacquardlaw10_OpsFresh.l1 | unfold jacquardlaw10_OpsFresh.l2) <;> (repeat' first | (with_reducible exact LeO.refl _) | (with_reducible exact ih0 _ _ _ _ _ _ _ _ _) | (with_reducible exact ih1 _ _ _ _ _ _ _ _ _) | (with_reducible exact ih2 _ _ _) | (with_reducible exact LeO.none _) | (with_reducible refine LeO.ite ?_ ?_) | (with_reducible refine LeO.bind ?_ (fun _ => ?_)) | exact jacquardlaw10_works.mono _ | exact jacquardref00_Info.mono _ _ _ _ _ _ _ _ _ _ _ _ _ _ _ | exact jacquardref10_Of.mono _ _ | exact ops_All.mono _ | exact ops_Of.mono _ _ | exact ih0 _ _ _ _ _ _ _ _ _ | exact ih1 _ _ _ _ _ _ _ _ _ | exact ih2 _ _ _ | exact LeO.none _ | refine LeO.ite ?_ ?_ | refine LeO.bind ?_ (fun _ => ?_))
theorem jacquardlaw10_OpsFresh.mono : ∀ a0 k, LeO (jacquardlaw10_OpsFresh.f k a0) (jacquardlaw10_OpsFresh.f (k + 1) a0) := by
 intro a0 k
 obtain ⟨ih0, ih1, ih2⟩ := jacquardlaw10_OpsFresh.mono_l k
 unfold jacquardlaw10_OpsFresh.f
 repeat' first
   | (with_reducible exact ih0 _ _ _ _ _ _ _ _ _)
   | (with_reducible exact ih1 _ _ _ _ _ _ _ _ _)
   | (with_reducible exact ih2 _ _ _)
   | (with_reducible exact jacquardlaw10_works.mono _)
   | (with_reducible exact jacquardref00_Info.mono _ _ _ _ _ _ _ _ _ _ _ _ _ _ _)
   | (with_reducible exact jacquardref10_Of.mono _ _)
   | (with_reducible exact ops_All.mono _)
   | (with_reducible exact ops_Of.mono _ _)
   | (with_reducible exact LeO.refl _)
   | (with_reducible exact LeO.none _)
   | (with_reducible refine LeO.ite ?_ ?_)
   | (with_reducible refine LeO.bind ?_ (fun _ => ?_))
   | exact ih0 _ _ _ _ _ _ _ _ _
   | exact ih1 _ _ _ _ _ _ _ _ _
   | exact ih2 _ _ _
   | exact jacquardlaw10_works.mono _
   | exact jacquardref00_Info.mono _ _ _ _ _ _ _ _ _ _ _ _ _ _ _
   | exact jacquardref10_Of.mono _ _
   | exact ops_All.mono _
   | exact ops_Of.mono _ _
   | exact LeO.none _
   | refine LeO.ite ?_ ?_
   | refine LeO.bind ?_ (fun _ => ?_)
set_option maxHeartbeats 8000000 in
set_option maxRecDepth 100000 in
theorem jacquardlaw10_OpsFresh.calls (k : Nat) (a0 : Int) (w : World) (hT : Go.Proofs.YtfbdmgdbamjjhaaDoorTabs.Tab w) (h : jacquardlaw10_OpsFresh.f k a0 = some true) :
  Calls Tryd.prog 8 #[.int .u16 a0] w fun e w' => e = .returned (.bool true) ∧ Below w.heap.size w w' := by
 have HT := Aside0.mk hT
 clear hT
 have hu27 := Tryd.underlying27
 have HB := Aside0.mk (Below.refl w.heap.size w)
 have H : ((ops_Of.f k a0).bind fun bt889 => (jacquardlaw10_OpsFresh.l0 k a0 0 bt889.1 bt889.2.1 bt889.2.2.1 bt889.2.2.2.1 bt889.2.2.2.2.1 bt889.2.2.2.2.2.1 bt889.2.2.2.2.2.2.1)) = some true := h
 clear h
 replace H := Option.bind_eq_some_iff.mp H
 obtain ⟨⟨t889, t890, t891, t892, t895, t898, t899, t900⟩, A20, H⟩ := H
 replace H : (jacquardlaw10_OpsFresh.l0 k a0 0 t889 t890 t891 t892 t895 t898 t899) = some true := H
 have A2 := Aside0.mk A20
 clear A20
 have H' := Aside0.mk H
 clear H
 go_enter Tryd.func8, Tryd.ntmps8
 go_wp2_with (first | ((with_reducible refine gate_callee (f := 11) rfl ?_);refine goesL_ (some 16) rfl rfl Tryd.func11 (by kernel_rfl) rfl #[.int .u16 a0] rfl (by (try simp only [List.map_toArray, List.map_cons, List.map_nil]);first | done | rfl) ?_;(with_reducible refine (ops_Of.calls (hT := by first | exact HT.out | exact Tab.below HT.out (by repeat (first | (with_reducible first|exact HB.out|apply bA|apply bN|apply bD | refine below_set ?_ (Aside0.out (by assumption))) | exact HB.out)) | exact Tab.drawn HT.out (by repeat (first | exact Drawn0.refl _|apply Drawn0.step))) k a0 t889 t890 t891 t892 t895 t898 t899 t900 _ A2.out).mono ?_);rintro e w3 ⟨v893, v896, rfl, ho0, ho1, hb⟩;refine ⟨_, rfl, ?_⟩;have n0_ := Aside0.mk (Kd.R_lower ho0 (below_size (by repeat (first | (with_reducible first|exact HB.out|apply bA|apply bN|apply bD) | exact HB.out))));have n1_ := Aside0.mk (Kd.R_lower ho1 (below_size (by repeat (first | (with_reducible first|exact HB.out|apply bA|apply bN|apply bD) | exact HB.out))));have n2_ := Aside0.mk (below_step (by repeat (first | (with_reducible first|exact HB.out|apply bA|apply bN|apply bD) | exact HB.out)) hb);clear HB;have HO894 := n0_;have HO897 := n1_;have HB := n2_;clear n0_ n1_ n2_;(try clear hb);(try clear hb2);(try clear hk);(try clear hi);(try clear ho0);(try clear ho1)) | ((with_reducible refine gate_dst (N := 3) rfl ?_);(try (refine gate_guard (by rfl) ?_;dsimp only));refine box_event ?hg (N := 3) ?hd (cs := #[.int .u16 0, .string (⟨#[]⟩ : ByteArray), .int .u8 0, .slice none 0 0, .slice none 0 0, .int .i64 0, .bool false]) (t := 27) ?hr ?_;(case hd => rfl);(case hg => rfl);(case hr => first | (go_simp;done) | (go_simp;rfl));intro gb901 hg w4 hbox hb;have n0_ := Aside0.mk (Kd.R_below (by (with_reducible repeat (first|apply rA|apply rN|apply rD));exact HO894.out) hb);have n1_ := Aside0.mk (Kd.R_below (by (with_reducible repeat (first|apply rA|apply rN|apply rD));exact HO897.out) hb);have n2_ := Aside0.mk (below_step (by repeat (first | (with_reducible first|exact HB.out|apply bA|apply bN|apply bD) | exact HB.out)) hb);have n3_ := Aside0.mk (hbox);have n4_ := Aside0.mk ((by rw [hg];exact (below_size (by repeat (first | (with_reducible first|exact HB.out|apply bA|apply bN|apply bD) | exact HB.out))) : w.heap.size ≤ gb901));have n5_ := Aside0.mk ((by rw [hg];exact (below_size (by repeat (first | (with_reducible first|exact HB.out|apply bA|apply bN|apply bD) | exact HB.out))) : w.heap.size ≤ gb901));clear HO894;clear HO897;clear HB;have HO894 := n0_;have HO897 := n1_;have HB := n2_;have BK901 := n3_;have GW901 := n4_;have GE901 := n5_;clear n0_ n1_ n2_ n3_ n4_ n5_;clear hb hbox hg;have hcz5_0 : w4.cell? ⟨gb901, 0, none⟩ = some (.int .u16 0) := (blk_cell BK901.out 0).trans rfl;have hcz5_1 : w4.cell? ⟨gb901, 1, none⟩ = some (.string (⟨#[]⟩ : ByteArray)) := (blk_cell BK901.out 1).trans rfl;have hcz5_2 : w4.cell? ⟨gb901, 2, none⟩ = some (.int .u8 0) := (blk_cell BK901.out 2).trans rfl;have hcz5_3 : w4.cell? ⟨gb901, 3, none⟩ = some (.slice none 0 0) := (blk_cell BK901.out 3).trans rfl;have hcz5_4 : w4.cell? ⟨gb901, 4, none⟩ = some (.slice none 0 0) := (blk_cell BK901.out 4).trans rfl;have hcz5_5 : w4.cell? ⟨gb901, 5, none⟩ = some (.int .i64 0) := (blk_cell BK901.out 5).trans rfl;have hcz5_6 : w4.cell? ⟨gb901, 6, none⟩ = some (.bool false) := (blk_cell BK901.out 6).trans rfl;have hfz5_0 := blk_frozen BK901.out 0;have hfz5_1 := blk_frozen BK901.out 1;have hfz5_2 := blk_frozen BK901.out 2;have hfz5_3 := blk_frozen BK901.out 3;have hfz5_4 := blk_frozen BK901.out 4;have hfz5_5 := blk_frozen BK901.out 5;have hfz5_6 := blk_frozen BK901.out 6;obtain ⟨Ao6, co6, eo6⟩ := Kd.R_slice HO894.out;subst eo6;obtain ⟨Ao7, co7, eo7⟩ := Kd.R_slice HO897.out;subst eo7))
 go_loopg [5] k (fun kq v5 w' => ∃ (x5_1 : Int) (x902003_1 : List Int) (x902004_1 : List Int) (u902003 : Value) (u902004 : Value), v5 = .int .i64 x5_1 ∧ Aside0 (jacquardlaw10_OpsFresh.l0 kq a0 x5_1 t889 t890 t891 x902003_1 x902004_1 t898 t899 = some true) ∧ Aside0 (kq ≤ k) ∧ Aside0 (Kd.R (Kd.int .u8) 34 w' w.heap.size (fun k_ => some k_ ≠ (u902004 : Value).ownBlock) u902003 x902003_1) ∧ Aside0 (Kd.R (Kd.int .u8) 34 w' w.heap.size (fun k_ => some k_ ≠ (u902003 : Value).ownBlock) u902004 x902004_1) ∧ Aside0 (w'.heap[gb901]? = some (.cells #[.int .u16 t889, .string t890, .int .u8 t891, u902003, u902004, .int .i64 t898, .bool t899] 27 (0, 0))) ∧ Aside0 (Below w.heap.size w w'))
 case atStart => exact ⟨(0), (t892), (t895), (.slice Ao6 t892.length co6), (.slice Ao7 t895.length co7), (by first | rfl | (simp;done) | (simp [*];done)), H', ⟨Nat.le_refl _⟩, ⟨by (with_reducible repeat (first|apply rA|apply rN|apply rD));exact Kd.R_mono (Kd.R_far (p := ⟨gb901, 6, none⟩) (Kd.R_far (p := ⟨gb901, 5, none⟩) (Kd.R_far (p := ⟨gb901, 4, none⟩) (Kd.R_far (p := ⟨gb901, 3, none⟩) (Kd.R_far (p := ⟨gb901, 2, none⟩) (Kd.R_far (p := ⟨gb901, 1, none⟩) (Kd.R_far (p := ⟨gb901, 0, none⟩) (Kd.R_types HO894.out BK901.out (by decide)) (fun _ hk => hk.2) (.int .u16 t889)) (fun _ hk => hk.2) (.string t890)) (fun _ hk => hk.2) (.int .u8 t891)) (fun _ hk => hk.2) (.slice Ao6 t892.length co6)) (fun _ hk => hk.2) (.slice Ao7 t895.length co7)) (fun _ hk => hk.2) (.int .i64 t898)) (fun _ hk => hk.2) (.bool t899)) (fun _ hk => hk.1)⟩, ⟨by (with_reducible repeat (first|apply rA|apply rN|apply rD));exact Kd.R_mono (Kd.R_far (p := ⟨gb901, 6, none⟩) (Kd.R_far (p := ⟨gb901, 5, none⟩) (Kd.R_far (p := ⟨gb901, 4, none⟩) (Kd.R_far (p := ⟨gb901, 3, none⟩) (Kd.R_far (p := ⟨gb901, 2, none⟩) (Kd.R_far (p := ⟨gb901, 1, none⟩) (Kd.R_far (p := ⟨gb901, 0, none⟩) (Kd.R_types HO897.out BK901.out (by decide)) (fun _ hk => hk.2) (.int .u16 t889)) (fun _ hk => hk.2) (.string t890)) (fun _ hk => hk.2) (.int .u8 t891)) (fun _ hk => hk.2) (.slice Ao6 t892.length co6)) (fun _ hk => hk.2) (.slice Ao7 t895.length co7)) (fun _ hk => hk.2) (.int .i64 t898)) (fun _ hk => hk.2) (.bool t899)) (fun _ hk => hk.1)⟩, ⟨by (with_reducible repeat (first|apply kN|apply kD|apply kA));refine blk_put (cs := #[.int .u16 t889, .string t890, .int .u8 t891, .slice Ao6 t892.length co6, .slice Ao7 t895.length co7, .int .i64 t898, .bool false]) ?_ 6 _ rfl;(with_reducible repeat (first|apply kN|apply kD|apply kA));refine blk_put (cs := #[.int .u16 t889, .string t890, .int .u8 t891, .slice Ao6 t892.length co6, .slice Ao7 t895.length co7, .int .i64 0, .bool false]) ?_ 5 _ rfl;(with_reducible repeat (first|apply kN|apply kD|apply kA));refine blk_put (cs := #[.int .u16 t889, .string t890, .int .u8 t891, .slice Ao6 t892.length co6, .slice none 0 0, .int .i64 0, .bool false]) ?_ 4 _ rfl;(with_reducible repeat (first|apply kN|apply kD|apply kA));refine blk_put (cs := #[.int .u16 t889, .string t890, .int .u8 t891, .slice none 0 0, .slice none 0 0, .int .i64 0, .bool false]) ?_ 3 _ rfl;(with_reducible repeat (first|apply kN|apply kD|apply kA));refine blk_put (cs := #[.int .u16 t889, .string t890, .int .u8 0, .slice none 0 0, .slice none 0 0, .int .i64 0, .bool false]) ?_ 2 _ rfl;(with_reducible repeat (first|apply kN|apply kD|apply kA));refine blk_put (cs := #[.int .u16 t889, .string (⟨#[]⟩ : ByteArray), .int .u8 0, .slice none 0 0, .slice none 0 0, .int .i64 0, .bool false]) ?_ 1 _ rfl;(with_reducible repeat (first|apply kN|apply kD|apply kA));refine blk_put (cs := #[.int .u16 0, .string (⟨#[]⟩ : ByteArray), .int .u8 0, .slice none 0 0, .slice none 0 0, .int .i64 0, .bool false]) ?_ 0 _ rfl;(with_reducible repeat (first|apply kN|apply kD|apply kA));exact BK901.out⟩, ⟨by repeat (first | (with_reducible first|exact HB.out|apply bA|apply bN|apply bD | refine below_set ?_ GE901.out) | exact HB.out)⟩⟩
 case round =>
  clear H'
  try clear c1
  try clear p2
  try clear hcz5_0
  try clear hcz5_1
  try clear hcz5_2
  try clear hcz5_3
  try clear hcz5_4
  try clear hcz5_5
  try clear hcz5_6
  try clear hfz5_0
  try clear hfz5_1
  try clear hfz5_2
  try clear hfz5_3
  try clear hfz5_4
  try clear hfz5_5
  try clear hfz5_6
  obtain ⟨x5_1, x902003_1, x902004_1, u902003, u902004, rfl, HA, HK1, HO_902003, HO_902004, BK901, HB⟩ := hrel
  cases gk with
  | zero => exact absurd HA.out (by simp [jacquardlaw10_OpsFresh.l0])
  | succ k1 =>
   have H := HA.out
   clear HA
   simp only [jacquardlaw10_OpsFresh.l0] at H
   by_cases c8 : x5_1 < (x902003_1.length : Int)
   ·rw [if_pos c8] at H
    have c8b0 : decide (x5_1 < (x902003_1.length : Int)) = true := decide_eq_true c8
    clear c8
    by_cases c9 : 0 ≤ x5_1
    ·rw [if_pos c9] at H
     have c9b0 : decide (0 ≤ x5_1) = true := decide_eq_true c9
     clear c9
     obtain ⟨y902, hy902⟩ : ∃ y_ : List Int, y_ = (x902003_1.set (x5_1 : Int).toNat 0) := ⟨_, rfl⟩
     replace H : (jacquardlaw10_OpsFresh.l0 k1 a0 (wrap64 (x5_1 + 1)) t889 t890 t891 y902 x902004_1 t898 t899) = some true := by first | (rw [hy902];with_reducible exact H) | (have H2_ := (Option.bind_some _ _).symm.trans H;rw [hy902];with_reducible exact H2_) | (have H2_ := (Option.bind_some _ _).symm.trans H;with_reducible exact H2_) | with_reducible exact H | (rw [hy902];exact H) | exact H
     have Ny902 := Aside0.mk hy902
     clear hy902
     have H' := Aside0.mk H
     clear H
     have hcz11_0 : wr.cell? ⟨gb901, 0, none⟩ = some (.int .u16 t889) := (blk_cell BK901.out 0).trans rfl
     have hcz11_1 : wr.cell? ⟨gb901, 1, none⟩ = some (.string t890) := (blk_cell BK901.out 1).trans rfl
     have hcz11_2 : wr.cell? ⟨gb901, 2, none⟩ = some (.int .u8 t891) := (blk_cell BK901.out 2).trans rfl
     have hcz11_3 : wr.cell? ⟨gb901, 3, none⟩ = some (u902003) := (blk_cell BK901.out 3).trans rfl
     have hcz11_4 : wr.cell? ⟨gb901, 4, none⟩ = some (u902004) := (blk_cell BK901.out 4).trans rfl
     have hcz11_5 : wr.cell? ⟨gb901, 5, none⟩ = some (.int .i64 t898) := (blk_cell BK901.out 5).trans rfl
     have hcz11_6 : wr.cell? ⟨gb901, 6, none⟩ = some (.bool t899) := (blk_cell BK901.out 6).trans rfl
     have hfz11_0 := blk_frozen BK901.out 0
     have hfz11_1 := blk_frozen BK901.out 1
     have hfz11_2 := blk_frozen BK901.out 2
     have hfz11_3 := blk_frozen BK901.out 3
     have hfz11_4 := blk_frozen BK901.out 4
     have hfz11_5 := blk_frozen BK901.out 5
     have hfz11_6 := blk_frozen BK901.out 6
     obtain ⟨Ao12, co12, eo12⟩ := Kd.R_slice HO_902003.out
     subst eo12
     have p10 : 0 ≤ (x5_1 : Int) := of_decide_eq_true (by first | (with_reducible assumption) | assumption)
     have q10 : (x5_1 : Int) < ((x902003_1.length : Int) : Int) := of_decide_eq_true (by first | (with_reducible assumption) | assumption)
     obtain ⟨go10, co10, eo10, gb10, gl10, cl10, HG10⟩ := Kd.R_form HO_902003.out (by omega)
     (first | cases eo10 | (injection eo10 with ea_ en_ ec_;(first | subst ea_ | (injection ea_ with ea_;subst ea_));subst ec_;clear en_))
     have GB10 := Aside0.mk gb10
     have GG10 := Aside0.mk HG10
     clear gb10 gl10 HG10
     obtain ⟨hx10_0, hf10_0⟩ := Kd.R_celln 0 HO_902003.out (x5_1 : Int) p10 q10
     replace p10 := eq_true p10
     replace q10 := eq_true q10
     have HP13 := Kd.R_putg HO_902003.out (x5_1 : Int) 0
     go_wp2_with (first | ((with_reducible refine gate_store (t := 34) (p := 29) rfl ?_);refine store_event (t := 34) (p := 29) (v := ?vo_w14) (w1 := (wr.setCell ⟨go10, (x5_1 : Int).toNat, none⟩ (.int .u8 0))) ?hg ?ho ?hn ?hr ?_;(case ho => rfl);(case hg => rfl);(case hn => rfl);(case hr => first | (go_simp;done) | (go_simp;rfl));intro w14 hw;have hg : wr.grownBy w14 (some go10) := (by rw [hw];exact HP13.2);have hp_ : Kd.R (Kd.int .u8) 34 w14 w.heap.size (fun k_ => some k_ ≠ (u902004 : Value).ownBlock) (.slice (some ⟨go10, 0, none⟩) x902003_1.length co12) y902 := (by rw [hw, Ny902.out];exact HP13.1);clear HP13;have n0_ := Aside0.mk (hp_);have n1_ := Aside0.mk (Kd.R_after (v := (.slice (some ⟨go10, 0, none⟩) x902003_1.length co12)) (v1 := (.slice (some ⟨go10, 0, none⟩) x902003_1.length co12)) (ok := (fun _ => True)) (by (with_reducible repeat (first|apply rA|apply rN|apply rD));exact Kd.R_mono HO_902004.out (fun _ hk => ⟨trivial, hk⟩)) hg (.inl rfl));have n2_ := Aside0.mk (blk_grown (g := gb901) (o := .cells #[.int .u16 t889, .string t890, .int .u8 t891, .slice (some ⟨go10, 0, none⟩) x902003_1.length co12, u902004, .int .i64 t898, .bool t899] 27 (0, 0)) (by (with_reducible repeat (first|apply kN|apply kD|apply kA));exact BK901.out) hg (Kd.R_ne HO_902003.out BK901.out (by decide)));have n3_ := Aside0.mk ((by rw [hw];exact below_set (HB.out) GB10.out : Below w.heap.size w w14));clear HO_902003;clear HO_902004;clear BK901;clear HB;have HO_902003 := n0_;have HO_902004 := n1_;have BK901 := n2_;have HB := n3_;clear n0_ n1_ n2_ n3_;clear hg hw hp_))
     go_roundg k1
     case measure => have := HK1.out;omega
     case rel => exact ⟨(wrap64 (x5_1 + 1)), (y902), (x902004_1), (.slice (some ⟨go10, 0, none⟩) x902003_1.length co12), (u902004), (by first | rfl | (simp;done) | (simp [*];done)), H', ⟨by have := HK1.out;omega⟩, ⟨by (with_reducible repeat (first|apply rA|apply rN|apply rD));exact HO_902003.out⟩, ⟨by (with_reducible repeat (first|apply rA|apply rN|apply rD));exact Kd.R_mono HO_902004.out (fun _ hk => hk.2)⟩, ⟨by (with_reducible repeat (first|apply kN|apply kD|apply kA));exact BK901.out⟩, ⟨by repeat (first | (with_reducible first|exact HB.out|apply bA|apply bN|apply bD | refine below_set ?_ GE901.out) | exact HB.out)⟩⟩
    ·rw [if_neg c9] at H
     exact absurd H (by simp)
   ·rw [if_neg c8] at H
    have c8b0 : decide (x5_1 < (x902003_1.length : Int)) = false := decide_eq_false c8
    clear c8
    have H' := Aside0.mk H
    clear H
    have hcz15_0 : wr.cell? ⟨gb901, 0, none⟩ = some (.int .u16 t889) := (blk_cell BK901.out 0).trans rfl
    have hcz15_1 : wr.cell? ⟨gb901, 1, none⟩ = some (.string t890) := (blk_cell BK901.out 1).trans rfl
    have hcz15_2 : wr.cell? ⟨gb901, 2, none⟩ = some (.int .u8 t891) := (blk_cell BK901.out 2).trans rfl
    have hcz15_3 : wr.cell? ⟨gb901, 3, none⟩ = some (u902003) := (blk_cell BK901.out 3).trans rfl
    have hcz15_4 : wr.cell? ⟨gb901, 4, none⟩ = some (u902004) := (blk_cell BK901.out 4).trans rfl
    have hcz15_5 : wr.cell? ⟨gb901, 5, none⟩ = some (.int .i64 t898) := (blk_cell BK901.out 5).trans rfl
    have hcz15_6 : wr.cell? ⟨gb901, 6, none⟩ = some (.bool t899) := (blk_cell BK901.out 6).trans rfl
    have hfz15_0 := blk_frozen BK901.out 0
    have hfz15_1 := blk_frozen BK901.out 1
    have hfz15_2 := blk_frozen BK901.out 2
    have hfz15_3 := blk_frozen BK901.out 3
    have hfz15_4 := blk_frozen BK901.out 4
    have hfz15_5 := blk_frozen BK901.out 5
    have hfz15_6 := blk_frozen BK901.out 6
    obtain ⟨Ao16, co16, eo16⟩ := Kd.R_slice HO_902003.out
    subst eo16
    go_wp2
    go_loopg [6] k1 (fun kq v6 w' => ∃ (x6_2 : Int) (x902003_2 : List Int) (x902004_2 : List Int) (u902003 : Value) (u902004 : Value), v6 = .int .i64 x6_2 ∧ Aside0 (jacquardlaw10_OpsFresh.l1 kq a0 x6_2 t889 t890 t891 x902003_2 x902004_2 t898 t899 = some true) ∧ Aside0 (kq ≤ k1) ∧ Aside0 (Kd.R (Kd.int .u8) 34 w' w.heap.size (fun k_ => some k_ ≠ (u902004 : Value).ownBlock) u902003 x902003_2) ∧ Aside0 (Kd.R (Kd.int .u8) 34 w' w.heap.size (fun k_ => some k_ ≠ (u902003 : Value).ownBlock) u902004 x902004_2) ∧ Aside0 (w'.heap[gb901]? = some (.cells #[.int .u16 t889, .string t890, .int .u8 t891, u902003, u902004, .int .i64 t898, .bool t899] 27 (0, 0))) ∧ Aside0 (Below w.heap.size w w'))
    case atStart => exact ⟨(0), (x902003_1), (x902004_1), (.slice Ao16 x902003_1.length co16), (u902004), (by first | rfl | (simp;done) | (simp [*];done)), H', ⟨Nat.le_refl _⟩, ⟨by (with_reducible repeat (first|apply rA|apply rN|apply rD));exact HO_902003.out⟩, ⟨by (with_reducible repeat (first|apply rA|apply rN|apply rD));exact HO_902004.out⟩, ⟨by (with_reducible repeat (first|apply kN|apply kD|apply kA));exact BK901.out⟩, ⟨by repeat (first | (with_reducible first|exact HB.out|apply bA|apply bN|apply bD | refine below_set ?_ GE901.out) | exact HB.out)⟩⟩
    case round =>
     clear H'
     try clear c1
     try clear p1
     try clear q1
     try clear hx1
     try clear hf1
     try clear p2
     try clear p6
     try clear c8
     try clear c8b0
     try clear c9
     try clear c9b0
     try clear p10
     try clear q10
     try clear hx10
     try clear hf10
     try clear c11
     try clear hcz11_0
     try clear hcz11_1
     try clear hcz11_2
     try clear hcz11_3
     try clear hcz11_4
     try clear hcz11_5
     try clear hcz11_6
     try clear hcz15_0
     try clear hcz15_1
     try clear hcz15_2
     try clear hcz15_3
     try clear hcz15_4
     try clear hcz15_5
     try clear hcz15_6
     try clear hcz5_0
     try clear hcz5_1
     try clear hcz5_2
     try clear hcz5_3
     try clear hcz5_4
     try clear hcz5_5
     try clear hcz5_6
     try clear hfz11_0
     try clear hfz11_1
     try clear hfz11_2
     try clear hfz11_3
     try clear hfz11_4
     try clear hfz11_5
     try clear hfz11_6
     try clear hfz15_0
     try clear hfz15_1
     try clear hfz15_2
     try clear hfz15_3
     try clear hfz15_4
     try clear hfz15_5
     try clear hfz15_6
     try clear hfz5_0
     try clear hfz5_1
     try clear hfz5_2
     try clear hfz5_3
     try clear hfz5_4
     try clear hfz5_5
     try clear hfz5_6
     try clear hx10_0
     try clear p10
     try clear p2
     try clear q10
     obtain ⟨x6_2, x902003_2, x902004_2, u902003, u902004, rfl, HA, HK2, HO_902003, HO_902004, BK901, HB⟩ := hrel
     cases gk with
     | zero => exact absurd HA.out (by simp [jacquardlaw10_OpsFresh.l1])
     | succ k2 =>
      have H := HA.out
      clear HA
      simp only [jacquardlaw10_OpsFresh.l1] at H
      by_cases c17 : x6_2 < (x902004_2.length : Int)
      ·rw [if_pos c17] at H
       have c17b0 : decide (x6_2 < (x902004_2.length : Int)) = true := decide_eq_true c17
       clear c17
       by_cases c18 : 0 ≤ x6_2
       ·rw [if_pos c18] at H
        have c18b0 : decide (0 ≤ x6_2) = true := decide_eq_true c18
        clear c18
        obtain ⟨y903, hy903⟩ : ∃ y_ : List Int, y_ = (x902004_2.set (x6_2 : Int).toNat 0) := ⟨_, rfl⟩
        replace H : (jacquardlaw10_OpsFresh.l1 k2 a0 (wrap64 (x6_2 + 1)) t889 t890 t891 x902003_2 y903 t898 t899) = some true := by first | (rw [hy903];with_reducible exact H) | (have H2_ := (Option.bind_some _ _).symm.trans H;rw [hy903];with_reducible exact H2_) | (have H2_ := (Option.bind_some _ _).symm.trans H;with_reducible exact H2_) | with_reducible exact H | (rw [hy903];exact H) | exact H
        have Ny903 := Aside0.mk hy903
        clear hy903
        have H' := Aside0.mk H
        clear H
        have hcz20_0 : wr.cell? ⟨gb901, 0, none⟩ = some (.int .u16 t889) := (blk_cell BK901.out 0).trans rfl
        have hcz20_1 : wr.cell? ⟨gb901, 1, none⟩ = some (.string t890) := (blk_cell BK901.out 1).trans rfl
        have hcz20_2 : wr.cell? ⟨gb901, 2, none⟩ = some (.int .u8 t891) := (blk_cell BK901.out 2).trans rfl
        have hcz20_3 : wr.cell? ⟨gb901, 3, none⟩ = some (u902003) := (blk_cell BK901.out 3).trans rfl
        have hcz20_4 : wr.cell? ⟨gb901, 4, none⟩ = some (u902004) := (blk_cell BK901.out 4).trans rfl
        have hcz20_5 : wr.cell? ⟨gb901, 5, none⟩ = some (.int .i64 t898) := (blk_cell BK901.out 5).trans rfl
        have hcz20_6 : wr.cell? ⟨gb901, 6, none⟩ = some (.bool t899) := (blk_cell BK901.out 6).trans rfl
        have hfz20_0 := blk_frozen BK901.out 0
        have hfz20_1 := blk_frozen BK901.out 1
        have hfz20_2 := blk_frozen BK901.out 2
        have hfz20_3 := blk_frozen BK901.out 3
        have hfz20_4 := blk_frozen BK901.out 4
        have hfz20_5 := blk_frozen BK901.out 5
        have hfz20_6 := blk_frozen BK901.out 6
        obtain ⟨Ao21, co21, eo21⟩ := Kd.R_slice HO_902004.out
        subst eo21
        have p19 : 0 ≤ (x6_2 : Int) := of_decide_eq_true (by first | (with_reducible assumption) | assumption)
        have q19 : (x6_2 : Int) < ((x902004_2.length : Int) : Int) := of_decide_eq_true (by first | (with_reducible assumption) | assumption)
        obtain ⟨go19, co19, eo19, gb19, gl19, cl19, HG19⟩ := Kd.R_form HO_902004.out (by omega)
        (first | cases eo19 | (injection eo19 with ea_ en_ ec_;(first | subst ea_ | (injection ea_ with ea_;subst ea_));subst ec_;clear en_))
        have GB19 := Aside0.mk gb19
        have GG19 := Aside0.mk HG19
        clear gb19 gl19 HG19
        obtain ⟨hx19_0, hf19_0⟩ := Kd.R_celln 0 HO_902004.out (x6_2 : Int) p19 q19
        replace p19 := eq_true p19
        replace q19 := eq_true q19
        have HP22 := Kd.R_putg HO_902004.out (x6_2 : Int) 0
        go_wp2_with (first | ((with_reducible refine gate_store (t := 34) (p := 40) rfl ?_);refine store_event (t := 34) (p := 40) (v := ?vo_w23) (w1 := (wr.setCell ⟨go19, (x6_2 : Int).toNat, none⟩ (.int .u8 0))) ?hg ?ho ?hn ?hr ?_;(case ho => rfl);(case hg => rfl);(case hn => rfl);(case hr => first | (go_simp;done) | (go_simp;rfl));intro w23 hw;have hg : wr.grownBy w23 (some go19) := (by rw [hw];exact HP22.2);have hp_ : Kd.R (Kd.int .u8) 34 w23 w.heap.size (fun k_ => some k_ ≠ (u902003 : Value).ownBlock) (.slice (some ⟨go19, 0, none⟩) x902004_2.length co21) y903 := (by rw [hw, Ny903.out];exact HP22.1);clear HP22;have n0_ := Aside0.mk (Kd.R_after (v := (.slice (some ⟨go19, 0, none⟩) x902004_2.length co21)) (v1 := (.slice (some ⟨go19, 0, none⟩) x902004_2.length co21)) (ok := (fun _ => True)) (by (with_reducible repeat (first|apply rA|apply rN|apply rD));exact Kd.R_mono HO_902003.out (fun _ hk => ⟨trivial, hk⟩)) hg (.inl rfl));have n1_ := Aside0.mk (hp_);have n2_ := Aside0.mk (blk_grown (g := gb901) (o := .cells #[.int .u16 t889, .string t890, .int .u8 t891, u902003, .slice (some ⟨go19, 0, none⟩) x902004_2.length co21, .int .i64 t898, .bool t899] 27 (0, 0)) (by (with_reducible repeat (first|apply kN|apply kD|apply kA));exact BK901.out) hg (Kd.R_ne HO_902004.out BK901.out (by decide)));have n3_ := Aside0.mk ((by rw [hw];exact below_set (HB.out) GB19.out : Below w.heap.size w w23));clear HO_902003;clear HO_902004;clear BK901;clear HB;have HO_902003 := n0_;have HO_902004 := n1_;have BK901 := n2_;have HB := n3_;clear n0_ n1_ n2_ n3_;clear hg hw hp_))
        go_roundg k2
        case measure => have := HK1.out;have := HK2.out;omega
        case rel => exact ⟨(wrap64 (x6_2 + 1)), (x902003_2), (y903), (u902003), (.slice (some ⟨go19, 0, none⟩) x902004_2.length co21), (by first | rfl | (simp;done) | (simp [*];done)), H', ⟨by have := HK1.out;have := HK2.out;omega⟩, ⟨by (with_reducible repeat (first|apply rA|apply rN|apply rD));exact Kd.R_mono HO_902003.out (fun _ hk => hk.2)⟩, ⟨by (with_reducible repeat (first|apply rA|apply rN|apply rD));exact HO_902004.out⟩, ⟨by (with_reducible repeat (first|apply kN|apply kD|apply kA));exact BK901.out⟩, ⟨by repeat (first | (with_reducible first|exact HB.out|apply bA|apply bN|apply bD | refine below_set ?_ GE901.out) | exact HB.out)⟩⟩
       ·rw [if_neg c18] at H
        exact absurd H (by simp)
      ·rw [if_neg c17] at H
       have c17b0 : decide (x6_2 < (x902004_2.length : Int)) = false := decide_eq_false c17
       clear c17
       replace H := Option.bind_eq_some_iff.mp H
       obtain ⟨t904, A240, H⟩ := H
       replace H : (jacquardlaw10_OpsFresh.l2 k2 a0 t904 0) = some true := H
       have A24 := Aside0.mk A240
       clear A240
       have H' := Aside0.mk H
       clear H
       have hcz25_0 : wr.cell? ⟨gb901, 0, none⟩ = some (.int .u16 t889) := (blk_cell BK901.out 0).trans rfl
       have hcz25_1 : wr.cell? ⟨gb901, 1, none⟩ = some (.string t890) := (blk_cell BK901.out 1).trans rfl
       have hcz25_2 : wr.cell? ⟨gb901, 2, none⟩ = some (.int .u8 t891) := (blk_cell BK901.out 2).trans rfl
       have hcz25_3 : wr.cell? ⟨gb901, 3, none⟩ = some (u902003) := (blk_cell BK901.out 3).trans rfl
       have hcz25_4 : wr.cell? ⟨gb901, 4, none⟩ = some (u902004) := (blk_cell BK901.out 4).trans rfl
       have hcz25_5 : wr.cell? ⟨gb901, 5, none⟩ = some (.int .i64 t898) := (blk_cell BK901.out 5).trans rfl
       have hcz25_6 : wr.cell? ⟨gb901, 6, none⟩ = some (.bool t899) := (blk_cell BK901.out 6).trans rfl
       have hfz25_0 := blk_frozen BK901.out 0
       have hfz25_1 := blk_frozen BK901.out 1
       have hfz25_2 := blk_frozen BK901.out 2
       have hfz25_3 := blk_frozen BK901.out 3
       have hfz25_4 := blk_frozen BK901.out 4
       have hfz25_5 := blk_frozen BK901.out 5
       have hfz25_6 := blk_frozen BK901.out 6
       obtain ⟨Ao26, co26, eo26⟩ := Kd.R_slice HO_902004.out
       subst eo26
       go_wp2_with (first | ((with_reducible refine gate_callee (f := 15) rfl ?_);refine goesL_ (some 41) rfl rfl Tryd.func15 (by kernel_rfl) rfl #[] rfl (by (try simp only [List.map_toArray, List.map_cons, List.map_nil]);first | done | rfl) ?_;(with_reducible refine (ops_All.calls (hT := by first | exact HT.out | exact Tab.below HT.out (by repeat (first | (with_reducible first|exact HB.out|apply bA|apply bN|apply bD | refine below_set ?_ (Aside0.out (by assumption))) | exact HB.out)) | exact Tab.drawn HT.out (by repeat (first | exact Drawn0.refl _|apply Drawn0.step))) k2  t904 _ A24.out).mono ?_);rintro e w27 ⟨v905, rfl, ho0, hb⟩;refine ⟨_, rfl, ?_⟩;have n0_ := Aside0.mk (Kd.R_below (by (with_reducible repeat (first|apply rA|apply rN|apply rD));exact HO_902003.out) hb);have n1_ := Aside0.mk (Kd.R_below (by (with_reducible repeat (first|apply rA|apply rN|apply rD));exact HO_902004.out) hb);have n2_ := Aside0.mk (Kd.R_lower ho0 (below_size (by repeat (first | (with_reducible first|exact HB.out|apply bA|apply bN|apply bD | refine below_set ?_ GE901.out) | exact HB.out))));have n3_ := Aside0.mk (blk_below (g := gb901) (o := .cells #[.int .u16 t889, .string t890, .int .u8 t891, u902003, .slice Ao26 x902004_2.length co26, .int .i64 t898, .bool t899] 27 (0, 0)) (by (with_reducible repeat (first|apply kN|apply kD|apply kA));exact BK901.out) hb);have n4_ := Aside0.mk (below_step (by repeat (first | (with_reducible first|exact HB.out|apply bA|apply bN|apply bD | refine below_set ?_ GE901.out) | exact HB.out)) hb);clear HO_902003;clear HO_902004;clear BK901;clear HB;have HO_902003 := n0_;have HO_902004 := n1_;have HO906 := n2_;have BK901 := n3_;have HB := n4_;clear n0_ n1_ n2_ n3_ n4_;(try clear hb);(try clear hb2);(try clear hk);(try clear hi);(try clear ho0)))
       go_loopg [8] k2 (fun kq v8 w' => ∃ (x7_3 : List Int) (x8_3 : Int), v8 = .int .i64 x8_3 ∧ Aside0 (jacquardlaw10_OpsFresh.l2 kq a0 x7_3 x8_3 = some true) ∧ Aside0 (kq ≤ k2) ∧ Aside0 (Kd.R (Kd.int .u16) 23 w' w.heap.size (fun _ => True) v905 x7_3) ∧ Aside0 (Kd.R (Kd.int .u8) 34 w' w.heap.size (fun k_ => some k_ ≠ ((.slice Ao26 x902004_2.length co26) : Value).ownBlock) u902003 x902003_2) ∧ Aside0 (Kd.R (Kd.int .u8) 34 w' w.heap.size (fun k_ => some k_ ≠ (u902003 : Value).ownBlock) (.slice Ao26 x902004_2.length co26) x902004_2) ∧ Aside0 (w'.heap[gb901]? = some (.cells #[.int .u16 t889, .string t890, .int .u8 t891, u902003, (.slice Ao26 x902004_2.length co26), .int .i64 t898, .bool t899] 27 (0, 0))) ∧ Aside0 (Below w.heap.size w w'))
       case atStart => exact ⟨(t904), (0), (by first | rfl | (simp;done) | (simp [*];done)), H', ⟨Nat.le_refl _⟩, ⟨by (with_reducible repeat (first|apply rA|apply rN|apply rD));exact HO906.out⟩, ⟨by (with_reducible repeat (first|apply rA|apply rN|apply rD));exact HO_902003.out⟩, ⟨by (with_reducible repeat (first|apply rA|apply rN|apply rD));exact HO_902004.out⟩, ⟨by (with_reducible repeat (first|apply kN|apply kD|apply kA));exact BK901.out⟩, ⟨by repeat (first | (with_reducible first|exact HB.out|apply bA|apply bN|apply bD | refine below_set ?_ GE901.out) | exact HB.out)⟩⟩
       case round =>
        clear H'
        try clear c1
        try clear p1
        try clear q1
        try clear hx1
        try clear hf1
        try clear p2
        try clear p6
        try clear c8
        try clear c8b0
        try clear c9
        try clear c9b0
        try clear p10
        try clear q10
        try clear hx10
        try clear hf10
        try clear c11
        try clear c15
        try clear c17
        try clear c17b0
        try clear c18
        try clear c18b0
        try clear p19
        try clear q19
        try clear hx19
        try clear hf19
        try clear hcz11_0
        try clear hcz11_1
        try clear hcz11_2
        try clear hcz11_3
        try clear hcz11_4
        try clear hcz11_5
        try clear hcz11_6
        try clear hcz15_0
        try clear hcz15_1
        try clear hcz15_2
        try clear hcz15_3
        try clear hcz15_4
        try clear hcz15_5
        try clear hcz15_6
        try clear hcz20_0
        try clear hcz20_1
        try clear hcz20_2
        try clear hcz20_3
        try clear hcz20_4
        try clear hcz20_5
        try clear hcz20_6
        try clear hcz25_0
        try clear hcz25_1
        try clear hcz25_2
        try clear hcz25_3
        try clear hcz25_4
        try clear hcz25_5
        try clear hcz25_6
        try clear hcz5_0
        try clear hcz5_1
        try clear hcz5_2
        try clear hcz5_3
        try clear hcz5_4
        try clear hcz5_5
        try clear hcz5_6
        try clear hfz11_0
        try clear hfz11_1
        try clear hfz11_2
        try clear hfz11_3
        try clear hfz11_4
        try clear hfz11_5
        try clear hfz11_6
        try clear hfz15_0
        try clear hfz15_1
        try clear hfz15_2
        try clear hfz15_3
        try clear hfz15_4
        try clear hfz15_5
        try clear hfz15_6
        try clear hfz20_0
        try clear hfz20_1
        try clear hfz20_2
        try clear hfz20_3
        try clear hfz20_4
        try clear hfz20_5
        try clear hfz20_6
        try clear hfz25_0
        try clear hfz25_1
        try clear hfz25_2
        try clear hfz25_3
        try clear hfz25_4
        try clear hfz25_5
        try clear hfz25_6
        try clear hfz5_0
        try clear hfz5_1
        try clear hfz5_2
        try clear hfz5_3
        try clear hfz5_4
        try clear hfz5_5
        try clear hfz5_6
        try clear hx10_0
        try clear hx19_0
        try clear p1
        try clear p10
        try clear p19
        try clear p2
        try clear p6
        try clear q1
        try clear q10
        try clear q19
        obtain ⟨x7_3, x8_3, rfl, HA, HK3, HO_7, HO_902003, HO_902004, BK901, HB⟩ := hrel
        cases gk with
        | zero => exact absurd HA.out (by simp [jacquardlaw10_OpsFresh.l2])
        | succ k3 =>
         have H := HA.out
         clear HA
         simp only [jacquardlaw10_OpsFresh.l2] at H
         by_cases c28 : x8_3 < (x7_3.length : Int)
         ·rw [if_pos c28] at H
          have c28b0 : decide (x8_3 < (x7_3.length : Int)) = true := decide_eq_true c28
          clear c28
          by_cases c29 : 0 ≤ x8_3
          ·rw [if_pos c29] at H
           have c29b0 : decide (0 ≤ x8_3) = true := decide_eq_true c29
           clear c29
           obtain ⟨y907, hy907⟩ : ∃ y_ : List Int, y_ = (x7_3.set (x8_3 : Int).toNat 0) := ⟨_, rfl⟩
           replace H : (jacquardlaw10_OpsFresh.l2 k3 a0 y907 (wrap64 (x8_3 + 1))) = some true := by first | (rw [hy907];with_reducible exact H) | (have H2_ := (Option.bind_some _ _).symm.trans H;rw [hy907];with_reducible exact H2_) | (have H2_ := (Option.bind_some _ _).symm.trans H;with_reducible exact H2_) | with_reducible exact H | (rw [hy907];exact H) | exact H
           have Ny907 := Aside0.mk hy907
           clear hy907
           have H' := Aside0.mk H
           clear H
           obtain ⟨Ao31, co31, eo31⟩ := Kd.R_slice HO_7.out
           subst eo31
           have p30 : 0 ≤ (x8_3 : Int) := of_decide_eq_true (by first | (with_reducible assumption) | assumption)
           have q30 : (x8_3 : Int) < ((x7_3.length : Int) : Int) := of_decide_eq_true (by first | (with_reducible assumption) | assumption)
           obtain ⟨go30, co30, eo30, gb30, gl30, cl30, HG30⟩ := Kd.R_form HO_7.out (by omega)
           (first | cases eo30 | (injection eo30 with ea_ en_ ec_;(first | subst ea_ | (injection ea_ with ea_;subst ea_));subst ec_;clear en_))
           have GB30 := Aside0.mk gb30
           have GG30 := Aside0.mk HG30
           clear gb30 gl30 HG30
           obtain ⟨hx30_0, hf30_0⟩ := Kd.R_celln 0 HO_7.out (x8_3 : Int) p30 q30
           replace p30 := eq_true p30
           replace q30 := eq_true q30
           have HP32 := Kd.R_putg HO_7.out (x8_3 : Int) 0
           go_wp2_with (first | ((with_reducible refine gate_store (t := 23) (p := 50) rfl ?_);refine store_event (t := 23) (p := 50) (v := ?vo_w33) (w1 := (wr.setCell ⟨go30, (x8_3 : Int).toNat, none⟩ (.int .u16 0))) ?hg ?ho ?hn ?hr ?_;(case ho => rfl);(case hg => rfl);(case hn => rfl);(case hr => first | (go_simp;done) | (go_simp;rfl));intro w33 hw;have hg : wr.grownBy w33 (some go30) := (by rw [hw];exact HP32.2);have hp_ : Kd.R (Kd.int .u16) 23 w33 w.heap.size (fun _ => True) (.slice (some ⟨go30, 0, none⟩) x7_3.length co31) y907 := (by rw [hw, Ny907.out];exact HP32.1);clear HP32;have n0_ := Aside0.mk (hp_);have n1_ := Aside0.mk (Kd.R_over' (v := (.slice (some ⟨go30, 0, none⟩) x7_3.length co31)) (by (with_reducible repeat (first|apply rA|apply rN|apply rD));exact HO_902003.out) (Kd.R_typed HO_7.out) (by decide) hg);have n2_ := Aside0.mk (Kd.R_over' (v := (.slice (some ⟨go30, 0, none⟩) x7_3.length co31)) (by (with_reducible repeat (first|apply rA|apply rN|apply rD));exact HO_902004.out) (Kd.R_typed HO_7.out) (by decide) hg);have n3_ := Aside0.mk (blk_grown (g := gb901) (o := .cells #[.int .u16 t889, .string t890, .int .u8 t891, u902003, .slice Ao26 x902004_2.length co26, .int .i64 t898, .bool t899] 27 (0, 0)) (by (with_reducible repeat (first|apply kN|apply kD|apply kA));exact BK901.out) hg (Kd.R_ne HO_7.out BK901.out (by decide)));have n4_ := Aside0.mk ((by rw [hw];exact below_set (HB.out) GB30.out : Below w.heap.size w w33));clear HO_7;clear HO_902003;clear HO_902004;clear BK901;clear HB;have HO_7 := n0_;have HO_902003 := n1_;have HO_902004 := n2_;have BK901 := n3_;have HB := n4_;clear n0_ n1_ n2_ n3_ n4_;clear hg hw hp_))
           go_roundg k3
           case measure => have := HK1.out;have := HK2.out;have := HK3.out;omega
           case rel => exact ⟨(y907), (wrap64 (x8_3 + 1)), (by first | rfl | (simp;done) | (simp [*];done)), H', ⟨by have := HK1.out;have := HK2.out;have := HK3.out;omega⟩, ⟨by (with_reducible repeat (first|apply rA|apply rN|apply rD));exact HO_7.out⟩, ⟨by (with_reducible repeat (first|apply rA|apply rN|apply rD));exact HO_902003.out⟩, ⟨by (with_reducible repeat (first|apply rA|apply rN|apply rD));exact HO_902004.out⟩, ⟨by (with_reducible repeat (first|apply kN|apply kD|apply kA));exact BK901.out⟩, ⟨by repeat (first | (with_reducible first|exact HB.out|apply bA|apply bN|apply bD | refine below_set ?_ GE901.out) | exact HB.out)⟩⟩
          ·rw [if_neg c29] at H
           exact absurd H (by simp)
         ·rw [if_neg c28] at H
          have c28b0 : decide (x8_3 < (x7_3.length : Int)) = false := decide_eq_false c28
          clear c28
          replace H := Option.bind_eq_some_iff.mp H
          obtain ⟨⟨t908, t909, t910, t911, t914, t917, t918, t919⟩, A340, H⟩ := H
          replace H : ((jacquardref10_Of.f k3 a0).bind fun bt921 => ((ops_All.f k3).bind fun t934 => ((jacquardref00_Info.f k3 t908 t909 t910 t911 t914 t917 t918 bt921.1 bt921.2.1 bt921.2.2.1 bt921.2.2.2.1 bt921.2.2.2.2.1 bt921.2.2.2.2.2.1 bt921.2.2.2.2.2.2.1).bind fun t937 => (if t937 = true then (if (t934.length : Int) = 435 then (if 1 < (t934.length : Int) then (if (rd t934 1) = 1 then ((jacquardlaw10_works.f k3).bind fun t939 => (some t939)) else (some false)) else (none)) else (some false)) else (some false))))) = some true := H
          have A34 := Aside0.mk A340
          clear A340
          replace H := Option.bind_eq_some_iff.mp H
          obtain ⟨⟨t921, t922, t923, t924, t927, t930, t931, t932⟩, A350, H⟩ := H
          replace H : ((ops_All.f k3).bind fun t934 => ((jacquardref00_Info.f k3 t908 t909 t910 t911 t914 t917 t918 t921 t922 t923 t924 t927 t930 t931).bind fun t937 => (if t937 = true then (if (t934.length : Int) = 435 then (if 1 < (t934.length : Int) then (if (rd t934 1) = 1 then ((jacquardlaw10_works.f k3).bind fun t939 => (some t939)) else (some false)) else (none)) else (some false)) else (some false)))) = some true := H
          have A35 := Aside0.mk A350
          clear A350
          replace H := Option.bind_eq_some_iff.mp H
          obtain ⟨t934, A360, H⟩ := H
          replace H : ((jacquardref00_Info.f k3 t908 t909 t910 t911 t914 t917 t918 t921 t922 t923 t924 t927 t930 t931).bind fun t937 => (if t937 = true then (if (t934.length : Int) = 435 then (if 1 < (t934.length : Int) then (if (rd t934 1) = 1 then ((jacquardlaw10_works.f k3).bind fun t939 => (some t939)) else (some false)) else (none)) else (some false)) else (some false))) = some true := H
          have A36 := Aside0.mk A360
          clear A360
          replace H := Option.bind_eq_some_iff.mp H
          obtain ⟨t937, A370, H⟩ := H
          replace H : (if t937 = true then (if (t934.length : Int) = 435 then (if 1 < (t934.length : Int) then (if (rd t934 1) = 1 then ((jacquardlaw10_works.f k3).bind fun t939 => (some t939)) else (some false)) else (none)) else (some false)) else (some false)) = some true := H
          have A37 := Aside0.mk A370
          clear A370
          by_cases c38 : t937 = true
          ·subst c38
           have H1 : (if (t934.length : Int) = 435 then (if 1 < (t934.length : Int) then (if (rd t934 1) = 1 then ((jacquardlaw10_works.f k3).bind fun t939 => (some t939)) else (some false)) else (none)) else (some false)) = some true := by rw [if_pos rfl] at H;exact H
           clear H
           have H := H1
           clear H1
           by_cases c39 : (t934.length : Int) = 435
           ·rw [if_pos c39] at H
            have c39b0 : ((t934.length : Int) == 435) = true := beq_iff_eq.mpr c39
            have c39b1 : ((t934.length : Int) != 435) = false := bne_eq_false_iff_eq.mpr c39
            clear c39
            by_cases c40 : 1 < (t934.length : Int)
            ·rw [if_pos c40] at H
             have c40b0 : decide (1 < (t934.length : Int)) = true := decide_eq_true c40
             have c40b1 : decide (1 < t934.length) = true := decide_eq_true (by omega)
             clear c40
             by_cases c41 : (rd t934 1) = 1
             ·rw [if_pos c41] at H
              have c41b0 : ((rd t934 1) == 1) = true := beq_iff_eq.mpr c41
              have c41b1 : ((rd t934 1) != 1) = false := bne_eq_false_iff_eq.mpr c41
              clear c41
              replace H := Option.bind_eq_some_iff.mp H
              obtain ⟨t939, A420, H⟩ := H
              replace H : (some t939) = some true := H
              have A42 := Aside0.mk A420
              clear A420
              replace H := Option.some.inj H
              obtain ⟨Ao43, co43, eo43⟩ := Kd.R_slice HO_7.out
              subst eo43
              go_wp2_with (first | ((with_reducible refine gate_callee (f := 11) rfl ?_);refine goesL_ (some 53) rfl rfl Tryd.func11 (by kernel_rfl) rfl #[.int .u16 a0] rfl (by (try simp only [List.map_toArray, List.map_cons, List.map_nil]);first | done | rfl) ?_;(with_reducible refine (ops_Of.calls (hT := by first | exact HT.out | exact Tab.below HT.out (by repeat (first | (with_reducible first|exact HB.out|apply bA|apply bN|apply bD | refine below_set ?_ (Aside0.out (by assumption))) | exact HB.out)) | exact Tab.drawn HT.out (by repeat (first | exact Drawn0.refl _|apply Drawn0.step))) k3 a0 t908 t909 t910 t911 t914 t917 t918 t919 _ A34.out).mono ?_);rintro e w44 ⟨v912, v915, rfl, ho0, ho1, hb⟩;refine ⟨_, rfl, ?_⟩;have n0_ := Aside0.mk (Kd.R_below (by (with_reducible repeat (first|apply rA|apply rN|apply rD));exact HO_7.out) hb);have n1_ := Aside0.mk (Kd.R_mono (Kd.R_told (Kd.R_told (Kd.R_old (by (with_reducible repeat (first|apply rA|apply rN|apply rD));exact HO_902003.out) hb) (Kd.R_base ho0)) (Kd.R_base ho1)) (fun _ h_ => h_.1));have n2_ := Aside0.mk (Kd.R_mono (Kd.R_told (Kd.R_told (Kd.R_old (by (with_reducible repeat (first|apply rA|apply rN|apply rD));exact HO_902004.out) hb) (Kd.R_base ho0)) (Kd.R_base ho1)) (fun _ h_ => h_.1));have n3_ := Aside0.mk (Kd.R_lower (Kd.R_new' (Kd.R_new' ho0 (Kd.R_lt (by (with_reducible repeat (first|apply rA|apply rN|apply rD));exact HO_902003.out))) (Kd.R_lt (by (with_reducible repeat (first|apply rA|apply rN|apply rD));exact HO_902004.out))) (below_size (by repeat (first | (with_reducible first|exact HB.out|apply bA|apply bN|apply bD | refine below_set ?_ GE901.out) | exact HB.out))));have n4_ := Aside0.mk (Kd.R_lower (Kd.R_new' (Kd.R_new' ho1 (Kd.R_lt (by (with_reducible repeat (first|apply rA|apply rN|apply rD));exact HO_902003.out))) (Kd.R_lt (by (with_reducible repeat (first|apply rA|apply rN|apply rD));exact HO_902004.out))) (below_size (by repeat (first | (with_reducible first|exact HB.out|apply bA|apply bN|apply bD | refine below_set ?_ GE901.out) | exact HB.out))));have n5_ := Aside0.mk (blk_below (g := gb901) (o := .cells #[.int .u16 t889, .string t890, .int .u8 t891, u902003, .slice Ao26 x902004_2.length co26, .int .i64 t898, .bool t899] 27 (0, 0)) (by (with_reducible repeat (first|apply kN|apply kD|apply kA));exact BK901.out) hb);have n6_ := Aside0.mk (below_step (by repeat (first | (with_reducible first|exact HB.out|apply bA|apply bN|apply bD | refine below_set ?_ GE901.out) | exact HB.out)) hb);clear HO_7;clear HO_902003;clear HO_902004;clear BK901;clear HB;have HO_7 := n0_;have HO_902003 := n1_;have HO_902004 := n2_;have HO913 := n3_;have HO916 := n4_;have BK901 := n5_;have HB := n6_;clear n0_ n1_ n2_ n3_ n4_ n5_ n6_;(try clear hb);(try clear hb2);(try clear hk);(try clear hi);(try clear ho0);(try clear ho1)) | ((with_reducible refine gate_dst (N := 9) rfl ?_);(try (refine gate_guard (by rfl) ?_;dsimp only));refine box_event ?hg (N := 9) ?hd (cs := #[.int .u16 0, .string (⟨#[]⟩ : ByteArray), .int .u8 0, .slice none 0 0, .slice none 0 0, .int .i64 0, .bool false]) (t := 27) ?hr ?_;(case hd => rfl);(case hg => rfl);(case hr => first | (go_simp;done) | (go_simp;rfl));intro gb920 hg w45 hbox hb;have n0_ := Aside0.mk (Kd.R_below (by (with_reducible repeat (first|apply rA|apply rN|apply rD));exact HO_7.out) hb);have n1_ := Aside0.mk (Kd.R_below (by (with_reducible repeat (first|apply rA|apply rN|apply rD));exact HO_902003.out) hb);have n2_ := Aside0.mk (Kd.R_below (by (with_reducible repeat (first|apply rA|apply rN|apply rD));exact HO_902004.out) hb);have n3_ := Aside0.mk (Kd.R_below (by (with_reducible repeat (first|apply rA|apply rN|apply rD));exact HO913.out) hb);have n4_ := Aside0.mk (Kd.R_below (by (with_reducible repeat (first|apply rA|apply rN|apply rD));exact HO916.out) hb);have n5_ := Aside0.mk (blk_below (g := gb901) (o := .cells #[.int .u16 t889, .string t890, .int .u8 t891, u902003, .slice Ao26 x902004_2.length co26, .int .i64 t898, .bool t899] 27 (0, 0)) (by (with_reducible repeat (first|apply kN|apply kD|apply kA));exact BK901.out) hb);have n6_ := Aside0.mk (below_step (by repeat (first | (with_reducible first|exact HB.out|apply bA|apply bN|apply bD | refine below_set ?_ GE901.out) | exact HB.out)) hb);have n7_ := Aside0.mk (hbox);have n8_ := Aside0.mk ((by rw [hg];exact (below_size (by repeat (first | (with_reducible first|exact HB.out|apply bA|apply bN|apply bD | refine below_set ?_ GE901.out) | exact HB.out))) : w.heap.size ≤ gb920));have n9_ := Aside0.mk ((by rw [hg];exact (below_size (by repeat (first | (with_reducible first|exact HB.out|apply bA|apply bN|apply bD | refine below_set ?_ GE901.out) | exact HB.out))) : w.heap.size ≤ gb920));have n10_ := Aside0.mk ((by rw [hg];exact Nat.ne_of_lt (blk_lt (g := gb901) (o := .cells #[.int .u16 t889, .string t890, .int .u8 t891, u902003, .slice Ao26 x902004_2.length co26, .int .i64 t898, .bool t899] 27 (0, 0)) (by (with_reducible repeat (first|apply kN|apply kD|apply kA));exact BK901.out)) : gb901 ≠ gb920));have n11_ := Aside0.mk ((by rw [hg];exact Nat.ne_of_gt (blk_lt (g := gb901) (o := .cells #[.int .u16 t889, .string t890, .int .u8 t891, u902003, .slice Ao26 x902004_2.length co26, .int .i64 t898, .bool t899] 27 (0, 0)) (by (with_reducible repeat (first|apply kN|apply kD|apply kA));exact BK901.out)) : gb920 ≠ gb901));clear HO_7;clear HO_902003;clear HO_902004;clear HO913;clear HO916;clear BK901;clear HB;have HO_7 := n0_;have HO_902003 := n1_;have HO_902004 := n2_;have HO913 := n3_;have HO916 := n4_;have BK901 := n5_;have HB := n6_;have BK920 := n7_;have GW920 := n8_;have GE920 := n9_;have NB901_920 := n10_;have NB920_901 := n11_;clear n0_ n1_ n2_ n3_ n4_ n5_ n6_ n7_ n8_ n9_ n10_ n11_;clear hb hbox hg;have hnb46 := NB920_901.out;have hnc46 := NB901_920.out;have hcz47_0 : w45.cell? ⟨gb920, 0, none⟩ = some (.int .u16 0) := (blk_cell BK920.out 0).trans rfl;have hcz47_1 : w45.cell? ⟨gb920, 1, none⟩ = some (.string (⟨#[]⟩ : ByteArray)) := (blk_cell BK920.out 1).trans rfl;have hcz47_2 : w45.cell? ⟨gb920, 2, none⟩ = some (.int .u8 0) := (blk_cell BK920.out 2).trans rfl;have hcz47_3 : w45.cell? ⟨gb920, 3, none⟩ = some (.slice none 0 0) := (blk_cell BK920.out 3).trans rfl;have hcz47_4 : w45.cell? ⟨gb920, 4, none⟩ = some (.slice none 0 0) := (blk_cell BK920.out 4).trans rfl;have hcz47_5 : w45.cell? ⟨gb920, 5, none⟩ = some (.int .i64 0) := (blk_cell BK920.out 5).trans rfl;have hcz47_6 : w45.cell? ⟨gb920, 6, none⟩ = some (.bool false) := (blk_cell BK920.out 6).trans rfl;have hfz47_0 := blk_frozen BK920.out 0;have hfz47_1 := blk_frozen BK920.out 1;have hfz47_2 := blk_frozen BK920.out 2;have hfz47_3 := blk_frozen BK920.out 3;have hfz47_4 := blk_frozen BK920.out 4;have hfz47_5 := blk_frozen BK920.out 5;have hfz47_6 := blk_frozen BK920.out 6;obtain ⟨Ao48, co48, eo48⟩ := Kd.R_slice HO913.out;subst eo48;obtain ⟨Ao49, co49, eo49⟩ := Kd.R_slice HO916.out;subst eo49) | ((with_reducible refine gate_callee (f := 12) rfl ?_);refine goesL_ (some 58) rfl rfl Tryd.func12 (by kernel_rfl) rfl #[.int .u16 a0] rfl (by (try simp only [List.map_toArray, List.map_cons, List.map_nil]);first | done | rfl) ?_;(with_reducible refine (jacquardref10_Of.calls k3 a0 t921 t922 t923 t924 t927 t930 t931 t932 _ A35.out).mono ?_);rintro e w50 ⟨v925, v928, rfl, ho0, ho1, hb⟩;refine ⟨_, rfl, ?_⟩;have n0_ := Aside0.mk (Kd.R_below (by (with_reducible repeat (first|apply rA|apply rN|apply rD));exact (Kd.R_mono (Kd.R_far (p := ⟨gb920, 6, none⟩) (Kd.R_far (p := ⟨gb920, 5, none⟩) (Kd.R_far (p := ⟨gb920, 4, none⟩) (Kd.R_far (p := ⟨gb920, 3, none⟩) (Kd.R_far (p := ⟨gb920, 2, none⟩) (Kd.R_far (p := ⟨gb920, 1, none⟩) (Kd.R_far (p := ⟨gb920, 0, none⟩) (Kd.R_types HO_7.out BK920.out (by decide)) (fun _ hk => hk.2) (.int .u16 t908)) (fun _ hk => hk.2) (.string t909)) (fun _ hk => hk.2) (.int .u8 t910)) (fun _ hk => hk.2) (.slice Ao48 t911.length co48)) (fun _ hk => hk.2) (.slice Ao49 t914.length co49)) (fun _ hk => hk.2) (.int .i64 t917)) (fun _ hk => hk.2) (.bool t918)) (fun _ h_ => h_.1))) hb);have n1_ := Aside0.mk (Kd.R_mono (Kd.R_told (Kd.R_told (Kd.R_old (by (with_reducible repeat (first|apply rA|apply rN|apply rD));exact (Kd.R_mono (Kd.R_far (p := ⟨gb920, 6, none⟩) (Kd.R_far (p := ⟨gb920, 5, none⟩) (Kd.R_far (p := ⟨gb920, 4, none⟩) (Kd.R_far (p := ⟨gb920, 3, none⟩) (Kd.R_far (p := ⟨gb920, 2, none⟩) (Kd.R_far (p := ⟨gb920, 1, none⟩) (Kd.R_far (p := ⟨gb920, 0, none⟩) (Kd.R_types HO_902003.out BK920.out (by decide)) (fun _ hk => hk.2) (.int .u16 t908)) (fun _ hk => hk.2) (.string t909)) (fun _ hk => hk.2) (.int .u8 t910)) (fun _ hk => hk.2) (.slice Ao48 t911.length co48)) (fun _ hk => hk.2) (.slice Ao49 t914.length co49)) (fun _ hk => hk.2) (.int .i64 t917)) (fun _ hk => hk.2) (.bool t918)) (fun _ h_ => h_.1))) hb) (Kd.R_base ho0)) (Kd.R_base ho1)) (fun _ h_ => h_.1));have n2_ := Aside0.mk (Kd.R_mono (Kd.R_told (Kd.R_told (Kd.R_old (by (with_reducible repeat (first|apply rA|apply rN|apply rD));exact (Kd.R_mono (Kd.R_far (p := ⟨gb920, 6, none⟩) (Kd.R_far (p := ⟨gb920, 5, none⟩) (Kd.R_far (p := ⟨gb920, 4, none⟩) (Kd.R_far (p := ⟨gb920, 3, none⟩) (Kd.R_far (p := ⟨gb920, 2, none⟩) (Kd.R_far (p := ⟨gb920, 1, none⟩) (Kd.R_far (p := ⟨gb920, 0, none⟩) (Kd.R_types HO_902004.out BK920.out (by decide)) (fun _ hk => hk.2) (.int .u16 t908)) (fun _ hk => hk.2) (.string t909)) (fun _ hk => hk.2) (.int .u8 t910)) (fun _ hk => hk.2) (.slice Ao48 t911.length co48)) (fun _ hk => hk.2) (.slice Ao49 t914.length co49)) (fun _ hk => hk.2) (.int .i64 t917)) (fun _ hk => hk.2) (.bool t918)) (fun _ h_ => h_.1))) hb) (Kd.R_base ho0)) (Kd.R_base ho1)) (fun _ h_ => h_.1));have n3_ := Aside0.mk (Kd.R_mono (Kd.R_told (Kd.R_told (Kd.R_old (by (with_reducible repeat (first|apply rA|apply rN|apply rD));exact (Kd.R_mono (Kd.R_far (p := ⟨gb920, 6, none⟩) (Kd.R_far (p := ⟨gb920, 5, none⟩) (Kd.R_far (p := ⟨gb920, 4, none⟩) (Kd.R_far (p := ⟨gb920, 3, none⟩) (Kd.R_far (p := ⟨gb920, 2, none⟩) (Kd.R_far (p := ⟨gb920, 1, none⟩) (Kd.R_far (p := ⟨gb920, 0, none⟩) (Kd.R_types HO913.out BK920.out (by decide)) (fun _ hk => hk.2) (.int .u16 t908)) (fun _ hk => hk.2) (.string t909)) (fun _ hk => hk.2) (.int .u8 t910)) (fun _ hk => hk.2) (.slice Ao48 t911.length co48)) (fun _ hk => hk.2) (.slice Ao49 t914.length co49)) (fun _ hk => hk.2) (.int .i64 t917)) (fun _ hk => hk.2) (.bool t918)) (fun _ h_ => h_.1))) hb) (Kd.R_base ho0)) (Kd.R_base ho1)) (fun _ h_ => h_.1));have n4_ := Aside0.mk (Kd.R_mono (Kd.R_told (Kd.R_told (Kd.R_old (by (with_reducible repeat (first|apply rA|apply rN|apply rD));exact (Kd.R_mono (Kd.R_far (p := ⟨gb920, 6, none⟩) (Kd.R_far (p := ⟨gb920, 5, none⟩) (Kd.R_far (p := ⟨gb920, 4, none⟩) (Kd.R_far (p := ⟨gb920, 3, none⟩) (Kd.R_far (p := ⟨gb920, 2, none⟩) (Kd.R_far (p := ⟨gb920, 1, none⟩) (Kd.R_far (p := ⟨gb920, 0, none⟩) (Kd.R_types HO916.out BK920.out (by decide)) (fun _ hk => hk.2) (.int .u16 t908)) (fun _ hk => hk.2) (.string t909)) (fun _ hk => hk.2) (.int .u8 t910)) (fun _ hk => hk.2) (.slice Ao48 t911.length co48)) (fun _ hk => hk.2) (.slice Ao49 t914.length co49)) (fun _ hk => hk.2) (.int .i64 t917)) (fun _ hk => hk.2) (.bool t918)) (fun _ h_ => h_.1))) hb) (Kd.R_base ho0)) (Kd.R_base ho1)) (fun _ h_ => h_.1));have n5_ := Aside0.mk (Kd.R_lower (Kd.R_new' (Kd.R_new' (Kd.R_new' (Kd.R_new' ho0 (Kd.R_lt (by (with_reducible repeat (first|apply rA|apply rN|apply rD));exact (Kd.R_mono (Kd.R_far (p := ⟨gb920, 6, none⟩) (Kd.R_far (p := ⟨gb920, 5, none⟩) (Kd.R_far (p := ⟨gb920, 4, none⟩) (Kd.R_far (p := ⟨gb920, 3, none⟩) (Kd.R_far (p := ⟨gb920, 2, none⟩) (Kd.R_far (p := ⟨gb920, 1, none⟩) (Kd.R_far (p := ⟨gb920, 0, none⟩) (Kd.R_types HO_902003.out BK920.out (by decide)) (fun _ hk => hk.2) (.int .u16 t908)) (fun _ hk => hk.2) (.string t909)) (fun _ hk => hk.2) (.int .u8 t910)) (fun _ hk => hk.2) (.slice Ao48 t911.length co48)) (fun _ hk => hk.2) (.slice Ao49 t914.length co49)) (fun _ hk => hk.2) (.int .i64 t917)) (fun _ hk => hk.2) (.bool t918)) (fun _ h_ => h_.1))))) (Kd.R_lt (by (with_reducible repeat (first|apply rA|apply rN|apply rD));exact (Kd.R_mono (Kd.R_far (p := ⟨gb920, 6, none⟩) (Kd.R_far (p := ⟨gb920, 5, none⟩) (Kd.R_far (p := ⟨gb920, 4, none⟩) (Kd.R_far (p := ⟨gb920, 3, none⟩) (Kd.R_far (p := ⟨gb920, 2, none⟩) (Kd.R_far (p := ⟨gb920, 1, none⟩) (Kd.R_far (p := ⟨gb920, 0, none⟩) (Kd.R_types HO_902004.out BK920.out (by decide)) (fun _ hk => hk.2) (.int .u16 t908)) (fun _ hk => hk.2) (.string t909)) (fun _ hk => hk.2) (.int .u8 t910)) (fun _ hk => hk.2) (.slice Ao48 t911.length co48)) (fun _ hk => hk.2) (.slice Ao49 t914.length co49)) (fun _ hk => hk.2) (.int .i64 t917)) (fun _ hk => hk.2) (.bool t918)) (fun _ h_ => h_.1))))) (Kd.R_lt (by (with_reducible repeat (first|apply rA|apply rN|apply rD));exact (Kd.R_mono (Kd.R_far (p := ⟨gb920, 6, none⟩) (Kd.R_far (p := ⟨gb920, 5, none⟩) (Kd.R_far (p := ⟨gb920, 4, none⟩) (Kd.R_far (p := ⟨gb920, 3, none⟩) (Kd.R_far (p := ⟨gb920, 2, none⟩) (Kd.R_far (p := ⟨gb920, 1, none⟩) (Kd.R_far (p := ⟨gb920, 0, none⟩) (Kd.R_types HO913.out BK920.out (by decide)) (fun _ hk => hk.2) (.int .u16 t908)) (fun _ hk => hk.2) (.string t909)) (fun _ hk => hk.2) (.int .u8 t910)) (fun _ hk => hk.2) (.slice Ao48 t911.length co48)) (fun _ hk => hk.2) (.slice Ao49 t914.length co49)) (fun _ hk => hk.2) (.int .i64 t917)) (fun _ hk => hk.2) (.bool t918)) (fun _ h_ => h_.1))))) (Kd.R_lt (by (with_reducible repeat (first|apply rA|apply rN|apply rD));exact (Kd.R_mono (Kd.R_far (p := ⟨gb920, 6, none⟩) (Kd.R_far (p := ⟨gb920, 5, none⟩) (Kd.R_far (p := ⟨gb920, 4, none⟩) (Kd.R_far (p := ⟨gb920, 3, none⟩) (Kd.R_far (p := ⟨gb920, 2, none⟩) (Kd.R_far (p := ⟨gb920, 1, none⟩) (Kd.R_far (p := ⟨gb920, 0, none⟩) (Kd.R_types HO916.out BK920.out (by decide)) (fun _ hk => hk.2) (.int .u16 t908)) (fun _ hk => hk.2) (.string t909)) (fun _ hk => hk.2) (.int .u8 t910)) (fun _ hk => hk.2) (.slice Ao48 t911.length co48)) (fun _ hk => hk.2) (.slice Ao49 t914.length co49)) (fun _ hk => hk.2) (.int .i64 t917)) (fun _ hk => hk.2) (.bool t918)) (fun _ h_ => h_.1))))) (below_size (by repeat (first | (with_reducible first|exact HB.out|apply bA|apply bN|apply bD | refine below_set ?_ GE901.out | refine below_set ?_ GE920.out) | exact HB.out))));have n6_ := Aside0.mk (Kd.R_lower (Kd.R_new' (Kd.R_new' (Kd.R_new' (Kd.R_new' ho1 (Kd.R_lt (by (with_reducible repeat (first|apply rA|apply rN|apply rD));exact (Kd.R_mono (Kd.R_far (p := ⟨gb920, 6, none⟩) (Kd.R_far (p := ⟨gb920, 5, none⟩) (Kd.R_far (p := ⟨gb920, 4, none⟩) (Kd.R_far (p := ⟨gb920, 3, none⟩) (Kd.R_far (p := ⟨gb920, 2, none⟩) (Kd.R_far (p := ⟨gb920, 1, none⟩) (Kd.R_far (p := ⟨gb920, 0, none⟩) (Kd.R_types HO_902003.out BK920.out (by decide)) (fun _ hk => hk.2) (.int .u16 t908)) (fun _ hk => hk.2) (.string t909)) (fun _ hk => hk.2) (.int .u8 t910)) (fun _ hk => hk.2) (.slice Ao48 t911.length co48)) (fun _ hk => hk.2) (.slice Ao49 t914.length co49)) (fun _ hk => hk.2) (.int .i64 t917)) (fun _ hk => hk.2) (.bool t918)) (fun _ h_ => h_.1))))) (Kd.R_lt (by (with_reducible repeat (first|apply rA|apply rN|apply rD));exact (Kd.R_mono (Kd.R_far (p := ⟨gb920, 6, none⟩) (Kd.R_far (p := ⟨gb920, 5, none⟩) (Kd.R_far (p := ⟨gb920, 4, none⟩) (Kd.R_far (p := ⟨gb920, 3, none⟩) (Kd.R_far (p := ⟨gb920, 2, none⟩) (Kd.R_far (p := ⟨gb920, 1, none⟩) (Kd.R_far (p := ⟨gb920, 0, none⟩) (Kd.R_types HO_902004.out BK920.out (by decide)) (fun _ hk => hk.2) (.int .u16 t908)) (fun _ hk => hk.2) (.string t909)) (fun _ hk => hk.2) (.int .u8 t910)) (fun _ hk => hk.2) (.slice Ao48 t911.length co48)) (fun _ hk => hk.2) (.slice Ao49 t914.length co49)) (fun _ hk => hk.2) (.int .i64 t917)) (fun _ hk => hk.2) (.bool t918)) (fun _ h_ => h_.1))))) (Kd.R_lt (by (with_reducible repeat (first|apply rA|apply rN|apply rD));exact (Kd.R_mono (Kd.R_far (p := ⟨gb920, 6, none⟩) (Kd.R_far (p := ⟨gb920, 5, none⟩) (Kd.R_far (p := ⟨gb920, 4, none⟩) (Kd.R_far (p := ⟨gb920, 3, none⟩) (Kd.R_far (p := ⟨gb920, 2, none⟩) (Kd.R_far (p := ⟨gb920, 1, none⟩) (Kd.R_far (p := ⟨gb920, 0, none⟩) (Kd.R_types HO913.out BK920.out (by decide)) (fun _ hk => hk.2) (.int .u16 t908)) (fun _ hk => hk.2) (.string t909)) (fun _ hk => hk.2) (.int .u8 t910)) (fun _ hk => hk.2) (.slice Ao48 t911.length co48)) (fun _ hk => hk.2) (.slice Ao49 t914.length co49)) (fun _ hk => hk.2) (.int .i64 t917)) (fun _ hk => hk.2) (.bool t918)) (fun _ h_ => h_.1))))) (Kd.R_lt (by (with_reducible repeat (first|apply rA|apply rN|apply rD));exact (Kd.R_mono (Kd.R_far (p := ⟨gb920, 6, none⟩) (Kd.R_far (p := ⟨gb920, 5, none⟩) (Kd.R_far (p := ⟨gb920, 4, none⟩) (Kd.R_far (p := ⟨gb920, 3, none⟩) (Kd.R_far (p := ⟨gb920, 2, none⟩) (Kd.R_far (p := ⟨gb920, 1, none⟩) (Kd.R_far (p := ⟨gb920, 0, none⟩) (Kd.R_types HO916.out BK920.out (by decide)) (fun _ hk => hk.2) (.int .u16 t908)) (fun _ hk => hk.2) (.string t909)) (fun _ hk => hk.2) (.int .u8 t910)) (fun _ hk => hk.2) (.slice Ao48 t911.length co48)) (fun _ hk => hk.2) (.slice Ao49 t914.length co49)) (fun _ hk => hk.2) (.int .i64 t917)) (fun _ hk => hk.2) (.bool t918)) (fun _ h_ => h_.1))))) (below_size (by repeat (first | (with_reducible first|exact HB.out|apply bA|apply bN|apply bD | refine below_set ?_ GE901.out | refine below_set ?_ GE920.out) | exact HB.out))));have n7_ := Aside0.mk (blk_below (g := gb901) (o := .cells #[.int .u16 t889, .string t890, .int .u8 t891, u902003, .slice Ao26 x902004_2.length co26, .int .i64 t898, .bool t899] 27 (0, 0)) (by (with_reducible repeat (first|apply kN|apply kD|apply kA));refine blk_far ?_ NB901_920.out _;(with_reducible repeat (first|apply kN|apply kD|apply kA));refine blk_far ?_ NB901_920.out _;(with_reducible repeat (first|apply kN|apply kD|apply kA));refine blk_far ?_ NB901_920.out _;(with_reducible repeat (first|apply kN|apply kD|apply kA));refine blk_far ?_ NB901_920.out _;(with_reducible repeat (first|apply kN|apply kD|apply kA));refine blk_far ?_ NB901_920.out _;(with_reducible repeat (first|apply kN|apply kD|apply kA));refine blk_far ?_ NB901_920.out _;(with_reducible repeat (first|apply kN|apply kD|apply kA));refine blk_far ?_ NB901_920.out _;(with_reducible repeat (first|apply kN|apply kD|apply kA));exact BK901.out) hb);have n8_ := Aside0.mk (blk_below (g := gb920) (o := .cells #[.int .u16 t908, .string t909, .int .u8 t910, .slice Ao48 t911.length co48, .slice Ao49 t914.length co49, .int .i64 t917, .bool t918] 27 (0, 0)) (by (with_reducible repeat (first|apply kN|apply kD|apply kA));refine blk_put (cs := #[.int .u16 t908, .string t909, .int .u8 t910, .slice Ao48 t911.length co48, .slice Ao49 t914.length co49, .int .i64 t917, .bool false]) ?_ 6 _ rfl;(with_reducible repeat (first|apply kN|apply kD|apply kA));refine blk_put (cs := #[.int .u16 t908, .string t909, .int .u8 t910, .slice Ao48 t911.length co48, .slice Ao49 t914.length co49, .int .i64 0, .bool false]) ?_ 5 _ rfl;(with_reducible repeat (first|apply kN|apply kD|apply kA));refine blk_put (cs := #[.int .u16 t908, .string t909, .int .u8 t910, .slice Ao48 t911.length co48, .slice none 0 0, .int .i64 0, .bool false]) ?_ 4 _ rfl;(with_reducible repeat (first|apply kN|apply kD|apply kA));refine blk_put (cs := #[.int .u16 t908, .string t909, .int .u8 t910, .slice none 0 0, .slice none 0 0, .int .i64 0, .bool false]) ?_ 3 _ rfl;(with_reducible repeat (first|apply kN|apply kD|apply kA));refine blk_put (cs := #[.int .u16 t908, .string t909, .int .u8 0, .slice none 0 0, .slice none 0 0, .int .i64 0, .bool false]) ?_ 2 _ rfl;(with_reducible repeat (first|apply kN|apply kD|apply kA));refine blk_put (cs := #[.int .u16 t908, .string (⟨#[]⟩ : ByteArray), .int .u8 0, .slice none 0 0, .slice none 0 0, .int .i64 0, .bool false]) ?_ 1 _ rfl;(with_reducible repeat (first|apply kN|apply kD|apply kA));refine blk_put (cs := #[.int .u16 0, .string (⟨#[]⟩ : ByteArray), .int .u8 0, .slice none 0 0, .slice none 0 0, .int .i64 0, .bool false]) ?_ 0 _ rfl;(with_reducible repeat (first|apply kN|apply kD|apply kA));exact BK920.out) hb);have n9_ := Aside0.mk (below_step (by repeat (first | (with_reducible first|exact HB.out|apply bA|apply bN|apply bD | refine below_set ?_ GE901.out | refine below_set ?_ GE920.out) | exact HB.out)) hb);clear HO_7;clear HO_902003;clear HO_902004;clear HO913;clear HO916;clear BK901;clear BK920;clear HB;have HO_7 := n0_;have HO_902003 := n1_;have HO_902004 := n2_;have HO913 := n3_;have HO916 := n4_;have HO926 := n5_;have HO929 := n6_;have BK901 := n7_;have BK920 := n8_;have HB := n9_;clear n0_ n1_ n2_ n3_ n4_ n5_ n6_ n7_ n8_ n9_;(try clear hb);(try clear hb2);(try clear hk);(try clear hi);(try clear ho0);(try clear ho1)) | ((with_reducible refine gate_dst (N := 11) rfl ?_);(try (refine gate_guard (by rfl) ?_;dsimp only));refine box_event ?hg (N := 11) ?hd (cs := #[.int .u16 0, .string (⟨#[]⟩ : ByteArray), .int .u8 0, .slice none 0 0, .slice none 0 0, .int .i64 0, .bool false]) (t := 27) ?hr ?_;(case hd => rfl);(case hg => rfl);(case hr => first | (go_simp;done) | (go_simp;rfl));intro gb933 hg w51 hbox hb;have n0_ := Aside0.mk (Kd.R_below (by (with_reducible repeat (first|apply rA|apply rN|apply rD));exact HO_7.out) hb);have n1_ := Aside0.mk (Kd.R_below (by (with_reducible repeat (first|apply rA|apply rN|apply rD));exact HO_902003.out) hb);have n2_ := Aside0.mk (Kd.R_below (by (with_reducible repeat (first|apply rA|apply rN|apply rD));exact HO_902004.out) hb);have n3_ := Aside0.mk (Kd.R_below (by (with_reducible repeat (first|apply rA|apply rN|apply rD));exact HO913.out) hb);have n4_ := Aside0.mk (Kd.R_below (by (with_reducible repeat (first|apply rA|apply rN|apply rD));exact HO916.out) hb);have n5_ := Aside0.mk (Kd.R_below (by (with_reducible repeat (first|apply rA|apply rN|apply rD));exact HO926.out) hb);have n6_ := Aside0.mk (Kd.R_below (by (with_reducible repeat (first|apply rA|apply rN|apply rD));exact HO929.out) hb);have n7_ := Aside0.mk (blk_below (g := gb901) (o := .cells #[.int .u16 t889, .string t890, .int .u8 t891, u902003, .slice Ao26 x902004_2.length co26, .int .i64 t898, .bool t899] 27 (0, 0)) (by (with_reducible repeat (first|apply kN|apply kD|apply kA));exact BK901.out) hb);have n8_ := Aside0.mk (blk_below (g := gb920) (o := .cells #[.int .u16 t908, .string t909, .int .u8 t910, .slice Ao48 t911.length co48, .slice Ao49 t914.length co49, .int .i64 t917, .bool t918] 27 (0, 0)) (by (with_reducible repeat (first|apply kN|apply kD|apply kA));exact BK920.out) hb);have n9_ := Aside0.mk (below_step (by repeat (first | (with_reducible first|exact HB.out|apply bA|apply bN|apply bD | refine below_set ?_ GE901.out | refine below_set ?_ GE920.out) | exact HB.out)) hb);have n10_ := Aside0.mk (hbox);have n11_ := Aside0.mk ((by rw [hg];exact (below_size (by repeat (first | (with_reducible first|exact HB.out|apply bA|apply bN|apply bD | refine below_set ?_ GE901.out | refine below_set ?_ GE920.out) | exact HB.out))) : w.heap.size ≤ gb933));have n12_ := Aside0.mk ((by rw [hg];exact (below_size (by repeat (first | (with_reducible first|exact HB.out|apply bA|apply bN|apply bD | refine below_set ?_ GE901.out | refine below_set ?_ GE920.out) | exact HB.out))) : w.heap.size ≤ gb933));have n13_ := Aside0.mk ((by rw [hg];exact Nat.ne_of_lt (blk_lt (g := gb901) (o := .cells #[.int .u16 t889, .string t890, .int .u8 t891, u902003, .slice Ao26 x902004_2.length co26, .int .i64 t898, .bool t899] 27 (0, 0)) (by (with_reducible repeat (first|apply kN|apply kD|apply kA));exact BK901.out)) : gb901 ≠ gb933));have n14_ := Aside0.mk ((by rw [hg];exact Nat.ne_of_gt (blk_lt (g := gb901) (o := .cells #[.int .u16 t889, .string t890, .int .u8 t891, u902003, .slice Ao26 x902004_2.length co26, .int .i64 t898, .bool t899] 27 (0, 0)) (by (with_reducible repeat (first|apply kN|apply kD|apply kA));exact BK901.out)) : gb933 ≠ gb901));have n15_ := Aside0.mk ((by rw [hg];exact Nat.ne_of_lt (blk_lt (g := gb920) (o := .cells #[.int .u16 t908, .string t909, .int .u8 t910, .slice Ao48 t911.length co48, .slice Ao49 t914.length co49, .int .i64 t917, .bool t918] 27 (0, 0)) (by (with_reducible repeat (first|apply kN|apply kD|apply kA));exact BK920.out)) : gb920 ≠ gb933));have n16_ := Aside0.mk ((by rw [hg];exact Nat.ne_of_gt (blk_lt (g := gb920) (o := .cells #[.int .u16 t908, .string t909, .int .u8 t910, .slice Ao48 t911.length co48, .slice Ao49 t914.length co49, .int .i64 t917, .bool t918] 27 (0, 0)) (by (with_reducible repeat (first|apply kN|apply kD|apply kA));exact BK920.out)) : gb933 ≠ gb920));clear HO_7;clear HO_902003;clear HO_902004;clear HO913;clear HO916;clear HO926;clear HO929;clear BK901;clear BK920;clear HB;have HO_7 := n0_;have HO_902003 := n1_;have HO_902004 := n2_;have HO913 := n3_;have HO916 := n4_;have HO926 := n5_;have HO929 := n6_;have BK901 := n7_;have BK920 := n8_;have HB := n9_;have BK933 := n10_;have GW933 := n11_;have GE933 := n12_;have NB901_933 := n13_;have NB933_901 := n14_;have NB920_933 := n15_;have NB933_920 := n16_;clear n0_ n1_ n2_ n3_ n4_ n5_ n6_ n7_ n8_ n9_ n10_ n11_ n12_ n13_ n14_ n15_ n16_;clear hb hbox hg;have hnb52 := NB933_901.out;have hnc52 := NB901_933.out;have hnb53 := NB933_920.out;have hnc53 := NB920_933.out;have hcz54_0 : w51.cell? ⟨gb933, 0, none⟩ = some (.int .u16 0) := (blk_cell BK933.out 0).trans rfl;have hcz54_1 : w51.cell? ⟨gb933, 1, none⟩ = some (.string (⟨#[]⟩ : ByteArray)) := (blk_cell BK933.out 1).trans rfl;have hcz54_2 : w51.cell? ⟨gb933, 2, none⟩ = some (.int .u8 0) := (blk_cell BK933.out 2).trans rfl;have hcz54_3 : w51.cell? ⟨gb933, 3, none⟩ = some (.slice none 0 0) := (blk_cell BK933.out 3).trans rfl;have hcz54_4 : w51.cell? ⟨gb933, 4, none⟩ = some (.slice none 0 0) := (blk_cell BK933.out 4).trans rfl;have hcz54_5 : w51.cell? ⟨gb933, 5, none⟩ = some (.int .i64 0) := (blk_cell BK933.out 5).trans rfl;have hcz54_6 : w51.cell? ⟨gb933, 6, none⟩ = some (.bool false) := (blk_cell BK933.out 6).trans rfl;have hfz54_0 := blk_frozen BK933.out 0;have hfz54_1 := blk_frozen BK933.out 1;have hfz54_2 := blk_frozen BK933.out 2;have hfz54_3 := blk_frozen BK933.out 3;have hfz54_4 := blk_frozen BK933.out 4;have hfz54_5 := blk_frozen BK933.out 5;have hfz54_6 := blk_frozen BK933.out 6;obtain ⟨Ao55, co55, eo55⟩ := Kd.R_slice HO926.out;subst eo55;obtain ⟨Ao56, co56, eo56⟩ := Kd.R_slice HO929.out;subst eo56) | ((with_reducible refine gate_callee (f := 15) rfl ?_);refine goesL_ (some 61) rfl rfl Tryd.func15 (by kernel_rfl) rfl #[] rfl (by (try simp only [List.map_toArray, List.map_cons, List.map_nil]);first | done | rfl) ?_;(with_reducible refine (ops_All.calls (hT := by first | exact HT.out | exact Tab.below HT.out (by repeat (first | (with_reducible first|exact HB.out|apply bA|apply bN|apply bD | refine below_set ?_ (Aside0.out (by assumption))) | exact HB.out)) | exact Tab.drawn HT.out (by repeat (first | exact Drawn0.refl _|apply Drawn0.step))) k3  t934 _ A36.out).mono ?_);rintro e w57 ⟨v935, rfl, ho0, hb⟩;refine ⟨_, rfl, ?_⟩;have n0_ := Aside0.mk (Kd.R_elder' (by (with_reducible repeat (first|apply rA|apply rN|apply rD));exact (Kd.R_mono (Kd.R_far (p := ⟨gb933, 6, none⟩) (Kd.R_far (p := ⟨gb933, 5, none⟩) (Kd.R_far (p := ⟨gb933, 4, none⟩) (Kd.R_far (p := ⟨gb933, 3, none⟩) (Kd.R_far (p := ⟨gb933, 2, none⟩) (Kd.R_far (p := ⟨gb933, 1, none⟩) (Kd.R_far (p := ⟨gb933, 0, none⟩) (Kd.R_types HO_7.out BK933.out (by decide)) (fun _ hk => hk.2) (.int .u16 t921)) (fun _ hk => hk.2) (.string t922)) (fun _ hk => hk.2) (.int .u8 t923)) (fun _ hk => hk.2) (.slice Ao55 t924.length co55)) (fun _ hk => hk.2) (.slice Ao56 t927.length co56)) (fun _ hk => hk.2) (.int .i64 t930)) (fun _ hk => hk.2) (.bool t931)) (fun _ h_ => h_.1))) (Kd.R_base ho0) hb);have n1_ := Aside0.mk (Kd.R_below (by (with_reducible repeat (first|apply rA|apply rN|apply rD));exact (Kd.R_mono (Kd.R_far (p := ⟨gb933, 6, none⟩) (Kd.R_far (p := ⟨gb933, 5, none⟩) (Kd.R_far (p := ⟨gb933, 4, none⟩) (Kd.R_far (p := ⟨gb933, 3, none⟩) (Kd.R_far (p := ⟨gb933, 2, none⟩) (Kd.R_far (p := ⟨gb933, 1, none⟩) (Kd.R_far (p := ⟨gb933, 0, none⟩) (Kd.R_types HO_902003.out BK933.out (by decide)) (fun _ hk => hk.2) (.int .u16 t921)) (fun _ hk => hk.2) (.string t922)) (fun _ hk => hk.2) (.int .u8 t923)) (fun _ hk => hk.2) (.slice Ao55 t924.length co55)) (fun _ hk => hk.2) (.slice Ao56 t927.length co56)) (fun _ hk => hk.2) (.int .i64 t930)) (fun _ hk => hk.2) (.bool t931)) (fun _ h_ => h_.1))) hb);have n2_ := Aside0.mk (Kd.R_below (by (with_reducible repeat (first|apply rA|apply rN|apply rD));exact (Kd.R_mono (Kd.R_far (p := ⟨gb933, 6, none⟩) (Kd.R_far (p := ⟨gb933, 5, none⟩) (Kd.R_far (p := ⟨gb933, 4, none⟩) (Kd.R_far (p := ⟨gb933, 3, none⟩) (Kd.R_far (p := ⟨gb933, 2, none⟩) (Kd.R_far (p := ⟨gb933, 1, none⟩) (Kd.R_far (p := ⟨gb933, 0, none⟩) (Kd.R_types HO_902004.out BK933.out (by decide)) (fun _ hk => hk.2) (.int .u16 t921)) (fun _ hk => hk.2) (.string t922)) (fun _ hk => hk.2) (.int .u8 t923)) (fun _ hk => hk.2) (.slice Ao55 t924.length co55)) (fun _ hk => hk.2) (.slice Ao56 t927.length co56)) (fun _ hk => hk.2) (.int .i64 t930)) (fun _ hk => hk.2) (.bool t931)) (fun _ h_ => h_.1))) hb);have n3_ := Aside0.mk (Kd.R_below (by (with_reducible repeat (first|apply rA|apply rN|apply rD));exact (Kd.R_mono (Kd.R_far (p := ⟨gb933, 6, none⟩) (Kd.R_far (p := ⟨gb933, 5, none⟩) (Kd.R_far (p := ⟨gb933, 4, none⟩) (Kd.R_far (p := ⟨gb933, 3, none⟩) (Kd.R_far (p := ⟨gb933, 2, none⟩) (Kd.R_far (p := ⟨gb933, 1, none⟩) (Kd.R_far (p := ⟨gb933, 0, none⟩) (Kd.R_types HO913.out BK933.out (by decide)) (fun _ hk => hk.2) (.int .u16 t921)) (fun _ hk => hk.2) (.string t922)) (fun _ hk => hk.2) (.int .u8 t923)) (fun _ hk => hk.2) (.slice Ao55 t924.length co55)) (fun _ hk => hk.2) (.slice Ao56 t927.length co56)) (fun _ hk => hk.2) (.int .i64 t930)) (fun _ hk => hk.2) (.bool t931)) (fun _ h_ => h_.1))) hb);have n4_ := Aside0.mk (Kd.R_below (by (with_reducible repeat (first|apply rA|apply rN|apply rD));exact (Kd.R_mono (Kd.R_far (p := ⟨gb933, 6, none⟩) (Kd.R_far (p := ⟨gb933, 5, none⟩) (Kd.R_far (p := ⟨gb933, 4, none⟩) (Kd.R_far (p := ⟨gb933, 3, none⟩) (Kd.R_far (p := ⟨gb933, 2, none⟩) (Kd.R_far (p := ⟨gb933, 1, none⟩) (Kd.R_far (p := ⟨gb933, 0, none⟩) (Kd.R_types HO916.out BK933.out (by decide)) (fun _ hk => hk.2) (.int .u16 t921)) (fun _ hk => hk.2) (.string t922)) (fun _ hk => hk.2) (.int .u8 t923)) (fun _ hk => hk.2) (.slice Ao55 t924.length co55)) (fun _ hk => hk.2) (.slice Ao56 t927.length co56)) (fun _ hk => hk.2) (.int .i64 t930)) (fun _ hk => hk.2) (.bool t931)) (fun _ h_ => h_.1))) hb);have n5_ := Aside0.mk (Kd.R_below (by (with_reducible repeat (first|apply rA|apply rN|apply rD));exact (Kd.R_mono (Kd.R_far (p := ⟨gb933, 6, none⟩) (Kd.R_far (p := ⟨gb933, 5, none⟩) (Kd.R_far (p := ⟨gb933, 4, none⟩) (Kd.R_far (p := ⟨gb933, 3, none⟩) (Kd.R_far (p := ⟨gb933, 2, none⟩) (Kd.R_far (p := ⟨gb933, 1, none⟩) (Kd.R_far (p := ⟨gb933, 0, none⟩) (Kd.R_types HO926.out BK933.out (by decide)) (fun _ hk => hk.2) (.int .u16 t921)) (fun _ hk => hk.2) (.string t922)) (fun _ hk => hk.2) (.int .u8 t923)) (fun _ hk => hk.2) (.slice Ao55 t924.length co55)) (fun _ hk => hk.2) (.slice Ao56 t927.length co56)) (fun _ hk => hk.2) (.int .i64 t930)) (fun _ hk => hk.2) (.bool t931)) (fun _ h_ => h_.1))) hb);have n6_ := Aside0.mk (Kd.R_below (by (with_reducible repeat (first|apply rA|apply rN|apply rD));exact (Kd.R_mono (Kd.R_far (p := ⟨gb933, 6, none⟩) (Kd.R_far (p := ⟨gb933, 5, none⟩) (Kd.R_far (p := ⟨gb933, 4, none⟩) (Kd.R_far (p := ⟨gb933, 3, none⟩) (Kd.R_far (p := ⟨gb933, 2, none⟩) (Kd.R_far (p := ⟨gb933, 1, none⟩) (Kd.R_far (p := ⟨gb933, 0, none⟩) (Kd.R_types HO929.out BK933.out (by decide)) (fun _ hk => hk.2) (.int .u16 t921)) (fun _ hk => hk.2) (.string t922)) (fun _ hk => hk.2) (.int .u8 t923)) (fun _ hk => hk.2) (.slice Ao55 t924.length co55)) (fun _ hk => hk.2) (.slice Ao56 t927.length co56)) (fun _ hk => hk.2) (.int .i64 t930)) (fun _ hk => hk.2) (.bool t931)) (fun _ h_ => h_.1))) hb);have n7_ := Aside0.mk (Kd.R_lower (Kd.R_new' ho0 (Kd.R_lt (by (with_reducible repeat (first|apply rA|apply rN|apply rD));exact (Kd.R_mono (Kd.R_far (p := ⟨gb933, 6, none⟩) (Kd.R_far (p := ⟨gb933, 5, none⟩) (Kd.R_far (p := ⟨gb933, 4, none⟩) (Kd.R_far (p := ⟨gb933, 3, none⟩) (Kd.R_far (p := ⟨gb933, 2, none⟩) (Kd.R_far (p := ⟨gb933, 1, none⟩) (Kd.R_far (p := ⟨gb933, 0, none⟩) (Kd.R_types HO_7.out BK933.out (by decide)) (fun _ hk => hk.2) (.int .u16 t921)) (fun _ hk => hk.2) (.string t922)) (fun _ hk => hk.2) (.int .u8 t923)) (fun _ hk => hk.2) (.slice Ao55 t924.length co55)) (fun _ hk => hk.2) (.slice Ao56 t927.length co56)) (fun _ hk => hk.2) (.int .i64 t930)) (fun _ hk => hk.2) (.bool t931)) (fun _ h_ => h_.1))))) (below_size (by repeat (first | (with_reducible first|exact HB.out|apply bA|apply bN|apply bD | refine below_set ?_ GE901.out | refine below_set ?_ GE920.out | refine below_set ?_ GE933.out) | exact HB.out))));have n8_ := Aside0.mk (blk_below (g := gb901) (o := .cells #[.int .u16 t889, .string t890, .int .u8 t891, u902003, .slice Ao26 x902004_2.length co26, .int .i64 t898, .bool t899] 27 (0, 0)) (by (with_reducible repeat (first|apply kN|apply kD|apply kA));refine blk_far ?_ NB901_933.out _;(with_reducible repeat (first|apply kN|apply kD|apply kA));refine blk_far ?_ NB901_933.out _;(with_reducible repeat (first|apply kN|apply kD|apply kA));refine blk_far ?_ NB901_933.out _;(with_reducible repeat (first|apply kN|apply kD|apply kA));refine blk_far ?_ NB901_933.out _;(with_reducible repeat (first|apply kN|apply kD|apply kA));refine blk_far ?_ NB901_933.out _;(with_reducible repeat (first|apply kN|apply kD|apply kA));refine blk_far ?_ NB901_933.out _;(with_reducible repeat (first|apply kN|apply kD|apply kA));refine blk_far ?_ NB901_933.out _;(with_reducible repeat (first|apply kN|apply kD|apply kA));exact BK901.out) hb);have n9_ := Aside0.mk (blk_below (g := gb920) (o := .cells #[.int .u16 t908, .string t909, .int .u8 t910, .slice Ao48 t911.length co48, .slice Ao49 t914.length co49, .int .i64 t917, .bool t918] 27 (0, 0)) (by (with_reducible repeat (first|apply kN|apply kD|apply kA));refine blk_far ?_ NB920_933.out _;(with_reducible repeat (first|apply kN|apply kD|apply kA));refine blk_far ?_ NB920_933.out _;(with_reducible repeat (first|apply kN|apply kD|apply kA));refine blk_far ?_ NB920_933.out _;(with_reducible repeat (first|apply kN|apply kD|apply kA));refine blk_far ?_ NB920_933.out _;(with_reducible repeat (first|apply kN|apply kD|apply kA));refine blk_far ?_ NB920_933.out _;(with_reducible repeat (first|apply kN|apply kD|apply kA));refine blk_far ?_ NB920_933.out _;(with_reducible repeat (first|apply kN|apply kD|apply kA));refine blk_far ?_ NB920_933.out _;(with_reducible repeat (first|apply kN|apply kD|apply kA));exact BK920.out) hb);have n10_ := Aside0.mk (blk_below (g := gb933) (o := .cells #[.int .u16 t921, .string t922, .int .u8 t923, .slice Ao55 t924.length co55, .slice Ao56 t927.length co56, .int .i64 t930, .bool t931] 27 (0, 0)) (by (with_reducible repeat (first|apply kN|apply kD|apply kA));refine blk_put (cs := #[.int .u16 t921, .string t922, .int .u8 t923, .slice Ao55 t924.length co55, .slice Ao56 t927.length co56, .int .i64 t930, .bool false]) ?_ 6 _ rfl;(with_reducible repeat (first|apply kN|apply kD|apply kA));refine blk_put (cs := #[.int .u16 t921, .string t922, .int .u8 t923, .slice Ao55 t924.length co55, .slice Ao56 t927.length co56, .int .i64 0, .bool false]) ?_ 5 _ rfl;(with_reducible repeat (first|apply kN|apply kD|apply kA));refine blk_put (cs := #[.int .u16 t921, .string t922, .int .u8 t923, .slice Ao55 t924.length co55, .slice none 0 0, .int .i64 0, .bool false]) ?_ 4 _ rfl;(with_reducible repeat (first|apply kN|apply kD|apply kA));refine blk_put (cs := #[.int .u16 t921, .string t922, .int .u8 t923, .slice none 0 0, .slice none 0 0, .int .i64 0, .bool false]) ?_ 3 _ rfl;(with_reducible repeat (first|apply kN|apply kD|apply kA));refine blk_put (cs := #[.int .u16 t921, .string t922, .int .u8 0, .slice none 0 0, .slice none 0 0, .int .i64 0, .bool false]) ?_ 2 _ rfl;(with_reducible repeat (first|apply kN|apply kD|apply kA));refine blk_put (cs := #[.int .u16 t921, .string (⟨#[]⟩ : ByteArray), .int .u8 0, .slice none 0 0, .slice none 0 0, .int .i64 0, .bool false]) ?_ 1 _ rfl;(with_reducible repeat (first|apply kN|apply kD|apply kA));refine blk_put (cs := #[.int .u16 0, .string (⟨#[]⟩ : ByteArray), .int .u8 0, .slice none 0 0, .slice none 0 0, .int .i64 0, .bool false]) ?_ 0 _ rfl;(with_reducible repeat (first|apply kN|apply kD|apply kA));exact BK933.out) hb);have n11_ := Aside0.mk (below_step (by repeat (first | (with_reducible first|exact HB.out|apply bA|apply bN|apply bD | refine below_set ?_ GE901.out | refine below_set ?_ GE920.out | refine below_set ?_ GE933.out) | exact HB.out)) hb);clear HO_7;clear HO_902003;clear HO_902004;clear HO913;clear HO916;clear HO926;clear HO929;clear BK901;clear BK920;clear BK933;clear HB;have HO_7 := n0_;have HO_902003 := n1_;have HO_902004 := n2_;have HO913 := n3_;have HO916 := n4_;have HO926 := n5_;have HO929 := n6_;have HO936 := n7_;have BK901 := n8_;have BK920 := n9_;have BK933 := n10_;have HB := n11_;clear n0_ n1_ n2_ n3_ n4_ n5_ n6_ n7_ n8_ n9_ n10_ n11_;(try clear hb);(try clear hb2);(try clear hk);(try clear hi);(try clear ho0);have hcz58_0 : w57.cell? ⟨gb920, 0, none⟩ = some (.int .u16 t908) := (blk_cell BK920.out 0).trans rfl;have hcz58_1 : w57.cell? ⟨gb920, 1, none⟩ = some (.string t909) := (blk_cell BK920.out 1).trans rfl;have hcz58_2 : w57.cell? ⟨gb920, 2, none⟩ = some (.int .u8 t910) := (blk_cell BK920.out 2).trans rfl;have hcz58_3 : w57.cell? ⟨gb920, 3, none⟩ = some (.slice Ao48 t911.length co48) := (blk_cell BK920.out 3).trans rfl;have hcz58_4 : w57.cell? ⟨gb920, 4, none⟩ = some (.slice Ao49 t914.length co49) := (blk_cell BK920.out 4).trans rfl;have hcz58_5 : w57.cell? ⟨gb920, 5, none⟩ = some (.int .i64 t917) := (blk_cell BK920.out 5).trans rfl;have hcz58_6 : w57.cell? ⟨gb920, 6, none⟩ = some (.bool t918) := (blk_cell BK920.out 6).trans rfl;have hfz58_0 := blk_frozen BK920.out 0;have hfz58_1 := blk_frozen BK920.out 1;have hfz58_2 := blk_frozen BK920.out 2;have hfz58_3 := blk_frozen BK920.out 3;have hfz58_4 := blk_frozen BK920.out 4;have hfz58_5 := blk_frozen BK920.out 5;have hfz58_6 := blk_frozen BK920.out 6;have hcz59_0 : w57.cell? ⟨gb933, 0, none⟩ = some (.int .u16 t921) := (blk_cell BK933.out 0).trans rfl;have hcz59_1 : w57.cell? ⟨gb933, 1, none⟩ = some (.string t922) := (blk_cell BK933.out 1).trans rfl;have hcz59_2 : w57.cell? ⟨gb933, 2, none⟩ = some (.int .u8 t923) := (blk_cell BK933.out 2).trans rfl;have hcz59_3 : w57.cell? ⟨gb933, 3, none⟩ = some (.slice Ao55 t924.length co55) := (blk_cell BK933.out 3).trans rfl;have hcz59_4 : w57.cell? ⟨gb933, 4, none⟩ = some (.slice Ao56 t927.length co56) := (blk_cell BK933.out 4).trans rfl;have hcz59_5 : w57.cell? ⟨gb933, 5, none⟩ = some (.int .i64 t930) := (blk_cell BK933.out 5).trans rfl;have hcz59_6 : w57.cell? ⟨gb933, 6, none⟩ = some (.bool t931) := (blk_cell BK933.out 6).trans rfl;have hfz59_0 := blk_frozen BK933.out 0;have hfz59_1 := blk_frozen BK933.out 1;have hfz59_2 := blk_frozen BK933.out 2;have hfz59_3 := blk_frozen BK933.out 3;have hfz59_4 := blk_frozen BK933.out 4;have hfz59_5 := blk_frozen BK933.out 5;have hfz59_6 := blk_frozen BK933.out 6) | ((with_reducible refine gate_callee (f := 13) rfl ?_);refine goesL_ (some 64) rfl rfl Tryd.func13 (by kernel_rfl) rfl #[.agg #[.int .u16 t908, .string t909, .int .u8 t910, .slice Ao48 t911.length co48, .slice Ao49 t914.length co49, .int .i64 t917, .bool t918], .agg #[.int .u16 t921, .string t922, .int .u8 t923, .slice Ao55 t924.length co55, .slice Ao56 t927.length co56, .int .i64 t930, .bool t931]] rfl (by (try simp only [List.map_toArray, List.map_cons, List.map_nil]);first | done | rfl) ?_;(with_reducible refine (jacquardref00_Info.calls k3 t908 t909 t910 _ _ t911 _ _ t914 t917 t918 t921 t922 t923 _ _ t924 _ _ t927 t930 t931 true _ ?side1 ?side2 ?side3 ?side4 ?side5 ?side6 ?side7 ?side8 A37.out).mono ?_);(case side1 => repeat (first | exact (Kd.R_reads' HO913.out).2.2 | (with_reducible refine Kd.C_alloc ?_ _) | (with_reducible refine Kd.C_drewN ?_ _) | (with_reducible refine Kd.C_drew ?_)));(case side2 => exact (Kd.R_reads' HO913.out).2.1);(case side3 => repeat (first | exact (Kd.R_reads' HO916.out).2.2 | (with_reducible refine Kd.C_alloc ?_ _) | (with_reducible refine Kd.C_drewN ?_ _) | (with_reducible refine Kd.C_drew ?_)));(case side4 => exact (Kd.R_reads' HO916.out).2.1);(case side5 => repeat (first | exact (Kd.R_reads' HO926.out).2.2 | (with_reducible refine Kd.C_alloc ?_ _) | (with_reducible refine Kd.C_drewN ?_ _) | (with_reducible refine Kd.C_drew ?_)));(case side6 => exact (Kd.R_reads' HO926.out).2.1);(case side7 => repeat (first | exact (Kd.R_reads' HO929.out).2.2 | (with_reducible refine Kd.C_alloc ?_ _) | (with_reducible refine Kd.C_drewN ?_ _) | (with_reducible refine Kd.C_drew ?_)));(case side8 => exact (Kd.R_reads' HO929.out).2.1);rintro e w60 ⟨rfl, hb⟩;refine ⟨_, rfl, ?_⟩;have n0_ := Aside0.mk (Kd.R_below (by (with_reducible repeat (first|apply rA|apply rN|apply rD));exact HO_7.out) hb);have n1_ := Aside0.mk (Kd.R_below (by (with_reducible repeat (first|apply rA|apply rN|apply rD));exact HO_902003.out) hb);have n2_ := Aside0.mk (Kd.R_below (by (with_reducible repeat (first|apply rA|apply rN|apply rD));exact HO_902004.out) hb);have n3_ := Aside0.mk (Kd.R_below (by (with_reducible repeat (first|apply rA|apply rN|apply rD));exact HO913.out) hb);have n4_ := Aside0.mk (Kd.R_below (by (with_reducible repeat (first|apply rA|apply rN|apply rD));exact HO916.out) hb);have n5_ := Aside0.mk (Kd.R_below (by (with_reducible repeat (first|apply rA|apply rN|apply rD));exact HO926.out) hb);have n6_ := Aside0.mk (Kd.R_below (by (with_reducible repeat (first|apply rA|apply rN|apply rD));exact HO929.out) hb);have n7_ := Aside0.mk (Kd.R_below (by (with_reducible repeat (first|apply rA|apply rN|apply rD));exact HO936.out) hb);have n8_ := Aside0.mk (blk_below (g := gb901) (o := .cells #[.int .u16 t889, .string t890, .int .u8 t891, u902003, .slice Ao26 x902004_2.length co26, .int .i64 t898, .bool t899] 27 (0, 0)) (by (with_reducible repeat (first|apply kN|apply kD|apply kA));exact BK901.out) hb);have n9_ := Aside0.mk (blk_below (g := gb920) (o := .cells #[.int .u16 t908, .string t909, .int .u8 t910, .slice Ao48 t911.length co48, .slice Ao49 t914.length co49, .int .i64 t917, .bool t918] 27 (0, 0)) (by (with_reducible repeat (first|apply kN|apply kD|apply kA));exact BK920.out) hb);have n10_ := Aside0.mk (blk_below (g := gb933) (o := .cells #[.int .u16 t921, .string t922, .int .u8 t923, .slice Ao55 t924.length co55, .slice Ao56 t927.length co56, .int .i64 t930, .bool t931] 27 (0, 0)) (by (with_reducible repeat (first|apply kN|apply kD|apply kA));exact BK933.out) hb);have n11_ := Aside0.mk (below_step (by repeat (first | (with_reducible first|exact HB.out|apply bA|apply bN|apply bD | refine below_set ?_ GE901.out | refine below_set ?_ GE920.out | refine below_set ?_ GE933.out) | exact HB.out)) hb);clear HO_7;clear HO_902003;clear HO_902004;clear HO913;clear HO916;clear HO926;clear HO929;clear HO936;clear BK901;clear BK920;clear BK933;clear HB;have HO_7 := n0_;have HO_902003 := n1_;have HO_902004 := n2_;have HO913 := n3_;have HO916 := n4_;have HO926 := n5_;have HO929 := n6_;have HO936 := n7_;have BK901 := n8_;have BK920 := n9_;have BK933 := n10_;have HB := n11_;clear n0_ n1_ n2_ n3_ n4_ n5_ n6_ n7_ n8_ n9_ n10_ n11_;(try clear hb);(try clear hb2);(try clear hk);(try clear hi);obtain ⟨Ao61, co61, eo61⟩ := Kd.R_slice HO936.out;subst eo61;have p938 : 0 ≤ (1 : Int) := (by omega);have q938 : 1 < (t934.length : Int) := of_decide_eq_true (by first | (with_reducible assumption) | assumption);obtain ⟨ad938, e938, hx938_0⟩ := Kd.at_int (Kd.R_reads' HO936.out).2.2 1 p938 q938;cases e938;(try simp only [show (1 : Int).toNat = 1 from rfl, Nat.reduceMul, Nat.reduceEqDiff, Go.Addr.add, ↓reduceIte] at hx938_0);have qi938 : (1 < t934.length) = True := eq_true (by omega);(try rw [show ((1 : Int)).toNat = 1 from rfl] at hx938_0);replace p938 := eq_true p938;replace q938 := eq_true q938) | (go_at_call 14;(with_reducible refine (jacquardlaw10_works.calls (hT := by first | exact HT.out | exact Tab.below HT.out (by repeat (first | (with_reducible first|exact HB.out|apply bA|apply bN|apply bD | refine below_set ?_ (Aside0.out (by assumption))) | exact HB.out)) | exact Tab.drawn HT.out (by repeat (first | exact Drawn0.refl _|apply Drawn0.step))) k3  t939 _ A42.out).mono ?_);rintro e w62 ⟨rfl, hb⟩;have n0_ := Aside0.mk (Kd.R_below (by (with_reducible repeat (first|apply rA|apply rN|apply rD));exact HO_7.out) hb);have n1_ := Aside0.mk (Kd.R_below (by (with_reducible repeat (first|apply rA|apply rN|apply rD));exact HO_902003.out) hb);have n2_ := Aside0.mk (Kd.R_below (by (with_reducible repeat (first|apply rA|apply rN|apply rD));exact HO_902004.out) hb);have n3_ := Aside0.mk (Kd.R_below (by (with_reducible repeat (first|apply rA|apply rN|apply rD));exact HO913.out) hb);have n4_ := Aside0.mk (Kd.R_below (by (with_reducible repeat (first|apply rA|apply rN|apply rD));exact HO916.out) hb);have n5_ := Aside0.mk (Kd.R_below (by (with_reducible repeat (first|apply rA|apply rN|apply rD));exact HO926.out) hb);have n6_ := Aside0.mk (Kd.R_below (by (with_reducible repeat (first|apply rA|apply rN|apply rD));exact HO929.out) hb);have n7_ := Aside0.mk (Kd.R_below (by (with_reducible repeat (first|apply rA|apply rN|apply rD));exact HO936.out) hb);have n8_ := Aside0.mk (blk_below (g := gb901) (o := .cells #[.int .u16 t889, .string t890, .int .u8 t891, u902003, .slice Ao26 x902004_2.length co26, .int .i64 t898, .bool t899] 27 (0, 0)) (by (with_reducible repeat (first|apply kN|apply kD|apply kA));exact BK901.out) hb);have n9_ := Aside0.mk (blk_below (g := gb920) (o := .cells #[.int .u16 t908, .string t909, .int .u8 t910, .slice Ao48 t911.length co48, .slice Ao49 t914.length co49, .int .i64 t917, .bool t918] 27 (0, 0)) (by (with_reducible repeat (first|apply kN|apply kD|apply kA));exact BK920.out) hb);have n10_ := Aside0.mk (blk_below (g := gb933) (o := .cells #[.int .u16 t921, .string t922, .int .u8 t923, .slice Ao55 t924.length co55, .slice Ao56 t927.length co56, .int .i64 t930, .bool t931] 27 (0, 0)) (by (with_reducible repeat (first|apply kN|apply kD|apply kA));exact BK933.out) hb);have n11_ := Aside0.mk (below_step (by repeat (first | (with_reducible first|exact HB.out|apply bA|apply bN|apply bD | refine below_set ?_ GE901.out | refine below_set ?_ GE920.out | refine below_set ?_ GE933.out) | exact HB.out)) hb);clear HO_7;clear HO_902003;clear HO_902004;clear HO913;clear HO916;clear HO926;clear HO929;clear HO936;clear BK901;clear BK920;clear BK933;clear HB;have HO_7 := n0_;have HO_902003 := n1_;have HO_902004 := n2_;have HO913 := n3_;have HO916 := n4_;have HO926 := n5_;have HO929 := n6_;have HO936 := n7_;have BK901 := n8_;have BK920 := n9_;have BK933 := n10_;have HB := n11_;clear n0_ n1_ n2_ n3_ n4_ n5_ n6_ n7_ n8_ n9_ n10_ n11_;(try clear hb);(try clear hb2);(try clear hk);(try clear hi)))
              go_ret
              exact ⟨by first | rfl | (simp [errW_none, errW_some] <;> rfl) | (simp [*, errW_none, errW_some] <;> rfl), by repeat (first | (with_reducible first|exact HB.out|apply bA|apply bN|apply bD | refine below_set ?_ GE901.out | refine below_set ?_ GE920.out | refine below_set ?_ GE933.out) | exact HB.out)⟩
             ·rw [if_neg c41] at H
              have c41b0 : ((rd t934 1) == 1) = false := beq_eq_false_iff_ne.mpr c41
              have c41b1 : ((rd t934 1) != 1) = true := bne_iff_ne.mpr c41
              exact absurd H (by simp)
            ·rw [if_neg c40] at H
             exact absurd H (by simp)
           ·rw [if_neg c39] at H
            have c39b0 : ((t934.length : Int) == 435) = false := beq_eq_false_iff_ne.mpr c39
            have c39b1 : ((t934.length : Int) != 435) = true := bne_iff_ne.mpr c39
            exact absurd H (by simp)
          ·replace c38 := Bool.eq_false_iff.mpr c38
           subst c38
           have H1 : (some false) = some true := by rw [if_neg (show ¬ (false = true) by decide)] at H;exact H
           clear H
           have H := H1
           clear H1
           exact absurd H (by simp)

/-- THE ONE PURE STATEMENT of jacquardlaw10_OpsFresh: yours. -/
def jacquardlaw10_OpsFresh.Pure : Prop := ∀ (a0 : Int), (Lit.int .u16 a0).wf = true → ∃ k, jacquardlaw10_OpsFresh.f k a0 = some true
theorem jacquardlaw10_OpsFresh.walk (P : jacquardlaw10_OpsFresh.Pure) (a0 : Int) (w : World) (hT : Go.Proofs.YtfbdmgdbamjjhaaDoorTabs.Tab w) (w0 : (Lit.int .u16 a0).wf = true) :
  Calls Tryd.prog 8 #[.int .u16 a0] w fun e w' => e = .returned (.bool true) ∧ Below w.heap.size w w' := by
 have HT := Aside0.mk hT
 clear hT
 obtain ⟨k, h⟩ := P a0 w0
 refine (jacquardlaw10_OpsFresh.calls (hT := by first | exact HT.out | exact Tab.below HT.out (by repeat (first | (with_reducible first|exact HB.out|apply bA|apply bN|apply bD | refine below_set ?_ (Aside0.out (by assumption))) | exact HB.out)) | exact Tab.drawn HT.out (by repeat (first | exact Drawn0.refl _|apply Drawn0.step))) k a0 w h).mono ?_
 rintro e w' ⟨rfl, hd⟩
 exact ⟨rfl, hd⟩

end Go.Proofs.YtfbdmgdbamjjhaaDoor.P
