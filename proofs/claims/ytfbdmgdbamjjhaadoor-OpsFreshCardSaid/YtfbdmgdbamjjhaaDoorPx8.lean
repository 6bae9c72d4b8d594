-- Printed by a program of this session (wip/patch-print.py over the kit's print): Lean checks it.
import Derived.Test.YtfbdmgdbamjjhaaDoorPx0
import Derived.Test.YtfbdmgdbamjjhaaDoorPx7
namespace Go.Proofs.YtfbdmgdbamjjhaaDoor.P
open Go.Proofs.YtfbdmgdbamjjhaaDoorTabs
open Go.Proofs.YtfbdmgdbamjjhaaDoorCaps
open Go.RowKit Go.Proofs.YtfbdmgdbamjjhaaDoorW.PrintWords Go.Proofs.YtfbdmgdbamjjhaaDoorW.PrintLast Go.Proofs.YtfbdmgdbamjjhaaDoorW.PrintMore
attribute [local go_sem] max2_int min2_int max_two min_two max_three min_three max_four min_four   -- for this text's walks alone
set_option linter.unusedVariables false
set_option linter.unusedSimpArgs false

/-! ### jacquardref10_info: function 23 -/
def jacquardref10_info.l0 : Nat → ByteArray → Int → ByteArray → Int → Int → ByteArray → ByteArray → ByteArray → Int → ByteArray → Bool → Option (Int × ByteArray × Int × List Int × List Int × Int × Bool)
 | 0, _, _, _, _, _, _, _, _, _, _, _ => none
 | k + 1, x1, x2, x7, x8, x689000, x689001, x689002, x689003, x689004, x689005, x689006 => if 0 ≤ x8 then (if x8 < (x7.size : Int) then (if (bt x7 x8) = 58 then (if x689001.size + x1.size ≤ 9223372036854775807 then (if x8 ≤ (x7.size : Int) then ((jacquardref10_types.f k (x7.extract 0 (x8 : Int).toNat)).bind fun t691 => (if 0 ≤ (wrap64 (x8 + 1)) then (if (wrap64 (x8 + 1)) ≤ (x7.size : Int) then ((jacquardref10_types.f k (x7.extract ((wrap64 (x8 + 1)) : Int).toNat x7.size)).bind fun t694 => ((jacquardref10_each.f k x689005 x2).bind fun t697 => ((jacquardref10_number.f k t697).bind fun t698 => (some (IntKind.u16.wrap (x689000 + (IntKind.u16.wrap (x2))), x689001 ++ x1, x689004, t691, t694, t698, x689006))))) else (none)) else (none))) else (none)) else (none)) else (jacquardref10_info.l0 k x1 x2 x7 (wrap64 (x8 + 1)) x689000 x689001 x689002 x689003 x689004 x689005 x689006)) else (none)) else (none)
def jacquardref10_info.f (k : Nat) (a0_0 : Int) (a0_1 : ByteArray) (a0_2 : ByteArray) (a0_3 : ByteArray) (a0_4 : Int) (a0_5 : ByteArray) (a0_6 : Bool) (a1 : ByteArray) (a2 : Int) : Option (Int × ByteArray × Int × List Int × List Int × Int × Bool) := (jacquardref10_each.f k a0_3 a2).bind fun t690 => (jacquardref10_info.l0 k a1 a2 t690 0 a0_0 a0_1 a0_2 a0_3 a0_4 a0_5 a0_6)
theorem jacquardref10_info.mono_l : ∀ k, (∀ y0 y1 y2 y3 y4 y5 y6 y7 y8 y9 y10, LeO (jacquardref10_info.l0 k y0 y1 y2 y3 y4 y5 y6 y7 y8 y9 y10) (jacquardref10_info.l0 (k + 1) y0 y1 y2 y3 y4 y5 y6 y7 y8 y9 y10))
 | 0 => fun _ _ _ _ _ _ _ _ _ _ _ r h => by simp [jacquardref10_info.l0] at h
 | k + 1 => by
  have ih0 := jacquardref10_info.mono_l k
  ·intro y0 y1 y2 y3 y4 y5 y6 y7 y8 y9 y10
   unfold jacquardref10_info.l0
   repeat' first
   | (with_reducible exact ih0 _ _ _ _ _ _ _ _ _ _ _)
   | (with_reducible exact jacquardref10_each.mono _ _ _)
   | (with_reducible exact jacquardref10_number.mono _ _)
   | (with_reducible exact jacquardref10_types.mono _ _)
   | (with_reducible exact LeO.refl _)
   | (with_reducible exact LeO.none _)
   | (with_reducible refine LeO.ite ?_ ?_)
   | (with_reducible refine LeO.bind ?_ (fun _ => ?_))
   | exact ih0 _ _ _ _ _ _ _ _ _ _ _
   | exact jacquardref10_each.mono _ _ _
   | exact jacquardref10_number.mono _ _
   | exact jacquardref10_types.mono _ _
   | exact LeO.none _
   | refine LeO.ite ?_ ?_
   | refine LeO.bind ?_ (fun _ => ?_)
theorem jacquardref10_info.mono : ∀ a0 a1 a2 a3 a4 a5 a6 a7 a8 k, LeO (jacquardref10_info.f k a0 a1 a2 a3 a4 a5 a6 a7 a8) (jacquardref10_info.f (k + 1) a0 a1 a2 a3 a4 a5 a6 a7 a8) := by
 intro a0 a1 a2 a3 a4 a5 a6 a7 a8 k
 have ih0 := jacquardref10_info.mono_l k
 unfold jacquardref10_info.f
 repeat' first
   | (with_reducible exact ih0 _ _ _ _ _ _ _ _ _ _ _)
   | (with_reducible exact jacquardref10_each.mono _ _ _)
   | (with_reducible exact jacquardref10_number.mono _ _)
   | (with_reducible exact jacquardref10_types.mono _ _)
   | (with_reducible exact LeO.refl _)
   | (with_reducible exact LeO.none _)
   | (with_reducible refine LeO.ite ?_ ?_)
   | (with_reducible refine LeO.bind ?_ (fun _ => ?_))
   | exact ih0 _ _ _ _ _ _ _ _ _ _ _
   | exact jacquardref10_each.mono _ _ _
   | exact jacquardref10_number.mono _ _
   | exact jacquardref10_types.mono _ _
   | exact LeO.none _
   | refine LeO.ite ?_ ?_
   | refine LeO.bind ?_ (fun _ => ?_)
def jacquardref10_info.T5 : Bool × List (List Nat × List Nat) := (true, [([], []), ([0], [0]), ([], []), ([2], [2]), ([1, 3], [1, 3]), ([], []), ([5], [5]), ([], []), ([6, 7], [6, 7]), ([], []), ([9], [9]), ([], []), ([], []), ([11, 12], [11, 12]), ([13], [13]), ([], []), ([], []), ([16], [16]), ([15, 17], [15, 17]), ([18, 14], [18]), ([], []), ([20], [20]), ([], []), ([21, 22, 19], [21, 22]), ([23, 23], [23]), ([], []), ([25], [25]), ([4, 8, 10, 14, 19, 24, 26], [4, 8, 10, 14, 19, 24, 26]), ([27, 24, 0, 1, 2, 3, 4, 5, 6, 7, 8, 9, 10, 11, 12, 13, 14, 15, 16, 17, 18, 19, 20, 21, 22, 23, 24, 25, 26, 27], [27])])
def jacquardref10_info.B5 : List Nat := [0, 1, 0, 4, 15, 0, 32, 0, 224, 0, 512, 0, 0, 6144, 14336, 0, 0, 65536, 229376, 522240, 0, 1048576, 0, 8386560, 16775168, 0, 33554432, 134217727, 268435455]
theorem jacquardref10_info.tab5 : rtab .any (opsOf Tryd.f23 5) = jacquardref10_info.T5 := by kernel_rfl
theorem jacquardref10_info.bits5 : waitsOk jacquardref10_info.T5.2 jacquardref10_info.B5 = true := by kernel_rfl
set_option maxHeartbeats 8000000 in
set_option maxRecDepth 100000 in
theorem jacquardref10_info.calls (k : Nat) (a0_0 : Int) (a0_1 : ByteArray) (a0_2 : ByteArray) (a0_3 : ByteArray) (a0_4 : Int) (a0_5 : ByteArray) (a0_6 : Bool) (a1 : ByteArray) (a2 : Int) (r1 : Int) (r2 : ByteArray) (r3 : Int) (r4 : List Int) (r5 : List Int) (r6 : Int) (r7 : Bool) (w : World) (h : jacquardref10_info.f k a0_0 a0_1 a0_2 a0_3 a0_4 a0_5 a0_6 a1 a2 = some (r1, r2, r3, r4, r5, r6, r7)) :
  Calls Tryd.prog 23 #[.agg #[.int .u16 a0_0, .string a0_1, .string a0_2, .string a0_3, .int .u8 a0_4, .string a0_5, .bool a0_6], .string a1, .int .i64 a2] w fun e w' => ∃ v3_ v4_ : Value, e = .returned (.agg #[.int .u16 r1, .string r2, .int .u8 r3, v3_, v4_, .int .i64 r6, .bool r7]) ∧ Kd.R (Kd.int .u8) 34 w' w.heap.size (fun k_ => some k_ ≠ (v4_ : Value).ownBlock) v3_ r4 ∧ Kd.R (Kd.int .u8) 34 w' w.heap.size (fun k_ => some k_ ≠ (v3_ : Value).ownBlock) v4_ r5 ∧ Below w.heap.size w w' := by
 have hu52 := Tryd.underlying52
 have hu27 := Tryd.underlying27
 have HB := Aside0.mk (Below.refl w.heap.size w)
 have H : ((jacquardref10_each.f k a0_3 a2).bind fun t690 => (jacquardref10_info.l0 k a1 a2 t690 0 a0_0 a0_1 a0_2 a0_3 a0_4 a0_5 a0_6)) = some (r1, r2, r3, r4, r5, r6, r7) := h
 clear h
 replace H := Option.bind_eq_some_iff.mp H
 obtain ⟨t690, A40, H⟩ := H
 replace H : (jacquardref10_info.l0 k a1 a2 t690 0 a0_0 a0_1 a0_2 a0_3 a0_4 a0_5 a0_6) = some (r1, r2, r3, r4, r5, r6, r7) := H
 have A4 := Aside0.mk A40
 clear A40
 have H' := Aside0.mk H
 clear H
 go_enter Tryd.func23, Tryd.ntmps23
 go_wp2_with (first | ((with_reducible refine gate_dst (N := 3) rfl ?_); refine box_event ?hg (N := 3) ?hd (cs := #[.int .u16 a0_0, .string a0_1, .string a0_2, .string a0_3, .int .u8 a0_4, .string a0_5, .bool a0_6]) (t := 52) ?hr ?_; (case hd => rfl); (case hg => rfl); (case hr => first | (go_simp; done) | (go_simp; rfl)); intro gb688 hg w5 hbox hb; have n0_ := Aside0.mk (below_step (by repeat (first | (with_reducible first | exact HB.out | apply bA|apply bN|apply bD) | exact HB.out)) hb); have n1_ := Aside0.mk (hbox); have n2_ := Aside0.mk ((by rw [hg]; exact (below_size (by repeat (first | (with_reducible first | exact HB.out | apply bA|apply bN|apply bD) | exact HB.out))) : w.heap.size ≤ gb688)); have n3_ := Aside0.mk ((by rw [hg]; exact (below_size (by repeat (first | (with_reducible first | exact HB.out | apply bA|apply bN|apply bD) | exact HB.out))) : w.heap.size ≤ gb688)); clear HB; have HB := n0_; have BK688 := n1_; have GW688 := n2_; have GE688 := n3_; clear n0_ n1_ n2_ n3_; clear hb hbox hg) | ((with_reducible refine gate_dst (N := 6) rfl ?_); refine box_event ?hg (N := 6) ?hd (cs := #[.int .u16 0, .string (⟨#[]⟩ : ByteArray), .int .u8 0, .slice none 0 0, .slice none 0 0, .int .i64 0, .bool false]) (t := 27) ?hr ?_; (case hd => rfl); (case hg => rfl); (case hr => first | (go_simp; done) | (go_simp; rfl)); intro gb689 hg w6 hbox hb; have n0_ := Aside0.mk (blk_below (g := gb688) (o := .cells #[.int .u16 a0_0, .string a0_1, .string a0_2, .string a0_3, .int .u8 a0_4, .string a0_5, .bool a0_6] 52 (0, 0)) (by (with_reducible repeat (first | apply kN|apply kD|apply kA)); exact BK688.out) hb); have n1_ := Aside0.mk (below_step (by repeat (first | (with_reducible first | exact HB.out | apply bA|apply bN|apply bD | refine below_set ?_ GE688.out) | exact HB.out)) hb); have n2_ := Aside0.mk (hbox); have n3_ := Aside0.mk ((by rw [hg]; exact (below_size (by repeat (first | (with_reducible first | exact HB.out | apply bA|apply bN|apply bD | refine below_set ?_ GE688.out) | exact HB.out))) : w.heap.size ≤ gb689)); have n4_ := Aside0.mk ((by rw [hg]; exact (below_size (by repeat (first | (with_reducible first | exact HB.out | apply bA|apply bN|apply bD | refine below_set ?_ GE688.out) | exact HB.out))) : w.heap.size ≤ gb689)); have n5_ := Aside0.mk ((by rw [hg]; exact Nat.ne_of_lt (blk_lt (g := gb688) (o := .cells #[.int .u16 a0_0, .string a0_1, .string a0_2, .string a0_3, .int .u8 a0_4, .string a0_5, .bool a0_6] 52 (0, 0)) (by (with_reducible repeat (first | apply kN|apply kD|apply kA)); exact BK688.out)) : gb688 ≠ gb689)); have n6_ := Aside0.mk ((by rw [hg]; exact Nat.ne_of_gt (blk_lt (g := gb688) (o := .cells #[.int .u16 a0_0, .string a0_1, .string a0_2, .string a0_3, .int .u8 a0_4, .string a0_5, .bool a0_6] 52 (0, 0)) (by (with_reducible repeat (first | apply kN|apply kD|apply kA)); exact BK688.out)) : gb689 ≠ gb688)); clear BK688; clear HB; have BK688 := n0_; have HB := n1_; have BK689 := n2_; have GW689 := n3_; have GE689 := n4_; have NB688_689 := n5_; have NB689_688 := n6_; clear n0_ n1_ n2_ n3_ n4_ n5_ n6_; clear hb hbox hg; have hnb7 := NB688_689.out; have hnc7 := NB689_688.out; have hcz8_0 : w6.cell? ⟨gb688, 0, none⟩ = some (.int .u16 a0_0) := (blk_cell BK688.out 0).trans rfl; have hcz8_1 : w6.cell? ⟨gb688, 1, none⟩ = some (.string a0_1) := (blk_cell BK688.out 1).trans rfl; have hcz8_2 : w6.cell? ⟨gb688, 2, none⟩ = some (.string a0_2) := (blk_cell BK688.out 2).trans rfl; have hcz8_3 : w6.cell? ⟨gb688, 3, none⟩ = some (.string a0_3) := (blk_cell BK688.out 3).trans rfl; have hcz8_4 : w6.cell? ⟨gb688, 4, none⟩ = some (.int .u8 a0_4) := (blk_cell BK688.out 4).trans rfl; have hcz8_5 : w6.cell? ⟨gb688, 5, none⟩ = some (.string a0_5) := (blk_cell BK688.out 5).trans rfl; have hcz8_6 : w6.cell? ⟨gb688, 6, none⟩ = some (.bool a0_6) := (blk_cell BK688.out 6).trans rfl; have hfz8_0 := blk_frozen BK688.out 0; have hfz8_1 := blk_frozen BK688.out 1; have hfz8_2 := blk_frozen BK688.out 2; have hfz8_3 := blk_frozen BK688.out 3; have hfz8_4 := blk_frozen BK688.out 4; have hfz8_5 := blk_frozen BK688.out 5; have hfz8_6 := blk_frozen BK688.out 6) | ((with_reducible refine gate_callee (f := 39) rfl ?_); refine goesL_ (some 12) rfl rfl Tryd.func39 (by kernel_rfl) rfl #[.string a0_3, .int .i64 a2] rfl (by (try simp only [List.map_toArray, List.map_cons, List.map_nil]); first | done | rfl | (simp only [List.length_drop, List.length_take]; rfl)) ?_; (with_reducible refine (jacquardref10_each.calls k a0_3 a2 t690 _ A4.out).mono ?_); rintro e w9 ⟨rfl, hb⟩; refine ⟨_, rfl, ?_⟩; have n0_ := Aside0.mk (blk_below (g := gb688) (o := .cells #[.int .u16 a0_0, .string a0_1, .string a0_2, .string a0_3, .int .u8 a0_4, .string a0_5, .bool a0_6] 52 (0, 0)) (by (with_reducible repeat (first | apply kN|apply kD|apply kA)); exact BK688.out) hb); have n1_ := Aside0.mk (blk_below (g := gb689) (o := .cells #[.int .u16 0, .string (⟨#[]⟩ : ByteArray), .int .u8 0, .slice none 0 0, .slice none 0 0, .int .i64 0, .bool false] 27 (0, 0)) (by (with_reducible repeat (first | apply kN|apply kD|apply kA)); exact BK689.out) hb); have n2_ := Aside0.mk (below_step (by repeat (first | (with_reducible first | exact HB.out | apply bA|apply bN|apply bD | refine below_set ?_ GE688.out | refine below_set ?_ GE689.out) | exact HB.out)) hb); clear BK688; clear BK689; clear HB; have BK688 := n0_; have BK689 := n1_; have HB := n2_; clear n0_ n1_ n2_; (try clear hb); (try clear hb2); (try clear hk); (try clear hi)))
 go_loopg [8] k (fun kq v8 w' => ∃ (x8_1 : Int), v8 = .int .i64 x8_1 ∧ Aside0 (jacquardref10_info.l0 kq a1 a2 t690 x8_1 a0_0 a0_1 a0_2 a0_3 a0_4 a0_5 a0_6 = some (r1, r2, r3, r4, r5, r6, r7)) ∧ Aside0 (kq ≤ k) ∧ Aside0 (w'.heap[gb688]? = some (.cells #[.int .u16 a0_0, .string a0_1, .string a0_2, .string a0_3, .int .u8 a0_4, .string a0_5, .bool a0_6] 52 (0, 0))) ∧ Aside0 (w'.heap[gb689]? = some (.cells #[.int .u16 0, .string (⟨#[]⟩ : ByteArray), .int .u8 0, (.slice none 0 0), (.slice none 0 0), .int .i64 0, .bool false] 27 (0, 0))) ∧ Aside0 (Below w.heap.size w w'))
 case atStart => exact ⟨(0), (by first | rfl | (simp; done) | (simp [*]; done)), H', ⟨Nat.le_refl _⟩, ⟨by (with_reducible repeat (first | apply kN|apply kD|apply kA)); exact BK688.out⟩, ⟨by (with_reducible repeat (first | apply kN|apply kD|apply kA)); exact BK689.out⟩, ⟨by repeat (first | (with_reducible first | exact HB.out | apply bA|apply bN|apply bD | refine below_set ?_ GE688.out | refine below_set ?_ GE689.out) | exact HB.out)⟩⟩
 case round =>
  clear H'
  try clear c2
  try clear p2
  try clear c3
  try clear c7
  try clear hcz8_0
  try clear hcz8_1
  try clear hcz8_2
  try clear hcz8_3
  try clear hcz8_4
  try clear hcz8_5
  try clear hcz8_6
  try clear hfz8_0
  try clear hfz8_1
  try clear hfz8_2
  try clear hfz8_3
  try clear hfz8_4
  try clear hfz8_5
  try clear hfz8_6
  obtain ⟨x8_1, rfl, HA, HK1, BK688, BK689, HB⟩ := hrel
  cases gk with
  | zero => exact absurd HA.out (by simp [jacquardref10_info.l0])
  | succ k1 =>
   have H := HA.out
   clear HA
   simp only [jacquardref10_info.l0] at H
   by_cases c10 : 0 ≤ x8_1
   ·rw [if_pos c10] at H
    have c10b0 : decide (0 ≤ x8_1) = true := decide_eq_true c10
    clear c10
    by_cases c11 : x8_1 < (t690.size : Int)
    ·rw [if_pos c11] at H
     have c11b0 : decide (x8_1 < (t690.size : Int)) = true := decide_eq_true c11
     clear c11
     by_cases c13 : (bt t690 x8_1) = 58
     ·rw [if_pos c13] at H
      have c13b0 : ((bt t690 x8_1) == 58) = true := beq_iff_eq.mpr c13
      have c13b1 : ((bt t690 x8_1) != 58) = false := bne_eq_false_iff_eq.mpr c13
      clear c13
      by_cases c14 : a0_1.size + a1.size ≤ 9223372036854775807
      ·rw [if_pos c14] at H
       have c14b0 := eq_true c14
       have c14b1 : decide (a0_1.size + a1.size ≤ 9223372036854775807) = true := decide_eq_true c14
       try have c14b2 : (9223372036854775807 < a0_1.size + a1.size) = False := eq_false (Nat.not_lt.2 c14)
       have c15b0 := eq_true (of_decide_eq_true (by first | (with_reducible assumption) | assumption) : 0 ≤ x8_1)
       by_cases c16 : x8_1 ≤ (t690.size : Int)
       ·rw [if_pos c16] at H
        have c16b0 := eq_true c16
        have c16b1 : decide (x8_1 ≤ (t690.size : Int)) = true := decide_eq_true c16
        clear c16
        replace H := Option.bind_eq_some_iff.mp H
        obtain ⟨t691, A170, H⟩ := H
        replace H : (if 0 ≤ (wrap64 (x8_1 + 1)) then (if (wrap64 (x8_1 + 1)) ≤ (t690.size : Int) then ((jacquardref10_types.f k1 (t690.extract ((wrap64 (x8_1 + 1)) : Int).toNat t690.size)).bind fun t694 => ((jacquardref10_each.f k1 a0_5 a2).bind fun t697 => ((jacquardref10_number.f k1 t697).bind fun t698 => (some (IntKind.u16.wrap (a0_0 + (IntKind.u16.wrap (a2))), a0_1 ++ a1, a0_4, t691, t694, t698, a0_6))))) else (none)) else (none)) = some (r1, r2, r3, r4, r5, r6, r7) := H
        have A17 := Aside0.mk A170
        clear A170
        obtain ⟨ji18, hji18⟩ : ∃ j_ : Int, (wrap64 (x8_1 + 1)) = j_ := ⟨_, rfl⟩
        replace H : (if 0 ≤ (ji18) then (if (ji18) ≤ (t690.size : Int) then ((jacquardref10_types.f k1 (t690.extract ((ji18) : Int).toNat t690.size)).bind fun t694 => ((jacquardref10_each.f k1 a0_5 a2).bind fun t697 => ((jacquardref10_number.f k1 t697).bind fun t698 => (some (IntKind.u16.wrap (a0_0 + (IntKind.u16.wrap (a2))), a0_1 ++ a1, a0_4, t691, t694, t698, a0_6))))) else (none)) else (none)) = some (r1, r2, r3, r4, r5, r6, r7) := by first | (rw [hji18] at H; exact H) | (simp only [hji18] at H ⊢; exact H)
        (try rw [hji18] at A17)
        have hji18w : (IntKind.i64.wrap (x8_1 + 1)) = ji18 := (i64_w _).trans hji18
        by_cases c19 : 0 ≤ (ji18)
        ·rw [if_pos c19] at H
         have c19b0 := eq_true c19
         have c19b1 : decide (0 ≤ (ji18)) = true := decide_eq_true c19
         clear c19
         by_cases c20 : (ji18) ≤ (t690.size : Int)
         ·rw [if_pos c20] at H
          have c20b0 := eq_true c20
          have c20b1 : decide ((ji18) ≤ (t690.size : Int)) = true := decide_eq_true c20
          clear c20
          replace H := Option.bind_eq_some_iff.mp H
          obtain ⟨t694, A210, H⟩ := H
          replace H : ((jacquardref10_each.f k1 a0_5 a2).bind fun t697 => ((jacquardref10_number.f k1 t697).bind fun t698 => (some (IntKind.u16.wrap (a0_0 + (IntKind.u16.wrap (a2))), a0_1 ++ a1, a0_4, t691, t694, t698, a0_6)))) = some (r1, r2, r3, r4, r5, r6, r7) := H
          have A21 := Aside0.mk A210
          clear A210
          replace H := Option.bind_eq_some_iff.mp H
          obtain ⟨t697, A220, H⟩ := H
          replace H : ((jacquardref10_number.f k1 t697).bind fun t698 => (some (IntKind.u16.wrap (a0_0 + (IntKind.u16.wrap (a2))), a0_1 ++ a1, a0_4, t691, t694, t698, a0_6))) = some (r1, r2, r3, r4, r5, r6, r7) := H
          have A22 := Aside0.mk A220
          clear A220
          replace H := Option.bind_eq_some_iff.mp H
          obtain ⟨t698, A230, H⟩ := H
          replace H : (some (IntKind.u16.wrap (a0_0 + (IntKind.u16.wrap (a2))), a0_1 ++ a1, a0_4, t691, t694, t698, a0_6)) = some (r1, r2, r3, r4, r5, r6, r7) := H
          have A23 := Aside0.mk A230
          clear A230
          simp only [Option.some.injEq, Prod.mk.injEq] at H
          obtain ⟨rfl, rfl, rfl, rfl, rfl, rfl, rfl⟩ := H
          have p12 : 0 ≤ (x8_1 : Int) := of_decide_eq_true (by first | (with_reducible assumption) | assumption)
          have q12 : x8_1 < (t690.size : Int) := of_decide_eq_true (by first | (with_reducible assumption) | assumption)
          have hx12 := bt_at t690 x8_1
          replace p12 := eq_true p12
          replace q12 := eq_true q12
          try go_wp2
          have n0_ := Aside0.mk (blk_drew BK688.out)
          have n1_ := Aside0.mk (blk_drew BK689.out)
          have n2_ := Aside0.mk (below_drew1 HB.out)
          clear BK688
          clear BK689
          clear HB
          have BK688 := n0_
          have BK689 := n1_
          have HB := n2_
          clear n0_ n1_ n2_
          refine start_ (n := 29) (S := fun w' => w'.cell? ⟨gb688, 0, none⟩ = some (.int .u16 a0_0) ∧ w'.cell? ⟨gb688, 1, none⟩ = some (.string a0_1) ∧ w'.cell? ⟨gb688, 2, none⟩ = some (.string a0_2) ∧ w'.cell? ⟨gb688, 3, none⟩ = some (.string a0_3) ∧ w'.cell? ⟨gb688, 4, none⟩ = some (.int .u8 a0_4) ∧ w'.cell? ⟨gb688, 5, none⟩ = some (.string a0_5) ∧ w'.cell? ⟨gb688, 6, none⟩ = some (.bool a0_6)) (ds := []) #[false,false,false,false,false,false,false,false,false,false,false,false,false,false,false,false,false,false,false,false,false,false,false,false,false,false,false,false,false] (by kernel_rfl) rfl rfl ⟨(blk_cell BK688.out 0).trans rfl, (blk_cell BK688.out 1).trans rfl, (blk_cell BK688.out 2).trans rfl, (blk_cell BK688.out 3).trans rfl, (blk_cell BK688.out 4).trans rfl, (blk_cell BK688.out 5).trans rfl, (blk_cell BK688.out 6).trans rfl⟩ (fun hHeld => ?_); refine with_tabW jacquardref10_info.tab5 jacquardref10_info.bits5 (fun HT_ HW_ => ?_)
          generalize wr.drew = w24 at BK688 BK689 HB hHeld ⊢
          refine pure_ (i := 0) (N := some 19) (v := ?_) (a' := ?_) #[true,false,false,false,false,false,false,false,false,false,false,false,false,false,false,false,false,false,false,false,false,false,false,false,false,false,false,false,false] rfl rfl (any_of HT_.out (by kernel_rfl)) (fun _ _ _ h => h) (Or.inl ⟨by rfl, ?_⟩) ?_ ?_
          rotate_left
          ·intro w'
           go_simp
           with_reducible rfl
          rotate_left
          ·simp only [Act.put, List.setIfInBounds_toArray, List.set_cons_zero, List.set_cons_succ, i64_w, i32_w]
           rfl
          refine pure_ (i := 2) (N := some 21) (v := ?_) (a' := ?_) #[true,false,true,false,false,false,false,false,false,false,false,false,false,false,false,false,false,false,false,false,false,false,false,false,false,false,false,false,false] rfl rfl (any_of HT_.out (by kernel_rfl)) (fun _ _ _ h => h) (Or.inl ⟨by rfl, ?_⟩) ?_ ?_
          rotate_left
          ·intro w'
           go_simp
           with_reducible rfl
          rotate_left
          ·simp only [Act.put, List.setIfInBounds_toArray, List.set_cons_zero, List.set_cons_succ, i64_w, i32_w]
           rfl
          refine pure_ (i := 3) (N := some 22) (v := ?_) (a' := ?_) #[true,false,true,true,false,false,false,false,false,false,false,false,false,false,false,false,false,false,false,false,false,false,false,false,false,false,false,false,false] rfl rfl (any_of HT_.out (by kernel_rfl)) (fun _ _ _ h => h) (Or.inl ⟨by rfl, ?_⟩) ?_ ?_
          rotate_left
          ·intro w'
           go_simp
           with_reducible rfl
          rotate_left
          ·simp only [Act.put, List.setIfInBounds_toArray, List.set_cons_zero, List.set_cons_succ, i64_w, i32_w]
           rfl
          refine pure_ (i := 5) (N := some 24) (v := ?_) (a' := ?_) #[true,false,true,true,false,true,false,false,false,false,false,false,false,false,false,false,false,false,false,false,false,false,false,false,false,false,false,false,false] rfl rfl (any_of HT_.out (by kernel_rfl)) (fun _ _ _ h => h) (Or.inl ⟨by rfl, ?_⟩) ?_ ?_
          rotate_left
          ·intro w'
           go_simp
           with_reducible rfl
          rotate_left
          ·simp only [Act.put, List.setIfInBounds_toArray, List.set_cons_zero, List.set_cons_succ, i64_w, i32_w]
           rfl
          refine pure_ (i := 7) (N := some 26) (v := ?_) (a' := ?_) #[true,false,true,true,false,true,false,true,false,false,false,false,false,false,false,false,false,false,false,false,false,false,false,false,false,false,false,false,false] rfl rfl (any_of HT_.out (by kernel_rfl)) (fun _ _ _ h => h) (Or.inl ⟨by rfl, ?_⟩) ?_ ?_
          rotate_left
          ·intro w'
           go_simp
           with_reducible rfl
          rotate_left
          ·simp only [Act.put, List.setIfInBounds_toArray, List.set_cons_zero, List.set_cons_succ, i64_w, i32_w]
           rfl
          refine pure_ (i := 9) (N := some 28) (v := ?_) (a' := ?_) #[true,false,true,true,false,true,false,true,false,true,false,false,false,false,false,false,false,false,false,false,false,false,false,false,false,false,false,false,false] rfl rfl (any_of HT_.out (by kernel_rfl)) (fun _ _ _ h => h) (Or.inl ⟨by rfl, ?_⟩) ?_ ?_
          rotate_left
          ·intro w'
           go_simp
           with_reducible rfl
          rotate_left
          ·simp only [Act.put, List.setIfInBounds_toArray, List.set_cons_zero, List.set_cons_succ, i64_w, i32_w]
           rfl
          refine pure_ (i := 11) (N := some 30) (v := ?_) (a' := ?_) #[true,false,true,true,false,true,false,true,false,true,false,true,false,false,false,false,false,false,false,false,false,false,false,false,false,false,false,false,false] rfl rfl (any_of HT_.out (by kernel_rfl)) (fun _ _ _ h => h) (Or.inl ⟨by rfl, ?_⟩) ?_ ?_
          rotate_left
          ·intro w'
           go_simp
           with_reducible rfl
          rotate_left
          ·simp only [Act.put, List.setIfInBounds_toArray, List.set_cons_zero, List.set_cons_succ, i64_w, i32_w]
           rfl
          refine pure_ (i := 12) (N := some 31) (v := ?_) (a' := ?_) #[true,false,true,true,false,true,false,true,false,true,false,true,true,false,false,false,false,false,false,false,false,false,false,false,false,false,false,false,false] rfl rfl (any_of HT_.out (by kernel_rfl)) (fun _ _ _ h => h) (Or.inl ⟨by rfl, ?_⟩) ?_ ?_
          rotate_left
          ·intro w'
           go_simp
           with_reducible rfl
          rotate_left
          ·simp only [Act.put, List.setIfInBounds_toArray, List.set_cons_zero, List.set_cons_succ, i64_w, i32_w]
           rfl
          refine pure_ (i := 13) (N := some 32) (v := ?_) (a' := ?_) #[true,false,true,true,false,true,false,true,false,true,false,true,true,true,false,false,false,false,false,false,false,false,false,false,false,false,false,false,false] rfl rfl (any_of HT_.out (by kernel_rfl)) (fun _ _ _ h => h) (Or.inl ⟨by rfl, ?_⟩) ?_ ?_
          rotate_left
          ·intro w'
           go_simp
           with_reducible rfl
          rotate_left
          ·simp only [Act.put, List.setIfInBounds_toArray, List.set_cons_zero, List.set_cons_succ, i64_w, i32_w]
           rfl
          refine pure_ (i := 15) (N := some 34) (v := ?_) (a' := ?_) #[true,false,true,true,false,true,false,true,false,true,false,true,true,true,false,true,false,false,false,false,false,false,false,false,false,false,false,false,false] rfl rfl (any_of HT_.out (by kernel_rfl)) (fun _ _ _ h => h) (Or.inl ⟨by rfl, ?_⟩) ?_ ?_
          rotate_left
          ·intro w'
           go_simp
           with_reducible rfl
          rotate_left
          ·simp only [Act.put, List.setIfInBounds_toArray, List.set_cons_zero, List.set_cons_succ, i64_w, i32_w]
           rfl
          refine pure_ (i := 16) (N := some 35) (v := ?_) (a' := ?_) #[true,false,true,true,false,true,false,true,false,true,false,true,true,true,false,true,true,false,false,false,false,false,false,false,false,false,false,false,false] rfl rfl (any_of HT_.out (by kernel_rfl)) (fun _ _ _ h => h) (Or.inl ⟨by rfl, ?_⟩) ?_ ?_
          rotate_left
          ·intro w'
           go_simp
           with_reducible rfl
          rotate_left
          ·simp only [Act.put, List.setIfInBounds_toArray, List.set_cons_zero, List.set_cons_succ, i64_w, i32_w]
           rfl
          refine pure_ (i := 17) (N := some 36) (v := ?_) (a' := ?_) #[true,false,true,true,false,true,false,true,false,true,false,true,true,true,false,true,true,true,false,false,false,false,false,false,false,false,false,false,false] rfl rfl (any_of HT_.out (by kernel_rfl)) (fun _ _ _ h => h) (Or.inl ⟨by rfl, ?_⟩) ?_ ?_
          rotate_left
          ·intro w'
           go_simp
           with_reducible rfl
          rotate_left
          ·simp only [Act.put, List.setIfInBounds_toArray, List.set_cons_zero, List.set_cons_succ, i64_w, i32_w]
           rfl
          refine pure_ (i := 18) (N := some 37) (v := ?_) (a' := ?_) #[true,false,true,true,false,true,false,true,false,true,false,true,true,true,false,true,true,true,true,false,false,false,false,false,false,false,false,false,false] rfl rfl (any_of HT_.out (by kernel_rfl)) (fun _ _ _ h => h) (Or.inl ⟨by rfl, ?_⟩) ?_ ?_
          rotate_left
          ·intro w'
           go_simp
           with_reducible rfl
          rotate_left
          ·simp only [Act.put, List.setIfInBounds_toArray, List.set_cons_zero, List.set_cons_succ, i64_w, i32_w]
           rfl
          refine pure_ (i := 20) (N := some 39) (v := ?_) (a' := ?_) #[true,false,true,true,false,true,false,true,false,true,false,true,true,true,false,true,true,true,true,false,true,false,false,false,false,false,false,false,false] rfl rfl (any_of HT_.out (by kernel_rfl)) (fun _ _ _ h => h) (Or.inl ⟨by rfl, ?_⟩) ?_ ?_
          rotate_left
          ·intro w'
           go_simp
           with_reducible rfl
          rotate_left
          ·simp only [Act.put, List.setIfInBounds_toArray, List.set_cons_zero, List.set_cons_succ, i64_w, i32_w]
           rfl
          refine pure_ (i := 22) (N := some 41) (v := ?_) (a' := ?_) #[true,false,true,true,false,true,false,true,false,true,false,true,true,true,false,true,true,true,true,false,true,false,true,false,false,false,false,false,false] rfl rfl (any_of HT_.out (by kernel_rfl)) (fun _ _ _ h => h) (Or.inl ⟨by rfl, ?_⟩) ?_ ?_
          rotate_left
          ·intro w'
           go_simp
           with_reducible rfl
          rotate_left
          ·simp only [Act.put, List.setIfInBounds_toArray, List.set_cons_zero, List.set_cons_succ, i64_w, i32_w]
           rfl
          refine pure_ (i := 25) (N := some 44) (v := ?_) (a' := ?_) #[true,false,true,true,false,true,false,true,false,true,false,true,true,true,false,true,true,true,true,false,true,false,true,false,false,true,false,false,false] rfl rfl (any_of HT_.out (by kernel_rfl)) (fun _ _ _ h => h) (Or.inl ⟨by rfl, ?_⟩) ?_ ?_
          rotate_left
          ·intro w'
           go_simp
           with_reducible rfl
          rotate_left
          ·simp only [Act.put, List.setIfInBounds_toArray, List.set_cons_zero, List.set_cons_succ, i64_w, i32_w]
           rfl
          refine take_ (i := 1) (N := some 20) (v := ?_) (a' := ?_) #[true,true,true,true,false,true,false,true,false,true,false,true,true,true,false,true,true,true,true,false,true,false,true,false,false,true,false,false,false] rfl rfl (take_ofW HT_.out HW_.out (by kernel_rfl)) (fun _ _ _ h => h) (Or.inl ⟨by rfl, ?_⟩) hHeld ?_ ?_
          rotate_left
          ·rintro w' ⟨s0, s1, s2, s3, s4, s5, s6⟩
           go_simp
           with_reducible rfl
          rotate_left
          ·simp only [Act.put, List.setIfInBounds_toArray, List.set_cons_zero, List.set_cons_succ, i64_w, i32_w]
           rfl
          refine pure_ (i := 4) (N := some 23) (v := ?_) (a' := ?_) #[true,true,true,true,true,true,false,true,false,true,false,true,true,true,false,true,true,true,true,false,true,false,true,false,false,true,false,false,false] rfl rfl (any_of HT_.out (by kernel_rfl)) (fun _ _ _ h => h) (Or.inl ⟨by rfl, ?_⟩) ?_ ?_
          rotate_left
          ·intro w'
           go_simp
           with_reducible rfl
          rotate_left
          ·simp only [Act.put, List.setIfInBounds_toArray, List.set_cons_zero, List.set_cons_succ, i64_w, i32_w]
           rfl
          refine take_ (i := 6) (N := some 25) (v := ?_) (a' := ?_) #[true,true,true,true,true,true,true,true,false,true,false,true,true,true,false,true,true,true,true,false,true,false,true,false,false,true,false,false,false] rfl rfl (take_ofW HT_.out HW_.out (by kernel_rfl)) (fun _ _ _ h => h) (Or.inl ⟨by rfl, ?_⟩) hHeld ?_ ?_
          rotate_left
          ·rintro w' ⟨s0, s1, s2, s3, s4, s5, s6⟩
           go_simp
           with_reducible rfl
          rotate_left
          ·simp only [Act.put, List.setIfInBounds_toArray, List.set_cons_zero, List.set_cons_succ, i64_w, i32_w]
           rfl
          refine pure_ (i := 8) (N := some 27) (v := ?_) (a' := ?_) #[true,true,true,true,true,true,true,true,true,true,false,true,true,true,false,true,true,true,true,false,true,false,true,false,false,true,false,false,false] rfl rfl (any_of HT_.out (by kernel_rfl)) (fun _ _ _ h => h) (Or.inl ⟨by rfl, ?_⟩) ?_ ?_
          rotate_left
          ·intro w'
           go_simp
           with_reducible rfl
          rotate_left
          ·simp only [Act.put, List.setIfInBounds_toArray, List.set_cons_zero, List.set_cons_succ, i64_w, i32_w]
           rfl
          refine take_ (i := 10) (N := some 29) (v := ?_) (a' := ?_) #[true,true,true,true,true,true,true,true,true,true,true,true,true,true,false,true,true,true,true,false,true,false,true,false,false,true,false,false,false] rfl rfl (take_ofW HT_.out HW_.out (by kernel_rfl)) (fun _ _ _ h => h) (Or.inl ⟨by rfl, ?_⟩) hHeld ?_ ?_
          rotate_left
          ·rintro w' ⟨s0, s1, s2, s3, s4, s5, s6⟩
           go_simp
           with_reducible rfl
          rotate_left
          ·simp only [Act.put, List.setIfInBounds_toArray, List.set_cons_zero, List.set_cons_succ, i64_w, i32_w]
           rfl
          refine take_ (i := 21) (N := some 40) (v := ?_) (a' := ?_) #[true,true,true,true,true,true,true,true,true,true,true,true,true,true,false,true,true,true,true,false,true,true,true,false,false,true,false,false,false] rfl rfl (take_ofW HT_.out HW_.out (by kernel_rfl)) (fun _ _ _ h => h) (Or.inl ⟨by rfl, ?_⟩) hHeld ?_ ?_
          rotate_left
          ·rintro w' ⟨s0, s1, s2, s3, s4, s5, s6⟩
           go_simp
           with_reducible rfl
          rotate_left
          ·simp only [Act.put, List.setIfInBounds_toArray, List.set_cons_zero, List.set_cons_succ, i64_w, i32_w]
           rfl
          refine take_ (i := 26) (N := some 45) (v := ?_) (a' := ?_) #[true,true,true,true,true,true,true,true,true,true,true,true,true,true,false,true,true,true,true,false,true,true,true,false,false,true,true,false,false] rfl rfl (take_ofW HT_.out HW_.out (by kernel_rfl)) (fun _ _ _ h => h) (Or.inl ⟨by rfl, ?_⟩) hHeld ?_ ?_
          rotate_left
          ·rintro w' ⟨s0, s1, s2, s3, s4, s5, s6⟩
           go_simp
           with_reducible rfl
          rotate_left
          ·simp only [Act.put, List.setIfInBounds_toArray, List.set_cons_zero, List.set_cons_succ, i64_w, i32_w]
           rfl
          refine one_ (i := 14) (N := some 33) #[true,true,true,true,true,true,true,true,true,true,true,true,true,true,true,true,true,true,true,false,true,true,true,false,false,true,true,false,false] rfl rfl (one_of HT_.out (by kernel_rfl)) (by decide) (fun K hK => ?_)
          refine goes_ Tryd.func40 (by kernel_rfl) rfl #[.string (t690.extract 0 (x8_1 : Int).toNat)] (by rfl) rfl rfl (by (try simp only [List.map_toArray, List.map_cons, List.map_nil]); first | done | rfl | (simp only [List.length_drop, List.length_take]; rfl)) ?_
          with_reducible refine (jacquardref10_types.calls k1 (t690.extract 0 (x8_1 : Int).toNat) t691 _ A17.out).mono ?_
          rintro e w25 ⟨v692, rfl, ho0, hb⟩
          refine ⟨_, rfl, ?_⟩
          have n0_ := Aside0.mk (Kd.R_lower ho0 (below_size (by repeat (first | (with_reducible first | exact HB.out | apply bA|apply bN|apply bD | refine below_set ?_ GE688.out | refine below_set ?_ GE689.out) | exact HB.out))))
          have n1_ := Aside0.mk (blk_below (g := gb688) (o := .cells #[.int .u16 a0_0, .string a0_1, .string a0_2, .string a0_3, .int .u8 a0_4, .string a0_5, .bool a0_6] 52 (0, 0)) (by (with_reducible repeat (first | apply kN|apply kD|apply kA)); exact BK688.out) hb)
          have n2_ := Aside0.mk (blk_below (g := gb689) (o := .cells #[.int .u16 0, .string (⟨#[]⟩ : ByteArray), .int .u8 0, .slice none 0 0, .slice none 0 0, .int .i64 0, .bool false] 27 (0, 0)) (by (with_reducible repeat (first | apply kN|apply kD|apply kA)); exact BK689.out) hb)
          have n3_ := Aside0.mk (below_step (by repeat (first | (with_reducible first | exact HB.out | apply bA|apply bN|apply bD | refine below_set ?_ GE688.out | refine below_set ?_ GE689.out) | exact HB.out)) hb)
          clear BK688
          clear BK689
          clear HB
          have HO693 := n0_
          have BK688 := n1_
          have BK689 := n2_
          have HB := n3_
          clear n0_ n1_ n2_ n3_
          (try clear hb)
          (try clear hb2)
          (try clear hk)
          (try clear hi)
          (try clear ho0)
          refine hK.out _ _ ⟨(blk_cell BK688.out 0).trans rfl, (blk_cell BK688.out 1).trans rfl, (blk_cell BK688.out 2).trans rfl, (blk_cell BK688.out 3).trans rfl, (blk_cell BK688.out 4).trans rfl, (blk_cell BK688.out 5).trans rfl, (blk_cell BK688.out 6).trans rfl⟩ (fun hHeld => ?_)
          clear hK K
          refine norm_ (a' := ?_) ?_ ?_
          rotate_left
          ·show Act.put _ (some 33) _ = _
           simp only [Act.put, List.setIfInBounds_toArray, List.set_cons_zero, List.set_cons_succ, i64_w, i32_w]
           rfl
          refine one_ (i := 19) (N := some 38) #[true,true,true,true,true,true,true,true,true,true,true,true,true,true,true,true,true,true,true,true,true,true,true,false,false,true,true,false,false] rfl rfl (one_of HT_.out (by kernel_rfl)) (by decide) (fun K hK => ?_)
          refine goes_ Tryd.func40 (by kernel_rfl) rfl #[.string (t690.extract ((ji18) : Int).toNat t690.size)] (by rfl) rfl rfl (by (try simp only [List.map_toArray, List.map_cons, List.map_nil]); first | done | (simp only [hji18]; rfl) | rfl | (simp only [List.length_drop, List.length_take]; rfl)) ?_
          with_reducible refine (jacquardref10_types.calls k1 (t690.extract ((ji18) : Int).toNat t690.size) t694 _ A21.out).mono ?_
          rintro e w26 ⟨v695, rfl, ho0, hb⟩
          refine ⟨_, rfl, ?_⟩
          have n0_ := Aside0.mk (Kd.R_elder' (by (with_reducible repeat (first | apply rA|apply rN|apply rD)); exact HO693.out) (Kd.R_base ho0) hb)
          have n1_ := Aside0.mk (Kd.R_lower (Kd.R_new' ho0 (Kd.R_lt (by (with_reducible repeat (first | apply rA|apply rN|apply rD)); exact HO693.out))) (below_size (by repeat (first | (with_reducible first | exact HB.out | apply bA|apply bN|apply bD | refine below_set ?_ GE688.out | refine below_set ?_ GE689.out) | exact HB.out))))
          have n2_ := Aside0.mk (blk_below (g := gb688) (o := .cells #[.int .u16 a0_0, .string a0_1, .string a0_2, .string a0_3, .int .u8 a0_4, .string a0_5, .bool a0_6] 52 (0, 0)) (by (with_reducible repeat (first | apply kN|apply kD|apply kA)); exact BK688.out) hb)
          have n3_ := Aside0.mk (blk_below (g := gb689) (o := .cells #[.int .u16 0, .string (⟨#[]⟩ : ByteArray), .int .u8 0, .slice none 0 0, .slice none 0 0, .int .i64 0, .bool false] 27 (0, 0)) (by (with_reducible repeat (first | apply kN|apply kD|apply kA)); exact BK689.out) hb)
          have n4_ := Aside0.mk (below_step (by repeat (first | (with_reducible first | exact HB.out | apply bA|apply bN|apply bD | refine below_set ?_ GE688.out | refine below_set ?_ GE689.out) | exact HB.out)) hb)
          clear HO693
          clear BK688
          clear BK689
          clear HB
          have HO693 := n0_
          have HO696 := n1_
          have BK688 := n2_
          have BK689 := n3_
          have HB := n4_
          clear n0_ n1_ n2_ n3_ n4_
          (try clear hb)
          (try clear hb2)
          (try clear hk)
          (try clear hi)
          (try clear ho0)
          refine hK.out _ _ ⟨(blk_cell BK688.out 0).trans rfl, (blk_cell BK688.out 1).trans rfl, (blk_cell BK688.out 2).trans rfl, (blk_cell BK688.out 3).trans rfl, (blk_cell BK688.out 4).trans rfl, (blk_cell BK688.out 5).trans rfl, (blk_cell BK688.out 6).trans rfl⟩ (fun hHeld => ?_)
          clear hK K
          refine norm_ (a' := ?_) ?_ ?_
          rotate_left
          ·show Act.put _ (some 38) _ = _
           simp only [Act.put, List.setIfInBounds_toArray, List.set_cons_zero, List.set_cons_succ, i64_w, i32_w]
           rfl
          refine one_ (i := 23) (N := some 42) #[true,true,true,true,true,true,true,true,true,true,true,true,true,true,true,true,true,true,true,true,true,true,true,true,false,true,true,false,false] rfl rfl (one_of HT_.out (by kernel_rfl)) (by decide) (fun K hK => ?_)
          refine goes_ Tryd.func39 (by kernel_rfl) rfl #[.string a0_5, .int .i64 a2] (by rfl) rfl rfl (by (try simp only [List.map_toArray, List.map_cons, List.map_nil]); first | done | rfl | (simp only [List.length_drop, List.length_take]; rfl)) ?_
          with_reducible refine (jacquardref10_each.calls k1 a0_5 a2 t697 _ A22.out).mono ?_
          rintro e w27 ⟨rfl, hb⟩
          refine ⟨_, rfl, ?_⟩
          have n0_ := Aside0.mk (Kd.R_below (by (with_reducible repeat (first | apply rA|apply rN|apply rD)); exact HO693.out) hb)
          have n1_ := Aside0.mk (Kd.R_below (by (with_reducible repeat (first | apply rA|apply rN|apply rD)); exact HO696.out) hb)
          have n2_ := Aside0.mk (blk_below (g := gb688) (o := .cells #[.int .u16 a0_0, .string a0_1, .string a0_2, .string a0_3, .int .u8 a0_4, .string a0_5, .bool a0_6] 52 (0, 0)) (by (with_reducible repeat (first | apply kN|apply kD|apply kA)); exact BK688.out) hb)
          have n3_ := Aside0.mk (blk_below (g := gb689) (o := .cells #[.int .u16 0, .string (⟨#[]⟩ : ByteArray), .int .u8 0, .slice none 0 0, .slice none 0 0, .int .i64 0, .bool false] 27 (0, 0)) (by (with_reducible repeat (first | apply kN|apply kD|apply kA)); exact BK689.out) hb)
          have n4_ := Aside0.mk (below_step (by repeat (first | (with_reducible first | exact HB.out | apply bA|apply bN|apply bD | refine below_set ?_ GE688.out | refine below_set ?_ GE689.out) | exact HB.out)) hb)
          clear HO693
          clear HO696
          clear BK688
          clear BK689
          clear HB
          have HO693 := n0_
          have HO696 := n1_
          have BK688 := n2_
          have BK689 := n3_
          have HB := n4_
          clear n0_ n1_ n2_ n3_ n4_
          (try clear hb)
          (try clear hb2)
          (try clear hk)
          (try clear hi)
          refine hK.out _ _ ⟨(blk_cell BK688.out 0).trans rfl, (blk_cell BK688.out 1).trans rfl, (blk_cell BK688.out 2).trans rfl, (blk_cell BK688.out 3).trans rfl, (blk_cell BK688.out 4).trans rfl, (blk_cell BK688.out 5).trans rfl, (blk_cell BK688.out 6).trans rfl⟩ (fun hHeld => ?_)
          clear hK K
          refine norm_ (a' := ?_) ?_ ?_
          rotate_left
          ·show Act.put _ (some 42) _ = _
           simp only [Act.put, List.setIfInBounds_toArray, List.set_cons_zero, List.set_cons_succ, i64_w, i32_w]
           rfl
          refine one_ (i := 24) (N := some 43) #[true,true,true,true,true,true,true,true,true,true,true,true,true,true,true,true,true,true,true,true,true,true,true,true,true,true,true,false,false] rfl rfl (one_of HT_.out (by kernel_rfl)) (by decide) (fun K hK => ?_)
          refine goes_ Tryd.func41 (by kernel_rfl) rfl #[.string t697] (by rfl) rfl rfl (by (try simp only [List.map_toArray, List.map_cons, List.map_nil]); first | done | rfl | (simp only [List.length_drop, List.length_take]; rfl)) ?_
          with_reducible refine (jacquardref10_number.calls k1 t697 t698 _ A23.out).mono ?_
          rintro e w' ⟨rfl, ⟨nd, rfl⟩⟩
          refine ⟨_, rfl, ?_⟩
          obtain ⟨Ao28, co28, eo28⟩ := Kd.R_slice HO696.out
          (first | subst eo28 | (injection eo28 with f1_ f2_ f3_; have f4_ := f1_.symm; have f5_ := f3_.symm; clear f1_ f2_ f3_; subst f4_; subst f5_))
          obtain ⟨Ao29, co29, eo29⟩ := Kd.R_slice HO693.out
          (first | subst eo29 | (injection eo29 with f1_ f2_ f3_; have f4_ := f1_.symm; have f5_ := f3_.symm; clear f1_ f2_ f3_; subst f4_; subst f5_))
          refine hK.out _ _ ⟨(blk_cell BK688.out 0).trans rfl, (blk_cell BK688.out 1).trans rfl, (blk_cell BK688.out 2).trans rfl, (blk_cell BK688.out 3).trans rfl, (blk_cell BK688.out 4).trans rfl, (blk_cell BK688.out 5).trans rfl, (blk_cell BK688.out 6).trans rfl⟩ (fun hHeld => ?_)
          clear hK K
          refine norm_ (a' := ?_) ?_ ?_
          rotate_left
          ·show Act.put _ (some 43) _ = _
           simp only [Act.put, List.setIfInBounds_toArray, List.set_cons_zero, List.set_cons_succ, i64_w, i32_w]
           rfl
          refine pure_ (i := 27) (N := some 46) (v := ?_) (a' := ?_) #[true,true,true,true,true,true,true,true,true,true,true,true,true,true,true,true,true,true,true,true,true,true,true,true,true,true,true,true,false] rfl rfl (any_of HT_.out (by kernel_rfl)) (fun _ _ _ h => h) (Or.inl ⟨by rfl, ?_⟩) ?_ ?_
          rotate_left
          ·intro w'
           go_simp
           with_reducible rfl
          rotate_left
          ·simp only [Act.put, List.setIfInBounds_toArray, List.set_cons_zero, List.set_cons_succ, i64_w, i32_w]
           rfl
          refine one_ (i := 28) (N := none) #[true,true,true,true,true,true,true,true,true,true,true,true,true,true,true,true,true,true,true,true,true,true,true,true,true,true,true,true,true] rfl rfl (one_of HT_.out (by kernel_rfl)) (by decide) (fun K hK => ?_)
          have hs30 : w27.cell? ⟨gb689, 0, none⟩ = some (.int .u16 0) := (blk_cell BK689.out 0).trans rfl
          have hfs30 := blk_frozen BK689.out 0
          have hns30_0 := NB688_689.out
          have hms30_0 := NB689_688.out
          have hs31 : w27.cell? ⟨gb689, 1, none⟩ = some (.string (⟨#[]⟩ : ByteArray)) := (blk_cell BK689.out 1).trans rfl
          have hfs31 := blk_frozen BK689.out 1
          have hns31_0 := NB688_689.out
          have hms31_0 := NB689_688.out
          have hs32 : w27.cell? ⟨gb689, 2, none⟩ = some (.int .u8 0) := (blk_cell BK689.out 2).trans rfl
          have hfs32 := blk_frozen BK689.out 2
          have hns32_0 := NB688_689.out
          have hms32_0 := NB689_688.out
          have hs33 : w27.cell? ⟨gb689, 3, none⟩ = some (.slice none 0 0) := (blk_cell BK689.out 3).trans rfl
          have hfs33 := blk_frozen BK689.out 3
          have hns33_0 := NB688_689.out
          have hms33_0 := NB689_688.out
          have hs34 : w27.cell? ⟨gb689, 4, none⟩ = some (.slice none 0 0) := (blk_cell BK689.out 4).trans rfl
          have hfs34 := blk_frozen BK689.out 4
          have hns34_0 := NB688_689.out
          have hms34_0 := NB689_688.out
          have hs35 : w27.cell? ⟨gb689, 5, none⟩ = some (.int .i64 0) := (blk_cell BK689.out 5).trans rfl
          have hfs35 := blk_frozen BK689.out 5
          have hns35_0 := NB688_689.out
          have hms35_0 := NB689_688.out
          have hs36 : w27.cell? ⟨gb689, 6, none⟩ = some (.bool false) := (blk_cell BK689.out 6).trans rfl
          have hfs36 := blk_frozen BK689.out 6
          have hns36_0 := NB688_689.out
          have hms36_0 := NB689_688.out
          refine skip_ (w1 := ?_) (by rfl) rfl ?_ ?_
          rotate_left
          ·go_simp
           rfl
          refine hK.out _ _ ⟨((cell_far (p := ⟨gb689, _, none⟩) NB688_689.out _).trans (((cell_far (p := ⟨gb689, _, none⟩) NB688_689.out _).trans (((cell_far (p := ⟨gb689, _, none⟩) NB688_689.out _).trans (((cell_far (p := ⟨gb689, _, none⟩) NB688_689.out _).trans (((cell_far (p := ⟨gb689, _, none⟩) NB688_689.out _).trans (((cell_far (p := ⟨gb689, _, none⟩) NB688_689.out _).trans (((cell_far (p := ⟨gb689, _, none⟩) NB688_689.out _).trans (hHeld.1)))))))))))))), ((cell_far (p := ⟨gb689, _, none⟩) NB688_689.out _).trans (((cell_far (p := ⟨gb689, _, none⟩) NB688_689.out _).trans (((cell_far (p := ⟨gb689, _, none⟩) NB688_689.out _).trans (((cell_far (p := ⟨gb689, _, none⟩) NB688_689.out _).trans (((cell_far (p := ⟨gb689, _, none⟩) NB688_689.out _).trans (((cell_far (p := ⟨gb689, _, none⟩) NB688_689.out _).trans (((cell_far (p := ⟨gb689, _, none⟩) NB688_689.out _).trans (hHeld.2.1)))))))))))))), ((cell_far (p := ⟨gb689, _, none⟩) NB688_689.out _).trans (((cell_far (p := ⟨gb689, _, none⟩) NB688_689.out _).trans (((cell_far (p := ⟨gb689, _, none⟩) NB688_689.out _).trans (((cell_far (p := ⟨gb689, _, none⟩) NB688_689.out _).trans (((cell_far (p := ⟨gb689, _, none⟩) NB688_689.out _).trans (((cell_far (p := ⟨gb689, _, none⟩) NB688_689.out _).trans (((cell_far (p := ⟨gb689, _, none⟩) NB688_689.out _).trans (hHeld.2.2.1)))))))))))))), ((cell_far (p := ⟨gb689, _, none⟩) NB688_689.out _).trans (((cell_far (p := ⟨gb689, _, none⟩) NB688_689.out _).trans (((cell_far (p := ⟨gb689, _, none⟩) NB688_689.out _).trans (((cell_far (p := ⟨gb689, _, none⟩) NB688_689.out _).trans (((cell_far (p := ⟨gb689, _, none⟩) NB688_689.out _).trans (((cell_far (p := ⟨gb689, _, none⟩) NB688_689.out _).trans (((cell_far (p := ⟨gb689, _, none⟩) NB688_689.out _).trans (hHeld.2.2.2.1)))))))))))))), ((cell_far (p := ⟨gb689, _, none⟩) NB688_689.out _).trans (((cell_far (p := ⟨gb689, _, none⟩) NB688_689.out _).trans (((cell_far (p := ⟨gb689, _, none⟩) NB688_689.out _).trans (((cell_far (p := ⟨gb689, _, none⟩) NB688_689.out _).trans (((cell_far (p := ⟨gb689, _, none⟩) NB688_689.out _).trans (((cell_far (p := ⟨gb689, _, none⟩) NB688_689.out _).trans (((cell_far (p := ⟨gb689, _, none⟩) NB688_689.out _).trans (hHeld.2.2.2.2.1)))))))))))))), ((cell_far (p := ⟨gb689, _, none⟩) NB688_689.out _).trans (((cell_far (p := ⟨gb689, _, none⟩) NB688_689.out _).trans (((cell_far (p := ⟨gb689, _, none⟩) NB688_689.out _).trans (((cell_far (p := ⟨gb689, _, none⟩) NB688_689.out _).trans (((cell_far (p := ⟨gb689, _, none⟩) NB688_689.out _).trans (((cell_far (p := ⟨gb689, _, none⟩) NB688_689.out _).trans (((cell_far (p := ⟨gb689, _, none⟩) NB688_689.out _).trans (hHeld.2.2.2.2.2.1)))))))))))))), ((cell_far (p := ⟨gb689, _, none⟩) NB688_689.out _).trans (((cell_far (p := ⟨gb689, _, none⟩) NB688_689.out _).trans (((cell_far (p := ⟨gb689, _, none⟩) NB688_689.out _).trans (((cell_far (p := ⟨gb689, _, none⟩) NB688_689.out _).trans (((cell_far (p := ⟨gb689, _, none⟩) NB688_689.out _).trans (((cell_far (p := ⟨gb689, _, none⟩) NB688_689.out _).trans (((cell_far (p := ⟨gb689, _, none⟩) NB688_689.out _).trans (hHeld.2.2.2.2.2.2))))))))))))))⟩ (fun hHeld => ?_)
          clear hK K
          refine done_ (done_of HT_.out (by kernel_rfl)) ?_
          try go_wp2
          refine bodyPost_ret (results_cell_row rfl _ _ gb689 27 #[.int .u16 (IntKind.u16.wrap (a0_0 + (IntKind.u16.wrap (a2)))), .string (a0_1 ++ a1), .int .u8 a0_4, .slice Ao29 t691.length co29, .slice Ao28 t694.length co28, .int .i64 t698, .bool a0_6] (0, 0) _ rfl (by (with_reducible repeat (first | apply kN|apply kD|apply kA)); refine blk_put (cs := #[.int .u16 (IntKind.u16.wrap (a0_0 + (IntKind.u16.wrap (a2)))), .string (a0_1 ++ a1), .int .u8 a0_4, .slice Ao29 t691.length co29, .slice Ao28 t694.length co28, .int .i64 t698, .bool false]) ?_ 6 _ rfl; (with_reducible repeat (first | apply kN|apply kD|apply kA)); refine blk_put (cs := #[.int .u16 (IntKind.u16.wrap (a0_0 + (IntKind.u16.wrap (a2)))), .string (a0_1 ++ a1), .int .u8 a0_4, .slice Ao29 t691.length co29, .slice Ao28 t694.length co28, .int .i64 0, .bool false]) ?_ 5 _ rfl; (with_reducible repeat (first | apply kN|apply kD|apply kA)); refine blk_put (cs := #[.int .u16 (IntKind.u16.wrap (a0_0 + (IntKind.u16.wrap (a2)))), .string (a0_1 ++ a1), .int .u8 a0_4, .slice Ao29 t691.length co29, .slice none 0 0, .int .i64 0, .bool false]) ?_ 4 _ rfl; (with_reducible repeat (first | apply kN|apply kD|apply kA)); refine blk_put (cs := #[.int .u16 (IntKind.u16.wrap (a0_0 + (IntKind.u16.wrap (a2)))), .string (a0_1 ++ a1), .int .u8 a0_4, .slice none 0 0, .slice none 0 0, .int .i64 0, .bool false]) ?_ 3 _ rfl; (with_reducible repeat (first | apply kN|apply kD|apply kA)); refine blk_put (cs := #[.int .u16 (IntKind.u16.wrap (a0_0 + (IntKind.u16.wrap (a2)))), .string (a0_1 ++ a1), .int .u8 0, .slice none 0 0, .slice none 0 0, .int .i64 0, .bool false]) ?_ 2 _ rfl; (with_reducible repeat (first | apply kN|apply kD|apply kA)); refine blk_put (cs := #[.int .u16 (IntKind.u16.wrap (a0_0 + (IntKind.u16.wrap (a2)))), .string (⟨#[]⟩ : ByteArray), .int .u8 0, .slice none 0 0, .slice none 0 0, .int .i64 0, .bool false]) ?_ 1 _ rfl; (with_reducible repeat (first | apply kN|apply kD|apply kA)); refine blk_put (cs := #[.int .u16 0, .string (⟨#[]⟩ : ByteArray), .int .u8 0, .slice none 0 0, .slice none 0 0, .int .i64 0, .bool false]) ?_ 0 _ rfl; (with_reducible repeat (first | apply kN|apply kD|apply kA)); exact BK689.out) Tryd.underlying27 rfl (by kernel_rfl)) rfl ?_
          exact ⟨_, _, by first | rfl | (simp [errW_none, errW_some] <;> rfl) | (simp only [← hji18]; first | rfl | (simp [errW_none, errW_some] <;> rfl)) | (simp [*, errW_none, errW_some] <;> rfl), by (with_reducible repeat (first | apply rA|apply rN|apply rD)); exact Kd.R_mono (Kd.R_far (p := ⟨gb689, 6, none⟩) (Kd.R_far (p := ⟨gb689, 5, none⟩) (Kd.R_far (p := ⟨gb689, 4, none⟩) (Kd.R_far (p := ⟨gb689, 3, none⟩) (Kd.R_far (p := ⟨gb689, 2, none⟩) (Kd.R_far (p := ⟨gb689, 1, none⟩) (Kd.R_far (p := ⟨gb689, 0, none⟩) (Kd.R_types HO693.out BK689.out (by decide)) (fun _ hk => hk.2) (.int .u16 (IntKind.u16.wrap (a0_0 + (IntKind.u16.wrap (a2)))))) (fun _ hk => hk.2) (.string (a0_1 ++ a1))) (fun _ hk => hk.2) (.int .u8 a0_4)) (fun _ hk => hk.2) (.slice Ao29 t691.length co29)) (fun _ hk => hk.2) (.slice Ao28 t694.length co28)) (fun _ hk => hk.2) (.int .i64 t698)) (fun _ hk => hk.2) (.bool a0_6)) (fun _ hk => hk.1.2), by (with_reducible repeat (first | apply rA|apply rN|apply rD)); exact Kd.R_mono (Kd.R_far (p := ⟨gb689, 6, none⟩) (Kd.R_far (p := ⟨gb689, 5, none⟩) (Kd.R_far (p := ⟨gb689, 4, none⟩) (Kd.R_far (p := ⟨gb689, 3, none⟩) (Kd.R_far (p := ⟨gb689, 2, none⟩) (Kd.R_far (p := ⟨gb689, 1, none⟩) (Kd.R_far (p := ⟨gb689, 0, none⟩) (Kd.R_types HO696.out BK689.out (by decide)) (fun _ hk => hk.2) (.int .u16 (IntKind.u16.wrap (a0_0 + (IntKind.u16.wrap (a2)))))) (fun _ hk => hk.2) (.string (a0_1 ++ a1))) (fun _ hk => hk.2) (.int .u8 a0_4)) (fun _ hk => hk.2) (.slice Ao29 t691.length co29)) (fun _ hk => hk.2) (.slice Ao28 t694.length co28)) (fun _ hk => hk.2) (.int .i64 t698)) (fun _ hk => hk.2) (.bool a0_6)) (fun _ hk => hk.1.2), by repeat (first | (with_reducible first | exact HB.out | apply bA|apply bN|apply bD | refine below_set ?_ GE688.out | refine below_set ?_ GE689.out) | exact HB.out)⟩
         ·rw [if_neg c20] at H
          exact absurd H (by simp)
        ·rw [if_neg c19] at H
         exact absurd H (by simp)
       ·rw [if_neg c16] at H
        exact absurd H (by simp)
      ·rw [if_neg c14] at H
       exact absurd H (by simp)
     ·rw [if_neg c13] at H
      have c13b0 : ((bt t690 x8_1) == 58) = false := beq_eq_false_iff_ne.mpr c13
      have c13b1 : ((bt t690 x8_1) != 58) = true := bne_iff_ne.mpr c13
      have H' := Aside0.mk H
      clear H
      have p12 : 0 ≤ (x8_1 : Int) := of_decide_eq_true (by first | (with_reducible assumption) | assumption)
      have q12 : x8_1 < (t690.size : Int) := of_decide_eq_true (by first | (with_reducible assumption) | assumption)
      have hx12 := bt_at t690 x8_1
      replace p12 := eq_true p12
      replace q12 := eq_true q12
      go_wp2
      go_roundg k1
      case measure => have := HK1.out; omega
      case rel => exact ⟨(wrap64 (x8_1 + 1)), (by first | rfl | (simp; done) | (simp [*]; done)), H', ⟨by have := HK1.out; omega⟩, ⟨by (with_reducible repeat (first | apply kN|apply kD|apply kA)); exact BK688.out⟩, ⟨by (with_reducible repeat (first | apply kN|apply kD|apply kA)); exact BK689.out⟩, ⟨by repeat (first | (with_reducible first | exact HB.out | apply bA|apply bN|apply bD | refine below_set ?_ GE688.out | refine below_set ?_ GE689.out) | exact HB.out)⟩⟩
    ·rw [if_neg c11] at H
     exact absurd H (by simp)
   ·rw [if_neg c10] at H
    exact absurd H (by simp)

end Go.Proofs.YtfbdmgdbamjjhaaDoor.P
