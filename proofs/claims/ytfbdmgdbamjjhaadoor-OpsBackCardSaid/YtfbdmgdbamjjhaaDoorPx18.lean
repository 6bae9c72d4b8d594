-- Printed by a program of this session (wip/patch-print.py over the kit's print): Lean checks it.
import Derived.Test.YtfbdmgdbamjjhaaDoorPx0
import Derived.Test.YtfbdmgdbamjjhaaDoorPx4
import Derived.Test.YtfbdmgdbamjjhaaDoorPx7
import Derived.Test.YtfbdmgdbamjjhaaDoorPx8
import Derived.Test.YtfbdmgdbamjjhaaDoorGAll
namespace Go.Proofs.YtfbdmgdbamjjhaaDoor.P
open Go.Proofs.YtfbdmgdbamjjhaaDoorTabs
open Go.Proofs.YtfbdmgdbamjjhaaDoorCaps
open Go.RowKit Go.Proofs.YtfbdmgdbamjjhaaDoorW.PrintWords Go.Proofs.YtfbdmgdbamjjhaaDoorW.PrintLast Go.Proofs.YtfbdmgdbamjjhaaDoorW.PrintMore
attribute [local go_sem] max2_int min2_int max_two min_two max_three min_three max_four min_four   -- for this text's walks alone
set_option linter.unusedVariables false
set_option linter.unusedSimpArgs false

/-! ### ops_Named: function 16 -/
def ops_Named.l0 : Nat → ByteArray → List Int → Int → Int → Option (Int × Int)
 | 0, _, _, _, _ => none
 | k + 1, x0, x8, x9, x10 => if x10 < x9 then (if 0 ≤ x10 then (if x10 < (x8.length : Int) then ((ops_look.f k (rd x8 x10)).bind fun bt944 => (if bt944.1.toList = x0.toList then (some (rd x8 x10, 0)) else (ops_Named.l0 k x0 x8 x9 (wrap64 (x10 + 1))))) else (none)) else (none)) else (some (0, 11))
def ops_Named.f (k : Nat) (a0 : ByteArray) : Option (Int × Int) := (ops_All.f k).bind fun t940 => (ops_Named.l0 k a0 t940 (t940.length : Int) 0)
theorem ops_Named.mono_l : ∀ k, (∀ y0 y1 y2 y3, LeO (ops_Named.l0 k y0 y1 y2 y3) (ops_Named.l0 (k + 1) y0 y1 y2 y3))
 | 0 => fun _ _ _ _ r h => by simp [ops_Named.l0] at h
 | k + 1 => by
  have ih0 := ops_Named.mono_l k
  ·intro y0 y1 y2 y3
   unfold ops_Named.l0
   repeat' first
   | (with_reducible exact ih0 _ _ _ _)
   | (with_reducible exact ops_All.mono _)
   | (with_reducible exact ops_look.mono _ _)
   | (with_reducible exact LeO.refl _)
   | (with_reducible exact LeO.none _)
   | (with_reducible refine LeO.ite ?_ ?_)
   | (with_reducible refine LeO.bind ?_ (fun _ => ?_))
   | exact ih0 _ _ _ _
   | exact ops_All.mono _
   | exact ops_look.mono _ _
   | exact LeO.none _
   | refine LeO.ite ?_ ?_
   | refine LeO.bind ?_ (fun _ => ?_)
theorem ops_Named.mono : ∀ a0 k, LeO (ops_Named.f k a0) (ops_Named.f (k + 1) a0) := by
 intro a0 k
 have ih0 := ops_Named.mono_l k
 unfold ops_Named.f
 repeat' first
   | (with_reducible exact ih0 _ _ _ _)
   | (with_reducible exact ops_All.mono _)
   | (with_reducible exact ops_look.mono _ _)
   | (with_reducible exact LeO.refl _)
   | (with_reducible exact LeO.none _)
   | (with_reducible refine LeO.ite ?_ ?_)
   | (with_reducible refine LeO.bind ?_ (fun _ => ?_))
   | exact ih0 _ _ _ _
   | exact ops_All.mono _
   | exact ops_look.mono _ _
   | exact LeO.none _
   | refine LeO.ite ?_ ?_
   | refine LeO.bind ?_ (fun _ => ?_)
set_option maxHeartbeats 8000000 in
set_option maxRecDepth 100000 in
theorem ops_Named.calls (k : Nat) (a0 : ByteArray) (r1 : Int) (r2 : Int) (w : World) (hT : Go.Proofs.YtfbdmgdbamjjhaaDoorTabs.Tab w) (h : ops_Named.f k a0 = some (r1, r2)) :
  Calls Tryd.prog 16 #[.string a0] w fun e w' => e = .returned (.tuple #[.int .u16 r1, .int .i64 r2]) ∧ Below w.heap.size w w' := by
 have HT := Aside0.mk hT
 clear hT
 have hu42 := Tryd.underlying42
 have HB := Aside0.mk (Below.refl w.heap.size w)
 have H : ((ops_All.f k).bind fun t940 => (ops_Named.l0 k a0 t940 (t940.length : Int) 0)) = some (r1, r2) := h
 clear h
 replace H := Option.bind_eq_some_iff.mp H
 obtain ⟨t940, A20, H⟩ := H
 replace H : (ops_Named.l0 k a0 t940 (t940.length : Int) 0) = some (r1, r2) := H
 have A2 := Aside0.mk A20
 clear A20
 have H' := Aside0.mk H
 clear H
 go_enter Tryd.func16, Tryd.ntmps16
 go_wp2_with (first | ((with_reducible refine gate_callee (f := 15) rfl ?_); refine goesL_ (some 8) rfl rfl Tryd.func15 (by kernel_rfl) rfl #[] rfl (by (try simp only [List.map_toArray, List.map_cons, List.map_nil]); first | done | rfl | (simp only [List.length_drop, List.length_take]; rfl)) ?_; (with_reducible refine (ops_All.calls (hT := by first | exact HT.out | exact Go.Proofs.YtfbdmgdbamjjhaaDoorTabs.Tab.below HT.out (by repeat (first | (with_reducible first | exact HB.out | apply bA|apply bN|apply bD | refine below_set ?_ (Aside0.out (by assumption))) | exact HB.out)) | exact Go.Proofs.YtfbdmgdbamjjhaaDoorTabs.Tab.drawn HT.out (by repeat (first | exact Drawn0.refl _ | apply Drawn0.step))) k  t940 _ A2.out).mono ?_); rintro e w3 ⟨v941, rfl, ho0, hb⟩; refine ⟨_, rfl, ?_⟩; have n0_ := Aside0.mk (Kd.R_lower ho0 (below_size (by repeat (first | (with_reducible first | exact HB.out | apply bA|apply bN|apply bD) | exact HB.out)))); have n1_ := Aside0.mk (below_step (by repeat (first | (with_reducible first | exact HB.out | apply bA|apply bN|apply bD) | exact HB.out)) hb); clear HB; have HO942 := n0_; have HB := n1_; clear n0_ n1_; (try clear hb); (try clear hb2); (try clear hk); (try clear hi); (try clear ho0); obtain ⟨Ao4, co4, eo4⟩ := Kd.R_slice HO942.out; subst eo4))
 go_loopg [10] k (fun kq v10 w' => ∃ (x10_1 : Int), v10 = .int .i64 x10_1 ∧ Aside0 (ops_Named.l0 kq a0 t940 (t940.length : Int) x10_1 = some (r1, r2)) ∧ Aside0 (kq ≤ k) ∧ Aside0 (Kd.R (Kd.int .u16) 23 w' w.heap.size (fun _ => True) (.slice Ao4 t940.length co4) t940) ∧ Aside0 (Below w.heap.size w w'))
 case atStart => exact ⟨(0), (by first | rfl | (simp; done) | (simp [*]; done)), H', ⟨Nat.le_refl _⟩, ⟨by (with_reducible repeat (first | apply rA|apply rN|apply rD)); exact HO942.out⟩, ⟨by repeat (first | (with_reducible first | exact HB.out | apply bA|apply bN|apply bD) | exact HB.out)⟩⟩
 case round =>
  clear H'
  try clear c1
  try clear p2
  obtain ⟨x10_1, rfl, HA, HK1, HO_8, HB⟩ := hrel
  cases gk with
  | zero => exact absurd HA.out (by simp [ops_Named.l0])
  | succ k1 =>
   have H := HA.out
   clear HA
   simp only [ops_Named.l0] at H
   by_cases c5 : x10_1 < (t940.length : Int)
   ·rw [if_pos c5] at H
    have c5b0 : decide (x10_1 < (t940.length : Int)) = true := decide_eq_true c5
    clear c5
    by_cases c6 : 0 ≤ x10_1
    ·rw [if_pos c6] at H
     have c6b0 : decide (0 ≤ x10_1) = true := decide_eq_true c6
     clear c6
     by_cases c7 : x10_1 < (t940.length : Int)
     ·rw [if_pos c7] at H
      have c7b0 : decide (x10_1 < (t940.length : Int)) = true := decide_eq_true c7
      clear c7
      replace H := Option.bind_eq_some_iff.mp H
      obtain ⟨⟨t944, t945, t946, t947, t948, t949⟩, A80, H⟩ := H
      replace H : (if t944.toList = a0.toList then (some (rd t940 x10_1, 0)) else (ops_Named.l0 k1 a0 t940 (t940.length : Int) (wrap64 (x10_1 + 1)))) = some (r1, r2) := H
      have A8 := Aside0.mk A80
      clear A80
      by_cases c9 : t944.toList = a0.toList
      ·rw [if_pos c9] at H
       have c9b0 : (t944.toList == a0.toList) = true := beq_iff_eq.mpr c9
       have c9b1 : (t944.toList != a0.toList) = false := bne_eq_false_iff_eq.mpr c9
       clear c9
       simp only [Option.some.injEq, Prod.mk.injEq] at H
       obtain ⟨rfl, rfl⟩ := H
       have p943 : 0 ≤ (x10_1 : Int) := of_decide_eq_true (by first | (with_reducible assumption) | assumption)
       have q943 : x10_1 < (t940.length : Int) := of_decide_eq_true (by first | (with_reducible assumption) | assumption)
       obtain ⟨ad943, e943, hx943_0⟩ := Kd.at_int (Kd.R_reads' HO_8.out).2.2 x10_1 p943 q943
       cases e943
       replace p943 := eq_true p943
       replace q943 := eq_true q943
       go_wp2_with (first | ((with_reducible refine gate_callee (f := 18) rfl ?_); refine goesL_ (some 16) rfl rfl Tryd.func18 (by kernel_rfl) rfl #[.int .u16 (rd t940 x10_1)] rfl (by (try simp only [List.map_toArray, List.map_cons, List.map_nil]); first | done | rfl | (simp only [List.length_drop, List.length_take]; rfl)) ?_; (with_reducible refine (ops_look.calls (hT := by first | exact HT.out | exact Go.Proofs.YtfbdmgdbamjjhaaDoorTabs.Tab.below HT.out (by repeat (first | (with_reducible first | exact HB.out | apply bA|apply bN|apply bD | refine below_set ?_ (Aside0.out (by assumption))) | exact HB.out)) | exact Go.Proofs.YtfbdmgdbamjjhaaDoorTabs.Tab.drawn HT.out (by repeat (first | exact Drawn0.refl _ | apply Drawn0.step))) k1 (rd t940 x10_1) t944 t945 t946 t947 t948 t949 _ A8.out).mono ?_); rintro e w10 ⟨rfl, hb⟩; refine ⟨_, rfl, ?_⟩; have n0_ := Aside0.mk (Kd.R_below (by (with_reducible repeat (first | apply rA|apply rN|apply rD)); exact HO_8.out) hb); have n1_ := Aside0.mk (below_step (by repeat (first | (with_reducible first | exact HB.out | apply bA|apply bN|apply bD) | exact HB.out)) hb); clear HO_8; clear HB; have HO_8 := n0_; have HB := n1_; clear n0_ n1_; (try clear hb); (try clear hb2); (try clear hk); (try clear hi)) | ((with_reducible refine gate_dst (N := 6) rfl ?_); refine box_event ?hg (N := 6) ?hd (cs := #[.string (⟨#[]⟩ : ByteArray), .string (⟨#[]⟩ : ByteArray), .int .u8 0, .int .i64 0, .bool false]) (t := 42) ?hr ?_; (case hd => rfl); (case hg => rfl); (case hr => first | (go_simp; done) | (go_simp; rfl)); intro gb950 hg w11 hbox hb; have n0_ := Aside0.mk (Kd.R_below (by (with_reducible repeat (first | apply rA|apply rN|apply rD)); exact HO_8.out) hb); have n1_ := Aside0.mk (below_step (by repeat (first | (with_reducible first | exact HB.out | apply bA|apply bN|apply bD) | exact HB.out)) hb); have n2_ := Aside0.mk (hbox); have n3_ := Aside0.mk ((by rw [hg]; exact (below_size (by repeat (first | (with_reducible first | exact HB.out | apply bA|apply bN|apply bD) | exact HB.out))) : w.heap.size ≤ gb950)); have n4_ := Aside0.mk ((by rw [hg]; exact (below_size (by repeat (first | (with_reducible first | exact HB.out | apply bA|apply bN|apply bD) | exact HB.out))) : w.heap.size ≤ gb950)); clear HO_8; clear HB; have HO_8 := n0_; have HB := n1_; have BK950 := n2_; have GW950 := n3_; have GE950 := n4_; clear n0_ n1_ n2_ n3_ n4_; clear hb hbox hg; have hcz12_0 : w11.cell? ⟨gb950, 0, none⟩ = some (.string (⟨#[]⟩ : ByteArray)) := (blk_cell BK950.out 0).trans rfl; have hcz12_1 : w11.cell? ⟨gb950, 1, none⟩ = some (.string (⟨#[]⟩ : ByteArray)) := (blk_cell BK950.out 1).trans rfl; have hcz12_2 : w11.cell? ⟨gb950, 2, none⟩ = some (.int .u8 0) := (blk_cell BK950.out 2).trans rfl; have hcz12_3 : w11.cell? ⟨gb950, 3, none⟩ = some (.int .i64 0) := (blk_cell BK950.out 3).trans rfl; have hcz12_4 : w11.cell? ⟨gb950, 4, none⟩ = some (.bool false) := (blk_cell BK950.out 4).trans rfl; have hfz12_0 := blk_frozen BK950.out 0; have hfz12_1 := blk_frozen BK950.out 1; have hfz12_2 := blk_frozen BK950.out 2; have hfz12_3 := blk_frozen BK950.out 3; have hfz12_4 := blk_frozen BK950.out 4))
       go_ret2
       exact ⟨by first | rfl | (simp [errW_none, errW_some] <;> rfl) | (simp [*, errW_none, errW_some] <;> rfl), by repeat (first | (with_reducible first | exact HB.out | apply bA|apply bN|apply bD | refine below_set ?_ GE950.out) | exact HB.out)⟩
      ·rw [if_neg c9] at H
       have c9b0 : (t944.toList == a0.toList) = false := beq_eq_false_iff_ne.mpr c9
       have c9b1 : (t944.toList != a0.toList) = true := bne_iff_ne.mpr c9
       have H' := Aside0.mk H
       clear H
       have p943 : 0 ≤ (x10_1 : Int) := of_decide_eq_true (by first | (with_reducible assumption) | assumption)
       have q943 : x10_1 < (t940.length : Int) := of_decide_eq_true (by first | (with_reducible assumption) | assumption)
       obtain ⟨ad943, e943, hx943_0⟩ := Kd.at_int (Kd.R_reads' HO_8.out).2.2 x10_1 p943 q943
       cases e943
       replace p943 := eq_true p943
       replace q943 := eq_true q943
       go_wp2_with (first | ((with_reducible refine gate_callee (f := 18) rfl ?_); refine goesL_ (some 16) rfl rfl Tryd.func18 (by kernel_rfl) rfl #[.int .u16 (rd t940 x10_1)] rfl (by (try simp only [List.map_toArray, List.map_cons, List.map_nil]); first | done | rfl | (simp only [List.length_drop, List.length_take]; rfl)) ?_; (with_reducible refine (ops_look.calls (hT := by first | exact HT.out | exact Go.Proofs.YtfbdmgdbamjjhaaDoorTabs.Tab.below HT.out (by repeat (first | (with_reducible first | exact HB.out | apply bA|apply bN|apply bD | refine below_set ?_ (Aside0.out (by assumption))) | exact HB.out)) | exact Go.Proofs.YtfbdmgdbamjjhaaDoorTabs.Tab.drawn HT.out (by repeat (first | exact Drawn0.refl _ | apply Drawn0.step))) k1 (rd t940 x10_1) t944 t945 t946 t947 t948 t949 _ A8.out).mono ?_); rintro e w13 ⟨rfl, hb⟩; refine ⟨_, rfl, ?_⟩; have n0_ := Aside0.mk (Kd.R_below (by (with_reducible repeat (first | apply rA|apply rN|apply rD)); exact HO_8.out) hb); have n1_ := Aside0.mk (below_step (by repeat (first | (with_reducible first | exact HB.out | apply bA|apply bN|apply bD) | exact HB.out)) hb); clear HO_8; clear HB; have HO_8 := n0_; have HB := n1_; clear n0_ n1_; (try clear hb); (try clear hb2); (try clear hk); (try clear hi)) | ((with_reducible refine gate_dst (N := 6) rfl ?_); refine box_event ?hg (N := 6) ?hd (cs := #[.string (⟨#[]⟩ : ByteArray), .string (⟨#[]⟩ : ByteArray), .int .u8 0, .int .i64 0, .bool false]) (t := 42) ?hr ?_; (case hd => rfl); (case hg => rfl); (case hr => first | (go_simp; done) | (go_simp; rfl)); intro gb950 hg w14 hbox hb; have n0_ := Aside0.mk (Kd.R_below (by (with_reducible repeat (first | apply rA|apply rN|apply rD)); exact HO_8.out) hb); have n1_ := Aside0.mk (below_step (by repeat (first | (with_reducible first | exact HB.out | apply bA|apply bN|apply bD) | exact HB.out)) hb); have n2_ := Aside0.mk (hbox); have n3_ := Aside0.mk ((by rw [hg]; exact (below_size (by repeat (first | (with_reducible first | exact HB.out | apply bA|apply bN|apply bD) | exact HB.out))) : w.heap.size ≤ gb950)); have n4_ := Aside0.mk ((by rw [hg]; exact (below_size (by repeat (first | (with_reducible first | exact HB.out | apply bA|apply bN|apply bD) | exact HB.out))) : w.heap.size ≤ gb950)); clear HO_8; clear HB; have HO_8 := n0_; have HB := n1_; have BK950 := n2_; have GW950 := n3_; have GE950 := n4_; clear n0_ n1_ n2_ n3_ n4_; clear hb hbox hg; have hcz15_0 : w14.cell? ⟨gb950, 0, none⟩ = some (.string (⟨#[]⟩ : ByteArray)) := (blk_cell BK950.out 0).trans rfl; have hcz15_1 : w14.cell? ⟨gb950, 1, none⟩ = some (.string (⟨#[]⟩ : ByteArray)) := (blk_cell BK950.out 1).trans rfl; have hcz15_2 : w14.cell? ⟨gb950, 2, none⟩ = some (.int .u8 0) := (blk_cell BK950.out 2).trans rfl; have hcz15_3 : w14.cell? ⟨gb950, 3, none⟩ = some (.int .i64 0) := (blk_cell BK950.out 3).trans rfl; have hcz15_4 : w14.cell? ⟨gb950, 4, none⟩ = some (.bool false) := (blk_cell BK950.out 4).trans rfl; have hfz15_0 := blk_frozen BK950.out 0; have hfz15_1 := blk_frozen BK950.out 1; have hfz15_2 := blk_frozen BK950.out 2; have hfz15_3 := blk_frozen BK950.out 3; have hfz15_4 := blk_frozen BK950.out 4))
       go_roundg k1
       case measure => have := HK1.out; omega
       case rel => exact ⟨(wrap64 (x10_1 + 1)), (by first | rfl | (simp; done) | (simp [*]; done)), H', ⟨by have := HK1.out; omega⟩, ⟨by (with_reducible repeat (first | apply rA|apply rN|apply rD)); exact Kd.R_mono (Kd.R_far (p := ⟨gb950, 4, none⟩) (Kd.R_far (p := ⟨gb950, 3, none⟩) (Kd.R_far (p := ⟨gb950, 2, none⟩) (Kd.R_far (p := ⟨gb950, 1, none⟩) (Kd.R_far (p := ⟨gb950, 0, none⟩) (Kd.R_types HO_8.out BK950.out (by decide)) (fun _ hk => hk.2) (.string t944)) (fun _ hk => hk.2) (.string t945)) (fun _ hk => hk.2) (.int .u8 t946)) (fun _ hk => hk.2) (.int .i64 t947)) (fun _ hk => hk.2) (.bool t948)) (fun _ hk => trivial)⟩, ⟨by repeat (first | (with_reducible first | exact HB.out | apply bA|apply bN|apply bD | refine below_set ?_ GE950.out) | exact HB.out)⟩⟩
     ·rw [if_neg c7] at H
      exact absurd H (by simp)
    ·rw [if_neg c6] at H
     exact absurd H (by simp)
   ·rw [if_neg c5] at H
    have c5b0 : decide (x10_1 < (t940.length : Int)) = false := decide_eq_false c5
    clear c5
    simp only [Option.some.injEq, Prod.mk.injEq] at H
    obtain ⟨rfl, rfl⟩ := H
    go_wp2
    go_ret2
    exact ⟨by first | rfl | (simp [errW_none, errW_some] <;> rfl) | (simp [*, errW_none, errW_some] <;> rfl), by repeat (first | (with_reducible first | exact HB.out | apply bA|apply bN|apply bD) | exact HB.out)⟩

/-! ### jacquardref10_Table: function 25 -/
mutual
def jacquardref10_Table.l0 : Nat → List (S27) → List (List (S52)) → Int → Option ((List (S27)))
 | 0, _, _, _ => none
 | k + 1, x1, x2, x3 => if x3 < (x2.length : Int) then (jacquardref10_Table.l1 k x1 x2 x3 0) else (some x1)
def jacquardref10_Table.l1 : Nat → List (S27) → List (List (S52)) → Int → Int → Option ((List (S27)))
 | 0, _, _, _, _ => none
 | k + 1, x1, x2, x3, x4 => if 0 ≤ x3 then (if x3 < (x2.length : Int) then (if x4 < ((rd_L10 x2 x3).length : Int) then (if 0 ≤ x4 then ((jacquardref10_words.f k ((rd_T52 (rd_L10 x2 x3) x4).f2)).bind fun t957 => (jacquardref10_Table.l2 k x1 x2 x3 x4 t957 0)) else (none)) else (jacquardref10_Table.l0 k x1 x2 (wrap64 (x3 + 1)))) else (none)) else (none)
def jacquardref10_Table.l2 : Nat → List (S27) → List (List (S52)) → Int → Int → List ByteArray → Int → Option ((List (S27)))
 | 0, _, _, _, _, _, _ => none
 | k + 1, x1, x2, x3, x4, x5, x6 => if x6 < (x5.length : Int) then (if 0 ≤ x3 then (if x3 < (x2.length : Int) then (if 0 ≤ x4 then (if x4 < ((rd_L10 x2 x3).length : Int) then (if 0 ≤ x6 then ((jacquardref10_info.f k ((rd_T52 (rd_L10 x2 x3) x4).f0) ((rd_T52 (rd_L10 x2 x3) x4).f1) ((rd_T52 (rd_L10 x2 x3) x4).f2) ((rd_T52 (rd_L10 x2 x3) x4).f3) ((rd_T52 (rd_L10 x2 x3) x4).f4) ((rd_T52 (rd_L10 x2 x3) x4).f5) ((rd_T52 (rd_L10 x2 x3) x4).f6) (rdOf ByteArray.empty x5 x6) x6).bind fun bt963 => (if x1.length < 1466015503701 then (jacquardref10_Table.l2 k (x1 ++ [(⟨bt963.1, bt963.2.1, bt963.2.2.1, bt963.2.2.2.1, bt963.2.2.2.2.1, bt963.2.2.2.2.2.1, bt963.2.2.2.2.2.2⟩ : S27)]) x2 x3 x4 x5 (wrap64 (x6 + 1))) else (none))) else (none)) else (none)) else (none)) else (none)) else (none)) else (jacquardref10_Table.l1 k x1 x2 x3 (wrap64 (x4 + 1)))
end
def jacquardref10_Table.f (k : Nat)  : Option ((List (S27))) := (jacquardref10_families.f).bind fun t951 => (jacquardref10_Table.l0 k ([] : List (S27)) t951 0)
theorem jacquardref10_Table.mono_l : ∀ k, (∀ y0 y1 y2, LeO (jacquardref10_Table.l0 k y0 y1 y2) (jacquardref10_Table.l0 (k + 1) y0 y1 y2)) ∧ (∀ y0 y1 y2 y3, LeO (jacquardref10_Table.l1 k y0 y1 y2 y3) (jacquardref10_Table.l1 (k + 1) y0 y1 y2 y3)) ∧ (∀ y0 y1 y2 y3 y4 y5, LeO (jacquardref10_Table.l2 k y0 y1 y2 y3 y4 y5) (jacquardref10_Table.l2 (k + 1) y0 y1 y2 y3 y4 y5))
 | 0 => ⟨fun _ _ _ r h => by simp [jacquardref10_Table.l0] at h, fun _ _ _ _ r h => by simp [jacquardref10_Table.l1] at h, fun _ _ _ _ _ _ r h => by simp [jacquardref10_Table.l2] at h⟩
 | k + 1 => by
  obtain ⟨ih0, ih1, ih2⟩ := jacquardref10_Table.mono_l k
  refine ⟨?_, ?_, ?_⟩ <;> intros <;> (first | unfold jacquardref10_Table.l0 | unfold jacquardref10_Table.l1 | unfold jacquardref10_Table.l2) <;> (repeat' first | (with_reducible exact LeO.refl _) | (with_reducible exact ih0 _ _ _) | (with_reducible exact ih1 _ _ _ _) | (with_reducible exact ih2 _ _ _ _ _ _) | (with_reducible exact LeO.none _) | (with_reducible refine LeO.ite ?_ ?_) | (with_reducible refine LeO.bind ?_ (fun _ => ?_)) | exact jacquardref10_info.mono _ _ _ _ _ _ _ _ _ _ | exact jacquardref10_words.mono _ _ | exact ih0 _ _ _ | exact ih1 _ _ _ _ | exact ih2 _ _ _ _ _ _ | exact LeO.none _ | refine LeO.ite ?_ ?_ | refine LeO.bind ?_ (fun _ => ?_))
theorem jacquardref10_Table.mono : ∀ k, LeO (jacquardref10_Table.f k ) (jacquardref10_Table.f (k + 1) ) := by
 intro  k
 obtain ⟨ih0, ih1, ih2⟩ := jacquardref10_Table.mono_l k
 unfold jacquardref10_Table.f
 repeat' first
   | (with_reducible exact ih0 _ _ _)
   | (with_reducible exact ih1 _ _ _ _)
   | (with_reducible exact ih2 _ _ _ _ _ _)
   | (with_reducible exact jacquardref10_info.mono _ _ _ _ _ _ _ _ _ _)
   | (with_reducible exact jacquardref10_words.mono _ _)
   | (with_reducible exact LeO.refl _)
   | (with_reducible exact LeO.none _)
   | (with_reducible refine LeO.ite ?_ ?_)
   | (with_reducible refine LeO.bind ?_ (fun _ => ?_))
   | exact ih0 _ _ _
   | exact ih1 _ _ _ _
   | exact ih2 _ _ _ _ _ _
   | exact jacquardref10_info.mono _ _ _ _ _ _ _ _ _ _
   | exact jacquardref10_words.mono _ _
   | exact LeO.none _
   | refine LeO.ite ?_ ?_
   | refine LeO.bind ?_ (fun _ => ?_)
def jacquardref10_Table.T13 : Bool × List (List Nat × List Nat) := (true, [([], []), ([], []), ([], []), ([1, 2], [1, 2]), ([3], [3]), ([], []), ([4, 5], [4, 5]), ([6], [6]), ([], []), ([], []), ([8, 9], [8, 9]), ([10], [10]), ([], []), ([7, 11, 12], [7, 11, 12]), ([13], [13]), ([0, 14, 13], [0, 14]), ([15, 15, 0, 1, 2, 3, 4, 5, 6, 7, 8, 9, 10, 11, 12, 13, 14, 15], [0, 15])])
def jacquardref10_Table.B13 : List Nat := [0, 0, 0, 6, 14, 0, 62, 126, 0, 0, 768, 1792, 0, 8190, 16382, 32767, 65535]
theorem jacquardref10_Table.tab13 : rtab .any (opsOf Tryd.f25 13) = jacquardref10_Table.T13 := by kernel_rfl
theorem jacquardref10_Table.bits13 : waitsOk jacquardref10_Table.T13.2 jacquardref10_Table.B13 = true := by kernel_rfl
set_option maxHeartbeats 8000000 in
set_option maxRecDepth 100000 in
theorem jacquardref10_Table.calls (k : Nat)  (r : List (S27)) (w : World) (h : jacquardref10_Table.f k  = some r) :
  Calls Tryd.prog 25 #[] w fun e w' => ∃ v0_ : Value, e = .returned (v0_) ∧ Kd.N k27 27 w' w.heap.size (fun k_ => (w.heap.size ≤ k_)) v0_ r ∧ Below w.heap.size w w' := by
 have hu52 := Tryd.underlying52
 have HB := Aside0.mk (Below.refl w.heap.size w)
 have H : ((jacquardref10_families.f).bind fun t951 => (jacquardref10_Table.l0 k ([] : List (S27)) t951 0)) = some r := h
 clear h
 replace H := Option.bind_eq_some_iff.mp H
 obtain ⟨t951, A10, H⟩ := H
 replace H : (jacquardref10_Table.l0 k ([] : List (S27)) t951 0) = some r := H
 have A1 := Aside0.mk A10
 clear A10
 have H' := Aside0.mk H
 clear H
 go_enter Tryd.func25, Tryd.ntmps25
 go_wp2_with (first | ((with_reducible refine gate_callee (f := 21) rfl ?_); refine goesL_ (some 7) rfl rfl Tryd.func21 (by kernel_rfl) rfl #[] rfl (by (try simp only [List.map_toArray, List.map_cons, List.map_nil]); first | done | rfl | (simp only [List.length_drop, List.length_take]; rfl)) ?_; (with_reducible refine (jacquardref10_families.calls  t951 _ A1.out).mono ?_); rintro e w2 ⟨v952, rfl, ho0, hb⟩; refine ⟨_, rfl, ?_⟩; have n0_ := Aside0.mk (Kd.N_lower (Kd.N_mono (ok' := fun k_ => (w.heap.size ≤ k_)) ho0 (fun k_ hk_ => (Nat.le_trans (below_size (by repeat (first | (with_reducible first | exact HB.out | apply bA|apply bN|apply bD) | exact HB.out))) hk_))) (below_size (by repeat (first | (with_reducible first | exact HB.out | apply bA|apply bN|apply bD) | exact HB.out)))); have n1_ := Aside0.mk (below_step (by repeat (first | (with_reducible first | exact HB.out | apply bA|apply bN|apply bD) | exact HB.out)) hb); clear HB; have HO953 := n0_; have HB := n1_; clear n0_ n1_; (try clear hb); (try clear hb2); (try clear hk); (try clear hi); (try clear ho0)))
 go_loopg [1, 3] k (fun kq v1 v3 w' => ∃ (x1_1 : List (S27)) (x3_1 : Int), v3 = .int .i64 x3_1 ∧ Aside0 (jacquardref10_Table.l0 kq x1_1 t951 x3_1 = some r) ∧ Aside0 (kq ≤ k) ∧ Aside0 (Kd.N k27 27 w' w.heap.size (fun k_ => (w.heap.size ≤ k_) ∧ some k_ ≠ (v952 : Value).ownBlock) v1 x1_1) ∧ Aside0 (Kd.N (Kd.slice 52 k52) 50 w' w.heap.size (fun k_ => (w.heap.size ≤ k_) ∧ some k_ ≠ (v1 : Value).ownBlock) v952 t951) ∧ Aside0 (Below w.heap.size w w'))
 case atStart => exact ⟨(([] : List (S27))), (0), (by first | rfl | (simp; done) | (simp [*]; done)), H', ⟨Nat.le_refl _⟩, ⟨by first | exact Kd.S_nil _ _ _ _ _ | exact Kd.N_nil _ _ _ _ _ | exact Kd.V_nil _ _ _ _ _ | exact Kd.Q_nil _ _ _ _ _ | exact Kd.R_nil _ _ _ _ _⟩, ⟨by (with_reducible repeat (first | apply Kd.N_alloc | apply Kd.N_drewN | apply Kd.N_drew)); exact Kd.N_mono HO953.out (fun _ hk => ⟨hk, (by simp [Value.ownBlock])⟩)⟩, ⟨by repeat (first | (with_reducible first | exact HB.out | apply bA|apply bN|apply bD) | exact HB.out)⟩⟩
 case round =>
  clear H'
  try clear c2
  try clear p2
  obtain ⟨x1_1, x3_1, rfl, HA, HK1, HO_1, HO_2, HB⟩ := hrel
  cases gk with
  | zero => exact absurd HA.out (by simp [jacquardref10_Table.l0])
  | succ k1 =>
   have H := HA.out
   clear HA
   simp only [jacquardref10_Table.l0] at H
   by_cases c3 : x3_1 < (t951.length : Int)
   ·rw [if_pos c3] at H
    have c3b0 : decide (x3_1 < (t951.length : Int)) = true := decide_eq_true c3
    clear c3
    have H' := Aside0.mk H
    clear H
    obtain ⟨Ao4, co4, eo4⟩ := Kd.N_slice HO_2.out
    subst eo4
    go_wp2
    go_loopg [1, 4] k1 (fun kq v1 v4 w' => ∃ (x1_2 : List (S27)) (x4_2 : Int), v4 = .int .i64 x4_2 ∧ Aside0 (jacquardref10_Table.l1 kq x1_2 t951 x3_1 x4_2 = some r) ∧ Aside0 (kq ≤ k1) ∧ Aside0 (Kd.N k27 27 w' w.heap.size (fun k_ => (w.heap.size ≤ k_) ∧ some k_ ≠ ((.slice Ao4 t951.length co4) : Value).ownBlock) v1 x1_2) ∧ Aside0 (Kd.N (Kd.slice 52 k52) 50 w' w.heap.size (fun k_ => (w.heap.size ≤ k_) ∧ some k_ ≠ (v1 : Value).ownBlock) (.slice Ao4 t951.length co4) t951) ∧ Aside0 (Below w.heap.size w w'))
    case atStart => exact ⟨(x1_1), (0), (by first | rfl | (simp; done) | (simp [*]; done)), H', ⟨Nat.le_refl _⟩, ⟨by (with_reducible repeat (first | apply Kd.N_alloc | apply Kd.N_drewN | apply Kd.N_drew)); exact HO_1.out⟩, ⟨by (with_reducible repeat (first | apply Kd.N_alloc | apply Kd.N_drewN | apply Kd.N_drew)); exact HO_2.out⟩, ⟨by repeat (first | (with_reducible first | exact HB.out | apply bA|apply bN|apply bD) | exact HB.out)⟩⟩
    case round =>
     clear H'
     try clear c2
     try clear p2
     try clear c3
     try clear c3b0
     try clear p2
     obtain ⟨x1_2, x4_2, rfl, HA, HK2, HO_1, HO_2, HB⟩ := hrel
     cases gk with
     | zero => exact absurd HA.out (by simp [jacquardref10_Table.l1])
     | succ k2 =>
      have H := HA.out
      clear HA
      simp only [jacquardref10_Table.l1] at H
      by_cases c5 : 0 ≤ x3_1
      ·rw [if_pos c5] at H
       have c5b0 : decide (0 ≤ x3_1) = true := decide_eq_true c5
       clear c5
       by_cases c6 : x3_1 < (t951.length : Int)
       ·rw [if_pos c6] at H
        have c6b0 : decide (x3_1 < (t951.length : Int)) = true := decide_eq_true c6
        clear c6
        by_cases c7 : x4_2 < ((rd_L10 t951 x3_1).length : Int)
        ·rw [if_pos c7] at H
         have c7b0 : decide (x4_2 < ((rd_L10 t951 x3_1).length : Int)) = true := decide_eq_true c7
         clear c7
         by_cases c8 : 0 ≤ x4_2
         ·rw [if_pos c8] at H
          have c8b0 : decide (0 ≤ x4_2) = true := decide_eq_true c8
          clear c8
          replace H := Option.bind_eq_some_iff.mp H
          obtain ⟨t957, A90, H⟩ := H
          replace H : (jacquardref10_Table.l2 k2 x1_2 t951 x3_1 x4_2 t957 0) = some r := H
          have A9 := Aside0.mk A90
          clear A90
          have H' := Aside0.mk H
          clear H
          have p954 : 0 ≤ (x3_1 : Int) := of_decide_eq_true (by first | (with_reducible assumption) | assumption)
          have q954 : x3_1 < (t951.length : Int) := of_decide_eq_true (by first | (with_reducible assumption) | assumption)
          obtain ⟨ad954, A954_0, c954_0, e954, hx954_0, hl954_0, hi954_0⟩ := at_L10 (Kd.N_reads' HO_2.out).2.2 x3_1 p954 q954
          cases e954
          obtain ⟨ce954, hce954, hMe954, hcc954⟩ := Kd.N_get HO_2.out [] x3_1 p954 (by first | exact q954 | exact of_decide_eq_true (by first | (with_reducible assumption) | assumption) | (have e_ := (Kd.N_reads' HO_2.out).1; omega))
          obtain ⟨ua954_0, uc954_0, rfl, ul954_0, ge954_0⟩ := Kd.FK_slice_open hMe954
          have hv954_0 := hcc954 0 _ rfl
          rw [Nat.add_zero, show ((Kd.slice 52 k52)).sz = 1 from rfl, Nat.mul_one] at hv954_0
          replace hv954_0 := Option.some.inj (hv954_0.symm.trans hx954_0)
          injection hv954_0 with hva_ hvn_ hvc_
          rw [hva_] at ge954_0
          rw [hvc_] at ul954_0
          have HL954_0 := Aside0.mk (show Kd.V k52 52 _ w.heap.size _ _ (rd_L10 t951 x3_1) from Kd.V_mk ul954_0 ge954_0)
          clear hva_ hvn_ hvc_ ge954_0 ul954_0
          clear hcc954 hce954
          have HR954_0 := Aside0.mk hi954_0
          have HC954_0 := Aside0.mk hl954_0
          clear hi954_0 hl954_0
          replace p954 := eq_true p954
          replace q954 := eq_true q954
          have p955 : 0 ≤ (x3_1 : Int) := of_decide_eq_true (by first | (with_reducible assumption) | assumption)
          have q955 : x3_1 < (t951.length : Int) := of_decide_eq_true (by first | (with_reducible assumption) | assumption)
          obtain ⟨ad955, A955_0, c955_0, e955, hx955_0, hl955_0, hi955_0⟩ := at_L10 (Kd.N_reads' HO_2.out).2.2 x3_1 p955 q955
          obtain rfl : ad954 = ad955 := (by injection e955)
          obtain ⟨ce955, hce955, hMe955, hcc955⟩ := Kd.N_get HO_2.out [] x3_1 p955 (by first | exact q955 | exact of_decide_eq_true (by first | (with_reducible assumption) | assumption) | (have e_ := (Kd.N_reads' HO_2.out).1; omega))
          obtain ⟨ua955_0, uc955_0, rfl, ul955_0, ge955_0⟩ := Kd.FK_slice_open hMe955
          have hv955_0 := hcc955 0 _ rfl
          rw [Nat.add_zero, show ((Kd.slice 52 k52)).sz = 1 from rfl, Nat.mul_one] at hv955_0
          replace hv955_0 := Option.some.inj (hv955_0.symm.trans hx955_0)
          injection hv955_0 with hva_ hvn_ hvc_
          rw [hva_] at ge955_0
          rw [hvc_] at ul955_0
          have HL955_0 := Aside0.mk (show Kd.V k52 52 _ w.heap.size _ _ (rd_L10 t951 x3_1) from Kd.V_mk ul955_0 ge955_0)
          clear hva_ hvn_ hvc_ ge955_0 ul955_0
          clear hcc955 hce955
          have HR955_0 := Aside0.mk hi955_0
          have HC955_0 := Aside0.mk hl955_0
          clear hi955_0 hl955_0
          replace p955 := eq_true p955
          replace q955 := eq_true q955
          have ea_ := Option.some.inj (hx954_0.symm.trans hx955_0)
          injection ea_ with ea_ en_ ec_
          subst ea_
          subst ec_
          clear en_
          have p956 : 0 ≤ (x4_2 : Int) := of_decide_eq_true (by first | (with_reducible assumption) | assumption)
          have q956 : x4_2 < ((rd_L10 t951 x3_1).length : Int) := of_decide_eq_true (by first | (with_reducible assumption) | assumption)
          obtain ⟨ad956, e956, hx956_0, hx956_1, hx956_2, hx956_3, hx956_4, hx956_5, hx956_6⟩ := at_T52 (by repeat (first | (with_reducible exact HR955_0.out) | (with_reducible refine Kd.C_alloc ?_ _) | (with_reducible refine Kd.C_drewN ?_ _) | (with_reducible refine Kd.C_drew ?_) | exact HR955_0.out)) x4_2 p956 q956
          cases e956
          replace p956 := eq_true p956
          replace q956 := eq_true q956
          go_wp2_with (first | ((with_reducible refine gate_callee (f := 22) rfl ?_); refine goesL_ (some 31) rfl rfl Tryd.func22 (by kernel_rfl) rfl #[.string ((rd_T52 (rd_L10 t951 x3_1) x4_2).f2)] rfl (by (try simp only [List.map_toArray, List.map_cons, List.map_nil]); first | done | rfl | (simp only [List.length_drop, List.length_take]; rfl)) ?_; (with_reducible refine (jacquardref10_words.calls k2 ((rd_T52 (rd_L10 t951 x3_1) x4_2).f2) t957 _ A9.out).mono ?_); rintro e w10 ⟨v958, rfl, ho0, hb⟩; refine ⟨_, rfl, ?_⟩; have n0_ := Aside0.mk (Kd.N_elder' (by (with_reducible repeat (first | apply Kd.N_alloc | apply Kd.N_drewN | apply Kd.N_drew)); exact HO_1.out) (Kd.R_base ho0) hb); have n1_ := Aside0.mk (Kd.N_elder' (by (with_reducible repeat (first | apply Kd.N_alloc | apply Kd.N_drewN | apply Kd.N_drew)); exact HO_2.out) (Kd.R_base ho0) hb); have n2_ := Aside0.mk (Kd.V_elder' (by (with_reducible repeat (first | apply Kd.V_alloc | apply Kd.V_drewN | apply Kd.V_drew)); exact HL954_0.out) (Kd.R_base ho0) hb); have n3_ := Aside0.mk (Kd.V_elder' (by (with_reducible repeat (first | apply Kd.V_alloc | apply Kd.V_drewN | apply Kd.V_drew)); exact HL955_0.out) (Kd.R_base ho0) hb); have n4_ := Aside0.mk (Kd.R_lower (Kd.R_newM (M := fun k_ => (w.heap.size ≤ k_)) ho0 (below_size (by repeat (first | (with_reducible first | exact HB.out | apply bA|apply bN|apply bD) | exact HB.out))) (fun k_ h_ => h_)) (below_size (by repeat (first | (with_reducible first | exact HB.out | apply bA|apply bN|apply bD) | exact HB.out)))); have n5_ := Aside0.mk (Kd.C_below (by repeat (first | (with_reducible exact HR954_0.out) | (with_reducible refine Kd.C_alloc ?_ _) | (with_reducible refine Kd.C_drewN ?_ _) | (with_reducible refine Kd.C_drew ?_) | exact HR954_0.out)) hb); have n6_ := Aside0.mk (Kd.C_below (by repeat (first | (with_reducible exact HR955_0.out) | (with_reducible refine Kd.C_alloc ?_ _) | (with_reducible refine Kd.C_drewN ?_ _) | (with_reducible refine Kd.C_drew ?_) | exact HR955_0.out)) hb); have n7_ := Aside0.mk (below_step (by repeat (first | (with_reducible first | exact HB.out | apply bA|apply bN|apply bD) | exact HB.out)) hb); clear HO_1; clear HO_2; clear HL954_0; clear HL955_0; clear HR954_0; clear HR955_0; clear HB; have HO_1 := n0_; have HO_2 := n1_; have HL954_0 := n2_; have HL955_0 := n3_; have HO959 := n4_; have HR954_0 := n5_; have HR955_0 := n6_; have HB := n7_; clear n0_ n1_ n2_ n3_ n4_ n5_ n6_ n7_; (try clear hb); (try clear hb2); (try clear hk); (try clear hi); (try clear ho0)))
          go_loopg [1, 6] k2 (fun kq v1 v6 w' => ∃ (x1_3 : List (S27)) (x6_3 : Int), v6 = .int .i64 x6_3 ∧ Aside0 (jacquardref10_Table.l2 kq x1_3 t951 x3_1 x4_2 t957 x6_3 = some r) ∧ Aside0 (kq ≤ k2) ∧ Aside0 (Kd.N k27 27 w' w.heap.size (fun k_ => (w.heap.size ≤ k_) ∧ some k_ ≠ ((.slice (some ad954) t951.length co4) : Value).ownBlock ∧ some k_ ≠ (v958 : Value).ownBlock) v1 x1_3) ∧ Aside0 (Kd.N (Kd.slice 52 k52) 50 w' w.heap.size (fun k_ => (w.heap.size ≤ k_) ∧ some k_ ≠ (v1 : Value).ownBlock ∧ some k_ ≠ (v958 : Value).ownBlock) (.slice (some ad954) t951.length co4) t951) ∧ Aside0 (Kd.R Kd.string 9 w' w.heap.size (fun k_ => (w.heap.size ≤ k_)) v958 t957) ∧ Aside0 (Below w.heap.size w w'))
          case atStart => exact ⟨(x1_2), (0), (by first | rfl | (simp; done) | (simp [*]; done)), H', ⟨Nat.le_refl _⟩, ⟨by (with_reducible repeat (first | apply Kd.N_alloc | apply Kd.N_drewN | apply Kd.N_drew)); exact Kd.N_mono HO_1.out (fun _ hk => ⟨hk.1.1, ⟨hk.1.2, hk.2⟩⟩)⟩, ⟨by (with_reducible repeat (first | apply Kd.N_alloc | apply Kd.N_drewN | apply Kd.N_drew)); exact Kd.N_mono HO_2.out (fun _ hk => ⟨hk.1.1, ⟨hk.1.2, hk.2⟩⟩)⟩, ⟨by (with_reducible repeat (first | apply rA|apply rN|apply rD)); exact Kd.R_mono HO959.out (fun _ hk => hk.1)⟩, ⟨by repeat (first | (with_reducible first | exact HB.out | apply bA|apply bN|apply bD) | exact HB.out)⟩⟩
          case round =>
           clear H'
           try clear c2
           try clear p2
           try clear c3
           try clear c3b0
           try clear c5
           try clear c5b0
           try clear c6
           try clear c6b0
           try clear c7
           try clear c7b0
           try clear c8
           try clear c8b0
           try clear c9
           try clear p9
           try clear q9
           try clear hx9
           try clear hx954_0
           try clear hx955_0
           try clear hx956_0
           try clear hx956_1
           try clear hx956_2
           try clear hx956_3
           try clear hx956_4
           try clear hx956_5
           try clear hx956_6
           try clear p2
           try clear p954
           try clear p955
           try clear p956
           try clear q954
           try clear q955
           try clear q956
           obtain ⟨x1_3, x6_3, rfl, HA, HK3, HO_1, HO_2, HO_5, HB⟩ := hrel
           cases gk with
           | zero => exact absurd HA.out (by simp [jacquardref10_Table.l2])
           | succ k3 =>
            have H := HA.out
            clear HA
            simp only [jacquardref10_Table.l2] at H
            by_cases c11 : x6_3 < (t957.length : Int)
            ·rw [if_pos c11] at H
             have c11b0 : decide (x6_3 < (t957.length : Int)) = true := decide_eq_true c11
             clear c11
             by_cases c12 : 0 ≤ x3_1
             ·rw [if_pos c12] at H
              have c12b0 : decide (0 ≤ x3_1) = true := decide_eq_true c12
              clear c12
              by_cases c13 : x3_1 < (t951.length : Int)
              ·rw [if_pos c13] at H
               have c13b0 : decide (x3_1 < (t951.length : Int)) = true := decide_eq_true c13
               clear c13
               by_cases c14 : 0 ≤ x4_2
               ·rw [if_pos c14] at H
                have c14b0 : decide (0 ≤ x4_2) = true := decide_eq_true c14
                clear c14
                by_cases c15 : x4_2 < ((rd_L10 t951 x3_1).length : Int)
                ·rw [if_pos c15] at H
                 have c15b0 : decide (x4_2 < ((rd_L10 t951 x3_1).length : Int)) = true := decide_eq_true c15
                 clear c15
                 by_cases c16 : 0 ≤ x6_3
                 ·rw [if_pos c16] at H
                  have c16b0 : decide (0 ≤ x6_3) = true := decide_eq_true c16
                  clear c16
                  replace H := Option.bind_eq_some_iff.mp H
                  obtain ⟨⟨t963, t964, t965, t966, t969, t972, t973⟩, A170, H⟩ := H
                  replace H : (if x1_3.length < 1466015503701 then (jacquardref10_Table.l2 k3 (x1_3 ++ [(⟨t963, t964, t965, t966, t969, t972, t973⟩ : S27)]) t951 x3_1 x4_2 t957 (wrap64 (x6_3 + 1))) else (none)) = some r := H
                  have A17 := Aside0.mk A170
                  clear A170
                  by_cases c18 : x1_3.length < 1466015503701
                  ·rw [if_pos c18] at H
                   have LMc18 := Aside0.mk c18
                   clear c18
                   obtain ⟨y974, hy974⟩ : ∃ y_ : List (S27), y_ = (x1_3 ++ [(⟨t963, t964, t965, t966, t969, t972, t973⟩ : S27)]) := ⟨_, rfl⟩
                   replace H : (jacquardref10_Table.l2 k3 y974 t951 x3_1 x4_2 t957 (wrap64 (x6_3 + 1))) = some r := by first | (rw [hy974]; with_reducible exact H) | (have H2_ := (Option.bind_some _ _).symm.trans H; rw [hy974]; with_reducible exact H2_) | (have H2_ := (Option.bind_some _ _).symm.trans H; with_reducible exact H2_) | with_reducible exact H | (rw [hy974]; exact H) | exact H
                   have Ny974 := Aside0.mk hy974
                   clear hy974
                   have H' := Aside0.mk H
                   clear H
                   obtain ⟨Ao19, co19, eo19⟩ := Kd.R_slice HO_5.out
                   subst eo19
                   try go_wp2
                   have n0_ := Aside0.mk (Kd.N_drew HO_1.out)
                   have n1_ := Aside0.mk (Kd.N_drew HO_2.out)
                   have n2_ := Aside0.mk (Kd.R_drew HO_5.out)
                   have n3_ := Aside0.mk (below_drew1 HB.out)
                   clear HO_1
                   clear HO_2
                   clear HO_5
                   clear HB
                   have HO_1 := n0_
                   have HO_2 := n1_
                   have HO_5 := n2_
                   have HB := n3_
                   clear n0_ n1_ n2_ n3_
                   have p960 : 0 ≤ (x3_1 : Int) := of_decide_eq_true (by first | (with_reducible assumption) | assumption)
                   have q960 : x3_1 < (t951.length : Int) := of_decide_eq_true (by first | (with_reducible assumption) | assumption)
                   obtain ⟨ad960, A960_0, c960_0, e960, hx960_0, hl960_0, hi960_0⟩ := at_L10 (Kd.N_reads' HO_2.out).2.2 x3_1 p960 q960
                   obtain rfl : ad954 = ad960 := (by injection e960)
                   obtain ⟨ce960, hce960, hMe960, hcc960⟩ := Kd.N_get HO_2.out [] x3_1 p960 (by first | exact q960 | exact of_decide_eq_true (by first | (with_reducible assumption) | assumption) | (have e_ := (Kd.N_reads' HO_2.out).1; omega))
                   obtain ⟨ua960_0, uc960_0, rfl, ul960_0, ge960_0⟩ := Kd.FK_slice_open hMe960
                   have hv960_0 := hcc960 0 _ rfl
                   rw [Nat.add_zero, show ((Kd.slice 52 k52)).sz = 1 from rfl, Nat.mul_one] at hv960_0
                   replace hv960_0 := Option.some.inj (hv960_0.symm.trans hx960_0)
                   injection hv960_0 with hva_ hvn_ hvc_
                   rw [hva_] at ge960_0
                   rw [hvc_] at ul960_0
                   have HL960_0 := Aside0.mk (show Kd.V k52 52 _ w.heap.size _ _ (rd_L10 t951 x3_1) from Kd.V_mk ul960_0 ge960_0)
                   clear hva_ hvn_ hvc_ ge960_0 ul960_0
                   clear hcc960 hce960
                   have HR960_0 := Aside0.mk hi960_0
                   have HC960_0 := Aside0.mk hl960_0
                   clear hi960_0 hl960_0
                   replace p960 := eq_true p960
                   replace q960 := eq_true q960
                   have p961 : 0 ≤ (x4_2 : Int) := of_decide_eq_true (by first | (with_reducible assumption) | assumption)
                   have q961 : x4_2 < ((rd_L10 t951 x3_1).length : Int) := of_decide_eq_true (by first | (with_reducible assumption) | assumption)
                   obtain ⟨ad961, e961, hx961_0, hx961_1, hx961_2, hx961_3, hx961_4, hx961_5, hx961_6⟩ := at_T52 (by repeat (first | (with_reducible exact HR960_0.out) | (with_reducible refine Kd.C_alloc ?_ _) | (with_reducible refine Kd.C_drewN ?_ _) | (with_reducible refine Kd.C_drew ?_) | exact HR960_0.out)) x4_2 p961 q961
                   cases e961
                   replace p961 := eq_true p961
                   replace q961 := eq_true q961
                   have p962 : 0 ≤ (x6_3 : Int) := of_decide_eq_true (by first | (with_reducible assumption) | assumption)
                   have q962 : x6_3 < (t957.length : Int) := of_decide_eq_true (by first | (with_reducible assumption) | assumption)
                   obtain ⟨ad962, e962, hx962_0⟩ := Kd.at_string (Kd.R_reads' HO_5.out).2.2 x6_3 p962 q962
                   cases e962
                   replace p962 := eq_true p962
                   replace q962 := eq_true q962
                   refine start_ (n := 17) (S := fun w' => w'.cell? (ad954.add (x3_1).toNat) = some (.slice (some ad961) (rd_L10 t951 x3_1).length c960_0) ∧ w'.cell? (ad961.add ((x4_2).toNat * 7)) = some (.int .u16 ((rd_T52 (rd_L10 t951 x3_1) x4_2).f0)) ∧ w'.cell? ⟨(ad961.add ((x4_2).toNat * 7)).block, (ad961.add ((x4_2).toNat * 7)).off + 1, none⟩ = some (.string ((rd_T52 (rd_L10 t951 x3_1) x4_2).f1)) ∧ w'.cell? ⟨(ad961.add ((x4_2).toNat * 7)).block, (ad961.add ((x4_2).toNat * 7)).off + 2, none⟩ = some (.string ((rd_T52 (rd_L10 t951 x3_1) x4_2).f2)) ∧ w'.cell? ⟨(ad961.add ((x4_2).toNat * 7)).block, (ad961.add ((x4_2).toNat * 7)).off + 3, none⟩ = some (.string ((rd_T52 (rd_L10 t951 x3_1) x4_2).f3)) ∧ w'.cell? ⟨(ad961.add ((x4_2).toNat * 7)).block, (ad961.add ((x4_2).toNat * 7)).off + 4, none⟩ = some (.int .u8 ((rd_T52 (rd_L10 t951 x3_1) x4_2).f4)) ∧ w'.cell? ⟨(ad961.add ((x4_2).toNat * 7)).block, (ad961.add ((x4_2).toNat * 7)).off + 5, none⟩ = some (.string ((rd_T52 (rd_L10 t951 x3_1) x4_2).f5)) ∧ w'.cell? ⟨(ad961.add ((x4_2).toNat * 7)).block, (ad961.add ((x4_2).toNat * 7)).off + 6, none⟩ = some (.bool ((rd_T52 (rd_L10 t951 x3_1) x4_2).f6)) ∧ w'.cell? (ad962.add (x6_3).toNat) = some (.string (rdOf ByteArray.empty t957 x6_3))) (ds := [14, 15]) #[false,false,false,false,false,false,false,false,false,false,false,false,false,false,false,false,false] (by kernel_rfl) rfl rfl ⟨hx960_0, hx961_0, hx961_1, hx961_2, hx961_3, hx961_4, hx961_5, hx961_6, hx962_0⟩ (fun hHeld => ?_); refine with_tabW jacquardref10_Table.tab13 jacquardref10_Table.bits13 (fun HT_ HW_ => ?_)
                   generalize wr.drew = w20 at HO_1 HO_2 HO_5 HB HL960_0 HR960_0 hx960_0 hx961_0 hx961_1 hx961_2 hx961_3 hx961_4 hx961_5 hx961_6 hx962_0 hHeld ⊢
                   refine pure_ (i := 0) (N := some 38) (v := ?_) (a' := ?_) #[true,false,false,false,false,false,false,false,false,false,false,false,false,false,false,false,false] rfl rfl (any_of HT_.out (by kernel_rfl)) (fun _ _ _ h => h) (Or.inl ⟨by rfl, ?_⟩) ?_ ?_
                   rotate_left
                   ·intro w'
                    go_simp
                    with_reducible rfl
                   rotate_left
                   ·simp only [Act.put, List.setIfInBounds_toArray, List.set_cons_zero, List.set_cons_succ, i64_w, i32_w]
                    rfl
                   refine pure_ (i := 1) (N := some 39) (v := ?_) (a' := ?_) #[true,true,false,false,false,false,false,false,false,false,false,false,false,false,false,false,false] rfl rfl (any_of HT_.out (by kernel_rfl)) (fun _ _ _ h => h) (Or.inl ⟨by rfl, ?_⟩) ?_ ?_
                   rotate_left
                   ·intro w'
                    go_simp
                    with_reducible rfl
                   rotate_left
                   ·simp only [Act.put, List.setIfInBounds_toArray, List.set_cons_zero, List.set_cons_succ, i64_w, i32_w]
                    rfl
                   refine pure_ (i := 2) (N := some 40) (v := ?_) (a' := ?_) #[true,true,true,false,false,false,false,false,false,false,false,false,false,false,false,false,false] rfl rfl (any_of HT_.out (by kernel_rfl)) (fun _ _ _ h => h) (Or.inl ⟨by rfl, ?_⟩) ?_ ?_
                   rotate_left
                   ·intro w'
                    go_simp
                    with_reducible rfl
                   rotate_left
                   ·simp only [Act.put, List.setIfInBounds_toArray, List.set_cons_zero, List.set_cons_succ, i64_w, i32_w]
                    rfl
                   refine pure_ (i := 3) (N := some 41) (v := ?_) (a' := ?_) #[true,true,true,true,false,false,false,false,false,false,false,false,false,false,false,false,false] rfl rfl (any_of HT_.out (by kernel_rfl)) (fun _ _ _ h => h) (Or.inl ⟨by rfl, ?_⟩) ?_ ?_
                   rotate_left
                   ·intro w'
                    go_simp
                    with_reducible rfl
                   rotate_left
                   ·simp only [Act.put, List.setIfInBounds_toArray, List.set_cons_zero, List.set_cons_succ, i64_w, i32_w]
                    rfl
                   refine pure_ (i := 5) (N := some 43) (v := ?_) (a' := ?_) #[true,true,true,true,false,true,false,false,false,false,false,false,false,false,false,false,false] rfl rfl (any_of HT_.out (by kernel_rfl)) (fun _ _ _ h => h) (Or.inl ⟨by rfl, ?_⟩) ?_ ?_
                   rotate_left
                   ·intro w'
                    go_simp
                    with_reducible rfl
                   rotate_left
                   ·simp only [Act.put, List.setIfInBounds_toArray, List.set_cons_zero, List.set_cons_succ, i64_w, i32_w]
                    rfl
                   refine pure_ (i := 8) (N := some 46) (v := ?_) (a' := ?_) #[true,true,true,true,false,true,false,false,true,false,false,false,false,false,false,false,false] rfl rfl (any_of HT_.out (by kernel_rfl)) (fun _ _ _ h => h) (Or.inl ⟨by rfl, ?_⟩) ?_ ?_
                   rotate_left
                   ·intro w'
                    go_simp
                    with_reducible rfl
                   rotate_left
                   ·simp only [Act.put, List.setIfInBounds_toArray, List.set_cons_zero, List.set_cons_succ, i64_w, i32_w]
                    rfl
                   refine pure_ (i := 9) (N := some 47) (v := ?_) (a' := ?_) #[true,true,true,true,false,true,false,false,true,true,false,false,false,false,false,false,false] rfl rfl (any_of HT_.out (by kernel_rfl)) (fun _ _ _ h => h) (Or.inl ⟨by rfl, ?_⟩) ?_ ?_
                   rotate_left
                   ·intro w'
                    go_simp
                    with_reducible rfl
                   rotate_left
                   ·simp only [Act.put, List.setIfInBounds_toArray, List.set_cons_zero, List.set_cons_succ, i64_w, i32_w]
                    rfl
                   refine pure_ (i := 10) (N := some 48) (v := ?_) (a' := ?_) #[true,true,true,true,false,true,false,false,true,true,true,false,false,false,false,false,false] rfl rfl (any_of HT_.out (by kernel_rfl)) (fun _ _ _ h => h) (Or.inl ⟨by rfl, ?_⟩) ?_ ?_
                   rotate_left
                   ·intro w'
                    go_simp
                    with_reducible rfl
                   rotate_left
                   ·simp only [Act.put, List.setIfInBounds_toArray, List.set_cons_zero, List.set_cons_succ, i64_w, i32_w]
                    rfl
                   refine pure_ (i := 12) (N := some 50) (v := ?_) (a' := ?_) #[true,true,true,true,false,true,false,false,true,true,true,false,true,false,false,false,false] rfl rfl (any_of HT_.out (by kernel_rfl)) (fun _ _ _ h => h) (Or.inl ⟨by rfl, ?_⟩) ?_ ?_
                   rotate_left
                   ·intro w'
                    go_simp
                    with_reducible rfl
                   rotate_left
                   ·simp only [Act.put, List.setIfInBounds_toArray, List.set_cons_zero, List.set_cons_succ, i64_w, i32_w]
                    rfl
                   refine take_ (i := 4) (N := some 42) (v := ?_) (a' := ?_) #[true,true,true,true,true,true,false,false,true,true,true,false,true,false,false,false,false] rfl rfl (take_ofW HT_.out HW_.out (by kernel_rfl)) (fun _ _ _ h => h) (Or.inl ⟨by rfl, ?_⟩) hHeld ?_ ?_
                   rotate_left
                   ·rintro w' ⟨s0, s1, s2, s3, s4, s5, s6, s7, s8⟩
                    go_simp
                    with_reducible rfl
                   rotate_left
                   ·simp only [Act.put, List.setIfInBounds_toArray, List.set_cons_zero, List.set_cons_succ, i64_w, i32_w]
                    rfl
                   refine pure_ (i := 6) (N := some 44) (v := ?_) (a' := ?_) #[true,true,true,true,true,true,true,false,true,true,true,false,true,false,false,false,false] rfl rfl (any_of HT_.out (by kernel_rfl)) (fun _ _ _ h => h) (Or.inl ⟨by rfl, ?_⟩) ?_ ?_
                   rotate_left
                   ·intro w'
                    go_simp
                    with_reducible rfl
                   rotate_left
                   ·simp only [Act.put, List.setIfInBounds_toArray, List.set_cons_zero, List.set_cons_succ, i64_w, i32_w]
                    rfl
                   refine take_ (i := 7) (N := some 45) (v := ?_) (a' := ?_) #[true,true,true,true,true,true,true,true,true,true,true,false,true,false,false,false,false] rfl rfl (take_ofW HT_.out HW_.out (by kernel_rfl)) (fun _ _ _ h => h) (Or.inl ⟨by rfl, ?_⟩) hHeld ?_ ?_
                   rotate_left
                   ·rintro w' ⟨s0, s1, s2, s3, s4, s5, s6, s7, s8⟩
                    go_simp
                    with_reducible rfl
                   rotate_left
                   ·simp only [Act.put, List.setIfInBounds_toArray, List.set_cons_zero, List.set_cons_succ, i64_w, i32_w]
                    rfl
                   refine take_ (i := 11) (N := some 49) (v := ?_) (a' := ?_) #[true,true,true,true,true,true,true,true,true,true,true,true,true,false,false,false,false] rfl rfl (take_ofW HT_.out HW_.out (by kernel_rfl)) (fun _ _ _ h => h) (Or.inl ⟨by rfl, ?_⟩) hHeld ?_ ?_
                   rotate_left
                   ·rintro w' ⟨s0, s1, s2, s3, s4, s5, s6, s7, s8⟩
                    go_simp
                    with_reducible rfl
                   rotate_left
                   ·simp only [Act.put, List.setIfInBounds_toArray, List.set_cons_zero, List.set_cons_succ, i64_w, i32_w]
                    rfl
                   refine one_ (i := 13) (N := some 51) #[true,true,true,true,true,true,true,true,true,true,true,true,true,true,false,false,false] rfl rfl (one_of HT_.out (by kernel_rfl)) (by decide) (fun K hK => ?_)
                   refine goes_ Tryd.func23 (by kernel_rfl) rfl #[.agg #[.int .u16 ((rd_T52 (rd_L10 t951 x3_1) x4_2).f0), .string ((rd_T52 (rd_L10 t951 x3_1) x4_2).f1), .string ((rd_T52 (rd_L10 t951 x3_1) x4_2).f2), .string ((rd_T52 (rd_L10 t951 x3_1) x4_2).f3), .int .u8 ((rd_T52 (rd_L10 t951 x3_1) x4_2).f4), .string ((rd_T52 (rd_L10 t951 x3_1) x4_2).f5), .bool ((rd_T52 (rd_L10 t951 x3_1) x4_2).f6)], .string (rdOf ByteArray.empty t957 x6_3), .int .i64 x6_3] (by rfl) rfl rfl (by (try simp only [List.map_toArray, List.map_cons, List.map_nil]); first | done | rfl | (simp only [List.length_drop, List.length_take]; rfl)) ?_
                   with_reducible refine (jacquardref10_info.calls k3 ((rd_T52 (rd_L10 t951 x3_1) x4_2).f0) ((rd_T52 (rd_L10 t951 x3_1) x4_2).f1) ((rd_T52 (rd_L10 t951 x3_1) x4_2).f2) ((rd_T52 (rd_L10 t951 x3_1) x4_2).f3) ((rd_T52 (rd_L10 t951 x3_1) x4_2).f4) ((rd_T52 (rd_L10 t951 x3_1) x4_2).f5) ((rd_T52 (rd_L10 t951 x3_1) x4_2).f6) (rdOf ByteArray.empty t957 x6_3) x6_3 t963 t964 t965 t966 t969 t972 t973 _ A17.out).mono ?_
                   rintro e w21 ⟨v967, v970, rfl, ho0, ho1, hb⟩
                   have HS0_ := (hb.cell (World.block_lt_of_cell? _ _ (hHeld.1))).trans (hHeld.1)
                   have HS1_ := (hb.cell (World.block_lt_of_cell? _ _ (hHeld.2.1))).trans (hHeld.2.1)
                   have HS2_ := (hb.cell (World.block_lt_of_cell? _ _ (hHeld.2.2.1))).trans (hHeld.2.2.1)
                   have HS3_ := (hb.cell (World.block_lt_of_cell? _ _ (hHeld.2.2.2.1))).trans (hHeld.2.2.2.1)
                   have HS4_ := (hb.cell (World.block_lt_of_cell? _ _ (hHeld.2.2.2.2.1))).trans (hHeld.2.2.2.2.1)
                   have HS5_ := (hb.cell (World.block_lt_of_cell? _ _ (hHeld.2.2.2.2.2.1))).trans (hHeld.2.2.2.2.2.1)
                   have HS6_ := (hb.cell (World.block_lt_of_cell? _ _ (hHeld.2.2.2.2.2.2.1))).trans (hHeld.2.2.2.2.2.2.1)
                   have HS7_ := (hb.cell (World.block_lt_of_cell? _ _ (hHeld.2.2.2.2.2.2.2.1))).trans (hHeld.2.2.2.2.2.2.2.1)
                   have HS8_ := (hb.cell (World.block_lt_of_cell? _ _ (hHeld.2.2.2.2.2.2.2.2))).trans (hHeld.2.2.2.2.2.2.2.2)
                   refine ⟨_, rfl, ?_⟩
                   have n0_ := Aside0.mk (Kd.N_mono (Kd.N_told (Kd.N_told (Kd.N_old (by (with_reducible repeat (first | apply Kd.N_alloc | apply Kd.N_drewN | apply Kd.N_drew)); exact HO_1.out) hb) (Kd.R_base ho0)) (Kd.R_base ho1)) (fun _ h_ => h_.1))
                   have n1_ := Aside0.mk (Kd.N_mono (Kd.N_told (Kd.N_told (Kd.N_old (by (with_reducible repeat (first | apply Kd.N_alloc | apply Kd.N_drewN | apply Kd.N_drew)); exact HO_2.out) hb) (Kd.R_base ho0)) (Kd.R_base ho1)) (fun _ h_ => h_.1))
                   have n2_ := Aside0.mk (Kd.R_below (by (with_reducible repeat (first | apply rA|apply rN|apply rD)); exact HO_5.out) hb)
                   have n3_ := Aside0.mk (Kd.V_mono (Kd.V_told (Kd.V_told (Kd.V_old (by (with_reducible repeat (first | apply Kd.V_alloc | apply Kd.V_drewN | apply Kd.V_drew)); exact HL960_0.out) hb) (Kd.R_base ho0)) (Kd.R_base ho1)) (fun _ h_ => h_.1))
                   have n4_ := Aside0.mk (Kd.R_lower (Kd.R_newM (M := fun k_ => (w.heap.size ≤ k_)) ho0 (below_size (by repeat (first | (with_reducible first | exact HB.out | apply bA|apply bN|apply bD) | exact HB.out))) (fun k_ h_ => h_)) (below_size (by repeat (first | (with_reducible first | exact HB.out | apply bA|apply bN|apply bD) | exact HB.out))))
                   have n5_ := Aside0.mk (Kd.R_lower (Kd.R_newM (M := fun k_ => (w.heap.size ≤ k_)) ho1 (below_size (by repeat (first | (with_reducible first | exact HB.out | apply bA|apply bN|apply bD) | exact HB.out))) (fun k_ h_ => h_)) (below_size (by repeat (first | (with_reducible first | exact HB.out | apply bA|apply bN|apply bD) | exact HB.out))))
                   have n6_ := Aside0.mk (Kd.C_below (by repeat (first | (with_reducible exact HR960_0.out) | (with_reducible refine Kd.C_alloc ?_ _) | (with_reducible refine Kd.C_drewN ?_ _) | (with_reducible refine Kd.C_drew ?_) | exact HR960_0.out)) hb)
                   have n7_ := Aside0.mk (below_step (by repeat (first | (with_reducible first | exact HB.out | apply bA|apply bN|apply bD) | exact HB.out)) hb)
                   clear HO_1
                   clear HO_2
                   clear HO_5
                   clear HL960_0
                   clear HR960_0
                   clear HB
                   have HO_1 := n0_
                   have HO_2 := n1_
                   have HO_5 := n2_
                   have HL960_0 := n3_
                   have HO968 := n4_
                   have HO971 := n5_
                   have HR960_0 := n6_
                   have HB := n7_
                   clear n0_ n1_ n2_ n3_ n4_ n5_ n6_ n7_
                   (try clear hb)
                   (try clear hb2)
                   (try clear hk)
                   (try clear hi)
                   (try clear ho0)
                   (try clear ho1)
                   obtain ⟨Ao23, co23, eo23⟩ := Kd.R_slice HO968.out
                   (first | subst eo23 | (injection eo23 with f1_ f2_ f3_; have f4_ := f1_.symm; have f5_ := f3_.symm; clear f1_ f2_ f3_; subst f4_; subst f5_))
                   obtain ⟨Ao24, co24, eo24⟩ := Kd.R_slice HO971.out
                   (first | subst eo24 | (injection eo24 with f1_ f2_ f3_; have f4_ := f1_.symm; have f5_ := f3_.symm; clear f1_ f2_ f3_; subst f4_; subst f5_))
                   refine hK.out _ _ ⟨HS0_, HS1_, HS2_, HS3_, HS4_, HS5_, HS6_, HS7_, HS8_⟩ (fun hHeld => ?_)
                   clear hK K
                   refine norm_ (a' := ?_) ?_ ?_
                   rotate_left
                   ·show Act.put _ (some 51) _ = _
                    simp only [Act.put, List.setIfInBounds_toArray, List.set_cons_zero, List.set_cons_succ, i64_w, i32_w]
                    rfl
                   refine last_ (i := 14) (N := some 52) #[true,true,true,true,true,true,true,true,true,true,true,true,true,true,true,false,false] rfl rfl (one_of HT_.out (by kernel_rfl)) (by decide) (fun K hK => ?_)
                   refine value_ (w1 := ?_) (v := ?_) (by rfl) rfl ?_ ?_
                   rotate_left 2
                   ·go_simp
                    constructor
                    ·rfl
                    ·rfl
                   refine hK.out _ _ ?_
                   clear hK K
                   refine norm_ (a' := ?_) ?_ ?_
                   rotate_left
                   ·show Act.put _ (some 52) _ = _
                    simp only [Act.put, List.setIfInBounds_toArray, List.set_cons_zero, List.set_cons_succ, i64_w, i32_w]
                    rfl
                   refine last_ (i := 15) (N := some 53) #[true,true,true,true,true,true,true,true,true,true,true,true,true,true,true,true,false] rfl rfl (one_of HT_.out (by kernel_rfl)) (by decide) (fun K hK => ?_)
                   refine Kd.N_append_step k27 (w0 := w) w.heap.size (by rfl) (.tmp 38) (.tmp 52) 58 27 (.agg #[(.int .u16 0), (.string ⟨#[]⟩), (.int .u8 0), (.slice none 0 0), (.slice none 0 0), (.int .i64 0), (.bool false)]) 96 rfl Tryd.underlying58 info27 rfl (by decide) (by omega) u1 x1_3 (⟨t963, t964, t965, t966, t969, t972, t973⟩ : S27) [.int .u16 t963, .string t964, .int .u8 t965, .slice Ao23 t966.length co23, .slice Ao24 t969.length co24, .int .i64 t972, .bool t973] (fun k_ => (w.heap.size ≤ k_) ∧ some k_ ≠ (.slice (some ad954) t951.length co4 : Value).ownBlock ∧ some k_ ≠ (.slice (some ad962) t957.length co19 : Value).ownBlock) (fun k_ => ((fun k_ => (w.heap.size ≤ k_) ∧ some k_ ≠ (.slice (some ad954) t951.length co4 : Value).ownBlock ∧ some k_ ≠ (.slice (some ad962) t957.length co19 : Value).ownBlock)) k_ ∧ some k_ ≠ (u1 : Value).ownBlock) rfl rfl ?aP (fun _ hk => hk) ?aF ?aO ?aB ?aS ?aL ?_
                   (case aP => exact (k27_mkF _ _ (⟨t963, t964, t965, t966, t969, t972, t973⟩ : S27) (Kd.R_reads' (Kd.R_mono (ok' := (fun k_ => ((fun k_ => (w.heap.size ≤ k_) ∧ some k_ ≠ (.slice (some ad954) t951.length co4 : Value).ownBlock ∧ some k_ ≠ (.slice (some ad962) t957.length co19 : Value).ownBlock)) k_ ∧ some k_ ≠ (u1 : Value).ownBlock)) (Kd.R_apart' (Kd.R_apart' (Kd.R_apart' (HO968.out) (Kd.N_typed HO_2.out) (by decide)) (Kd.R_typed HO_5.out) (by decide)) (Kd.N_typed HO_1.out) (by decide)) (fun k_ hk => ⟨⟨hk.1.1.1.1, ⟨hk.1.1.2, hk.1.2⟩⟩, hk.2⟩))).2.1 (Kd.R_F (Kd.R_mono (ok' := (fun k_ => ((fun k_ => (w.heap.size ≤ k_) ∧ some k_ ≠ (.slice (some ad954) t951.length co4 : Value).ownBlock ∧ some k_ ≠ (.slice (some ad962) t957.length co19 : Value).ownBlock)) k_ ∧ some k_ ≠ (u1 : Value).ownBlock)) (Kd.R_apart' (Kd.R_apart' (Kd.R_apart' (HO968.out) (Kd.N_typed HO_2.out) (by decide)) (Kd.R_typed HO_5.out) (by decide)) (Kd.N_typed HO_1.out) (by decide)) (fun k_ hk => ⟨⟨hk.1.1.1.1, ⟨hk.1.1.2, hk.1.2⟩⟩, hk.2⟩))) (Kd.R_reads' (Kd.R_mono (ok' := (fun k_ => ((fun k_ => (w.heap.size ≤ k_) ∧ some k_ ≠ (.slice (some ad954) t951.length co4 : Value).ownBlock ∧ some k_ ≠ (.slice (some ad962) t957.length co19 : Value).ownBlock)) k_ ∧ some k_ ≠ (u1 : Value).ownBlock)) (Kd.R_apart' (Kd.R_apart' (Kd.R_apart' (HO971.out) (Kd.N_typed HO_2.out) (by decide)) (Kd.R_typed HO_5.out) (by decide)) (Kd.N_typed HO_1.out) (by decide)) (fun k_ hk => ⟨⟨hk.1.1.1.1, ⟨hk.1.1.2, hk.1.2⟩⟩, hk.2⟩))).2.1 (Kd.R_F (Kd.R_mono (ok' := (fun k_ => ((fun k_ => (w.heap.size ≤ k_) ∧ some k_ ≠ (.slice (some ad954) t951.length co4 : Value).ownBlock ∧ some k_ ≠ (.slice (some ad962) t957.length co19 : Value).ownBlock)) k_ ∧ some k_ ≠ (u1 : Value).ownBlock)) (Kd.R_apart' (Kd.R_apart' (Kd.R_apart' (HO971.out) (Kd.N_typed HO_2.out) (by decide)) (Kd.R_typed HO_5.out) (by decide)) (Kd.N_typed HO_1.out) (by decide)) (fun k_ hk => ⟨⟨hk.1.1.1.1, ⟨hk.1.1.2, hk.1.2⟩⟩, hk.2⟩)))))
                   (case aB => exact (by repeat (first | (with_reducible first | exact HB.out | apply bA|apply bN|apply bD) | exact HB.out)))
                   (case aF => exact (fun k_ hk => ⟨(Nat.le_trans (below_size (by repeat (first | (with_reducible first | exact HB.out | apply bA|apply bN|apply bD) | exact HB.out))) hk), Kd.fresh' (Kd.N_lt (by (with_reducible repeat (first | apply Kd.N_alloc | apply Kd.N_drewN | apply Kd.N_drew)); exact HO_2.out)) k_ hk, Kd.fresh' (Kd.R_lt (by (with_reducible repeat (first | apply rA|apply rN|apply rD)); exact HO_5.out)) k_ hk⟩))
                   (case aO => exact (by (with_reducible repeat (first | apply Kd.N_alloc | apply Kd.N_drewN | apply Kd.N_drew)); exact Kd.N_mono HO_1.out (fun _ hk => ⟨hk.1.1.1, ⟨hk.1.1.2.1, hk.1.1.2.2⟩⟩)))
                   (case aS => exact (below_size (by repeat (first | (with_reducible first | exact HB.out | apply bA|apply bN|apply bD) | exact HB.out))))
                   (case aL => have := LMc18.out; omega)
                   intro v975 w22 ho hb hg hat
                   rw [← Ny974.out] at ho
                   have n0_ := Aside0.mk (Kd.N_afterv (ok := (fun k_ => (w.heap.size ≤ k_) ∧ some k_ ≠ (.slice (some ad962) t957.length co19 : Value).ownBlock ∧ some k_ ≠ (.slice Ao23 t966.length co23 : Value).ownBlock ∧ some k_ ≠ (.slice Ao24 t969.length co24 : Value).ownBlock)) (by (with_reducible repeat (first | apply Kd.N_alloc | apply Kd.N_drewN | apply Kd.N_drew)); exact Kd.N_mono HO_2.out (fun _ hk => ⟨⟨hk.1.1.1, ⟨hk.1.1.2.2, ⟨hk.1.2, hk.2⟩⟩⟩, hk.1.1.2.1⟩)) hg hat)
                   have n1_ := Aside0.mk (Kd.R_over' (by (with_reducible repeat (first | apply rA|apply rN|apply rD)); exact HO_5.out) (Kd.N_typed (by (with_reducible repeat (first | apply Kd.N_alloc | apply Kd.N_drewN | apply Kd.N_drew)); exact HO_1.out)) (by decide) hg)
                   have n2_ := Aside0.mk (Kd.V_afterv (ok := (fun k_ => (w.heap.size ≤ k_) ∧ some k_ ≠ (.slice (some ad954) t951.length co4 : Value).ownBlock ∧ some k_ ≠ (.slice (some ad962) t957.length co19 : Value).ownBlock ∧ some k_ ≠ (.slice Ao23 t966.length co23 : Value).ownBlock ∧ some k_ ≠ (.slice Ao24 t969.length co24 : Value).ownBlock)) (by (with_reducible repeat (first | apply Kd.V_alloc | apply Kd.V_drewN | apply Kd.V_drew)); exact Kd.V_mono HL960_0.out (fun _ hk => ⟨⟨hk.1.1.1.1, ⟨hk.1.1.2, ⟨hk.1.1.1.2.2, ⟨hk.1.2, hk.2⟩⟩⟩⟩, hk.1.1.1.2.1⟩)) hg hat)
                   have n3_ := Aside0.mk (hb)
                   have n4_ := Aside0.mk (ho)
                   clear HO_2
                   clear HO_5
                   clear HL960_0
                   clear HB
                   clear HO_1
                   clear HO968
                   clear HO971
                   have HO_2 := n0_
                   have HO_5 := n1_
                   have HL960_0 := n2_
                   have HB := n3_
                   have HO976 := n4_
                   clear n0_ n1_ n2_ n3_ n4_
                   clear ho hb hg hat
                   refine hK.out _ _ ?_
                   clear hK K
                   refine norm_ (a' := ?_) ?_ ?_
                   rotate_left
                   ·show Act.put _ (some 53) _ = _
                    simp only [Act.put, List.setIfInBounds_toArray, List.set_cons_zero, List.set_cons_succ, i64_w, i32_w]
                    rfl
                   refine pure_ (i := 16) (N := some 1) (v := ?_) (a' := ?_) #[true,true,true,true,true,true,true,true,true,true,true,true,true,true,true,true,true] rfl rfl (any_of HT_.out (by kernel_rfl)) (fun _ _ _ h => h) (Or.inl ⟨by rfl, ?_⟩) ?_ ?_
                   rotate_left
                   ·intro w'
                    go_simp
                    with_reducible rfl
                   rotate_left
                   ·simp only [Act.put, List.setIfInBounds_toArray, List.set_cons_zero, List.set_cons_succ, i64_w, i32_w]
                    rfl
                   refine done_ (done_of HT_.out (by kernel_rfl)) ?_
                   try go_wp2
                   go_roundg k3
                   case measure => have := HK1.out; have := HK2.out; have := HK3.out; omega
                   case rel => exact ⟨(y974), (wrap64 (x6_3 + 1)), (by first | rfl | (simp; done) | (simp [*]; done)), H', ⟨by have := HK1.out; have := HK2.out; have := HK3.out; omega⟩, ⟨by (with_reducible repeat (first | apply Kd.N_alloc | apply Kd.N_drewN | apply Kd.N_drew)); exact HO976.out⟩, ⟨by (with_reducible repeat (first | apply Kd.N_alloc | apply Kd.N_drewN | apply Kd.N_drew)); exact Kd.N_mono HO_2.out (fun _ hk => ⟨hk.1.1, ⟨hk.2, hk.1.2.1⟩⟩)⟩, ⟨by (with_reducible repeat (first | apply rA|apply rN|apply rD)); exact HO_5.out⟩, ⟨by repeat (first | (with_reducible first | exact HB.out | apply bA|apply bN|apply bD) | exact HB.out)⟩⟩
                  ·rw [if_neg c18] at H
                   exact absurd H (by simp)
                 ·rw [if_neg c16] at H
                  exact absurd H (by simp)
                ·rw [if_neg c15] at H
                 exact absurd H (by simp)
               ·rw [if_neg c14] at H
                exact absurd H (by simp)
              ·rw [if_neg c13] at H
               exact absurd H (by simp)
             ·rw [if_neg c12] at H
              exact absurd H (by simp)
            ·rw [if_neg c11] at H
             have c11b0 : decide (x6_3 < (t957.length : Int)) = false := decide_eq_false c11
             clear c11
             have H' := Aside0.mk H
             clear H
             obtain ⟨Ao25, co25, eo25⟩ := Kd.R_slice HO_5.out
             subst eo25
             go_wp2
             go_roundg k3
             case measure => have := HK1.out; have := HK2.out; have := HK3.out; omega
             case rel => exact ⟨(x1_3), (wrap64 (x4_2 + 1)), (by first | rfl | (simp; done) | (simp [*]; done)), H', ⟨by have := HK1.out; have := HK2.out; have := HK3.out; omega⟩, ⟨by (with_reducible repeat (first | apply Kd.N_alloc | apply Kd.N_drewN | apply Kd.N_drew)); exact Kd.N_mono HO_1.out (fun _ hk => ⟨hk.1, hk.2.1⟩)⟩, ⟨by (with_reducible repeat (first | apply Kd.N_alloc | apply Kd.N_drewN | apply Kd.N_drew)); exact Kd.N_mono HO_2.out (fun _ hk => ⟨hk.1, hk.2.1⟩)⟩, ⟨by repeat (first | (with_reducible first | exact HB.out | apply bA|apply bN|apply bD) | exact HB.out)⟩⟩
         ·rw [if_neg c8] at H
          exact absurd H (by simp)
        ·rw [if_neg c7] at H
         have c7b0 : decide (x4_2 < ((rd_L10 t951 x3_1).length : Int)) = false := decide_eq_false c7
         clear c7
         have H' := Aside0.mk H
         clear H
         have p954 : 0 ≤ (x3_1 : Int) := of_decide_eq_true (by first | (with_reducible assumption) | assumption)
         have q954 : x3_1 < (t951.length : Int) := of_decide_eq_true (by first | (with_reducible assumption) | assumption)
         obtain ⟨ad954, A954_0, c954_0, e954, hx954_0, hl954_0, hi954_0⟩ := at_L10 (Kd.N_reads' HO_2.out).2.2 x3_1 p954 q954
         cases e954
         obtain ⟨ce954, hce954, hMe954, hcc954⟩ := Kd.N_get HO_2.out [] x3_1 p954 (by first | exact q954 | exact of_decide_eq_true (by first | (with_reducible assumption) | assumption) | (have e_ := (Kd.N_reads' HO_2.out).1; omega))
         obtain ⟨ua954_0, uc954_0, rfl, ul954_0, ge954_0⟩ := Kd.FK_slice_open hMe954
         have hv954_0 := hcc954 0 _ rfl
         rw [Nat.add_zero, show ((Kd.slice 52 k52)).sz = 1 from rfl, Nat.mul_one] at hv954_0
         replace hv954_0 := Option.some.inj (hv954_0.symm.trans hx954_0)
         injection hv954_0 with hva_ hvn_ hvc_
         rw [hva_] at ge954_0
         rw [hvc_] at ul954_0
         have HL954_0 := Aside0.mk (show Kd.V k52 52 _ w.heap.size _ _ (rd_L10 t951 x3_1) from Kd.V_mk ul954_0 ge954_0)
         clear hva_ hvn_ hvc_ ge954_0 ul954_0
         clear hcc954 hce954
         have HR954_0 := Aside0.mk hi954_0
         have HC954_0 := Aside0.mk hl954_0
         clear hi954_0 hl954_0
         replace p954 := eq_true p954
         replace q954 := eq_true q954
         go_wp2
         go_roundg k2
         case measure => have := HK1.out; have := HK2.out; omega
         case rel => exact ⟨(x1_2), (wrap64 (x3_1 + 1)), (by first | rfl | (simp; done) | (simp [*]; done)), H', ⟨by have := HK1.out; have := HK2.out; omega⟩, ⟨by (with_reducible repeat (first | apply Kd.N_alloc | apply Kd.N_drewN | apply Kd.N_drew)); exact HO_1.out⟩, ⟨by (with_reducible repeat (first | apply Kd.N_alloc | apply Kd.N_drewN | apply Kd.N_drew)); exact HO_2.out⟩, ⟨by repeat (first | (with_reducible first | exact HB.out | apply bA|apply bN|apply bD) | exact HB.out)⟩⟩
       ·rw [if_neg c6] at H
        exact absurd H (by simp)
      ·rw [if_neg c5] at H
       exact absurd H (by simp)
   ·rw [if_neg c3] at H
    have c3b0 : decide (x3_1 < (t951.length : Int)) = false := decide_eq_false c3
    clear c3
    obtain rfl := Option.some.inj H
    obtain ⟨Ao26, co26, eo26⟩ := Kd.N_slice HO_2.out
    subst eo26
    go_wp2
    go_ret
    exact ⟨_, by first | rfl | (simp [errW_none, errW_some] <;> rfl) | (simp [*, errW_none, errW_some] <;> rfl), by (with_reducible repeat (first | apply Kd.N_alloc | apply Kd.N_drewN | apply Kd.N_drew)); exact Kd.N_mono HO_1.out (fun _ hk => hk.1), by repeat (first | (with_reducible first | exact HB.out | apply bA|apply bN|apply bD) | exact HB.out)⟩

end Go.Proofs.YtfbdmgdbamjjhaaDoor.P
