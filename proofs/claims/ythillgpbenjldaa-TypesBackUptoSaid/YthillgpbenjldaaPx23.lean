-- Printed by a program of this session (wip/patch-print.py over the kit's print): Lean checks it.
import Derived.Test.YthillgpbenjldaaPx2
import Derived.Test.YthillgpbenjldaaPx5
import Derived.Test.YthillgpbenjldaaPx6
import Derived.Test.YthillgpbenjldaaPx7
import Derived.Test.YthillgpbenjldaaPx8
import Derived.Test.YthillgpbenjldaaPx17
import Derived.Test.YthillgpbenjldaaPx18
import Derived.Test.YthillgpbenjldaaPx21
import Derived.Test.YthillgpbenjldaaPx0
namespace Go.Proofs.Ythillgpbenjldaa.P
open Go.Proofs.YthillgpbenjldaaCaps
open Go.RowKit Go.Proofs.YthillgpbenjldaaW.PrintWords Go.Proofs.YthillgpbenjldaaW.PrintLast Go.Proofs.YthillgpbenjldaaW.PrintMore
attribute [local go_sem] max2_int min2_int max_two min_two max_three min_three max_four min_four   -- for this text's walks alone
set_option linter.unusedVariables false
set_option linter.unusedSimpArgs false

attribute [local go_sem high] eqA45
/-! ### jacquardlaw09_TypesBack: function 11 -/
mutual
def jacquardlaw09_TypesBack.j0 : Nat → List Int → List Int → Bool → List Int → List Int → Int → Int → Bool → Option (Bool)
  | 0, _, _, _, _, _, _, _, _ => none
  | k + 1, x2, x3, x9, x540000, x540001, x541000, x541001, x541002 => jacquardlaw09_TypesBack.l0 k x2 x3 x9 0 x540000 x540001 x541000 x541001 x541002
def jacquardlaw09_TypesBack.l0 : Nat → List Int → List Int → Bool → Int → List Int → List Int → Int → Int → Bool → Option (Bool)
  | 0, _, _, _, _, _, _, _, _, _ => none
  | k + 1, x2, x3, x9, x10, x540000, x540001, x541000, x541001, x541002 => if x10 < (x540000.length : Int) then (if x9 = true then (if 0 ≤ x10 then ((types_Is.f (rd x540000 x10)).bind fun t542 => (jacquardlaw09_TypesBack.l0 k x2 x3 t542 (wrap64 (x10 + 1)) x540000 x540001 x541000 x541001 x541002)) else (none)) else (jacquardlaw09_TypesBack.l0 k x2 x3 false (wrap64 (x10 + 1)) x540000 x540001 x541000 x541001 x541002)) else (jacquardlaw09_TypesBack.l1 k x2 x3 x9 0 x540000 x540001 x541000 x541001 x541002)
def jacquardlaw09_TypesBack.l1 : Nat → List Int → List Int → Bool → Int → List Int → List Int → Int → Int → Bool → Option (Bool)
  | 0, _, _, _, _, _, _, _, _, _ => none
  | k + 1, x2, x3, x9, x11, x540000, x540001, x541000, x541001, x541002 => if x11 < (x540001.length : Int) then (if x9 = true then (if 0 ≤ x11 then ((types_Is.f (rd x540001 x11)).bind fun t544 => (jacquardlaw09_TypesBack.l1 k x2 x3 t544 (wrap64 (x11 + 1)) x540000 x540001 x541000 x541001 x541002)) else (none)) else (jacquardlaw09_TypesBack.l1 k x2 x3 false (wrap64 (x11 + 1)) x540000 x540001 x541000 x541001 x541002)) else (if x9 = true then (if ([] : List Int).length + x2.length < 140737488355328 then ((some (([] : List Int) ++ x2 : List Int)).bind fun y546 => ((types_Put.f k x540000 x540001).bind fun t549 => (if y546.length + t549.length < 140737488355328 then ((some (y546 ++ t549 : List Int)).bind fun y552 => ((types_PutLimits.f k x541000 x541001 x541002).bind fun t555 => (if y552.length + t555.length < 140737488355328 then ((some (y552 ++ t555 : List Int)).bind fun y558 => (if y558.length + x3.length < 140737488355328 then ((some (y558 ++ x3 : List Int)).bind fun y561 => ((types_Func.f k y561 (x2.length : Int)).bind fun bt564 => ((types_Limits.f k y561 bt564.2.2.1).bind fun bt573 => (if bt564.2.2.2 = 0 then (if bt573.2.2.2.2 = 0 then ((jacquardref00_Func.f k x540000 x540001 bt564.1 bt564.2.1).bind fun t579 => (if t579 = true then (if (bt573.1 == x541000 && (bt573.2.1 == x541001 && (bt573.2.2.1 == x541002))) = true then (if bt564.2.2.1 = (wrap64 ((x2.length : Int) + (t549.length : Int))) then (if bt573.2.2.2.1 = (wrap64 (bt564.2.2.1 + (t555.length : Int))) then ((jacquardlaw09_works.f k).bind fun t580 => (some t580)) else (some false)) else (some false)) else (some false)) else (some false))) else (some false)) else (some false))))) else (none))) else (none)))) else (none)))) else (none)) else ((jacquardlaw09_works.f k).bind fun t545 => (some t545)))
end
def jacquardlaw09_TypesBack.f (k : Nat) (l0_0 : List Int) (l0_1 : List Int) (a1_0 : Int) (a1_1 : Int) (a1_2 : Bool) (l2 : List Int) (l3 : List Int) : Option (Bool) := if a1_2 = true then (jacquardlaw09_TypesBack.j0 k l2 l3 true l0_0 l0_1 a1_0 a1_1 a1_2) else (jacquardlaw09_TypesBack.j0 k l2 l3 (a1_1 == 0) l0_0 l0_1 a1_0 a1_1 a1_2)
theorem jacquardlaw09_TypesBack.mono_l : ∀ k, (∀ y0 y1 y2 y3 y4 y5 y6 y7, LeO (jacquardlaw09_TypesBack.j0 k y0 y1 y2 y3 y4 y5 y6 y7) (jacquardlaw09_TypesBack.j0 (k + 1) y0 y1 y2 y3 y4 y5 y6 y7)) ∧ (∀ y0 y1 y2 y3 y4 y5 y6 y7 y8, LeO (jacquardlaw09_TypesBack.l0 k y0 y1 y2 y3 y4 y5 y6 y7 y8) (jacquardlaw09_TypesBack.l0 (k + 1) y0 y1 y2 y3 y4 y5 y6 y7 y8)) ∧ (∀ y0 y1 y2 y3 y4 y5 y6 y7 y8, LeO (jacquardlaw09_TypesBack.l1 k y0 y1 y2 y3 y4 y5 y6 y7 y8) (jacquardlaw09_TypesBack.l1 (k + 1) y0 y1 y2 y3 y4 y5 y6 y7 y8))
  | 0 => ⟨fun _ _ _ _ _ _ _ _ r h => by simp [jacquardlaw09_TypesBack.j0] at h, fun _ _ _ _ _ _ _ _ _ r h => by simp [jacquardlaw09_TypesBack.l0] at h, fun _ _ _ _ _ _ _ _ _ r h => by simp [jacquardlaw09_TypesBack.l1] at h⟩
  | k + 1 => by
    obtain ⟨ih0, ih1, ih2⟩ := jacquardlaw09_TypesBack.mono_l k
    refine ⟨?_, ?_, ?_⟩
    · intro y0 y1 y2 y3 y4 y5 y6 y7
      unfold jacquardlaw09_TypesBack.j0
      repeat' first
      | (with_reducible exact ih0 _ _ _ _ _ _ _ _)
      | (with_reducible exact ih1 _ _ _ _ _ _ _ _ _)
      | (with_reducible exact ih2 _ _ _ _ _ _ _ _ _)
      | (with_reducible exact jacquardlaw09_works.mono _)
      | (with_reducible exact jacquardref00_Func.mono _ _ _ _ _)
      | (with_reducible exact types_Func.mono _ _ _)
      | (with_reducible exact types_Limits.mono _ _ _)
      | (with_reducible exact types_Put.mono _ _ _)
      | (with_reducible exact types_PutLimits.mono _ _ _ _)
      | (with_reducible exact LeO.refl _)
      | (with_reducible exact LeO.none _)
      | (with_reducible refine LeO.ite ?_ ?_)
      | (with_reducible refine LeO.bind ?_ (fun _ => ?_))
      | exact ih0 _ _ _ _ _ _ _ _
      | exact ih1 _ _ _ _ _ _ _ _ _
      | exact ih2 _ _ _ _ _ _ _ _ _
      | exact jacquardlaw09_works.mono _
      | exact jacquardref00_Func.mono _ _ _ _ _
      | exact types_Func.mono _ _ _
      | exact types_Limits.mono _ _ _
      | exact types_Put.mono _ _ _
      | exact types_PutLimits.mono _ _ _ _
      | exact LeO.none _
      | refine LeO.ite ?_ ?_
      | refine LeO.bind ?_ (fun _ => ?_)
    · intro y0 y1 y2 y3 y4 y5 y6 y7 y8
      unfold jacquardlaw09_TypesBack.l0
      repeat' first
      | (with_reducible exact ih0 _ _ _ _ _ _ _ _)
      | (with_reducible exact ih1 _ _ _ _ _ _ _ _ _)
      | (with_reducible exact ih2 _ _ _ _ _ _ _ _ _)
      | (with_reducible exact jacquardlaw09_works.mono _)
      | (with_reducible exact jacquardref00_Func.mono _ _ _ _ _)
      | (with_reducible exact types_Func.mono _ _ _)
      | (with_reducible exact types_Limits.mono _ _ _)
      | (with_reducible exact types_Put.mono _ _ _)
      | (with_reducible exact types_PutLimits.mono _ _ _ _)
      | (with_reducible exact LeO.refl _)
      | (with_reducible exact LeO.none _)
      | (with_reducible refine LeO.ite ?_ ?_)
      | (with_reducible refine LeO.bind ?_ (fun _ => ?_))
      | exact ih0 _ _ _ _ _ _ _ _
      | exact ih1 _ _ _ _ _ _ _ _ _
      | exact ih2 _ _ _ _ _ _ _ _ _
      | exact jacquardlaw09_works.mono _
      | exact jacquardref00_Func.mono _ _ _ _ _
      | exact types_Func.mono _ _ _
      | exact types_Limits.mono _ _ _
      | exact types_Put.mono _ _ _
      | exact types_PutLimits.mono _ _ _ _
      | exact LeO.none _
      | refine LeO.ite ?_ ?_
      | refine LeO.bind ?_ (fun _ => ?_)
    · intro y0 y1 y2 y3 y4 y5 y6 y7 y8
      unfold jacquardlaw09_TypesBack.l1
      repeat' first
      | (with_reducible exact ih0 _ _ _ _ _ _ _ _)
      | (with_reducible exact ih1 _ _ _ _ _ _ _ _ _)
      | (with_reducible exact ih2 _ _ _ _ _ _ _ _ _)
      | (with_reducible exact jacquardlaw09_works.mono _)
      | (with_reducible exact jacquardref00_Func.mono _ _ _ _ _)
      | (with_reducible exact types_Func.mono _ _ _)
      | (with_reducible exact types_Limits.mono _ _ _)
      | (with_reducible exact types_Put.mono _ _ _)
      | (with_reducible exact types_PutLimits.mono _ _ _ _)
      | (with_reducible exact LeO.refl _)
      | (with_reducible exact LeO.none _)
      | (with_reducible refine LeO.ite ?_ ?_)
      | (with_reducible refine LeO.bind ?_ (fun _ => ?_))
      | exact ih0 _ _ _ _ _ _ _ _
      | exact ih1 _ _ _ _ _ _ _ _ _
      | exact ih2 _ _ _ _ _ _ _ _ _
      | exact jacquardlaw09_works.mono _
      | exact jacquardref00_Func.mono _ _ _ _ _
      | exact types_Func.mono _ _ _
      | exact types_Limits.mono _ _ _
      | exact types_Put.mono _ _ _
      | exact types_PutLimits.mono _ _ _ _
      | exact LeO.none _
      | refine LeO.ite ?_ ?_
      | refine LeO.bind ?_ (fun _ => ?_)
theorem jacquardlaw09_TypesBack.mono : ∀ a0 a1 a2 a3 a4 a5 a6 k, LeO (jacquardlaw09_TypesBack.f k a0 a1 a2 a3 a4 a5 a6) (jacquardlaw09_TypesBack.f (k + 1) a0 a1 a2 a3 a4 a5 a6) := by
  intro a0 a1 a2 a3 a4 a5 a6 k
  obtain ⟨ih0, ih1, ih2⟩ := jacquardlaw09_TypesBack.mono_l k
  unfold jacquardlaw09_TypesBack.f
  repeat' first
      | (with_reducible exact ih0 _ _ _ _ _ _ _ _)
      | (with_reducible exact ih1 _ _ _ _ _ _ _ _ _)
      | (with_reducible exact ih2 _ _ _ _ _ _ _ _ _)
      | (with_reducible exact jacquardlaw09_works.mono _)
      | (with_reducible exact jacquardref00_Func.mono _ _ _ _ _)
      | (with_reducible exact types_Func.mono _ _ _)
      | (with_reducible exact types_Limits.mono _ _ _)
      | (with_reducible exact types_Put.mono _ _ _)
      | (with_reducible exact types_PutLimits.mono _ _ _ _)
      | (with_reducible exact LeO.refl _)
      | (with_reducible exact LeO.none _)
      | (with_reducible refine LeO.ite ?_ ?_)
      | (with_reducible refine LeO.bind ?_ (fun _ => ?_))
      | exact ih0 _ _ _ _ _ _ _ _
      | exact ih1 _ _ _ _ _ _ _ _ _
      | exact ih2 _ _ _ _ _ _ _ _ _
      | exact jacquardlaw09_works.mono _
      | exact jacquardref00_Func.mono _ _ _ _ _
      | exact types_Func.mono _ _ _
      | exact types_Limits.mono _ _ _
      | exact types_Put.mono _ _ _
      | exact types_PutLimits.mono _ _ _ _
      | exact LeO.none _
      | refine LeO.ite ?_ ?_
      | refine LeO.bind ?_ (fun _ => ?_)
set_option maxHeartbeats 8000000 in
set_option maxRecDepth 100000 in
theorem jacquardlaw09_TypesBack.calls (k : Nat) (A0_0 : Option Addr) (c0_0 : Nat) (l0_0 : List Int) (A0_1 : Option Addr) (c0_1 : Nat) (l0_1 : List Int) (a1_0 : Int) (a1_1 : Int) (a1_2 : Bool) (A2 : Option Addr) (c2 : Nat) (l2 : List Int) (A3 : Option Addr) (c3 : Nat) (l3 : List Int) (w : World) (hr0_0 : Kd.C (Kd.int .u8) w A0_0 l0_0.length l0_0) (hc0_0 : l0_0.length ≤ c0_0) (hr0_1 : Kd.C (Kd.int .u8) w A0_1 l0_1.length l0_1) (hc0_1 : l0_1.length ≤ c0_1) (hr2 : Kd.C (Kd.int .u8) w A2 l2.length l2) (hc2 : l2.length ≤ c2) (hr3 : Kd.C (Kd.int .u8) w A3 l3.length l3) (hc3 : l3.length ≤ c3) (h : jacquardlaw09_TypesBack.f k l0_0 l0_1 a1_0 a1_1 a1_2 l2 l3 = some true) :
    Calls Try.prog 11 #[.agg #[.slice A0_0 l0_0.length c0_0, .slice A0_1 l0_1.length c0_1], .agg #[.int .u32 a1_0, .int .u32 a1_1, .bool a1_2], .slice A2 l2.length c2, .slice A3 l3.length c3] w fun e w' => e = .returned (.bool true) ∧ Below w.heap.size w w' := by
  have hu25 := Try.underlying25
  have hu45 := Try.underlying45
  have HR0_0 := Aside0.mk hr0_0
  have HC0_0 := Aside0.mk hc0_0
  clear hr0_0 hc0_0
  have HR0_1 := Aside0.mk hr0_1
  have HC0_1 := Aside0.mk hc0_1
  clear hr0_1 hc0_1
  have HR2 := Aside0.mk hr2
  have HC2 := Aside0.mk hc2
  clear hr2 hc2
  have HR3 := Aside0.mk hr3
  have HC3 := Aside0.mk hc3
  clear hr3 hc3
  have HB := Aside0.mk (Below.refl w.heap.size w)
  have H : (if a1_2 = true then (jacquardlaw09_TypesBack.j0 k l2 l3 true l0_0 l0_1 a1_0 a1_1 a1_2) else (jacquardlaw09_TypesBack.j0 k l2 l3 (a1_1 == 0) l0_0 l0_1 a1_0 a1_1 a1_2)) = some true := h
  clear h
  have HC5 := Aside0.mk H
  clear H
  go_enter Try.func11, Try.ntmps11
  go_upto_region 1 with (first | ((with_reducible refine gate_dst (N := 4) rfl ?_); (try (refine gate_guard (by rfl) ?_; dsimp only)); refine box_event ?hg (N := 4) ?hd (cs := #[.slice A0_0 l0_0.length c0_0, .slice A0_1 l0_1.length c0_1]) (t := 25) ?hr ?_; (case hd => rfl); (case hg => rfl); (case hr => first | (go_simp; done) | (go_simp; rfl)); intro gb539 hg w6 hbox hb; have n0_ := Aside0.mk (below_step (by repeat (first | (with_reducible first | exact HB.out | apply below_alloc | apply pw_below_drewN | apply below_drew1) | exact HB.out)) hb); have n1_ := Aside0.mk (hbox); have n2_ := Aside0.mk ((by rw [hg]; exact (below_size (by repeat (first | (with_reducible first | exact HB.out | apply below_alloc | apply pw_below_drewN | apply below_drew1) | exact HB.out))) : w.heap.size ≤ gb539)); have n3_ := Aside0.mk ((by rw [hg]; exact (below_size (by repeat (first | (with_reducible first | exact HB.out | apply below_alloc | apply pw_below_drewN | apply below_drew1) | exact HB.out))) : w.heap.size ≤ gb539)); clear HB; have HB := n0_; have BK539 := n1_; have GW539 := n2_; have GE539 := n3_; clear n0_ n1_ n2_ n3_; clear hb hbox hg) | ((with_reducible refine gate_dst (N := 5) rfl ?_); (try (refine gate_guard (by rfl) ?_; dsimp only)); refine box_event ?hg (N := 5) ?hd (cs := #[.int .u32 a1_0, .int .u32 a1_1, .bool a1_2]) (t := 45) ?hr ?_; (case hd => rfl); (case hg => rfl); (case hr => first | (go_simp; done) | (go_simp; rfl)); intro gb540 hg w7 hbox hb; have n0_ := Aside0.mk (blk_below (g := gb539) (o := .cells #[.slice A0_0 l0_0.length c0_0, .slice A0_1 l0_1.length c0_1] 25 (0, 0)) (by (with_reducible repeat (first | refine blk_drewN ?_ _ | refine blk_drew ?_ | refine blk_alloc ?_ _)); exact BK539.out) hb); have n1_ := Aside0.mk (below_step (by repeat (first | (with_reducible first | exact HB.out | apply below_alloc | apply pw_below_drewN | apply below_drew1 | refine below_set ?_ GE539.out) | exact HB.out)) hb); have n2_ := Aside0.mk (hbox); have n3_ := Aside0.mk ((by rw [hg]; exact (below_size (by repeat (first | (with_reducible first | exact HB.out | apply below_alloc | apply pw_below_drewN | apply below_drew1 | refine below_set ?_ GE539.out) | exact HB.out))) : w.heap.size ≤ gb540)); have n4_ := Aside0.mk ((by rw [hg]; exact (below_size (by repeat (first | (with_reducible first | exact HB.out | apply below_alloc | apply pw_below_drewN | apply below_drew1 | refine below_set ?_ GE539.out) | exact HB.out))) : w.heap.size ≤ gb540)); have n5_ := Aside0.mk ((by rw [hg]; exact Nat.ne_of_lt (blk_lt (g := gb539) (o := .cells #[.slice A0_0 l0_0.length c0_0, .slice A0_1 l0_1.length c0_1] 25 (0, 0)) (by (with_reducible repeat (first | refine blk_drewN ?_ _ | refine blk_drew ?_ | refine blk_alloc ?_ _)); exact BK539.out)) : gb539 ≠ gb540)); have n6_ := Aside0.mk ((by rw [hg]; exact Nat.ne_of_gt (blk_lt (g := gb539) (o := .cells #[.slice A0_0 l0_0.length c0_0, .slice A0_1 l0_1.length c0_1] 25 (0, 0)) (by (with_reducible repeat (first | refine blk_drewN ?_ _ | refine blk_drew ?_ | refine blk_alloc ?_ _)); exact BK539.out)) : gb540 ≠ gb539)); clear BK539; clear HB; have BK539 := n0_; have HB := n1_; have BK540 := n2_; have GW540 := n3_; have GE540 := n4_; have NB539_540 := n5_; have NB540_539 := n6_; clear n0_ n1_ n2_ n3_ n4_ n5_ n6_; clear hb hbox hg))
  (try simp only [Act.put, List.setIfInBounds_toArray, List.set_cons_zero, List.set_cons_succ])
  go_cut [9] (fun v9 wc => ∃ (kq : Nat) (x9_4 : Bool), v9 = .bool x9_4 ∧ Aside0 (jacquardlaw09_TypesBack.j0 kq l2 l3 x9_4 l0_0 l0_1 a1_0 a1_1 a1_2 = some true) ∧ Aside0 (kq ≤ k) ∧ Aside0 (wc.heap[gb539]? = some (.cells #[(.slice A0_0 l0_0.length c0_0), (.slice A0_1 l0_1.length c0_1)] 25 (0, 0))) ∧ Aside0 (wc.heap[gb540]? = some (.cells #[.int .u32 a1_0, .int .u32 a1_1, .bool a1_2] 45 (0, 0))) ∧ Aside0 (Below w.heap.size w wc))
  case first =>
    have H := HC5.out
    clear HC5
    by_cases c8 : a1_2 = true
    · subst c8
      have H1 : (jacquardlaw09_TypesBack.j0 k l2 l3 true l0_0 l0_1 a1_0 a1_1 true) = some true := by rw [if_pos rfl] at H; exact H
      clear H
      have H := H1
      clear H1
      have H' := Aside0.mk H
      clear H
      have hnb9 := NB540_539.out
      have hnc9 := NB539_540.out
      have hcz10_0 : w7.cell? ⟨gb540, 0, none⟩ = some (.int .u32 a1_0) := (blk_cell BK540.out 0).trans rfl
      have hcz10_1 : w7.cell? ⟨gb540, 1, none⟩ = some (.int .u32 a1_1) := (blk_cell BK540.out 1).trans rfl
      have hcz10_2 : w7.cell? ⟨gb540, 2, none⟩ = some (.bool true) := (blk_cell BK540.out 2).trans rfl
      have hfz10_0 := blk_frozen BK540.out 0
      have hfz10_1 := blk_frozen BK540.out 1
      have hfz10_2 := blk_frozen BK540.out 2
      go_wp2
      go_meet
      case rel => exact ⟨_, (true), (by first | rfl | (simp; done) | (simp [*]; done)), H', ⟨by first | omega | exact Nat.le_refl _⟩, ⟨by (with_reducible repeat (first | refine blk_drewN ?_ _ | refine blk_drew ?_ | refine blk_alloc ?_ _)); exact BK539.out⟩, ⟨by (with_reducible repeat (first | refine blk_drewN ?_ _ | refine blk_drew ?_ | refine blk_alloc ?_ _)); exact BK540.out⟩, ⟨by repeat (first | (with_reducible first | exact HB.out | apply below_alloc | apply pw_below_drewN | apply below_drew1 | refine below_set ?_ GE539.out | refine below_set ?_ GE540.out) | exact HB.out)⟩⟩
    · replace c8 := Bool.eq_false_iff.mpr c8
      subst c8
      have H1 : (jacquardlaw09_TypesBack.j0 k l2 l3 (a1_1 == 0) l0_0 l0_1 a1_0 a1_1 false) = some true := by rw [if_neg (show ¬ (false = true) by decide)] at H; exact H
      clear H
      have H := H1
      clear H1
      have H' := Aside0.mk H
      clear H
      have hnb11 := NB540_539.out
      have hnc11 := NB539_540.out
      have hcz12_0 : w7.cell? ⟨gb540, 0, none⟩ = some (.int .u32 a1_0) := (blk_cell BK540.out 0).trans rfl
      have hcz12_1 : w7.cell? ⟨gb540, 1, none⟩ = some (.int .u32 a1_1) := (blk_cell BK540.out 1).trans rfl
      have hcz12_2 : w7.cell? ⟨gb540, 2, none⟩ = some (.bool false) := (blk_cell BK540.out 2).trans rfl
      have hfz12_0 := blk_frozen BK540.out 0
      have hfz12_1 := blk_frozen BK540.out 1
      have hfz12_2 := blk_frozen BK540.out 2
      go_wp2
      go_meet
      case rel => exact ⟨_, ((a1_1 == 0)), (by first | rfl | (simp; done) | (simp [*]; done)), H', ⟨by first | omega | exact Nat.le_refl _⟩, ⟨by (with_reducible repeat (first | refine blk_drewN ?_ _ | refine blk_drew ?_ | refine blk_alloc ?_ _)); exact BK539.out⟩, ⟨by (with_reducible repeat (first | refine blk_drewN ?_ _ | refine blk_drew ?_ | refine blk_alloc ?_ _)); exact BK540.out⟩, ⟨by repeat (first | (with_reducible first | exact HB.out | apply below_alloc | apply pw_below_drewN | apply below_drew1 | refine below_set ?_ GE539.out | refine below_set ?_ GE540.out) | exact HB.out)⟩⟩
  case rest =>
    clear HC5
    try clear c1
    try clear c2
    try clear p2
    try clear c3
    try clear c8
    try clear c9
    try clear c11
    try clear hcz10_0
    try clear hcz10_1
    try clear hcz10_2
    try clear hcz12_0
    try clear hcz12_1
    try clear hcz12_2
    try clear hfz10_0
    try clear hfz10_1
    try clear hfz10_2
    try clear hfz12_0
    try clear hfz12_1
    try clear hfz12_2
    obtain ⟨kq, x9_4, rfl, HA, HJ4, BK539, BK540, HB⟩ := hcut
    cases kq with
    | zero => exact absurd HA.out (by simp [jacquardlaw09_TypesBack.j0])
    | succ kj4 =>
      have H := HA.out
      clear HA
      simp only [jacquardlaw09_TypesBack.j0] at H
      have H' := Aside0.mk H
      clear H
      go_wp2
      go_loopg [9, 10] kj4 (fun kq v9 v10 w' => ∃ (x9_2 : Bool) (x10_2 : Int), v9 = .bool x9_2 ∧ v10 = .int .i64 x10_2 ∧ Aside0 (jacquardlaw09_TypesBack.l0 kq l2 l3 x9_2 x10_2 l0_0 l0_1 a1_0 a1_1 a1_2 = some true) ∧ Aside0 (kq ≤ kj4) ∧ Aside0 (w'.heap[gb539]? = some (.cells #[(.slice A0_0 l0_0.length c0_0), (.slice A0_1 l0_1.length c0_1)] 25 (0, 0))) ∧ Aside0 (w'.heap[gb540]? = some (.cells #[.int .u32 a1_0, .int .u32 a1_1, .bool a1_2] 45 (0, 0))) ∧ Aside0 (Below w.heap.size w w'))
      case atStart => exact ⟨(x9_4), (0), (by first | rfl | (simp; done) | (simp [*]; done)), (by first | rfl | (simp; done) | (simp [*]; done)), H', ⟨Nat.le_refl _⟩, ⟨by (with_reducible repeat (first | refine blk_drewN ?_ _ | refine blk_drew ?_ | refine blk_alloc ?_ _)); exact BK539.out⟩, ⟨by (with_reducible repeat (first | refine blk_drewN ?_ _ | refine blk_drew ?_ | refine blk_alloc ?_ _)); exact BK540.out⟩, ⟨by repeat (first | (with_reducible first | exact HB.out | apply below_alloc | apply pw_below_drewN | apply below_drew1 | refine below_set ?_ GE539.out | refine below_set ?_ GE540.out) | exact HB.out)⟩⟩
      case round =>
        clear H'
        try clear c1
        try clear c2
        try clear p2
        try clear c3
        try clear c8
        try clear c9
        try clear c11
        try clear hcz10_0
        try clear hcz10_1
        try clear hcz10_2
        try clear hcz12_0
        try clear hcz12_1
        try clear hcz12_2
        try clear hfz10_0
        try clear hfz10_1
        try clear hfz10_2
        try clear hfz12_0
        try clear hfz12_1
        try clear hfz12_2
        try clear p2
        obtain ⟨x9_2, x10_2, rfl, rfl, HA, HK2, BK539, BK540, HB⟩ := hrel
        cases gk with
        | zero => exact absurd HA.out (by simp [jacquardlaw09_TypesBack.l0])
        | succ k2 =>
          have H := HA.out
          clear HA
          simp only [jacquardlaw09_TypesBack.l0] at H
          by_cases c13 : x10_2 < (l0_0.length : Int)
          · rw [if_pos c13] at H
            have c13b0 : decide (x10_2 < (l0_0.length : Int)) = true := decide_eq_true c13
            clear c13
            by_cases c14 : x9_2 = true
            · subst c14
              have H1 : (if 0 ≤ x10_2 then ((types_Is.f (rd l0_0 x10_2)).bind fun t542 => (jacquardlaw09_TypesBack.l0 k2 l2 l3 t542 (wrap64 (x10_2 + 1)) l0_0 l0_1 a1_0 a1_1 a1_2)) else (none)) = some true := by rw [if_pos rfl] at H; exact H
              clear H
              have H := H1
              clear H1
              by_cases c15 : 0 ≤ x10_2
              · rw [if_pos c15] at H
                have c15b0 : decide (0 ≤ x10_2) = true := decide_eq_true c15
                clear c15
                replace H := Option.bind_eq_some_iff.mp H
                obtain ⟨t542, A160, H⟩ := H
                replace H : (jacquardlaw09_TypesBack.l0 k2 l2 l3 t542 (wrap64 (x10_2 + 1)) l0_0 l0_1 a1_0 a1_1 a1_2) = some true := H
                have A16 := Aside0.mk A160
                clear A160
                have H' := Aside0.mk H
                clear H
                have hnb17 := NB539_540.out
                have hnc17 := NB540_539.out
                have hcz18_0 : wr.cell? ⟨gb539, 0, none⟩ = some (.slice A0_0 l0_0.length c0_0) := (blk_cell BK539.out 0).trans rfl
                have hcz18_1 : wr.cell? ⟨gb539, 1, none⟩ = some (.slice A0_1 l0_1.length c0_1) := (blk_cell BK539.out 1).trans rfl
                have hfz18_0 := blk_frozen BK539.out 0
                have hfz18_1 := blk_frozen BK539.out 1
                have p541 : 0 ≤ (x10_2 : Int) := of_decide_eq_true (by first | (with_reducible assumption) | assumption)
                have q541 : x10_2 < (l0_0.length : Int) := of_decide_eq_true (by first | (with_reducible assumption) | assumption)
                obtain ⟨ad541, e541, hx541_0⟩ := Kd.at_int HR0_0.out x10_2 p541 q541
                cases e541
                replace hx541_0 := (HB.out.cell (World.block_lt_of_cell? w _ hx541_0)).trans hx541_0
                replace p541 := eq_true p541
                replace q541 := eq_true q541
                go_wp2_with (first | (go_at_call 18; (with_reducible refine (types_Is.calls (rd l0_0 x10_2) t542 _ A16.out).mono ?_); rintro e w' ⟨rfl, ⟨nd, rfl⟩⟩))
                go_roundg k2
                case measure => have := HJ4.out; have := HK2.out; omega
                case rel => exact ⟨(t542), (wrap64 (x10_2 + 1)), (by first | rfl | (simp; done) | (simp [*]; done)), (by first | rfl | (simp; done) | (simp [*]; done)), H', ⟨by have := HJ4.out; have := HK2.out; omega⟩, ⟨by (with_reducible repeat (first | refine blk_drewN ?_ _ | refine blk_drew ?_ | refine blk_alloc ?_ _)); exact BK539.out⟩, ⟨by (with_reducible repeat (first | refine blk_drewN ?_ _ | refine blk_drew ?_ | refine blk_alloc ?_ _)); exact BK540.out⟩, ⟨by repeat (first | (with_reducible first | exact HB.out | apply below_alloc | apply pw_below_drewN | apply below_drew1 | refine below_set ?_ GE539.out | refine below_set ?_ GE540.out) | exact HB.out)⟩⟩
              · rw [if_neg c15] at H
                exact absurd H (by simp)
            · replace c14 := Bool.eq_false_iff.mpr c14
              subst c14
              have H1 : (jacquardlaw09_TypesBack.l0 k2 l2 l3 false (wrap64 (x10_2 + 1)) l0_0 l0_1 a1_0 a1_1 a1_2) = some true := by rw [if_neg (show ¬ (false = true) by decide)] at H; exact H
              clear H
              have H := H1
              clear H1
              have H' := Aside0.mk H
              clear H
              have hnb19 := NB539_540.out
              have hnc19 := NB540_539.out
              have hcz20_0 : wr.cell? ⟨gb539, 0, none⟩ = some (.slice A0_0 l0_0.length c0_0) := (blk_cell BK539.out 0).trans rfl
              have hcz20_1 : wr.cell? ⟨gb539, 1, none⟩ = some (.slice A0_1 l0_1.length c0_1) := (blk_cell BK539.out 1).trans rfl
              have hfz20_0 := blk_frozen BK539.out 0
              have hfz20_1 := blk_frozen BK539.out 1
              go_wp2
              go_roundg k2
              case measure => have := HJ4.out; have := HK2.out; omega
              case rel => exact ⟨(false), (wrap64 (x10_2 + 1)), (by first | rfl | (simp; done) | (simp [*]; done)), (by first | rfl | (simp; done) | (simp [*]; done)), H', ⟨by have := HJ4.out; have := HK2.out; omega⟩, ⟨by (with_reducible repeat (first | refine blk_drewN ?_ _ | refine blk_drew ?_ | refine blk_alloc ?_ _)); exact BK539.out⟩, ⟨by (with_reducible repeat (first | refine blk_drewN ?_ _ | refine blk_drew ?_ | refine blk_alloc ?_ _)); exact BK540.out⟩, ⟨by repeat (first | (with_reducible first | exact HB.out | apply below_alloc | apply pw_below_drewN | apply below_drew1 | refine below_set ?_ GE539.out | refine below_set ?_ GE540.out) | exact HB.out)⟩⟩
          · rw [if_neg c13] at H
            have c13b0 : decide (x10_2 < (l0_0.length : Int)) = false := decide_eq_false c13
            clear c13
            have H' := Aside0.mk H
            clear H
            have hnb21 := NB539_540.out
            have hnc21 := NB540_539.out
            have hcz22_0 : wr.cell? ⟨gb539, 0, none⟩ = some (.slice A0_0 l0_0.length c0_0) := (blk_cell BK539.out 0).trans rfl
            have hcz22_1 : wr.cell? ⟨gb539, 1, none⟩ = some (.slice A0_1 l0_1.length c0_1) := (blk_cell BK539.out 1).trans rfl
            have hfz22_0 := blk_frozen BK539.out 0
            have hfz22_1 := blk_frozen BK539.out 1
            go_wp2
            go_loopg [9, 11] k2 (fun kq v9 v11 w' => ∃ (x9_3 : Bool) (x11_3 : Int), v9 = .bool x9_3 ∧ v11 = .int .i64 x11_3 ∧ Aside0 (jacquardlaw09_TypesBack.l1 kq l2 l3 x9_3 x11_3 l0_0 l0_1 a1_0 a1_1 a1_2 = some true) ∧ Aside0 (kq ≤ k2) ∧ Aside0 (w'.heap[gb539]? = some (.cells #[(.slice A0_0 l0_0.length c0_0), (.slice A0_1 l0_1.length c0_1)] 25 (0, 0))) ∧ Aside0 (w'.heap[gb540]? = some (.cells #[.int .u32 a1_0, .int .u32 a1_1, .bool a1_2] 45 (0, 0))) ∧ Aside0 (Below w.heap.size w w'))
            case atStart => exact ⟨(x9_2), (0), (by first | rfl | (simp; done) | (simp [*]; done)), (by first | rfl | (simp; done) | (simp [*]; done)), H', ⟨Nat.le_refl _⟩, ⟨by (with_reducible repeat (first | refine blk_drewN ?_ _ | refine blk_drew ?_ | refine blk_alloc ?_ _)); exact BK539.out⟩, ⟨by (with_reducible repeat (first | refine blk_drewN ?_ _ | refine blk_drew ?_ | refine blk_alloc ?_ _)); exact BK540.out⟩, ⟨by repeat (first | (with_reducible first | exact HB.out | apply below_alloc | apply pw_below_drewN | apply below_drew1 | refine below_set ?_ GE539.out | refine below_set ?_ GE540.out) | exact HB.out)⟩⟩
            case round =>
              clear H'
              try clear c1
              try clear c2
              try clear p2
              try clear c3
              try clear p5
              try clear q5
              try clear hx5
              try clear p6
              try clear c8
              try clear c9
              try clear c11
              try clear c13
              try clear c13b0
              try clear c14
              try clear c15
              try clear c15b0
              try clear c17
              try clear c19
              try clear c21
              try clear hcz10_0
              try clear hcz10_1
              try clear hcz10_2
              try clear hcz12_0
              try clear hcz12_1
              try clear hcz12_2
              try clear hcz18_0
              try clear hcz18_1
              try clear hcz20_0
              try clear hcz20_1
              try clear hcz22_0
              try clear hcz22_1
              try clear hfz10_0
              try clear hfz10_1
              try clear hfz10_2
              try clear hfz12_0
              try clear hfz12_1
              try clear hfz12_2
              try clear hfz18_0
              try clear hfz18_1
              try clear hfz20_0
              try clear hfz20_1
              try clear hfz22_0
              try clear hfz22_1
              try clear hx541_0
              try clear p2
              try clear p541
              try clear q541
              obtain ⟨x9_3, x11_3, rfl, rfl, HA, HK3, BK539, BK540, HB⟩ := hrel
              cases gk with
              | zero => exact absurd HA.out (by simp [jacquardlaw09_TypesBack.l1])
              | succ k3 =>
                have H := HA.out
                clear HA
                simp only [jacquardlaw09_TypesBack.l1] at H
                by_cases c23 : x11_3 < (l0_1.length : Int)
                · rw [if_pos c23] at H
                  have c23b0 : decide (x11_3 < (l0_1.length : Int)) = true := decide_eq_true c23
                  clear c23
                  by_cases c24 : x9_3 = true
                  · subst c24
                    have H1 : (if 0 ≤ x11_3 then ((types_Is.f (rd l0_1 x11_3)).bind fun t544 => (jacquardlaw09_TypesBack.l1 k3 l2 l3 t544 (wrap64 (x11_3 + 1)) l0_0 l0_1 a1_0 a1_1 a1_2)) else (none)) = some true := by rw [if_pos rfl] at H; exact H
                    clear H
                    have H := H1
                    clear H1
                    by_cases c25 : 0 ≤ x11_3
                    · rw [if_pos c25] at H
                      have c25b0 : decide (0 ≤ x11_3) = true := decide_eq_true c25
                      clear c25
                      replace H := Option.bind_eq_some_iff.mp H
                      obtain ⟨t544, A260, H⟩ := H
                      replace H : (jacquardlaw09_TypesBack.l1 k3 l2 l3 t544 (wrap64 (x11_3 + 1)) l0_0 l0_1 a1_0 a1_1 a1_2) = some true := H
                      have A26 := Aside0.mk A260
                      clear A260
                      have H' := Aside0.mk H
                      clear H
                      have hnb27 := NB539_540.out
                      have hnc27 := NB540_539.out
                      have hcz28_0 : wr.cell? ⟨gb539, 0, none⟩ = some (.slice A0_0 l0_0.length c0_0) := (blk_cell BK539.out 0).trans rfl
                      have hcz28_1 : wr.cell? ⟨gb539, 1, none⟩ = some (.slice A0_1 l0_1.length c0_1) := (blk_cell BK539.out 1).trans rfl
                      have hfz28_0 := blk_frozen BK539.out 0
                      have hfz28_1 := blk_frozen BK539.out 1
                      have p543 : 0 ≤ (x11_3 : Int) := of_decide_eq_true (by first | (with_reducible assumption) | assumption)
                      have q543 : x11_3 < (l0_1.length : Int) := of_decide_eq_true (by first | (with_reducible assumption) | assumption)
                      obtain ⟨ad543, e543, hx543_0⟩ := Kd.at_int HR0_1.out x11_3 p543 q543
                      cases e543
                      replace hx543_0 := (HB.out.cell (World.block_lt_of_cell? w _ hx543_0)).trans hx543_0
                      replace p543 := eq_true p543
                      replace q543 := eq_true q543
                      go_wp2_with (first | (go_at_call 18; (with_reducible refine (types_Is.calls (rd l0_1 x11_3) t544 _ A26.out).mono ?_); rintro e w' ⟨rfl, ⟨nd, rfl⟩⟩))
                      go_roundg k3
                      case measure => have := HJ4.out; have := HK2.out; have := HK3.out; omega
                      case rel => exact ⟨(t544), (wrap64 (x11_3 + 1)), (by first | rfl | (simp; done) | (simp [*]; done)), (by first | rfl | (simp; done) | (simp [*]; done)), H', ⟨by have := HJ4.out; have := HK2.out; have := HK3.out; omega⟩, ⟨by (with_reducible repeat (first | refine blk_drewN ?_ _ | refine blk_drew ?_ | refine blk_alloc ?_ _)); exact BK539.out⟩, ⟨by (with_reducible repeat (first | refine blk_drewN ?_ _ | refine blk_drew ?_ | refine blk_alloc ?_ _)); exact BK540.out⟩, ⟨by repeat (first | (with_reducible first | exact HB.out | apply below_alloc | apply pw_below_drewN | apply below_drew1 | refine below_set ?_ GE539.out | refine below_set ?_ GE540.out) | exact HB.out)⟩⟩
                    · rw [if_neg c25] at H
                      exact absurd H (by simp)
                  · replace c24 := Bool.eq_false_iff.mpr c24
                    subst c24
                    have H1 : (jacquardlaw09_TypesBack.l1 k3 l2 l3 false (wrap64 (x11_3 + 1)) l0_0 l0_1 a1_0 a1_1 a1_2) = some true := by rw [if_neg (show ¬ (false = true) by decide)] at H; exact H
                    clear H
                    have H := H1
                    clear H1
                    have H' := Aside0.mk H
                    clear H
                    have hnb29 := NB539_540.out
                    have hnc29 := NB540_539.out
                    have hcz30_0 : wr.cell? ⟨gb539, 0, none⟩ = some (.slice A0_0 l0_0.length c0_0) := (blk_cell BK539.out 0).trans rfl
                    have hcz30_1 : wr.cell? ⟨gb539, 1, none⟩ = some (.slice A0_1 l0_1.length c0_1) := (blk_cell BK539.out 1).trans rfl
                    have hfz30_0 := blk_frozen BK539.out 0
                    have hfz30_1 := blk_frozen BK539.out 1
                    go_wp2
                    go_roundg k3
                    case measure => have := HJ4.out; have := HK2.out; have := HK3.out; omega
                    case rel => exact ⟨(false), (wrap64 (x11_3 + 1)), (by first | rfl | (simp; done) | (simp [*]; done)), (by first | rfl | (simp; done) | (simp [*]; done)), H', ⟨by have := HJ4.out; have := HK2.out; have := HK3.out; omega⟩, ⟨by (with_reducible repeat (first | refine blk_drewN ?_ _ | refine blk_drew ?_ | refine blk_alloc ?_ _)); exact BK539.out⟩, ⟨by (with_reducible repeat (first | refine blk_drewN ?_ _ | refine blk_drew ?_ | refine blk_alloc ?_ _)); exact BK540.out⟩, ⟨by repeat (first | (with_reducible first | exact HB.out | apply below_alloc | apply pw_below_drewN | apply below_drew1 | refine below_set ?_ GE539.out | refine below_set ?_ GE540.out) | exact HB.out)⟩⟩
                · rw [if_neg c23] at H
                  have c23b0 : decide (x11_3 < (l0_1.length : Int)) = false := decide_eq_false c23
                  clear c23
                  by_cases c31 : x9_3 = true
                  · subst c31
                    have H1 : (if ([] : List Int).length + l2.length < 140737488355328 then ((some (([] : List Int) ++ l2 : List Int)).bind fun y546 => ((types_Put.f k3 l0_0 l0_1).bind fun t549 => (if y546.length + t549.length < 140737488355328 then ((some (y546 ++ t549 : List Int)).bind fun y552 => ((types_PutLimits.f k3 a1_0 a1_1 a1_2).bind fun t555 => (if y552.length + t555.length < 140737488355328 then ((some (y552 ++ t555 : List Int)).bind fun y558 => (if y558.length + l3.length < 140737488355328 then ((some (y558 ++ l3 : List Int)).bind fun y561 => ((types_Func.f k3 y561 (l2.length : Int)).bind fun bt564 => ((types_Limits.f k3 y561 bt564.2.2.1).bind fun bt573 => (if bt564.2.2.2 = 0 then (if bt573.2.2.2.2 = 0 then ((jacquardref00_Func.f k3 l0_0 l0_1 bt564.1 bt564.2.1).bind fun t579 => (if t579 = true then (if (bt573.1 == a1_0 && (bt573.2.1 == a1_1 && (bt573.2.2.1 == a1_2))) = true then (if bt564.2.2.1 = (wrap64 ((l2.length : Int) + (t549.length : Int))) then (if bt573.2.2.2.1 = (wrap64 (bt564.2.2.1 + (t555.length : Int))) then ((jacquardlaw09_works.f k3).bind fun t580 => (some t580)) else (some false)) else (some false)) else (some false)) else (some false))) else (some false)) else (some false))))) else (none))) else (none)))) else (none)))) else (none)) = some true := by rw [if_pos rfl] at H; exact H
                    clear H
                    have H := H1
                    clear H1
                    by_cases c32 : ([] : List Int).length + l2.length < 140737488355328
                    · rw [if_pos c32] at H
                      have LMc32 := Aside0.mk c32
                      clear c32
                      obtain ⟨y546, hy546⟩ : ∃ y_ : List Int, y_ = (([] : List Int) ++ l2) := ⟨_, rfl⟩
                      replace H : ((types_Put.f k3 l0_0 l0_1).bind fun t549 => (if y546.length + t549.length < 140737488355328 then ((some (y546 ++ t549 : List Int)).bind fun y552 => ((types_PutLimits.f k3 a1_0 a1_1 a1_2).bind fun t555 => (if y552.length + t555.length < 140737488355328 then ((some (y552 ++ t555 : List Int)).bind fun y558 => (if y558.length + l3.length < 140737488355328 then ((some (y558 ++ l3 : List Int)).bind fun y561 => ((types_Func.f k3 y561 (l2.length : Int)).bind fun bt564 => ((types_Limits.f k3 y561 bt564.2.2.1).bind fun bt573 => (if bt564.2.2.2 = 0 then (if bt573.2.2.2.2 = 0 then ((jacquardref00_Func.f k3 l0_0 l0_1 bt564.1 bt564.2.1).bind fun t579 => (if t579 = true then (if (bt573.1 == a1_0 && (bt573.2.1 == a1_1 && (bt573.2.2.1 == a1_2))) = true then (if bt564.2.2.1 = (wrap64 ((l2.length : Int) + (t549.length : Int))) then (if bt573.2.2.2.1 = (wrap64 (bt564.2.2.1 + (t555.length : Int))) then ((jacquardlaw09_works.f k3).bind fun t580 => (some t580)) else (some false)) else (some false)) else (some false)) else (some false))) else (some false)) else (some false))))) else (none))) else (none)))) else (none))) = some true := by first | (rw [hy546]; with_reducible exact H) | (have H2_ := (Option.bind_some _ _).symm.trans H; rw [hy546]; with_reducible exact H2_) | (have H2_ := (Option.bind_some _ _).symm.trans H; with_reducible exact H2_) | with_reducible exact H | (rw [hy546]; exact H) | exact H
                      have Ny546 := Aside0.mk hy546
                      clear hy546
                      replace H := Option.bind_eq_some_iff.mp H
                      obtain ⟨t549, A330, H⟩ := H
                      replace H : (if y546.length + t549.length < 140737488355328 then ((some (y546 ++ t549 : List Int)).bind fun y552 => ((types_PutLimits.f k3 a1_0 a1_1 a1_2).bind fun t555 => (if y552.length + t555.length < 140737488355328 then ((some (y552 ++ t555 : List Int)).bind fun y558 => (if y558.length + l3.length < 140737488355328 then ((some (y558 ++ l3 : List Int)).bind fun y561 => ((types_Func.f k3 y561 (l2.length : Int)).bind fun bt564 => ((types_Limits.f k3 y561 bt564.2.2.1).bind fun bt573 => (if bt564.2.2.2 = 0 then (if bt573.2.2.2.2 = 0 then ((jacquardref00_Func.f k3 l0_0 l0_1 bt564.1 bt564.2.1).bind fun t579 => (if t579 = true then (if (bt573.1 == a1_0 && (bt573.2.1 == a1_1 && (bt573.2.2.1 == a1_2))) = true then (if bt564.2.2.1 = (wrap64 ((l2.length : Int) + (t549.length : Int))) then (if bt573.2.2.2.1 = (wrap64 (bt564.2.2.1 + (t555.length : Int))) then ((jacquardlaw09_works.f k3).bind fun t580 => (some t580)) else (some false)) else (some false)) else (some false)) else (some false))) else (some false)) else (some false))))) else (none))) else (none)))) else (none)) = some true := H
                      have A33 := Aside0.mk A330
                      clear A330
                      by_cases c34 : y546.length + t549.length < 140737488355328
                      · rw [if_pos c34] at H
                        have LMc34 := Aside0.mk c34
                        clear c34
                        obtain ⟨y552, hy552⟩ : ∃ y_ : List Int, y_ = (y546 ++ t549) := ⟨_, rfl⟩
                        replace H : ((types_PutLimits.f k3 a1_0 a1_1 a1_2).bind fun t555 => (if y552.length + t555.length < 140737488355328 then ((some (y552 ++ t555 : List Int)).bind fun y558 => (if y558.length + l3.length < 140737488355328 then ((some (y558 ++ l3 : List Int)).bind fun y561 => ((types_Func.f k3 y561 (l2.length : Int)).bind fun bt564 => ((types_Limits.f k3 y561 bt564.2.2.1).bind fun bt573 => (if bt564.2.2.2 = 0 then (if bt573.2.2.2.2 = 0 then ((jacquardref00_Func.f k3 l0_0 l0_1 bt564.1 bt564.2.1).bind fun t579 => (if t579 = true then (if (bt573.1 == a1_0 && (bt573.2.1 == a1_1 && (bt573.2.2.1 == a1_2))) = true then (if bt564.2.2.1 = (wrap64 ((l2.length : Int) + (t549.length : Int))) then (if bt573.2.2.2.1 = (wrap64 (bt564.2.2.1 + (t555.length : Int))) then ((jacquardlaw09_works.f k3).bind fun t580 => (some t580)) else (some false)) else (some false)) else (some false)) else (some false))) else (some false)) else (some false))))) else (none))) else (none))) = some true := by first | (rw [hy552]; with_reducible exact H) | (have H2_ := (Option.bind_some _ _).symm.trans H; rw [hy552]; with_reducible exact H2_) | (have H2_ := (Option.bind_some _ _).symm.trans H; with_reducible exact H2_) | with_reducible exact H | (rw [hy552]; exact H) | exact H
                        have Ny552 := Aside0.mk hy552
                        clear hy552
                        replace H := Option.bind_eq_some_iff.mp H
                        obtain ⟨t555, A350, H⟩ := H
                        replace H : (if y552.length + t555.length < 140737488355328 then ((some (y552 ++ t555 : List Int)).bind fun y558 => (if y558.length + l3.length < 140737488355328 then ((some (y558 ++ l3 : List Int)).bind fun y561 => ((types_Func.f k3 y561 (l2.length : Int)).bind fun bt564 => ((types_Limits.f k3 y561 bt564.2.2.1).bind fun bt573 => (if bt564.2.2.2 = 0 then (if bt573.2.2.2.2 = 0 then ((jacquardref00_Func.f k3 l0_0 l0_1 bt564.1 bt564.2.1).bind fun t579 => (if t579 = true then (if (bt573.1 == a1_0 && (bt573.2.1 == a1_1 && (bt573.2.2.1 == a1_2))) = true then (if bt564.2.2.1 = (wrap64 ((l2.length : Int) + (t549.length : Int))) then (if bt573.2.2.2.1 = (wrap64 (bt564.2.2.1 + (t555.length : Int))) then ((jacquardlaw09_works.f k3).bind fun t580 => (some t580)) else (some false)) else (some false)) else (some false)) else (some false))) else (some false)) else (some false))))) else (none))) else (none)) = some true := H
                        have A35 := Aside0.mk A350
                        clear A350
                        by_cases c36 : y552.length + t555.length < 140737488355328
                        · rw [if_pos c36] at H
                          have LMc36 := Aside0.mk c36
                          clear c36
                          obtain ⟨y558, hy558⟩ : ∃ y_ : List Int, y_ = (y552 ++ t555) := ⟨_, rfl⟩
                          replace H : (if y558.length + l3.length < 140737488355328 then ((some (y558 ++ l3 : List Int)).bind fun y561 => ((types_Func.f k3 y561 (l2.length : Int)).bind fun bt564 => ((types_Limits.f k3 y561 bt564.2.2.1).bind fun bt573 => (if bt564.2.2.2 = 0 then (if bt573.2.2.2.2 = 0 then ((jacquardref00_Func.f k3 l0_0 l0_1 bt564.1 bt564.2.1).bind fun t579 => (if t579 = true then (if (bt573.1 == a1_0 && (bt573.2.1 == a1_1 && (bt573.2.2.1 == a1_2))) = true then (if bt564.2.2.1 = (wrap64 ((l2.length : Int) + (t549.length : Int))) then (if bt573.2.2.2.1 = (wrap64 (bt564.2.2.1 + (t555.length : Int))) then ((jacquardlaw09_works.f k3).bind fun t580 => (some t580)) else (some false)) else (some false)) else (some false)) else (some false))) else (some false)) else (some false))))) else (none)) = some true := by first | (rw [hy558]; with_reducible exact H) | (have H2_ := (Option.bind_some _ _).symm.trans H; rw [hy558]; with_reducible exact H2_) | (have H2_ := (Option.bind_some _ _).symm.trans H; with_reducible exact H2_) | with_reducible exact H | (rw [hy558]; exact H) | exact H
                          have Ny558 := Aside0.mk hy558
                          clear hy558
                          by_cases c37 : y558.length + l3.length < 140737488355328
                          · rw [if_pos c37] at H
                            have LMc37 := Aside0.mk c37
                            clear c37
                            obtain ⟨y561, hy561⟩ : ∃ y_ : List Int, y_ = (y558 ++ l3) := ⟨_, rfl⟩
                            replace H : ((types_Func.f k3 y561 (l2.length : Int)).bind fun bt564 => ((types_Limits.f k3 y561 bt564.2.2.1).bind fun bt573 => (if bt564.2.2.2 = 0 then (if bt573.2.2.2.2 = 0 then ((jacquardref00_Func.f k3 l0_0 l0_1 bt564.1 bt564.2.1).bind fun t579 => (if t579 = true then (if (bt573.1 == a1_0 && (bt573.2.1 == a1_1 && (bt573.2.2.1 == a1_2))) = true then (if bt564.2.2.1 = (wrap64 ((l2.length : Int) + (t549.length : Int))) then (if bt573.2.2.2.1 = (wrap64 (bt564.2.2.1 + (t555.length : Int))) then ((jacquardlaw09_works.f k3).bind fun t580 => (some t580)) else (some false)) else (some false)) else (some false)) else (some false))) else (some false)) else (some false)))) = some true := by first | (rw [hy561]; with_reducible exact H) | (have H2_ := (Option.bind_some _ _).symm.trans H; rw [hy561]; with_reducible exact H2_) | (have H2_ := (Option.bind_some _ _).symm.trans H; with_reducible exact H2_) | with_reducible exact H | (rw [hy561]; exact H) | exact H
                            have Ny561 := Aside0.mk hy561
                            clear hy561
                            replace H := Option.bind_eq_some_iff.mp H
                            obtain ⟨⟨t564, t567, t570, t571⟩, A380, H⟩ := H
                            replace H : ((types_Limits.f k3 y561 t570).bind fun bt573 => (if t571 = 0 then (if bt573.2.2.2.2 = 0 then ((jacquardref00_Func.f k3 l0_0 l0_1 t564 t567).bind fun t579 => (if t579 = true then (if (bt573.1 == a1_0 && (bt573.2.1 == a1_1 && (bt573.2.2.1 == a1_2))) = true then (if t570 = (wrap64 ((l2.length : Int) + (t549.length : Int))) then (if bt573.2.2.2.1 = (wrap64 (t570 + (t555.length : Int))) then ((jacquardlaw09_works.f k3).bind fun t580 => (some t580)) else (some false)) else (some false)) else (some false)) else (some false))) else (some false)) else (some false))) = some true := H
                            have A38 := Aside0.mk A380
                            clear A380
                            replace H := Option.bind_eq_some_iff.mp H
                            obtain ⟨⟨t573, t574, t575, t576, t577⟩, A390, H⟩ := H
                            replace H : (if t571 = 0 then (if t577 = 0 then ((jacquardref00_Func.f k3 l0_0 l0_1 t564 t567).bind fun t579 => (if t579 = true then (if (t573 == a1_0 && (t574 == a1_1 && (t575 == a1_2))) = true then (if t570 = (wrap64 ((l2.length : Int) + (t549.length : Int))) then (if t576 = (wrap64 (t570 + (t555.length : Int))) then ((jacquardlaw09_works.f k3).bind fun t580 => (some t580)) else (some false)) else (some false)) else (some false)) else (some false))) else (some false)) else (some false)) = some true := H
                            have A39 := Aside0.mk A390
                            clear A390
                            by_cases c40 : t571 = 0
                            · rw [if_pos c40] at H
                              have c40b0 : (t571 == 0) = true := beq_iff_eq.mpr c40
                              have c40b1 : (t571 != 0) = false := bne_eq_false_iff_eq.mpr c40
                              clear c40
                              by_cases c41 : t577 = 0
                              · rw [if_pos c41] at H
                                have c41b0 : (t577 == 0) = true := beq_iff_eq.mpr c41
                                have c41b1 : (t577 != 0) = false := bne_eq_false_iff_eq.mpr c41
                                clear c41
                                replace H := Option.bind_eq_some_iff.mp H
                                obtain ⟨t579, A420, H⟩ := H
                                replace H : (if t579 = true then (if (t573 == a1_0 && (t574 == a1_1 && (t575 == a1_2))) = true then (if t570 = (wrap64 ((l2.length : Int) + (t549.length : Int))) then (if t576 = (wrap64 (t570 + (t555.length : Int))) then ((jacquardlaw09_works.f k3).bind fun t580 => (some t580)) else (some false)) else (some false)) else (some false)) else (some false)) = some true := H
                                have A42 := Aside0.mk A420
                                clear A420
                                by_cases c43 : t579 = true
                                · subst c43
                                  have H1 : (if (t573 == a1_0 && (t574 == a1_1 && (t575 == a1_2))) = true then (if t570 = (wrap64 ((l2.length : Int) + (t549.length : Int))) then (if t576 = (wrap64 (t570 + (t555.length : Int))) then ((jacquardlaw09_works.f k3).bind fun t580 => (some t580)) else (some false)) else (some false)) else (some false)) = some true := by rw [if_pos rfl] at H; exact H
                                  clear H
                                  have H := H1
                                  clear H1
                                  by_cases c44 : (t573 == a1_0 && (t574 == a1_1 && (t575 == a1_2))) = true
                                  · rw [if_pos c44] at H
                                    have c44b0 : (t573 == a1_0 && (t574 == a1_1 && (t575 == a1_2))) = true := c44
                                    (try (have c44b1 : decide (t573 = a1_0 && (t574 == a1_1 && (t575 == a1_2))) = true := by simpa using c44))
                                    (try (have c44b2 : (t573 == a1_0 && (t574 == a1_1 && (t575 == a1_2))) = true := by simpa using c44))
                                    clear c44
                                    by_cases c45 : t570 = (wrap64 ((l2.length : Int) + (t549.length : Int)))
                                    · rw [if_pos c45] at H
                                      have c45b0 : (t570 == (wrap64 ((l2.length : Int) + (t549.length : Int)))) = true := beq_iff_eq.mpr c45
                                      have c45b1 : (t570 != (wrap64 ((l2.length : Int) + (t549.length : Int)))) = false := bne_eq_false_iff_eq.mpr c45
                                      clear c45
                                      by_cases c46 : t576 = (wrap64 (t570 + (t555.length : Int)))
                                      · rw [if_pos c46] at H
                                        have c46b0 : (t576 == (wrap64 (t570 + (t555.length : Int)))) = true := beq_iff_eq.mpr c46
                                        have c46b1 : (t576 != (wrap64 (t570 + (t555.length : Int)))) = false := bne_eq_false_iff_eq.mpr c46
                                        clear c46
                                        replace H := Option.bind_eq_some_iff.mp H
                                        obtain ⟨t580, A470, H⟩ := H
                                        replace H : (some t580) = some true := H
                                        have A47 := Aside0.mk A470
                                        clear A470
                                        replace H := Option.some.inj H
                                        have hnb48 := NB539_540.out
                                        have hnc48 := NB540_539.out
                                        have hcz49_0 : wr.cell? ⟨gb539, 0, none⟩ = some (.slice A0_0 l0_0.length c0_0) := (blk_cell BK539.out 0).trans rfl
                                        have hcz49_1 : wr.cell? ⟨gb539, 1, none⟩ = some (.slice A0_1 l0_1.length c0_1) := (blk_cell BK539.out 1).trans rfl
                                        have hfz49_0 := blk_frozen BK539.out 0
                                        have hfz49_1 := blk_frozen BK539.out 1
                                        go_wp2_with (first | ((with_reducible refine gate_builtin (b := .append) (xs := #[.tmp 63, .tmp 64]) rfl ?_); (try (refine gate_guard (by rfl) ?_; dsimp only)); at_builtin; refine Kd.R_append_rows (Kd.int .u8) (w0 := w) w.heap.size rfl (.tmp 63) (.tmp 64) 22 5 (.int .u8 0) 1 rfl Try.underlying22 info5 rfl (by decide) (by omega) (.slice none 0 0) ([] : List Int) l2 _ _ _ (fun _ => True) (fun _ => False) rfl rfl ?aO ?aR (fun _ _ h => h) (fun _ h => h.elim) ?aF ?aB ?aS ?aL ?_; (case aR => repeat (first | exact (Kd.C_below HR2.out HB.out) | (with_reducible refine Kd.C_alloc ?_ _) | (with_reducible refine Kd.C_drewN ?_ _) | (with_reducible refine Kd.C_drew ?_))); (case aB => exact (by repeat (first | (with_reducible first | exact HB.out | apply below_alloc | apply pw_below_drewN | apply below_drew1 | refine below_set ?_ GE539.out | refine below_set ?_ GE540.out) | exact HB.out))); (case aF => exact (fun _ _ => trivial)); (case aO => exact ((Kd.R_nil _ _ _ _ (fun _ => True)))); (case aS => exact (below_size (by repeat (first | (with_reducible first | exact HB.out | apply below_alloc | apply pw_below_drewN | apply below_drew1 | refine below_set ?_ GE539.out | refine below_set ?_ GE540.out) | exact HB.out)))); (case aL => have := LMc32.out; omega); intro v547 w50 ho hb hg hat; rw [← Ny546.out] at ho; have n0_ := Aside0.mk (blk_grown (g := gb539) (o := .cells #[.slice A0_0 l0_0.length c0_0, .slice A0_1 l0_1.length c0_1] 25 (0, 0)) (by (with_reducible repeat (first | refine blk_drewN ?_ _ | refine blk_drew ?_ | refine blk_alloc ?_ _)); exact BK539.out) hg (by simp [Value.ownBlock])); have n1_ := Aside0.mk (blk_grown (g := gb540) (o := .cells #[.int .u32 a1_0, .int .u32 a1_1, .bool a1_2] 45 (0, 0)) (by (with_reducible repeat (first | refine blk_drewN ?_ _ | refine blk_drew ?_ | refine blk_alloc ?_ _)); exact BK540.out) hg (by simp [Value.ownBlock])); have n2_ := Aside0.mk (hb); have n3_ := Aside0.mk (ho); clear BK539; clear BK540; clear HB; have BK539 := n0_; have BK540 := n1_; have HB := n2_; have HO548 := n3_; clear n0_ n1_ n2_ n3_; clear ho hb hg hat; have hcz51_0 : w50.cell? ⟨gb539, 0, none⟩ = some (.slice A0_0 l0_0.length c0_0) := (blk_cell BK539.out 0).trans rfl; have hcz51_1 : w50.cell? ⟨gb539, 1, none⟩ = some (.slice A0_1 l0_1.length c0_1) := (blk_cell BK539.out 1).trans rfl; have hfz51_0 := blk_frozen BK539.out 0; have hfz51_1 := blk_frozen BK539.out 1) | ((with_reducible refine gate_callee (f := 36) rfl ?_); refine goesL_ (some 67) rfl rfl Try.func36 (by kernel_rfl) rfl #[.agg #[.slice A0_0 l0_0.length c0_0, .slice A0_1 l0_1.length c0_1]] rfl (by (try simp only [List.map_toArray, List.map_cons, List.map_nil]); first | done | rfl | (simp only [List.length_drop, List.length_take]; rfl)) ?_; (with_reducible refine (types_Put.calls k3 _ _ l0_0 _ _ l0_1 t549 _ ?side1 ?side2 ?side3 ?side4 A33.out).mono ?_); (case side1 => repeat (first | exact (Kd.C_below HR0_0.out HB.out) | (with_reducible refine Kd.C_alloc ?_ _) | (with_reducible refine Kd.C_drewN ?_ _) | (with_reducible refine Kd.C_drew ?_))); (case side2 => exact HC0_0.out); (case side3 => repeat (first | exact (Kd.C_below HR0_1.out HB.out) | (with_reducible refine Kd.C_alloc ?_ _) | (with_reducible refine Kd.C_drewN ?_ _) | (with_reducible refine Kd.C_drew ?_))); (case side4 => exact HC0_1.out); rintro e w52 ⟨v550, rfl, ho0, hb⟩; refine ⟨_, rfl, ?_⟩; have n0_ := Aside0.mk (Kd.R_elder' (by (with_reducible repeat (first | apply Kd.R_alloc | apply Kd.R_drewN | apply Kd.R_drew)); exact HO548.out) (Kd.R_base ho0) hb); have n1_ := Aside0.mk (Kd.R_lower (Kd.R_new' ho0 (Kd.R_lt (by (with_reducible repeat (first | apply Kd.R_alloc | apply Kd.R_drewN | apply Kd.R_drew)); exact HO548.out))) (below_size (by repeat (first | (with_reducible first | exact HB.out | apply below_alloc | apply pw_below_drewN | apply below_drew1 | refine below_set ?_ GE539.out | refine below_set ?_ GE540.out) | exact HB.out)))); have n2_ := Aside0.mk (blk_below (g := gb539) (o := .cells #[.slice A0_0 l0_0.length c0_0, .slice A0_1 l0_1.length c0_1] 25 (0, 0)) (by (with_reducible repeat (first | refine blk_drewN ?_ _ | refine blk_drew ?_ | refine blk_alloc ?_ _)); exact BK539.out) hb); have n3_ := Aside0.mk (blk_below (g := gb540) (o := .cells #[.int .u32 a1_0, .int .u32 a1_1, .bool a1_2] 45 (0, 0)) (by (with_reducible repeat (first | refine blk_drewN ?_ _ | refine blk_drew ?_ | refine blk_alloc ?_ _)); exact BK540.out) hb); have n4_ := Aside0.mk (below_step (by repeat (first | (with_reducible first | exact HB.out | apply below_alloc | apply pw_below_drewN | apply below_drew1 | refine below_set ?_ GE539.out | refine below_set ?_ GE540.out) | exact HB.out)) hb); clear HO548; clear BK539; clear BK540; clear HB; have HO548 := n0_; have HO551 := n1_; have BK539 := n2_; have BK540 := n3_; have HB := n4_; clear n0_ n1_ n2_ n3_ n4_; (try clear hb); (try clear hb2); (try clear hk); (try clear hi); (try clear ho0); obtain ⟨Ao54, co54, eo54⟩ := Kd.R_slice HO551.out; subst eo54) | ((with_reducible refine gate_builtin (b := .append) (xs := #[.tmp 68, .tmp 69]) rfl ?_); (try (refine gate_guard (by rfl) ?_; dsimp only)); at_builtin; refine Kd.R_append_rows (Kd.int .u8) (w0 := w) w.heap.size rfl (.tmp 68) (.tmp 69) 22 5 (.int .u8 0) 1 rfl Try.underlying22 info5 rfl (by decide) (by omega) v547 y546 t549 _ _ _ (fun k_ => some k_ ≠ (.slice Ao54 t549.length co54 : Value).ownBlock) (fun _ => False) rfl rfl ?aO ?aR (fun _ _ h => h) (fun _ h => h.elim) ?aF ?aB ?aS ?aL ?_; (case aR => repeat (first | exact (Kd.R_reads' HO551.out).2.2 | (with_reducible refine Kd.C_alloc ?_ _) | (with_reducible refine Kd.C_drewN ?_ _) | (with_reducible refine Kd.C_drew ?_))); (case aB => exact (by repeat (first | (with_reducible first | exact HB.out | apply below_alloc | apply pw_below_drewN | apply below_drew1 | refine below_set ?_ GE539.out | refine below_set ?_ GE540.out) | exact HB.out))); (case aF => exact (fun k_ hk => Kd.fresh' (Kd.R_lt (by (with_reducible repeat (first | apply Kd.R_alloc | apply Kd.R_drewN | apply Kd.R_drew)); exact HO551.out)) k_ hk)); (case aO => exact (by (with_reducible repeat (first | apply Kd.R_alloc | apply Kd.R_drewN | apply Kd.R_drew)); (first | exact Kd.R_mono HO548.out (fun _ hk => hk.2) | exact Kd.R_mono HO548.out (fun _ hk => trivial) | exact Kd.R_mono HO548.out (fun _ hk => hk) | exact Kd.R_mono HO548.out (fun _ hk => hk.1) | exact Kd.R_mono HO548.out (fun _ hk => ⟨hk.2, hk.1⟩)))); (case aS => exact (below_size (by repeat (first | (with_reducible first | exact HB.out | apply below_alloc | apply pw_below_drewN | apply below_drew1 | refine below_set ?_ GE539.out | refine below_set ?_ GE540.out) | exact HB.out)))); (case aL => have := LMc34.out; omega); intro v553 w53 ho hb hg hat; rw [← Ny552.out] at ho; have n0_ := Aside0.mk (blk_grown (g := gb539) (o := .cells #[.slice A0_0 l0_0.length c0_0, .slice A0_1 l0_1.length c0_1] 25 (0, 0)) (by (with_reducible repeat (first | refine blk_drewN ?_ _ | refine blk_drew ?_ | refine blk_alloc ?_ _)); exact BK539.out) hg (Kd.R_ne HO548.out BK539.out (by decide))); have n1_ := Aside0.mk (blk_grown (g := gb540) (o := .cells #[.int .u32 a1_0, .int .u32 a1_1, .bool a1_2] 45 (0, 0)) (by (with_reducible repeat (first | refine blk_drewN ?_ _ | refine blk_drew ?_ | refine blk_alloc ?_ _)); exact BK540.out) hg (Kd.R_ne HO548.out BK540.out (by decide))); have n2_ := Aside0.mk (Kd.R_after (ok := (fun _ => True)) (by (with_reducible repeat (first | apply Kd.R_alloc | apply Kd.R_drewN | apply Kd.R_drew)); exact HO551.out) hg hat); have n3_ := Aside0.mk (hb); have n4_ := Aside0.mk (ho); clear BK539; clear BK540; clear HO551; clear HB; clear HO548; have BK539 := n0_; have BK540 := n1_; have HO551 := n2_; have HB := n3_; have HO554 := n4_; clear n0_ n1_ n2_ n3_ n4_; clear ho hb hg hat; have hcz55_0 : w53.cell? ⟨gb540, 0, none⟩ = some (.int .u32 a1_0) := (blk_cell BK540.out 0).trans rfl; have hcz55_1 : w53.cell? ⟨gb540, 1, none⟩ = some (.int .u32 a1_1) := (blk_cell BK540.out 1).trans rfl; have hcz55_2 : w53.cell? ⟨gb540, 2, none⟩ = some (.bool a1_2) := (blk_cell BK540.out 2).trans rfl; have hfz55_0 := blk_frozen BK540.out 0; have hfz55_1 := blk_frozen BK540.out 1; have hfz55_2 := blk_frozen BK540.out 2) | ((with_reducible refine gate_callee (f := 47) rfl ?_); refine goesL_ (some 72) rfl rfl Try.func47 (by kernel_rfl) rfl #[.agg #[.int .u32 a1_0, .int .u32 a1_1, .bool a1_2]] rfl (by (try simp only [List.map_toArray, List.map_cons, List.map_nil]); first | done | rfl | (simp only [List.length_drop, List.length_take]; rfl)) ?_; (with_reducible refine (types_PutLimits.calls k3 a1_0 a1_1 a1_2 t555 _ A35.out).mono ?_); rintro e w56 ⟨v556, rfl, ho0, hb⟩; refine ⟨_, rfl, ?_⟩; have n0_ := Aside0.mk (Kd.R_elder' (by (with_reducible repeat (first | apply Kd.R_alloc | apply Kd.R_drewN | apply Kd.R_drew)); exact HO551.out) (Kd.R_base ho0) hb); have n1_ := Aside0.mk (Kd.R_elder' (by (with_reducible repeat (first | apply Kd.R_alloc | apply Kd.R_drewN | apply Kd.R_drew)); exact HO554.out) (Kd.R_base ho0) hb); have n2_ := Aside0.mk (Kd.R_lower (Kd.R_new' (Kd.R_new' ho0 (Kd.R_lt (by (with_reducible repeat (first | apply Kd.R_alloc | apply Kd.R_drewN | apply Kd.R_drew)); exact HO551.out))) (Kd.R_lt (by (with_reducible repeat (first | apply Kd.R_alloc | apply Kd.R_drewN | apply Kd.R_drew)); exact HO554.out))) (below_size (by repeat (first | (with_reducible first | exact HB.out | apply below_alloc | apply pw_below_drewN | apply below_drew1 | refine below_set ?_ GE539.out | refine below_set ?_ GE540.out) | exact HB.out)))); have n3_ := Aside0.mk (blk_below (g := gb539) (o := .cells #[.slice A0_0 l0_0.length c0_0, .slice A0_1 l0_1.length c0_1] 25 (0, 0)) (by (with_reducible repeat (first | refine blk_drewN ?_ _ | refine blk_drew ?_ | refine blk_alloc ?_ _)); exact BK539.out) hb); have n4_ := Aside0.mk (blk_below (g := gb540) (o := .cells #[.int .u32 a1_0, .int .u32 a1_1, .bool a1_2] 45 (0, 0)) (by (with_reducible repeat (first | refine blk_drewN ?_ _ | refine blk_drew ?_ | refine blk_alloc ?_ _)); exact BK540.out) hb); have n5_ := Aside0.mk (below_step (by repeat (first | (with_reducible first | exact HB.out | apply below_alloc | apply pw_below_drewN | apply below_drew1 | refine below_set ?_ GE539.out | refine below_set ?_ GE540.out) | exact HB.out)) hb); clear HO551; clear HO554; clear BK539; clear BK540; clear HB; have HO551 := n0_; have HO554 := n1_; have HO557 := n2_; have BK539 := n3_; have BK540 := n4_; have HB := n5_; clear n0_ n1_ n2_ n3_ n4_ n5_; (try clear hb); (try clear hb2); (try clear hk); (try clear hi); (try clear ho0); obtain ⟨Ao58, co58, eo58⟩ := Kd.R_slice HO557.out; subst eo58) | ((with_reducible refine gate_builtin (b := .append) (xs := #[.tmp 73, .tmp 74]) rfl ?_); (try (refine gate_guard (by rfl) ?_; dsimp only)); at_builtin; refine Kd.R_append_rows (Kd.int .u8) (w0 := w) w.heap.size rfl (.tmp 73) (.tmp 74) 22 5 (.int .u8 0) 1 rfl Try.underlying22 info5 rfl (by decide) (by omega) v553 y552 t555 _ _ _ (fun k_ => some k_ ≠ (.slice Ao54 t549.length co54 : Value).ownBlock ∧ some k_ ≠ (.slice Ao58 t555.length co58 : Value).ownBlock) (fun _ => False) rfl rfl ?aO ?aR (fun _ _ h => h) (fun _ h => h.elim) ?aF ?aB ?aS ?aL ?_; (case aR => repeat (first | exact (Kd.R_reads' HO557.out).2.2 | (with_reducible refine Kd.C_alloc ?_ _) | (with_reducible refine Kd.C_drewN ?_ _) | (with_reducible refine Kd.C_drew ?_))); (case aB => exact (by repeat (first | (with_reducible first | exact HB.out | apply below_alloc | apply pw_below_drewN | apply below_drew1 | refine below_set ?_ GE539.out | refine below_set ?_ GE540.out) | exact HB.out))); (case aF => exact (fun k_ hk => ⟨Kd.fresh' (Kd.R_lt (by (with_reducible repeat (first | apply Kd.R_alloc | apply Kd.R_drewN | apply Kd.R_drew)); exact HO551.out)) k_ hk, Kd.fresh' (Kd.R_lt (by (with_reducible repeat (first | apply Kd.R_alloc | apply Kd.R_drewN | apply Kd.R_drew)); exact HO557.out)) k_ hk⟩)); (case aO => exact (by (with_reducible repeat (first | apply Kd.R_alloc | apply Kd.R_drewN | apply Kd.R_drew)); exact HO554.out)); (case aS => exact (below_size (by repeat (first | (with_reducible first | exact HB.out | apply below_alloc | apply pw_below_drewN | apply below_drew1 | refine below_set ?_ GE539.out | refine below_set ?_ GE540.out) | exact HB.out)))); (case aL => have := LMc36.out; omega); intro v559 w57 ho hb hg hat; rw [← Ny558.out] at ho; have n0_ := Aside0.mk (blk_grown (g := gb539) (o := .cells #[.slice A0_0 l0_0.length c0_0, .slice A0_1 l0_1.length c0_1] 25 (0, 0)) (by (with_reducible repeat (first | refine blk_drewN ?_ _ | refine blk_drew ?_ | refine blk_alloc ?_ _)); exact BK539.out) hg (Kd.R_ne HO554.out BK539.out (by decide))); have n1_ := Aside0.mk (blk_grown (g := gb540) (o := .cells #[.int .u32 a1_0, .int .u32 a1_1, .bool a1_2] 45 (0, 0)) (by (with_reducible repeat (first | refine blk_drewN ?_ _ | refine blk_drew ?_ | refine blk_alloc ?_ _)); exact BK540.out) hg (Kd.R_ne HO554.out BK540.out (by decide))); have n2_ := Aside0.mk (Kd.R_after (ok := (fun k_ => some k_ ≠ (.slice Ao58 t555.length co58 : Value).ownBlock)) (by (with_reducible repeat (first | apply Kd.R_alloc | apply Kd.R_drewN | apply Kd.R_drew)); exact Kd.R_mono HO551.out (fun _ hk => ⟨hk.2, hk.1.2⟩)) hg hat); have n3_ := Aside0.mk (Kd.R_after (ok := (fun k_ => some k_ ≠ (.slice Ao54 t549.length co54 : Value).ownBlock)) (by (with_reducible repeat (first | apply Kd.R_alloc | apply Kd.R_drewN | apply Kd.R_drew)); exact Kd.R_mono HO557.out (fun _ hk => ⟨hk.1.2, hk.2⟩)) hg hat); have n4_ := Aside0.mk (hb); have n5_ := Aside0.mk (ho); clear BK539; clear BK540; clear HO551; clear HO557; clear HB; clear HO554; have BK539 := n0_; have BK540 := n1_; have HO551 := n2_; have HO557 := n3_; have HB := n4_; have HO560 := n5_; clear n0_ n1_ n2_ n3_ n4_ n5_; clear ho hb hg hat) | ((with_reducible refine gate_builtin (b := .append) (xs := #[.tmp 76, .tmp 77]) rfl ?_); (try (refine gate_guard (by rfl) ?_; dsimp only)); at_builtin; refine Kd.R_append_rows (Kd.int .u8) (w0 := w) w.heap.size rfl (.tmp 76) (.tmp 77) 22 5 (.int .u8 0) 1 rfl Try.underlying22 info5 rfl (by decide) (by omega) v559 y558 l3 _ _ _ (fun k_ => some k_ ≠ (.slice Ao54 t549.length co54 : Value).ownBlock ∧ some k_ ≠ (.slice Ao58 t555.length co58 : Value).ownBlock) (fun _ => False) rfl rfl ?aO ?aR (fun _ _ h => h) (fun _ h => h.elim) ?aF ?aB ?aS ?aL ?_; (case aR => repeat (first | exact (Kd.C_below HR3.out HB.out) | (with_reducible refine Kd.C_alloc ?_ _) | (with_reducible refine Kd.C_drewN ?_ _) | (with_reducible refine Kd.C_drew ?_))); (case aB => exact (by repeat (first | (with_reducible first | exact HB.out | apply below_alloc | apply pw_below_drewN | apply below_drew1 | refine below_set ?_ GE539.out | refine below_set ?_ GE540.out) | exact HB.out))); (case aF => exact (fun k_ hk => ⟨Kd.fresh' (Kd.R_lt (by (with_reducible repeat (first | apply Kd.R_alloc | apply Kd.R_drewN | apply Kd.R_drew)); exact HO551.out)) k_ hk, Kd.fresh' (Kd.R_lt (by (with_reducible repeat (first | apply Kd.R_alloc | apply Kd.R_drewN | apply Kd.R_drew)); exact HO557.out)) k_ hk⟩)); (case aO => exact (by (with_reducible repeat (first | apply Kd.R_alloc | apply Kd.R_drewN | apply Kd.R_drew)); exact HO560.out)); (case aS => exact (below_size (by repeat (first | (with_reducible first | exact HB.out | apply below_alloc | apply pw_below_drewN | apply below_drew1 | refine below_set ?_ GE539.out | refine below_set ?_ GE540.out) | exact HB.out)))); (case aL => have := LMc37.out; omega); intro v562 w59 ho hb hg hat; rw [← Ny561.out] at ho; have n0_ := Aside0.mk (blk_grown (g := gb539) (o := .cells #[.slice A0_0 l0_0.length c0_0, .slice A0_1 l0_1.length c0_1] 25 (0, 0)) (by (with_reducible repeat (first | refine blk_drewN ?_ _ | refine blk_drew ?_ | refine blk_alloc ?_ _)); exact BK539.out) hg (Kd.R_ne HO560.out BK539.out (by decide))); have n1_ := Aside0.mk (blk_grown (g := gb540) (o := .cells #[.int .u32 a1_0, .int .u32 a1_1, .bool a1_2] 45 (0, 0)) (by (with_reducible repeat (first | refine blk_drewN ?_ _ | refine blk_drew ?_ | refine blk_alloc ?_ _)); exact BK540.out) hg (Kd.R_ne HO560.out BK540.out (by decide))); have n2_ := Aside0.mk (Kd.R_after (ok := (fun k_ => some k_ ≠ (.slice Ao58 t555.length co58 : Value).ownBlock)) (by (with_reducible repeat (first | apply Kd.R_alloc | apply Kd.R_drewN | apply Kd.R_drew)); exact HO551.out) hg hat); have n3_ := Aside0.mk (Kd.R_after (ok := (fun k_ => some k_ ≠ (.slice Ao54 t549.length co54 : Value).ownBlock)) (by (with_reducible repeat (first | apply Kd.R_alloc | apply Kd.R_drewN | apply Kd.R_drew)); exact HO557.out) hg hat); have n4_ := Aside0.mk (hb); have n5_ := Aside0.mk (ho); clear BK539; clear BK540; clear HO551; clear HO557; clear HB; clear HO560; have BK539 := n0_; have BK540 := n1_; have HO551 := n2_; have HO557 := n3_; have HB := n4_; have HO563 := n5_; clear n0_ n1_ n2_ n3_ n4_ n5_; clear ho hb hg hat; obtain ⟨Ao60, co60, eo60⟩ := Kd.R_slice HO563.out; subst eo60) | ((with_reducible refine gate_callee (f := 12) rfl ?_); refine goesL_ (some 83) rfl rfl Try.func12 (by kernel_rfl) rfl #[.slice Ao60 y561.length co60, .int .i64 (l2.length : Int)] rfl (by (try simp only [List.map_toArray, List.map_cons, List.map_nil]); first | done | rfl | (simp only [List.length_drop, List.length_take]; rfl)) ?_; (with_reducible refine (types_Func.calls k3 _ _ y561 (l2.length : Int) t564 t567 t570 t571 _ ?side1 ?side2 A38.out).mono ?_); (case side1 => repeat (first | exact (Kd.R_reads' HO563.out).2.2 | (with_reducible refine Kd.C_alloc ?_ _) | (with_reducible refine Kd.C_drewN ?_ _) | (with_reducible refine Kd.C_drew ?_))); (case side2 => exact (Kd.R_reads' HO563.out).2.1); rintro e w61 ⟨v565, v568, rfl, ho0, ho1, hb⟩; refine ⟨_, rfl, ?_⟩; have n0_ := Aside0.mk (Kd.R_below (by (with_reducible repeat (first | apply Kd.R_alloc | apply Kd.R_drewN | apply Kd.R_drew)); exact HO551.out) hb); have n1_ := Aside0.mk (Kd.R_below (by (with_reducible repeat (first | apply Kd.R_alloc | apply Kd.R_drewN | apply Kd.R_drew)); exact HO557.out) hb); have n2_ := Aside0.mk (Kd.R_below (by (with_reducible repeat (first | apply Kd.R_alloc | apply Kd.R_drewN | apply Kd.R_drew)); exact HO563.out) hb); have n3_ := Aside0.mk (Kd.R_lower ho0 (below_size (by repeat (first | (with_reducible first | exact HB.out | apply below_alloc | apply pw_below_drewN | apply below_drew1 | refine below_set ?_ GE539.out | refine below_set ?_ GE540.out) | exact HB.out)))); have n4_ := Aside0.mk (Kd.R_lower ho1 (below_size (by repeat (first | (with_reducible first | exact HB.out | apply below_alloc | apply pw_below_drewN | apply below_drew1 | refine below_set ?_ GE539.out | refine below_set ?_ GE540.out) | exact HB.out)))); have n5_ := Aside0.mk (blk_below (g := gb539) (o := .cells #[.slice A0_0 l0_0.length c0_0, .slice A0_1 l0_1.length c0_1] 25 (0, 0)) (by (with_reducible repeat (first | refine blk_drewN ?_ _ | refine blk_drew ?_ | refine blk_alloc ?_ _)); exact BK539.out) hb); have n6_ := Aside0.mk (blk_below (g := gb540) (o := .cells #[.int .u32 a1_0, .int .u32 a1_1, .bool a1_2] 45 (0, 0)) (by (with_reducible repeat (first | refine blk_drewN ?_ _ | refine blk_drew ?_ | refine blk_alloc ?_ _)); exact BK540.out) hb); have n7_ := Aside0.mk (below_step (by repeat (first | (with_reducible first | exact HB.out | apply below_alloc | apply pw_below_drewN | apply below_drew1 | refine below_set ?_ GE539.out | refine below_set ?_ GE540.out) | exact HB.out)) hb); clear HO551; clear HO557; clear HO563; clear BK539; clear BK540; clear HB; have HO551 := n0_; have HO557 := n1_; have HO563 := n2_; have HO566 := n3_; have HO569 := n4_; have BK539 := n5_; have BK540 := n6_; have HB := n7_; clear n0_ n1_ n2_ n3_ n4_ n5_ n6_ n7_; (try clear hb); (try clear hb2); (try clear hk); (try clear hi); (try clear ho0); (try clear ho1)) | ((with_reducible refine gate_dst (N := 15) rfl ?_); (try (refine gate_guard (by rfl) ?_; dsimp only)); refine box_event ?hg (N := 15) ?hd (cs := #[.slice none 0 0, .slice none 0 0]) (t := 25) ?hr ?_; (case hd => rfl); (case hg => rfl); (case hr => first | (go_simp; done) | (go_simp; rfl)); intro gb572 hg w62 hbox hb; have n0_ := Aside0.mk (Kd.R_below (by (with_reducible repeat (first | apply Kd.R_alloc | apply Kd.R_drewN | apply Kd.R_drew)); exact HO551.out) hb); have n1_ := Aside0.mk (Kd.R_below (by (with_reducible repeat (first | apply Kd.R_alloc | apply Kd.R_drewN | apply Kd.R_drew)); exact HO557.out) hb); have n2_ := Aside0.mk (Kd.R_below (by (with_reducible repeat (first | apply Kd.R_alloc | apply Kd.R_drewN | apply Kd.R_drew)); exact HO563.out) hb); have n3_ := Aside0.mk (Kd.R_below (by (with_reducible repeat (first | apply Kd.R_alloc | apply Kd.R_drewN | apply Kd.R_drew)); exact HO566.out) hb); have n4_ := Aside0.mk (Kd.R_below (by (with_reducible repeat (first | apply Kd.R_alloc | apply Kd.R_drewN | apply Kd.R_drew)); exact HO569.out) hb); have n5_ := Aside0.mk (blk_below (g := gb539) (o := .cells #[.slice A0_0 l0_0.length c0_0, .slice A0_1 l0_1.length c0_1] 25 (0, 0)) (by (with_reducible repeat (first | refine blk_drewN ?_ _ | refine blk_drew ?_ | refine blk_alloc ?_ _)); exact BK539.out) hb); have n6_ := Aside0.mk (blk_below (g := gb540) (o := .cells #[.int .u32 a1_0, .int .u32 a1_1, .bool a1_2] 45 (0, 0)) (by (with_reducible repeat (first | refine blk_drewN ?_ _ | refine blk_drew ?_ | refine blk_alloc ?_ _)); exact BK540.out) hb); have n7_ := Aside0.mk (below_step (by repeat (first | (with_reducible first | exact HB.out | apply below_alloc | apply pw_below_drewN | apply below_drew1 | refine below_set ?_ GE539.out | refine below_set ?_ GE540.out) | exact HB.out)) hb); have n8_ := Aside0.mk (hbox); have n9_ := Aside0.mk ((by rw [hg]; exact (below_size (by repeat (first | (with_reducible first | exact HB.out | apply below_alloc | apply pw_below_drewN | apply below_drew1 | refine below_set ?_ GE539.out | refine below_set ?_ GE540.out) | exact HB.out))) : w.heap.size ≤ gb572)); have n10_ := Aside0.mk ((by rw [hg]; exact (below_size (by repeat (first | (with_reducible first | exact HB.out | apply below_alloc | apply pw_below_drewN | apply below_drew1 | refine below_set ?_ GE539.out | refine below_set ?_ GE540.out) | exact HB.out))) : w.heap.size ≤ gb572)); have n11_ := Aside0.mk ((by rw [hg]; exact Nat.ne_of_lt (blk_lt (g := gb539) (o := .cells #[.slice A0_0 l0_0.length c0_0, .slice A0_1 l0_1.length c0_1] 25 (0, 0)) (by (with_reducible repeat (first | refine blk_drewN ?_ _ | refine blk_drew ?_ | refine blk_alloc ?_ _)); exact BK539.out)) : gb539 ≠ gb572)); have n12_ := Aside0.mk ((by rw [hg]; exact Nat.ne_of_gt (blk_lt (g := gb539) (o := .cells #[.slice A0_0 l0_0.length c0_0, .slice A0_1 l0_1.length c0_1] 25 (0, 0)) (by (with_reducible repeat (first | refine blk_drewN ?_ _ | refine blk_drew ?_ | refine blk_alloc ?_ _)); exact BK539.out)) : gb572 ≠ gb539)); have n13_ := Aside0.mk ((by rw [hg]; exact Nat.ne_of_lt (blk_lt (g := gb540) (o := .cells #[.int .u32 a1_0, .int .u32 a1_1, .bool a1_2] 45 (0, 0)) (by (with_reducible repeat (first | refine blk_drewN ?_ _ | refine blk_drew ?_ | refine blk_alloc ?_ _)); exact BK540.out)) : gb540 ≠ gb572)); have n14_ := Aside0.mk ((by rw [hg]; exact Nat.ne_of_gt (blk_lt (g := gb540) (o := .cells #[.int .u32 a1_0, .int .u32 a1_1, .bool a1_2] 45 (0, 0)) (by (with_reducible repeat (first | refine blk_drewN ?_ _ | refine blk_drew ?_ | refine blk_alloc ?_ _)); exact BK540.out)) : gb572 ≠ gb540)); clear HO551; clear HO557; clear HO563; clear HO566; clear HO569; clear BK539; clear BK540; clear HB; have HO551 := n0_; have HO557 := n1_; have HO563 := n2_; have HO566 := n3_; have HO569 := n4_; have BK539 := n5_; have BK540 := n6_; have HB := n7_; have BK572 := n8_; have GW572 := n9_; have GE572 := n10_; have NB539_572 := n11_; have NB572_539 := n12_; have NB540_572 := n13_; have NB572_540 := n14_; clear n0_ n1_ n2_ n3_ n4_ n5_ n6_ n7_ n8_ n9_ n10_ n11_ n12_ n13_ n14_; clear hb hbox hg; obtain ⟨Ao63, co63, eo63⟩ := Kd.R_slice HO566.out; subst eo63; have hnb64 := NB572_539.out; have hnc64 := NB539_572.out; have hnb65 := NB572_540.out; have hnc65 := NB540_572.out; have hcz66_0 : w62.cell? ⟨gb572, 0, none⟩ = some (.slice none 0 0) := (blk_cell BK572.out 0).trans rfl; have hcz66_1 : w62.cell? ⟨gb572, 1, none⟩ = some (.slice none 0 0) := (blk_cell BK572.out 1).trans rfl; have hfz66_0 := blk_frozen BK572.out 0; have hfz66_1 := blk_frozen BK572.out 1; obtain ⟨Ao67, co67, eo67⟩ := Kd.R_slice HO569.out; subst eo67) | ((with_reducible refine gate_callee (f := 41) rfl ?_); refine goesL_ (some 90) rfl rfl Try.func41 (by kernel_rfl) rfl #[.slice Ao60 y561.length co60, .int .i64 t570] rfl (by (try simp only [List.map_toArray, List.map_cons, List.map_nil]); first | done | rfl | (simp only [List.length_drop, List.length_take]; rfl)) ?_; (with_reducible refine (types_Limits.calls k3 _ _ y561 t570 t573 t574 t575 t576 t577 _ ?side1 ?side2 A39.out).mono ?_); (case side1 => refine (Kd.R_reads' (e := 5) (base := w.heap.size) (ok := fun k_ => (some k_ ≠ (.slice Ao54 t549.length co54 : Value).ownBlock ∧ some k_ ≠ (.slice Ao58 t555.length co58 : Value).ownBlock)) (n := y561.length) (c := co60) ?_).2.2; exact (by (with_reducible repeat (first | apply Kd.R_alloc | apply Kd.R_drewN | apply Kd.R_drew)); exact (Kd.R_mono (Kd.R_far (p := ⟨gb572, 1, none⟩) (Kd.R_far (p := ⟨gb572, 0, none⟩) (Kd.R_types HO563.out BK572.out (by decide)) (fun _ hk => hk.2) (.slice Ao63 t564.length co63)) (fun _ hk => hk.2) (.slice Ao67 t567.length co67)) (fun _ h_ => h_.1)))); (case side2 => exact (Kd.R_reads' HO563.out).2.1); rintro e w68 ⟨rfl, hb⟩; refine ⟨_, rfl, ?_⟩; have n0_ := Aside0.mk (Kd.R_below (by (with_reducible repeat (first | apply Kd.R_alloc | apply Kd.R_drewN | apply Kd.R_drew)); exact (Kd.R_mono (Kd.R_far (p := ⟨gb572, 1, none⟩) (Kd.R_far (p := ⟨gb572, 0, none⟩) (Kd.R_types HO551.out BK572.out (by decide)) (fun _ hk => hk.2) (.slice Ao63 t564.length co63)) (fun _ hk => hk.2) (.slice Ao67 t567.length co67)) (fun _ h_ => h_.1))) hb); have n1_ := Aside0.mk (Kd.R_below (by (with_reducible repeat (first | apply Kd.R_alloc | apply Kd.R_drewN | apply Kd.R_drew)); exact (Kd.R_mono (Kd.R_far (p := ⟨gb572, 1, none⟩) (Kd.R_far (p := ⟨gb572, 0, none⟩) (Kd.R_types HO557.out BK572.out (by decide)) (fun _ hk => hk.2) (.slice Ao63 t564.length co63)) (fun _ hk => hk.2) (.slice Ao67 t567.length co67)) (fun _ h_ => h_.1))) hb); have n2_ := Aside0.mk (Kd.R_below (by (with_reducible repeat (first | apply Kd.R_alloc | apply Kd.R_drewN | apply Kd.R_drew)); exact (Kd.R_mono (Kd.R_far (p := ⟨gb572, 1, none⟩) (Kd.R_far (p := ⟨gb572, 0, none⟩) (Kd.R_types HO563.out BK572.out (by decide)) (fun _ hk => hk.2) (.slice Ao63 t564.length co63)) (fun _ hk => hk.2) (.slice Ao67 t567.length co67)) (fun _ h_ => h_.1))) hb); have n3_ := Aside0.mk (Kd.R_below (by (with_reducible repeat (first | apply Kd.R_alloc | apply Kd.R_drewN | apply Kd.R_drew)); exact (Kd.R_mono (Kd.R_far (p := ⟨gb572, 1, none⟩) (Kd.R_far (p := ⟨gb572, 0, none⟩) (Kd.R_types HO566.out BK572.out (by decide)) (fun _ hk => hk.2) (.slice Ao63 t564.length co63)) (fun _ hk => hk.2) (.slice Ao67 t567.length co67)) (fun _ h_ => h_.1))) hb); have n4_ := Aside0.mk (Kd.R_below (by (with_reducible repeat (first | apply Kd.R_alloc | apply Kd.R_drewN | apply Kd.R_drew)); exact (Kd.R_mono (Kd.R_far (p := ⟨gb572, 1, none⟩) (Kd.R_far (p := ⟨gb572, 0, none⟩) (Kd.R_types HO569.out BK572.out (by decide)) (fun _ hk => hk.2) (.slice Ao63 t564.length co63)) (fun _ hk => hk.2) (.slice Ao67 t567.length co67)) (fun _ h_ => h_.1))) hb); have n5_ := Aside0.mk (blk_below (g := gb539) (o := .cells #[.slice A0_0 l0_0.length c0_0, .slice A0_1 l0_1.length c0_1] 25 (0, 0)) (by (with_reducible repeat (first | refine blk_drewN ?_ _ | refine blk_drew ?_ | refine blk_alloc ?_ _)); refine blk_far ?_ NB539_572.out _; (with_reducible repeat (first | refine blk_drewN ?_ _ | refine blk_drew ?_ | refine blk_alloc ?_ _)); refine blk_far ?_ NB539_572.out _; (with_reducible repeat (first | refine blk_drewN ?_ _ | refine blk_drew ?_ | refine blk_alloc ?_ _)); exact BK539.out) hb); have n6_ := Aside0.mk (blk_below (g := gb540) (o := .cells #[.int .u32 a1_0, .int .u32 a1_1, .bool a1_2] 45 (0, 0)) (by (with_reducible repeat (first | refine blk_drewN ?_ _ | refine blk_drew ?_ | refine blk_alloc ?_ _)); refine blk_far ?_ NB540_572.out _; (with_reducible repeat (first | refine blk_drewN ?_ _ | refine blk_drew ?_ | refine blk_alloc ?_ _)); refine blk_far ?_ NB540_572.out _; (with_reducible repeat (first | refine blk_drewN ?_ _ | refine blk_drew ?_ | refine blk_alloc ?_ _)); exact BK540.out) hb); have n7_ := Aside0.mk (blk_below (g := gb572) (o := .cells #[.slice Ao63 t564.length co63, .slice Ao67 t567.length co67] 25 (0, 0)) (by (with_reducible repeat (first | refine blk_drewN ?_ _ | refine blk_drew ?_ | refine blk_alloc ?_ _)); refine blk_put (cs := #[.slice Ao63 t564.length co63, .slice none 0 0]) ?_ 1 _ rfl; (with_reducible repeat (first | refine blk_drewN ?_ _ | refine blk_drew ?_ | refine blk_alloc ?_ _)); refine blk_put (cs := #[.slice none 0 0, .slice none 0 0]) ?_ 0 _ rfl; (with_reducible repeat (first | refine blk_drewN ?_ _ | refine blk_drew ?_ | refine blk_alloc ?_ _)); exact BK572.out) hb); have n8_ := Aside0.mk (below_step (by repeat (first | (with_reducible first | exact HB.out | apply below_alloc | apply pw_below_drewN | apply below_drew1 | refine below_set ?_ GE539.out | refine below_set ?_ GE540.out | refine below_set ?_ GE572.out) | exact HB.out)) hb); clear HO551; clear HO557; clear HO563; clear HO566; clear HO569; clear BK539; clear BK540; clear BK572; clear HB; have HO551 := n0_; have HO557 := n1_; have HO563 := n2_; have HO566 := n3_; have HO569 := n4_; have BK539 := n5_; have BK540 := n6_; have BK572 := n7_; have HB := n8_; clear n0_ n1_ n2_ n3_ n4_ n5_ n6_ n7_ n8_; (try clear hb); (try clear hb2); (try clear hk); (try clear hi)) | ((with_reducible refine gate_dst (N := 18) rfl ?_); (try (refine gate_guard (by rfl) ?_; dsimp only)); refine box_event ?hg (N := 18) ?hd (cs := #[.int .u32 0, .int .u32 0, .bool false]) (t := 45) ?hr ?_; (case hd => rfl); (case hg => rfl); (case hr => first | (go_simp; done) | (go_simp; rfl)); intro gb578 hg w69 hbox hb; have n0_ := Aside0.mk (Kd.R_below (by (with_reducible repeat (first | apply Kd.R_alloc | apply Kd.R_drewN | apply Kd.R_drew)); exact HO551.out) hb); have n1_ := Aside0.mk (Kd.R_below (by (with_reducible repeat (first | apply Kd.R_alloc | apply Kd.R_drewN | apply Kd.R_drew)); exact HO557.out) hb); have n2_ := Aside0.mk (Kd.R_below (by (with_reducible repeat (first | apply Kd.R_alloc | apply Kd.R_drewN | apply Kd.R_drew)); exact HO563.out) hb); have n3_ := Aside0.mk (Kd.R_below (by (with_reducible repeat (first | apply Kd.R_alloc | apply Kd.R_drewN | apply Kd.R_drew)); exact HO566.out) hb); have n4_ := Aside0.mk (Kd.R_below (by (with_reducible repeat (first | apply Kd.R_alloc | apply Kd.R_drewN | apply Kd.R_drew)); exact HO569.out) hb); have n5_ := Aside0.mk (blk_below (g := gb539) (o := .cells #[.slice A0_0 l0_0.length c0_0, .slice A0_1 l0_1.length c0_1] 25 (0, 0)) (by (with_reducible repeat (first | refine blk_drewN ?_ _ | refine blk_drew ?_ | refine blk_alloc ?_ _)); exact BK539.out) hb); have n6_ := Aside0.mk (blk_below (g := gb540) (o := .cells #[.int .u32 a1_0, .int .u32 a1_1, .bool a1_2] 45 (0, 0)) (by (with_reducible repeat (first | refine blk_drewN ?_ _ | refine blk_drew ?_ | refine blk_alloc ?_ _)); exact BK540.out) hb); have n7_ := Aside0.mk (blk_below (g := gb572) (o := .cells #[.slice Ao63 t564.length co63, .slice Ao67 t567.length co67] 25 (0, 0)) (by (with_reducible repeat (first | refine blk_drewN ?_ _ | refine blk_drew ?_ | refine blk_alloc ?_ _)); exact BK572.out) hb); have n8_ := Aside0.mk (below_step (by repeat (first | (with_reducible first | exact HB.out | apply below_alloc | apply pw_below_drewN | apply below_drew1 | refine below_set ?_ GE539.out | refine below_set ?_ GE540.out | refine below_set ?_ GE572.out) | exact HB.out)) hb); have n9_ := Aside0.mk (hbox); have n10_ := Aside0.mk ((by rw [hg]; exact (below_size (by repeat (first | (with_reducible first | exact HB.out | apply below_alloc | apply pw_below_drewN | apply below_drew1 | refine below_set ?_ GE539.out | refine below_set ?_ GE540.out | refine below_set ?_ GE572.out) | exact HB.out))) : w.heap.size ≤ gb578)); have n11_ := Aside0.mk ((by rw [hg]; exact (below_size (by repeat (first | (with_reducible first | exact HB.out | apply below_alloc | apply pw_below_drewN | apply below_drew1 | refine below_set ?_ GE539.out | refine below_set ?_ GE540.out | refine below_set ?_ GE572.out) | exact HB.out))) : w.heap.size ≤ gb578)); have n12_ := Aside0.mk ((by rw [hg]; exact Nat.ne_of_lt (blk_lt (g := gb539) (o := .cells #[.slice A0_0 l0_0.length c0_0, .slice A0_1 l0_1.length c0_1] 25 (0, 0)) (by (with_reducible repeat (first | refine blk_drewN ?_ _ | refine blk_drew ?_ | refine blk_alloc ?_ _)); exact BK539.out)) : gb539 ≠ gb578)); have n13_ := Aside0.mk ((by rw [hg]; exact Nat.ne_of_gt (blk_lt (g := gb539) (o := .cells #[.slice A0_0 l0_0.length c0_0, .slice A0_1 l0_1.length c0_1] 25 (0, 0)) (by (with_reducible repeat (first | refine blk_drewN ?_ _ | refine blk_drew ?_ | refine blk_alloc ?_ _)); exact BK539.out)) : gb578 ≠ gb539)); have n14_ := Aside0.mk ((by rw [hg]; exact Nat.ne_of_lt (blk_lt (g := gb540) (o := .cells #[.int .u32 a1_0, .int .u32 a1_1, .bool a1_2] 45 (0, 0)) (by (with_reducible repeat (first | refine blk_drewN ?_ _ | refine blk_drew ?_ | refine blk_alloc ?_ _)); exact BK540.out)) : gb540 ≠ gb578)); have n15_ := Aside0.mk ((by rw [hg]; exact Nat.ne_of_gt (blk_lt (g := gb540) (o := .cells #[.int .u32 a1_0, .int .u32 a1_1, .bool a1_2] 45 (0, 0)) (by (with_reducible repeat (first | refine blk_drewN ?_ _ | refine blk_drew ?_ | refine blk_alloc ?_ _)); exact BK540.out)) : gb578 ≠ gb540)); have n16_ := Aside0.mk ((by rw [hg]; exact Nat.ne_of_lt (blk_lt (g := gb572) (o := .cells #[.slice Ao63 t564.length co63, .slice Ao67 t567.length co67] 25 (0, 0)) (by (with_reducible repeat (first | refine blk_drewN ?_ _ | refine blk_drew ?_ | refine blk_alloc ?_ _)); exact BK572.out)) : gb572 ≠ gb578)); have n17_ := Aside0.mk ((by rw [hg]; exact Nat.ne_of_gt (blk_lt (g := gb572) (o := .cells #[.slice Ao63 t564.length co63, .slice Ao67 t567.length co67] 25 (0, 0)) (by (with_reducible repeat (first | refine blk_drewN ?_ _ | refine blk_drew ?_ | refine blk_alloc ?_ _)); exact BK572.out)) : gb578 ≠ gb572)); clear HO551; clear HO557; clear HO563; clear HO566; clear HO569; clear BK539; clear BK540; clear BK572; clear HB; have HO551 := n0_; have HO557 := n1_; have HO563 := n2_; have HO566 := n3_; have HO569 := n4_; have BK539 := n5_; have BK540 := n6_; have BK572 := n7_; have HB := n8_; have BK578 := n9_; have GW578 := n10_; have GE578 := n11_; have NB539_578 := n12_; have NB578_539 := n13_; have NB540_578 := n14_; have NB578_540 := n15_; have NB572_578 := n16_; have NB578_572 := n17_; clear n0_ n1_ n2_ n3_ n4_ n5_ n6_ n7_ n8_ n9_ n10_ n11_ n12_ n13_ n14_ n15_ n16_ n17_; clear hb hbox hg; have hnb70 := NB578_539.out; have hnc70 := NB539_578.out; have hnb71 := NB578_540.out; have hnc71 := NB540_578.out; have hnb72 := NB578_572.out; have hnc72 := NB572_578.out; have hcz73_0 : w69.cell? ⟨gb578, 0, none⟩ = some (.int .u32 0) := (blk_cell BK578.out 0).trans rfl; have hcz73_1 : w69.cell? ⟨gb578, 1, none⟩ = some (.int .u32 0) := (blk_cell BK578.out 1).trans rfl; have hcz73_2 : w69.cell? ⟨gb578, 2, none⟩ = some (.bool false) := (blk_cell BK578.out 2).trans rfl; have hfz73_0 := blk_frozen BK578.out 0; have hfz73_1 := blk_frozen BK578.out 1; have hfz73_2 := blk_frozen BK578.out 2; have hcz74_0 : w69.cell? ⟨gb539, 0, none⟩ = some (.slice A0_0 l0_0.length c0_0) := (blk_cell BK539.out 0).trans rfl; have hcz74_1 : w69.cell? ⟨gb539, 1, none⟩ = some (.slice A0_1 l0_1.length c0_1) := (blk_cell BK539.out 1).trans rfl; have hfz74_0 := blk_frozen BK539.out 0; have hfz74_1 := blk_frozen BK539.out 1; have hcz75_0 : w69.cell? ⟨gb572, 0, none⟩ = some (.slice Ao63 t564.length co63) := (blk_cell BK572.out 0).trans rfl; have hcz75_1 : w69.cell? ⟨gb572, 1, none⟩ = some (.slice Ao67 t567.length co67) := (blk_cell BK572.out 1).trans rfl; have hfz75_0 := blk_frozen BK572.out 0; have hfz75_1 := blk_frozen BK572.out 1) | (go_at_call 16; (with_reducible refine (jacquardref00_Func.calls k3 _ _ l0_0 _ _ l0_1 _ _ t564 _ _ t567 true _ ?side1 ?side2 ?side3 ?side4 ?side5 ?side6 ?side7 ?side8 A42.out).mono ?_); (case side1 => exact Kd.C_below HR0_0.out (by repeat (first | (with_reducible first | exact HB.out | apply below_alloc | apply pw_below_drewN | apply below_drew1 | refine below_set ?_ GE539.out | refine below_set ?_ GE540.out | refine below_set ?_ GE572.out | refine below_set ?_ GE578.out) | exact HB.out))); (case side2 => exact HC0_0.out); (case side3 => exact Kd.C_below HR0_1.out (by repeat (first | (with_reducible first | exact HB.out | apply below_alloc | apply pw_below_drewN | apply below_drew1 | refine below_set ?_ GE539.out | refine below_set ?_ GE540.out | refine below_set ?_ GE572.out | refine below_set ?_ GE578.out) | exact HB.out))); (case side4 => exact HC0_1.out); (case side5 => refine (Kd.R_reads' (e := 29) (base := w.heap.size) (ok := fun k_ => some k_ ≠ (.slice Ao67 t567.length co67 : Value).ownBlock) (n := t564.length) (c := co63) ?_).2.2; exact (by (with_reducible repeat (first | apply Kd.R_alloc | apply Kd.R_drewN | apply Kd.R_drew)); exact (Kd.R_mono (Kd.R_far (p := ⟨gb578, 2, none⟩) (Kd.R_far (p := ⟨gb578, 1, none⟩) (Kd.R_far (p := ⟨gb578, 0, none⟩) (Kd.R_types HO566.out BK578.out (by decide)) (fun _ hk => hk.2) (.int .u32 t573)) (fun _ hk => hk.2) (.int .u32 t574)) (fun _ hk => hk.2) (.bool t575)) (fun _ h_ => h_.1)))); (case side6 => exact (Kd.R_reads' HO566.out).2.1); (case side7 => refine (Kd.R_reads' (e := 29) (base := w.heap.size) (ok := fun k_ => some k_ ≠ (.slice Ao63 t564.length co63 : Value).ownBlock) (n := t567.length) (c := co67) ?_).2.2; exact (by (with_reducible repeat (first | apply Kd.R_alloc | apply Kd.R_drewN | apply Kd.R_drew)); exact (Kd.R_mono (Kd.R_far (p := ⟨gb578, 2, none⟩) (Kd.R_far (p := ⟨gb578, 1, none⟩) (Kd.R_far (p := ⟨gb578, 0, none⟩) (Kd.R_types HO569.out BK578.out (by decide)) (fun _ hk => hk.2) (.int .u32 t573)) (fun _ hk => hk.2) (.int .u32 t574)) (fun _ hk => hk.2) (.bool t575)) (fun _ h_ => h_.1)))); (case side8 => exact (Kd.R_reads' HO569.out).2.1); rintro e w76 ⟨rfl, hb⟩; have n0_ := Aside0.mk (Kd.R_below (by (with_reducible repeat (first | apply Kd.R_alloc | apply Kd.R_drewN | apply Kd.R_drew)); exact (Kd.R_mono (Kd.R_far (p := ⟨gb578, 2, none⟩) (Kd.R_far (p := ⟨gb578, 1, none⟩) (Kd.R_far (p := ⟨gb578, 0, none⟩) (Kd.R_types HO551.out BK578.out (by decide)) (fun _ hk => hk.2) (.int .u32 t573)) (fun _ hk => hk.2) (.int .u32 t574)) (fun _ hk => hk.2) (.bool t575)) (fun _ h_ => h_.1))) hb); have n1_ := Aside0.mk (Kd.R_below (by (with_reducible repeat (first | apply Kd.R_alloc | apply Kd.R_drewN | apply Kd.R_drew)); exact (Kd.R_mono (Kd.R_far (p := ⟨gb578, 2, none⟩) (Kd.R_far (p := ⟨gb578, 1, none⟩) (Kd.R_far (p := ⟨gb578, 0, none⟩) (Kd.R_types HO557.out BK578.out (by decide)) (fun _ hk => hk.2) (.int .u32 t573)) (fun _ hk => hk.2) (.int .u32 t574)) (fun _ hk => hk.2) (.bool t575)) (fun _ h_ => h_.1))) hb); have n2_ := Aside0.mk (Kd.R_below (by (with_reducible repeat (first | apply Kd.R_alloc | apply Kd.R_drewN | apply Kd.R_drew)); exact (Kd.R_mono (Kd.R_far (p := ⟨gb578, 2, none⟩) (Kd.R_far (p := ⟨gb578, 1, none⟩) (Kd.R_far (p := ⟨gb578, 0, none⟩) (Kd.R_types HO563.out BK578.out (by decide)) (fun _ hk => hk.2) (.int .u32 t573)) (fun _ hk => hk.2) (.int .u32 t574)) (fun _ hk => hk.2) (.bool t575)) (fun _ h_ => h_.1))) hb); have n3_ := Aside0.mk (Kd.R_below (by (with_reducible repeat (first | apply Kd.R_alloc | apply Kd.R_drewN | apply Kd.R_drew)); exact (Kd.R_mono (Kd.R_far (p := ⟨gb578, 2, none⟩) (Kd.R_far (p := ⟨gb578, 1, none⟩) (Kd.R_far (p := ⟨gb578, 0, none⟩) (Kd.R_types HO566.out BK578.out (by decide)) (fun _ hk => hk.2) (.int .u32 t573)) (fun _ hk => hk.2) (.int .u32 t574)) (fun _ hk => hk.2) (.bool t575)) (fun _ h_ => h_.1))) hb); have n4_ := Aside0.mk (Kd.R_below (by (with_reducible repeat (first | apply Kd.R_alloc | apply Kd.R_drewN | apply Kd.R_drew)); exact (Kd.R_mono (Kd.R_far (p := ⟨gb578, 2, none⟩) (Kd.R_far (p := ⟨gb578, 1, none⟩) (Kd.R_far (p := ⟨gb578, 0, none⟩) (Kd.R_types HO569.out BK578.out (by decide)) (fun _ hk => hk.2) (.int .u32 t573)) (fun _ hk => hk.2) (.int .u32 t574)) (fun _ hk => hk.2) (.bool t575)) (fun _ h_ => h_.1))) hb); have n5_ := Aside0.mk (blk_below (g := gb539) (o := .cells #[.slice A0_0 l0_0.length c0_0, .slice A0_1 l0_1.length c0_1] 25 (0, 0)) (by (with_reducible repeat (first | refine blk_drewN ?_ _ | refine blk_drew ?_ | refine blk_alloc ?_ _)); refine blk_far ?_ NB539_578.out _; (with_reducible repeat (first | refine blk_drewN ?_ _ | refine blk_drew ?_ | refine blk_alloc ?_ _)); refine blk_far ?_ NB539_578.out _; (with_reducible repeat (first | refine blk_drewN ?_ _ | refine blk_drew ?_ | refine blk_alloc ?_ _)); refine blk_far ?_ NB539_578.out _; (with_reducible repeat (first | refine blk_drewN ?_ _ | refine blk_drew ?_ | refine blk_alloc ?_ _)); exact BK539.out) hb); have n6_ := Aside0.mk (blk_below (g := gb540) (o := .cells #[.int .u32 a1_0, .int .u32 a1_1, .bool a1_2] 45 (0, 0)) (by (with_reducible repeat (first | refine blk_drewN ?_ _ | refine blk_drew ?_ | refine blk_alloc ?_ _)); refine blk_far ?_ NB540_578.out _; (with_reducible repeat (first | refine blk_drewN ?_ _ | refine blk_drew ?_ | refine blk_alloc ?_ _)); refine blk_far ?_ NB540_578.out _; (with_reducible repeat (first | refine blk_drewN ?_ _ | refine blk_drew ?_ | refine blk_alloc ?_ _)); refine blk_far ?_ NB540_578.out _; (with_reducible repeat (first | refine blk_drewN ?_ _ | refine blk_drew ?_ | refine blk_alloc ?_ _)); exact BK540.out) hb); have n7_ := Aside0.mk (blk_below (g := gb572) (o := .cells #[.slice Ao63 t564.length co63, .slice Ao67 t567.length co67] 25 (0, 0)) (by (with_reducible repeat (first | refine blk_drewN ?_ _ | refine blk_drew ?_ | refine blk_alloc ?_ _)); refine blk_far ?_ NB572_578.out _; (with_reducible repeat (first | refine blk_drewN ?_ _ | refine blk_drew ?_ | refine blk_alloc ?_ _)); refine blk_far ?_ NB572_578.out _; (with_reducible repeat (first | refine blk_drewN ?_ _ | refine blk_drew ?_ | refine blk_alloc ?_ _)); refine blk_far ?_ NB572_578.out _; (with_reducible repeat (first | refine blk_drewN ?_ _ | refine blk_drew ?_ | refine blk_alloc ?_ _)); exact BK572.out) hb); have n8_ := Aside0.mk (blk_below (g := gb578) (o := .cells #[.int .u32 t573, .int .u32 t574, .bool t575] 45 (0, 0)) (by (with_reducible repeat (first | refine blk_drewN ?_ _ | refine blk_drew ?_ | refine blk_alloc ?_ _)); refine blk_put (cs := #[.int .u32 t573, .int .u32 t574, .bool false]) ?_ 2 _ rfl; (with_reducible repeat (first | refine blk_drewN ?_ _ | refine blk_drew ?_ | refine blk_alloc ?_ _)); refine blk_put (cs := #[.int .u32 t573, .int .u32 0, .bool false]) ?_ 1 _ rfl; (with_reducible repeat (first | refine blk_drewN ?_ _ | refine blk_drew ?_ | refine blk_alloc ?_ _)); refine blk_put (cs := #[.int .u32 0, .int .u32 0, .bool false]) ?_ 0 _ rfl; (with_reducible repeat (first | refine blk_drewN ?_ _ | refine blk_drew ?_ | refine blk_alloc ?_ _)); exact BK578.out) hb); have n9_ := Aside0.mk (below_step (by repeat (first | (with_reducible first | exact HB.out | apply below_alloc | apply pw_below_drewN | apply below_drew1 | refine below_set ?_ GE539.out | refine below_set ?_ GE540.out | refine below_set ?_ GE572.out | refine below_set ?_ GE578.out) | exact HB.out)) hb); clear HO551; clear HO557; clear HO563; clear HO566; clear HO569; clear BK539; clear BK540; clear BK572; clear BK578; clear HB; have HO551 := n0_; have HO557 := n1_; have HO563 := n2_; have HO566 := n3_; have HO569 := n4_; have BK539 := n5_; have BK540 := n6_; have BK572 := n7_; have BK578 := n8_; have HB := n9_; clear n0_ n1_ n2_ n3_ n4_ n5_ n6_ n7_ n8_ n9_; (try clear hb); (try clear hb2); (try clear hk); (try clear hi); have hcz77_0 : w76.cell? ⟨gb578, 0, none⟩ = some (.int .u32 t573) := (blk_cell BK578.out 0).trans rfl; have hcz77_1 : w76.cell? ⟨gb578, 1, none⟩ = some (.int .u32 t574) := (blk_cell BK578.out 1).trans rfl; have hcz77_2 : w76.cell? ⟨gb578, 2, none⟩ = some (.bool t575) := (blk_cell BK578.out 2).trans rfl; have hfz77_0 := blk_frozen BK578.out 0; have hfz77_1 := blk_frozen BK578.out 1; have hfz77_2 := blk_frozen BK578.out 2; have hcz78_0 : w76.cell? ⟨gb540, 0, none⟩ = some (.int .u32 a1_0) := (blk_cell BK540.out 0).trans rfl; have hcz78_1 : w76.cell? ⟨gb540, 1, none⟩ = some (.int .u32 a1_1) := (blk_cell BK540.out 1).trans rfl; have hcz78_2 : w76.cell? ⟨gb540, 2, none⟩ = some (.bool a1_2) := (blk_cell BK540.out 2).trans rfl; have hfz78_0 := blk_frozen BK540.out 0; have hfz78_1 := blk_frozen BK540.out 1; have hfz78_2 := blk_frozen BK540.out 2) | (go_at_call 17; (with_reducible refine (jacquardlaw09_works.calls k3  t580 _ A47.out).mono ?_); rintro e w79 ⟨rfl, hb⟩; have n0_ := Aside0.mk (Kd.R_below (by (with_reducible repeat (first | apply Kd.R_alloc | apply Kd.R_drewN | apply Kd.R_drew)); exact HO551.out) hb); have n1_ := Aside0.mk (Kd.R_below (by (with_reducible repeat (first | apply Kd.R_alloc | apply Kd.R_drewN | apply Kd.R_drew)); exact HO557.out) hb); have n2_ := Aside0.mk (Kd.R_below (by (with_reducible repeat (first | apply Kd.R_alloc | apply Kd.R_drewN | apply Kd.R_drew)); exact HO563.out) hb); have n3_ := Aside0.mk (Kd.R_below (by (with_reducible repeat (first | apply Kd.R_alloc | apply Kd.R_drewN | apply Kd.R_drew)); exact HO566.out) hb); have n4_ := Aside0.mk (Kd.R_below (by (with_reducible repeat (first | apply Kd.R_alloc | apply Kd.R_drewN | apply Kd.R_drew)); exact HO569.out) hb); have n5_ := Aside0.mk (blk_below (g := gb539) (o := .cells #[.slice A0_0 l0_0.length c0_0, .slice A0_1 l0_1.length c0_1] 25 (0, 0)) (by (with_reducible repeat (first | refine blk_drewN ?_ _ | refine blk_drew ?_ | refine blk_alloc ?_ _)); exact BK539.out) hb); have n6_ := Aside0.mk (blk_below (g := gb540) (o := .cells #[.int .u32 a1_0, .int .u32 a1_1, .bool a1_2] 45 (0, 0)) (by (with_reducible repeat (first | refine blk_drewN ?_ _ | refine blk_drew ?_ | refine blk_alloc ?_ _)); exact BK540.out) hb); have n7_ := Aside0.mk (blk_below (g := gb572) (o := .cells #[.slice Ao63 t564.length co63, .slice Ao67 t567.length co67] 25 (0, 0)) (by (with_reducible repeat (first | refine blk_drewN ?_ _ | refine blk_drew ?_ | refine blk_alloc ?_ _)); exact BK572.out) hb); have n8_ := Aside0.mk (blk_below (g := gb578) (o := .cells #[.int .u32 t573, .int .u32 t574, .bool t575] 45 (0, 0)) (by (with_reducible repeat (first | refine blk_drewN ?_ _ | refine blk_drew ?_ | refine blk_alloc ?_ _)); exact BK578.out) hb); have n9_ := Aside0.mk (below_step (by repeat (first | (with_reducible first | exact HB.out | apply below_alloc | apply pw_below_drewN | apply below_drew1 | refine below_set ?_ GE539.out | refine below_set ?_ GE540.out | refine below_set ?_ GE572.out | refine below_set ?_ GE578.out) | exact HB.out)) hb); clear HO551; clear HO557; clear HO563; clear HO566; clear HO569; clear BK539; clear BK540; clear BK572; clear BK578; clear HB; have HO551 := n0_; have HO557 := n1_; have HO563 := n2_; have HO566 := n3_; have HO569 := n4_; have BK539 := n5_; have BK540 := n6_; have BK572 := n7_; have BK578 := n8_; have HB := n9_; clear n0_ n1_ n2_ n3_ n4_ n5_ n6_ n7_ n8_ n9_; (try clear hb); (try clear hb2); (try clear hk); (try clear hi)))
                                        go_ret
                                        exact ⟨by first | rfl | (simp [errW_none, errW_some] <;> rfl) | (simp [*, errW_none, errW_some] <;> rfl), by repeat (first | (with_reducible first | exact HB.out | apply below_alloc | apply pw_below_drewN | apply below_drew1 | refine below_set ?_ GE539.out | refine below_set ?_ GE540.out | refine below_set ?_ GE572.out | refine below_set ?_ GE578.out) | exact HB.out)⟩
                                      · rw [if_neg c46] at H
                                        have c46b0 : (t576 == (wrap64 (t570 + (t555.length : Int)))) = false := beq_eq_false_iff_ne.mpr c46
                                        have c46b1 : (t576 != (wrap64 (t570 + (t555.length : Int)))) = true := bne_iff_ne.mpr c46
                                        exact absurd H (by simp)
                                    · rw [if_neg c45] at H
                                      have c45b0 : (t570 == (wrap64 ((l2.length : Int) + (t549.length : Int)))) = false := beq_eq_false_iff_ne.mpr c45
                                      have c45b1 : (t570 != (wrap64 ((l2.length : Int) + (t549.length : Int)))) = true := bne_iff_ne.mpr c45
                                      exact absurd H (by simp)
                                  · rw [if_neg c44] at H
                                    have c44b0 : (t573 == a1_0 && (t574 == a1_1 && (t575 == a1_2))) = false := by simpa using c44
                                    (try (have c44b1 : decide (t573 = a1_0 && (t574 == a1_1 && (t575 == a1_2))) = false := by simpa using c44))
                                    (try (have c44b2 : (t573 == a1_0 && (t574 == a1_1 && (t575 == a1_2))) = false := by simpa using c44))
                                    (try (have c44b3 : ¬ (t573 = a1_0 && (t574 == a1_1 && (t575 == a1_2))) := by simpa using c44))
                                    clear c44
                                    exact absurd H (by simp)
                                · replace c43 := Bool.eq_false_iff.mpr c43
                                  subst c43
                                  have H1 : (some false) = some true := by rw [if_neg (show ¬ (false = true) by decide)] at H; exact H
                                  clear H
                                  have H := H1
                                  clear H1
                                  exact absurd H (by simp)
                              · rw [if_neg c41] at H
                                have c41b0 : (t577 == 0) = false := beq_eq_false_iff_ne.mpr c41
                                have c41b1 : (t577 != 0) = true := bne_iff_ne.mpr c41
                                exact absurd H (by simp)
                            · rw [if_neg c40] at H
                              have c40b0 : (t571 == 0) = false := beq_eq_false_iff_ne.mpr c40
                              have c40b1 : (t571 != 0) = true := bne_iff_ne.mpr c40
                              exact absurd H (by simp)
                          · rw [if_neg c37] at H
                            exact absurd H (by simp)
                        · rw [if_neg c36] at H
                          exact absurd H (by simp)
                      · rw [if_neg c34] at H
                        exact absurd H (by simp)
                    · rw [if_neg c32] at H
                      exact absurd H (by simp)
                  · replace c31 := Bool.eq_false_iff.mpr c31
                    subst c31
                    have H1 : ((jacquardlaw09_works.f k3).bind fun t545 => (some t545)) = some true := by rw [if_neg (show ¬ (false = true) by decide)] at H; exact H
                    clear H
                    have H := H1
                    clear H1
                    replace H := Option.bind_eq_some_iff.mp H
                    obtain ⟨t545, A800, H⟩ := H
                    replace H : (some t545) = some true := H
                    have A80 := Aside0.mk A800
                    clear A800
                    replace H := Option.some.inj H
                    have hnb81 := NB539_540.out
                    have hnc81 := NB540_539.out
                    have hcz82_0 : wr.cell? ⟨gb539, 0, none⟩ = some (.slice A0_0 l0_0.length c0_0) := (blk_cell BK539.out 0).trans rfl
                    have hcz82_1 : wr.cell? ⟨gb539, 1, none⟩ = some (.slice A0_1 l0_1.length c0_1) := (blk_cell BK539.out 1).trans rfl
                    have hfz82_0 := blk_frozen BK539.out 0
                    have hfz82_1 := blk_frozen BK539.out 1
                    go_wp2_with (first | ((with_reducible refine gate_callee (f := 17) rfl ?_); refine goesL_ (some 62) rfl rfl Try.func17 (by kernel_rfl) rfl #[] rfl (by (try simp only [List.map_toArray, List.map_cons, List.map_nil]); first | done | rfl | (simp only [List.length_drop, List.length_take]; rfl)) ?_; (with_reducible refine (jacquardlaw09_works.calls k3  t545 _ A80.out).mono ?_); rintro e w83 ⟨rfl, hb⟩; refine ⟨_, rfl, ?_⟩; have n0_ := Aside0.mk (blk_below (g := gb539) (o := .cells #[.slice A0_0 l0_0.length c0_0, .slice A0_1 l0_1.length c0_1] 25 (0, 0)) (by (with_reducible repeat (first | refine blk_drewN ?_ _ | refine blk_drew ?_ | refine blk_alloc ?_ _)); exact BK539.out) hb); have n1_ := Aside0.mk (blk_below (g := gb540) (o := .cells #[.int .u32 a1_0, .int .u32 a1_1, .bool a1_2] 45 (0, 0)) (by (with_reducible repeat (first | refine blk_drewN ?_ _ | refine blk_drew ?_ | refine blk_alloc ?_ _)); exact BK540.out) hb); have n2_ := Aside0.mk (below_step (by repeat (first | (with_reducible first | exact HB.out | apply below_alloc | apply pw_below_drewN | apply below_drew1 | refine below_set ?_ GE539.out | refine below_set ?_ GE540.out) | exact HB.out)) hb); clear BK539; clear BK540; clear HB; have BK539 := n0_; have BK540 := n1_; have HB := n2_; clear n0_ n1_ n2_; (try clear hb); (try clear hb2); (try clear hk); (try clear hi)))
                    go_ret
                    exact ⟨by first | rfl | (simp [errW_none, errW_some] <;> rfl) | (simp [*, errW_none, errW_some] <;> rfl), by repeat (first | (with_reducible first | exact HB.out | apply below_alloc | apply pw_below_drewN | apply below_drew1 | refine below_set ?_ GE539.out | refine below_set ?_ GE540.out) | exact HB.out)⟩

end Go.Proofs.Ythillgpbenjldaa.P
