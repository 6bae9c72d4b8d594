-- Printed by a program of this session (wip/patch-print.py over the kit's print): Lean checks it.
import Derived.Test.YtfbdmgdbamjjhaaDoorPx0
import Derived.Test.YtfbdmgdbamjjhaaDoorPx4
import Derived.Test.YtfbdmgdbamjjhaaDoorPx11
namespace Go.Proofs.YtfbdmgdbamjjhaaDoor.P
open Go.Proofs.YtfbdmgdbamjjhaaDoorTabs
open Go.Proofs.YtfbdmgdbamjjhaaDoorCaps
open Go.RowKit Go.Proofs.YtfbdmgdbamjjhaaDoorW.PrintWords Go.Proofs.YtfbdmgdbamjjhaaDoorW.PrintLast Go.Proofs.YtfbdmgdbamjjhaaDoorW.PrintMore
attribute [local go_sem] max2_int min2_int max_two min_two max_three min_three max_four min_four   -- for this text's walks alone
set_option linter.unusedVariables false
set_option linter.unusedSimpArgs false

/-! ### jacquardlaw10_OpsPlain: function 4 -/
mutual
def jacquardlaw10_OpsPlain.j0 : Nat → Bool → Int → ByteArray → Int → List Int → List Int → Int → Bool → Option (Bool)
  | 0, _, _, _, _, _, _, _, _ => none
  | k + 1, x5, x808000, x808001, x808002, x808003, x808004, x808005, x808006 => if x808002 = 16 then (jacquardlaw10_OpsPlain.j1 k x5 true x808000 x808001 x808002 x808003 x808004 x808005 x808006) else (jacquardlaw10_OpsPlain.j1 k x5 (x808002 == 17) x808000 x808001 x808002 x808003 x808004 x808005 x808006)
def jacquardlaw10_OpsPlain.j1 : Nat → Bool → Bool → Int → ByteArray → Int → List Int → List Int → Int → Bool → Option (Bool)
  | 0, _, _, _, _, _, _, _, _, _ => none
  | k + 1, x5, x6, x808000, x808001, x808002, x808003, x808004, x808005, x808006 => if x808006 = true then (if (x808004.length : Int) = 1 then (if x808005 = 0 then (if x5 = true then (jacquardlaw10_OpsPlain.j2 k x6 ((x808003.length : Int) != 0) x808000 x808001 x808002 x808003 x808004 x808005 x808006) else (if x808002 = 0 then (jacquardlaw10_OpsPlain.j2 k x6 false x808000 x808001 x808002 x808003 x808004 x808005 x808006) else (if x808002 = 18 then (jacquardlaw10_OpsPlain.j2 k x6 false x808000 x808001 x808002 x808003 x808004 x808005 x808006) else (if x808002 = 19 then (jacquardlaw10_OpsPlain.j2 k x6 false x808000 x808001 x808002 x808003 x808004 x808005 x808006) else (jacquardlaw10_OpsPlain.j2 k x6 true x808000 x808001 x808002 x808003 x808004 x808005 x808006))))) else (jacquardlaw10_OpsPlain.j2 k x6 true x808000 x808001 x808002 x808003 x808004 x808005 x808006)) else (jacquardlaw10_OpsPlain.j2 k x6 true x808000 x808001 x808002 x808003 x808004 x808005 x808006)) else (jacquardlaw10_OpsPlain.j2 k x6 false x808000 x808001 x808002 x808003 x808004 x808005 x808006)
def jacquardlaw10_OpsPlain.j2 : Nat → Bool → Bool → Int → ByteArray → Int → List Int → List Int → Int → Bool → Option (Bool)
  | 0, _, _, _, _, _, _, _, _, _ => none
  | k + 1, x6, x86, x808000, x808001, x808002, x808003, x808004, x808005, x808006 => if x86 = true then (some false) else (if ((x808005 != 0) != x6) = true then (some false) else (if x6 = true then (if x808006 = true then (some false) else (if (x808003.length : Int) = 0 then (some false) else (if 0 < (x808003.length : Int) then (if (rd x808003 0) = 127 then (if (x808004.length : Int) > 1 then (some false) else (if x808005 = 0 then ((jacquardlaw10_works.f k).bind fun t810 => (some t810)) else (if x808005 = 8 then ((jacquardlaw10_works.f k).bind fun t811 => (some t811)) else (if x808005 = 16 then ((jacquardlaw10_works.f k).bind fun t812 => (some t812)) else (if x808005 = 32 then ((jacquardlaw10_works.f k).bind fun t813 => (some t813)) else (if x808005 = 64 then ((jacquardlaw10_works.f k).bind fun t814 => (some t814)) else (if x808005 = 128 then ((jacquardlaw10_works.f k).bind fun t815 => (some t815)) else (some false)))))))) else (some false)) else (none)))) else (if x808005 = 0 then ((jacquardlaw10_works.f k).bind fun t816 => (some t816)) else (if x808005 = 8 then ((jacquardlaw10_works.f k).bind fun t817 => (some t817)) else (if x808005 = 16 then ((jacquardlaw10_works.f k).bind fun t818 => (some t818)) else (if x808005 = 32 then ((jacquardlaw10_works.f k).bind fun t819 => (some t819)) else (if x808005 = 64 then ((jacquardlaw10_works.f k).bind fun t820 => (some t820)) else (if x808005 = 128 then ((jacquardlaw10_works.f k).bind fun t821 => (some t821)) else (some false)))))))))
end
def jacquardlaw10_OpsPlain.f (k : Nat) (a0 : Int) : Option (Bool) := (ops_Of.f k a0).bind fun bt795 => (if bt795.2.2.2.2.2.2.2 = 0 then (if bt795.2.2.1 = 20 then (jacquardlaw10_OpsPlain.j0 k true bt795.1 bt795.2.1 bt795.2.2.1 bt795.2.2.2.1 bt795.2.2.2.2.1 bt795.2.2.2.2.2.1 bt795.2.2.2.2.2.2.1) else (if bt795.2.2.1 = 21 then (jacquardlaw10_OpsPlain.j0 k true bt795.1 bt795.2.1 bt795.2.2.1 bt795.2.2.2.1 bt795.2.2.2.2.1 bt795.2.2.2.2.2.1 bt795.2.2.2.2.2.2.1) else (if bt795.2.2.1 = 22 then (jacquardlaw10_OpsPlain.j0 k true bt795.1 bt795.2.1 bt795.2.2.1 bt795.2.2.2.1 bt795.2.2.2.2.1 bt795.2.2.2.2.2.1 bt795.2.2.2.2.2.2.1) else (if bt795.2.2.1 = 23 then (jacquardlaw10_OpsPlain.j0 k true bt795.1 bt795.2.1 bt795.2.2.1 bt795.2.2.2.1 bt795.2.2.2.2.1 bt795.2.2.2.2.2.1 bt795.2.2.2.2.2.2.1) else (jacquardlaw10_OpsPlain.j0 k (bt795.2.2.1 == 24) bt795.1 bt795.2.1 bt795.2.2.1 bt795.2.2.2.1 bt795.2.2.2.2.1 bt795.2.2.2.2.2.1 bt795.2.2.2.2.2.2.1))))) else ((jacquardlaw10_works.f k).bind fun t808 => (some t808)))
theorem jacquardlaw10_OpsPlain.mono_l : ∀ k, (∀ y0 y1 y2 y3 y4 y5 y6 y7, LeO (jacquardlaw10_OpsPlain.j0 k y0 y1 y2 y3 y4 y5 y6 y7) (jacquardlaw10_OpsPlain.j0 (k + 1) y0 y1 y2 y3 y4 y5 y6 y7)) ∧ (∀ y0 y1 y2 y3 y4 y5 y6 y7 y8, LeO (jacquardlaw10_OpsPlain.j1 k y0 y1 y2 y3 y4 y5 y6 y7 y8) (jacquardlaw10_OpsPlain.j1 (k + 1) y0 y1 y2 y3 y4 y5 y6 y7 y8)) ∧ (∀ y0 y1 y2 y3 y4 y5 y6 y7 y8, LeO (jacquardlaw10_OpsPlain.j2 k y0 y1 y2 y3 y4 y5 y6 y7 y8) (jacquardlaw10_OpsPlain.j2 (k + 1) y0 y1 y2 y3 y4 y5 y6 y7 y8))
  | 0 => ⟨fun _ _ _ _ _ _ _ _ r h => by simp [jacquardlaw10_OpsPlain.j0] at h, fun _ _ _ _ _ _ _ _ _ r h => by simp [jacquardlaw10_OpsPlain.j1] at h, fun _ _ _ _ _ _ _ _ _ r h => by simp [jacquardlaw10_OpsPlain.j2] at h⟩
  | k + 1 => by
    obtain ⟨ih0, ih1, ih2⟩ := jacquardlaw10_OpsPlain.mono_l k
    refine ⟨?_, ?_, ?_⟩
    · intro y0 y1 y2 y3 y4 y5 y6 y7
      unfold jacquardlaw10_OpsPlain.j0
      repeat' first
      | (with_reducible exact ih0 _ _ _ _ _ _ _ _)
      | (with_reducible exact ih1 _ _ _ _ _ _ _ _ _)
      | (with_reducible exact ih2 _ _ _ _ _ _ _ _ _)
      | (with_reducible exact jacquardlaw10_works.mono _)
      | (with_reducible exact ops_Of.mono _ _)
      | (with_reducible exact LeO.refl _)
      | (with_reducible exact LeO.none _)
      | (with_reducible refine LeO.ite ?_ ?_)
      | (with_reducible refine LeO.bind ?_ (fun _ => ?_))
      | exact ih0 _ _ _ _ _ _ _ _
      | exact ih1 _ _ _ _ _ _ _ _ _
      | exact ih2 _ _ _ _ _ _ _ _ _
      | exact jacquardlaw10_works.mono _
      | exact ops_Of.mono _ _
      | exact LeO.none _
      | refine LeO.ite ?_ ?_
      | refine LeO.bind ?_ (fun _ => ?_)
    · intro y0 y1 y2 y3 y4 y5 y6 y7 y8
      unfold jacquardlaw10_OpsPlain.j1
      repeat' first
      | (with_reducible exact ih0 _ _ _ _ _ _ _ _)
      | (with_reducible exact ih1 _ _ _ _ _ _ _ _ _)
      | (with_reducible exact ih2 _ _ _ _ _ _ _ _ _)
      | (with_reducible exact jacquardlaw10_works.mono _)
      | (with_reducible exact ops_Of.mono _ _)
      | (with_reducible exact LeO.refl _)
      | (with_reducible exact LeO.none _)
      | (with_reducible refine LeO.ite ?_ ?_)
      | (with_reducible refine LeO.bind ?_ (fun _ => ?_))
      | exact ih0 _ _ _ _ _ _ _ _
      | exact ih1 _ _ _ _ _ _ _ _ _
      | exact ih2 _ _ _ _ _ _ _ _ _
      | exact jacquardlaw10_works.mono _
      | exact ops_Of.mono _ _
      | exact LeO.none _
      | refine LeO.ite ?_ ?_
      | refine LeO.bind ?_ (fun _ => ?_)
    · intro y0 y1 y2 y3 y4 y5 y6 y7 y8
      unfold jacquardlaw10_OpsPlain.j2
      repeat' first
      | (with_reducible exact ih0 _ _ _ _ _ _ _ _)
      | (with_reducible exact ih1 _ _ _ _ _ _ _ _ _)
      | (with_reducible exact ih2 _ _ _ _ _ _ _ _ _)
      | (with_reducible exact jacquardlaw10_works.mono _)
      | (with_reducible exact ops_Of.mono _ _)
      | (with_reducible exact LeO.refl _)
      | (with_reducible exact LeO.none _)
      | (with_reducible refine LeO.ite ?_ ?_)
      | (with_reducible refine LeO.bind ?_ (fun _ => ?_))
      | exact ih0 _ _ _ _ _ _ _ _
      | exact ih1 _ _ _ _ _ _ _ _ _
      | exact ih2 _ _ _ _ _ _ _ _ _
      | exact jacquardlaw10_works.mono _
      | exact ops_Of.mono _ _
      | exact LeO.none _
      | refine LeO.ite ?_ ?_
      | refine LeO.bind ?_ (fun _ => ?_)
theorem jacquardlaw10_OpsPlain.mono : ∀ a0 k, LeO (jacquardlaw10_OpsPlain.f k a0) (jacquardlaw10_OpsPlain.f (k + 1) a0) := by
  intro a0 k
  obtain ⟨ih0, ih1, ih2⟩ := jacquardlaw10_OpsPlain.mono_l k
  unfold jacquardlaw10_OpsPlain.f
  repeat' first
      | (with_reducible exact ih0 _ _ _ _ _ _ _ _)
      | (with_reducible exact ih1 _ _ _ _ _ _ _ _ _)
      | (with_reducible exact ih2 _ _ _ _ _ _ _ _ _)
      | (with_reducible exact jacquardlaw10_works.mono _)
      | (with_reducible exact ops_Of.mono _ _)
      | (with_reducible exact LeO.refl _)
      | (with_reducible exact LeO.none _)
      | (with_reducible refine LeO.ite ?_ ?_)
      | (with_reducible refine LeO.bind ?_ (fun _ => ?_))
      | exact ih0 _ _ _ _ _ _ _ _
      | exact ih1 _ _ _ _ _ _ _ _ _
      | exact ih2 _ _ _ _ _ _ _ _ _
      | exact jacquardlaw10_works.mono _
      | exact ops_Of.mono _ _
      | exact LeO.none _
      | refine LeO.ite ?_ ?_
      | refine LeO.bind ?_ (fun _ => ?_)
set_option maxHeartbeats 8000000 in
set_option maxRecDepth 100000 in
theorem jacquardlaw10_OpsPlain.calls (k : Nat) (a0 : Int) (w : World) (hT : Go.Proofs.YtfbdmgdbamjjhaaDoorTabs.Tab w) (h : jacquardlaw10_OpsPlain.f k a0 = some true) :
    Calls Tryd.prog 4 #[.int .u16 a0] w fun e w' => e = .returned (.bool true) ∧ Below w.heap.size w w' := by
  have HT := Aside0.mk hT
  clear hT
  have hu27 := Tryd.underlying27
  have HB := Aside0.mk (Below.refl w.heap.size w)
  have H : ((ops_Of.f k a0).bind fun bt795 => (if bt795.2.2.2.2.2.2.2 = 0 then (if bt795.2.2.1 = 20 then (jacquardlaw10_OpsPlain.j0 k true bt795.1 bt795.2.1 bt795.2.2.1 bt795.2.2.2.1 bt795.2.2.2.2.1 bt795.2.2.2.2.2.1 bt795.2.2.2.2.2.2.1) else (if bt795.2.2.1 = 21 then (jacquardlaw10_OpsPlain.j0 k true bt795.1 bt795.2.1 bt795.2.2.1 bt795.2.2.2.1 bt795.2.2.2.2.1 bt795.2.2.2.2.2.1 bt795.2.2.2.2.2.2.1) else (if bt795.2.2.1 = 22 then (jacquardlaw10_OpsPlain.j0 k true bt795.1 bt795.2.1 bt795.2.2.1 bt795.2.2.2.1 bt795.2.2.2.2.1 bt795.2.2.2.2.2.1 bt795.2.2.2.2.2.2.1) else (if bt795.2.2.1 = 23 then (jacquardlaw10_OpsPlain.j0 k true bt795.1 bt795.2.1 bt795.2.2.1 bt795.2.2.2.1 bt795.2.2.2.2.1 bt795.2.2.2.2.2.1 bt795.2.2.2.2.2.2.1) else (jacquardlaw10_OpsPlain.j0 k (bt795.2.2.1 == 24) bt795.1 bt795.2.1 bt795.2.2.1 bt795.2.2.2.1 bt795.2.2.2.2.1 bt795.2.2.2.2.2.1 bt795.2.2.2.2.2.2.1))))) else ((jacquardlaw10_works.f k).bind fun t808 => (some t808)))) = some true := h
  clear h
  replace H := Option.bind_eq_some_iff.mp H
  obtain ⟨⟨t795, t796, t797, t798, t801, t804, t805, t806⟩, A20, H⟩ := H
  replace H : (if t806 = 0 then (if t797 = 20 then (jacquardlaw10_OpsPlain.j0 k true t795 t796 t797 t798 t801 t804 t805) else (if t797 = 21 then (jacquardlaw10_OpsPlain.j0 k true t795 t796 t797 t798 t801 t804 t805) else (if t797 = 22 then (jacquardlaw10_OpsPlain.j0 k true t795 t796 t797 t798 t801 t804 t805) else (if t797 = 23 then (jacquardlaw10_OpsPlain.j0 k true t795 t796 t797 t798 t801 t804 t805) else (jacquardlaw10_OpsPlain.j0 k (t797 == 24) t795 t796 t797 t798 t801 t804 t805))))) else ((jacquardlaw10_works.f k).bind fun t808 => (some t808))) = some true := H
  have A2 := Aside0.mk A20
  clear A20
  by_cases c3 : t806 = 0
  · rw [if_pos c3] at H
    have c3b0 : (t806 == 0) = true := beq_iff_eq.mpr c3
    have c3b1 : (t806 != 0) = false := bne_eq_false_iff_eq.mpr c3
    clear c3
    have HC4 := Aside0.mk H
    clear H
    go_enter Tryd.func4, Tryd.ntmps4
    go_upto_region 4 with (first | ((with_reducible refine gate_callee (f := 11) rfl ?_); refine goesL_ (some 9) rfl rfl Tryd.func11 (by kernel_rfl) rfl #[.int .u16 a0] rfl (by (try simp only [List.map_toArray, List.map_cons, List.map_nil]); first | done | rfl | (simp only [List.length_drop, List.length_take]; rfl)) ?_; (with_reducible refine (ops_Of.calls (hT := by first | exact HT.out | exact Go.Proofs.YtfbdmgdbamjjhaaDoorTabs.Tab.below HT.out (by repeat (first | (with_reducible first | exact HB.out | apply below_alloc | apply pw_below_drewN | apply below_drew1 | refine below_set ?_ (Aside0.out (by assumption))) | exact HB.out)) | exact Go.Proofs.YtfbdmgdbamjjhaaDoorTabs.Tab.drawn HT.out (by repeat (first | exact Drawn0.refl _ | apply Drawn0.step))) k a0 t795 t796 t797 t798 t801 t804 t805 t806 _ A2.out).mono ?_); rintro e w5 ⟨v799, v802, rfl, ho0, ho1, hb⟩; refine ⟨_, rfl, ?_⟩; have n0_ := Aside0.mk (Kd.R_lower ho0 (below_size (by repeat (first | (with_reducible first | exact HB.out | apply below_alloc | apply pw_below_drewN | apply below_drew1) | exact HB.out)))); have n1_ := Aside0.mk (Kd.R_lower ho1 (below_size (by repeat (first | (with_reducible first | exact HB.out | apply below_alloc | apply pw_below_drewN | apply below_drew1) | exact HB.out)))); have n2_ := Aside0.mk (below_step (by repeat (first | (with_reducible first | exact HB.out | apply below_alloc | apply pw_below_drewN | apply below_drew1) | exact HB.out)) hb); clear HB; have HO800 := n0_; have HO803 := n1_; have HB := n2_; clear n0_ n1_ n2_; (try clear hb); (try clear hb2); (try clear hk); (try clear hi); (try clear ho0); (try clear ho1)) | ((with_reducible refine gate_dst (N := 3) rfl ?_); (try (refine gate_guard (by rfl) ?_; dsimp only)); refine box_event ?hg (N := 3) ?hd (cs := #[.int .u16 0, .string (⟨#[]⟩ : ByteArray), .int .u8 0, .slice none 0 0, .slice none 0 0, .int .i64 0, .bool false]) (t := 27) ?hr ?_; (case hd => rfl); (case hg => rfl); (case hr => first | (go_simp; done) | (go_simp; rfl)); intro gb807 hg w6 hbox hb; have n0_ := Aside0.mk (Kd.R_below (by (with_reducible repeat (first | apply Kd.R_alloc | apply Kd.R_drewN | apply Kd.R_drew)); exact HO800.out) hb); have n1_ := Aside0.mk (Kd.R_below (by (with_reducible repeat (first | apply Kd.R_alloc | apply Kd.R_drewN | apply Kd.R_drew)); exact HO803.out) hb); have n2_ := Aside0.mk (below_step (by repeat (first | (with_reducible first | exact HB.out | apply below_alloc | apply pw_below_drewN | apply below_drew1) | exact HB.out)) hb); have n3_ := Aside0.mk (hbox); have n4_ := Aside0.mk ((by rw [hg]; exact (below_size (by repeat (first | (with_reducible first | exact HB.out | apply below_alloc | apply pw_below_drewN | apply below_drew1) | exact HB.out))) : w.heap.size ≤ gb807)); have n5_ := Aside0.mk ((by rw [hg]; exact (below_size (by repeat (first | (with_reducible first | exact HB.out | apply below_alloc | apply pw_below_drewN | apply below_drew1) | exact HB.out))) : w.heap.size ≤ gb807)); clear HO800; clear HO803; clear HB; have HO800 := n0_; have HO803 := n1_; have HB := n2_; have BK807 := n3_; have GW807 := n4_; have GE807 := n5_; clear n0_ n1_ n2_ n3_ n4_ n5_; clear hb hbox hg; have hcz7_0 : w6.cell? ⟨gb807, 0, none⟩ = some (.int .u16 0) := (blk_cell BK807.out 0).trans rfl; have hcz7_1 : w6.cell? ⟨gb807, 1, none⟩ = some (.string (⟨#[]⟩ : ByteArray)) := (blk_cell BK807.out 1).trans rfl; have hcz7_2 : w6.cell? ⟨gb807, 2, none⟩ = some (.int .u8 0) := (blk_cell BK807.out 2).trans rfl; have hcz7_3 : w6.cell? ⟨gb807, 3, none⟩ = some (.slice none 0 0) := (blk_cell BK807.out 3).trans rfl; have hcz7_4 : w6.cell? ⟨gb807, 4, none⟩ = some (.slice none 0 0) := (blk_cell BK807.out 4).trans rfl; have hcz7_5 : w6.cell? ⟨gb807, 5, none⟩ = some (.int .i64 0) := (blk_cell BK807.out 5).trans rfl; have hcz7_6 : w6.cell? ⟨gb807, 6, none⟩ = some (.bool false) := (blk_cell BK807.out 6).trans rfl; have hfz7_0 := blk_frozen BK807.out 0; have hfz7_1 := blk_frozen BK807.out 1; have hfz7_2 := blk_frozen BK807.out 2; have hfz7_3 := blk_frozen BK807.out 3; have hfz7_4 := blk_frozen BK807.out 4; have hfz7_5 := blk_frozen BK807.out 5; have hfz7_6 := blk_frozen BK807.out 6; obtain ⟨Ao8, co8, eo8⟩ := Kd.R_slice HO800.out; subst eo8; obtain ⟨Ao9, co9, eo9⟩ := Kd.R_slice HO803.out; subst eo9))
    (try simp only [Act.put, List.setIfInBounds_toArray, List.set_cons_zero, List.set_cons_succ])
    go_cut [5] (fun v5 wc => ∃ (kq : Nat) (x5_3 : Bool), v5 = .bool x5_3 ∧ Aside0 (jacquardlaw10_OpsPlain.j0 kq x5_3 t795 t796 t797 t798 t801 t804 t805 = some true) ∧ Aside0 (kq ≤ k) ∧ Aside0 (Kd.R (Kd.int .u8) 34 wc w.heap.size (fun k_ => some k_ ≠ ((.slice Ao9 t801.length co9) : Value).ownBlock) (.slice Ao8 t798.length co8) t798) ∧ Aside0 (Kd.R (Kd.int .u8) 34 wc w.heap.size (fun k_ => some k_ ≠ ((.slice Ao8 t798.length co8) : Value).ownBlock) (.slice Ao9 t801.length co9) t801) ∧ Aside0 (wc.heap[gb807]? = some (.cells #[.int .u16 t795, .string t796, .int .u8 t797, (.slice Ao8 t798.length co8), (.slice Ao9 t801.length co9), .int .i64 t804, .bool t805] 27 (0, 0))) ∧ Aside0 (Below w.heap.size w wc))
    case first =>
      have H := HC4.out
      clear HC4
      by_cases c10 : t797 = 20
      · rw [if_pos c10] at H
        have c10b0 : (t797 == 20) = true := beq_iff_eq.mpr c10
        have c10b1 : (t797 != 20) = false := bne_eq_false_iff_eq.mpr c10
        clear c10
        (first | rw [c10b0] | (simp only [i64_w, i32_w]; rw [c10b0]) | skip)
        have H' := Aside0.mk H
        clear H
        have hcz11_0 : w6.cell? ⟨gb807, 0, none⟩ = some (.int .u16 0) := (blk_cell BK807.out 0).trans rfl
        have hcz11_1 : w6.cell? ⟨gb807, 1, none⟩ = some (.string (⟨#[]⟩ : ByteArray)) := (blk_cell BK807.out 1).trans rfl
        have hcz11_2 : w6.cell? ⟨gb807, 2, none⟩ = some (.int .u8 0) := (blk_cell BK807.out 2).trans rfl
        have hcz11_3 : w6.cell? ⟨gb807, 3, none⟩ = some (.slice none 0 0) := (blk_cell BK807.out 3).trans rfl
        have hcz11_4 : w6.cell? ⟨gb807, 4, none⟩ = some (.slice none 0 0) := (blk_cell BK807.out 4).trans rfl
        have hcz11_5 : w6.cell? ⟨gb807, 5, none⟩ = some (.int .i64 0) := (blk_cell BK807.out 5).trans rfl
        have hcz11_6 : w6.cell? ⟨gb807, 6, none⟩ = some (.bool false) := (blk_cell BK807.out 6).trans rfl
        have hfz11_0 := blk_frozen BK807.out 0
        have hfz11_1 := blk_frozen BK807.out 1
        have hfz11_2 := blk_frozen BK807.out 2
        have hfz11_3 := blk_frozen BK807.out 3
        have hfz11_4 := blk_frozen BK807.out 4
        have hfz11_5 := blk_frozen BK807.out 5
        have hfz11_6 := blk_frozen BK807.out 6
        go_wp2
        go_meet
        case rel => exact ⟨_, (true), (by first | rfl | (simp; done) | (simp [*]; done)), H', ⟨by first | omega | exact Nat.le_refl _⟩, ⟨by (with_reducible repeat (first | apply Kd.R_alloc | apply Kd.R_drewN | apply Kd.R_drew)); exact Kd.R_mono (Kd.R_far (p := ⟨gb807, 6, none⟩) (Kd.R_far (p := ⟨gb807, 5, none⟩) (Kd.R_far (p := ⟨gb807, 4, none⟩) (Kd.R_far (p := ⟨gb807, 3, none⟩) (Kd.R_far (p := ⟨gb807, 2, none⟩) (Kd.R_far (p := ⟨gb807, 1, none⟩) (Kd.R_far (p := ⟨gb807, 0, none⟩) (Kd.R_types HO800.out BK807.out (by decide)) (fun _ hk => hk.2) (.int .u16 t795)) (fun _ hk => hk.2) (.string t796)) (fun _ hk => hk.2) (.int .u8 t797)) (fun _ hk => hk.2) (.slice Ao8 t798.length co8)) (fun _ hk => hk.2) (.slice Ao9 t801.length co9)) (fun _ hk => hk.2) (.int .i64 t804)) (fun _ hk => hk.2) (.bool t805)) (fun _ hk => hk.1)⟩, ⟨by (with_reducible repeat (first | apply Kd.R_alloc | apply Kd.R_drewN | apply Kd.R_drew)); exact Kd.R_mono (Kd.R_far (p := ⟨gb807, 6, none⟩) (Kd.R_far (p := ⟨gb807, 5, none⟩) (Kd.R_far (p := ⟨gb807, 4, none⟩) (Kd.R_far (p := ⟨gb807, 3, none⟩) (Kd.R_far (p := ⟨gb807, 2, none⟩) (Kd.R_far (p := ⟨gb807, 1, none⟩) (Kd.R_far (p := ⟨gb807, 0, none⟩) (Kd.R_types HO803.out BK807.out (by decide)) (fun _ hk => hk.2) (.int .u16 t795)) (fun _ hk => hk.2) (.string t796)) (fun _ hk => hk.2) (.int .u8 t797)) (fun _ hk => hk.2) (.slice Ao8 t798.length co8)) (fun _ hk => hk.2) (.slice Ao9 t801.length co9)) (fun _ hk => hk.2) (.int .i64 t804)) (fun _ hk => hk.2) (.bool t805)) (fun _ hk => hk.1)⟩, ⟨by (with_reducible repeat (first | refine blk_drewN ?_ _ | refine blk_drew ?_ | refine blk_alloc ?_ _)); refine blk_put (cs := #[.int .u16 t795, .string t796, .int .u8 t797, .slice Ao8 t798.length co8, .slice Ao9 t801.length co9, .int .i64 t804, .bool false]) ?_ 6 _ rfl; (with_reducible repeat (first | refine blk_drewN ?_ _ | refine blk_drew ?_ | refine blk_alloc ?_ _)); refine blk_put (cs := #[.int .u16 t795, .string t796, .int .u8 t797, .slice Ao8 t798.length co8, .slice Ao9 t801.length co9, .int .i64 0, .bool false]) ?_ 5 _ rfl; (with_reducible repeat (first | refine blk_drewN ?_ _ | refine blk_drew ?_ | refine blk_alloc ?_ _)); refine blk_put (cs := #[.int .u16 t795, .string t796, .int .u8 t797, .slice Ao8 t798.length co8, .slice none 0 0, .int .i64 0, .bool false]) ?_ 4 _ rfl; (with_reducible repeat (first | refine blk_drewN ?_ _ | refine blk_drew ?_ | refine blk_alloc ?_ _)); refine blk_put (cs := #[.int .u16 t795, .string t796, .int .u8 t797, .slice none 0 0, .slice none 0 0, .int .i64 0, .bool false]) ?_ 3 _ rfl; (with_reducible repeat (first | refine blk_drewN ?_ _ | refine blk_drew ?_ | refine blk_alloc ?_ _)); refine blk_put (cs := #[.int .u16 t795, .string t796, .int .u8 0, .slice none 0 0, .slice none 0 0, .int .i64 0, .bool false]) ?_ 2 _ rfl; (with_reducible repeat (first | refine blk_drewN ?_ _ | refine blk_drew ?_ | refine blk_alloc ?_ _)); refine blk_put (cs := #[.int .u16 t795, .string (⟨#[]⟩ : ByteArray), .int .u8 0, .slice none 0 0, .slice none 0 0, .int .i64 0, .bool false]) ?_ 1 _ rfl; (with_reducible repeat (first | refine blk_drewN ?_ _ | refine blk_drew ?_ | refine blk_alloc ?_ _)); refine blk_put (cs := #[.int .u16 0, .string (⟨#[]⟩ : ByteArray), .int .u8 0, .slice none 0 0, .slice none 0 0, .int .i64 0, .bool false]) ?_ 0 _ rfl; (with_reducible repeat (first | refine blk_drewN ?_ _ | refine blk_drew ?_ | refine blk_alloc ?_ _)); exact BK807.out⟩, ⟨by repeat (first | (with_reducible first | exact HB.out | apply below_alloc | apply pw_below_drewN | apply below_drew1 | refine below_set ?_ GE807.out) | exact HB.out)⟩⟩
      · rw [if_neg c10] at H
        have c10b0 : (t797 == 20) = false := beq_eq_false_iff_ne.mpr c10
        have c10b1 : (t797 != 20) = true := bne_iff_ne.mpr c10
        (first | rw [c10b0] | (simp only [i64_w, i32_w]; rw [c10b0]) | skip)
        by_cases c12 : t797 = 21
        · rw [if_pos c12] at H
          have c12b0 : (t797 == 21) = true := beq_iff_eq.mpr c12
          have c12b1 : (t797 != 21) = false := bne_eq_false_iff_eq.mpr c12
          clear c12
          have H' := Aside0.mk H
          clear H
          have hcz13_0 : w6.cell? ⟨gb807, 0, none⟩ = some (.int .u16 0) := (blk_cell BK807.out 0).trans rfl
          have hcz13_1 : w6.cell? ⟨gb807, 1, none⟩ = some (.string (⟨#[]⟩ : ByteArray)) := (blk_cell BK807.out 1).trans rfl
          have hcz13_2 : w6.cell? ⟨gb807, 2, none⟩ = some (.int .u8 0) := (blk_cell BK807.out 2).trans rfl
          have hcz13_3 : w6.cell? ⟨gb807, 3, none⟩ = some (.slice none 0 0) := (blk_cell BK807.out 3).trans rfl
          have hcz13_4 : w6.cell? ⟨gb807, 4, none⟩ = some (.slice none 0 0) := (blk_cell BK807.out 4).trans rfl
          have hcz13_5 : w6.cell? ⟨gb807, 5, none⟩ = some (.int .i64 0) := (blk_cell BK807.out 5).trans rfl
          have hcz13_6 : w6.cell? ⟨gb807, 6, none⟩ = some (.bool false) := (blk_cell BK807.out 6).trans rfl
          have hfz13_0 := blk_frozen BK807.out 0
          have hfz13_1 := blk_frozen BK807.out 1
          have hfz13_2 := blk_frozen BK807.out 2
          have hfz13_3 := blk_frozen BK807.out 3
          have hfz13_4 := blk_frozen BK807.out 4
          have hfz13_5 := blk_frozen BK807.out 5
          have hfz13_6 := blk_frozen BK807.out 6
          go_wp2
          go_meet
          case rel => exact ⟨_, (true), (by first | rfl | (simp; done) | (simp [*]; done)), H', ⟨by first | omega | exact Nat.le_refl _⟩, ⟨by (with_reducible repeat (first | apply Kd.R_alloc | apply Kd.R_drewN | apply Kd.R_drew)); exact Kd.R_mono (Kd.R_far (p := ⟨gb807, 6, none⟩) (Kd.R_far (p := ⟨gb807, 5, none⟩) (Kd.R_far (p := ⟨gb807, 4, none⟩) (Kd.R_far (p := ⟨gb807, 3, none⟩) (Kd.R_far (p := ⟨gb807, 2, none⟩) (Kd.R_far (p := ⟨gb807, 1, none⟩) (Kd.R_far (p := ⟨gb807, 0, none⟩) (Kd.R_types HO800.out BK807.out (by decide)) (fun _ hk => hk.2) (.int .u16 t795)) (fun _ hk => hk.2) (.string t796)) (fun _ hk => hk.2) (.int .u8 t797)) (fun _ hk => hk.2) (.slice Ao8 t798.length co8)) (fun _ hk => hk.2) (.slice Ao9 t801.length co9)) (fun _ hk => hk.2) (.int .i64 t804)) (fun _ hk => hk.2) (.bool t805)) (fun _ hk => hk.1)⟩, ⟨by (with_reducible repeat (first | apply Kd.R_alloc | apply Kd.R_drewN | apply Kd.R_drew)); exact Kd.R_mono (Kd.R_far (p := ⟨gb807, 6, none⟩) (Kd.R_far (p := ⟨gb807, 5, none⟩) (Kd.R_far (p := ⟨gb807, 4, none⟩) (Kd.R_far (p := ⟨gb807, 3, none⟩) (Kd.R_far (p := ⟨gb807, 2, none⟩) (Kd.R_far (p := ⟨gb807, 1, none⟩) (Kd.R_far (p := ⟨gb807, 0, none⟩) (Kd.R_types HO803.out BK807.out (by decide)) (fun _ hk => hk.2) (.int .u16 t795)) (fun _ hk => hk.2) (.string t796)) (fun _ hk => hk.2) (.int .u8 t797)) (fun _ hk => hk.2) (.slice Ao8 t798.length co8)) (fun _ hk => hk.2) (.slice Ao9 t801.length co9)) (fun _ hk => hk.2) (.int .i64 t804)) (fun _ hk => hk.2) (.bool t805)) (fun _ hk => hk.1)⟩, ⟨by (with_reducible repeat (first | refine blk_drewN ?_ _ | refine blk_drew ?_ | refine blk_alloc ?_ _)); refine blk_put (cs := #[.int .u16 t795, .string t796, .int .u8 t797, .slice Ao8 t798.length co8, .slice Ao9 t801.length co9, .int .i64 t804, .bool false]) ?_ 6 _ rfl; (with_reducible repeat (first | refine blk_drewN ?_ _ | refine blk_drew ?_ | refine blk_alloc ?_ _)); refine blk_put (cs := #[.int .u16 t795, .string t796, .int .u8 t797, .slice Ao8 t798.length co8, .slice Ao9 t801.length co9, .int .i64 0, .bool false]) ?_ 5 _ rfl; (with_reducible repeat (first | refine blk_drewN ?_ _ | refine blk_drew ?_ | refine blk_alloc ?_ _)); refine blk_put (cs := #[.int .u16 t795, .string t796, .int .u8 t797, .slice Ao8 t798.length co8, .slice none 0 0, .int .i64 0, .bool false]) ?_ 4 _ rfl; (with_reducible repeat (first | refine blk_drewN ?_ _ | refine blk_drew ?_ | refine blk_alloc ?_ _)); refine blk_put (cs := #[.int .u16 t795, .string t796, .int .u8 t797, .slice none 0 0, .slice none 0 0, .int .i64 0, .bool false]) ?_ 3 _ rfl; (with_reducible repeat (first | refine blk_drewN ?_ _ | refine blk_drew ?_ | refine blk_alloc ?_ _)); refine blk_put (cs := #[.int .u16 t795, .string t796, .int .u8 0, .slice none 0 0, .slice none 0 0, .int .i64 0, .bool false]) ?_ 2 _ rfl; (with_reducible repeat (first | refine blk_drewN ?_ _ | refine blk_drew ?_ | refine blk_alloc ?_ _)); refine blk_put (cs := #[.int .u16 t795, .string (⟨#[]⟩ : ByteArray), .int .u8 0, .slice none 0 0, .slice none 0 0, .int .i64 0, .bool false]) ?_ 1 _ rfl; (with_reducible repeat (first | refine blk_drewN ?_ _ | refine blk_drew ?_ | refine blk_alloc ?_ _)); refine blk_put (cs := #[.int .u16 0, .string (⟨#[]⟩ : ByteArray), .int .u8 0, .slice none 0 0, .slice none 0 0, .int .i64 0, .bool false]) ?_ 0 _ rfl; (with_reducible repeat (first | refine blk_drewN ?_ _ | refine blk_drew ?_ | refine blk_alloc ?_ _)); exact BK807.out⟩, ⟨by repeat (first | (with_reducible first | exact HB.out | apply below_alloc | apply pw_below_drewN | apply below_drew1 | refine below_set ?_ GE807.out) | exact HB.out)⟩⟩
        · rw [if_neg c12] at H
          have c12b0 : (t797 == 21) = false := beq_eq_false_iff_ne.mpr c12
          have c12b1 : (t797 != 21) = true := bne_iff_ne.mpr c12
          by_cases c14 : t797 = 22
          · rw [if_pos c14] at H
            have c14b0 : (t797 == 22) = true := beq_iff_eq.mpr c14
            have c14b1 : (t797 != 22) = false := bne_eq_false_iff_eq.mpr c14
            clear c14
            have H' := Aside0.mk H
            clear H
            have hcz15_0 : w6.cell? ⟨gb807, 0, none⟩ = some (.int .u16 0) := (blk_cell BK807.out 0).trans rfl
            have hcz15_1 : w6.cell? ⟨gb807, 1, none⟩ = some (.string (⟨#[]⟩ : ByteArray)) := (blk_cell BK807.out 1).trans rfl
            have hcz15_2 : w6.cell? ⟨gb807, 2, none⟩ = some (.int .u8 0) := (blk_cell BK807.out 2).trans rfl
            have hcz15_3 : w6.cell? ⟨gb807, 3, none⟩ = some (.slice none 0 0) := (blk_cell BK807.out 3).trans rfl
            have hcz15_4 : w6.cell? ⟨gb807, 4, none⟩ = some (.slice none 0 0) := (blk_cell BK807.out 4).trans rfl
            have hcz15_5 : w6.cell? ⟨gb807, 5, none⟩ = some (.int .i64 0) := (blk_cell BK807.out 5).trans rfl
            have hcz15_6 : w6.cell? ⟨gb807, 6, none⟩ = some (.bool false) := (blk_cell BK807.out 6).trans rfl
            have hfz15_0 := blk_frozen BK807.out 0
            have hfz15_1 := blk_frozen BK807.out 1
            have hfz15_2 := blk_frozen BK807.out 2
            have hfz15_3 := blk_frozen BK807.out 3
            have hfz15_4 := blk_frozen BK807.out 4
            have hfz15_5 := blk_frozen BK807.out 5
            have hfz15_6 := blk_frozen BK807.out 6
            go_wp2
            go_meet
            case rel => exact ⟨_, (true), (by first | rfl | (simp; done) | (simp [*]; done)), H', ⟨by first | omega | exact Nat.le_refl _⟩, ⟨by (with_reducible repeat (first | apply Kd.R_alloc | apply Kd.R_drewN | apply Kd.R_drew)); exact Kd.R_mono (Kd.R_far (p := ⟨gb807, 6, none⟩) (Kd.R_far (p := ⟨gb807, 5, none⟩) (Kd.R_far (p := ⟨gb807, 4, none⟩) (Kd.R_far (p := ⟨gb807, 3, none⟩) (Kd.R_far (p := ⟨gb807, 2, none⟩) (Kd.R_far (p := ⟨gb807, 1, none⟩) (Kd.R_far (p := ⟨gb807, 0, none⟩) (Kd.R_types HO800.out BK807.out (by decide)) (fun _ hk => hk.2) (.int .u16 t795)) (fun _ hk => hk.2) (.string t796)) (fun _ hk => hk.2) (.int .u8 t797)) (fun _ hk => hk.2) (.slice Ao8 t798.length co8)) (fun _ hk => hk.2) (.slice Ao9 t801.length co9)) (fun _ hk => hk.2) (.int .i64 t804)) (fun _ hk => hk.2) (.bool t805)) (fun _ hk => hk.1)⟩, ⟨by (with_reducible repeat (first | apply Kd.R_alloc | apply Kd.R_drewN | apply Kd.R_drew)); exact Kd.R_mono (Kd.R_far (p := ⟨gb807, 6, none⟩) (Kd.R_far (p := ⟨gb807, 5, none⟩) (Kd.R_far (p := ⟨gb807, 4, none⟩) (Kd.R_far (p := ⟨gb807, 3, none⟩) (Kd.R_far (p := ⟨gb807, 2, none⟩) (Kd.R_far (p := ⟨gb807, 1, none⟩) (Kd.R_far (p := ⟨gb807, 0, none⟩) (Kd.R_types HO803.out BK807.out (by decide)) (fun _ hk => hk.2) (.int .u16 t795)) (fun _ hk => hk.2) (.string t796)) (fun _ hk => hk.2) (.int .u8 t797)) (fun _ hk => hk.2) (.slice Ao8 t798.length co8)) (fun _ hk => hk.2) (.slice Ao9 t801.length co9)) (fun _ hk => hk.2) (.int .i64 t804)) (fun _ hk => hk.2) (.bool t805)) (fun _ hk => hk.1)⟩, ⟨by (with_reducible repeat (first | refine blk_drewN ?_ _ | refine blk_drew ?_ | refine blk_alloc ?_ _)); refine blk_put (cs := #[.int .u16 t795, .string t796, .int .u8 t797, .slice Ao8 t798.length co8, .slice Ao9 t801.length co9, .int .i64 t804, .bool false]) ?_ 6 _ rfl; (with_reducible repeat (first | refine blk_drewN ?_ _ | refine blk_drew ?_ | refine blk_alloc ?_ _)); refine blk_put (cs := #[.int .u16 t795, .string t796, .int .u8 t797, .slice Ao8 t798.length co8, .slice Ao9 t801.length co9, .int .i64 0, .bool false]) ?_ 5 _ rfl; (with_reducible repeat (first | refine blk_drewN ?_ _ | refine blk_drew ?_ | refine blk_alloc ?_ _)); refine blk_put (cs := #[.int .u16 t795, .string t796, .int .u8 t797, .slice Ao8 t798.length co8, .slice none 0 0, .int .i64 0, .bool false]) ?_ 4 _ rfl; (with_reducible repeat (first | refine blk_drewN ?_ _ | refine blk_drew ?_ | refine blk_alloc ?_ _)); refine blk_put (cs := #[.int .u16 t795, .string t796, .int .u8 t797, .slice none 0 0, .slice none 0 0, .int .i64 0, .bool false]) ?_ 3 _ rfl; (with_reducible repeat (first | refine blk_drewN ?_ _ | refine blk_drew ?_ | refine blk_alloc ?_ _)); refine blk_put (cs := #[.int .u16 t795, .string t796, .int .u8 0, .slice none 0 0, .slice none 0 0, .int .i64 0, .bool false]) ?_ 2 _ rfl; (with_reducible repeat (first | refine blk_drewN ?_ _ | refine blk_drew ?_ | refine blk_alloc ?_ _)); refine blk_put (cs := #[.int .u16 t795, .string (⟨#[]⟩ : ByteArray), .int .u8 0, .slice none 0 0, .slice none 0 0, .int .i64 0, .bool false]) ?_ 1 _ rfl; (with_reducible repeat (first | refine blk_drewN ?_ _ | refine blk_drew ?_ | refine blk_alloc ?_ _)); refine blk_put (cs := #[.int .u16 0, .string (⟨#[]⟩ : ByteArray), .int .u8 0, .slice none 0 0, .slice none 0 0, .int .i64 0, .bool false]) ?_ 0 _ rfl; (with_reducible repeat (first | refine blk_drewN ?_ _ | refine blk_drew ?_ | refine blk_alloc ?_ _)); exact BK807.out⟩, ⟨by repeat (first | (with_reducible first | exact HB.out | apply below_alloc | apply pw_below_drewN | apply below_drew1 | refine below_set ?_ GE807.out) | exact HB.out)⟩⟩
          · rw [if_neg c14] at H
            have c14b0 : (t797 == 22) = false := beq_eq_false_iff_ne.mpr c14
            have c14b1 : (t797 != 22) = true := bne_iff_ne.mpr c14
            by_cases c16 : t797 = 23
            · rw [if_pos c16] at H
              have c16b0 : (t797 == 23) = true := beq_iff_eq.mpr c16
              have c16b1 : (t797 != 23) = false := bne_eq_false_iff_eq.mpr c16
              clear c16
              have H' := Aside0.mk H
              clear H
              have hcz17_0 : w6.cell? ⟨gb807, 0, none⟩ = some (.int .u16 0) := (blk_cell BK807.out 0).trans rfl
              have hcz17_1 : w6.cell? ⟨gb807, 1, none⟩ = some (.string (⟨#[]⟩ : ByteArray)) := (blk_cell BK807.out 1).trans rfl
              have hcz17_2 : w6.cell? ⟨gb807, 2, none⟩ = some (.int .u8 0) := (blk_cell BK807.out 2).trans rfl
              have hcz17_3 : w6.cell? ⟨gb807, 3, none⟩ = some (.slice none 0 0) := (blk_cell BK807.out 3).trans rfl
              have hcz17_4 : w6.cell? ⟨gb807, 4, none⟩ = some (.slice none 0 0) := (blk_cell BK807.out 4).trans rfl
              have hcz17_5 : w6.cell? ⟨gb807, 5, none⟩ = some (.int .i64 0) := (blk_cell BK807.out 5).trans rfl
              have hcz17_6 : w6.cell? ⟨gb807, 6, none⟩ = some (.bool false) := (blk_cell BK807.out 6).trans rfl
              have hfz17_0 := blk_frozen BK807.out 0
              have hfz17_1 := blk_frozen BK807.out 1
              have hfz17_2 := blk_frozen BK807.out 2
              have hfz17_3 := blk_frozen BK807.out 3
              have hfz17_4 := blk_frozen BK807.out 4
              have hfz17_5 := blk_frozen BK807.out 5
              have hfz17_6 := blk_frozen BK807.out 6
              go_wp2
              go_meet
              case rel => exact ⟨_, (true), (by first | rfl | (simp; done) | (simp [*]; done)), H', ⟨by first | omega | exact Nat.le_refl _⟩, ⟨by (with_reducible repeat (first | apply Kd.R_alloc | apply Kd.R_drewN | apply Kd.R_drew)); exact Kd.R_mono (Kd.R_far (p := ⟨gb807, 6, none⟩) (Kd.R_far (p := ⟨gb807, 5, none⟩) (Kd.R_far (p := ⟨gb807, 4, none⟩) (Kd.R_far (p := ⟨gb807, 3, none⟩) (Kd.R_far (p := ⟨gb807, 2, none⟩) (Kd.R_far (p := ⟨gb807, 1, none⟩) (Kd.R_far (p := ⟨gb807, 0, none⟩) (Kd.R_types HO800.out BK807.out (by decide)) (fun _ hk => hk.2) (.int .u16 t795)) (fun _ hk => hk.2) (.string t796)) (fun _ hk => hk.2) (.int .u8 t797)) (fun _ hk => hk.2) (.slice Ao8 t798.length co8)) (fun _ hk => hk.2) (.slice Ao9 t801.length co9)) (fun _ hk => hk.2) (.int .i64 t804)) (fun _ hk => hk.2) (.bool t805)) (fun _ hk => hk.1)⟩, ⟨by (with_reducible repeat (first | apply Kd.R_alloc | apply Kd.R_drewN | apply Kd.R_drew)); exact Kd.R_mono (Kd.R_far (p := ⟨gb807, 6, none⟩) (Kd.R_far (p := ⟨gb807, 5, none⟩) (Kd.R_far (p := ⟨gb807, 4, none⟩) (Kd.R_far (p := ⟨gb807, 3, none⟩) (Kd.R_far (p := ⟨gb807, 2, none⟩) (Kd.R_far (p := ⟨gb807, 1, none⟩) (Kd.R_far (p := ⟨gb807, 0, none⟩) (Kd.R_types HO803.out BK807.out (by decide)) (fun _ hk => hk.2) (.int .u16 t795)) (fun _ hk => hk.2) (.string t796)) (fun _ hk => hk.2) (.int .u8 t797)) (fun _ hk => hk.2) (.slice Ao8 t798.length co8)) (fun _ hk => hk.2) (.slice Ao9 t801.length co9)) (fun _ hk => hk.2) (.int .i64 t804)) (fun _ hk => hk.2) (.bool t805)) (fun _ hk => hk.1)⟩, ⟨by (with_reducible repeat (first | refine blk_drewN ?_ _ | refine blk_drew ?_ | refine blk_alloc ?_ _)); refine blk_put (cs := #[.int .u16 t795, .string t796, .int .u8 t797, .slice Ao8 t798.length co8, .slice Ao9 t801.length co9, .int .i64 t804, .bool false]) ?_ 6 _ rfl; (with_reducible repeat (first | refine blk_drewN ?_ _ | refine blk_drew ?_ | refine blk_alloc ?_ _)); refine blk_put (cs := #[.int .u16 t795, .string t796, .int .u8 t797, .slice Ao8 t798.length co8, .slice Ao9 t801.length co9, .int .i64 0, .bool false]) ?_ 5 _ rfl; (with_reducible repeat (first | refine blk_drewN ?_ _ | refine blk_drew ?_ | refine blk_alloc ?_ _)); refine blk_put (cs := #[.int .u16 t795, .string t796, .int .u8 t797, .slice Ao8 t798.length co8, .slice none 0 0, .int .i64 0, .bool false]) ?_ 4 _ rfl; (with_reducible repeat (first | refine blk_drewN ?_ _ | refine blk_drew ?_ | refine blk_alloc ?_ _)); refine blk_put (cs := #[.int .u16 t795, .string t796, .int .u8 t797, .slice none 0 0, .slice none 0 0, .int .i64 0, .bool false]) ?_ 3 _ rfl; (with_reducible repeat (first | refine blk_drewN ?_ _ | refine blk_drew ?_ | refine blk_alloc ?_ _)); refine blk_put (cs := #[.int .u16 t795, .string t796, .int .u8 0, .slice none 0 0, .slice none 0 0, .int .i64 0, .bool false]) ?_ 2 _ rfl; (with_reducible repeat (first | refine blk_drewN ?_ _ | refine blk_drew ?_ | refine blk_alloc ?_ _)); refine blk_put (cs := #[.int .u16 t795, .string (⟨#[]⟩ : ByteArray), .int .u8 0, .slice none 0 0, .slice none 0 0, .int .i64 0, .bool false]) ?_ 1 _ rfl; (with_reducible repeat (first | refine blk_drewN ?_ _ | refine blk_drew ?_ | refine blk_alloc ?_ _)); refine blk_put (cs := #[.int .u16 0, .string (⟨#[]⟩ : ByteArray), .int .u8 0, .slice none 0 0, .slice none 0 0, .int .i64 0, .bool false]) ?_ 0 _ rfl; (with_reducible repeat (first | refine blk_drewN ?_ _ | refine blk_drew ?_ | refine blk_alloc ?_ _)); exact BK807.out⟩, ⟨by repeat (first | (with_reducible first | exact HB.out | apply below_alloc | apply pw_below_drewN | apply below_drew1 | refine below_set ?_ GE807.out) | exact HB.out)⟩⟩
            · rw [if_neg c16] at H
              have c16b0 : (t797 == 23) = false := beq_eq_false_iff_ne.mpr c16
              have c16b1 : (t797 != 23) = true := bne_iff_ne.mpr c16
              have H' := Aside0.mk H
              clear H
              have hcz18_0 : w6.cell? ⟨gb807, 0, none⟩ = some (.int .u16 0) := (blk_cell BK807.out 0).trans rfl
              have hcz18_1 : w6.cell? ⟨gb807, 1, none⟩ = some (.string (⟨#[]⟩ : ByteArray)) := (blk_cell BK807.out 1).trans rfl
              have hcz18_2 : w6.cell? ⟨gb807, 2, none⟩ = some (.int .u8 0) := (blk_cell BK807.out 2).trans rfl
              have hcz18_3 : w6.cell? ⟨gb807, 3, none⟩ = some (.slice none 0 0) := (blk_cell BK807.out 3).trans rfl
              have hcz18_4 : w6.cell? ⟨gb807, 4, none⟩ = some (.slice none 0 0) := (blk_cell BK807.out 4).trans rfl
              have hcz18_5 : w6.cell? ⟨gb807, 5, none⟩ = some (.int .i64 0) := (blk_cell BK807.out 5).trans rfl
              have hcz18_6 : w6.cell? ⟨gb807, 6, none⟩ = some (.bool false) := (blk_cell BK807.out 6).trans rfl
              have hfz18_0 := blk_frozen BK807.out 0
              have hfz18_1 := blk_frozen BK807.out 1
              have hfz18_2 := blk_frozen BK807.out 2
              have hfz18_3 := blk_frozen BK807.out 3
              have hfz18_4 := blk_frozen BK807.out 4
              have hfz18_5 := blk_frozen BK807.out 5
              have hfz18_6 := blk_frozen BK807.out 6
              go_wp2
              go_meet
              case rel => exact ⟨_, ((t797 == 24)), (by first | rfl | (simp; done) | (simp [*]; done)), H', ⟨by first | omega | exact Nat.le_refl _⟩, ⟨by (with_reducible repeat (first | apply Kd.R_alloc | apply Kd.R_drewN | apply Kd.R_drew)); exact Kd.R_mono (Kd.R_far (p := ⟨gb807, 6, none⟩) (Kd.R_far (p := ⟨gb807, 5, none⟩) (Kd.R_far (p := ⟨gb807, 4, none⟩) (Kd.R_far (p := ⟨gb807, 3, none⟩) (Kd.R_far (p := ⟨gb807, 2, none⟩) (Kd.R_far (p := ⟨gb807, 1, none⟩) (Kd.R_far (p := ⟨gb807, 0, none⟩) (Kd.R_types HO800.out BK807.out (by decide)) (fun _ hk => hk.2) (.int .u16 t795)) (fun _ hk => hk.2) (.string t796)) (fun _ hk => hk.2) (.int .u8 t797)) (fun _ hk => hk.2) (.slice Ao8 t798.length co8)) (fun _ hk => hk.2) (.slice Ao9 t801.length co9)) (fun _ hk => hk.2) (.int .i64 t804)) (fun _ hk => hk.2) (.bool t805)) (fun _ hk => hk.1)⟩, ⟨by (with_reducible repeat (first | apply Kd.R_alloc | apply Kd.R_drewN | apply Kd.R_drew)); exact Kd.R_mono (Kd.R_far (p := ⟨gb807, 6, none⟩) (Kd.R_far (p := ⟨gb807, 5, none⟩) (Kd.R_far (p := ⟨gb807, 4, none⟩) (Kd.R_far (p := ⟨gb807, 3, none⟩) (Kd.R_far (p := ⟨gb807, 2, none⟩) (Kd.R_far (p := ⟨gb807, 1, none⟩) (Kd.R_far (p := ⟨gb807, 0, none⟩) (Kd.R_types HO803.out BK807.out (by decide)) (fun _ hk => hk.2) (.int .u16 t795)) (fun _ hk => hk.2) (.string t796)) (fun _ hk => hk.2) (.int .u8 t797)) (fun _ hk => hk.2) (.slice Ao8 t798.length co8)) (fun _ hk => hk.2) (.slice Ao9 t801.length co9)) (fun _ hk => hk.2) (.int .i64 t804)) (fun _ hk => hk.2) (.bool t805)) (fun _ hk => hk.1)⟩, ⟨by (with_reducible repeat (first | refine blk_drewN ?_ _ | refine blk_drew ?_ | refine blk_alloc ?_ _)); refine blk_put (cs := #[.int .u16 t795, .string t796, .int .u8 t797, .slice Ao8 t798.length co8, .slice Ao9 t801.length co9, .int .i64 t804, .bool false]) ?_ 6 _ rfl; (with_reducible repeat (first | refine blk_drewN ?_ _ | refine blk_drew ?_ | refine blk_alloc ?_ _)); refine blk_put (cs := #[.int .u16 t795, .string t796, .int .u8 t797, .slice Ao8 t798.length co8, .slice Ao9 t801.length co9, .int .i64 0, .bool false]) ?_ 5 _ rfl; (with_reducible repeat (first | refine blk_drewN ?_ _ | refine blk_drew ?_ | refine blk_alloc ?_ _)); refine blk_put (cs := #[.int .u16 t795, .string t796, .int .u8 t797, .slice Ao8 t798.length co8, .slice none 0 0, .int .i64 0, .bool false]) ?_ 4 _ rfl; (with_reducible repeat (first | refine blk_drewN ?_ _ | refine blk_drew ?_ | refine blk_alloc ?_ _)); refine blk_put (cs := #[.int .u16 t795, .string t796, .int .u8 t797, .slice none 0 0, .slice none 0 0, .int .i64 0, .bool false]) ?_ 3 _ rfl; (with_reducible repeat (first | refine blk_drewN ?_ _ | refine blk_drew ?_ | refine blk_alloc ?_ _)); refine blk_put (cs := #[.int .u16 t795, .string t796, .int .u8 0, .slice none 0 0, .slice none 0 0, .int .i64 0, .bool false]) ?_ 2 _ rfl; (with_reducible repeat (first | refine blk_drewN ?_ _ | refine blk_drew ?_ | refine blk_alloc ?_ _)); refine blk_put (cs := #[.int .u16 t795, .string (⟨#[]⟩ : ByteArray), .int .u8 0, .slice none 0 0, .slice none 0 0, .int .i64 0, .bool false]) ?_ 1 _ rfl; (with_reducible repeat (first | refine blk_drewN ?_ _ | refine blk_drew ?_ | refine blk_alloc ?_ _)); refine blk_put (cs := #[.int .u16 0, .string (⟨#[]⟩ : ByteArray), .int .u8 0, .slice none 0 0, .slice none 0 0, .int .i64 0, .bool false]) ?_ 0 _ rfl; (with_reducible repeat (first | refine blk_drewN ?_ _ | refine blk_drew ?_ | refine blk_alloc ?_ _)); exact BK807.out⟩, ⟨by repeat (first | (with_reducible first | exact HB.out | apply below_alloc | apply pw_below_drewN | apply below_drew1 | refine below_set ?_ GE807.out) | exact HB.out)⟩⟩
    case rest =>
      clear HC4
      try clear c1
      try clear p2
      try clear c3
      try clear c3b0
      try clear c3b1
      try clear c4
      try clear c10
      try clear c10b0
      try clear c10b1
      try clear c11
      try clear c12
      try clear c12b0
      try clear c12b1
      try clear c14
      try clear c14b0
      try clear c14b1
      try clear c16
      try clear c16b0
      try clear c16b1
      try clear hcz11_0
      try clear hcz11_1
      try clear hcz11_2
      try clear hcz11_3
      try clear hcz11_4
      try clear hcz11_5
      try clear hcz11_6
      try clear hcz13_0
      try clear hcz13_1
      try clear hcz13_2
      try clear hcz13_3
      try clear hcz13_4
      try clear hcz13_5
      try clear hcz13_6
      try clear hcz15_0
      try clear hcz15_1
      try clear hcz15_2
      try clear hcz15_3
      try clear hcz15_4
      try clear hcz15_5
      try clear hcz15_6
      try clear hcz17_0
      try clear hcz17_1
      try clear hcz17_2
      try clear hcz17_3
      try clear hcz17_4
      try clear hcz17_5
      try clear hcz17_6
      try clear hcz18_0
      try clear hcz18_1
      try clear hcz18_2
      try clear hcz18_3
      try clear hcz18_4
      try clear hcz18_5
      try clear hcz18_6
      try clear hcz7_0
      try clear hcz7_1
      try clear hcz7_2
      try clear hcz7_3
      try clear hcz7_4
      try clear hcz7_5
      try clear hcz7_6
      try clear hfz11_0
      try clear hfz11_1
      try clear hfz11_2
      try clear hfz11_3
      try clear hfz11_4
      try clear hfz11_5
      try clear hfz11_6
      try clear hfz13_0
      try clear hfz13_1
      try clear hfz13_2
      try clear hfz13_3
      try clear hfz13_4
      try clear hfz13_5
      try clear hfz13_6
      try clear hfz15_0
      try clear hfz15_1
      try clear hfz15_2
      try clear hfz15_3
      try clear hfz15_4
      try clear hfz15_5
      try clear hfz15_6
      try clear hfz17_0
      try clear hfz17_1
      try clear hfz17_2
      try clear hfz17_3
      try clear hfz17_4
      try clear hfz17_5
      try clear hfz17_6
      try clear hfz18_0
      try clear hfz18_1
      try clear hfz18_2
      try clear hfz18_3
      try clear hfz18_4
      try clear hfz18_5
      try clear hfz18_6
      try clear hfz7_0
      try clear hfz7_1
      try clear hfz7_2
      try clear hfz7_3
      try clear hfz7_4
      try clear hfz7_5
      try clear hfz7_6
      obtain ⟨kq, x5_3, rfl, HA, HJ3, HO_808003, HO_808004, BK807, HB⟩ := hcut
      cases kq with
      | zero => exact absurd HA.out (by simp [jacquardlaw10_OpsPlain.j0])
      | succ kj3 =>
        have H := HA.out
        clear HA
        simp only [jacquardlaw10_OpsPlain.j0] at H
        have HC19 := Aside0.mk H
        clear H
        go_upto_region 5 with (fail)
        go_cut [6] (fun v6 wc => ∃ (kq : Nat) (x6_18 : Bool), v6 = .bool x6_18 ∧ Aside0 (jacquardlaw10_OpsPlain.j1 kq x5_3 x6_18 t795 t796 t797 t798 t801 t804 t805 = some true) ∧ Aside0 (kq ≤ kj3) ∧ Aside0 (Kd.R (Kd.int .u8) 34 wc w.heap.size (fun k_ => some k_ ≠ ((.slice Ao9 t801.length co9) : Value).ownBlock) (.slice Ao8 t798.length co8) t798) ∧ Aside0 (Kd.R (Kd.int .u8) 34 wc w.heap.size (fun k_ => some k_ ≠ ((.slice Ao8 t798.length co8) : Value).ownBlock) (.slice Ao9 t801.length co9) t801) ∧ Aside0 (wc.heap[gb807]? = some (.cells #[.int .u16 t795, .string t796, .int .u8 t797, (.slice Ao8 t798.length co8), (.slice Ao9 t801.length co9), .int .i64 t804, .bool t805] 27 (0, 0))) ∧ Aside0 (Below w.heap.size w wc))
        case first =>
          have H := HC19.out
          clear HC19
          by_cases c20 : t797 = 16
          · rw [if_pos c20] at H
            have c20b0 : (t797 == 16) = true := beq_iff_eq.mpr c20
            have c20b1 : (t797 != 16) = false := bne_eq_false_iff_eq.mpr c20
            clear c20
            (first | rw [c20b0] | (simp only [i64_w, i32_w]; rw [c20b0]) | skip)
            have H' := Aside0.mk H
            clear H
            have hcz21_0 : wc.cell? ⟨gb807, 0, none⟩ = some (.int .u16 t795) := (blk_cell BK807.out 0).trans rfl
            have hcz21_1 : wc.cell? ⟨gb807, 1, none⟩ = some (.string t796) := (blk_cell BK807.out 1).trans rfl
            have hcz21_2 : wc.cell? ⟨gb807, 2, none⟩ = some (.int .u8 t797) := (blk_cell BK807.out 2).trans rfl
            have hcz21_3 : wc.cell? ⟨gb807, 3, none⟩ = some (.slice Ao8 t798.length co8) := (blk_cell BK807.out 3).trans rfl
            have hcz21_4 : wc.cell? ⟨gb807, 4, none⟩ = some (.slice Ao9 t801.length co9) := (blk_cell BK807.out 4).trans rfl
            have hcz21_5 : wc.cell? ⟨gb807, 5, none⟩ = some (.int .i64 t804) := (blk_cell BK807.out 5).trans rfl
            have hcz21_6 : wc.cell? ⟨gb807, 6, none⟩ = some (.bool t805) := (blk_cell BK807.out 6).trans rfl
            have hfz21_0 := blk_frozen BK807.out 0
            have hfz21_1 := blk_frozen BK807.out 1
            have hfz21_2 := blk_frozen BK807.out 2
            have hfz21_3 := blk_frozen BK807.out 3
            have hfz21_4 := blk_frozen BK807.out 4
            have hfz21_5 := blk_frozen BK807.out 5
            have hfz21_6 := blk_frozen BK807.out 6
            go_wp2
            go_meet
            case rel => exact ⟨_, (true), (by first | rfl | (simp; done) | (simp [*]; done)), H', ⟨by have := HJ3.out; first | omega | exact Nat.le_refl _⟩, ⟨by (with_reducible repeat (first | apply Kd.R_alloc | apply Kd.R_drewN | apply Kd.R_drew)); exact HO_808003.out⟩, ⟨by (with_reducible repeat (first | apply Kd.R_alloc | apply Kd.R_drewN | apply Kd.R_drew)); exact HO_808004.out⟩, ⟨by (with_reducible repeat (first | refine blk_drewN ?_ _ | refine blk_drew ?_ | refine blk_alloc ?_ _)); exact BK807.out⟩, ⟨by repeat (first | (with_reducible first | exact HB.out | apply below_alloc | apply pw_below_drewN | apply below_drew1 | refine below_set ?_ GE807.out) | exact HB.out)⟩⟩
          · rw [if_neg c20] at H
            have c20b0 : (t797 == 16) = false := beq_eq_false_iff_ne.mpr c20
            have c20b1 : (t797 != 16) = true := bne_iff_ne.mpr c20
            (first | rw [c20b0] | (simp only [i64_w, i32_w]; rw [c20b0]) | skip)
            have H' := Aside0.mk H
            clear H
            have hcz22_0 : wc.cell? ⟨gb807, 0, none⟩ = some (.int .u16 t795) := (blk_cell BK807.out 0).trans rfl
            have hcz22_1 : wc.cell? ⟨gb807, 1, none⟩ = some (.string t796) := (blk_cell BK807.out 1).trans rfl
            have hcz22_2 : wc.cell? ⟨gb807, 2, none⟩ = some (.int .u8 t797) := (blk_cell BK807.out 2).trans rfl
            have hcz22_3 : wc.cell? ⟨gb807, 3, none⟩ = some (.slice Ao8 t798.length co8) := (blk_cell BK807.out 3).trans rfl
            have hcz22_4 : wc.cell? ⟨gb807, 4, none⟩ = some (.slice Ao9 t801.length co9) := (blk_cell BK807.out 4).trans rfl
            have hcz22_5 : wc.cell? ⟨gb807, 5, none⟩ = some (.int .i64 t804) := (blk_cell BK807.out 5).trans rfl
            have hcz22_6 : wc.cell? ⟨gb807, 6, none⟩ = some (.bool t805) := (blk_cell BK807.out 6).trans rfl
            have hfz22_0 := blk_frozen BK807.out 0
            have hfz22_1 := blk_frozen BK807.out 1
            have hfz22_2 := blk_frozen BK807.out 2
            have hfz22_3 := blk_frozen BK807.out 3
            have hfz22_4 := blk_frozen BK807.out 4
            have hfz22_5 := blk_frozen BK807.out 5
            have hfz22_6 := blk_frozen BK807.out 6
            go_wp2
            go_meet
            case rel => exact ⟨_, ((t797 == 17)), (by first | rfl | (simp; done) | (simp [*]; done)), H', ⟨by have := HJ3.out; first | omega | exact Nat.le_refl _⟩, ⟨by (with_reducible repeat (first | apply Kd.R_alloc | apply Kd.R_drewN | apply Kd.R_drew)); exact HO_808003.out⟩, ⟨by (with_reducible repeat (first | apply Kd.R_alloc | apply Kd.R_drewN | apply Kd.R_drew)); exact HO_808004.out⟩, ⟨by (with_reducible repeat (first | refine blk_drewN ?_ _ | refine blk_drew ?_ | refine blk_alloc ?_ _)); exact BK807.out⟩, ⟨by repeat (first | (with_reducible first | exact HB.out | apply below_alloc | apply pw_below_drewN | apply below_drew1 | refine below_set ?_ GE807.out) | exact HB.out)⟩⟩
        case rest =>
          clear HC19
          try clear c1
          try clear c2
          try clear p2
          try clear c3
          try clear c3b0
          try clear c3b1
          try clear c4
          try clear c10
          try clear c10b0
          try clear c10b1
          try clear c11
          try clear c12
          try clear c12b0
          try clear c12b1
          try clear c14
          try clear c14b0
          try clear c14b1
          try clear c16
          try clear c16b0
          try clear c16b1
          try clear c20
          try clear c20b0
          try clear c20b1
          try clear hcz11_0
          try clear hcz11_1
          try clear hcz11_2
          try clear hcz11_3
          try clear hcz11_4
          try clear hcz11_5
          try clear hcz11_6
          try clear hcz13_0
          try clear hcz13_1
          try clear hcz13_2
          try clear hcz13_3
          try clear hcz13_4
          try clear hcz13_5
          try clear hcz13_6
          try clear hcz15_0
          try clear hcz15_1
          try clear hcz15_2
          try clear hcz15_3
          try clear hcz15_4
          try clear hcz15_5
          try clear hcz15_6
          try clear hcz17_0
          try clear hcz17_1
          try clear hcz17_2
          try clear hcz17_3
          try clear hcz17_4
          try clear hcz17_5
          try clear hcz17_6
          try clear hcz18_0
          try clear hcz18_1
          try clear hcz18_2
          try clear hcz18_3
          try clear hcz18_4
          try clear hcz18_5
          try clear hcz18_6
          try clear hcz21_0
          try clear hcz21_1
          try clear hcz21_2
          try clear hcz21_3
          try clear hcz21_4
          try clear hcz21_5
          try clear hcz21_6
          try clear hcz22_0
          try clear hcz22_1
          try clear hcz22_2
          try clear hcz22_3
          try clear hcz22_4
          try clear hcz22_5
          try clear hcz22_6
          try clear hcz7_0
          try clear hcz7_1
          try clear hcz7_2
          try clear hcz7_3
          try clear hcz7_4
          try clear hcz7_5
          try clear hcz7_6
          try clear hfz11_0
          try clear hfz11_1
          try clear hfz11_2
          try clear hfz11_3
          try clear hfz11_4
          try clear hfz11_5
          try clear hfz11_6
          try clear hfz13_0
          try clear hfz13_1
          try clear hfz13_2
          try clear hfz13_3
          try clear hfz13_4
          try clear hfz13_5
          try clear hfz13_6
          try clear hfz15_0
          try clear hfz15_1
          try clear hfz15_2
          try clear hfz15_3
          try clear hfz15_4
          try clear hfz15_5
          try clear hfz15_6
          try clear hfz17_0
          try clear hfz17_1
          try clear hfz17_2
          try clear hfz17_3
          try clear hfz17_4
          try clear hfz17_5
          try clear hfz17_6
          try clear hfz18_0
          try clear hfz18_1
          try clear hfz18_2
          try clear hfz18_3
          try clear hfz18_4
          try clear hfz18_5
          try clear hfz18_6
          try clear hfz21_0
          try clear hfz21_1
          try clear hfz21_2
          try clear hfz21_3
          try clear hfz21_4
          try clear hfz21_5
          try clear hfz21_6
          try clear hfz22_0
          try clear hfz22_1
          try clear hfz22_2
          try clear hfz22_3
          try clear hfz22_4
          try clear hfz22_5
          try clear hfz22_6
          try clear hfz7_0
          try clear hfz7_1
          try clear hfz7_2
          try clear hfz7_3
          try clear hfz7_4
          try clear hfz7_5
          try clear hfz7_6
          try clear p2
          obtain ⟨kq, x6_18, rfl, HA, HJ18, HO_808003, HO_808004, BK807, HB⟩ := hcut
          cases kq with
          | zero => exact absurd HA.out (by simp [jacquardlaw10_OpsPlain.j1])
          | succ kj18 =>
            have H := HA.out
            clear HA
            simp only [jacquardlaw10_OpsPlain.j1] at H
            have HC23 := Aside0.mk H
            clear H
            go_upto_region 6 with (fail)
            go_cut [86] (fun v86 wc => ∃ (kq : Nat) (x86_22 : Bool), v86 = .bool x86_22 ∧ Aside0 (jacquardlaw10_OpsPlain.j2 kq x6_18 x86_22 t795 t796 t797 t798 t801 t804 t805 = some true) ∧ Aside0 (kq ≤ kj18) ∧ Aside0 (Kd.R (Kd.int .u8) 34 wc w.heap.size (fun k_ => some k_ ≠ ((.slice Ao9 t801.length co9) : Value).ownBlock) (.slice Ao8 t798.length co8) t798) ∧ Aside0 (Kd.R (Kd.int .u8) 34 wc w.heap.size (fun k_ => some k_ ≠ ((.slice Ao8 t798.length co8) : Value).ownBlock) (.slice Ao9 t801.length co9) t801) ∧ Aside0 (wc.heap[gb807]? = some (.cells #[.int .u16 t795, .string t796, .int .u8 t797, (.slice Ao8 t798.length co8), (.slice Ao9 t801.length co9), .int .i64 t804, .bool t805] 27 (0, 0))) ∧ Aside0 (Below w.heap.size w wc))
            case first =>
              have H := HC23.out
              clear HC23
              by_cases c24 : t805 = true
              · subst c24
                have H1 : (if (t801.length : Int) = 1 then (if t804 = 0 then (if x5_3 = true then (jacquardlaw10_OpsPlain.j2 kj18 x6_18 ((t798.length : Int) != 0) t795 t796 t797 t798 t801 t804 true) else (if t797 = 0 then (jacquardlaw10_OpsPlain.j2 kj18 x6_18 false t795 t796 t797 t798 t801 t804 true) else (if t797 = 18 then (jacquardlaw10_OpsPlain.j2 kj18 x6_18 false t795 t796 t797 t798 t801 t804 true) else (if t797 = 19 then (jacquardlaw10_OpsPlain.j2 kj18 x6_18 false t795 t796 t797 t798 t801 t804 true) else (jacquardlaw10_OpsPlain.j2 kj18 x6_18 true t795 t796 t797 t798 t801 t804 true))))) else (jacquardlaw10_OpsPlain.j2 kj18 x6_18 true t795 t796 t797 t798 t801 t804 true)) else (jacquardlaw10_OpsPlain.j2 kj18 x6_18 true t795 t796 t797 t798 t801 t804 true)) = some true := by rw [if_pos rfl] at H; exact H
                clear H
                have H := H1
                clear H1
                by_cases c25 : (t801.length : Int) = 1
                · rw [if_pos c25] at H
                  have c25b0 : ((t801.length : Int) == 1) = true := beq_iff_eq.mpr c25
                  have c25b1 : ((t801.length : Int) != 1) = false := bne_eq_false_iff_eq.mpr c25
                  clear c25
                  (first | rw [c25b0] | (simp only [i64_w, i32_w]; rw [c25b0]) | skip)
                  by_cases c26 : t804 = 0
                  · rw [if_pos c26] at H
                    have c26b0 : (t804 == 0) = true := beq_iff_eq.mpr c26
                    have c26b1 : (t804 != 0) = false := bne_eq_false_iff_eq.mpr c26
                    clear c26
                    by_cases c27 : x5_3 = true
                    · subst c27
                      have H1 : (jacquardlaw10_OpsPlain.j2 kj18 x6_18 ((t798.length : Int) != 0) t795 t796 t797 t798 t801 t804 true) = some true := by rw [if_pos rfl] at H; exact H
                      clear H
                      have H := H1
                      clear H1
                      have H' := Aside0.mk H
                      clear H
                      have hcz28_0 : wc.cell? ⟨gb807, 0, none⟩ = some (.int .u16 t795) := (blk_cell BK807.out 0).trans rfl
                      have hcz28_1 : wc.cell? ⟨gb807, 1, none⟩ = some (.string t796) := (blk_cell BK807.out 1).trans rfl
                      have hcz28_2 : wc.cell? ⟨gb807, 2, none⟩ = some (.int .u8 t797) := (blk_cell BK807.out 2).trans rfl
                      have hcz28_3 : wc.cell? ⟨gb807, 3, none⟩ = some (.slice Ao8 t798.length co8) := (blk_cell BK807.out 3).trans rfl
                      have hcz28_4 : wc.cell? ⟨gb807, 4, none⟩ = some (.slice Ao9 t801.length co9) := (blk_cell BK807.out 4).trans rfl
                      have hcz28_5 : wc.cell? ⟨gb807, 5, none⟩ = some (.int .i64 t804) := (blk_cell BK807.out 5).trans rfl
                      have hcz28_6 : wc.cell? ⟨gb807, 6, none⟩ = some (.bool true) := (blk_cell BK807.out 6).trans rfl
                      have hfz28_0 := blk_frozen BK807.out 0
                      have hfz28_1 := blk_frozen BK807.out 1
                      have hfz28_2 := blk_frozen BK807.out 2
                      have hfz28_3 := blk_frozen BK807.out 3
                      have hfz28_4 := blk_frozen BK807.out 4
                      have hfz28_5 := blk_frozen BK807.out 5
                      have hfz28_6 := blk_frozen BK807.out 6
                      go_wp2
                      go_meet
                      case rel => exact ⟨_, (((t798.length : Int) != 0)), (by first | rfl | (simp; done) | (simp [*]; done)), H', ⟨by have := HJ3.out; have := HJ18.out; first | omega | exact Nat.le_refl _⟩, ⟨by (with_reducible repeat (first | apply Kd.R_alloc | apply Kd.R_drewN | apply Kd.R_drew)); exact HO_808003.out⟩, ⟨by (with_reducible repeat (first | apply Kd.R_alloc | apply Kd.R_drewN | apply Kd.R_drew)); exact HO_808004.out⟩, ⟨by (with_reducible repeat (first | refine blk_drewN ?_ _ | refine blk_drew ?_ | refine blk_alloc ?_ _)); exact BK807.out⟩, ⟨by repeat (first | (with_reducible first | exact HB.out | apply below_alloc | apply pw_below_drewN | apply below_drew1 | refine below_set ?_ GE807.out) | exact HB.out)⟩⟩
                    · replace c27 := Bool.eq_false_iff.mpr c27
                      subst c27
                      have H1 : (if t797 = 0 then (jacquardlaw10_OpsPlain.j2 kj18 x6_18 false t795 t796 t797 t798 t801 t804 true) else (if t797 = 18 then (jacquardlaw10_OpsPlain.j2 kj18 x6_18 false t795 t796 t797 t798 t801 t804 true) else (if t797 = 19 then (jacquardlaw10_OpsPlain.j2 kj18 x6_18 false t795 t796 t797 t798 t801 t804 true) else (jacquardlaw10_OpsPlain.j2 kj18 x6_18 true t795 t796 t797 t798 t801 t804 true)))) = some true := by rw [if_neg (show ¬ (false = true) by decide)] at H; exact H
                      clear H
                      have H := H1
                      clear H1
                      by_cases c29 : t797 = 0
                      · rw [if_pos c29] at H
                        have c29b0 : (t797 == 0) = true := beq_iff_eq.mpr c29
                        have c29b1 : (t797 != 0) = false := bne_eq_false_iff_eq.mpr c29
                        clear c29
                        have H' := Aside0.mk H
                        clear H
                        have hcz30_0 : wc.cell? ⟨gb807, 0, none⟩ = some (.int .u16 t795) := (blk_cell BK807.out 0).trans rfl
                        have hcz30_1 : wc.cell? ⟨gb807, 1, none⟩ = some (.string t796) := (blk_cell BK807.out 1).trans rfl
                        have hcz30_2 : wc.cell? ⟨gb807, 2, none⟩ = some (.int .u8 t797) := (blk_cell BK807.out 2).trans rfl
                        have hcz30_3 : wc.cell? ⟨gb807, 3, none⟩ = some (.slice Ao8 t798.length co8) := (blk_cell BK807.out 3).trans rfl
                        have hcz30_4 : wc.cell? ⟨gb807, 4, none⟩ = some (.slice Ao9 t801.length co9) := (blk_cell BK807.out 4).trans rfl
                        have hcz30_5 : wc.cell? ⟨gb807, 5, none⟩ = some (.int .i64 t804) := (blk_cell BK807.out 5).trans rfl
                        have hcz30_6 : wc.cell? ⟨gb807, 6, none⟩ = some (.bool true) := (blk_cell BK807.out 6).trans rfl
                        have hfz30_0 := blk_frozen BK807.out 0
                        have hfz30_1 := blk_frozen BK807.out 1
                        have hfz30_2 := blk_frozen BK807.out 2
                        have hfz30_3 := blk_frozen BK807.out 3
                        have hfz30_4 := blk_frozen BK807.out 4
                        have hfz30_5 := blk_frozen BK807.out 5
                        have hfz30_6 := blk_frozen BK807.out 6
                        go_wp2
                        go_meet
                        case rel => exact ⟨_, (false), (by first | rfl | (simp; done) | (simp [*]; done)), H', ⟨by have := HJ3.out; have := HJ18.out; first | omega | exact Nat.le_refl _⟩, ⟨by (with_reducible repeat (first | apply Kd.R_alloc | apply Kd.R_drewN | apply Kd.R_drew)); exact HO_808003.out⟩, ⟨by (with_reducible repeat (first | apply Kd.R_alloc | apply Kd.R_drewN | apply Kd.R_drew)); exact HO_808004.out⟩, ⟨by (with_reducible repeat (first | refine blk_drewN ?_ _ | refine blk_drew ?_ | refine blk_alloc ?_ _)); exact BK807.out⟩, ⟨by repeat (first | (with_reducible first | exact HB.out | apply below_alloc | apply pw_below_drewN | apply below_drew1 | refine below_set ?_ GE807.out) | exact HB.out)⟩⟩
                      · rw [if_neg c29] at H
                        have c29b0 : (t797 == 0) = false := beq_eq_false_iff_ne.mpr c29
                        have c29b1 : (t797 != 0) = true := bne_iff_ne.mpr c29
                        by_cases c31 : t797 = 18
                        · rw [if_pos c31] at H
                          have c31b0 : (t797 == 18) = true := beq_iff_eq.mpr c31
                          have c31b1 : (t797 != 18) = false := bne_eq_false_iff_eq.mpr c31
                          clear c31
                          have H' := Aside0.mk H
                          clear H
                          have hcz32_0 : wc.cell? ⟨gb807, 0, none⟩ = some (.int .u16 t795) := (blk_cell BK807.out 0).trans rfl
                          have hcz32_1 : wc.cell? ⟨gb807, 1, none⟩ = some (.string t796) := (blk_cell BK807.out 1).trans rfl
                          have hcz32_2 : wc.cell? ⟨gb807, 2, none⟩ = some (.int .u8 t797) := (blk_cell BK807.out 2).trans rfl
                          have hcz32_3 : wc.cell? ⟨gb807, 3, none⟩ = some (.slice Ao8 t798.length co8) := (blk_cell BK807.out 3).trans rfl
                          have hcz32_4 : wc.cell? ⟨gb807, 4, none⟩ = some (.slice Ao9 t801.length co9) := (blk_cell BK807.out 4).trans rfl
                          have hcz32_5 : wc.cell? ⟨gb807, 5, none⟩ = some (.int .i64 t804) := (blk_cell BK807.out 5).trans rfl
                          have hcz32_6 : wc.cell? ⟨gb807, 6, none⟩ = some (.bool true) := (blk_cell BK807.out 6).trans rfl
                          have hfz32_0 := blk_frozen BK807.out 0
                          have hfz32_1 := blk_frozen BK807.out 1
                          have hfz32_2 := blk_frozen BK807.out 2
                          have hfz32_3 := blk_frozen BK807.out 3
                          have hfz32_4 := blk_frozen BK807.out 4
                          have hfz32_5 := blk_frozen BK807.out 5
                          have hfz32_6 := blk_frozen BK807.out 6
                          go_wp2
                          go_meet
                          case rel => exact ⟨_, (false), (by first | rfl | (simp; done) | (simp [*]; done)), H', ⟨by have := HJ3.out; have := HJ18.out; first | omega | exact Nat.le_refl _⟩, ⟨by (with_reducible repeat (first | apply Kd.R_alloc | apply Kd.R_drewN | apply Kd.R_drew)); exact HO_808003.out⟩, ⟨by (with_reducible repeat (first | apply Kd.R_alloc | apply Kd.R_drewN | apply Kd.R_drew)); exact HO_808004.out⟩, ⟨by (with_reducible repeat (first | refine blk_drewN ?_ _ | refine blk_drew ?_ | refine blk_alloc ?_ _)); exact BK807.out⟩, ⟨by repeat (first | (with_reducible first | exact HB.out | apply below_alloc | apply pw_below_drewN | apply below_drew1 | refine below_set ?_ GE807.out) | exact HB.out)⟩⟩
                        · rw [if_neg c31] at H
                          have c31b0 : (t797 == 18) = false := beq_eq_false_iff_ne.mpr c31
                          have c31b1 : (t797 != 18) = true := bne_iff_ne.mpr c31
                          by_cases c33 : t797 = 19
                          · rw [if_pos c33] at H
                            have c33b0 : (t797 == 19) = true := beq_iff_eq.mpr c33
                            have c33b1 : (t797 != 19) = false := bne_eq_false_iff_eq.mpr c33
                            clear c33
                            have H' := Aside0.mk H
                            clear H
                            have hcz34_0 : wc.cell? ⟨gb807, 0, none⟩ = some (.int .u16 t795) := (blk_cell BK807.out 0).trans rfl
                            have hcz34_1 : wc.cell? ⟨gb807, 1, none⟩ = some (.string t796) := (blk_cell BK807.out 1).trans rfl
                            have hcz34_2 : wc.cell? ⟨gb807, 2, none⟩ = some (.int .u8 t797) := (blk_cell BK807.out 2).trans rfl
                            have hcz34_3 : wc.cell? ⟨gb807, 3, none⟩ = some (.slice Ao8 t798.length co8) := (blk_cell BK807.out 3).trans rfl
                            have hcz34_4 : wc.cell? ⟨gb807, 4, none⟩ = some (.slice Ao9 t801.length co9) := (blk_cell BK807.out 4).trans rfl
                            have hcz34_5 : wc.cell? ⟨gb807, 5, none⟩ = some (.int .i64 t804) := (blk_cell BK807.out 5).trans rfl
                            have hcz34_6 : wc.cell? ⟨gb807, 6, none⟩ = some (.bool true) := (blk_cell BK807.out 6).trans rfl
                            have hfz34_0 := blk_frozen BK807.out 0
                            have hfz34_1 := blk_frozen BK807.out 1
                            have hfz34_2 := blk_frozen BK807.out 2
                            have hfz34_3 := blk_frozen BK807.out 3
                            have hfz34_4 := blk_frozen BK807.out 4
                            have hfz34_5 := blk_frozen BK807.out 5
                            have hfz34_6 := blk_frozen BK807.out 6
                            go_wp2
                            go_meet
                            case rel => exact ⟨_, (false), (by first | rfl | (simp; done) | (simp [*]; done)), H', ⟨by have := HJ3.out; have := HJ18.out; first | omega | exact Nat.le_refl _⟩, ⟨by (with_reducible repeat (first | apply Kd.R_alloc | apply Kd.R_drewN | apply Kd.R_drew)); exact HO_808003.out⟩, ⟨by (with_reducible repeat (first | apply Kd.R_alloc | apply Kd.R_drewN | apply Kd.R_drew)); exact HO_808004.out⟩, ⟨by (with_reducible repeat (first | refine blk_drewN ?_ _ | refine blk_drew ?_ | refine blk_alloc ?_ _)); exact BK807.out⟩, ⟨by repeat (first | (with_reducible first | exact HB.out | apply below_alloc | apply pw_below_drewN | apply below_drew1 | refine below_set ?_ GE807.out) | exact HB.out)⟩⟩
                          · rw [if_neg c33] at H
                            have c33b0 : (t797 == 19) = false := beq_eq_false_iff_ne.mpr c33
                            have c33b1 : (t797 != 19) = true := bne_iff_ne.mpr c33
                            have H' := Aside0.mk H
                            clear H
                            have hcz35_0 : wc.cell? ⟨gb807, 0, none⟩ = some (.int .u16 t795) := (blk_cell BK807.out 0).trans rfl
                            have hcz35_1 : wc.cell? ⟨gb807, 1, none⟩ = some (.string t796) := (blk_cell BK807.out 1).trans rfl
                            have hcz35_2 : wc.cell? ⟨gb807, 2, none⟩ = some (.int .u8 t797) := (blk_cell BK807.out 2).trans rfl
                            have hcz35_3 : wc.cell? ⟨gb807, 3, none⟩ = some (.slice Ao8 t798.length co8) := (blk_cell BK807.out 3).trans rfl
                            have hcz35_4 : wc.cell? ⟨gb807, 4, none⟩ = some (.slice Ao9 t801.length co9) := (blk_cell BK807.out 4).trans rfl
                            have hcz35_5 : wc.cell? ⟨gb807, 5, none⟩ = some (.int .i64 t804) := (blk_cell BK807.out 5).trans rfl
                            have hcz35_6 : wc.cell? ⟨gb807, 6, none⟩ = some (.bool true) := (blk_cell BK807.out 6).trans rfl
                            have hfz35_0 := blk_frozen BK807.out 0
                            have hfz35_1 := blk_frozen BK807.out 1
                            have hfz35_2 := blk_frozen BK807.out 2
                            have hfz35_3 := blk_frozen BK807.out 3
                            have hfz35_4 := blk_frozen BK807.out 4
                            have hfz35_5 := blk_frozen BK807.out 5
                            have hfz35_6 := blk_frozen BK807.out 6
                            go_wp2
                            go_meet
                            case rel => exact ⟨_, (true), (by first | rfl | (simp; done) | (simp [*]; done)), H', ⟨by have := HJ3.out; have := HJ18.out; first | omega | exact Nat.le_refl _⟩, ⟨by (with_reducible repeat (first | apply Kd.R_alloc | apply Kd.R_drewN | apply Kd.R_drew)); exact HO_808003.out⟩, ⟨by (with_reducible repeat (first | apply Kd.R_alloc | apply Kd.R_drewN | apply Kd.R_drew)); exact HO_808004.out⟩, ⟨by (with_reducible repeat (first | refine blk_drewN ?_ _ | refine blk_drew ?_ | refine blk_alloc ?_ _)); exact BK807.out⟩, ⟨by repeat (first | (with_reducible first | exact HB.out | apply below_alloc | apply pw_below_drewN | apply below_drew1 | refine below_set ?_ GE807.out) | exact HB.out)⟩⟩
                  · rw [if_neg c26] at H
                    have c26b0 : (t804 == 0) = false := beq_eq_false_iff_ne.mpr c26
                    have c26b1 : (t804 != 0) = true := bne_iff_ne.mpr c26
                    have H' := Aside0.mk H
                    clear H
                    have hcz36_0 : wc.cell? ⟨gb807, 0, none⟩ = some (.int .u16 t795) := (blk_cell BK807.out 0).trans rfl
                    have hcz36_1 : wc.cell? ⟨gb807, 1, none⟩ = some (.string t796) := (blk_cell BK807.out 1).trans rfl
                    have hcz36_2 : wc.cell? ⟨gb807, 2, none⟩ = some (.int .u8 t797) := (blk_cell BK807.out 2).trans rfl
                    have hcz36_3 : wc.cell? ⟨gb807, 3, none⟩ = some (.slice Ao8 t798.length co8) := (blk_cell BK807.out 3).trans rfl
                    have hcz36_4 : wc.cell? ⟨gb807, 4, none⟩ = some (.slice Ao9 t801.length co9) := (blk_cell BK807.out 4).trans rfl
                    have hcz36_5 : wc.cell? ⟨gb807, 5, none⟩ = some (.int .i64 t804) := (blk_cell BK807.out 5).trans rfl
                    have hcz36_6 : wc.cell? ⟨gb807, 6, none⟩ = some (.bool true) := (blk_cell BK807.out 6).trans rfl
                    have hfz36_0 := blk_frozen BK807.out 0
                    have hfz36_1 := blk_frozen BK807.out 1
                    have hfz36_2 := blk_frozen BK807.out 2
                    have hfz36_3 := blk_frozen BK807.out 3
                    have hfz36_4 := blk_frozen BK807.out 4
                    have hfz36_5 := blk_frozen BK807.out 5
                    have hfz36_6 := blk_frozen BK807.out 6
                    go_wp2
                    go_meet
                    case rel => exact ⟨_, (true), (by first | rfl | (simp; done) | (simp [*]; done)), H', ⟨by have := HJ3.out; have := HJ18.out; first | omega | exact Nat.le_refl _⟩, ⟨by (with_reducible repeat (first | apply Kd.R_alloc | apply Kd.R_drewN | apply Kd.R_drew)); exact HO_808003.out⟩, ⟨by (with_reducible repeat (first | apply Kd.R_alloc | apply Kd.R_drewN | apply Kd.R_drew)); exact HO_808004.out⟩, ⟨by (with_reducible repeat (first | refine blk_drewN ?_ _ | refine blk_drew ?_ | refine blk_alloc ?_ _)); exact BK807.out⟩, ⟨by repeat (first | (with_reducible first | exact HB.out | apply below_alloc | apply pw_below_drewN | apply below_drew1 | refine below_set ?_ GE807.out) | exact HB.out)⟩⟩
                · rw [if_neg c25] at H
                  have c25b0 : ((t801.length : Int) == 1) = false := beq_eq_false_iff_ne.mpr c25
                  have c25b1 : ((t801.length : Int) != 1) = true := bne_iff_ne.mpr c25
                  (first | rw [c25b0] | (simp only [i64_w, i32_w]; rw [c25b0]) | skip)
                  have H' := Aside0.mk H
                  clear H
                  have hcz37_0 : wc.cell? ⟨gb807, 0, none⟩ = some (.int .u16 t795) := (blk_cell BK807.out 0).trans rfl
                  have hcz37_1 : wc.cell? ⟨gb807, 1, none⟩ = some (.string t796) := (blk_cell BK807.out 1).trans rfl
                  have hcz37_2 : wc.cell? ⟨gb807, 2, none⟩ = some (.int .u8 t797) := (blk_cell BK807.out 2).trans rfl
                  have hcz37_3 : wc.cell? ⟨gb807, 3, none⟩ = some (.slice Ao8 t798.length co8) := (blk_cell BK807.out 3).trans rfl
                  have hcz37_4 : wc.cell? ⟨gb807, 4, none⟩ = some (.slice Ao9 t801.length co9) := (blk_cell BK807.out 4).trans rfl
                  have hcz37_5 : wc.cell? ⟨gb807, 5, none⟩ = some (.int .i64 t804) := (blk_cell BK807.out 5).trans rfl
                  have hcz37_6 : wc.cell? ⟨gb807, 6, none⟩ = some (.bool true) := (blk_cell BK807.out 6).trans rfl
                  have hfz37_0 := blk_frozen BK807.out 0
                  have hfz37_1 := blk_frozen BK807.out 1
                  have hfz37_2 := blk_frozen BK807.out 2
                  have hfz37_3 := blk_frozen BK807.out 3
                  have hfz37_4 := blk_frozen BK807.out 4
                  have hfz37_5 := blk_frozen BK807.out 5
                  have hfz37_6 := blk_frozen BK807.out 6
                  go_wp2
                  go_meet
                  case rel => exact ⟨_, (true), (by first | rfl | (simp; done) | (simp [*]; done)), H', ⟨by have := HJ3.out; have := HJ18.out; first | omega | exact Nat.le_refl _⟩, ⟨by (with_reducible repeat (first | apply Kd.R_alloc | apply Kd.R_drewN | apply Kd.R_drew)); exact HO_808003.out⟩, ⟨by (with_reducible repeat (first | apply Kd.R_alloc | apply Kd.R_drewN | apply Kd.R_drew)); exact HO_808004.out⟩, ⟨by (with_reducible repeat (first | refine blk_drewN ?_ _ | refine blk_drew ?_ | refine blk_alloc ?_ _)); exact BK807.out⟩, ⟨by repeat (first | (with_reducible first | exact HB.out | apply below_alloc | apply pw_below_drewN | apply below_drew1 | refine below_set ?_ GE807.out) | exact HB.out)⟩⟩
              · replace c24 := Bool.eq_false_iff.mpr c24
                subst c24
                have H1 : (jacquardlaw10_OpsPlain.j2 kj18 x6_18 false t795 t796 t797 t798 t801 t804 false) = some true := by rw [if_neg (show ¬ (false = true) by decide)] at H; exact H
                clear H
                have H := H1
                clear H1
                have H' := Aside0.mk H
                clear H
                have hcz38_0 : wc.cell? ⟨gb807, 0, none⟩ = some (.int .u16 t795) := (blk_cell BK807.out 0).trans rfl
                have hcz38_1 : wc.cell? ⟨gb807, 1, none⟩ = some (.string t796) := (blk_cell BK807.out 1).trans rfl
                have hcz38_2 : wc.cell? ⟨gb807, 2, none⟩ = some (.int .u8 t797) := (blk_cell BK807.out 2).trans rfl
                have hcz38_3 : wc.cell? ⟨gb807, 3, none⟩ = some (.slice Ao8 t798.length co8) := (blk_cell BK807.out 3).trans rfl
                have hcz38_4 : wc.cell? ⟨gb807, 4, none⟩ = some (.slice Ao9 t801.length co9) := (blk_cell BK807.out 4).trans rfl
                have hcz38_5 : wc.cell? ⟨gb807, 5, none⟩ = some (.int .i64 t804) := (blk_cell BK807.out 5).trans rfl
                have hcz38_6 : wc.cell? ⟨gb807, 6, none⟩ = some (.bool false) := (blk_cell BK807.out 6).trans rfl
                have hfz38_0 := blk_frozen BK807.out 0
                have hfz38_1 := blk_frozen BK807.out 1
                have hfz38_2 := blk_frozen BK807.out 2
                have hfz38_3 := blk_frozen BK807.out 3
                have hfz38_4 := blk_frozen BK807.out 4
                have hfz38_5 := blk_frozen BK807.out 5
                have hfz38_6 := blk_frozen BK807.out 6
                go_wp2
                go_meet
                case rel => exact ⟨_, (false), (by first | rfl | (simp; done) | (simp [*]; done)), H', ⟨by have := HJ3.out; have := HJ18.out; first | omega | exact Nat.le_refl _⟩, ⟨by (with_reducible repeat (first | apply Kd.R_alloc | apply Kd.R_drewN | apply Kd.R_drew)); exact HO_808003.out⟩, ⟨by (with_reducible repeat (first | apply Kd.R_alloc | apply Kd.R_drewN | apply Kd.R_drew)); exact HO_808004.out⟩, ⟨by (with_reducible repeat (first | refine blk_drewN ?_ _ | refine blk_drew ?_ | refine blk_alloc ?_ _)); exact BK807.out⟩, ⟨by repeat (first | (with_reducible first | exact HB.out | apply below_alloc | apply pw_below_drewN | apply below_drew1 | refine below_set ?_ GE807.out) | exact HB.out)⟩⟩
            case rest =>
              clear HC23
              try clear c1
              try clear c2
              try clear p2
              try clear c3
              try clear c3b0
              try clear c3b1
              try clear c4
              try clear c10
              try clear c10b0
              try clear c10b1
              try clear c11
              try clear c12
              try clear c12b0
              try clear c12b1
              try clear c14
              try clear c14b0
              try clear c14b1
              try clear c16
              try clear c16b0
              try clear c16b1
              try clear c20
              try clear c20b0
              try clear c20b1
              try clear c24
              try clear c25
              try clear c25b0
              try clear c25b1
              try clear c26
              try clear c26b0
              try clear c26b1
              try clear c27
              try clear c29
              try clear c29b0
              try clear c29b1
              try clear c31
              try clear c31b0
              try clear c31b1
              try clear c33
              try clear c33b0
              try clear c33b1
              try clear hcz11_0
              try clear hcz11_1
              try clear hcz11_2
              try clear hcz11_3
              try clear hcz11_4
              try clear hcz11_5
              try clear hcz11_6
              try clear hcz13_0
              try clear hcz13_1
              try clear hcz13_2
              try clear hcz13_3
              try clear hcz13_4
              try clear hcz13_5
              try clear hcz13_6
              try clear hcz15_0
              try clear hcz15_1
              try clear hcz15_2
              try clear hcz15_3
              try clear hcz15_4
              try clear hcz15_5
              try clear hcz15_6
              try clear hcz17_0
              try clear hcz17_1
              try clear hcz17_2
              try clear hcz17_3
              try clear hcz17_4
              try clear hcz17_5
              try clear hcz17_6
              try clear hcz18_0
              try clear hcz18_1
              try clear hcz18_2
              try clear hcz18_3
              try clear hcz18_4
              try clear hcz18_5
              try clear hcz18_6
              try clear hcz21_0
              try clear hcz21_1
              try clear hcz21_2
              try clear hcz21_3
              try clear hcz21_4
              try clear hcz21_5
              try clear hcz21_6
              try clear hcz22_0
              try clear hcz22_1
              try clear hcz22_2
              try clear hcz22_3
              try clear hcz22_4
              try clear hcz22_5
              try clear hcz22_6
              try clear hcz28_0
              try clear hcz28_1
              try clear hcz28_2
              try clear hcz28_3
              try clear hcz28_4
              try clear hcz28_5
              try clear hcz28_6
              try clear hcz30_0
              try clear hcz30_1
              try clear hcz30_2
              try clear hcz30_3
              try clear hcz30_4
              try clear hcz30_5
              try clear hcz30_6
              try clear hcz32_0
              try clear hcz32_1
              try clear hcz32_2
              try clear hcz32_3
              try clear hcz32_4
              try clear hcz32_5
              try clear hcz32_6
              try clear hcz34_0
              try clear hcz34_1
              try clear hcz34_2
              try clear hcz34_3
              try clear hcz34_4
              try clear hcz34_5
              try clear hcz34_6
              try clear hcz35_0
              try clear hcz35_1
              try clear hcz35_2
              try clear hcz35_3
              try clear hcz35_4
              try clear hcz35_5
              try clear hcz35_6
              try clear hcz36_0
              try clear hcz36_1
              try clear hcz36_2
              try clear hcz36_3
              try clear hcz36_4
              try clear hcz36_5
              try clear hcz36_6
              try clear hcz37_0
              try clear hcz37_1
              try clear hcz37_2
              try clear hcz37_3
              try clear hcz37_4
              try clear hcz37_5
              try clear hcz37_6
              try clear hcz38_0
              try clear hcz38_1
              try clear hcz38_2
              try clear hcz38_3
              try clear hcz38_4
              try clear hcz38_5
              try clear hcz38_6
              try clear hcz7_0
              try clear hcz7_1
              try clear hcz7_2
              try clear hcz7_3
              try clear hcz7_4
              try clear hcz7_5
              try clear hcz7_6
              try clear hfz11_0
              try clear hfz11_1
              try clear hfz11_2
              try clear hfz11_3
              try clear hfz11_4
              try clear hfz11_5
              try clear hfz11_6
              try clear hfz13_0
              try clear hfz13_1
              try clear hfz13_2
              try clear hfz13_3
              try clear hfz13_4
              try clear hfz13_5
              try clear hfz13_6
              try clear hfz15_0
              try clear hfz15_1
              try clear hfz15_2
              try clear hfz15_3
              try clear hfz15_4
              try clear hfz15_5
              try clear hfz15_6
              try clear hfz17_0
              try clear hfz17_1
              try clear hfz17_2
              try clear hfz17_3
              try clear hfz17_4
              try clear hfz17_5
              try clear hfz17_6
              try clear hfz18_0
              try clear hfz18_1
              try clear hfz18_2
              try clear hfz18_3
              try clear hfz18_4
              try clear hfz18_5
              try clear hfz18_6
              try clear hfz21_0
              try clear hfz21_1
              try clear hfz21_2
              try clear hfz21_3
              try clear hfz21_4
              try clear hfz21_5
              try clear hfz21_6
              try clear hfz22_0
              try clear hfz22_1
              try clear hfz22_2
              try clear hfz22_3
              try clear hfz22_4
              try clear hfz22_5
              try clear hfz22_6
              try clear hfz28_0
              try clear hfz28_1
              try clear hfz28_2
              try clear hfz28_3
              try clear hfz28_4
              try clear hfz28_5
              try clear hfz28_6
              try clear hfz30_0
              try clear hfz30_1
              try clear hfz30_2
              try clear hfz30_3
              try clear hfz30_4
              try clear hfz30_5
              try clear hfz30_6
              try clear hfz32_0
              try clear hfz32_1
              try clear hfz32_2
              try clear hfz32_3
              try clear hfz32_4
              try clear hfz32_5
              try clear hfz32_6
              try clear hfz34_0
              try clear hfz34_1
              try clear hfz34_2
              try clear hfz34_3
              try clear hfz34_4
              try clear hfz34_5
              try clear hfz34_6
              try clear hfz35_0
              try clear hfz35_1
              try clear hfz35_2
              try clear hfz35_3
              try clear hfz35_4
              try clear hfz35_5
              try clear hfz35_6
              try clear hfz36_0
              try clear hfz36_1
              try clear hfz36_2
              try clear hfz36_3
              try clear hfz36_4
              try clear hfz36_5
              try clear hfz36_6
              try clear hfz37_0
              try clear hfz37_1
              try clear hfz37_2
              try clear hfz37_3
              try clear hfz37_4
              try clear hfz37_5
              try clear hfz37_6
              try clear hfz38_0
              try clear hfz38_1
              try clear hfz38_2
              try clear hfz38_3
              try clear hfz38_4
              try clear hfz38_5
              try clear hfz38_6
              try clear hfz7_0
              try clear hfz7_1
              try clear hfz7_2
              try clear hfz7_3
              try clear hfz7_4
              try clear hfz7_5
              try clear hfz7_6
              try clear p2
              obtain ⟨kq, x86_22, rfl, HA, HJ22, HO_808003, HO_808004, BK807, HB⟩ := hcut
              cases kq with
              | zero => exact absurd HA.out (by simp [jacquardlaw10_OpsPlain.j2])
              | succ kj22 =>
                have H := HA.out
                clear HA
                simp only [jacquardlaw10_OpsPlain.j2] at H
                by_cases c39 : x86_22 = true
                · subst c39
                  have H1 : (some false) = some true := by rw [if_pos rfl] at H; exact H
                  clear H
                  have H := H1
                  clear H1
                  exact absurd H (by simp)
                · replace c39 := Bool.eq_false_iff.mpr c39
                  subst c39
                  have H1 : (if ((t804 != 0) != x6_18) = true then (some false) else (if x6_18 = true then (if t805 = true then (some false) else (if (t798.length : Int) = 0 then (some false) else (if 0 < (t798.length : Int) then (if (rd t798 0) = 127 then (if (t801.length : Int) > 1 then (some false) else (if t804 = 0 then ((jacquardlaw10_works.f kj22).bind fun t810 => (some t810)) else (if t804 = 8 then ((jacquardlaw10_works.f kj22).bind fun t811 => (some t811)) else (if t804 = 16 then ((jacquardlaw10_works.f kj22).bind fun t812 => (some t812)) else (if t804 = 32 then ((jacquardlaw10_works.f kj22).bind fun t813 => (some t813)) else (if t804 = 64 then ((jacquardlaw10_works.f kj22).bind fun t814 => (some t814)) else (if t804 = 128 then ((jacquardlaw10_works.f kj22).bind fun t815 => (some t815)) else (some false)))))))) else (some false)) else (none)))) else (if t804 = 0 then ((jacquardlaw10_works.f kj22).bind fun t816 => (some t816)) else (if t804 = 8 then ((jacquardlaw10_works.f kj22).bind fun t817 => (some t817)) else (if t804 = 16 then ((jacquardlaw10_works.f kj22).bind fun t818 => (some t818)) else (if t804 = 32 then ((jacquardlaw10_works.f kj22).bind fun t819 => (some t819)) else (if t804 = 64 then ((jacquardlaw10_works.f kj22).bind fun t820 => (some t820)) else (if t804 = 128 then ((jacquardlaw10_works.f kj22).bind fun t821 => (some t821)) else (some false))))))))) = some true := by rw [if_neg (show ¬ (false = true) by decide)] at H; exact H
                  clear H
                  have H := H1
                  clear H1
                  by_cases c40 : ((t804 != 0) != x6_18) = true
                  · rw [if_pos c40] at H
                    have c40b0 : ((t804 != 0) != x6_18) = true := c40
                    (try (have c40b1 : decide ((t804 != 0) = x6_18) = false := by simpa using c40))
                    (try (have c40b2 : ((t804 != 0) == x6_18) = false := by simpa using c40))
                    (try (have c40b3 : ¬ ((t804 != 0) = x6_18) := by simpa using c40))
                    clear c40
                    exact absurd H (by simp)
                  · rw [if_neg c40] at H
                    have c40b0 : ((t804 != 0) != x6_18) = false := by simpa using c40
                    (try (have c40b1 : decide ((t804 != 0) = x6_18) = true := by simpa using c40))
                    (try (have c40b2 : ((t804 != 0) == x6_18) = true := by simpa using c40))
                    clear c40
                    by_cases c41 : x6_18 = true
                    · subst c41
                      have H1 : (if t805 = true then (some false) else (if (t798.length : Int) = 0 then (some false) else (if 0 < (t798.length : Int) then (if (rd t798 0) = 127 then (if (t801.length : Int) > 1 then (some false) else (if t804 = 0 then ((jacquardlaw10_works.f kj22).bind fun t810 => (some t810)) else (if t804 = 8 then ((jacquardlaw10_works.f kj22).bind fun t811 => (some t811)) else (if t804 = 16 then ((jacquardlaw10_works.f kj22).bind fun t812 => (some t812)) else (if t804 = 32 then ((jacquardlaw10_works.f kj22).bind fun t813 => (some t813)) else (if t804 = 64 then ((jacquardlaw10_works.f kj22).bind fun t814 => (some t814)) else (if t804 = 128 then ((jacquardlaw10_works.f kj22).bind fun t815 => (some t815)) else (some false)))))))) else (some false)) else (none)))) = some true := by rw [if_pos rfl] at H; exact H
                      clear H
                      have H := H1
                      clear H1
                      by_cases c42 : t805 = true
                      · subst c42
                        have H1 : (some false) = some true := by rw [if_pos rfl] at H; exact H
                        clear H
                        have H := H1
                        clear H1
                        exact absurd H (by simp)
                      · replace c42 := Bool.eq_false_iff.mpr c42
                        subst c42
                        have H1 : (if (t798.length : Int) = 0 then (some false) else (if 0 < (t798.length : Int) then (if (rd t798 0) = 127 then (if (t801.length : Int) > 1 then (some false) else (if t804 = 0 then ((jacquardlaw10_works.f kj22).bind fun t810 => (some t810)) else (if t804 = 8 then ((jacquardlaw10_works.f kj22).bind fun t811 => (some t811)) else (if t804 = 16 then ((jacquardlaw10_works.f kj22).bind fun t812 => (some t812)) else (if t804 = 32 then ((jacquardlaw10_works.f kj22).bind fun t813 => (some t813)) else (if t804 = 64 then ((jacquardlaw10_works.f kj22).bind fun t814 => (some t814)) else (if t804 = 128 then ((jacquardlaw10_works.f kj22).bind fun t815 => (some t815)) else (some false)))))))) else (some false)) else (none))) = some true := by rw [if_neg (show ¬ (false = true) by decide)] at H; exact H
                        clear H
                        have H := H1
                        clear H1
                        by_cases c43 : (t798.length : Int) = 0
                        · rw [if_pos c43] at H
                          have c43b0 : ((t798.length : Int) == 0) = true := beq_iff_eq.mpr c43
                          have c43b1 : ((t798.length : Int) != 0) = false := bne_eq_false_iff_eq.mpr c43
                          clear c43
                          exact absurd H (by simp)
                        · rw [if_neg c43] at H
                          have c43b0 : ((t798.length : Int) == 0) = false := beq_eq_false_iff_ne.mpr c43
                          have c43b1 : ((t798.length : Int) != 0) = true := bne_iff_ne.mpr c43
                          have c43b2 : ¬ (t798 = []) := fun h_ => c43 (by rw [h_]; rfl)
                          by_cases c44 : 0 < (t798.length : Int)
                          · rw [if_pos c44] at H
                            have c44b0 : decide (0 < (t798.length : Int)) = true := decide_eq_true c44
                            have c44b1 : decide (0 < t798.length) = true := decide_eq_true (by omega)
                            clear c44
                            by_cases c45 : (rd t798 0) = 127
                            · rw [if_pos c45] at H
                              have c45b0 : ((rd t798 0) == 127) = true := beq_iff_eq.mpr c45
                              have c45b1 : ((rd t798 0) != 127) = false := bne_eq_false_iff_eq.mpr c45
                              clear c45
                              by_cases c46 : (t801.length : Int) > 1
                              · rw [if_pos c46] at H
                                have c46b0 : decide (1 < (t801.length : Int)) = true := decide_eq_true c46
                                have c46b1 : decide (1 < t801.length) = true := decide_eq_true (by omega)
                                clear c46
                                exact absurd H (by simp)
                              · rw [if_neg c46] at H
                                have c46b0 : decide (1 < (t801.length : Int)) = false := decide_eq_false c46
                                have c46b1 : decide (1 < t801.length) = false := decide_eq_false (by omega)
                                clear c46
                                by_cases c47 : t804 = 0
                                · rw [if_pos c47] at H
                                  have c47b0 : (t804 == 0) = true := beq_iff_eq.mpr c47
                                  have c47b1 : (t804 != 0) = false := bne_eq_false_iff_eq.mpr c47
                                  clear c47
                                  replace H := Option.bind_eq_some_iff.mp H
                                  obtain ⟨t810, A480, H⟩ := H
                                  replace H : (some t810) = some true := H
                                  have A48 := Aside0.mk A480
                                  clear A480
                                  replace H := Option.some.inj H
                                  have hcz49_0 : wc.cell? ⟨gb807, 0, none⟩ = some (.int .u16 t795) := (blk_cell BK807.out 0).trans rfl
                                  have hcz49_1 : wc.cell? ⟨gb807, 1, none⟩ = some (.string t796) := (blk_cell BK807.out 1).trans rfl
                                  have hcz49_2 : wc.cell? ⟨gb807, 2, none⟩ = some (.int .u8 t797) := (blk_cell BK807.out 2).trans rfl
                                  have hcz49_3 : wc.cell? ⟨gb807, 3, none⟩ = some (.slice Ao8 t798.length co8) := (blk_cell BK807.out 3).trans rfl
                                  have hcz49_4 : wc.cell? ⟨gb807, 4, none⟩ = some (.slice Ao9 t801.length co9) := (blk_cell BK807.out 4).trans rfl
                                  have hcz49_5 : wc.cell? ⟨gb807, 5, none⟩ = some (.int .i64 t804) := (blk_cell BK807.out 5).trans rfl
                                  have hcz49_6 : wc.cell? ⟨gb807, 6, none⟩ = some (.bool false) := (blk_cell BK807.out 6).trans rfl
                                  have hfz49_0 := blk_frozen BK807.out 0
                                  have hfz49_1 := blk_frozen BK807.out 1
                                  have hfz49_2 := blk_frozen BK807.out 2
                                  have hfz49_3 := blk_frozen BK807.out 3
                                  have hfz49_4 := blk_frozen BK807.out 4
                                  have hfz49_5 := blk_frozen BK807.out 5
                                  have hfz49_6 := blk_frozen BK807.out 6
                                  have p809 : 0 ≤ (0 : Int) := (by omega)
                                  have q809 : 0 < (t798.length : Int) := of_decide_eq_true (by first | (with_reducible assumption) | assumption)
                                  obtain ⟨ad809, e809, hx809_0⟩ := Kd.at_int (Kd.R_reads' HO_808003.out).2.2 0 p809 q809
                                  cases e809
                                  have qi809 : (0 < t798.length) = True := eq_true (by omega)
                                  (try rw [show ((0 : Int)).toNat = 0 from rfl] at hx809_0)
                                  (try rw [Addr.add_zero'] at hx809_0)
                                  replace p809 := eq_true p809
                                  replace q809 := eq_true q809
                                  go_wp2_with (first | (go_at_call 14; (with_reducible refine (jacquardlaw10_works.calls (hT := by first | exact HT.out | exact Go.Proofs.YtfbdmgdbamjjhaaDoorTabs.Tab.below HT.out (by repeat (first | (with_reducible first | exact HB.out | apply below_alloc | apply pw_below_drewN | apply below_drew1 | refine below_set ?_ (Aside0.out (by assumption))) | exact HB.out)) | exact Go.Proofs.YtfbdmgdbamjjhaaDoorTabs.Tab.drawn HT.out (by repeat (first | exact Drawn0.refl _ | apply Drawn0.step))) kj22  t810 _ A48.out).mono ?_); rintro e w50 ⟨rfl, hb⟩; have n0_ := Aside0.mk (Kd.R_below (by (with_reducible repeat (first | apply Kd.R_alloc | apply Kd.R_drewN | apply Kd.R_drew)); exact HO_808003.out) hb); have n1_ := Aside0.mk (Kd.R_below (by (with_reducible repeat (first | apply Kd.R_alloc | apply Kd.R_drewN | apply Kd.R_drew)); exact HO_808004.out) hb); have n2_ := Aside0.mk (blk_below (g := gb807) (o := .cells #[.int .u16 t795, .string t796, .int .u8 t797, .slice (some ad809) t798.length co8, .slice Ao9 t801.length co9, .int .i64 t804, .bool false] 27 (0, 0)) (by (with_reducible repeat (first | refine blk_drewN ?_ _ | refine blk_drew ?_ | refine blk_alloc ?_ _)); exact BK807.out) hb); have n3_ := Aside0.mk (below_step (by repeat (first | (with_reducible first | exact HB.out | apply below_alloc | apply pw_below_drewN | apply below_drew1 | refine below_set ?_ GE807.out) | exact HB.out)) hb); clear HO_808003; clear HO_808004; clear BK807; clear HB; have HO_808003 := n0_; have HO_808004 := n1_; have BK807 := n2_; have HB := n3_; clear n0_ n1_ n2_ n3_; (try clear hb); (try clear hb2); (try clear hk); (try clear hi)))
                                  go_ret
                                  exact ⟨by first | rfl | (simp [errW_none, errW_some] <;> rfl) | (simp [*, errW_none, errW_some] <;> rfl) | (exfalso; rw [c71b1] at c40b0; exact absurd c40b0 (by decide)) | (exfalso; rw [c47b1] at c40b0; exact absurd c40b0 (by decide)), by repeat (first | (with_reducible first | exact HB.out | apply below_alloc | apply pw_below_drewN | apply below_drew1 | refine below_set ?_ GE807.out) | exact HB.out)⟩
                                · rw [if_neg c47] at H
                                  have c47b0 : (t804 == 0) = false := beq_eq_false_iff_ne.mpr c47
                                  have c47b1 : (t804 != 0) = true := bne_iff_ne.mpr c47
                                  by_cases c51 : t804 = 8
                                  · rw [if_pos c51] at H
                                    have c51b0 : (t804 == 8) = true := beq_iff_eq.mpr c51
                                    have c51b1 : (t804 != 8) = false := bne_eq_false_iff_eq.mpr c51
                                    clear c51
                                    replace H := Option.bind_eq_some_iff.mp H
                                    obtain ⟨t811, A520, H⟩ := H
                                    replace H : (some t811) = some true := H
                                    have A52 := Aside0.mk A520
                                    clear A520
                                    replace H := Option.some.inj H
                                    have hcz53_0 : wc.cell? ⟨gb807, 0, none⟩ = some (.int .u16 t795) := (blk_cell BK807.out 0).trans rfl
                                    have hcz53_1 : wc.cell? ⟨gb807, 1, none⟩ = some (.string t796) := (blk_cell BK807.out 1).trans rfl
                                    have hcz53_2 : wc.cell? ⟨gb807, 2, none⟩ = some (.int .u8 t797) := (blk_cell BK807.out 2).trans rfl
                                    have hcz53_3 : wc.cell? ⟨gb807, 3, none⟩ = some (.slice Ao8 t798.length co8) := (blk_cell BK807.out 3).trans rfl
                                    have hcz53_4 : wc.cell? ⟨gb807, 4, none⟩ = some (.slice Ao9 t801.length co9) := (blk_cell BK807.out 4).trans rfl
                                    have hcz53_5 : wc.cell? ⟨gb807, 5, none⟩ = some (.int .i64 t804) := (blk_cell BK807.out 5).trans rfl
                                    have hcz53_6 : wc.cell? ⟨gb807, 6, none⟩ = some (.bool false) := (blk_cell BK807.out 6).trans rfl
                                    have hfz53_0 := blk_frozen BK807.out 0
                                    have hfz53_1 := blk_frozen BK807.out 1
                                    have hfz53_2 := blk_frozen BK807.out 2
                                    have hfz53_3 := blk_frozen BK807.out 3
                                    have hfz53_4 := blk_frozen BK807.out 4
                                    have hfz53_5 := blk_frozen BK807.out 5
                                    have hfz53_6 := blk_frozen BK807.out 6
                                    have p809 : 0 ≤ (0 : Int) := (by omega)
                                    have q809 : 0 < (t798.length : Int) := of_decide_eq_true (by first | (with_reducible assumption) | assumption)
                                    obtain ⟨ad809, e809, hx809_0⟩ := Kd.at_int (Kd.R_reads' HO_808003.out).2.2 0 p809 q809
                                    cases e809
                                    have qi809 : (0 < t798.length) = True := eq_true (by omega)
                                    (try rw [show ((0 : Int)).toNat = 0 from rfl] at hx809_0)
                                    (try rw [Addr.add_zero'] at hx809_0)
                                    replace p809 := eq_true p809
                                    replace q809 := eq_true q809
                                    go_wp2_with (first | (go_at_call 14; (with_reducible refine (jacquardlaw10_works.calls (hT := by first | exact HT.out | exact Go.Proofs.YtfbdmgdbamjjhaaDoorTabs.Tab.below HT.out (by repeat (first | (with_reducible first | exact HB.out | apply below_alloc | apply pw_below_drewN | apply below_drew1 | refine below_set ?_ (Aside0.out (by assumption))) | exact HB.out)) | exact Go.Proofs.YtfbdmgdbamjjhaaDoorTabs.Tab.drawn HT.out (by repeat (first | exact Drawn0.refl _ | apply Drawn0.step))) kj22  t811 _ A52.out).mono ?_); rintro e w54 ⟨rfl, hb⟩; have n0_ := Aside0.mk (Kd.R_below (by (with_reducible repeat (first | apply Kd.R_alloc | apply Kd.R_drewN | apply Kd.R_drew)); exact HO_808003.out) hb); have n1_ := Aside0.mk (Kd.R_below (by (with_reducible repeat (first | apply Kd.R_alloc | apply Kd.R_drewN | apply Kd.R_drew)); exact HO_808004.out) hb); have n2_ := Aside0.mk (blk_below (g := gb807) (o := .cells #[.int .u16 t795, .string t796, .int .u8 t797, .slice (some ad809) t798.length co8, .slice Ao9 t801.length co9, .int .i64 t804, .bool false] 27 (0, 0)) (by (with_reducible repeat (first | refine blk_drewN ?_ _ | refine blk_drew ?_ | refine blk_alloc ?_ _)); exact BK807.out) hb); have n3_ := Aside0.mk (below_step (by repeat (first | (with_reducible first | exact HB.out | apply below_alloc | apply pw_below_drewN | apply below_drew1 | refine below_set ?_ GE807.out) | exact HB.out)) hb); clear HO_808003; clear HO_808004; clear BK807; clear HB; have HO_808003 := n0_; have HO_808004 := n1_; have BK807 := n2_; have HB := n3_; clear n0_ n1_ n2_ n3_; (try clear hb); (try clear hb2); (try clear hk); (try clear hi)))
                                    go_ret
                                    exact ⟨by first | rfl | (simp [errW_none, errW_some] <;> rfl) | (simp [*, errW_none, errW_some] <;> rfl), by repeat (first | (with_reducible first | exact HB.out | apply below_alloc | apply pw_below_drewN | apply below_drew1 | refine below_set ?_ GE807.out) | exact HB.out)⟩
                                  · rw [if_neg c51] at H
                                    have c51b0 : (t804 == 8) = false := beq_eq_false_iff_ne.mpr c51
                                    have c51b1 : (t804 != 8) = true := bne_iff_ne.mpr c51
                                    by_cases c55 : t804 = 16
                                    · rw [if_pos c55] at H
                                      have c55b0 : (t804 == 16) = true := beq_iff_eq.mpr c55
                                      have c55b1 : (t804 != 16) = false := bne_eq_false_iff_eq.mpr c55
                                      clear c55
                                      replace H := Option.bind_eq_some_iff.mp H
                                      obtain ⟨t812, A560, H⟩ := H
                                      replace H : (some t812) = some true := H
                                      have A56 := Aside0.mk A560
                                      clear A560
                                      replace H := Option.some.inj H
                                      have hcz57_0 : wc.cell? ⟨gb807, 0, none⟩ = some (.int .u16 t795) := (blk_cell BK807.out 0).trans rfl
                                      have hcz57_1 : wc.cell? ⟨gb807, 1, none⟩ = some (.string t796) := (blk_cell BK807.out 1).trans rfl
                                      have hcz57_2 : wc.cell? ⟨gb807, 2, none⟩ = some (.int .u8 t797) := (blk_cell BK807.out 2).trans rfl
                                      have hcz57_3 : wc.cell? ⟨gb807, 3, none⟩ = some (.slice Ao8 t798.length co8) := (blk_cell BK807.out 3).trans rfl
                                      have hcz57_4 : wc.cell? ⟨gb807, 4, none⟩ = some (.slice Ao9 t801.length co9) := (blk_cell BK807.out 4).trans rfl
                                      have hcz57_5 : wc.cell? ⟨gb807, 5, none⟩ = some (.int .i64 t804) := (blk_cell BK807.out 5).trans rfl
                                      have hcz57_6 : wc.cell? ⟨gb807, 6, none⟩ = some (.bool false) := (blk_cell BK807.out 6).trans rfl
                                      have hfz57_0 := blk_frozen BK807.out 0
                                      have hfz57_1 := blk_frozen BK807.out 1
                                      have hfz57_2 := blk_frozen BK807.out 2
                                      have hfz57_3 := blk_frozen BK807.out 3
                                      have hfz57_4 := blk_frozen BK807.out 4
                                      have hfz57_5 := blk_frozen BK807.out 5
                                      have hfz57_6 := blk_frozen BK807.out 6
                                      have p809 : 0 ≤ (0 : Int) := (by omega)
                                      have q809 : 0 < (t798.length : Int) := of_decide_eq_true (by first | (with_reducible assumption) | assumption)
                                      obtain ⟨ad809, e809, hx809_0⟩ := Kd.at_int (Kd.R_reads' HO_808003.out).2.2 0 p809 q809
                                      cases e809
                                      have qi809 : (0 < t798.length) = True := eq_true (by omega)
                                      (try rw [show ((0 : Int)).toNat = 0 from rfl] at hx809_0)
                                      (try rw [Addr.add_zero'] at hx809_0)
                                      replace p809 := eq_true p809
                                      replace q809 := eq_true q809
                                      go_wp2_with (first | (go_at_call 14; (with_reducible refine (jacquardlaw10_works.calls (hT := by first | exact HT.out | exact Go.Proofs.YtfbdmgdbamjjhaaDoorTabs.Tab.below HT.out (by repeat (first | (with_reducible first | exact HB.out | apply below_alloc | apply pw_below_drewN | apply below_drew1 | refine below_set ?_ (Aside0.out (by assumption))) | exact HB.out)) | exact Go.Proofs.YtfbdmgdbamjjhaaDoorTabs.Tab.drawn HT.out (by repeat (first | exact Drawn0.refl _ | apply Drawn0.step))) kj22  t812 _ A56.out).mono ?_); rintro e w58 ⟨rfl, hb⟩; have n0_ := Aside0.mk (Kd.R_below (by (with_reducible repeat (first | apply Kd.R_alloc | apply Kd.R_drewN | apply Kd.R_drew)); exact HO_808003.out) hb); have n1_ := Aside0.mk (Kd.R_below (by (with_reducible repeat (first | apply Kd.R_alloc | apply Kd.R_drewN | apply Kd.R_drew)); exact HO_808004.out) hb); have n2_ := Aside0.mk (blk_below (g := gb807) (o := .cells #[.int .u16 t795, .string t796, .int .u8 t797, .slice (some ad809) t798.length co8, .slice Ao9 t801.length co9, .int .i64 t804, .bool false] 27 (0, 0)) (by (with_reducible repeat (first | refine blk_drewN ?_ _ | refine blk_drew ?_ | refine blk_alloc ?_ _)); exact BK807.out) hb); have n3_ := Aside0.mk (below_step (by repeat (first | (with_reducible first | exact HB.out | apply below_alloc | apply pw_below_drewN | apply below_drew1 | refine below_set ?_ GE807.out) | exact HB.out)) hb); clear HO_808003; clear HO_808004; clear BK807; clear HB; have HO_808003 := n0_; have HO_808004 := n1_; have BK807 := n2_; have HB := n3_; clear n0_ n1_ n2_ n3_; (try clear hb); (try clear hb2); (try clear hk); (try clear hi)))
                                      go_ret
                                      exact ⟨by first | rfl | (simp [errW_none, errW_some] <;> rfl) | (simp [*, errW_none, errW_some] <;> rfl), by repeat (first | (with_reducible first | exact HB.out | apply below_alloc | apply pw_below_drewN | apply below_drew1 | refine below_set ?_ GE807.out) | exact HB.out)⟩
                                    · rw [if_neg c55] at H
                                      have c55b0 : (t804 == 16) = false := beq_eq_false_iff_ne.mpr c55
                                      have c55b1 : (t804 != 16) = true := bne_iff_ne.mpr c55
                                      by_cases c59 : t804 = 32
                                      · rw [if_pos c59] at H
                                        have c59b0 : (t804 == 32) = true := beq_iff_eq.mpr c59
                                        have c59b1 : (t804 != 32) = false := bne_eq_false_iff_eq.mpr c59
                                        clear c59
                                        replace H := Option.bind_eq_some_iff.mp H
                                        obtain ⟨t813, A600, H⟩ := H
                                        replace H : (some t813) = some true := H
                                        have A60 := Aside0.mk A600
                                        clear A600
                                        replace H := Option.some.inj H
                                        have hcz61_0 : wc.cell? ⟨gb807, 0, none⟩ = some (.int .u16 t795) := (blk_cell BK807.out 0).trans rfl
                                        have hcz61_1 : wc.cell? ⟨gb807, 1, none⟩ = some (.string t796) := (blk_cell BK807.out 1).trans rfl
                                        have hcz61_2 : wc.cell? ⟨gb807, 2, none⟩ = some (.int .u8 t797) := (blk_cell BK807.out 2).trans rfl
                                        have hcz61_3 : wc.cell? ⟨gb807, 3, none⟩ = some (.slice Ao8 t798.length co8) := (blk_cell BK807.out 3).trans rfl
                                        have hcz61_4 : wc.cell? ⟨gb807, 4, none⟩ = some (.slice Ao9 t801.length co9) := (blk_cell BK807.out 4).trans rfl
                                        have hcz61_5 : wc.cell? ⟨gb807, 5, none⟩ = some (.int .i64 t804) := (blk_cell BK807.out 5).trans rfl
                                        have hcz61_6 : wc.cell? ⟨gb807, 6, none⟩ = some (.bool false) := (blk_cell BK807.out 6).trans rfl
                                        have hfz61_0 := blk_frozen BK807.out 0
                                        have hfz61_1 := blk_frozen BK807.out 1
                                        have hfz61_2 := blk_frozen BK807.out 2
                                        have hfz61_3 := blk_frozen BK807.out 3
                                        have hfz61_4 := blk_frozen BK807.out 4
                                        have hfz61_5 := blk_frozen BK807.out 5
                                        have hfz61_6 := blk_frozen BK807.out 6
                                        have p809 : 0 ≤ (0 : Int) := (by omega)
                                        have q809 : 0 < (t798.length : Int) := of_decide_eq_true (by first | (with_reducible assumption) | assumption)
                                        obtain ⟨ad809, e809, hx809_0⟩ := Kd.at_int (Kd.R_reads' HO_808003.out).2.2 0 p809 q809
                                        cases e809
                                        have qi809 : (0 < t798.length) = True := eq_true (by omega)
                                        (try rw [show ((0 : Int)).toNat = 0 from rfl] at hx809_0)
                                        (try rw [Addr.add_zero'] at hx809_0)
                                        replace p809 := eq_true p809
                                        replace q809 := eq_true q809
                                        go_wp2_with (first | (go_at_call 14; (with_reducible refine (jacquardlaw10_works.calls (hT := by first | exact HT.out | exact Go.Proofs.YtfbdmgdbamjjhaaDoorTabs.Tab.below HT.out (by repeat (first | (with_reducible first | exact HB.out | apply below_alloc | apply pw_below_drewN | apply below_drew1 | refine below_set ?_ (Aside0.out (by assumption))) | exact HB.out)) | exact Go.Proofs.YtfbdmgdbamjjhaaDoorTabs.Tab.drawn HT.out (by repeat (first | exact Drawn0.refl _ | apply Drawn0.step))) kj22  t813 _ A60.out).mono ?_); rintro e w62 ⟨rfl, hb⟩; have n0_ := Aside0.mk (Kd.R_below (by (with_reducible repeat (first | apply Kd.R_alloc | apply Kd.R_drewN | apply Kd.R_drew)); exact HO_808003.out) hb); have n1_ := Aside0.mk (Kd.R_below (by (with_reducible repeat (first | apply Kd.R_alloc | apply Kd.R_drewN | apply Kd.R_drew)); exact HO_808004.out) hb); have n2_ := Aside0.mk (blk_below (g := gb807) (o := .cells #[.int .u16 t795, .string t796, .int .u8 t797, .slice (some ad809) t798.length co8, .slice Ao9 t801.length co9, .int .i64 t804, .bool false] 27 (0, 0)) (by (with_reducible repeat (first | refine blk_drewN ?_ _ | refine blk_drew ?_ | refine blk_alloc ?_ _)); exact BK807.out) hb); have n3_ := Aside0.mk (below_step (by repeat (first | (with_reducible first | exact HB.out | apply below_alloc | apply pw_below_drewN | apply below_drew1 | refine below_set ?_ GE807.out) | exact HB.out)) hb); clear HO_808003; clear HO_808004; clear BK807; clear HB; have HO_808003 := n0_; have HO_808004 := n1_; have BK807 := n2_; have HB := n3_; clear n0_ n1_ n2_ n3_; (try clear hb); (try clear hb2); (try clear hk); (try clear hi)))
                                        go_ret
                                        exact ⟨by first | rfl | (simp [errW_none, errW_some] <;> rfl) | (simp [*, errW_none, errW_some] <;> rfl), by repeat (first | (with_reducible first | exact HB.out | apply below_alloc | apply pw_below_drewN | apply below_drew1 | refine below_set ?_ GE807.out) | exact HB.out)⟩
                                      · rw [if_neg c59] at H
                                        have c59b0 : (t804 == 32) = false := beq_eq_false_iff_ne.mpr c59
                                        have c59b1 : (t804 != 32) = true := bne_iff_ne.mpr c59
                                        by_cases c63 : t804 = 64
                                        · rw [if_pos c63] at H
                                          have c63b0 : (t804 == 64) = true := beq_iff_eq.mpr c63
                                          have c63b1 : (t804 != 64) = false := bne_eq_false_iff_eq.mpr c63
                                          clear c63
                                          replace H := Option.bind_eq_some_iff.mp H
                                          obtain ⟨t814, A640, H⟩ := H
                                          replace H : (some t814) = some true := H
                                          have A64 := Aside0.mk A640
                                          clear A640
                                          replace H := Option.some.inj H
                                          have hcz65_0 : wc.cell? ⟨gb807, 0, none⟩ = some (.int .u16 t795) := (blk_cell BK807.out 0).trans rfl
                                          have hcz65_1 : wc.cell? ⟨gb807, 1, none⟩ = some (.string t796) := (blk_cell BK807.out 1).trans rfl
                                          have hcz65_2 : wc.cell? ⟨gb807, 2, none⟩ = some (.int .u8 t797) := (blk_cell BK807.out 2).trans rfl
                                          have hcz65_3 : wc.cell? ⟨gb807, 3, none⟩ = some (.slice Ao8 t798.length co8) := (blk_cell BK807.out 3).trans rfl
                                          have hcz65_4 : wc.cell? ⟨gb807, 4, none⟩ = some (.slice Ao9 t801.length co9) := (blk_cell BK807.out 4).trans rfl
                                          have hcz65_5 : wc.cell? ⟨gb807, 5, none⟩ = some (.int .i64 t804) := (blk_cell BK807.out 5).trans rfl
                                          have hcz65_6 : wc.cell? ⟨gb807, 6, none⟩ = some (.bool false) := (blk_cell BK807.out 6).trans rfl
                                          have hfz65_0 := blk_frozen BK807.out 0
                                          have hfz65_1 := blk_frozen BK807.out 1
                                          have hfz65_2 := blk_frozen BK807.out 2
                                          have hfz65_3 := blk_frozen BK807.out 3
                                          have hfz65_4 := blk_frozen BK807.out 4
                                          have hfz65_5 := blk_frozen BK807.out 5
                                          have hfz65_6 := blk_frozen BK807.out 6
                                          have p809 : 0 ≤ (0 : Int) := (by omega)
                                          have q809 : 0 < (t798.length : Int) := of_decide_eq_true (by first | (with_reducible assumption) | assumption)
                                          obtain ⟨ad809, e809, hx809_0⟩ := Kd.at_int (Kd.R_reads' HO_808003.out).2.2 0 p809 q809
                                          cases e809
                                          have qi809 : (0 < t798.length) = True := eq_true (by omega)
                                          (try rw [show ((0 : Int)).toNat = 0 from rfl] at hx809_0)
                                          (try rw [Addr.add_zero'] at hx809_0)
                                          replace p809 := eq_true p809
                                          replace q809 := eq_true q809
                                          go_wp2_with (first | (go_at_call 14; (with_reducible refine (jacquardlaw10_works.calls (hT := by first | exact HT.out | exact Go.Proofs.YtfbdmgdbamjjhaaDoorTabs.Tab.below HT.out (by repeat (first | (with_reducible first | exact HB.out | apply below_alloc | apply pw_below_drewN | apply below_drew1 | refine below_set ?_ (Aside0.out (by assumption))) | exact HB.out)) | exact Go.Proofs.YtfbdmgdbamjjhaaDoorTabs.Tab.drawn HT.out (by repeat (first | exact Drawn0.refl _ | apply Drawn0.step))) kj22  t814 _ A64.out).mono ?_); rintro e w66 ⟨rfl, hb⟩; have n0_ := Aside0.mk (Kd.R_below (by (with_reducible repeat (first | apply Kd.R_alloc | apply Kd.R_drewN | apply Kd.R_drew)); exact HO_808003.out) hb); have n1_ := Aside0.mk (Kd.R_below (by (with_reducible repeat (first | apply Kd.R_alloc | apply Kd.R_drewN | apply Kd.R_drew)); exact HO_808004.out) hb); have n2_ := Aside0.mk (blk_below (g := gb807) (o := .cells #[.int .u16 t795, .string t796, .int .u8 t797, .slice (some ad809) t798.length co8, .slice Ao9 t801.length co9, .int .i64 t804, .bool false] 27 (0, 0)) (by (with_reducible repeat (first | refine blk_drewN ?_ _ | refine blk_drew ?_ | refine blk_alloc ?_ _)); exact BK807.out) hb); have n3_ := Aside0.mk (below_step (by repeat (first | (with_reducible first | exact HB.out | apply below_alloc | apply pw_below_drewN | apply below_drew1 | refine below_set ?_ GE807.out) | exact HB.out)) hb); clear HO_808003; clear HO_808004; clear BK807; clear HB; have HO_808003 := n0_; have HO_808004 := n1_; have BK807 := n2_; have HB := n3_; clear n0_ n1_ n2_ n3_; (try clear hb); (try clear hb2); (try clear hk); (try clear hi)))
                                          go_ret
                                          exact ⟨by first | rfl | (simp [errW_none, errW_some] <;> rfl) | (simp [*, errW_none, errW_some] <;> rfl), by repeat (first | (with_reducible first | exact HB.out | apply below_alloc | apply pw_below_drewN | apply below_drew1 | refine below_set ?_ GE807.out) | exact HB.out)⟩
                                        · rw [if_neg c63] at H
                                          have c63b0 : (t804 == 64) = false := beq_eq_false_iff_ne.mpr c63
                                          have c63b1 : (t804 != 64) = true := bne_iff_ne.mpr c63
                                          by_cases c67 : t804 = 128
                                          · rw [if_pos c67] at H
                                            have c67b0 : (t804 == 128) = true := beq_iff_eq.mpr c67
                                            have c67b1 : (t804 != 128) = false := bne_eq_false_iff_eq.mpr c67
                                            clear c67
                                            replace H := Option.bind_eq_some_iff.mp H
                                            obtain ⟨t815, A680, H⟩ := H
                                            replace H : (some t815) = some true := H
                                            have A68 := Aside0.mk A680
                                            clear A680
                                            replace H := Option.some.inj H
                                            have hcz69_0 : wc.cell? ⟨gb807, 0, none⟩ = some (.int .u16 t795) := (blk_cell BK807.out 0).trans rfl
                                            have hcz69_1 : wc.cell? ⟨gb807, 1, none⟩ = some (.string t796) := (blk_cell BK807.out 1).trans rfl
                                            have hcz69_2 : wc.cell? ⟨gb807, 2, none⟩ = some (.int .u8 t797) := (blk_cell BK807.out 2).trans rfl
                                            have hcz69_3 : wc.cell? ⟨gb807, 3, none⟩ = some (.slice Ao8 t798.length co8) := (blk_cell BK807.out 3).trans rfl
                                            have hcz69_4 : wc.cell? ⟨gb807, 4, none⟩ = some (.slice Ao9 t801.length co9) := (blk_cell BK807.out 4).trans rfl
                                            have hcz69_5 : wc.cell? ⟨gb807, 5, none⟩ = some (.int .i64 t804) := (blk_cell BK807.out 5).trans rfl
                                            have hcz69_6 : wc.cell? ⟨gb807, 6, none⟩ = some (.bool false) := (blk_cell BK807.out 6).trans rfl
                                            have hfz69_0 := blk_frozen BK807.out 0
                                            have hfz69_1 := blk_frozen BK807.out 1
                                            have hfz69_2 := blk_frozen BK807.out 2
                                            have hfz69_3 := blk_frozen BK807.out 3
                                            have hfz69_4 := blk_frozen BK807.out 4
                                            have hfz69_5 := blk_frozen BK807.out 5
                                            have hfz69_6 := blk_frozen BK807.out 6
                                            have p809 : 0 ≤ (0 : Int) := (by omega)
                                            have q809 : 0 < (t798.length : Int) := of_decide_eq_true (by first | (with_reducible assumption) | assumption)
                                            obtain ⟨ad809, e809, hx809_0⟩ := Kd.at_int (Kd.R_reads' HO_808003.out).2.2 0 p809 q809
                                            cases e809
                                            have qi809 : (0 < t798.length) = True := eq_true (by omega)
                                            (try rw [show ((0 : Int)).toNat = 0 from rfl] at hx809_0)
                                            (try rw [Addr.add_zero'] at hx809_0)
                                            replace p809 := eq_true p809
                                            replace q809 := eq_true q809
                                            go_wp2_with (first | (go_at_call 14; (with_reducible refine (jacquardlaw10_works.calls (hT := by first | exact HT.out | exact Go.Proofs.YtfbdmgdbamjjhaaDoorTabs.Tab.below HT.out (by repeat (first | (with_reducible first | exact HB.out | apply below_alloc | apply pw_below_drewN | apply below_drew1 | refine below_set ?_ (Aside0.out (by assumption))) | exact HB.out)) | exact Go.Proofs.YtfbdmgdbamjjhaaDoorTabs.Tab.drawn HT.out (by repeat (first | exact Drawn0.refl _ | apply Drawn0.step))) kj22  t815 _ A68.out).mono ?_); rintro e w70 ⟨rfl, hb⟩; have n0_ := Aside0.mk (Kd.R_below (by (with_reducible repeat (first | apply Kd.R_alloc | apply Kd.R_drewN | apply Kd.R_drew)); exact HO_808003.out) hb); have n1_ := Aside0.mk (Kd.R_below (by (with_reducible repeat (first | apply Kd.R_alloc | apply Kd.R_drewN | apply Kd.R_drew)); exact HO_808004.out) hb); have n2_ := Aside0.mk (blk_below (g := gb807) (o := .cells #[.int .u16 t795, .string t796, .int .u8 t797, .slice (some ad809) t798.length co8, .slice Ao9 t801.length co9, .int .i64 t804, .bool false] 27 (0, 0)) (by (with_reducible repeat (first | refine blk_drewN ?_ _ | refine blk_drew ?_ | refine blk_alloc ?_ _)); exact BK807.out) hb); have n3_ := Aside0.mk (below_step (by repeat (first | (with_reducible first | exact HB.out | apply below_alloc | apply pw_below_drewN | apply below_drew1 | refine below_set ?_ GE807.out) | exact HB.out)) hb); clear HO_808003; clear HO_808004; clear BK807; clear HB; have HO_808003 := n0_; have HO_808004 := n1_; have BK807 := n2_; have HB := n3_; clear n0_ n1_ n2_ n3_; (try clear hb); (try clear hb2); (try clear hk); (try clear hi)))
                                            go_ret
                                            exact ⟨by first | rfl | (simp [errW_none, errW_some] <;> rfl) | (simp [*, errW_none, errW_some] <;> rfl), by repeat (first | (with_reducible first | exact HB.out | apply below_alloc | apply pw_below_drewN | apply below_drew1 | refine below_set ?_ GE807.out) | exact HB.out)⟩
                                          · rw [if_neg c67] at H
                                            have c67b0 : (t804 == 128) = false := beq_eq_false_iff_ne.mpr c67
                                            have c67b1 : (t804 != 128) = true := bne_iff_ne.mpr c67
                                            exact absurd H (by simp)
                            · rw [if_neg c45] at H
                              have c45b0 : ((rd t798 0) == 127) = false := beq_eq_false_iff_ne.mpr c45
                              have c45b1 : ((rd t798 0) != 127) = true := bne_iff_ne.mpr c45
                              exact absurd H (by simp)
                          · rw [if_neg c44] at H
                            exact absurd H (by simp)
                    · replace c41 := Bool.eq_false_iff.mpr c41
                      subst c41
                      have H1 : (if t804 = 0 then ((jacquardlaw10_works.f kj22).bind fun t816 => (some t816)) else (if t804 = 8 then ((jacquardlaw10_works.f kj22).bind fun t817 => (some t817)) else (if t804 = 16 then ((jacquardlaw10_works.f kj22).bind fun t818 => (some t818)) else (if t804 = 32 then ((jacquardlaw10_works.f kj22).bind fun t819 => (some t819)) else (if t804 = 64 then ((jacquardlaw10_works.f kj22).bind fun t820 => (some t820)) else (if t804 = 128 then ((jacquardlaw10_works.f kj22).bind fun t821 => (some t821)) else (some false))))))) = some true := by rw [if_neg (show ¬ (false = true) by decide)] at H; exact H
                      clear H
                      have H := H1
                      clear H1
                      by_cases c71 : t804 = 0
                      · rw [if_pos c71] at H
                        have c71b0 : (t804 == 0) = true := beq_iff_eq.mpr c71
                        have c71b1 : (t804 != 0) = false := bne_eq_false_iff_eq.mpr c71
                        clear c71
                        replace H := Option.bind_eq_some_iff.mp H
                        obtain ⟨t816, A720, H⟩ := H
                        replace H : (some t816) = some true := H
                        have A72 := Aside0.mk A720
                        clear A720
                        replace H := Option.some.inj H
                        have hcz73_0 : wc.cell? ⟨gb807, 0, none⟩ = some (.int .u16 t795) := (blk_cell BK807.out 0).trans rfl
                        have hcz73_1 : wc.cell? ⟨gb807, 1, none⟩ = some (.string t796) := (blk_cell BK807.out 1).trans rfl
                        have hcz73_2 : wc.cell? ⟨gb807, 2, none⟩ = some (.int .u8 t797) := (blk_cell BK807.out 2).trans rfl
                        have hcz73_3 : wc.cell? ⟨gb807, 3, none⟩ = some (.slice Ao8 t798.length co8) := (blk_cell BK807.out 3).trans rfl
                        have hcz73_4 : wc.cell? ⟨gb807, 4, none⟩ = some (.slice Ao9 t801.length co9) := (blk_cell BK807.out 4).trans rfl
                        have hcz73_5 : wc.cell? ⟨gb807, 5, none⟩ = some (.int .i64 t804) := (blk_cell BK807.out 5).trans rfl
                        have hcz73_6 : wc.cell? ⟨gb807, 6, none⟩ = some (.bool t805) := (blk_cell BK807.out 6).trans rfl
                        have hfz73_0 := blk_frozen BK807.out 0
                        have hfz73_1 := blk_frozen BK807.out 1
                        have hfz73_2 := blk_frozen BK807.out 2
                        have hfz73_3 := blk_frozen BK807.out 3
                        have hfz73_4 := blk_frozen BK807.out 4
                        have hfz73_5 := blk_frozen BK807.out 5
                        have hfz73_6 := blk_frozen BK807.out 6
                        go_wp2_with (first | (go_at_call 14; (with_reducible refine (jacquardlaw10_works.calls (hT := by first | exact HT.out | exact Go.Proofs.YtfbdmgdbamjjhaaDoorTabs.Tab.below HT.out (by repeat (first | (with_reducible first | exact HB.out | apply below_alloc | apply pw_below_drewN | apply below_drew1 | refine below_set ?_ (Aside0.out (by assumption))) | exact HB.out)) | exact Go.Proofs.YtfbdmgdbamjjhaaDoorTabs.Tab.drawn HT.out (by repeat (first | exact Drawn0.refl _ | apply Drawn0.step))) kj22  t816 _ A72.out).mono ?_); rintro e w74 ⟨rfl, hb⟩; have n0_ := Aside0.mk (Kd.R_below (by (with_reducible repeat (first | apply Kd.R_alloc | apply Kd.R_drewN | apply Kd.R_drew)); exact HO_808003.out) hb); have n1_ := Aside0.mk (Kd.R_below (by (with_reducible repeat (first | apply Kd.R_alloc | apply Kd.R_drewN | apply Kd.R_drew)); exact HO_808004.out) hb); have n2_ := Aside0.mk (blk_below (g := gb807) (o := .cells #[.int .u16 t795, .string t796, .int .u8 t797, .slice Ao8 t798.length co8, .slice Ao9 t801.length co9, .int .i64 t804, .bool t805] 27 (0, 0)) (by (with_reducible repeat (first | refine blk_drewN ?_ _ | refine blk_drew ?_ | refine blk_alloc ?_ _)); exact BK807.out) hb); have n3_ := Aside0.mk (below_step (by repeat (first | (with_reducible first | exact HB.out | apply below_alloc | apply pw_below_drewN | apply below_drew1 | refine below_set ?_ GE807.out) | exact HB.out)) hb); clear HO_808003; clear HO_808004; clear BK807; clear HB; have HO_808003 := n0_; have HO_808004 := n1_; have BK807 := n2_; have HB := n3_; clear n0_ n1_ n2_ n3_; (try clear hb); (try clear hb2); (try clear hk); (try clear hi)))
                        go_ret
                        exact ⟨by first | rfl | (simp [errW_none, errW_some] <;> rfl) | (simp [*, errW_none, errW_some] <;> rfl), by repeat (first | (with_reducible first | exact HB.out | apply below_alloc | apply pw_below_drewN | apply below_drew1 | refine below_set ?_ GE807.out) | exact HB.out)⟩
                      · rw [if_neg c71] at H
                        have c71b0 : (t804 == 0) = false := beq_eq_false_iff_ne.mpr c71
                        have c71b1 : (t804 != 0) = true := bne_iff_ne.mpr c71
                        by_cases c75 : t804 = 8
                        · rw [if_pos c75] at H
                          have c75b0 : (t804 == 8) = true := beq_iff_eq.mpr c75
                          have c75b1 : (t804 != 8) = false := bne_eq_false_iff_eq.mpr c75
                          clear c75
                          replace H := Option.bind_eq_some_iff.mp H
                          obtain ⟨t817, A760, H⟩ := H
                          replace H : (some t817) = some true := H
                          have A76 := Aside0.mk A760
                          clear A760
                          replace H := Option.some.inj H
                          have hcz77_0 : wc.cell? ⟨gb807, 0, none⟩ = some (.int .u16 t795) := (blk_cell BK807.out 0).trans rfl
                          have hcz77_1 : wc.cell? ⟨gb807, 1, none⟩ = some (.string t796) := (blk_cell BK807.out 1).trans rfl
                          have hcz77_2 : wc.cell? ⟨gb807, 2, none⟩ = some (.int .u8 t797) := (blk_cell BK807.out 2).trans rfl
                          have hcz77_3 : wc.cell? ⟨gb807, 3, none⟩ = some (.slice Ao8 t798.length co8) := (blk_cell BK807.out 3).trans rfl
                          have hcz77_4 : wc.cell? ⟨gb807, 4, none⟩ = some (.slice Ao9 t801.length co9) := (blk_cell BK807.out 4).trans rfl
                          have hcz77_5 : wc.cell? ⟨gb807, 5, none⟩ = some (.int .i64 t804) := (blk_cell BK807.out 5).trans rfl
                          have hcz77_6 : wc.cell? ⟨gb807, 6, none⟩ = some (.bool t805) := (blk_cell BK807.out 6).trans rfl
                          have hfz77_0 := blk_frozen BK807.out 0
                          have hfz77_1 := blk_frozen BK807.out 1
                          have hfz77_2 := blk_frozen BK807.out 2
                          have hfz77_3 := blk_frozen BK807.out 3
                          have hfz77_4 := blk_frozen BK807.out 4
                          have hfz77_5 := blk_frozen BK807.out 5
                          have hfz77_6 := blk_frozen BK807.out 6
                          go_wp2_with (first | (go_at_call 14; (with_reducible refine (jacquardlaw10_works.calls (hT := by first | exact HT.out | exact Go.Proofs.YtfbdmgdbamjjhaaDoorTabs.Tab.below HT.out (by repeat (first | (with_reducible first | exact HB.out | apply below_alloc | apply pw_below_drewN | apply below_drew1 | refine below_set ?_ (Aside0.out (by assumption))) | exact HB.out)) | exact Go.Proofs.YtfbdmgdbamjjhaaDoorTabs.Tab.drawn HT.out (by repeat (first | exact Drawn0.refl _ | apply Drawn0.step))) kj22  t817 _ A76.out).mono ?_); rintro e w78 ⟨rfl, hb⟩; have n0_ := Aside0.mk (Kd.R_below (by (with_reducible repeat (first | apply Kd.R_alloc | apply Kd.R_drewN | apply Kd.R_drew)); exact HO_808003.out) hb); have n1_ := Aside0.mk (Kd.R_below (by (with_reducible repeat (first | apply Kd.R_alloc | apply Kd.R_drewN | apply Kd.R_drew)); exact HO_808004.out) hb); have n2_ := Aside0.mk (blk_below (g := gb807) (o := .cells #[.int .u16 t795, .string t796, .int .u8 t797, .slice Ao8 t798.length co8, .slice Ao9 t801.length co9, .int .i64 t804, .bool t805] 27 (0, 0)) (by (with_reducible repeat (first | refine blk_drewN ?_ _ | refine blk_drew ?_ | refine blk_alloc ?_ _)); exact BK807.out) hb); have n3_ := Aside0.mk (below_step (by repeat (first | (with_reducible first | exact HB.out | apply below_alloc | apply pw_below_drewN | apply below_drew1 | refine below_set ?_ GE807.out) | exact HB.out)) hb); clear HO_808003; clear HO_808004; clear BK807; clear HB; have HO_808003 := n0_; have HO_808004 := n1_; have BK807 := n2_; have HB := n3_; clear n0_ n1_ n2_ n3_; (try clear hb); (try clear hb2); (try clear hk); (try clear hi)))
                          go_ret
                          exact ⟨by first | rfl | (simp [errW_none, errW_some] <;> rfl) | (simp [*, errW_none, errW_some] <;> rfl) | (exfalso; rw [c71b1] at c40b0; exact absurd c40b0 (by decide)) | (exfalso; rw [c47b1] at c40b0; exact absurd c40b0 (by decide)), by repeat (first | (with_reducible first | exact HB.out | apply below_alloc | apply pw_below_drewN | apply below_drew1 | refine below_set ?_ GE807.out) | exact HB.out)⟩
                        · rw [if_neg c75] at H
                          have c75b0 : (t804 == 8) = false := beq_eq_false_iff_ne.mpr c75
                          have c75b1 : (t804 != 8) = true := bne_iff_ne.mpr c75
                          by_cases c79 : t804 = 16
                          · rw [if_pos c79] at H
                            have c79b0 : (t804 == 16) = true := beq_iff_eq.mpr c79
                            have c79b1 : (t804 != 16) = false := bne_eq_false_iff_eq.mpr c79
                            clear c79
                            replace H := Option.bind_eq_some_iff.mp H
                            obtain ⟨t818, A800, H⟩ := H
                            replace H : (some t818) = some true := H
                            have A80 := Aside0.mk A800
                            clear A800
                            replace H := Option.some.inj H
                            have hcz81_0 : wc.cell? ⟨gb807, 0, none⟩ = some (.int .u16 t795) := (blk_cell BK807.out 0).trans rfl
                            have hcz81_1 : wc.cell? ⟨gb807, 1, none⟩ = some (.string t796) := (blk_cell BK807.out 1).trans rfl
                            have hcz81_2 : wc.cell? ⟨gb807, 2, none⟩ = some (.int .u8 t797) := (blk_cell BK807.out 2).trans rfl
                            have hcz81_3 : wc.cell? ⟨gb807, 3, none⟩ = some (.slice Ao8 t798.length co8) := (blk_cell BK807.out 3).trans rfl
                            have hcz81_4 : wc.cell? ⟨gb807, 4, none⟩ = some (.slice Ao9 t801.length co9) := (blk_cell BK807.out 4).trans rfl
                            have hcz81_5 : wc.cell? ⟨gb807, 5, none⟩ = some (.int .i64 t804) := (blk_cell BK807.out 5).trans rfl
                            have hcz81_6 : wc.cell? ⟨gb807, 6, none⟩ = some (.bool t805) := (blk_cell BK807.out 6).trans rfl
                            have hfz81_0 := blk_frozen BK807.out 0
                            have hfz81_1 := blk_frozen BK807.out 1
                            have hfz81_2 := blk_frozen BK807.out 2
                            have hfz81_3 := blk_frozen BK807.out 3
                            have hfz81_4 := blk_frozen BK807.out 4
                            have hfz81_5 := blk_frozen BK807.out 5
                            have hfz81_6 := blk_frozen BK807.out 6
                            go_wp2_with (first | (go_at_call 14; (with_reducible refine (jacquardlaw10_works.calls (hT := by first | exact HT.out | exact Go.Proofs.YtfbdmgdbamjjhaaDoorTabs.Tab.below HT.out (by repeat (first | (with_reducible first | exact HB.out | apply below_alloc | apply pw_below_drewN | apply below_drew1 | refine below_set ?_ (Aside0.out (by assumption))) | exact HB.out)) | exact Go.Proofs.YtfbdmgdbamjjhaaDoorTabs.Tab.drawn HT.out (by repeat (first | exact Drawn0.refl _ | apply Drawn0.step))) kj22  t818 _ A80.out).mono ?_); rintro e w82 ⟨rfl, hb⟩; have n0_ := Aside0.mk (Kd.R_below (by (with_reducible repeat (first | apply Kd.R_alloc | apply Kd.R_drewN | apply Kd.R_drew)); exact HO_808003.out) hb); have n1_ := Aside0.mk (Kd.R_below (by (with_reducible repeat (first | apply Kd.R_alloc | apply Kd.R_drewN | apply Kd.R_drew)); exact HO_808004.out) hb); have n2_ := Aside0.mk (blk_below (g := gb807) (o := .cells #[.int .u16 t795, .string t796, .int .u8 t797, .slice Ao8 t798.length co8, .slice Ao9 t801.length co9, .int .i64 t804, .bool t805] 27 (0, 0)) (by (with_reducible repeat (first | refine blk_drewN ?_ _ | refine blk_drew ?_ | refine blk_alloc ?_ _)); exact BK807.out) hb); have n3_ := Aside0.mk (below_step (by repeat (first | (with_reducible first | exact HB.out | apply below_alloc | apply pw_below_drewN | apply below_drew1 | refine below_set ?_ GE807.out) | exact HB.out)) hb); clear HO_808003; clear HO_808004; clear BK807; clear HB; have HO_808003 := n0_; have HO_808004 := n1_; have BK807 := n2_; have HB := n3_; clear n0_ n1_ n2_ n3_; (try clear hb); (try clear hb2); (try clear hk); (try clear hi)))
                            go_ret
                            exact ⟨by first | rfl | (simp [errW_none, errW_some] <;> rfl) | (simp [*, errW_none, errW_some] <;> rfl) | (exfalso; rw [c71b1] at c40b0; exact absurd c40b0 (by decide)) | (exfalso; rw [c47b1] at c40b0; exact absurd c40b0 (by decide)), by repeat (first | (with_reducible first | exact HB.out | apply below_alloc | apply pw_below_drewN | apply below_drew1 | refine below_set ?_ GE807.out) | exact HB.out)⟩
                          · rw [if_neg c79] at H
                            have c79b0 : (t804 == 16) = false := beq_eq_false_iff_ne.mpr c79
                            have c79b1 : (t804 != 16) = true := bne_iff_ne.mpr c79
                            by_cases c83 : t804 = 32
                            · rw [if_pos c83] at H
                              have c83b0 : (t804 == 32) = true := beq_iff_eq.mpr c83
                              have c83b1 : (t804 != 32) = false := bne_eq_false_iff_eq.mpr c83
                              clear c83
                              replace H := Option.bind_eq_some_iff.mp H
                              obtain ⟨t819, A840, H⟩ := H
                              replace H : (some t819) = some true := H
                              have A84 := Aside0.mk A840
                              clear A840
                              replace H := Option.some.inj H
                              have hcz85_0 : wc.cell? ⟨gb807, 0, none⟩ = some (.int .u16 t795) := (blk_cell BK807.out 0).trans rfl
                              have hcz85_1 : wc.cell? ⟨gb807, 1, none⟩ = some (.string t796) := (blk_cell BK807.out 1).trans rfl
                              have hcz85_2 : wc.cell? ⟨gb807, 2, none⟩ = some (.int .u8 t797) := (blk_cell BK807.out 2).trans rfl
                              have hcz85_3 : wc.cell? ⟨gb807, 3, none⟩ = some (.slice Ao8 t798.length co8) := (blk_cell BK807.out 3).trans rfl
                              have hcz85_4 : wc.cell? ⟨gb807, 4, none⟩ = some (.slice Ao9 t801.length co9) := (blk_cell BK807.out 4).trans rfl
                              have hcz85_5 : wc.cell? ⟨gb807, 5, none⟩ = some (.int .i64 t804) := (blk_cell BK807.out 5).trans rfl
                              have hcz85_6 : wc.cell? ⟨gb807, 6, none⟩ = some (.bool t805) := (blk_cell BK807.out 6).trans rfl
                              have hfz85_0 := blk_frozen BK807.out 0
                              have hfz85_1 := blk_frozen BK807.out 1
                              have hfz85_2 := blk_frozen BK807.out 2
                              have hfz85_3 := blk_frozen BK807.out 3
                              have hfz85_4 := blk_frozen BK807.out 4
                              have hfz85_5 := blk_frozen BK807.out 5
                              have hfz85_6 := blk_frozen BK807.out 6
                              go_wp2_with (first | (go_at_call 14; (with_reducible refine (jacquardlaw10_works.calls (hT := by first | exact HT.out | exact Go.Proofs.YtfbdmgdbamjjhaaDoorTabs.Tab.below HT.out (by repeat (first | (with_reducible first | exact HB.out | apply below_alloc | apply pw_below_drewN | apply below_drew1 | refine below_set ?_ (Aside0.out (by assumption))) | exact HB.out)) | exact Go.Proofs.YtfbdmgdbamjjhaaDoorTabs.Tab.drawn HT.out (by repeat (first | exact Drawn0.refl _ | apply Drawn0.step))) kj22  t819 _ A84.out).mono ?_); rintro e w86 ⟨rfl, hb⟩; have n0_ := Aside0.mk (Kd.R_below (by (with_reducible repeat (first | apply Kd.R_alloc | apply Kd.R_drewN | apply Kd.R_drew)); exact HO_808003.out) hb); have n1_ := Aside0.mk (Kd.R_below (by (with_reducible repeat (first | apply Kd.R_alloc | apply Kd.R_drewN | apply Kd.R_drew)); exact HO_808004.out) hb); have n2_ := Aside0.mk (blk_below (g := gb807) (o := .cells #[.int .u16 t795, .string t796, .int .u8 t797, .slice Ao8 t798.length co8, .slice Ao9 t801.length co9, .int .i64 t804, .bool t805] 27 (0, 0)) (by (with_reducible repeat (first | refine blk_drewN ?_ _ | refine blk_drew ?_ | refine blk_alloc ?_ _)); exact BK807.out) hb); have n3_ := Aside0.mk (below_step (by repeat (first | (with_reducible first | exact HB.out | apply below_alloc | apply pw_below_drewN | apply below_drew1 | refine below_set ?_ GE807.out) | exact HB.out)) hb); clear HO_808003; clear HO_808004; clear BK807; clear HB; have HO_808003 := n0_; have HO_808004 := n1_; have BK807 := n2_; have HB := n3_; clear n0_ n1_ n2_ n3_; (try clear hb); (try clear hb2); (try clear hk); (try clear hi)))
                              go_ret
                              exact ⟨by first | rfl | (simp [errW_none, errW_some] <;> rfl) | (simp [*, errW_none, errW_some] <;> rfl) | (exfalso; rw [c71b1] at c40b0; exact absurd c40b0 (by decide)) | (exfalso; rw [c47b1] at c40b0; exact absurd c40b0 (by decide)), by repeat (first | (with_reducible first | exact HB.out | apply below_alloc | apply pw_below_drewN | apply below_drew1 | refine below_set ?_ GE807.out) | exact HB.out)⟩
                            · rw [if_neg c83] at H
                              have c83b0 : (t804 == 32) = false := beq_eq_false_iff_ne.mpr c83
                              have c83b1 : (t804 != 32) = true := bne_iff_ne.mpr c83
                              by_cases c87 : t804 = 64
                              · rw [if_pos c87] at H
                                have c87b0 : (t804 == 64) = true := beq_iff_eq.mpr c87
                                have c87b1 : (t804 != 64) = false := bne_eq_false_iff_eq.mpr c87
                                clear c87
                                replace H := Option.bind_eq_some_iff.mp H
                                obtain ⟨t820, A880, H⟩ := H
                                replace H : (some t820) = some true := H
                                have A88 := Aside0.mk A880
                                clear A880
                                replace H := Option.some.inj H
                                have hcz89_0 : wc.cell? ⟨gb807, 0, none⟩ = some (.int .u16 t795) := (blk_cell BK807.out 0).trans rfl
                                have hcz89_1 : wc.cell? ⟨gb807, 1, none⟩ = some (.string t796) := (blk_cell BK807.out 1).trans rfl
                                have hcz89_2 : wc.cell? ⟨gb807, 2, none⟩ = some (.int .u8 t797) := (blk_cell BK807.out 2).trans rfl
                                have hcz89_3 : wc.cell? ⟨gb807, 3, none⟩ = some (.slice Ao8 t798.length co8) := (blk_cell BK807.out 3).trans rfl
                                have hcz89_4 : wc.cell? ⟨gb807, 4, none⟩ = some (.slice Ao9 t801.length co9) := (blk_cell BK807.out 4).trans rfl
                                have hcz89_5 : wc.cell? ⟨gb807, 5, none⟩ = some (.int .i64 t804) := (blk_cell BK807.out 5).trans rfl
                                have hcz89_6 : wc.cell? ⟨gb807, 6, none⟩ = some (.bool t805) := (blk_cell BK807.out 6).trans rfl
                                have hfz89_0 := blk_frozen BK807.out 0
                                have hfz89_1 := blk_frozen BK807.out 1
                                have hfz89_2 := blk_frozen BK807.out 2
                                have hfz89_3 := blk_frozen BK807.out 3
                                have hfz89_4 := blk_frozen BK807.out 4
                                have hfz89_5 := blk_frozen BK807.out 5
                                have hfz89_6 := blk_frozen BK807.out 6
                                go_wp2_with (first | (go_at_call 14; (with_reducible refine (jacquardlaw10_works.calls (hT := by first | exact HT.out | exact Go.Proofs.YtfbdmgdbamjjhaaDoorTabs.Tab.below HT.out (by repeat (first | (with_reducible first | exact HB.out | apply below_alloc | apply pw_below_drewN | apply below_drew1 | refine below_set ?_ (Aside0.out (by assumption))) | exact HB.out)) | exact Go.Proofs.YtfbdmgdbamjjhaaDoorTabs.Tab.drawn HT.out (by repeat (first | exact Drawn0.refl _ | apply Drawn0.step))) kj22  t820 _ A88.out).mono ?_); rintro e w90 ⟨rfl, hb⟩; have n0_ := Aside0.mk (Kd.R_below (by (with_reducible repeat (first | apply Kd.R_alloc | apply Kd.R_drewN | apply Kd.R_drew)); exact HO_808003.out) hb); have n1_ := Aside0.mk (Kd.R_below (by (with_reducible repeat (first | apply Kd.R_alloc | apply Kd.R_drewN | apply Kd.R_drew)); exact HO_808004.out) hb); have n2_ := Aside0.mk (blk_below (g := gb807) (o := .cells #[.int .u16 t795, .string t796, .int .u8 t797, .slice Ao8 t798.length co8, .slice Ao9 t801.length co9, .int .i64 t804, .bool t805] 27 (0, 0)) (by (with_reducible repeat (first | refine blk_drewN ?_ _ | refine blk_drew ?_ | refine blk_alloc ?_ _)); exact BK807.out) hb); have n3_ := Aside0.mk (below_step (by repeat (first | (with_reducible first | exact HB.out | apply below_alloc | apply pw_below_drewN | apply below_drew1 | refine below_set ?_ GE807.out) | exact HB.out)) hb); clear HO_808003; clear HO_808004; clear BK807; clear HB; have HO_808003 := n0_; have HO_808004 := n1_; have BK807 := n2_; have HB := n3_; clear n0_ n1_ n2_ n3_; (try clear hb); (try clear hb2); (try clear hk); (try clear hi)))
                                go_ret
                                exact ⟨by first | rfl | (simp [errW_none, errW_some] <;> rfl) | (simp [*, errW_none, errW_some] <;> rfl) | (exfalso; rw [c71b1] at c40b0; exact absurd c40b0 (by decide)) | (exfalso; rw [c47b1] at c40b0; exact absurd c40b0 (by decide)), by repeat (first | (with_reducible first | exact HB.out | apply below_alloc | apply pw_below_drewN | apply below_drew1 | refine below_set ?_ GE807.out) | exact HB.out)⟩
                              · rw [if_neg c87] at H
                                have c87b0 : (t804 == 64) = false := beq_eq_false_iff_ne.mpr c87
                                have c87b1 : (t804 != 64) = true := bne_iff_ne.mpr c87
                                by_cases c91 : t804 = 128
                                · rw [if_pos c91] at H
                                  have c91b0 : (t804 == 128) = true := beq_iff_eq.mpr c91
                                  have c91b1 : (t804 != 128) = false := bne_eq_false_iff_eq.mpr c91
                                  clear c91
                                  replace H := Option.bind_eq_some_iff.mp H
                                  obtain ⟨t821, A920, H⟩ := H
                                  replace H : (some t821) = some true := H
                                  have A92 := Aside0.mk A920
                                  clear A920
                                  replace H := Option.some.inj H
                                  have hcz93_0 : wc.cell? ⟨gb807, 0, none⟩ = some (.int .u16 t795) := (blk_cell BK807.out 0).trans rfl
                                  have hcz93_1 : wc.cell? ⟨gb807, 1, none⟩ = some (.string t796) := (blk_cell BK807.out 1).trans rfl
                                  have hcz93_2 : wc.cell? ⟨gb807, 2, none⟩ = some (.int .u8 t797) := (blk_cell BK807.out 2).trans rfl
                                  have hcz93_3 : wc.cell? ⟨gb807, 3, none⟩ = some (.slice Ao8 t798.length co8) := (blk_cell BK807.out 3).trans rfl
                                  have hcz93_4 : wc.cell? ⟨gb807, 4, none⟩ = some (.slice Ao9 t801.length co9) := (blk_cell BK807.out 4).trans rfl
                                  have hcz93_5 : wc.cell? ⟨gb807, 5, none⟩ = some (.int .i64 t804) := (blk_cell BK807.out 5).trans rfl
                                  have hcz93_6 : wc.cell? ⟨gb807, 6, none⟩ = some (.bool t805) := (blk_cell BK807.out 6).trans rfl
                                  have hfz93_0 := blk_frozen BK807.out 0
                                  have hfz93_1 := blk_frozen BK807.out 1
                                  have hfz93_2 := blk_frozen BK807.out 2
                                  have hfz93_3 := blk_frozen BK807.out 3
                                  have hfz93_4 := blk_frozen BK807.out 4
                                  have hfz93_5 := blk_frozen BK807.out 5
                                  have hfz93_6 := blk_frozen BK807.out 6
                                  go_wp2_with (first | (go_at_call 14; (with_reducible refine (jacquardlaw10_works.calls (hT := by first | exact HT.out | exact Go.Proofs.YtfbdmgdbamjjhaaDoorTabs.Tab.below HT.out (by repeat (first | (with_reducible first | exact HB.out | apply below_alloc | apply pw_below_drewN | apply below_drew1 | refine below_set ?_ (Aside0.out (by assumption))) | exact HB.out)) | exact Go.Proofs.YtfbdmgdbamjjhaaDoorTabs.Tab.drawn HT.out (by repeat (first | exact Drawn0.refl _ | apply Drawn0.step))) kj22  t821 _ A92.out).mono ?_); rintro e w94 ⟨rfl, hb⟩; have n0_ := Aside0.mk (Kd.R_below (by (with_reducible repeat (first | apply Kd.R_alloc | apply Kd.R_drewN | apply Kd.R_drew)); exact HO_808003.out) hb); have n1_ := Aside0.mk (Kd.R_below (by (with_reducible repeat (first | apply Kd.R_alloc | apply Kd.R_drewN | apply Kd.R_drew)); exact HO_808004.out) hb); have n2_ := Aside0.mk (blk_below (g := gb807) (o := .cells #[.int .u16 t795, .string t796, .int .u8 t797, .slice Ao8 t798.length co8, .slice Ao9 t801.length co9, .int .i64 t804, .bool t805] 27 (0, 0)) (by (with_reducible repeat (first | refine blk_drewN ?_ _ | refine blk_drew ?_ | refine blk_alloc ?_ _)); exact BK807.out) hb); have n3_ := Aside0.mk (below_step (by repeat (first | (with_reducible first | exact HB.out | apply below_alloc | apply pw_below_drewN | apply below_drew1 | refine below_set ?_ GE807.out) | exact HB.out)) hb); clear HO_808003; clear HO_808004; clear BK807; clear HB; have HO_808003 := n0_; have HO_808004 := n1_; have BK807 := n2_; have HB := n3_; clear n0_ n1_ n2_ n3_; (try clear hb); (try clear hb2); (try clear hk); (try clear hi)))
                                  go_ret
                                  exact ⟨by first | rfl | (simp [errW_none, errW_some] <;> rfl) | (simp [*, errW_none, errW_some] <;> rfl) | (exfalso; rw [c71b1] at c40b0; exact absurd c40b0 (by decide)) | (exfalso; rw [c47b1] at c40b0; exact absurd c40b0 (by decide)), by repeat (first | (with_reducible first | exact HB.out | apply below_alloc | apply pw_below_drewN | apply below_drew1 | refine below_set ?_ GE807.out) | exact HB.out)⟩
                                · rw [if_neg c91] at H
                                  have c91b0 : (t804 == 128) = false := beq_eq_false_iff_ne.mpr c91
                                  have c91b1 : (t804 != 128) = true := bne_iff_ne.mpr c91
                                  exact absurd H (by simp)
  · rw [if_neg c3] at H
    have c3b0 : (t806 == 0) = false := beq_eq_false_iff_ne.mpr c3
    have c3b1 : (t806 != 0) = true := bne_iff_ne.mpr c3
    replace H := Option.bind_eq_some_iff.mp H
    obtain ⟨t808, A950, H⟩ := H
    replace H : (some t808) = some true := H
    have A95 := Aside0.mk A950
    clear A950
    replace H := Option.some.inj H
    go_enter Tryd.func4, Tryd.ntmps4
    go_wp2_with (first | ((with_reducible refine gate_callee (f := 11) rfl ?_); refine goesL_ (some 9) rfl rfl Tryd.func11 (by kernel_rfl) rfl #[.int .u16 a0] rfl (by (try simp only [List.map_toArray, List.map_cons, List.map_nil]); first | done | rfl | (simp only [List.length_drop, List.length_take]; rfl)) ?_; (with_reducible refine (ops_Of.calls (hT := by first | exact HT.out | exact Go.Proofs.YtfbdmgdbamjjhaaDoorTabs.Tab.below HT.out (by repeat (first | (with_reducible first | exact HB.out | apply below_alloc | apply pw_below_drewN | apply below_drew1 | refine below_set ?_ (Aside0.out (by assumption))) | exact HB.out)) | exact Go.Proofs.YtfbdmgdbamjjhaaDoorTabs.Tab.drawn HT.out (by repeat (first | exact Drawn0.refl _ | apply Drawn0.step))) k a0 t795 t796 t797 t798 t801 t804 t805 t806 _ A2.out).mono ?_); rintro e w96 ⟨v799, v802, rfl, ho0, ho1, hb⟩; refine ⟨_, rfl, ?_⟩; have n0_ := Aside0.mk (Kd.R_lower ho0 (below_size (by repeat (first | (with_reducible first | exact HB.out | apply below_alloc | apply pw_below_drewN | apply below_drew1) | exact HB.out)))); have n1_ := Aside0.mk (Kd.R_lower ho1 (below_size (by repeat (first | (with_reducible first | exact HB.out | apply below_alloc | apply pw_below_drewN | apply below_drew1) | exact HB.out)))); have n2_ := Aside0.mk (below_step (by repeat (first | (with_reducible first | exact HB.out | apply below_alloc | apply pw_below_drewN | apply below_drew1) | exact HB.out)) hb); clear HB; have HO800 := n0_; have HO803 := n1_; have HB := n2_; clear n0_ n1_ n2_; (try clear hb); (try clear hb2); (try clear hk); (try clear hi); (try clear ho0); (try clear ho1)) | ((with_reducible refine gate_dst (N := 3) rfl ?_); (try (refine gate_guard (by rfl) ?_; dsimp only)); refine box_event ?hg (N := 3) ?hd (cs := #[.int .u16 0, .string (⟨#[]⟩ : ByteArray), .int .u8 0, .slice none 0 0, .slice none 0 0, .int .i64 0, .bool false]) (t := 27) ?hr ?_; (case hd => rfl); (case hg => rfl); (case hr => first | (go_simp; done) | (go_simp; rfl)); intro gb807 hg w97 hbox hb; have n0_ := Aside0.mk (Kd.R_below (by (with_reducible repeat (first | apply Kd.R_alloc | apply Kd.R_drewN | apply Kd.R_drew)); exact HO800.out) hb); have n1_ := Aside0.mk (Kd.R_below (by (with_reducible repeat (first | apply Kd.R_alloc | apply Kd.R_drewN | apply Kd.R_drew)); exact HO803.out) hb); have n2_ := Aside0.mk (below_step (by repeat (first | (with_reducible first | exact HB.out | apply below_alloc | apply pw_below_drewN | apply below_drew1) | exact HB.out)) hb); have n3_ := Aside0.mk (hbox); have n4_ := Aside0.mk ((by rw [hg]; exact (below_size (by repeat (first | (with_reducible first | exact HB.out | apply below_alloc | apply pw_below_drewN | apply below_drew1) | exact HB.out))) : w.heap.size ≤ gb807)); have n5_ := Aside0.mk ((by rw [hg]; exact (below_size (by repeat (first | (with_reducible first | exact HB.out | apply below_alloc | apply pw_below_drewN | apply below_drew1) | exact HB.out))) : w.heap.size ≤ gb807)); clear HO800; clear HO803; clear HB; have HO800 := n0_; have HO803 := n1_; have HB := n2_; have BK807 := n3_; have GW807 := n4_; have GE807 := n5_; clear n0_ n1_ n2_ n3_ n4_ n5_; clear hb hbox hg; have hcz98_0 : w97.cell? ⟨gb807, 0, none⟩ = some (.int .u16 0) := (blk_cell BK807.out 0).trans rfl; have hcz98_1 : w97.cell? ⟨gb807, 1, none⟩ = some (.string (⟨#[]⟩ : ByteArray)) := (blk_cell BK807.out 1).trans rfl; have hcz98_2 : w97.cell? ⟨gb807, 2, none⟩ = some (.int .u8 0) := (blk_cell BK807.out 2).trans rfl; have hcz98_3 : w97.cell? ⟨gb807, 3, none⟩ = some (.slice none 0 0) := (blk_cell BK807.out 3).trans rfl; have hcz98_4 : w97.cell? ⟨gb807, 4, none⟩ = some (.slice none 0 0) := (blk_cell BK807.out 4).trans rfl; have hcz98_5 : w97.cell? ⟨gb807, 5, none⟩ = some (.int .i64 0) := (blk_cell BK807.out 5).trans rfl; have hcz98_6 : w97.cell? ⟨gb807, 6, none⟩ = some (.bool false) := (blk_cell BK807.out 6).trans rfl; have hfz98_0 := blk_frozen BK807.out 0; have hfz98_1 := blk_frozen BK807.out 1; have hfz98_2 := blk_frozen BK807.out 2; have hfz98_3 := blk_frozen BK807.out 3; have hfz98_4 := blk_frozen BK807.out 4; have hfz98_5 := blk_frozen BK807.out 5; have hfz98_6 := blk_frozen BK807.out 6; obtain ⟨Ao99, co99, eo99⟩ := Kd.R_slice HO800.out; subst eo99; obtain ⟨Ao100, co100, eo100⟩ := Kd.R_slice HO803.out; subst eo100) | ((with_reducible refine gate_callee (f := 14) rfl ?_); refine goesL_ (some 14) rfl rfl Tryd.func14 (by kernel_rfl) rfl #[] rfl (by (try simp only [List.map_toArray, List.map_cons, List.map_nil]); first | done | rfl | (simp only [List.length_drop, List.length_take]; rfl)) ?_; (with_reducible refine (jacquardlaw10_works.calls (hT := by first | exact HT.out | exact Go.Proofs.YtfbdmgdbamjjhaaDoorTabs.Tab.below HT.out (by repeat (first | (with_reducible first | exact HB.out | apply below_alloc | apply pw_below_drewN | apply below_drew1 | refine below_set ?_ (Aside0.out (by assumption))) | exact HB.out)) | exact Go.Proofs.YtfbdmgdbamjjhaaDoorTabs.Tab.drawn HT.out (by repeat (first | exact Drawn0.refl _ | apply Drawn0.step))) k  t808 _ A95.out).mono ?_); rintro e w101 ⟨rfl, hb⟩; refine ⟨_, rfl, ?_⟩; have n0_ := Aside0.mk (Kd.R_below (by (with_reducible repeat (first | apply Kd.R_alloc | apply Kd.R_drewN | apply Kd.R_drew)); exact (Kd.R_mono (Kd.R_far (p := ⟨gb807, 6, none⟩) (Kd.R_far (p := ⟨gb807, 5, none⟩) (Kd.R_far (p := ⟨gb807, 4, none⟩) (Kd.R_far (p := ⟨gb807, 3, none⟩) (Kd.R_far (p := ⟨gb807, 2, none⟩) (Kd.R_far (p := ⟨gb807, 1, none⟩) (Kd.R_far (p := ⟨gb807, 0, none⟩) (Kd.R_types HO800.out BK807.out (by decide)) (fun _ hk => hk.2) (.int .u16 t795)) (fun _ hk => hk.2) (.string t796)) (fun _ hk => hk.2) (.int .u8 t797)) (fun _ hk => hk.2) (.slice Ao99 t798.length co99)) (fun _ hk => hk.2) (.slice Ao100 t801.length co100)) (fun _ hk => hk.2) (.int .i64 t804)) (fun _ hk => hk.2) (.bool t805)) (fun _ h_ => h_.1))) hb); have n1_ := Aside0.mk (Kd.R_below (by (with_reducible repeat (first | apply Kd.R_alloc | apply Kd.R_drewN | apply Kd.R_drew)); exact (Kd.R_mono (Kd.R_far (p := ⟨gb807, 6, none⟩) (Kd.R_far (p := ⟨gb807, 5, none⟩) (Kd.R_far (p := ⟨gb807, 4, none⟩) (Kd.R_far (p := ⟨gb807, 3, none⟩) (Kd.R_far (p := ⟨gb807, 2, none⟩) (Kd.R_far (p := ⟨gb807, 1, none⟩) (Kd.R_far (p := ⟨gb807, 0, none⟩) (Kd.R_types HO803.out BK807.out (by decide)) (fun _ hk => hk.2) (.int .u16 t795)) (fun _ hk => hk.2) (.string t796)) (fun _ hk => hk.2) (.int .u8 t797)) (fun _ hk => hk.2) (.slice Ao99 t798.length co99)) (fun _ hk => hk.2) (.slice Ao100 t801.length co100)) (fun _ hk => hk.2) (.int .i64 t804)) (fun _ hk => hk.2) (.bool t805)) (fun _ h_ => h_.1))) hb); have n2_ := Aside0.mk (blk_below (g := gb807) (o := .cells #[.int .u16 t795, .string t796, .int .u8 t797, .slice Ao99 t798.length co99, .slice Ao100 t801.length co100, .int .i64 t804, .bool t805] 27 (0, 0)) (by (with_reducible repeat (first | refine blk_drewN ?_ _ | refine blk_drew ?_ | refine blk_alloc ?_ _)); refine blk_put (cs := #[.int .u16 t795, .string t796, .int .u8 t797, .slice Ao99 t798.length co99, .slice Ao100 t801.length co100, .int .i64 t804, .bool false]) ?_ 6 _ rfl; (with_reducible repeat (first | refine blk_drewN ?_ _ | refine blk_drew ?_ | refine blk_alloc ?_ _)); refine blk_put (cs := #[.int .u16 t795, .string t796, .int .u8 t797, .slice Ao99 t798.length co99, .slice Ao100 t801.length co100, .int .i64 0, .bool false]) ?_ 5 _ rfl; (with_reducible repeat (first | refine blk_drewN ?_ _ | refine blk_drew ?_ | refine blk_alloc ?_ _)); refine blk_put (cs := #[.int .u16 t795, .string t796, .int .u8 t797, .slice Ao99 t798.length co99, .slice none 0 0, .int .i64 0, .bool false]) ?_ 4 _ rfl; (with_reducible repeat (first | refine blk_drewN ?_ _ | refine blk_drew ?_ | refine blk_alloc ?_ _)); refine blk_put (cs := #[.int .u16 t795, .string t796, .int .u8 t797, .slice none 0 0, .slice none 0 0, .int .i64 0, .bool false]) ?_ 3 _ rfl; (with_reducible repeat (first | refine blk_drewN ?_ _ | refine blk_drew ?_ | refine blk_alloc ?_ _)); refine blk_put (cs := #[.int .u16 t795, .string t796, .int .u8 0, .slice none 0 0, .slice none 0 0, .int .i64 0, .bool false]) ?_ 2 _ rfl; (with_reducible repeat (first | refine blk_drewN ?_ _ | refine blk_drew ?_ | refine blk_alloc ?_ _)); refine blk_put (cs := #[.int .u16 t795, .string (⟨#[]⟩ : ByteArray), .int .u8 0, .slice none 0 0, .slice none 0 0, .int .i64 0, .bool false]) ?_ 1 _ rfl; (with_reducible repeat (first | refine blk_drewN ?_ _ | refine blk_drew ?_ | refine blk_alloc ?_ _)); refine blk_put (cs := #[.int .u16 0, .string (⟨#[]⟩ : ByteArray), .int .u8 0, .slice none 0 0, .slice none 0 0, .int .i64 0, .bool false]) ?_ 0 _ rfl; (with_reducible repeat (first | refine blk_drewN ?_ _ | refine blk_drew ?_ | refine blk_alloc ?_ _)); exact BK807.out) hb); have n3_ := Aside0.mk (below_step (by repeat (first | (with_reducible first | exact HB.out | apply below_alloc | apply pw_below_drewN | apply below_drew1 | refine below_set ?_ GE807.out) | exact HB.out)) hb); clear HO800; clear HO803; clear BK807; clear HB; have HO800 := n0_; have HO803 := n1_; have BK807 := n2_; have HB := n3_; clear n0_ n1_ n2_ n3_; (try clear hb); (try clear hb2); (try clear hk); (try clear hi)))
    go_ret
    exact ⟨by first | rfl | (simp [errW_none, errW_some] <;> rfl) | (simp [*, errW_none, errW_some] <;> rfl), by repeat (first | (with_reducible first | exact HB.out | apply below_alloc | apply pw_below_drewN | apply below_drew1 | refine below_set ?_ GE807.out) | exact HB.out)⟩

/-- THE ONE PURE STATEMENT of jacquardlaw10_OpsPlain: yours. -/
def jacquardlaw10_OpsPlain.Pure : Prop := ∀ (a0 : Int), (Lit.int .u16 a0).wf = true → ∃ k, jacquardlaw10_OpsPlain.f k a0 = some true
theorem jacquardlaw10_OpsPlain.walk (P : jacquardlaw10_OpsPlain.Pure) (a0 : Int) (w : World) (hT : Go.Proofs.YtfbdmgdbamjjhaaDoorTabs.Tab w) (w0 : (Lit.int .u16 a0).wf = true) :
    Calls Tryd.prog 4 #[.int .u16 a0] w fun e w' => e = .returned (.bool true) ∧ Below w.heap.size w w' := by
  have HT := Aside0.mk hT
  clear hT
  obtain ⟨k, h⟩ := P a0 w0
  refine (jacquardlaw10_OpsPlain.calls (hT := by first | exact HT.out | exact Go.Proofs.YtfbdmgdbamjjhaaDoorTabs.Tab.below HT.out (by repeat (first | (with_reducible first | exact HB.out | apply below_alloc | apply pw_below_drewN | apply below_drew1 | refine below_set ?_ (Aside0.out (by assumption))) | exact HB.out)) | exact Go.Proofs.YtfbdmgdbamjjhaaDoorTabs.Tab.drawn HT.out (by repeat (first | exact Drawn0.refl _ | apply Drawn0.step))) k a0 w h).mono ?_
  rintro e w' ⟨rfl, hd⟩
  exact ⟨rfl, hd⟩

end Go.Proofs.YtfbdmgdbamjjhaaDoor.P
