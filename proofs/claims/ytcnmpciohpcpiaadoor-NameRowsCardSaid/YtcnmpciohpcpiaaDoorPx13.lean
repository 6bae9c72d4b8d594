-- Printed by a program of this session (wip/patch-print.py over the kit's print): Lean checks it.
import Derived.Test.YtcnmpciohpcpiaaDoorPx0
import Derived.Test.YtcnmpciohpcpiaaDoorPx4
import Derived.Test.YtcnmpciohpcpiaaDoorPx6
import Derived.Test.YtcnmpciohpcpiaaDoorPx10
import Derived.Test.YtcnmpciohpcpiaaDoorPx12
namespace Go.Proofs.YtcnmpciohpcpiaaDoor.P
open Go.Proofs.YtcnmpciohpcpiaaDoorTabs
open Go.Proofs.YtcnmpciohpcpiaaDoorCaps
open Go.RowKit Go.Proofs.YtcnmpciohpcpiaaDoorW.PrintWords Go.Proofs.YtcnmpciohpcpiaaDoorW.PrintLast Go.Proofs.YtcnmpciohpcpiaaDoorW.PrintMore
attribute [local go_sem] max2_int min2_int max_two min_two max_three min_three max_four min_four   -- for this text's walks alone
set_option linter.unusedVariables false
set_option linter.unusedSimpArgs false

/-! ### jacquardlaw02_NameRows: function 9 -/
def jacquardlaw02_NameRows.f (k : Nat) (l0 : List Int) (a1 : Int) : Option (Bool) := (name_Row.f k l0 a1).bind fun bt469 => ((jacquardref02_Row.f k l0 a1).bind fun bt474 => ((name_Name.f k l0 a1).bind fun bt479 => ((jacquardref02_Name.f k l0 a1).bind fun bt482 => ((jacquardref00_Same.f k bt469.1 bt474.1).bind fun t485 => (if t485 = true then (if bt469.2.1 = bt474.2.1 then (if bt469.2.2 = bt474.2.2 then (if bt479.1.toList = bt482.1.toList then (if bt479.2.1 = bt482.2.1 then (if bt479.2.2 = bt482.2.2 then ((jacquardlaw02_works.f k).bind fun t486 => (some t486)) else (some false)) else (some false)) else (some false)) else (some false)) else (some false)) else (some false))))))
theorem jacquardlaw02_NameRows.mono : ∀ a0 a1 k, LeO (jacquardlaw02_NameRows.f k a0 a1) (jacquardlaw02_NameRows.f (k + 1) a0 a1) := by
  intro a0 a1 k
  unfold jacquardlaw02_NameRows.f
  repeat' first
      | (with_reducible exact jacquardlaw02_works.mono _)
      | (with_reducible exact jacquardref00_Same.mono _ _ _)
      | (with_reducible exact jacquardref02_Name.mono _ _ _)
      | (with_reducible exact jacquardref02_Row.mono _ _ _)
      | (with_reducible exact name_Name.mono _ _ _)
      | (with_reducible exact name_Row.mono _ _ _)
      | (with_reducible exact LeO.refl _)
      | (with_reducible exact LeO.none _)
      | (with_reducible refine LeO.ite ?_ ?_)
      | (with_reducible refine LeO.bind ?_ (fun _ => ?_))
      | exact jacquardlaw02_works.mono _
      | exact jacquardref00_Same.mono _ _ _
      | exact jacquardref02_Name.mono _ _ _
      | exact jacquardref02_Row.mono _ _ _
      | exact name_Name.mono _ _ _
      | exact name_Row.mono _ _ _
      | exact LeO.none _
      | refine LeO.ite ?_ ?_
      | refine LeO.bind ?_ (fun _ => ?_)
set_option maxHeartbeats 8000000 in
set_option maxRecDepth 100000 in
theorem jacquardlaw02_NameRows.calls (k : Nat) (A0 : Option Addr) (c0 : Nat) (l0 : List Int) (a1 : Int) (w : World) (hT : Go.Proofs.YtcnmpciohpcpiaaDoorTabs.Tab w) (hr0 : Kd.C (Kd.int .u8) w A0 l0.length l0) (hc0 : l0.length ≤ c0) (h : jacquardlaw02_NameRows.f k l0 a1 = some true) :
    Calls Tryd.prog 9 #[.slice A0 l0.length c0, .int .i64 a1] w fun e w' => e = .returned (.bool true) ∧ Below w.heap.size w w' := by
  have HT := Aside0.mk hT
  clear hT
  have HR0 := Aside0.mk hr0
  have HC0 := Aside0.mk hc0
  clear hr0 hc0
  have HB := Aside0.mk (Below.refl w.heap.size w)
  have H : ((name_Row.f k l0 a1).bind fun bt469 => ((jacquardref02_Row.f k l0 a1).bind fun bt474 => ((name_Name.f k l0 a1).bind fun bt479 => ((jacquardref02_Name.f k l0 a1).bind fun bt482 => ((jacquardref00_Same.f k bt469.1 bt474.1).bind fun t485 => (if t485 = true then (if bt469.2.1 = bt474.2.1 then (if bt469.2.2 = bt474.2.2 then (if bt479.1.toList = bt482.1.toList then (if bt479.2.1 = bt482.2.1 then (if bt479.2.2 = bt482.2.2 then ((jacquardlaw02_works.f k).bind fun t486 => (some t486)) else (some false)) else (some false)) else (some false)) else (some false)) else (some false)) else (some false))))))) = some true := h
  clear h
  replace H := Option.bind_eq_some_iff.mp H
  obtain ⟨⟨t469, t470, t471⟩, A30, H⟩ := H
  replace H : ((jacquardref02_Row.f k l0 a1).bind fun bt474 => ((name_Name.f k l0 a1).bind fun bt479 => ((jacquardref02_Name.f k l0 a1).bind fun bt482 => ((jacquardref00_Same.f k t469 bt474.1).bind fun t485 => (if t485 = true then (if t470 = bt474.2.1 then (if t471 = bt474.2.2 then (if bt479.1.toList = bt482.1.toList then (if bt479.2.1 = bt482.2.1 then (if bt479.2.2 = bt482.2.2 then ((jacquardlaw02_works.f k).bind fun t486 => (some t486)) else (some false)) else (some false)) else (some false)) else (some false)) else (some false)) else (some false)))))) = some true := H
  have A3 := Aside0.mk A30
  clear A30
  replace H := Option.bind_eq_some_iff.mp H
  obtain ⟨⟨t474, t475, t476⟩, A40, H⟩ := H
  replace H : ((name_Name.f k l0 a1).bind fun bt479 => ((jacquardref02_Name.f k l0 a1).bind fun bt482 => ((jacquardref00_Same.f k t469 t474).bind fun t485 => (if t485 = true then (if t470 = t475 then (if t471 = t476 then (if bt479.1.toList = bt482.1.toList then (if bt479.2.1 = bt482.2.1 then (if bt479.2.2 = bt482.2.2 then ((jacquardlaw02_works.f k).bind fun t486 => (some t486)) else (some false)) else (some false)) else (some false)) else (some false)) else (some false)) else (some false))))) = some true := H
  have A4 := Aside0.mk A40
  clear A40
  replace H := Option.bind_eq_some_iff.mp H
  obtain ⟨⟨t479, t480, t481⟩, A50, H⟩ := H
  replace H : ((jacquardref02_Name.f k l0 a1).bind fun bt482 => ((jacquardref00_Same.f k t469 t474).bind fun t485 => (if t485 = true then (if t470 = t475 then (if t471 = t476 then (if t479.toList = bt482.1.toList then (if t480 = bt482.2.1 then (if t481 = bt482.2.2 then ((jacquardlaw02_works.f k).bind fun t486 => (some t486)) else (some false)) else (some false)) else (some false)) else (some false)) else (some false)) else (some false)))) = some true := H
  have A5 := Aside0.mk A50
  clear A50
  replace H := Option.bind_eq_some_iff.mp H
  obtain ⟨⟨t482, t483, t484⟩, A60, H⟩ := H
  replace H : ((jacquardref00_Same.f k t469 t474).bind fun t485 => (if t485 = true then (if t470 = t475 then (if t471 = t476 then (if t479.toList = t482.toList then (if t480 = t483 then (if t481 = t484 then ((jacquardlaw02_works.f k).bind fun t486 => (some t486)) else (some false)) else (some false)) else (some false)) else (some false)) else (some false)) else (some false))) = some true := H
  have A6 := Aside0.mk A60
  clear A60
  replace H := Option.bind_eq_some_iff.mp H
  obtain ⟨t485, A70, H⟩ := H
  replace H : (if t485 = true then (if t470 = t475 then (if t471 = t476 then (if t479.toList = t482.toList then (if t480 = t483 then (if t481 = t484 then ((jacquardlaw02_works.f k).bind fun t486 => (some t486)) else (some false)) else (some false)) else (some false)) else (some false)) else (some false)) else (some false)) = some true := H
  have A7 := Aside0.mk A70
  clear A70
  by_cases c8 : t485 = true
  · subst c8
    have H1 : (if t470 = t475 then (if t471 = t476 then (if t479.toList = t482.toList then (if t480 = t483 then (if t481 = t484 then ((jacquardlaw02_works.f k).bind fun t486 => (some t486)) else (some false)) else (some false)) else (some false)) else (some false)) else (some false)) = some true := by rw [if_pos rfl] at H; exact H
    clear H
    have H := H1
    clear H1
    by_cases c9 : t470 = t475
    · rw [if_pos c9] at H
      have c9b0 : (t470 == t475) = true := beq_iff_eq.mpr c9
      have c9b1 : (t470 != t475) = false := bne_eq_false_iff_eq.mpr c9
      clear c9
      by_cases c10 : t471 = t476
      · rw [if_pos c10] at H
        have c10b0 : (t471 == t476) = true := beq_iff_eq.mpr c10
        have c10b1 : (t471 != t476) = false := bne_eq_false_iff_eq.mpr c10
        clear c10
        by_cases c11 : t479.toList = t482.toList
        · rw [if_pos c11] at H
          have c11b0 : (t479.toList == t482.toList) = true := beq_iff_eq.mpr c11
          have c11b1 : (t479.toList != t482.toList) = false := bne_eq_false_iff_eq.mpr c11
          clear c11
          by_cases c12 : t480 = t483
          · rw [if_pos c12] at H
            have c12b0 : (t480 == t483) = true := beq_iff_eq.mpr c12
            have c12b1 : (t480 != t483) = false := bne_eq_false_iff_eq.mpr c12
            clear c12
            by_cases c13 : t481 = t484
            · rw [if_pos c13] at H
              have c13b0 : (t481 == t484) = true := beq_iff_eq.mpr c13
              have c13b1 : (t481 != t484) = false := bne_eq_false_iff_eq.mpr c13
              clear c13
              replace H := Option.bind_eq_some_iff.mp H
              obtain ⟨t486, A140, H⟩ := H
              replace H : (some t486) = some true := H
              have A14 := Aside0.mk A140
              clear A140
              replace H := Option.some.inj H
              go_enter Tryd.func9, Tryd.ntmps9
              go_wp2_with (first | ((with_reducible refine gate_callee (f := 22) rfl ?_); refine goesL_ (some 20) rfl rfl Tryd.func22 (by kernel_rfl) rfl #[.slice A0 l0.length c0, .int .i64 a1] rfl (by (try simp only [List.map_toArray, List.map_cons, List.map_nil]); first | done | rfl | (simp only [List.length_drop, List.length_take]; rfl)) ?_; (with_reducible refine (name_Row.calls k _ _ l0 a1 t469 t470 t471 _ ?side1 ?side2 A3.out).mono ?_); (case side1 => repeat (first | exact HR0.out | (with_reducible refine Kd.C_alloc ?_ _) | (with_reducible refine Kd.C_drewN ?_ _) | (with_reducible refine Kd.C_drew ?_))); (case side2 => exact HC0.out); rintro e w15 ⟨v472, rfl, ho0, hb⟩; refine ⟨_, rfl, ?_⟩; have n0_ := Aside0.mk (Kd.R_lower ho0 (below_size (by repeat (first | (with_reducible first | exact HB.out | apply below_alloc | apply pw_below_drewN | apply below_drew1) | exact HB.out)))); have n1_ := Aside0.mk (below_step (by repeat (first | (with_reducible first | exact HB.out | apply below_alloc | apply pw_below_drewN | apply below_drew1) | exact HB.out)) hb); clear HB; have HO473 := n0_; have HB := n1_; clear n0_ n1_; (try clear hb); (try clear hb2); (try clear hk); (try clear hi); (try clear ho0)) | ((with_reducible refine gate_callee (f := 23) rfl ?_); refine goesL_ (some 27) rfl rfl Tryd.func23 (by kernel_rfl) rfl #[.slice A0 l0.length c0, .int .i64 a1] rfl (by (try simp only [List.map_toArray, List.map_cons, List.map_nil]); first | done | rfl | (simp only [List.length_drop, List.length_take]; rfl)) ?_; (with_reducible refine (jacquardref02_Row.calls k _ _ l0 a1 t474 t475 t476 _ ?side1 ?side2 A4.out).mono ?_); (case side1 => repeat (first | exact (Kd.C_below HR0.out HB.out) | (with_reducible refine Kd.C_alloc ?_ _) | (with_reducible refine Kd.C_drewN ?_ _) | (with_reducible refine Kd.C_drew ?_))); (case side2 => exact HC0.out); rintro e w16 ⟨v477, rfl, ho0, hb⟩; refine ⟨_, rfl, ?_⟩; have n0_ := Aside0.mk (Kd.R_elder' (by (with_reducible repeat (first | apply Kd.R_alloc | apply Kd.R_drewN | apply Kd.R_drew)); exact HO473.out) (Kd.R_base ho0) hb); have n1_ := Aside0.mk (Kd.R_lower (Kd.R_new' ho0 (Kd.R_lt (by (with_reducible repeat (first | apply Kd.R_alloc | apply Kd.R_drewN | apply Kd.R_drew)); exact HO473.out))) (below_size (by repeat (first | (with_reducible first | exact HB.out | apply below_alloc | apply pw_below_drewN | apply below_drew1) | exact HB.out)))); have n2_ := Aside0.mk (below_step (by repeat (first | (with_reducible first | exact HB.out | apply below_alloc | apply pw_below_drewN | apply below_drew1) | exact HB.out)) hb); clear HO473; clear HB; have HO473 := n0_; have HO478 := n1_; have HB := n2_; clear n0_ n1_ n2_; (try clear hb); (try clear hb2); (try clear hk); (try clear hi); (try clear ho0)) | ((with_reducible refine gate_callee (f := 24) rfl ?_); refine goesL_ (some 34) rfl rfl Tryd.func24 (by kernel_rfl) rfl #[.slice A0 l0.length c0, .int .i64 a1] rfl (by (try simp only [List.map_toArray, List.map_cons, List.map_nil]); first | done | rfl | (simp only [List.length_drop, List.length_take]; rfl)) ?_; (with_reducible refine (name_Name.calls (hT := by first | exact HT.out | exact Go.Proofs.YtcnmpciohpcpiaaDoorTabs.Tab.below HT.out (by repeat (first | (with_reducible first | exact HB.out | apply below_alloc | apply pw_below_drewN | apply below_drew1) | exact HB.out)) | exact Go.Proofs.YtcnmpciohpcpiaaDoorTabs.Tab.drawn HT.out (by repeat (first | exact Drawn0.refl _ | apply Drawn0.step))) k _ _ l0 a1 t479 t480 t481 _ ?side1 ?side2 A5.out).mono ?_); (case side1 => repeat (first | exact (Kd.C_below HR0.out HB.out) | (with_reducible refine Kd.C_alloc ?_ _) | (with_reducible refine Kd.C_drewN ?_ _) | (with_reducible refine Kd.C_drew ?_))); (case side2 => exact HC0.out); rintro e w17 ⟨rfl, hb⟩; refine ⟨_, rfl, ?_⟩; have n0_ := Aside0.mk (Kd.R_below (by (with_reducible repeat (first | apply Kd.R_alloc | apply Kd.R_drewN | apply Kd.R_drew)); exact HO473.out) hb); have n1_ := Aside0.mk (Kd.R_below (by (with_reducible repeat (first | apply Kd.R_alloc | apply Kd.R_drewN | apply Kd.R_drew)); exact HO478.out) hb); have n2_ := Aside0.mk (below_step (by repeat (first | (with_reducible first | exact HB.out | apply below_alloc | apply pw_below_drewN | apply below_drew1) | exact HB.out)) hb); clear HO473; clear HO478; clear HB; have HO473 := n0_; have HO478 := n1_; have HB := n2_; clear n0_ n1_ n2_; (try clear hb); (try clear hb2); (try clear hk); (try clear hi)) | ((with_reducible refine gate_callee (f := 25) rfl ?_); refine goesL_ (some 41) rfl rfl Tryd.func25 (by kernel_rfl) rfl #[.slice A0 l0.length c0, .int .i64 a1] rfl (by (try simp only [List.map_toArray, List.map_cons, List.map_nil]); first | done | rfl | (simp only [List.length_drop, List.length_take]; rfl)) ?_; (with_reducible refine (jacquardref02_Name.calls k _ _ l0 a1 t482 t483 t484 _ ?side1 ?side2 A6.out).mono ?_); (case side1 => repeat (first | exact (Kd.C_below HR0.out HB.out) | (with_reducible refine Kd.C_alloc ?_ _) | (with_reducible refine Kd.C_drewN ?_ _) | (with_reducible refine Kd.C_drew ?_))); (case side2 => exact HC0.out); rintro e w18 ⟨rfl, hb⟩; refine ⟨_, rfl, ?_⟩; have n0_ := Aside0.mk (Kd.R_below (by (with_reducible repeat (first | apply Kd.R_alloc | apply Kd.R_drewN | apply Kd.R_drew)); exact HO473.out) hb); have n1_ := Aside0.mk (Kd.R_below (by (with_reducible repeat (first | apply Kd.R_alloc | apply Kd.R_drewN | apply Kd.R_drew)); exact HO478.out) hb); have n2_ := Aside0.mk (below_step (by repeat (first | (with_reducible first | exact HB.out | apply below_alloc | apply pw_below_drewN | apply below_drew1) | exact HB.out)) hb); clear HO473; clear HO478; clear HB; have HO473 := n0_; have HO478 := n1_; have HB := n2_; clear n0_ n1_ n2_; (try clear hb); (try clear hb2); (try clear hk); (try clear hi); obtain ⟨Ao19, co19, eo19⟩ := Kd.R_slice HO473.out; subst eo19; obtain ⟨Ao20, co20, eo20⟩ := Kd.R_slice HO478.out; subst eo20) | ((with_reducible refine gate_callee (f := 19) rfl ?_); refine goesL_ (some 47) rfl rfl Tryd.func19 (by kernel_rfl) rfl #[.slice Ao19 t469.length co19, .slice Ao20 t474.length co20] rfl (by (try simp only [List.map_toArray, List.map_cons, List.map_nil]); first | done | rfl | (simp only [List.length_drop, List.length_take]; rfl)) ?_; (with_reducible refine (jacquardref00_Same.calls k _ _ t469 _ _ t474 true _ ?side1 ?side2 ?side3 ?side4 A7.out).mono ?_); (case side1 => repeat (first | exact (Kd.R_reads' HO473.out).2.2 | (with_reducible refine Kd.C_alloc ?_ _) | (with_reducible refine Kd.C_drewN ?_ _) | (with_reducible refine Kd.C_drew ?_))); (case side2 => exact (Kd.R_reads' HO473.out).2.1); (case side3 => repeat (first | exact (Kd.R_reads' HO478.out).2.2 | (with_reducible refine Kd.C_alloc ?_ _) | (with_reducible refine Kd.C_drewN ?_ _) | (with_reducible refine Kd.C_drew ?_))); (case side4 => exact (Kd.R_reads' HO478.out).2.1); rintro e w' ⟨rfl, ⟨nd, rfl⟩⟩; refine ⟨_, rfl, ?_⟩) | (go_at_call 16; (with_reducible refine (jacquardlaw02_works.calls (hT := by first | exact HT.out | exact Go.Proofs.YtcnmpciohpcpiaaDoorTabs.Tab.below HT.out (by repeat (first | (with_reducible first | exact HB.out | apply below_alloc | apply pw_below_drewN | apply below_drew1) | exact HB.out)) | exact Go.Proofs.YtcnmpciohpcpiaaDoorTabs.Tab.drawn HT.out (by repeat (first | exact Drawn0.refl _ | apply Drawn0.step))) k  t486 _ A14.out).mono ?_); rintro e w21 ⟨rfl, hb⟩; have n0_ := Aside0.mk (Kd.R_below (by (with_reducible repeat (first | apply Kd.R_alloc | apply Kd.R_drewN | apply Kd.R_drew)); exact HO473.out) hb); have n1_ := Aside0.mk (Kd.R_below (by (with_reducible repeat (first | apply Kd.R_alloc | apply Kd.R_drewN | apply Kd.R_drew)); exact HO478.out) hb); have n2_ := Aside0.mk (below_step (by repeat (first | (with_reducible first | exact HB.out | apply below_alloc | apply pw_below_drewN | apply below_drew1) | exact HB.out)) hb); clear HO473; clear HO478; clear HB; have HO473 := n0_; have HO478 := n1_; have HB := n2_; clear n0_ n1_ n2_; (try clear hb); (try clear hb2); (try clear hk); (try clear hi)))
              go_ret
              exact ⟨by first | rfl | (simp [errW_none, errW_some] <;> rfl) | (simp [*, errW_none, errW_some] <;> rfl), by repeat (first | (with_reducible first | exact HB.out | apply below_alloc | apply pw_below_drewN | apply below_drew1) | exact HB.out)⟩
            · rw [if_neg c13] at H
              have c13b0 : (t481 == t484) = false := beq_eq_false_iff_ne.mpr c13
              have c13b1 : (t481 != t484) = true := bne_iff_ne.mpr c13
              exact absurd H (by simp)
          · rw [if_neg c12] at H
            have c12b0 : (t480 == t483) = false := beq_eq_false_iff_ne.mpr c12
            have c12b1 : (t480 != t483) = true := bne_iff_ne.mpr c12
            exact absurd H (by simp)
        · rw [if_neg c11] at H
          have c11b0 : (t479.toList == t482.toList) = false := beq_eq_false_iff_ne.mpr c11
          have c11b1 : (t479.toList != t482.toList) = true := bne_iff_ne.mpr c11
          exact absurd H (by simp)
      · rw [if_neg c10] at H
        have c10b0 : (t471 == t476) = false := beq_eq_false_iff_ne.mpr c10
        have c10b1 : (t471 != t476) = true := bne_iff_ne.mpr c10
        exact absurd H (by simp)
    · rw [if_neg c9] at H
      have c9b0 : (t470 == t475) = false := beq_eq_false_iff_ne.mpr c9
      have c9b1 : (t470 != t475) = true := bne_iff_ne.mpr c9
      exact absurd H (by simp)
  · replace c8 := Bool.eq_false_iff.mpr c8
    subst c8
    have H1 : (some false) = some true := by rw [if_neg (show ¬ (false = true) by decide)] at H; exact H
    clear H
    have H := H1
    clear H1
    exact absurd H (by simp)

/-- THE ONE PURE STATEMENT of jacquardlaw02_NameRows: yours. -/
def jacquardlaw02_NameRows.Pure : Prop := ∀ (l0 : List Int) (a1 : Int), l0.length ≤ maxLen → l0.length * 1 ≤ 140737488351232 → (∀ x ∈ l0, (Lit.int .u8 x).wf = true) → (Lit.int .i64 a1).wf = true → ∃ k, jacquardlaw02_NameRows.f k l0 a1 = some true
theorem jacquardlaw02_NameRows.walk (P : jacquardlaw02_NameRows.Pure) (a0 : Option Addr) (len0 cap0 : Nat) (z0 : List Int) (a1 : Int) (w : World) (hT : Go.Proofs.YtcnmpciohpcpiaaDoorTabs.Tab w) (w0 : (a0 = none ∧ len0 = 0 ∧ cap0 = 0 ∧ z0 = []) ∨ ∃ x, a0 = some x ∧ len0 ≤ cap0 ∧ cap0 ≤ maxLen ∧ z0.length = cap0 ∧ (∀ i, i < z0.length → w.cell? (x.add i) = some (.int .u8 (z0.getD i 0))) ∧ ∀ n ∈ z0, (Lit.int .u8 n).wf = true) (y0 : len0 * 1 ≤ 140737488351232) (w1 : (Lit.int .i64 a1).wf = true) :
    Calls Tryd.prog 9 #[.slice a0 len0 cap0, .int .i64 a1] w fun e w' => e = .returned (.bool true) ∧ Below w.heap.size w w' := by
  have HT := Aside0.mk hT
  clear hT
  obtain ⟨l0, rfl, hr0, hm0, hw0, hc0⟩ := ReadsInt.ofRowC w0
  obtain ⟨k, h⟩ := P l0 a1 hm0 y0 hw0 w1
  refine (jacquardlaw02_NameRows.calls (hT := by first | exact HT.out | exact Go.Proofs.YtcnmpciohpcpiaaDoorTabs.Tab.below HT.out (by repeat (first | (with_reducible first | exact HB.out | apply below_alloc | apply pw_below_drewN | apply below_drew1) | exact HB.out)) | exact Go.Proofs.YtcnmpciohpcpiaaDoorTabs.Tab.drawn HT.out (by repeat (first | exact Drawn0.refl _ | apply Drawn0.step))) k _ _ l0 a1 w (Kd.C_of_reads (d := (0 : Int)) (h1 := fun _ => rfl) hr0) hc0 h).mono ?_
  rintro e w' ⟨rfl, hd⟩
  exact ⟨rfl, hd⟩

end Go.Proofs.YtcnmpciohpcpiaaDoor.P
