-- Printed by a program of this session (wip/patch-print.py over the kit's print): Lean checks it.
import Derived.Test.YtfbdmgdbamjjhaaDoorPx0
import Derived.Test.YtfbdmgdbamjjhaaDoorPx4
import Derived.Test.YtfbdmgdbamjjhaaDoorPx11
import Derived.Test.YtfbdmgdbamjjhaaDoorGAll
namespace Go.Proofs.YtfbdmgdbamjjhaaDoor.P
open Go.Proofs.YtfbdmgdbamjjhaaDoorTabs
open Go.Proofs.YtfbdmgdbamjjhaaDoorCaps
open Go.RowKit Go.Proofs.YtfbdmgdbamjjhaaDoorW.PrintWords Go.Proofs.YtfbdmgdbamjjhaaDoorW.PrintLast Go.Proofs.YtfbdmgdbamjjhaaDoorW.PrintMore
attribute [local go_sem] max2_int min2_int max_two min_two max_three min_three max_four min_four   -- for this text's walks alone
set_option linter.unusedVariables false
set_option linter.unusedSimpArgs false

/-! ### jacquardlaw10_OpsAll: function 7 -/
def jacquardlaw10_OpsAll.l0 : Nat → Int → List Int → Bool → Int → Option (Bool)
  | 0, _, _, _, _ => none
  | k + 1, x0, x3, x4, x5 => if x5 < (x3.length : Int) then (if x5 > 0 then (if 0 ≤ (wrap64 (x5 - 1)) then (if (wrap64 (x5 - 1)) < (x3.length : Int) then (if 0 ≤ x5 then (if (rd x3 (wrap64 (x5 - 1))) ≥ (rd x3 x5) then (some false) else (if x4 = true then (jacquardlaw10_OpsAll.l0 k x0 x3 true (wrap64 (x5 + 1))) else (jacquardlaw10_OpsAll.l0 k x0 x3 ((rd x3 x5) == x0) (wrap64 (x5 + 1))))) else (none)) else (none)) else (none)) else (if x4 = true then (jacquardlaw10_OpsAll.l0 k x0 x3 true (wrap64 (x5 + 1))) else (if 0 ≤ x5 then (jacquardlaw10_OpsAll.l0 k x0 x3 ((rd x3 x5) == x0) (wrap64 (x5 + 1))) else (none)))) else ((ops_Of.f k x0).bind fun bt875 => (if (x3.length : Int) = 435 then (if (x4 == (bt875.2.2.2.2.2.2.2 == 0)) = true then ((jacquardlaw10_works.f k).bind fun t888 => (some t888)) else (some false)) else (some false)))
def jacquardlaw10_OpsAll.f (k : Nat) (a0 : Int) : Option (Bool) := (ops_All.f k).bind fun t868 => (jacquardlaw10_OpsAll.l0 k a0 t868 false 0)
theorem jacquardlaw10_OpsAll.mono_l : ∀ k, (∀ y0 y1 y2 y3, LeO (jacquardlaw10_OpsAll.l0 k y0 y1 y2 y3) (jacquardlaw10_OpsAll.l0 (k + 1) y0 y1 y2 y3))
  | 0 => fun _ _ _ _ r h => by simp [jacquardlaw10_OpsAll.l0] at h
  | k + 1 => by
    have ih0 := jacquardlaw10_OpsAll.mono_l k
    · intro y0 y1 y2 y3
      unfold jacquardlaw10_OpsAll.l0
      repeat' first
      | (with_reducible exact ih0 _ _ _ _)
      | (with_reducible exact jacquardlaw10_works.mono _)
      | (with_reducible exact ops_All.mono _)
      | (with_reducible exact ops_Of.mono _ _)
      | (with_reducible exact LeO.refl _)
      | (with_reducible exact LeO.none _)
      | (with_reducible refine LeO.ite ?_ ?_)
      | (with_reducible refine LeO.bind ?_ (fun _ => ?_))
      | exact ih0 _ _ _ _
      | exact jacquardlaw10_works.mono _
      | exact ops_All.mono _
      | exact ops_Of.mono _ _
      | exact LeO.none _
      | refine LeO.ite ?_ ?_
      | refine LeO.bind ?_ (fun _ => ?_)
theorem jacquardlaw10_OpsAll.mono : ∀ a0 k, LeO (jacquardlaw10_OpsAll.f k a0) (jacquardlaw10_OpsAll.f (k + 1) a0) := by
  intro a0 k
  have ih0 := jacquardlaw10_OpsAll.mono_l k
  unfold jacquardlaw10_OpsAll.f
  repeat' first
      | (with_reducible exact ih0 _ _ _ _)
      | (with_reducible exact jacquardlaw10_works.mono _)
      | (with_reducible exact ops_All.mono _)
      | (with_reducible exact ops_Of.mono _ _)
      | (with_reducible exact LeO.refl _)
      | (with_reducible exact LeO.none _)
      | (with_reducible refine LeO.ite ?_ ?_)
      | (with_reducible refine LeO.bind ?_ (fun _ => ?_))
      | exact ih0 _ _ _ _
      | exact jacquardlaw10_works.mono _
      | exact ops_All.mono _
      | exact ops_Of.mono _ _
      | exact LeO.none _
      | refine LeO.ite ?_ ?_
      | refine LeO.bind ?_ (fun _ => ?_)
set_option maxHeartbeats 8000000 in
set_option maxRecDepth 100000 in
theorem jacquardlaw10_OpsAll.calls (k : Nat) (a0 : Int) (w : World) (hT : Go.Proofs.YtfbdmgdbamjjhaaDoorTabs.Tab w) (h : jacquardlaw10_OpsAll.f k a0 = some true) :
    Calls Tryd.prog 7 #[.int .u16 a0] w fun e w' => e = .returned (.bool true) ∧ Below w.heap.size w w' := by
  have HT := Aside0.mk hT
  clear hT
  have hu27 := Tryd.underlying27
  have HB := Aside0.mk (Below.refl w.heap.size w)
  have H : ((ops_All.f k).bind fun t868 => (jacquardlaw10_OpsAll.l0 k a0 t868 false 0)) = some true := h
  clear h
  replace H := Option.bind_eq_some_iff.mp H
  obtain ⟨t868, A20, H⟩ := H
  replace H : (jacquardlaw10_OpsAll.l0 k a0 t868 false 0) = some true := H
  have A2 := Aside0.mk A20
  clear A20
  have H' := Aside0.mk H
  clear H
  go_enter Tryd.func7, Tryd.ntmps7
  go_wp2_with (first | (go_at_call 15; (with_reducible refine (ops_All.calls (hT := by first | exact HT.out | exact Go.Proofs.YtfbdmgdbamjjhaaDoorTabs.Tab.below HT.out (by repeat (first | (with_reducible first | exact HB.out | apply below_alloc | apply pw_below_drewN | apply below_drew1 | refine below_set ?_ (Aside0.out (by assumption))) | exact HB.out)) | exact Go.Proofs.YtfbdmgdbamjjhaaDoorTabs.Tab.drawn HT.out (by repeat (first | exact Drawn0.refl _ | apply Drawn0.step))) k  t868 _ A2.out).mono ?_); rintro e w3 ⟨v869, rfl, ho0, hb⟩; have n0_ := Aside0.mk (Kd.R_lower ho0 (below_size (by repeat (first | (with_reducible first | exact HB.out | apply below_alloc | apply pw_below_drewN | apply below_drew1) | exact HB.out)))); have n1_ := Aside0.mk (below_step (by repeat (first | (with_reducible first | exact HB.out | apply below_alloc | apply pw_below_drewN | apply below_drew1) | exact HB.out)) hb); clear HB; have HO870 := n0_; have HB := n1_; clear n0_ n1_; (try clear hb); (try clear hb2); (try clear hk); (try clear hi); (try clear ho0)))
  repeat (go_quiet (first | (go_at_call 15; (with_reducible refine (ops_All.calls (hT := by first | exact HT.out | exact Go.Proofs.YtfbdmgdbamjjhaaDoorTabs.Tab.below HT.out (by repeat (first | (with_reducible first | exact HB.out | apply below_alloc | apply pw_below_drewN | apply below_drew1 | refine below_set ?_ (Aside0.out (by assumption))) | exact HB.out)) | exact Go.Proofs.YtfbdmgdbamjjhaaDoorTabs.Tab.drawn HT.out (by repeat (first | exact Drawn0.refl _ | apply Drawn0.step))) k  t868 _ A2.out).mono ?_); rintro e w3 ⟨v869, rfl, ho0, hb⟩; have n0_ := Aside0.mk (Kd.R_lower ho0 (below_size (by repeat (first | (with_reducible first | exact HB.out | apply below_alloc | apply pw_below_drewN | apply below_drew1) | exact HB.out)))); have n1_ := Aside0.mk (below_step (by repeat (first | (with_reducible first | exact HB.out | apply below_alloc | apply pw_below_drewN | apply below_drew1) | exact HB.out)) hb); clear HB; have HO870 := n0_; have HB := n1_; clear n0_ n1_; (try clear hb); (try clear hb2); (try clear hk); (try clear hi); (try clear ho0))); try go_wp2_with (first | (go_at_call 15; (with_reducible refine (ops_All.calls (hT := by first | exact HT.out | exact Go.Proofs.YtfbdmgdbamjjhaaDoorTabs.Tab.below HT.out (by repeat (first | (with_reducible first | exact HB.out | apply below_alloc | apply pw_below_drewN | apply below_drew1 | refine below_set ?_ (Aside0.out (by assumption))) | exact HB.out)) | exact Go.Proofs.YtfbdmgdbamjjhaaDoorTabs.Tab.drawn HT.out (by repeat (first | exact Drawn0.refl _ | apply Drawn0.step))) k  t868 _ A2.out).mono ?_); rintro e w3 ⟨v869, rfl, ho0, hb⟩; have n0_ := Aside0.mk (Kd.R_lower ho0 (below_size (by repeat (first | (with_reducible first | exact HB.out | apply below_alloc | apply pw_below_drewN | apply below_drew1) | exact HB.out)))); have n1_ := Aside0.mk (below_step (by repeat (first | (with_reducible first | exact HB.out | apply below_alloc | apply pw_below_drewN | apply below_drew1) | exact HB.out)) hb); clear HB; have HO870 := n0_; have HB := n1_; clear n0_ n1_; (try clear hb); (try clear hb2); (try clear hk); (try clear hi); (try clear ho0))))
  go_loopg [4, 5] k (fun kq v4 v5 w' => ∃ (x4_1 : Bool) (x5_1 : Int), v4 = .bool x4_1 ∧ v5 = .int .i64 x5_1 ∧ Aside0 (jacquardlaw10_OpsAll.l0 kq a0 t868 x4_1 x5_1 = some true) ∧ Aside0 (kq ≤ k) ∧ Aside0 (Kd.R (Kd.int .u16) 23 w' w.heap.size (fun _ => True) v869 t868) ∧ Aside0 (Below w.heap.size w w'))
  case atStart => exact ⟨(false), (0), (by first | rfl | (simp; done) | (simp [*]; done)), (by first | rfl | (simp; done) | (simp [*]; done)), H', ⟨Nat.le_refl _⟩, ⟨by (with_reducible repeat (first | apply Kd.R_alloc | apply Kd.R_drewN | apply Kd.R_drew)); exact HO870.out⟩, ⟨by repeat (first | (with_reducible first | exact HB.out | apply below_alloc | apply pw_below_drewN | apply below_drew1) | exact HB.out)⟩⟩
  case round =>
    clear H'
    try clear p2
    obtain ⟨x4_1, x5_1, rfl, rfl, HA, HK1, HO_3, HB⟩ := hrel
    cases gk with
    | zero => exact absurd HA.out (by simp [jacquardlaw10_OpsAll.l0])
    | succ k1 =>
      have H := HA.out
      clear HA
      simp only [jacquardlaw10_OpsAll.l0] at H
      by_cases c4 : x5_1 < (t868.length : Int)
      · rw [if_pos c4] at H
        have c4b0 : decide (x5_1 < (t868.length : Int)) = true := decide_eq_true c4
        clear c4
        by_cases c5 : x5_1 > 0
        · rw [if_pos c5] at H
          have c5b0 : decide (0 < x5_1) = true := decide_eq_true c5
          clear c5
          obtain ⟨ji6, hji6⟩ : ∃ j_ : Int, (wrap64 (x5_1 - 1)) = j_ := ⟨_, rfl⟩
          replace H : (if 0 ≤ (ji6) then (if (ji6) < (t868.length : Int) then (if 0 ≤ x5_1 then (if (rd t868 (ji6)) ≥ (rd t868 x5_1) then (some false) else (if x4_1 = true then (jacquardlaw10_OpsAll.l0 k1 a0 t868 true (wrap64 (x5_1 + 1))) else (jacquardlaw10_OpsAll.l0 k1 a0 t868 ((rd t868 x5_1) == a0) (wrap64 (x5_1 + 1))))) else (none)) else (none)) else (none)) = some true := by first | (rw [hji6] at H; exact H) | (simp only [hji6] at H ⊢; exact H)
          have hji6w : (IntKind.i64.wrap (x5_1 - 1)) = ji6 := (i64_w _).trans hji6
          by_cases c7 : 0 ≤ (ji6)
          · rw [if_pos c7] at H
            have c7b0 : decide (0 ≤ (ji6)) = true := decide_eq_true c7
            clear c7
            by_cases c8 : (ji6) < (t868.length : Int)
            · rw [if_pos c8] at H
              have c8b0 : decide ((ji6) < (t868.length : Int)) = true := decide_eq_true c8
              clear c8
              by_cases c9 : 0 ≤ x5_1
              · rw [if_pos c9] at H
                have c9b0 : decide (0 ≤ x5_1) = true := decide_eq_true c9
                clear c9
                by_cases c10 : (rd t868 (ji6)) ≥ (rd t868 x5_1)
                · rw [if_pos c10] at H
                  have c10b0 : decide ((rd t868 x5_1) ≤ (rd t868 (ji6))) = true := decide_eq_true c10
                  clear c10
                  exact absurd H (by simp)
                · rw [if_neg c10] at H
                  have c10b0 : decide ((rd t868 x5_1) ≤ (rd t868 (ji6))) = false := decide_eq_false c10
                  clear c10
                  by_cases c11 : x4_1 = true
                  · subst c11
                    have H1 : (jacquardlaw10_OpsAll.l0 k1 a0 t868 true (wrap64 (x5_1 + 1))) = some true := by rw [if_pos rfl] at H; exact H
                    clear H
                    have H := H1
                    clear H1
                    have H' := Aside0.mk H
                    clear H
                    obtain ⟨Ao12, co12, eo12⟩ := Kd.R_slice HO_3.out
                    subst eo12
                    have p871 : 0 ≤ ((ji6) : Int) := of_decide_eq_true (by first | (with_reducible assumption) | assumption)
                    have q871 : (ji6) < (t868.length : Int) := of_decide_eq_true (by first | (with_reducible assumption) | assumption)
                    obtain ⟨ad871, e871, hx871_0⟩ := Kd.at_int (Kd.R_reads' HO_3.out).2.2 (ji6) p871 q871
                    cases e871
                    replace p871 := eq_true p871
                    replace q871 := eq_true q871
                    have p872 : 0 ≤ (x5_1 : Int) := of_decide_eq_true (by first | (with_reducible assumption) | assumption)
                    have q872 : x5_1 < (t868.length : Int) := of_decide_eq_true (by first | (with_reducible assumption) | assumption)
                    obtain ⟨ad872, e872, hx872_0⟩ := Kd.at_int (Kd.R_reads' HO_3.out).2.2 x5_1 p872 q872
                    obtain rfl : ad871 = ad872 := (by injection e872)
                    replace p872 := eq_true p872
                    replace q872 := eq_true q872
                    go_wp2
                    repeat (go_quiet (fail); try go_wp2)
                    go_roundg k1
                    case measure => have := HK1.out; omega
                    case rel => exact ⟨(true), (wrap64 (x5_1 + 1)), (by first | rfl | (simp; done) | (simp [*]; done)), (by first | rfl | (simp; done) | (simp [*]; done)), H', ⟨by have := HK1.out; omega⟩, ⟨by (with_reducible repeat (first | apply Kd.R_alloc | apply Kd.R_drewN | apply Kd.R_drew)); exact HO_3.out⟩, ⟨by repeat (first | (with_reducible first | exact HB.out | apply below_alloc | apply pw_below_drewN | apply below_drew1) | exact HB.out)⟩⟩
                  · replace c11 := Bool.eq_false_iff.mpr c11
                    subst c11
                    have H1 : (jacquardlaw10_OpsAll.l0 k1 a0 t868 ((rd t868 x5_1) == a0) (wrap64 (x5_1 + 1))) = some true := by rw [if_neg (show ¬ (false = true) by decide)] at H; exact H
                    clear H
                    have H := H1
                    clear H1
                    have H' := Aside0.mk H
                    clear H
                    obtain ⟨Ao13, co13, eo13⟩ := Kd.R_slice HO_3.out
                    subst eo13
                    have p871 : 0 ≤ ((ji6) : Int) := of_decide_eq_true (by first | (with_reducible assumption) | assumption)
                    have q871 : (ji6) < (t868.length : Int) := of_decide_eq_true (by first | (with_reducible assumption) | assumption)
                    obtain ⟨ad871, e871, hx871_0⟩ := Kd.at_int (Kd.R_reads' HO_3.out).2.2 (ji6) p871 q871
                    cases e871
                    replace p871 := eq_true p871
                    replace q871 := eq_true q871
                    have p872 : 0 ≤ (x5_1 : Int) := of_decide_eq_true (by first | (with_reducible assumption) | assumption)
                    have q872 : x5_1 < (t868.length : Int) := of_decide_eq_true (by first | (with_reducible assumption) | assumption)
                    obtain ⟨ad872, e872, hx872_0⟩ := Kd.at_int (Kd.R_reads' HO_3.out).2.2 x5_1 p872 q872
                    obtain rfl : ad871 = ad872 := (by injection e872)
                    replace p872 := eq_true p872
                    replace q872 := eq_true q872
                    have p873 : 0 ≤ (x5_1 : Int) := of_decide_eq_true (by first | (with_reducible assumption) | assumption)
                    have q873 : x5_1 < (t868.length : Int) := of_decide_eq_true (by first | (with_reducible assumption) | assumption)
                    obtain ⟨ad873, e873, hx873_0⟩ := Kd.at_int (Kd.R_reads' HO_3.out).2.2 x5_1 p873 q873
                    obtain rfl : ad871 = ad873 := (by injection e873)
                    replace p873 := eq_true p873
                    replace q873 := eq_true q873
                    go_wp2
                    repeat (go_quiet (fail); try go_wp2)
                    go_roundg k1
                    case measure => have := HK1.out; omega
                    case rel => exact ⟨(((rd t868 x5_1) == a0)), (wrap64 (x5_1 + 1)), (by first | rfl | (simp; done) | (simp [*]; done)), (by first | rfl | (simp; done) | (simp [*]; done)), H', ⟨by have := HK1.out; omega⟩, ⟨by (with_reducible repeat (first | apply Kd.R_alloc | apply Kd.R_drewN | apply Kd.R_drew)); exact HO_3.out⟩, ⟨by repeat (first | (with_reducible first | exact HB.out | apply below_alloc | apply pw_below_drewN | apply below_drew1) | exact HB.out)⟩⟩
              · rw [if_neg c9] at H
                exact absurd H (by simp)
            · rw [if_neg c8] at H
              exact absurd H (by simp)
          · rw [if_neg c7] at H
            exact absurd H (by simp)
        · rw [if_neg c5] at H
          have c5b0 : decide (0 < x5_1) = false := decide_eq_false c5
          clear c5
          by_cases c14 : x4_1 = true
          · subst c14
            have H1 : (jacquardlaw10_OpsAll.l0 k1 a0 t868 true (wrap64 (x5_1 + 1))) = some true := by rw [if_pos rfl] at H; exact H
            clear H
            have H := H1
            clear H1
            have H' := Aside0.mk H
            clear H
            obtain ⟨Ao15, co15, eo15⟩ := Kd.R_slice HO_3.out
            subst eo15
            go_wp2
            repeat (go_quiet (fail); try go_wp2)
            go_roundg k1
            case measure => have := HK1.out; omega
            case rel => exact ⟨(true), (wrap64 (x5_1 + 1)), (by first | rfl | (simp; done) | (simp [*]; done)), (by first | rfl | (simp; done) | (simp [*]; done)), H', ⟨by have := HK1.out; omega⟩, ⟨by (with_reducible repeat (first | apply Kd.R_alloc | apply Kd.R_drewN | apply Kd.R_drew)); exact HO_3.out⟩, ⟨by repeat (first | (with_reducible first | exact HB.out | apply below_alloc | apply pw_below_drewN | apply below_drew1) | exact HB.out)⟩⟩
          · replace c14 := Bool.eq_false_iff.mpr c14
            subst c14
            have H1 : (if 0 ≤ x5_1 then (jacquardlaw10_OpsAll.l0 k1 a0 t868 ((rd t868 x5_1) == a0) (wrap64 (x5_1 + 1))) else (none)) = some true := by rw [if_neg (show ¬ (false = true) by decide)] at H; exact H
            clear H
            have H := H1
            clear H1
            by_cases c16 : 0 ≤ x5_1
            · rw [if_pos c16] at H
              have c16b0 : decide (0 ≤ x5_1) = true := decide_eq_true c16
              clear c16
              have H' := Aside0.mk H
              clear H
              obtain ⟨Ao17, co17, eo17⟩ := Kd.R_slice HO_3.out
              subst eo17
              have p874 : 0 ≤ (x5_1 : Int) := of_decide_eq_true (by first | (with_reducible assumption) | assumption)
              have q874 : x5_1 < (t868.length : Int) := of_decide_eq_true (by first | (with_reducible assumption) | assumption)
              obtain ⟨ad874, e874, hx874_0⟩ := Kd.at_int (Kd.R_reads' HO_3.out).2.2 x5_1 p874 q874
              cases e874
              replace p874 := eq_true p874
              replace q874 := eq_true q874
              go_wp2
              repeat (go_quiet (fail); try go_wp2)
              go_roundg k1
              case measure => have := HK1.out; omega
              case rel => exact ⟨(((rd t868 x5_1) == a0)), (wrap64 (x5_1 + 1)), (by first | rfl | (simp; done) | (simp [*]; done)), (by first | rfl | (simp; done) | (simp [*]; done)), H', ⟨by have := HK1.out; omega⟩, ⟨by (with_reducible repeat (first | apply Kd.R_alloc | apply Kd.R_drewN | apply Kd.R_drew)); exact HO_3.out⟩, ⟨by repeat (first | (with_reducible first | exact HB.out | apply below_alloc | apply pw_below_drewN | apply below_drew1) | exact HB.out)⟩⟩
            · rw [if_neg c16] at H
              exact absurd H (by simp)
      · rw [if_neg c4] at H
        have c4b0 : decide (x5_1 < (t868.length : Int)) = false := decide_eq_false c4
        clear c4
        replace H := Option.bind_eq_some_iff.mp H
        obtain ⟨⟨t875, t876, t877, t878, t881, t884, t885, t886⟩, A180, H⟩ := H
        replace H : (if (t868.length : Int) = 435 then (if (x4_1 == (t886 == 0)) = true then ((jacquardlaw10_works.f k1).bind fun t888 => (some t888)) else (some false)) else (some false)) = some true := H
        have A18 := Aside0.mk A180
        clear A180
        by_cases c19 : (t868.length : Int) = 435
        · rw [if_pos c19] at H
          have c19b0 : ((t868.length : Int) == 435) = true := beq_iff_eq.mpr c19
          have c19b1 : ((t868.length : Int) != 435) = false := bne_eq_false_iff_eq.mpr c19
          clear c19
          by_cases c20 : (x4_1 == (t886 == 0)) = true
          · rw [if_pos c20] at H
            have c20b0 : (x4_1 == (t886 == 0)) = true := c20
            (try (have c20b1 : decide (x4_1 = (t886 == 0)) = true := by simpa using c20))
            (try (have c20b2 : (x4_1 == (t886 == 0)) = true := by simpa using c20))
            clear c20
            replace H := Option.bind_eq_some_iff.mp H
            obtain ⟨t888, A210, H⟩ := H
            replace H : (some t888) = some true := H
            have A21 := Aside0.mk A210
            clear A210
            replace H := Option.some.inj H
            obtain ⟨Ao22, co22, eo22⟩ := Kd.R_slice HO_3.out
            subst eo22
            go_wp2_with (first | (go_at_call 11; (with_reducible refine (ops_Of.calls (hT := by first | exact HT.out | exact Go.Proofs.YtfbdmgdbamjjhaaDoorTabs.Tab.below HT.out (by repeat (first | (with_reducible first | exact HB.out | apply below_alloc | apply pw_below_drewN | apply below_drew1 | refine below_set ?_ (Aside0.out (by assumption))) | exact HB.out)) | exact Go.Proofs.YtfbdmgdbamjjhaaDoorTabs.Tab.drawn HT.out (by repeat (first | exact Drawn0.refl _ | apply Drawn0.step))) k1 a0 t875 t876 t877 t878 t881 t884 t885 t886 _ A18.out).mono ?_); rintro e w23 ⟨v879, v882, rfl, ho0, ho1, hb⟩; have n0_ := Aside0.mk (Kd.R_below (by (with_reducible repeat (first | apply Kd.R_alloc | apply Kd.R_drewN | apply Kd.R_drew)); exact HO_3.out) hb); have n1_ := Aside0.mk (Kd.R_lower ho0 (below_size (by repeat (first | (with_reducible first | exact HB.out | apply below_alloc | apply pw_below_drewN | apply below_drew1) | exact HB.out)))); have n2_ := Aside0.mk (Kd.R_lower ho1 (below_size (by repeat (first | (with_reducible first | exact HB.out | apply below_alloc | apply pw_below_drewN | apply below_drew1) | exact HB.out)))); have n3_ := Aside0.mk (below_step (by repeat (first | (with_reducible first | exact HB.out | apply below_alloc | apply pw_below_drewN | apply below_drew1) | exact HB.out)) hb); clear HO_3; clear HB; have HO_3 := n0_; have HO880 := n1_; have HO883 := n2_; have HB := n3_; clear n0_ n1_ n2_ n3_; (try clear hb); (try clear hb2); (try clear hk); (try clear hi); (try clear ho0); (try clear ho1)) | ((with_reducible refine gate_dst (N := 6) rfl ?_); refine box_event ?hg (N := 6) ?hd (cs := #[.int .u16 0, .string (⟨#[]⟩ : ByteArray), .int .u8 0, .slice none 0 0, .slice none 0 0, .int .i64 0, .bool false]) (t := 27) ?hr ?_; (case hd => rfl); (case hg => rfl); (case hr => first | (go_simp; done) | (go_simp; rfl)); intro gb887 hg w24 hbox hb; have n0_ := Aside0.mk (Kd.R_below (by (with_reducible repeat (first | apply Kd.R_alloc | apply Kd.R_drewN | apply Kd.R_drew)); exact HO_3.out) hb); have n1_ := Aside0.mk (Kd.R_below (by (with_reducible repeat (first | apply Kd.R_alloc | apply Kd.R_drewN | apply Kd.R_drew)); exact HO880.out) hb); have n2_ := Aside0.mk (Kd.R_below (by (with_reducible repeat (first | apply Kd.R_alloc | apply Kd.R_drewN | apply Kd.R_drew)); exact HO883.out) hb); have n3_ := Aside0.mk (below_step (by repeat (first | (with_reducible first | exact HB.out | apply below_alloc | apply pw_below_drewN | apply below_drew1) | exact HB.out)) hb); have n4_ := Aside0.mk (hbox); have n5_ := Aside0.mk ((by rw [hg]; exact (below_size (by repeat (first | (with_reducible first | exact HB.out | apply below_alloc | apply pw_below_drewN | apply below_drew1) | exact HB.out))) : w.heap.size ≤ gb887)); have n6_ := Aside0.mk ((by rw [hg]; exact (below_size (by repeat (first | (with_reducible first | exact HB.out | apply below_alloc | apply pw_below_drewN | apply below_drew1) | exact HB.out))) : w.heap.size ≤ gb887)); clear HO_3; clear HO880; clear HO883; clear HB; have HO_3 := n0_; have HO880 := n1_; have HO883 := n2_; have HB := n3_; have BK887 := n4_; have GW887 := n5_; have GE887 := n6_; clear n0_ n1_ n2_ n3_ n4_ n5_ n6_; clear hb hbox hg; have hcz25_0 : w24.cell? ⟨gb887, 0, none⟩ = some (.int .u16 0) := (blk_cell BK887.out 0).trans rfl; have hcz25_1 : w24.cell? ⟨gb887, 1, none⟩ = some (.string (⟨#[]⟩ : ByteArray)) := (blk_cell BK887.out 1).trans rfl; have hcz25_2 : w24.cell? ⟨gb887, 2, none⟩ = some (.int .u8 0) := (blk_cell BK887.out 2).trans rfl; have hcz25_3 : w24.cell? ⟨gb887, 3, none⟩ = some (.slice none 0 0) := (blk_cell BK887.out 3).trans rfl; have hcz25_4 : w24.cell? ⟨gb887, 4, none⟩ = some (.slice none 0 0) := (blk_cell BK887.out 4).trans rfl; have hcz25_5 : w24.cell? ⟨gb887, 5, none⟩ = some (.int .i64 0) := (blk_cell BK887.out 5).trans rfl; have hcz25_6 : w24.cell? ⟨gb887, 6, none⟩ = some (.bool false) := (blk_cell BK887.out 6).trans rfl; have hfz25_0 := blk_frozen BK887.out 0; have hfz25_1 := blk_frozen BK887.out 1; have hfz25_2 := blk_frozen BK887.out 2; have hfz25_3 := blk_frozen BK887.out 3; have hfz25_4 := blk_frozen BK887.out 4; have hfz25_5 := blk_frozen BK887.out 5; have hfz25_6 := blk_frozen BK887.out 6; obtain ⟨Ao26, co26, eo26⟩ := Kd.R_slice HO880.out; subst eo26; obtain ⟨Ao27, co27, eo27⟩ := Kd.R_slice HO883.out; subst eo27) | (go_at_call 14; (with_reducible refine (jacquardlaw10_works.calls (hT := by first | exact HT.out | exact Go.Proofs.YtfbdmgdbamjjhaaDoorTabs.Tab.below HT.out (by repeat (first | (with_reducible first | exact HB.out | apply below_alloc | apply pw_below_drewN | apply below_drew1 | refine below_set ?_ (Aside0.out (by assumption))) | exact HB.out)) | exact Go.Proofs.YtfbdmgdbamjjhaaDoorTabs.Tab.drawn HT.out (by repeat (first | exact Drawn0.refl _ | apply Drawn0.step))) k1  t888 _ A21.out).mono ?_); rintro e w28 ⟨rfl, hb⟩; have n0_ := Aside0.mk (Kd.R_below (by (with_reducible repeat (first | apply Kd.R_alloc | apply Kd.R_drewN | apply Kd.R_drew)); exact (Kd.R_mono (Kd.R_far (p := ⟨gb887, 6, none⟩) (Kd.R_far (p := ⟨gb887, 5, none⟩) (Kd.R_far (p := ⟨gb887, 4, none⟩) (Kd.R_far (p := ⟨gb887, 3, none⟩) (Kd.R_far (p := ⟨gb887, 2, none⟩) (Kd.R_far (p := ⟨gb887, 1, none⟩) (Kd.R_far (p := ⟨gb887, 0, none⟩) (Kd.R_types HO_3.out BK887.out (by decide)) (fun _ hk => hk.2) (.int .u16 t875)) (fun _ hk => hk.2) (.string t876)) (fun _ hk => hk.2) (.int .u8 t877)) (fun _ hk => hk.2) (.slice Ao26 t878.length co26)) (fun _ hk => hk.2) (.slice Ao27 t881.length co27)) (fun _ hk => hk.2) (.int .i64 t884)) (fun _ hk => hk.2) (.bool t885)) (fun _ h_ => h_.1))) hb); have n1_ := Aside0.mk (Kd.R_below (by (with_reducible repeat (first | apply Kd.R_alloc | apply Kd.R_drewN | apply Kd.R_drew)); exact (Kd.R_mono (Kd.R_far (p := ⟨gb887, 6, none⟩) (Kd.R_far (p := ⟨gb887, 5, none⟩) (Kd.R_far (p := ⟨gb887, 4, none⟩) (Kd.R_far (p := ⟨gb887, 3, none⟩) (Kd.R_far (p := ⟨gb887, 2, none⟩) (Kd.R_far (p := ⟨gb887, 1, none⟩) (Kd.R_far (p := ⟨gb887, 0, none⟩) (Kd.R_types HO880.out BK887.out (by decide)) (fun _ hk => hk.2) (.int .u16 t875)) (fun _ hk => hk.2) (.string t876)) (fun _ hk => hk.2) (.int .u8 t877)) (fun _ hk => hk.2) (.slice Ao26 t878.length co26)) (fun _ hk => hk.2) (.slice Ao27 t881.length co27)) (fun _ hk => hk.2) (.int .i64 t884)) (fun _ hk => hk.2) (.bool t885)) (fun _ h_ => h_.1))) hb); have n2_ := Aside0.mk (Kd.R_below (by (with_reducible repeat (first | apply Kd.R_alloc | apply Kd.R_drewN | apply Kd.R_drew)); exact (Kd.R_mono (Kd.R_far (p := ⟨gb887, 6, none⟩) (Kd.R_far (p := ⟨gb887, 5, none⟩) (Kd.R_far (p := ⟨gb887, 4, none⟩) (Kd.R_far (p := ⟨gb887, 3, none⟩) (Kd.R_far (p := ⟨gb887, 2, none⟩) (Kd.R_far (p := ⟨gb887, 1, none⟩) (Kd.R_far (p := ⟨gb887, 0, none⟩) (Kd.R_types HO883.out BK887.out (by decide)) (fun _ hk => hk.2) (.int .u16 t875)) (fun _ hk => hk.2) (.string t876)) (fun _ hk => hk.2) (.int .u8 t877)) (fun _ hk => hk.2) (.slice Ao26 t878.length co26)) (fun _ hk => hk.2) (.slice Ao27 t881.length co27)) (fun _ hk => hk.2) (.int .i64 t884)) (fun _ hk => hk.2) (.bool t885)) (fun _ h_ => h_.1))) hb); have n3_ := Aside0.mk (blk_below (g := gb887) (o := .cells #[.int .u16 t875, .string t876, .int .u8 t877, .slice Ao26 t878.length co26, .slice Ao27 t881.length co27, .int .i64 t884, .bool t885] 27 (0, 0)) (by (with_reducible repeat (first | refine blk_drewN ?_ _ | refine blk_drew ?_ | refine blk_alloc ?_ _)); refine blk_put (cs := #[.int .u16 t875, .string t876, .int .u8 t877, .slice Ao26 t878.length co26, .slice Ao27 t881.length co27, .int .i64 t884, .bool false]) ?_ 6 _ rfl; (with_reducible repeat (first | refine blk_drewN ?_ _ | refine blk_drew ?_ | refine blk_alloc ?_ _)); refine blk_put (cs := #[.int .u16 t875, .string t876, .int .u8 t877, .slice Ao26 t878.length co26, .slice Ao27 t881.length co27, .int .i64 0, .bool false]) ?_ 5 _ rfl; (with_reducible repeat (first | refine blk_drewN ?_ _ | refine blk_drew ?_ | refine blk_alloc ?_ _)); refine blk_put (cs := #[.int .u16 t875, .string t876, .int .u8 t877, .slice Ao26 t878.length co26, .slice none 0 0, .int .i64 0, .bool false]) ?_ 4 _ rfl; (with_reducible repeat (first | refine blk_drewN ?_ _ | refine blk_drew ?_ | refine blk_alloc ?_ _)); refine blk_put (cs := #[.int .u16 t875, .string t876, .int .u8 t877, .slice none 0 0, .slice none 0 0, .int .i64 0, .bool false]) ?_ 3 _ rfl; (with_reducible repeat (first | refine blk_drewN ?_ _ | refine blk_drew ?_ | refine blk_alloc ?_ _)); refine blk_put (cs := #[.int .u16 t875, .string t876, .int .u8 0, .slice none 0 0, .slice none 0 0, .int .i64 0, .bool false]) ?_ 2 _ rfl; (with_reducible repeat (first | refine blk_drewN ?_ _ | refine blk_drew ?_ | refine blk_alloc ?_ _)); refine blk_put (cs := #[.int .u16 t875, .string (⟨#[]⟩ : ByteArray), .int .u8 0, .slice none 0 0, .slice none 0 0, .int .i64 0, .bool false]) ?_ 1 _ rfl; (with_reducible repeat (first | refine blk_drewN ?_ _ | refine blk_drew ?_ | refine blk_alloc ?_ _)); refine blk_put (cs := #[.int .u16 0, .string (⟨#[]⟩ : ByteArray), .int .u8 0, .slice none 0 0, .slice none 0 0, .int .i64 0, .bool false]) ?_ 0 _ rfl; (with_reducible repeat (first | refine blk_drewN ?_ _ | refine blk_drew ?_ | refine blk_alloc ?_ _)); exact BK887.out) hb); have n4_ := Aside0.mk (below_step (by repeat (first | (with_reducible first | exact HB.out | apply below_alloc | apply pw_below_drewN | apply below_drew1 | refine below_set ?_ GE887.out) | exact HB.out)) hb); clear HO_3; clear HO880; clear HO883; clear BK887; clear HB; have HO_3 := n0_; have HO880 := n1_; have HO883 := n2_; have BK887 := n3_; have HB := n4_; clear n0_ n1_ n2_ n3_ n4_; (try clear hb); (try clear hb2); (try clear hk); (try clear hi)))
            repeat (go_quiet (first | (go_at_call 11; (with_reducible refine (ops_Of.calls (hT := by first | exact HT.out | exact Go.Proofs.YtfbdmgdbamjjhaaDoorTabs.Tab.below HT.out (by repeat (first | (with_reducible first | exact HB.out | apply below_alloc | apply pw_below_drewN | apply below_drew1 | refine below_set ?_ (Aside0.out (by assumption))) | exact HB.out)) | exact Go.Proofs.YtfbdmgdbamjjhaaDoorTabs.Tab.drawn HT.out (by repeat (first | exact Drawn0.refl _ | apply Drawn0.step))) k1 a0 t875 t876 t877 t878 t881 t884 t885 t886 _ A18.out).mono ?_); rintro e w23 ⟨v879, v882, rfl, ho0, ho1, hb⟩; have n0_ := Aside0.mk (Kd.R_below (by (with_reducible repeat (first | apply Kd.R_alloc | apply Kd.R_drewN | apply Kd.R_drew)); exact HO_3.out) hb); have n1_ := Aside0.mk (Kd.R_lower ho0 (below_size (by repeat (first | (with_reducible first | exact HB.out | apply below_alloc | apply pw_below_drewN | apply below_drew1) | exact HB.out)))); have n2_ := Aside0.mk (Kd.R_lower ho1 (below_size (by repeat (first | (with_reducible first | exact HB.out | apply below_alloc | apply pw_below_drewN | apply below_drew1) | exact HB.out)))); have n3_ := Aside0.mk (below_step (by repeat (first | (with_reducible first | exact HB.out | apply below_alloc | apply pw_below_drewN | apply below_drew1) | exact HB.out)) hb); clear HO_3; clear HB; have HO_3 := n0_; have HO880 := n1_; have HO883 := n2_; have HB := n3_; clear n0_ n1_ n2_ n3_; (try clear hb); (try clear hb2); (try clear hk); (try clear hi); (try clear ho0); (try clear ho1)) | ((with_reducible refine gate_dst (N := 6) rfl ?_); refine box_event ?hg (N := 6) ?hd (cs := #[.int .u16 0, .string (⟨#[]⟩ : ByteArray), .int .u8 0, .slice none 0 0, .slice none 0 0, .int .i64 0, .bool false]) (t := 27) ?hr ?_; (case hd => rfl); (case hg => rfl); (case hr => first | (go_simp; done) | (go_simp; rfl)); intro gb887 hg w24 hbox hb; have n0_ := Aside0.mk (Kd.R_below (by (with_reducible repeat (first | apply Kd.R_alloc | apply Kd.R_drewN | apply Kd.R_drew)); exact HO_3.out) hb); have n1_ := Aside0.mk (Kd.R_below (by (with_reducible repeat (first | apply Kd.R_alloc | apply Kd.R_drewN | apply Kd.R_drew)); exact HO880.out) hb); have n2_ := Aside0.mk (Kd.R_below (by (with_reducible repeat (first | apply Kd.R_alloc | apply Kd.R_drewN | apply Kd.R_drew)); exact HO883.out) hb); have n3_ := Aside0.mk (below_step (by repeat (first | (with_reducible first | exact HB.out | apply below_alloc | apply pw_below_drewN | apply below_drew1) | exact HB.out)) hb); have n4_ := Aside0.mk (hbox); have n5_ := Aside0.mk ((by rw [hg]; exact (below_size (by repeat (first | (with_reducible first | exact HB.out | apply below_alloc | apply pw_below_drewN | apply below_drew1) | exact HB.out))) : w.heap.size ≤ gb887)); have n6_ := Aside0.mk ((by rw [hg]; exact (below_size (by repeat (first | (with_reducible first | exact HB.out | apply below_alloc | apply pw_below_drewN | apply below_drew1) | exact HB.out))) : w.heap.size ≤ gb887)); clear HO_3; clear HO880; clear HO883; clear HB; have HO_3 := n0_; have HO880 := n1_; have HO883 := n2_; have HB := n3_; have BK887 := n4_; have GW887 := n5_; have GE887 := n6_; clear n0_ n1_ n2_ n3_ n4_ n5_ n6_; clear hb hbox hg; have hcz25_0 : w24.cell? ⟨gb887, 0, none⟩ = some (.int .u16 0) := (blk_cell BK887.out 0).trans rfl; have hcz25_1 : w24.cell? ⟨gb887, 1, none⟩ = some (.string (⟨#[]⟩ : ByteArray)) := (blk_cell BK887.out 1).trans rfl; have hcz25_2 : w24.cell? ⟨gb887, 2, none⟩ = some (.int .u8 0) := (blk_cell BK887.out 2).trans rfl; have hcz25_3 : w24.cell? ⟨gb887, 3, none⟩ = some (.slice none 0 0) := (blk_cell BK887.out 3).trans rfl; have hcz25_4 : w24.cell? ⟨gb887, 4, none⟩ = some (.slice none 0 0) := (blk_cell BK887.out 4).trans rfl; have hcz25_5 : w24.cell? ⟨gb887, 5, none⟩ = some (.int .i64 0) := (blk_cell BK887.out 5).trans rfl; have hcz25_6 : w24.cell? ⟨gb887, 6, none⟩ = some (.bool false) := (blk_cell BK887.out 6).trans rfl; have hfz25_0 := blk_frozen BK887.out 0; have hfz25_1 := blk_frozen BK887.out 1; have hfz25_2 := blk_frozen BK887.out 2; have hfz25_3 := blk_frozen BK887.out 3; have hfz25_4 := blk_frozen BK887.out 4; have hfz25_5 := blk_frozen BK887.out 5; have hfz25_6 := blk_frozen BK887.out 6; obtain ⟨Ao26, co26, eo26⟩ := Kd.R_slice HO880.out; subst eo26; obtain ⟨Ao27, co27, eo27⟩ := Kd.R_slice HO883.out; subst eo27) | (go_at_call 14; (with_reducible refine (jacquardlaw10_works.calls (hT := by first | exact HT.out | exact Go.Proofs.YtfbdmgdbamjjhaaDoorTabs.Tab.below HT.out (by repeat (first | (with_reducible first | exact HB.out | apply below_alloc | apply pw_below_drewN | apply below_drew1 | refine below_set ?_ (Aside0.out (by assumption))) | exact HB.out)) | exact Go.Proofs.YtfbdmgdbamjjhaaDoorTabs.Tab.drawn HT.out (by repeat (first | exact Drawn0.refl _ | apply Drawn0.step))) k1  t888 _ A21.out).mono ?_); rintro e w28 ⟨rfl, hb⟩; have n0_ := Aside0.mk (Kd.R_below (by (with_reducible repeat (first | apply Kd.R_alloc | apply Kd.R_drewN | apply Kd.R_drew)); exact (Kd.R_mono (Kd.R_far (p := ⟨gb887, 6, none⟩) (Kd.R_far (p := ⟨gb887, 5, none⟩) (Kd.R_far (p := ⟨gb887, 4, none⟩) (Kd.R_far (p := ⟨gb887, 3, none⟩) (Kd.R_far (p := ⟨gb887, 2, none⟩) (Kd.R_far (p := ⟨gb887, 1, none⟩) (Kd.R_far (p := ⟨gb887, 0, none⟩) (Kd.R_types HO_3.out BK887.out (by decide)) (fun _ hk => hk.2) (.int .u16 t875)) (fun _ hk => hk.2) (.string t876)) (fun _ hk => hk.2) (.int .u8 t877)) (fun _ hk => hk.2) (.slice Ao26 t878.length co26)) (fun _ hk => hk.2) (.slice Ao27 t881.length co27)) (fun _ hk => hk.2) (.int .i64 t884)) (fun _ hk => hk.2) (.bool t885)) (fun _ h_ => h_.1))) hb); have n1_ := Aside0.mk (Kd.R_below (by (with_reducible repeat (first | apply Kd.R_alloc | apply Kd.R_drewN | apply Kd.R_drew)); exact (Kd.R_mono (Kd.R_far (p := ⟨gb887, 6, none⟩) (Kd.R_far (p := ⟨gb887, 5, none⟩) (Kd.R_far (p := ⟨gb887, 4, none⟩) (Kd.R_far (p := ⟨gb887, 3, none⟩) (Kd.R_far (p := ⟨gb887, 2, none⟩) (Kd.R_far (p := ⟨gb887, 1, none⟩) (Kd.R_far (p := ⟨gb887, 0, none⟩) (Kd.R_types HO880.out BK887.out (by decide)) (fun _ hk => hk.2) (.int .u16 t875)) (fun _ hk => hk.2) (.string t876)) (fun _ hk => hk.2) (.int .u8 t877)) (fun _ hk => hk.2) (.slice Ao26 t878.length co26)) (fun _ hk => hk.2) (.slice Ao27 t881.length co27)) (fun _ hk => hk.2) (.int .i64 t884)) (fun _ hk => hk.2) (.bool t885)) (fun _ h_ => h_.1))) hb); have n2_ := Aside0.mk (Kd.R_below (by (with_reducible repeat (first | apply Kd.R_alloc | apply Kd.R_drewN | apply Kd.R_drew)); exact (Kd.R_mono (Kd.R_far (p := ⟨gb887, 6, none⟩) (Kd.R_far (p := ⟨gb887, 5, none⟩) (Kd.R_far (p := ⟨gb887, 4, none⟩) (Kd.R_far (p := ⟨gb887, 3, none⟩) (Kd.R_far (p := ⟨gb887, 2, none⟩) (Kd.R_far (p := ⟨gb887, 1, none⟩) (Kd.R_far (p := ⟨gb887, 0, none⟩) (Kd.R_types HO883.out BK887.out (by decide)) (fun _ hk => hk.2) (.int .u16 t875)) (fun _ hk => hk.2) (.string t876)) (fun _ hk => hk.2) (.int .u8 t877)) (fun _ hk => hk.2) (.slice Ao26 t878.length co26)) (fun _ hk => hk.2) (.slice Ao27 t881.length co27)) (fun _ hk => hk.2) (.int .i64 t884)) (fun _ hk => hk.2) (.bool t885)) (fun _ h_ => h_.1))) hb); have n3_ := Aside0.mk (blk_below (g := gb887) (o := .cells #[.int .u16 t875, .string t876, .int .u8 t877, .slice Ao26 t878.length co26, .slice Ao27 t881.length co27, .int .i64 t884, .bool t885] 27 (0, 0)) (by (with_reducible repeat (first | refine blk_drewN ?_ _ | refine blk_drew ?_ | refine blk_alloc ?_ _)); refine blk_put (cs := #[.int .u16 t875, .string t876, .int .u8 t877, .slice Ao26 t878.length co26, .slice Ao27 t881.length co27, .int .i64 t884, .bool false]) ?_ 6 _ rfl; (with_reducible repeat (first | refine blk_drewN ?_ _ | refine blk_drew ?_ | refine blk_alloc ?_ _)); refine blk_put (cs := #[.int .u16 t875, .string t876, .int .u8 t877, .slice Ao26 t878.length co26, .slice Ao27 t881.length co27, .int .i64 0, .bool false]) ?_ 5 _ rfl; (with_reducible repeat (first | refine blk_drewN ?_ _ | refine blk_drew ?_ | refine blk_alloc ?_ _)); refine blk_put (cs := #[.int .u16 t875, .string t876, .int .u8 t877, .slice Ao26 t878.length co26, .slice none 0 0, .int .i64 0, .bool false]) ?_ 4 _ rfl; (with_reducible repeat (first | refine blk_drewN ?_ _ | refine blk_drew ?_ | refine blk_alloc ?_ _)); refine blk_put (cs := #[.int .u16 t875, .string t876, .int .u8 t877, .slice none 0 0, .slice none 0 0, .int .i64 0, .bool false]) ?_ 3 _ rfl; (with_reducible repeat (first | refine blk_drewN ?_ _ | refine blk_drew ?_ | refine blk_alloc ?_ _)); refine blk_put (cs := #[.int .u16 t875, .string t876, .int .u8 0, .slice none 0 0, .slice none 0 0, .int .i64 0, .bool false]) ?_ 2 _ rfl; (with_reducible repeat (first | refine blk_drewN ?_ _ | refine blk_drew ?_ | refine blk_alloc ?_ _)); refine blk_put (cs := #[.int .u16 t875, .string (⟨#[]⟩ : ByteArray), .int .u8 0, .slice none 0 0, .slice none 0 0, .int .i64 0, .bool false]) ?_ 1 _ rfl; (with_reducible repeat (first | refine blk_drewN ?_ _ | refine blk_drew ?_ | refine blk_alloc ?_ _)); refine blk_put (cs := #[.int .u16 0, .string (⟨#[]⟩ : ByteArray), .int .u8 0, .slice none 0 0, .slice none 0 0, .int .i64 0, .bool false]) ?_ 0 _ rfl; (with_reducible repeat (first | refine blk_drewN ?_ _ | refine blk_drew ?_ | refine blk_alloc ?_ _)); exact BK887.out) hb); have n4_ := Aside0.mk (below_step (by repeat (first | (with_reducible first | exact HB.out | apply below_alloc | apply pw_below_drewN | apply below_drew1 | refine below_set ?_ GE887.out) | exact HB.out)) hb); clear HO_3; clear HO880; clear HO883; clear BK887; clear HB; have HO_3 := n0_; have HO880 := n1_; have HO883 := n2_; have BK887 := n3_; have HB := n4_; clear n0_ n1_ n2_ n3_ n4_; (try clear hb); (try clear hb2); (try clear hk); (try clear hi))); try go_wp2_with (first | (go_at_call 11; (with_reducible refine (ops_Of.calls (hT := by first | exact HT.out | exact Go.Proofs.YtfbdmgdbamjjhaaDoorTabs.Tab.below HT.out (by repeat (first | (with_reducible first | exact HB.out | apply below_alloc | apply pw_below_drewN | apply below_drew1 | refine below_set ?_ (Aside0.out (by assumption))) | exact HB.out)) | exact Go.Proofs.YtfbdmgdbamjjhaaDoorTabs.Tab.drawn HT.out (by repeat (first | exact Drawn0.refl _ | apply Drawn0.step))) k1 a0 t875 t876 t877 t878 t881 t884 t885 t886 _ A18.out).mono ?_); rintro e w23 ⟨v879, v882, rfl, ho0, ho1, hb⟩; have n0_ := Aside0.mk (Kd.R_below (by (with_reducible repeat (first | apply Kd.R_alloc | apply Kd.R_drewN | apply Kd.R_drew)); exact HO_3.out) hb); have n1_ := Aside0.mk (Kd.R_lower ho0 (below_size (by repeat (first | (with_reducible first | exact HB.out | apply below_alloc | apply pw_below_drewN | apply below_drew1) | exact HB.out)))); have n2_ := Aside0.mk (Kd.R_lower ho1 (below_size (by repeat (first | (with_reducible first | exact HB.out | apply below_alloc | apply pw_below_drewN | apply below_drew1) | exact HB.out)))); have n3_ := Aside0.mk (below_step (by repeat (first | (with_reducible first | exact HB.out | apply below_alloc | apply pw_below_drewN | apply below_drew1) | exact HB.out)) hb); clear HO_3; clear HB; have HO_3 := n0_; have HO880 := n1_; have HO883 := n2_; have HB := n3_; clear n0_ n1_ n2_ n3_; (try clear hb); (try clear hb2); (try clear hk); (try clear hi); (try clear ho0); (try clear ho1)) | ((with_reducible refine gate_dst (N := 6) rfl ?_); refine box_event ?hg (N := 6) ?hd (cs := #[.int .u16 0, .string (⟨#[]⟩ : ByteArray), .int .u8 0, .slice none 0 0, .slice none 0 0, .int .i64 0, .bool false]) (t := 27) ?hr ?_; (case hd => rfl); (case hg => rfl); (case hr => first | (go_simp; done) | (go_simp; rfl)); intro gb887 hg w24 hbox hb; have n0_ := Aside0.mk (Kd.R_below (by (with_reducible repeat (first | apply Kd.R_alloc | apply Kd.R_drewN | apply Kd.R_drew)); exact HO_3.out) hb); have n1_ := Aside0.mk (Kd.R_below (by (with_reducible repeat (first | apply Kd.R_alloc | apply Kd.R_drewN | apply Kd.R_drew)); exact HO880.out) hb); have n2_ := Aside0.mk (Kd.R_below (by (with_reducible repeat (first | apply Kd.R_alloc | apply Kd.R_drewN | apply Kd.R_drew)); exact HO883.out) hb); have n3_ := Aside0.mk (below_step (by repeat (first | (with_reducible first | exact HB.out | apply below_alloc | apply pw_below_drewN | apply below_drew1) | exact HB.out)) hb); have n4_ := Aside0.mk (hbox); have n5_ := Aside0.mk ((by rw [hg]; exact (below_size (by repeat (first | (with_reducible first | exact HB.out | apply below_alloc | apply pw_below_drewN | apply below_drew1) | exact HB.out))) : w.heap.size ≤ gb887)); have n6_ := Aside0.mk ((by rw [hg]; exact (below_size (by repeat (first | (with_reducible first | exact HB.out | apply below_alloc | apply pw_below_drewN | apply below_drew1) | exact HB.out))) : w.heap.size ≤ gb887)); clear HO_3; clear HO880; clear HO883; clear HB; have HO_3 := n0_; have HO880 := n1_; have HO883 := n2_; have HB := n3_; have BK887 := n4_; have GW887 := n5_; have GE887 := n6_; clear n0_ n1_ n2_ n3_ n4_ n5_ n6_; clear hb hbox hg; have hcz25_0 : w24.cell? ⟨gb887, 0, none⟩ = some (.int .u16 0) := (blk_cell BK887.out 0).trans rfl; have hcz25_1 : w24.cell? ⟨gb887, 1, none⟩ = some (.string (⟨#[]⟩ : ByteArray)) := (blk_cell BK887.out 1).trans rfl; have hcz25_2 : w24.cell? ⟨gb887, 2, none⟩ = some (.int .u8 0) := (blk_cell BK887.out 2).trans rfl; have hcz25_3 : w24.cell? ⟨gb887, 3, none⟩ = some (.slice none 0 0) := (blk_cell BK887.out 3).trans rfl; have hcz25_4 : w24.cell? ⟨gb887, 4, none⟩ = some (.slice none 0 0) := (blk_cell BK887.out 4).trans rfl; have hcz25_5 : w24.cell? ⟨gb887, 5, none⟩ = some (.int .i64 0) := (blk_cell BK887.out 5).trans rfl; have hcz25_6 : w24.cell? ⟨gb887, 6, none⟩ = some (.bool false) := (blk_cell BK887.out 6).trans rfl; have hfz25_0 := blk_frozen BK887.out 0; have hfz25_1 := blk_frozen BK887.out 1; have hfz25_2 := blk_frozen BK887.out 2; have hfz25_3 := blk_frozen BK887.out 3; have hfz25_4 := blk_frozen BK887.out 4; have hfz25_5 := blk_frozen BK887.out 5; have hfz25_6 := blk_frozen BK887.out 6; obtain ⟨Ao26, co26, eo26⟩ := Kd.R_slice HO880.out; subst eo26; obtain ⟨Ao27, co27, eo27⟩ := Kd.R_slice HO883.out; subst eo27) | (go_at_call 14; (with_reducible refine (jacquardlaw10_works.calls (hT := by first | exact HT.out | exact Go.Proofs.YtfbdmgdbamjjhaaDoorTabs.Tab.below HT.out (by repeat (first | (with_reducible first | exact HB.out | apply below_alloc | apply pw_below_drewN | apply below_drew1 | refine below_set ?_ (Aside0.out (by assumption))) | exact HB.out)) | exact Go.Proofs.YtfbdmgdbamjjhaaDoorTabs.Tab.drawn HT.out (by repeat (first | exact Drawn0.refl _ | apply Drawn0.step))) k1  t888 _ A21.out).mono ?_); rintro e w28 ⟨rfl, hb⟩; have n0_ := Aside0.mk (Kd.R_below (by (with_reducible repeat (first | apply Kd.R_alloc | apply Kd.R_drewN | apply Kd.R_drew)); exact (Kd.R_mono (Kd.R_far (p := ⟨gb887, 6, none⟩) (Kd.R_far (p := ⟨gb887, 5, none⟩) (Kd.R_far (p := ⟨gb887, 4, none⟩) (Kd.R_far (p := ⟨gb887, 3, none⟩) (Kd.R_far (p := ⟨gb887, 2, none⟩) (Kd.R_far (p := ⟨gb887, 1, none⟩) (Kd.R_far (p := ⟨gb887, 0, none⟩) (Kd.R_types HO_3.out BK887.out (by decide)) (fun _ hk => hk.2) (.int .u16 t875)) (fun _ hk => hk.2) (.string t876)) (fun _ hk => hk.2) (.int .u8 t877)) (fun _ hk => hk.2) (.slice Ao26 t878.length co26)) (fun _ hk => hk.2) (.slice Ao27 t881.length co27)) (fun _ hk => hk.2) (.int .i64 t884)) (fun _ hk => hk.2) (.bool t885)) (fun _ h_ => h_.1))) hb); have n1_ := Aside0.mk (Kd.R_below (by (with_reducible repeat (first | apply Kd.R_alloc | apply Kd.R_drewN | apply Kd.R_drew)); exact (Kd.R_mono (Kd.R_far (p := ⟨gb887, 6, none⟩) (Kd.R_far (p := ⟨gb887, 5, none⟩) (Kd.R_far (p := ⟨gb887, 4, none⟩) (Kd.R_far (p := ⟨gb887, 3, none⟩) (Kd.R_far (p := ⟨gb887, 2, none⟩) (Kd.R_far (p := ⟨gb887, 1, none⟩) (Kd.R_far (p := ⟨gb887, 0, none⟩) (Kd.R_types HO880.out BK887.out (by decide)) (fun _ hk => hk.2) (.int .u16 t875)) (fun _ hk => hk.2) (.string t876)) (fun _ hk => hk.2) (.int .u8 t877)) (fun _ hk => hk.2) (.slice Ao26 t878.length co26)) (fun _ hk => hk.2) (.slice Ao27 t881.length co27)) (fun _ hk => hk.2) (.int .i64 t884)) (fun _ hk => hk.2) (.bool t885)) (fun _ h_ => h_.1))) hb); have n2_ := Aside0.mk (Kd.R_below (by (with_reducible repeat (first | apply Kd.R_alloc | apply Kd.R_drewN | apply Kd.R_drew)); exact (Kd.R_mono (Kd.R_far (p := ⟨gb887, 6, none⟩) (Kd.R_far (p := ⟨gb887, 5, none⟩) (Kd.R_far (p := ⟨gb887, 4, none⟩) (Kd.R_far (p := ⟨gb887, 3, none⟩) (Kd.R_far (p := ⟨gb887, 2, none⟩) (Kd.R_far (p := ⟨gb887, 1, none⟩) (Kd.R_far (p := ⟨gb887, 0, none⟩) (Kd.R_types HO883.out BK887.out (by decide)) (fun _ hk => hk.2) (.int .u16 t875)) (fun _ hk => hk.2) (.string t876)) (fun _ hk => hk.2) (.int .u8 t877)) (fun _ hk => hk.2) (.slice Ao26 t878.length co26)) (fun _ hk => hk.2) (.slice Ao27 t881.length co27)) (fun _ hk => hk.2) (.int .i64 t884)) (fun _ hk => hk.2) (.bool t885)) (fun _ h_ => h_.1))) hb); have n3_ := Aside0.mk (blk_below (g := gb887) (o := .cells #[.int .u16 t875, .string t876, .int .u8 t877, .slice Ao26 t878.length co26, .slice Ao27 t881.length co27, .int .i64 t884, .bool t885] 27 (0, 0)) (by (with_reducible repeat (first | refine blk_drewN ?_ _ | refine blk_drew ?_ | refine blk_alloc ?_ _)); refine blk_put (cs := #[.int .u16 t875, .string t876, .int .u8 t877, .slice Ao26 t878.length co26, .slice Ao27 t881.length co27, .int .i64 t884, .bool false]) ?_ 6 _ rfl; (with_reducible repeat (first | refine blk_drewN ?_ _ | refine blk_drew ?_ | refine blk_alloc ?_ _)); refine blk_put (cs := #[.int .u16 t875, .string t876, .int .u8 t877, .slice Ao26 t878.length co26, .slice Ao27 t881.length co27, .int .i64 0, .bool false]) ?_ 5 _ rfl; (with_reducible repeat (first | refine blk_drewN ?_ _ | refine blk_drew ?_ | refine blk_alloc ?_ _)); refine blk_put (cs := #[.int .u16 t875, .string t876, .int .u8 t877, .slice Ao26 t878.length co26, .slice none 0 0, .int .i64 0, .bool false]) ?_ 4 _ rfl; (with_reducible repeat (first | refine blk_drewN ?_ _ | refine blk_drew ?_ | refine blk_alloc ?_ _)); refine blk_put (cs := #[.int .u16 t875, .string t876, .int .u8 t877, .slice none 0 0, .slice none 0 0, .int .i64 0, .bool false]) ?_ 3 _ rfl; (with_reducible repeat (first | refine blk_drewN ?_ _ | refine blk_drew ?_ | refine blk_alloc ?_ _)); refine blk_put (cs := #[.int .u16 t875, .string t876, .int .u8 0, .slice none 0 0, .slice none 0 0, .int .i64 0, .bool false]) ?_ 2 _ rfl; (with_reducible repeat (first | refine blk_drewN ?_ _ | refine blk_drew ?_ | refine blk_alloc ?_ _)); refine blk_put (cs := #[.int .u16 t875, .string (⟨#[]⟩ : ByteArray), .int .u8 0, .slice none 0 0, .slice none 0 0, .int .i64 0, .bool false]) ?_ 1 _ rfl; (with_reducible repeat (first | refine blk_drewN ?_ _ | refine blk_drew ?_ | refine blk_alloc ?_ _)); refine blk_put (cs := #[.int .u16 0, .string (⟨#[]⟩ : ByteArray), .int .u8 0, .slice none 0 0, .slice none 0 0, .int .i64 0, .bool false]) ?_ 0 _ rfl; (with_reducible repeat (first | refine blk_drewN ?_ _ | refine blk_drew ?_ | refine blk_alloc ?_ _)); exact BK887.out) hb); have n4_ := Aside0.mk (below_step (by repeat (first | (with_reducible first | exact HB.out | apply below_alloc | apply pw_below_drewN | apply below_drew1 | refine below_set ?_ GE887.out) | exact HB.out)) hb); clear HO_3; clear HO880; clear HO883; clear BK887; clear HB; have HO_3 := n0_; have HO880 := n1_; have HO883 := n2_; have BK887 := n3_; have HB := n4_; clear n0_ n1_ n2_ n3_ n4_; (try clear hb); (try clear hb2); (try clear hk); (try clear hi))))
            go_ret
            exact ⟨by first | rfl | (simp [errW_none, errW_some] <;> rfl) | (simp [*, errW_none, errW_some] <;> rfl), by repeat (first | (with_reducible first | exact HB.out | apply below_alloc | apply pw_below_drewN | apply below_drew1 | refine below_set ?_ GE887.out) | exact HB.out)⟩
          · rw [if_neg c20] at H
            have c20b0 : (x4_1 == (t886 == 0)) = false := by simpa using c20
            (try (have c20b1 : decide (x4_1 = (t886 == 0)) = false := by simpa using c20))
            (try (have c20b2 : (x4_1 == (t886 == 0)) = false := by simpa using c20))
            (try (have c20b3 : ¬ (x4_1 = (t886 == 0)) := by simpa using c20))
            clear c20
            exact absurd H (by simp)
        · rw [if_neg c19] at H
          have c19b0 : ((t868.length : Int) == 435) = false := beq_eq_false_iff_ne.mpr c19
          have c19b1 : ((t868.length : Int) != 435) = true := bne_iff_ne.mpr c19
          exact absurd H (by simp)

/-- THE ONE PURE STATEMENT of jacquardlaw10_OpsAll: yours. -/
def jacquardlaw10_OpsAll.Pure : Prop := ∀ (a0 : Int), (Lit.int .u16 a0).wf = true → ∃ k, jacquardlaw10_OpsAll.f k a0 = some true
theorem jacquardlaw10_OpsAll.walk (P : jacquardlaw10_OpsAll.Pure) (a0 : Int) (w : World) (hT : Go.Proofs.YtfbdmgdbamjjhaaDoorTabs.Tab w) (w0 : (Lit.int .u16 a0).wf = true) :
    Calls Tryd.prog 7 #[.int .u16 a0] w fun e w' => e = .returned (.bool true) ∧ Below w.heap.size w w' := by
  have HT := Aside0.mk hT
  clear hT
  obtain ⟨k, h⟩ := P a0 w0
  refine (jacquardlaw10_OpsAll.calls (hT := by first | exact HT.out | exact Go.Proofs.YtfbdmgdbamjjhaaDoorTabs.Tab.below HT.out (by repeat (first | (with_reducible first | exact HB.out | apply below_alloc | apply pw_below_drewN | apply below_drew1 | refine below_set ?_ (Aside0.out (by assumption))) | exact HB.out)) | exact Go.Proofs.YtfbdmgdbamjjhaaDoorTabs.Tab.drawn HT.out (by repeat (first | exact Drawn0.refl _ | apply Drawn0.step))) k a0 w h).mono ?_
  rintro e w' ⟨rfl, hd⟩
  exact ⟨rfl, hd⟩

end Go.Proofs.YtfbdmgdbamjjhaaDoor.P
