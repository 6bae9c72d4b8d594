-- Printed by a program of this session (wip/patch-print.py over the kit's print): Lean checks it.
import Derived.Test.YtcnmpciohpcpiaaDoorPx0
import Derived.Test.YtcnmpciohpcpiaaDoorPx3
import Derived.Test.YtcnmpciohpcpiaaDoorPx4
import Derived.Test.YtcnmpciohpcpiaaDoorPx6
import Derived.Test.YtcnmpciohpcpiaaDoorGLetters
namespace Go.Proofs.YtcnmpciohpcpiaaDoor.P
open Go.Proofs.YtcnmpciohpcpiaaDoorTabs
open Go.Proofs.YtcnmpciohpcpiaaDoorCaps
open Go.RowKit Go.Proofs.YtcnmpciohpcpiaaDoorW.PrintWords Go.Proofs.YtcnmpciohpcpiaaDoorW.PrintLast Go.Proofs.YtcnmpciohpcpiaaDoorW.PrintMore
attribute [local go_sem] max2_int min2_int max_two min_two max_three min_three max_four min_four   -- for this text's walks alone
set_option linter.unusedVariables false
set_option linter.unusedSimpArgs false

/-! ### jacquardlaw02_NameBack: function 5 -/
def jacquardlaw02_NameBack.j0 : Nat → List Int → Option (Bool)
  | 0, _ => none
  | k + 1, x1 => (name_Letters.f k x1).bind fun bt320 => (if bt320.2 = 0 then ((name_Put.f k bt320.1).bind fun bt326 => (if bt326.2 = 0 then ((jacquardref00_Same.f k bt326.1 x1).bind fun t330 => (if t330 = true then ((name_Is.f k x1).bind fun t331 => (if t331 = true then ((jacquardlaw02_works.f k).bind fun t332 => (some t332)) else (some false))) else (some false))) else (some false))) else ((name_Is.f k x1).bind fun t324 => (if t324 = true then (some false) else (if (bt320.1.length : Int) = 0 then ((jacquardlaw02_works.f k).bind fun t325 => (some t325)) else (some false)))))
def jacquardlaw02_NameBack.f (k : Nat) (l0 : List Int) (l1 : List Int) : Option (Bool) := (name_Put.f k l0).bind fun bt310 => (if bt310.2 = 0 then ((name_Letters.f k bt310.1).bind fun bt314 => (if bt314.2 = 0 then ((jacquardref00_Runes.f k l0 bt314.1).bind fun t318 => (if t318 = true then ((name_Is.f k bt310.1).bind fun t319 => (if t319 = true then (jacquardlaw02_NameBack.j0 k l1) else (some false))) else (some false))) else (some false))) else (jacquardlaw02_NameBack.j0 k l1))
theorem jacquardlaw02_NameBack.mono_l : ∀ k, (∀ y0, LeO (jacquardlaw02_NameBack.j0 k y0) (jacquardlaw02_NameBack.j0 (k + 1) y0))
  | 0 => fun _ r h => by simp [jacquardlaw02_NameBack.j0] at h
  | k + 1 => by
    have ih0 := jacquardlaw02_NameBack.mono_l k
    · intro y0
      unfold jacquardlaw02_NameBack.j0
      repeat' first
      | (with_reducible exact ih0 _)
      | (with_reducible exact jacquardlaw02_works.mono _)
      | (with_reducible exact jacquardref00_Runes.mono _ _ _)
      | (with_reducible exact jacquardref00_Same.mono _ _ _)
      | (with_reducible exact name_Is.mono _ _)
      | (with_reducible exact name_Letters.mono _ _)
      | (with_reducible exact name_Put.mono _ _)
      | (with_reducible exact LeO.refl _)
      | (with_reducible exact LeO.none _)
      | (with_reducible refine LeO.ite ?_ ?_)
      | (with_reducible refine LeO.bind ?_ (fun _ => ?_))
      | exact ih0 _
      | exact jacquardlaw02_works.mono _
      | exact jacquardref00_Runes.mono _ _ _
      | exact jacquardref00_Same.mono _ _ _
      | exact name_Is.mono _ _
      | exact name_Letters.mono _ _
      | exact name_Put.mono _ _
      | exact LeO.none _
      | refine LeO.ite ?_ ?_
      | refine LeO.bind ?_ (fun _ => ?_)
theorem jacquardlaw02_NameBack.mono : ∀ a0 a1 k, LeO (jacquardlaw02_NameBack.f k a0 a1) (jacquardlaw02_NameBack.f (k + 1) a0 a1) := by
  intro a0 a1 k
  have ih0 := jacquardlaw02_NameBack.mono_l k
  unfold jacquardlaw02_NameBack.f
  repeat' first
      | (with_reducible exact ih0 _)
      | (with_reducible exact jacquardlaw02_works.mono _)
      | (with_reducible exact jacquardref00_Runes.mono _ _ _)
      | (with_reducible exact jacquardref00_Same.mono _ _ _)
      | (with_reducible exact name_Is.mono _ _)
      | (with_reducible exact name_Letters.mono _ _)
      | (with_reducible exact name_Put.mono _ _)
      | (with_reducible exact LeO.refl _)
      | (with_reducible exact LeO.none _)
      | (with_reducible refine LeO.ite ?_ ?_)
      | (with_reducible refine LeO.bind ?_ (fun _ => ?_))
      | exact ih0 _
      | exact jacquardlaw02_works.mono _
      | exact jacquardref00_Runes.mono _ _ _
      | exact jacquardref00_Same.mono _ _ _
      | exact name_Is.mono _ _
      | exact name_Letters.mono _ _
      | exact name_Put.mono _ _
      | exact LeO.none _
      | refine LeO.ite ?_ ?_
      | refine LeO.bind ?_ (fun _ => ?_)
set_option maxHeartbeats 8000000 in
set_option maxRecDepth 100000 in
theorem jacquardlaw02_NameBack.calls (k : Nat) (A0 : Option Addr) (c0 : Nat) (l0 : List Int) (A1 : Option Addr) (c1 : Nat) (l1 : List Int) (w : World) (hT : Go.Proofs.YtcnmpciohpcpiaaDoorTabs.Tab w) (hr0 : Kd.C (Kd.int .i32) w A0 l0.length l0) (hc0 : l0.length ≤ c0) (hr1 : Kd.C (Kd.int .u8) w A1 l1.length l1) (hc1 : l1.length ≤ c1) (h : jacquardlaw02_NameBack.f k l0 l1 = some true) :
    Calls Tryd.prog 5 #[.slice A0 l0.length c0, .slice A1 l1.length c1] w fun e w' => e = .returned (.bool true) ∧ Below w.heap.size w w' := by
  have HT := Aside0.mk hT
  clear hT
  have HR0 := Aside0.mk hr0
  have HC0 := Aside0.mk hc0
  clear hr0 hc0
  have HR1 := Aside0.mk hr1
  have HC1 := Aside0.mk hc1
  clear hr1 hc1
  have HB := Aside0.mk (Below.refl w.heap.size w)
  have H : ((name_Put.f k l0).bind fun bt310 => (if bt310.2 = 0 then ((name_Letters.f k bt310.1).bind fun bt314 => (if bt314.2 = 0 then ((jacquardref00_Runes.f k l0 bt314.1).bind fun t318 => (if t318 = true then ((name_Is.f k bt310.1).bind fun t319 => (if t319 = true then (jacquardlaw02_NameBack.j0 k l1) else (some false))) else (some false))) else (some false))) else (jacquardlaw02_NameBack.j0 k l1))) = some true := h
  clear h
  replace H := Option.bind_eq_some_iff.mp H
  obtain ⟨⟨t310, t311⟩, A30, H⟩ := H
  replace H : (if t311 = 0 then ((name_Letters.f k t310).bind fun bt314 => (if bt314.2 = 0 then ((jacquardref00_Runes.f k l0 bt314.1).bind fun t318 => (if t318 = true then ((name_Is.f k t310).bind fun t319 => (if t319 = true then (jacquardlaw02_NameBack.j0 k l1) else (some false))) else (some false))) else (some false))) else (jacquardlaw02_NameBack.j0 k l1)) = some true := H
  have A3 := Aside0.mk A30
  clear A30
  have HC4 := Aside0.mk H
  clear H
  go_enter Tryd.func5, Tryd.ntmps5
  go_upto_if 19 with (first | ((with_reducible refine gate_callee (f := 17) rfl ?_); refine goesL_ (some 15) rfl rfl Tryd.func17 (by kernel_rfl) rfl #[.slice A0 l0.length c0] rfl (by (try simp only [List.map_toArray, List.map_cons, List.map_nil]); first | done | rfl | (simp only [List.length_drop, List.length_take]; rfl)) ?_; (with_reducible refine (name_Put.calls k _ _ l0 t310 t311 _ ?side1 ?side2 A3.out).mono ?_); (case side1 => repeat (first | exact HR0.out | (with_reducible refine Kd.C_alloc ?_ _) | (with_reducible refine Kd.C_drewN ?_ _) | (with_reducible refine Kd.C_drew ?_))); (case side2 => exact HC0.out); rintro e w5 ⟨v312, rfl, ho0, hb⟩; refine ⟨_, rfl, ?_⟩; have n0_ := Aside0.mk (Kd.R_lower ho0 (below_size (by repeat (first | (with_reducible first | exact HB.out | apply below_alloc | apply pw_below_drewN | apply below_drew1) | exact HB.out)))); have n1_ := Aside0.mk (below_step (by repeat (first | (with_reducible first | exact HB.out | apply below_alloc | apply pw_below_drewN | apply below_drew1) | exact HB.out)) hb); clear HB; have HO313 := n0_; have HB := n1_; clear n0_ n1_; (try clear hb); (try clear hb2); (try clear hk); (try clear hi); (try clear ho0)))
  (try simp only [Act.put, List.setIfInBounds_toArray, List.set_cons_zero, List.set_cons_succ])
  go_cut [] (fun wc => ∃ (kq : Nat), Aside0 (jacquardlaw02_NameBack.j0 kq l1 = some true) ∧ Aside0 (kq ≤ k) ∧ Aside0 (Below w.heap.size w wc))
  case first =>
    have H := HC4.out
    clear HC4
    by_cases c6 : t311 = 0
    · rw [if_pos c6] at H
      have c6b0 : (t311 == 0) = true := beq_iff_eq.mpr c6
      have c6b1 : (t311 != 0) = false := bne_eq_false_iff_eq.mpr c6
      clear c6
      (first | rw [c6b0] | (simp only [i64_w, i32_w]; rw [c6b0]) | skip)
      replace H := Option.bind_eq_some_iff.mp H
      obtain ⟨⟨t314, t315⟩, A70, H⟩ := H
      replace H : (if t315 = 0 then ((jacquardref00_Runes.f k l0 t314).bind fun t318 => (if t318 = true then ((name_Is.f k t310).bind fun t319 => (if t319 = true then (jacquardlaw02_NameBack.j0 k l1) else (some false))) else (some false))) else (some false)) = some true := H
      have A7 := Aside0.mk A70
      clear A70
      by_cases c8 : t315 = 0
      · rw [if_pos c8] at H
        have c8b0 : (t315 == 0) = true := beq_iff_eq.mpr c8
        have c8b1 : (t315 != 0) = false := bne_eq_false_iff_eq.mpr c8
        clear c8
        replace H := Option.bind_eq_some_iff.mp H
        obtain ⟨t318, A90, H⟩ := H
        replace H : (if t318 = true then ((name_Is.f k t310).bind fun t319 => (if t319 = true then (jacquardlaw02_NameBack.j0 k l1) else (some false))) else (some false)) = some true := H
        have A9 := Aside0.mk A90
        clear A90
        by_cases c10 : t318 = true
        · subst c10
          have H1 : ((name_Is.f k t310).bind fun t319 => (if t319 = true then (jacquardlaw02_NameBack.j0 k l1) else (some false))) = some true := by rw [if_pos rfl] at H; exact H
          clear H
          have H := H1
          clear H1
          replace H := Option.bind_eq_some_iff.mp H
          obtain ⟨t319, A110, H⟩ := H
          replace H : (if t319 = true then (jacquardlaw02_NameBack.j0 k l1) else (some false)) = some true := H
          have A11 := Aside0.mk A110
          clear A110
          by_cases c12 : t319 = true
          · subst c12
            have H1 : (jacquardlaw02_NameBack.j0 k l1) = some true := by rw [if_pos rfl] at H; exact H
            clear H
            have H := H1
            clear H1
            have H' := Aside0.mk H
            clear H
            obtain ⟨Ao13, co13, eo13⟩ := Kd.R_slice HO313.out
            subst eo13
            go_wp2_with (first | ((with_reducible refine gate_callee (f := 11) rfl ?_); refine goesL_ (some 22) rfl rfl Tryd.func11 (by kernel_rfl) rfl #[.slice Ao13 t310.length co13] rfl (by (try simp only [List.map_toArray, List.map_cons, List.map_nil]); first | done | rfl | (simp only [List.length_drop, List.length_take]; rfl)) ?_; (with_reducible refine (name_Letters.calls (hT := by first | exact HT.out | exact Go.Proofs.YtcnmpciohpcpiaaDoorTabs.Tab.below HT.out (by repeat (first | (with_reducible first | exact HB.out | apply below_alloc | apply pw_below_drewN | apply below_drew1) | exact HB.out)) | exact Go.Proofs.YtcnmpciohpcpiaaDoorTabs.Tab.drawn HT.out (by repeat (first | exact Drawn0.refl _ | apply Drawn0.step))) k _ _ t310 t314 t315 _ ?side1 ?side2 A7.out).mono ?_); (case side1 => repeat (first | exact (Kd.R_reads' HO313.out).2.2 | (with_reducible refine Kd.C_alloc ?_ _) | (with_reducible refine Kd.C_drewN ?_ _) | (with_reducible refine Kd.C_drew ?_))); (case side2 => exact (Kd.R_reads' HO313.out).2.1); rintro e w14 ⟨v316, rfl, ho0, hb⟩; refine ⟨_, rfl, ?_⟩; have n0_ := Aside0.mk (Kd.R_below (by (with_reducible repeat (first | apply Kd.R_alloc | apply Kd.R_drewN | apply Kd.R_drew)); exact HO313.out) hb); have n1_ := Aside0.mk (Kd.R_lower ho0 (below_size (by repeat (first | (with_reducible first | exact HB.out | apply below_alloc | apply pw_below_drewN | apply below_drew1) | exact HB.out)))); have n2_ := Aside0.mk (below_step (by repeat (first | (with_reducible first | exact HB.out | apply below_alloc | apply pw_below_drewN | apply below_drew1) | exact HB.out)) hb); clear HO313; clear HB; have HO313 := n0_; have HO317 := n1_; have HB := n2_; clear n0_ n1_ n2_; (try clear hb); (try clear hb2); (try clear hk); (try clear hi); (try clear ho0); obtain ⟨Ao15, co15, eo15⟩ := Kd.R_slice HO317.out; subst eo15) | (go_at_call 13; (with_reducible refine (jacquardref00_Runes.calls k _ _ l0 _ _ t314 true _ ?side1 ?side2 ?side3 ?side4 A9.out).mono ?_); (case side1 => repeat (first | exact (Kd.C_below HR0.out HB.out) | (with_reducible refine Kd.C_alloc ?_ _) | (with_reducible refine Kd.C_drewN ?_ _) | (with_reducible refine Kd.C_drew ?_))); (case side2 => exact HC0.out); (case side3 => repeat (first | exact (Kd.R_reads' HO317.out).2.2 | (with_reducible refine Kd.C_alloc ?_ _) | (with_reducible refine Kd.C_drewN ?_ _) | (with_reducible refine Kd.C_drew ?_))); (case side4 => exact (Kd.R_reads' HO317.out).2.1); rintro e w' ⟨rfl, ⟨nd, rfl⟩⟩) | (go_at_call 14; (with_reducible refine (name_Is.calls (hT := by first | exact HT.out | exact Go.Proofs.YtcnmpciohpcpiaaDoorTabs.Tab.below HT.out (by repeat (first | (with_reducible first | exact HB.out | apply below_alloc | apply pw_below_drewN | apply below_drew1) | exact HB.out)) | exact Go.Proofs.YtcnmpciohpcpiaaDoorTabs.Tab.drawn HT.out (by repeat (first | exact Drawn0.refl _ | apply Drawn0.step))) k _ _ t310 true _ ?side1 ?side2 A11.out).mono ?_); (case side1 => repeat (first | exact (Kd.R_reads' HO313.out).2.2 | (with_reducible refine Kd.C_alloc ?_ _) | (with_reducible refine Kd.C_drewN ?_ _) | (with_reducible refine Kd.C_drew ?_))); (case side2 => exact (Kd.R_reads' HO313.out).2.1); rintro e w16 ⟨rfl, hb⟩; have n0_ := Aside0.mk (Kd.R_below (by (with_reducible repeat (first | apply Kd.R_alloc | apply Kd.R_drewN | apply Kd.R_drew)); exact HO313.out) hb); have n1_ := Aside0.mk (Kd.R_below (by (with_reducible repeat (first | apply Kd.R_alloc | apply Kd.R_drewN | apply Kd.R_drew)); exact HO317.out) hb); have n2_ := Aside0.mk (below_step (by repeat (first | (with_reducible first | exact HB.out | apply below_alloc | apply pw_below_drewN | apply below_drew1) | exact HB.out)) hb); clear HO313; clear HO317; clear HB; have HO313 := n0_; have HO317 := n1_; have HB := n2_; clear n0_ n1_ n2_; (try clear hb); (try clear hb2); (try clear hk); (try clear hi)))
            go_meet
            case rel => exact ⟨_, H', ⟨by first | omega | exact Nat.le_refl _⟩, ⟨by repeat (first | (with_reducible first | exact HB.out | apply below_alloc | apply pw_below_drewN | apply below_drew1) | exact HB.out)⟩⟩
          · replace c12 := Bool.eq_false_iff.mpr c12
            subst c12
            have H1 : (some false) = some true := by rw [if_neg (show ¬ (false = true) by decide)] at H; exact H
            clear H
            have H := H1
            clear H1
            exact absurd H (by simp)
        · replace c10 := Bool.eq_false_iff.mpr c10
          subst c10
          have H1 : (some false) = some true := by rw [if_neg (show ¬ (false = true) by decide)] at H; exact H
          clear H
          have H := H1
          clear H1
          exact absurd H (by simp)
      · rw [if_neg c8] at H
        have c8b0 : (t315 == 0) = false := beq_eq_false_iff_ne.mpr c8
        have c8b1 : (t315 != 0) = true := bne_iff_ne.mpr c8
        exact absurd H (by simp)
    · rw [if_neg c6] at H
      have c6b0 : (t311 == 0) = false := beq_eq_false_iff_ne.mpr c6
      have c6b1 : (t311 != 0) = true := bne_iff_ne.mpr c6
      (first | rw [c6b0] | (simp only [i64_w, i32_w]; rw [c6b0]) | skip)
      have H' := Aside0.mk H
      clear H
      go_wp2
      go_meet
      case rel => exact ⟨_, H', ⟨by first | omega | exact Nat.le_refl _⟩, ⟨by repeat (first | (with_reducible first | exact HB.out | apply below_alloc | apply pw_below_drewN | apply below_drew1) | exact HB.out)⟩⟩
  case rest =>
    clear HC4
    try clear c1
    try clear p2
    try clear c5
    try clear c6
    try clear c6b0
    try clear c6b1
    try clear c8
    try clear c8b0
    try clear c8b1
    try clear c10
    try clear c11
    try clear c12
    obtain ⟨kq, HA, HJ3, HB⟩ := hcut
    cases kq with
    | zero => exact absurd HA.out (by simp [jacquardlaw02_NameBack.j0])
    | succ kj3 =>
      have H := HA.out
      clear HA
      simp only [jacquardlaw02_NameBack.j0] at H
      replace H := Option.bind_eq_some_iff.mp H
      obtain ⟨⟨t320, t321⟩, A170, H⟩ := H
      replace H : (if t321 = 0 then ((name_Put.f kj3 t320).bind fun bt326 => (if bt326.2 = 0 then ((jacquardref00_Same.f kj3 bt326.1 l1).bind fun t330 => (if t330 = true then ((name_Is.f kj3 l1).bind fun t331 => (if t331 = true then ((jacquardlaw02_works.f kj3).bind fun t332 => (some t332)) else (some false))) else (some false))) else (some false))) else ((name_Is.f kj3 l1).bind fun t324 => (if t324 = true then (some false) else (if (t320.length : Int) = 0 then ((jacquardlaw02_works.f kj3).bind fun t325 => (some t325)) else (some false))))) = some true := H
      have A17 := Aside0.mk A170
      clear A170
      by_cases c18 : t321 = 0
      · rw [if_pos c18] at H
        have c18b0 : (t321 == 0) = true := beq_iff_eq.mpr c18
        have c18b1 : (t321 != 0) = false := bne_eq_false_iff_eq.mpr c18
        clear c18
        replace H := Option.bind_eq_some_iff.mp H
        obtain ⟨⟨t326, t327⟩, A190, H⟩ := H
        replace H : (if t327 = 0 then ((jacquardref00_Same.f kj3 t326 l1).bind fun t330 => (if t330 = true then ((name_Is.f kj3 l1).bind fun t331 => (if t331 = true then ((jacquardlaw02_works.f kj3).bind fun t332 => (some t332)) else (some false))) else (some false))) else (some false)) = some true := H
        have A19 := Aside0.mk A190
        clear A190
        by_cases c20 : t327 = 0
        · rw [if_pos c20] at H
          have c20b0 : (t327 == 0) = true := beq_iff_eq.mpr c20
          have c20b1 : (t327 != 0) = false := bne_eq_false_iff_eq.mpr c20
          clear c20
          replace H := Option.bind_eq_some_iff.mp H
          obtain ⟨t330, A210, H⟩ := H
          replace H : (if t330 = true then ((name_Is.f kj3 l1).bind fun t331 => (if t331 = true then ((jacquardlaw02_works.f kj3).bind fun t332 => (some t332)) else (some false))) else (some false)) = some true := H
          have A21 := Aside0.mk A210
          clear A210
          by_cases c22 : t330 = true
          · subst c22
            have H1 : ((name_Is.f kj3 l1).bind fun t331 => (if t331 = true then ((jacquardlaw02_works.f kj3).bind fun t332 => (some t332)) else (some false))) = some true := by rw [if_pos rfl] at H; exact H
            clear H
            have H := H1
            clear H1
            replace H := Option.bind_eq_some_iff.mp H
            obtain ⟨t331, A230, H⟩ := H
            replace H : (if t331 = true then ((jacquardlaw02_works.f kj3).bind fun t332 => (some t332)) else (some false)) = some true := H
            have A23 := Aside0.mk A230
            clear A230
            by_cases c24 : t331 = true
            · subst c24
              have H1 : ((jacquardlaw02_works.f kj3).bind fun t332 => (some t332)) = some true := by rw [if_pos rfl] at H; exact H
              clear H
              have H := H1
              clear H1
              replace H := Option.bind_eq_some_iff.mp H
              obtain ⟨t332, A250, H⟩ := H
              replace H : (some t332) = some true := H
              have A25 := Aside0.mk A250
              clear A250
              replace H := Option.some.inj H
              go_wp2_with (first | ((with_reducible refine gate_callee (f := 11) rfl ?_); refine goesL_ (some 40) rfl rfl Tryd.func11 (by kernel_rfl) rfl #[.slice A1 l1.length c1] rfl (by (try simp only [List.map_toArray, List.map_cons, List.map_nil]); first | done | rfl | (simp only [List.length_drop, List.length_take]; rfl)) ?_; (with_reducible refine (name_Letters.calls (hT := by first | exact HT.out | exact Go.Proofs.YtcnmpciohpcpiaaDoorTabs.Tab.below HT.out (by repeat (first | (with_reducible first | exact HB.out | apply below_alloc | apply pw_below_drewN | apply below_drew1) | exact HB.out)) | exact Go.Proofs.YtcnmpciohpcpiaaDoorTabs.Tab.drawn HT.out (by repeat (first | exact Drawn0.refl _ | apply Drawn0.step))) kj3 _ _ l1 t320 t321 _ ?side1 ?side2 A17.out).mono ?_); (case side1 => repeat (first | exact (Kd.C_below HR1.out HB.out) | (with_reducible refine Kd.C_alloc ?_ _) | (with_reducible refine Kd.C_drewN ?_ _) | (with_reducible refine Kd.C_drew ?_))); (case side2 => exact HC1.out); rintro e w26 ⟨v322, rfl, ho0, hb⟩; refine ⟨_, rfl, ?_⟩; have n0_ := Aside0.mk (Kd.R_lower ho0 (below_size (by repeat (first | (with_reducible first | exact HB.out | apply below_alloc | apply pw_below_drewN | apply below_drew1) | exact HB.out)))); have n1_ := Aside0.mk (below_step (by repeat (first | (with_reducible first | exact HB.out | apply below_alloc | apply pw_below_drewN | apply below_drew1) | exact HB.out)) hb); clear HB; have HO323 := n0_; have HB := n1_; clear n0_ n1_; (try clear hb); (try clear hb2); (try clear hk); (try clear hi); (try clear ho0); obtain ⟨Ao27, co27, eo27⟩ := Kd.R_slice HO323.out; subst eo27) | ((with_reducible refine gate_callee (f := 17) rfl ?_); refine goesL_ (some 58) rfl rfl Tryd.func17 (by kernel_rfl) rfl #[.slice Ao27 t320.length co27] rfl (by (try simp only [List.map_toArray, List.map_cons, List.map_nil]); first | done | rfl | (simp only [List.length_drop, List.length_take]; rfl)) ?_; (with_reducible refine (name_Put.calls kj3 _ _ t320 t326 t327 _ ?side1 ?side2 A19.out).mono ?_); (case side1 => repeat (first | exact (Kd.R_reads' HO323.out).2.2 | (with_reducible refine Kd.C_alloc ?_ _) | (with_reducible refine Kd.C_drewN ?_ _) | (with_reducible refine Kd.C_drew ?_))); (case side2 => exact (Kd.R_reads' HO323.out).2.1); rintro e w28 ⟨v328, rfl, ho0, hb⟩; refine ⟨_, rfl, ?_⟩; have n0_ := Aside0.mk (Kd.R_below (by (with_reducible repeat (first | apply Kd.R_alloc | apply Kd.R_drewN | apply Kd.R_drew)); exact HO323.out) hb); have n1_ := Aside0.mk (Kd.R_lower ho0 (below_size (by repeat (first | (with_reducible first | exact HB.out | apply below_alloc | apply pw_below_drewN | apply below_drew1) | exact HB.out)))); have n2_ := Aside0.mk (below_step (by repeat (first | (with_reducible first | exact HB.out | apply below_alloc | apply pw_below_drewN | apply below_drew1) | exact HB.out)) hb); clear HO323; clear HB; have HO323 := n0_; have HO329 := n1_; have HB := n2_; clear n0_ n1_ n2_; (try clear hb); (try clear hb2); (try clear hk); (try clear hi); (try clear ho0); obtain ⟨Ao29, co29, eo29⟩ := Kd.R_slice HO329.out; subst eo29) | (go_at_call 19; (with_reducible refine (jacquardref00_Same.calls kj3 _ _ t326 _ _ l1 true _ ?side1 ?side2 ?side3 ?side4 A21.out).mono ?_); (case side1 => repeat (first | exact (Kd.R_reads' HO329.out).2.2 | (with_reducible refine Kd.C_alloc ?_ _) | (with_reducible refine Kd.C_drewN ?_ _) | (with_reducible refine Kd.C_drew ?_))); (case side2 => exact (Kd.R_reads' HO329.out).2.1); (case side3 => repeat (first | exact (Kd.C_below HR1.out HB.out) | (with_reducible refine Kd.C_alloc ?_ _) | (with_reducible refine Kd.C_drewN ?_ _) | (with_reducible refine Kd.C_drew ?_))); (case side4 => exact HC1.out); rintro e w' ⟨rfl, ⟨nd, rfl⟩⟩) | (go_at_call 14; (with_reducible refine (name_Is.calls (hT := by first | exact HT.out | exact Go.Proofs.YtcnmpciohpcpiaaDoorTabs.Tab.below HT.out (by repeat (first | (with_reducible first | exact HB.out | apply below_alloc | apply pw_below_drewN | apply below_drew1) | exact HB.out)) | exact Go.Proofs.YtcnmpciohpcpiaaDoorTabs.Tab.drawn HT.out (by repeat (first | exact Drawn0.refl _ | apply Drawn0.step))) kj3 _ _ l1 true _ ?side1 ?side2 A23.out).mono ?_); (case side1 => repeat (first | exact (Kd.C_below HR1.out (by repeat (first | (with_reducible first | exact HB.out | apply below_alloc | apply pw_below_drewN | apply below_drew1) | exact HB.out))) | (with_reducible refine Kd.C_alloc ?_ _) | (with_reducible refine Kd.C_drewN ?_ _) | (with_reducible refine Kd.C_drew ?_))); (case side2 => exact HC1.out); rintro e w30 ⟨rfl, hb⟩; have n0_ := Aside0.mk (Kd.R_below (by (with_reducible repeat (first | apply Kd.R_alloc | apply Kd.R_drewN | apply Kd.R_drew)); exact HO323.out) hb); have n1_ := Aside0.mk (Kd.R_below (by (with_reducible repeat (first | apply Kd.R_alloc | apply Kd.R_drewN | apply Kd.R_drew)); exact HO329.out) hb); have n2_ := Aside0.mk (below_step (by repeat (first | (with_reducible first | exact HB.out | apply below_alloc | apply pw_below_drewN | apply below_drew1) | exact HB.out)) hb); clear HO323; clear HO329; clear HB; have HO323 := n0_; have HO329 := n1_; have HB := n2_; clear n0_ n1_ n2_; (try clear hb); (try clear hb2); (try clear hk); (try clear hi)) | (go_at_call 16; (with_reducible refine (jacquardlaw02_works.calls (hT := by first | exact HT.out | exact Go.Proofs.YtcnmpciohpcpiaaDoorTabs.Tab.below HT.out (by repeat (first | (with_reducible first | exact HB.out | apply below_alloc | apply pw_below_drewN | apply below_drew1) | exact HB.out)) | exact Go.Proofs.YtcnmpciohpcpiaaDoorTabs.Tab.drawn HT.out (by repeat (first | exact Drawn0.refl _ | apply Drawn0.step))) kj3  t332 _ A25.out).mono ?_); rintro e w31 ⟨rfl, hb⟩; have n0_ := Aside0.mk (Kd.R_below (by (with_reducible repeat (first | apply Kd.R_alloc | apply Kd.R_drewN | apply Kd.R_drew)); exact HO323.out) hb); have n1_ := Aside0.mk (Kd.R_below (by (with_reducible repeat (first | apply Kd.R_alloc | apply Kd.R_drewN | apply Kd.R_drew)); exact HO329.out) hb); have n2_ := Aside0.mk (below_step (by repeat (first | (with_reducible first | exact HB.out | apply below_alloc | apply pw_below_drewN | apply below_drew1) | exact HB.out)) hb); clear HO323; clear HO329; clear HB; have HO323 := n0_; have HO329 := n1_; have HB := n2_; clear n0_ n1_ n2_; (try clear hb); (try clear hb2); (try clear hk); (try clear hi)))
              go_ret
              exact ⟨by first | rfl | (simp [errW_none, errW_some] <;> rfl) | (simp [*, errW_none, errW_some] <;> rfl), by repeat (first | (with_reducible first | exact HB.out | apply below_alloc | apply pw_below_drewN | apply below_drew1) | exact HB.out)⟩
            · replace c24 := Bool.eq_false_iff.mpr c24
              subst c24
              have H1 : (some false) = some true := by rw [if_neg (show ¬ (false = true) by decide)] at H; exact H
              clear H
              have H := H1
              clear H1
              exact absurd H (by simp)
          · replace c22 := Bool.eq_false_iff.mpr c22
            subst c22
            have H1 : (some false) = some true := by rw [if_neg (show ¬ (false = true) by decide)] at H; exact H
            clear H
            have H := H1
            clear H1
            exact absurd H (by simp)
        · rw [if_neg c20] at H
          have c20b0 : (t327 == 0) = false := beq_eq_false_iff_ne.mpr c20
          have c20b1 : (t327 != 0) = true := bne_iff_ne.mpr c20
          exact absurd H (by simp)
      · rw [if_neg c18] at H
        have c18b0 : (t321 == 0) = false := beq_eq_false_iff_ne.mpr c18
        have c18b1 : (t321 != 0) = true := bne_iff_ne.mpr c18
        replace H := Option.bind_eq_some_iff.mp H
        obtain ⟨t324, A320, H⟩ := H
        replace H : (if t324 = true then (some false) else (if (t320.length : Int) = 0 then ((jacquardlaw02_works.f kj3).bind fun t325 => (some t325)) else (some false))) = some true := H
        have A32 := Aside0.mk A320
        clear A320
        by_cases c33 : t324 = true
        · subst c33
          have H1 : (some false) = some true := by rw [if_pos rfl] at H; exact H
          clear H
          have H := H1
          clear H1
          exact absurd H (by simp)
        · replace c33 := Bool.eq_false_iff.mpr c33
          subst c33
          have H1 : (if (t320.length : Int) = 0 then ((jacquardlaw02_works.f kj3).bind fun t325 => (some t325)) else (some false)) = some true := by rw [if_neg (show ¬ (false = true) by decide)] at H; exact H
          clear H
          have H := H1
          clear H1
          by_cases c34 : (t320.length : Int) = 0
          · rw [if_pos c34] at H
            have c34b0 : ((t320.length : Int) == 0) = true := beq_iff_eq.mpr c34
            have c34b1 : ((t320.length : Int) != 0) = false := bne_eq_false_iff_eq.mpr c34
            clear c34
            replace H := Option.bind_eq_some_iff.mp H
            obtain ⟨t325, A350, H⟩ := H
            replace H : (some t325) = some true := H
            have A35 := Aside0.mk A350
            clear A350
            replace H := Option.some.inj H
            go_wp2_with (first | ((with_reducible refine gate_callee (f := 11) rfl ?_); refine goesL_ (some 40) rfl rfl Tryd.func11 (by kernel_rfl) rfl #[.slice A1 l1.length c1] rfl (by (try simp only [List.map_toArray, List.map_cons, List.map_nil]); first | done | rfl | (simp only [List.length_drop, List.length_take]; rfl)) ?_; (with_reducible refine (name_Letters.calls (hT := by first | exact HT.out | exact Go.Proofs.YtcnmpciohpcpiaaDoorTabs.Tab.below HT.out (by repeat (first | (with_reducible first | exact HB.out | apply below_alloc | apply pw_below_drewN | apply below_drew1) | exact HB.out)) | exact Go.Proofs.YtcnmpciohpcpiaaDoorTabs.Tab.drawn HT.out (by repeat (first | exact Drawn0.refl _ | apply Drawn0.step))) kj3 _ _ l1 t320 t321 _ ?side1 ?side2 A17.out).mono ?_); (case side1 => repeat (first | exact (Kd.C_below HR1.out HB.out) | (with_reducible refine Kd.C_alloc ?_ _) | (with_reducible refine Kd.C_drewN ?_ _) | (with_reducible refine Kd.C_drew ?_))); (case side2 => exact HC1.out); rintro e w36 ⟨v322, rfl, ho0, hb⟩; refine ⟨_, rfl, ?_⟩; have n0_ := Aside0.mk (Kd.R_lower ho0 (below_size (by repeat (first | (with_reducible first | exact HB.out | apply below_alloc | apply pw_below_drewN | apply below_drew1) | exact HB.out)))); have n1_ := Aside0.mk (below_step (by repeat (first | (with_reducible first | exact HB.out | apply below_alloc | apply pw_below_drewN | apply below_drew1) | exact HB.out)) hb); clear HB; have HO323 := n0_; have HB := n1_; clear n0_ n1_; (try clear hb); (try clear hb2); (try clear hk); (try clear hi); (try clear ho0)) | ((with_reducible refine gate_callee (f := 14) rfl ?_); refine goesL_ (some 46) rfl rfl Tryd.func14 (by kernel_rfl) rfl #[.slice A1 l1.length c1] rfl (by (try simp only [List.map_toArray, List.map_cons, List.map_nil]); first | done | rfl | (simp only [List.length_drop, List.length_take]; rfl)) ?_; (with_reducible refine (name_Is.calls (hT := by first | exact HT.out | exact Go.Proofs.YtcnmpciohpcpiaaDoorTabs.Tab.below HT.out (by repeat (first | (with_reducible first | exact HB.out | apply below_alloc | apply pw_below_drewN | apply below_drew1) | exact HB.out)) | exact Go.Proofs.YtcnmpciohpcpiaaDoorTabs.Tab.drawn HT.out (by repeat (first | exact Drawn0.refl _ | apply Drawn0.step))) kj3 _ _ l1 false _ ?side1 ?side2 A32.out).mono ?_); (case side1 => repeat (first | exact (Kd.C_below HR1.out HB.out) | (with_reducible refine Kd.C_alloc ?_ _) | (with_reducible refine Kd.C_drewN ?_ _) | (with_reducible refine Kd.C_drew ?_))); (case side2 => exact HC1.out); rintro e w37 ⟨rfl, hb⟩; refine ⟨_, rfl, ?_⟩; have n0_ := Aside0.mk (Kd.R_below (by (with_reducible repeat (first | apply Kd.R_alloc | apply Kd.R_drewN | apply Kd.R_drew)); exact HO323.out) hb); have n1_ := Aside0.mk (below_step (by repeat (first | (with_reducible first | exact HB.out | apply below_alloc | apply pw_below_drewN | apply below_drew1) | exact HB.out)) hb); clear HO323; clear HB; have HO323 := n0_; have HB := n1_; clear n0_ n1_; (try clear hb); (try clear hb2); (try clear hk); (try clear hi); obtain ⟨Ao38, co38, eo38⟩ := Kd.R_slice HO323.out; subst eo38) | (go_at_call 16; (with_reducible refine (jacquardlaw02_works.calls (hT := by first | exact HT.out | exact Go.Proofs.YtcnmpciohpcpiaaDoorTabs.Tab.below HT.out (by repeat (first | (with_reducible first | exact HB.out | apply below_alloc | apply pw_below_drewN | apply below_drew1) | exact HB.out)) | exact Go.Proofs.YtcnmpciohpcpiaaDoorTabs.Tab.drawn HT.out (by repeat (first | exact Drawn0.refl _ | apply Drawn0.step))) kj3  t325 _ A35.out).mono ?_); rintro e w39 ⟨rfl, hb⟩; have n0_ := Aside0.mk (Kd.R_below (by (with_reducible repeat (first | apply Kd.R_alloc | apply Kd.R_drewN | apply Kd.R_drew)); exact HO323.out) hb); have n1_ := Aside0.mk (below_step (by repeat (first | (with_reducible first | exact HB.out | apply below_alloc | apply pw_below_drewN | apply below_drew1) | exact HB.out)) hb); clear HO323; clear HB; have HO323 := n0_; have HB := n1_; clear n0_ n1_; (try clear hb); (try clear hb2); (try clear hk); (try clear hi)))
            go_ret
            exact ⟨by first | rfl | (simp [errW_none, errW_some] <;> rfl) | (simp [*, errW_none, errW_some] <;> rfl), by repeat (first | (with_reducible first | exact HB.out | apply below_alloc | apply pw_below_drewN | apply below_drew1) | exact HB.out)⟩
          · rw [if_neg c34] at H
            have c34b0 : ((t320.length : Int) == 0) = false := beq_eq_false_iff_ne.mpr c34
            have c34b1 : ((t320.length : Int) != 0) = true := bne_iff_ne.mpr c34
            have c34b2 : ¬ (t320 = []) := fun h_ => c34 (by rw [h_]; rfl)
            exact absurd H (by simp)

/-- THE ONE PURE STATEMENT of jacquardlaw02_NameBack: yours. -/
def jacquardlaw02_NameBack.Pure : Prop := ∀ (l0 : List Int) (l1 : List Int), l0.length ≤ maxLen → l0.length * 4 ≤ 140737488351232 → (∀ x ∈ l0, (Lit.int .i32 x).wf = true) → l1.length ≤ maxLen → l1.length * 1 ≤ 140737488351232 → (∀ x ∈ l1, (Lit.int .u8 x).wf = true) → ∃ k, jacquardlaw02_NameBack.f k l0 l1 = some true
theorem jacquardlaw02_NameBack.walk (P : jacquardlaw02_NameBack.Pure) (a0 : Option Addr) (len0 cap0 : Nat) (z0 : List Int) (a1 : Option Addr) (len1 cap1 : Nat) (z1 : List Int) (w : World) (hT : Go.Proofs.YtcnmpciohpcpiaaDoorTabs.Tab w) (w0 : (a0 = none ∧ len0 = 0 ∧ cap0 = 0 ∧ z0 = []) ∨ ∃ x, a0 = some x ∧ len0 ≤ cap0 ∧ cap0 ≤ maxLen ∧ z0.length = cap0 ∧ (∀ i, i < z0.length → w.cell? (x.add i) = some (.int .i32 (z0.getD i 0))) ∧ ∀ n ∈ z0, (Lit.int .i32 n).wf = true) (y0 : len0 * 4 ≤ 140737488351232) (w1 : (a1 = none ∧ len1 = 0 ∧ cap1 = 0 ∧ z1 = []) ∨ ∃ x, a1 = some x ∧ len1 ≤ cap1 ∧ cap1 ≤ maxLen ∧ z1.length = cap1 ∧ (∀ i, i < z1.length → w.cell? (x.add i) = some (.int .u8 (z1.getD i 0))) ∧ ∀ n ∈ z1, (Lit.int .u8 n).wf = true) (y1 : len1 * 1 ≤ 140737488351232) :
    Calls Tryd.prog 5 #[.slice a0 len0 cap0, .slice a1 len1 cap1] w fun e w' => e = .returned (.bool true) ∧ Below w.heap.size w w' := by
  have HT := Aside0.mk hT
  clear hT
  obtain ⟨l0, rfl, hr0, hm0, hw0, hc0⟩ := ReadsInt.ofRowC w0
  obtain ⟨l1, rfl, hr1, hm1, hw1, hc1⟩ := ReadsInt.ofRowC w1
  obtain ⟨k, h⟩ := P l0 l1 hm0 y0 hw0 hm1 y1 hw1
  refine (jacquardlaw02_NameBack.calls (hT := by first | exact HT.out | exact Go.Proofs.YtcnmpciohpcpiaaDoorTabs.Tab.below HT.out (by repeat (first | (with_reducible first | exact HB.out | apply below_alloc | apply pw_below_drewN | apply below_drew1) | exact HB.out)) | exact Go.Proofs.YtcnmpciohpcpiaaDoorTabs.Tab.drawn HT.out (by repeat (first | exact Drawn0.refl _ | apply Drawn0.step))) k _ _ l0 _ _ l1 w (Kd.C_of_reads (d := (0 : Int)) (h1 := fun _ => rfl) hr0) hc0 (Kd.C_of_reads (d := (0 : Int)) (h1 := fun _ => rfl) hr1) hc1 h).mono ?_
  rintro e w' ⟨rfl, hd⟩
  exact ⟨rfl, hd⟩

end Go.Proofs.YtcnmpciohpcpiaaDoor.P
