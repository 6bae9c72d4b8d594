-- Printed by a program of this session (wip/patch-print.py over the kit's print): Lean checks it.
import Derived.Test.YthillgpbenjldaaPx0
namespace Go.Proofs.Ythillgpbenjldaa.P
open Go.Proofs.YthillgpbenjldaaCaps
open Go.RowKit Go.Proofs.YthillgpbenjldaaW.PrintWords Go.Proofs.YthillgpbenjldaaW.PrintLast Go.Proofs.YthillgpbenjldaaW.PrintMore
attribute [local go_sem] max2_int min2_int max_two min_two max_three min_three max_four min_four   -- for this text's walks alone
set_option linter.unusedVariables false
set_option linter.unusedSimpArgs false

/-! ### types_byteAt: function 49 -/
def types_byteAt.j0 : Nat → List Int → Int → Bool → Option (Int × Int)
  | 0, _, _, _ => none
  | k + 1, x0, x1, x6 => if x6 = true then (some (0, 2)) else (if x1 = (x0.length : Int) then (some (0, 4)) else (if 0 ≤ x1 then (if x1 < (x0.length : Int) then (some (rd x0 x1, 0)) else (none)) else (none)))
def types_byteAt.f (k : Nat) (l0 : List Int) (a1 : Int) : Option (Int × Int) := if a1 < 0 then (types_byteAt.j0 k l0 a1 true) else (types_byteAt.j0 k l0 a1 (decide (a1 > (l0.length : Int))))
theorem types_byteAt.mono_l : ∀ k, (∀ y0 y1 y2, LeO (types_byteAt.j0 k y0 y1 y2) (types_byteAt.j0 (k + 1) y0 y1 y2))
  | 0 => fun _ _ _ r h => by simp [types_byteAt.j0] at h
  | k + 1 => by
    have ih0 := types_byteAt.mono_l k
    · intro y0 y1 y2
      unfold types_byteAt.j0
      repeat' first
      | (with_reducible exact ih0 _ _ _)
      | (with_reducible exact LeO.refl _)
      | (with_reducible exact LeO.none _)
      | (with_reducible refine LeO.ite ?_ ?_)
      | (with_reducible refine LeO.bind ?_ (fun _ => ?_))
      | exact ih0 _ _ _
      | exact LeO.none _
      | refine LeO.ite ?_ ?_
      | refine LeO.bind ?_ (fun _ => ?_)
theorem types_byteAt.mono : ∀ a0 a1 k, LeO (types_byteAt.f k a0 a1) (types_byteAt.f (k + 1) a0 a1) := by
  intro a0 a1 k
  have ih0 := types_byteAt.mono_l k
  unfold types_byteAt.f
  repeat' first
      | (with_reducible exact ih0 _ _ _)
      | (with_reducible exact LeO.refl _)
      | (with_reducible exact LeO.none _)
      | (with_reducible refine LeO.ite ?_ ?_)
      | (with_reducible refine LeO.bind ?_ (fun _ => ?_))
      | exact ih0 _ _ _
      | exact LeO.none _
      | refine LeO.ite ?_ ?_
      | refine LeO.bind ?_ (fun _ => ?_)
set_option maxHeartbeats 8000000 in
set_option maxRecDepth 100000 in
theorem types_byteAt.calls (k : Nat) (A0 : Option Addr) (c0 : Nat) (l0 : List Int) (a1 : Int) (r1 : Int) (r2 : Int) (w : World) (hr0 : Kd.C (Kd.int .u8) w A0 l0.length l0) (hc0 : l0.length ≤ c0) (h : types_byteAt.f k l0 a1 = some (r1, r2)) :
    Calls Try.prog 49 #[.slice A0 l0.length c0, .int .i64 a1] w fun e w' => e = .returned (.tuple #[.int .u8 r1, .int .i64 r2]) ∧ Drawn0 w w' := by
  have HR0 := Aside0.mk hr0
  have HC0 := Aside0.mk hc0
  clear hr0 hc0
  have H : (if a1 < 0 then (types_byteAt.j0 k l0 a1 true) else (types_byteAt.j0 k l0 a1 (decide (a1 > (l0.length : Int))))) = some (r1, r2) := h
  clear h
  have HC3 := Aside0.mk H
  clear H
  go_enter Try.func49, Try.ntmps49
  go_upto_region 1 with (fail)
  go_cut [6] (fun v6 wc => ∃ (kq : Nat) (x6_2 : Bool), v6 = .bool x6_2 ∧ Aside0 (types_byteAt.j0 kq l0 a1 x6_2 = some (r1, r2)) ∧ Aside0 (kq ≤ k) ∧ Drawn0 w wc)
  case first =>
    have H := HC3.out
    clear HC3
    by_cases c4 : a1 < 0
    · rw [if_pos c4] at H
      have c4b0 : decide (a1 < 0) = true := decide_eq_true c4
      clear c4
      (first | rw [c4b0] | (simp only [i64_w, i32_w]; rw [c4b0]) | skip)
      have H' := Aside0.mk H
      clear H
      go_wp2
      go_meet
      case rel => exact ⟨_, (true), (by first | rfl | (simp; done) | (simp [*]; done)), H', ⟨by first | omega | exact Nat.le_refl _⟩, by repeat (first | exact Drawn0.refl _ | apply Drawn0.step)⟩
    · rw [if_neg c4] at H
      have c4b0 : decide (a1 < 0) = false := decide_eq_false c4
      clear c4
      (first | rw [c4b0] | (simp only [i64_w, i32_w]; rw [c4b0]) | skip)
      have H' := Aside0.mk H
      clear H
      go_wp2
      go_meet
      case rel => exact ⟨_, (decide (a1 > (l0.length : Int))), (by first | rfl | (simp; done) | (simp [*]; done)), H', ⟨by first | omega | exact Nat.le_refl _⟩, by repeat (first | exact Drawn0.refl _ | apply Drawn0.step)⟩
  case rest =>
    clear HC3
    try clear p2
    try clear c4
    try clear c4b0
    obtain ⟨kq, x6_2, rfl, HA, HJ2, ⟨mc2, rfl⟩⟩ := hcut
    cases kq with
    | zero => exact absurd HA.out (by simp [types_byteAt.j0])
    | succ kj2 =>
      have H := HA.out
      clear HA
      simp only [types_byteAt.j0] at H
      by_cases c5 : x6_2 = true
      · subst c5
        have H1 : (some (0, 2)) = some (r1, r2) := by rw [if_pos rfl] at H; exact H
        clear H
        have H := H1
        clear H1
        simp only [Option.some.injEq, Prod.mk.injEq] at H
        obtain ⟨rfl, rfl⟩ := H
        go_wp2
        go_ret2
        exact ⟨by first | rfl | (simp; done) | (simp [*]; done), by repeat (first | exact Drawn0.refl _ | apply Drawn0.step)⟩
      · replace c5 := Bool.eq_false_iff.mpr c5
        subst c5
        have H1 : (if a1 = (l0.length : Int) then (some (0, 4)) else (if 0 ≤ a1 then (if a1 < (l0.length : Int) then (some (rd l0 a1, 0)) else (none)) else (none))) = some (r1, r2) := by rw [if_neg (show ¬ (false = true) by decide)] at H; exact H
        clear H
        have H := H1
        clear H1
        by_cases c6 : a1 = (l0.length : Int)
        · rw [if_pos c6] at H
          have c6b0 : (a1 == (l0.length : Int)) = true := beq_iff_eq.mpr c6
          have c6b1 : (a1 != (l0.length : Int)) = false := bne_eq_false_iff_eq.mpr c6
          clear c6
          simp only [Option.some.injEq, Prod.mk.injEq] at H
          obtain ⟨rfl, rfl⟩ := H
          go_wp2
          go_ret2
          exact ⟨by first | rfl | (simp; done) | (simp [*]; done), by repeat (first | exact Drawn0.refl _ | apply Drawn0.step)⟩
        · rw [if_neg c6] at H
          have c6b0 : (a1 == (l0.length : Int)) = false := beq_eq_false_iff_ne.mpr c6
          have c6b1 : (a1 != (l0.length : Int)) = true := bne_iff_ne.mpr c6
          by_cases c7 : 0 ≤ a1
          · rw [if_pos c7] at H
            have c7b0 : decide (0 ≤ a1) = true := decide_eq_true c7
            clear c7
            by_cases c8 : a1 < (l0.length : Int)
            · rw [if_pos c8] at H
              have c8b0 : decide (a1 < (l0.length : Int)) = true := decide_eq_true c8
              clear c8
              simp only [Option.some.injEq, Prod.mk.injEq] at H
              obtain ⟨rfl, rfl⟩ := H
              have p101 : 0 ≤ (a1 : Int) := of_decide_eq_true (by first | (with_reducible assumption) | assumption)
              have q101 : a1 < (l0.length : Int) := of_decide_eq_true (by first | (with_reducible assumption) | assumption)
              obtain ⟨ad101, e101, hx101_0⟩ := Kd.at_int HR0.out a1 p101 q101
              cases e101
              replace p101 := eq_true p101
              replace q101 := eq_true q101
              go_wp2
              go_ret2
              exact ⟨by first | rfl | (simp; done) | (simp [*]; done), by repeat (first | exact Drawn0.refl _ | apply Drawn0.step)⟩
            · rw [if_neg c8] at H
              exact absurd H (by simp)
          · rw [if_neg c7] at H
            exact absurd H (by simp)

/-! ### types_Is: function 18 -/
def types_Is.f (a0 : Int) : Option (Bool) := if a0 = 127 then (some true) else (if a0 = 126 then (some true) else (if a0 = 125 then (some true) else (if a0 = 124 then (some true) else (if a0 = 123 then (some true) else (if a0 = 112 then (some true) else (if a0 = 111 then (some true) else (some false)))))))
set_option maxHeartbeats 8000000 in
set_option maxRecDepth 100000 in
theorem types_Is.calls (a0 : Int) (r : Bool) (w : World) (h : types_Is.f a0 = some r) :
    Calls Try.prog 18 #[.int .u8 a0] w fun e w' => e = .returned (.bool r) ∧ Drawn0 w w' := by
  have H : (if a0 = 127 then (some true) else (if a0 = 126 then (some true) else (if a0 = 125 then (some true) else (if a0 = 124 then (some true) else (if a0 = 123 then (some true) else (if a0 = 112 then (some true) else (if a0 = 111 then (some true) else (some false)))))))) = some r := h
  clear h
  by_cases c2 : a0 = 127
  · rw [if_pos c2] at H
    have c2b0 : (a0 == 127) = true := beq_iff_eq.mpr c2
    have c2b1 : (a0 != 127) = false := bne_eq_false_iff_eq.mpr c2
    clear c2
    obtain rfl := Option.some.inj H
    go_enter Try.func18, Try.ntmps18
    go_wp2
    go_ret
    exact ⟨by first | rfl | (simp; done) | (simp [*]; done), by repeat (first | exact Drawn0.refl _ | apply Drawn0.step)⟩
  · rw [if_neg c2] at H
    have c2b0 : (a0 == 127) = false := beq_eq_false_iff_ne.mpr c2
    have c2b1 : (a0 != 127) = true := bne_iff_ne.mpr c2
    by_cases c3 : a0 = 126
    · rw [if_pos c3] at H
      have c3b0 : (a0 == 126) = true := beq_iff_eq.mpr c3
      have c3b1 : (a0 != 126) = false := bne_eq_false_iff_eq.mpr c3
      clear c3
      obtain rfl := Option.some.inj H
      go_enter Try.func18, Try.ntmps18
      go_wp2
      go_ret
      exact ⟨by first | rfl | (simp; done) | (simp [*]; done), by repeat (first | exact Drawn0.refl _ | apply Drawn0.step)⟩
    · rw [if_neg c3] at H
      have c3b0 : (a0 == 126) = false := beq_eq_false_iff_ne.mpr c3
      have c3b1 : (a0 != 126) = true := bne_iff_ne.mpr c3
      by_cases c4 : a0 = 125
      · rw [if_pos c4] at H
        have c4b0 : (a0 == 125) = true := beq_iff_eq.mpr c4
        have c4b1 : (a0 != 125) = false := bne_eq_false_iff_eq.mpr c4
        clear c4
        obtain rfl := Option.some.inj H
        go_enter Try.func18, Try.ntmps18
        go_wp2
        go_ret
        exact ⟨by first | rfl | (simp; done) | (simp [*]; done), by repeat (first | exact Drawn0.refl _ | apply Drawn0.step)⟩
      · rw [if_neg c4] at H
        have c4b0 : (a0 == 125) = false := beq_eq_false_iff_ne.mpr c4
        have c4b1 : (a0 != 125) = true := bne_iff_ne.mpr c4
        by_cases c5 : a0 = 124
        · rw [if_pos c5] at H
          have c5b0 : (a0 == 124) = true := beq_iff_eq.mpr c5
          have c5b1 : (a0 != 124) = false := bne_eq_false_iff_eq.mpr c5
          clear c5
          obtain rfl := Option.some.inj H
          go_enter Try.func18, Try.ntmps18
          go_wp2
          go_ret
          exact ⟨by first | rfl | (simp; done) | (simp [*]; done), by repeat (first | exact Drawn0.refl _ | apply Drawn0.step)⟩
        · rw [if_neg c5] at H
          have c5b0 : (a0 == 124) = false := beq_eq_false_iff_ne.mpr c5
          have c5b1 : (a0 != 124) = true := bne_iff_ne.mpr c5
          by_cases c6 : a0 = 123
          · rw [if_pos c6] at H
            have c6b0 : (a0 == 123) = true := beq_iff_eq.mpr c6
            have c6b1 : (a0 != 123) = false := bne_eq_false_iff_eq.mpr c6
            clear c6
            obtain rfl := Option.some.inj H
            go_enter Try.func18, Try.ntmps18
            go_wp2
            go_ret
            exact ⟨by first | rfl | (simp; done) | (simp [*]; done), by repeat (first | exact Drawn0.refl _ | apply Drawn0.step)⟩
          · rw [if_neg c6] at H
            have c6b0 : (a0 == 123) = false := beq_eq_false_iff_ne.mpr c6
            have c6b1 : (a0 != 123) = true := bne_iff_ne.mpr c6
            by_cases c7 : a0 = 112
            · rw [if_pos c7] at H
              have c7b0 : (a0 == 112) = true := beq_iff_eq.mpr c7
              have c7b1 : (a0 != 112) = false := bne_eq_false_iff_eq.mpr c7
              clear c7
              obtain rfl := Option.some.inj H
              go_enter Try.func18, Try.ntmps18
              go_wp2
              go_ret
              exact ⟨by first | rfl | (simp; done) | (simp [*]; done), by repeat (first | exact Drawn0.refl _ | apply Drawn0.step)⟩
            · rw [if_neg c7] at H
              have c7b0 : (a0 == 112) = false := beq_eq_false_iff_ne.mpr c7
              have c7b1 : (a0 != 112) = true := bne_iff_ne.mpr c7
              by_cases c8 : a0 = 111
              · rw [if_pos c8] at H
                have c8b0 : (a0 == 111) = true := beq_iff_eq.mpr c8
                have c8b1 : (a0 != 111) = false := bne_eq_false_iff_eq.mpr c8
                clear c8
                obtain rfl := Option.some.inj H
                go_enter Try.func18, Try.ntmps18
                go_wp2
                go_ret
                exact ⟨by first | rfl | (simp; done) | (simp [*]; done), by repeat (first | exact Drawn0.refl _ | apply Drawn0.step)⟩
              · rw [if_neg c8] at H
                have c8b0 : (a0 == 111) = false := beq_eq_false_iff_ne.mpr c8
                have c8b1 : (a0 != 111) = true := bne_iff_ne.mpr c8
                obtain rfl := Option.some.inj H
                go_enter Try.func18, Try.ntmps18
                go_wp2
                go_ret
                exact ⟨by first | rfl | (simp; done) | (simp [*]; done), by repeat (first | exact Drawn0.refl _ | apply Drawn0.step)⟩

/-! ### types_Val: function 14 -/
def types_Val.f (k : Nat) (l0 : List Int) (a1 : Int) : Option (Int × Int × Int) := (types_byteAt.f k l0 a1).bind fun bt102 => (if bt102.2 = 0 then ((types_Is.f bt102.1).bind fun t104 => (if t104 = true then (some (bt102.1, wrap64 (a1 + 1), 0)) else (some (0, 0, 4)))) else (some (0, 0, bt102.2)))
theorem types_Val.mono : ∀ a0 a1 k, LeO (types_Val.f k a0 a1) (types_Val.f (k + 1) a0 a1) := by
  intro a0 a1 k
  unfold types_Val.f
  repeat' first
      | (with_reducible exact types_byteAt.mono _ _ _)
      | (with_reducible exact LeO.refl _)
      | (with_reducible exact LeO.none _)
      | (with_reducible refine LeO.ite ?_ ?_)
      | (with_reducible refine LeO.bind ?_ (fun _ => ?_))
      | exact types_byteAt.mono _ _ _
      | exact LeO.none _
      | refine LeO.ite ?_ ?_
      | refine LeO.bind ?_ (fun _ => ?_)
set_option maxHeartbeats 8000000 in
set_option maxRecDepth 100000 in
theorem types_Val.calls (k : Nat) (A0 : Option Addr) (c0 : Nat) (l0 : List Int) (a1 : Int) (r1 : Int) (r2 : Int) (r3 : Int) (w : World) (hr0 : Kd.C (Kd.int .u8) w A0 l0.length l0) (hc0 : l0.length ≤ c0) (h : types_Val.f k l0 a1 = some (r1, r2, r3)) :
    Calls Try.prog 14 #[.slice A0 l0.length c0, .int .i64 a1] w fun e w' => e = .returned (.tuple #[.int .u8 r1, .int .i64 r2, .int .i64 r3]) ∧ Drawn0 w w' := by
  have HR0 := Aside0.mk hr0
  have HC0 := Aside0.mk hc0
  clear hr0 hc0
  have H : ((types_byteAt.f k l0 a1).bind fun bt102 => (if bt102.2 = 0 then ((types_Is.f bt102.1).bind fun t104 => (if t104 = true then (some (bt102.1, wrap64 (a1 + 1), 0)) else (some (0, 0, 4)))) else (some (0, 0, bt102.2)))) = some (r1, r2, r3) := h
  clear h
  replace H := Option.bind_eq_some_iff.mp H
  obtain ⟨⟨t102, t103⟩, A30, H⟩ := H
  replace H : (if t103 = 0 then ((types_Is.f t102).bind fun t104 => (if t104 = true then (some (t102, wrap64 (a1 + 1), 0)) else (some (0, 0, 4)))) else (some (0, 0, t103))) = some (r1, r2, r3) := H
  have A3 := Aside0.mk A30
  clear A30
  by_cases c4 : t103 = 0
  · rw [if_pos c4] at H
    have c4b0 : (t103 == 0) = true := beq_iff_eq.mpr c4
    have c4b1 : (t103 != 0) = false := bne_eq_false_iff_eq.mpr c4
    clear c4
    replace H := Option.bind_eq_some_iff.mp H
    obtain ⟨t104, A50, H⟩ := H
    replace H : (if t104 = true then (some (t102, wrap64 (a1 + 1), 0)) else (some (0, 0, 4))) = some (r1, r2, r3) := H
    have A5 := Aside0.mk A50
    clear A50
    by_cases c6 : t104 = true
    · subst c6
      have H1 : (some (t102, wrap64 (a1 + 1), 0)) = some (r1, r2, r3) := by rw [if_pos rfl] at H; exact H
      clear H
      have H := H1
      clear H1
      simp only [Option.some.injEq, Prod.mk.injEq] at H
      obtain ⟨rfl, rfl, rfl⟩ := H
      go_enter Try.func14, Try.ntmps14
      go_wp2_with (first | ((with_reducible refine gate_callee (f := 49) rfl ?_); refine goesL_ (some 11) rfl rfl Try.func49 (by kernel_rfl) rfl #[.slice A0 l0.length c0, .int .i64 a1] rfl (by (try simp only [List.map_toArray, List.map_cons, List.map_nil]); first | done | rfl | (simp only [List.length_drop, List.length_take]; rfl)) ?_; (with_reducible refine (types_byteAt.calls k _ _ l0 a1 t102 t103 _ ?side1 ?side2 A3.out).mono ?_); (case side1 => repeat (first | exact HR0.out | (with_reducible refine Kd.C_alloc ?_ _) | (with_reducible refine Kd.C_drewN ?_ _) | (with_reducible refine Kd.C_drew ?_))); (case side2 => exact HC0.out); rintro e w' ⟨rfl, ⟨nd, rfl⟩⟩; refine ⟨_, rfl, ?_⟩) | ((with_reducible refine gate_callee (f := 18) rfl ?_); refine goesL_ (some 20) rfl rfl Try.func18 (by kernel_rfl) rfl #[.int .u8 t102] rfl (by (try simp only [List.map_toArray, List.map_cons, List.map_nil]); first | done | rfl | (simp only [List.length_drop, List.length_take]; rfl)) ?_; (with_reducible refine (types_Is.calls t102 true _ A5.out).mono ?_); rintro e w' ⟨rfl, ⟨nd, rfl⟩⟩; refine ⟨_, rfl, ?_⟩))
      go_ret3
      exact ⟨by first | rfl | (simp; done) | (simp [*]; done), by repeat (first | exact Drawn0.refl _ | apply Drawn0.step)⟩
    · replace c6 := Bool.eq_false_iff.mpr c6
      subst c6
      have H1 : (some (0, 0, 4)) = some (r1, r2, r3) := by rw [if_neg (show ¬ (false = true) by decide)] at H; exact H
      clear H
      have H := H1
      clear H1
      simp only [Option.some.injEq, Prod.mk.injEq] at H
      obtain ⟨rfl, rfl, rfl⟩ := H
      go_enter Try.func14, Try.ntmps14
      go_wp2_with (first | ((with_reducible refine gate_callee (f := 49) rfl ?_); refine goesL_ (some 11) rfl rfl Try.func49 (by kernel_rfl) rfl #[.slice A0 l0.length c0, .int .i64 a1] rfl (by (try simp only [List.map_toArray, List.map_cons, List.map_nil]); first | done | rfl | (simp only [List.length_drop, List.length_take]; rfl)) ?_; (with_reducible refine (types_byteAt.calls k _ _ l0 a1 t102 t103 _ ?side1 ?side2 A3.out).mono ?_); (case side1 => repeat (first | exact HR0.out | (with_reducible refine Kd.C_alloc ?_ _) | (with_reducible refine Kd.C_drewN ?_ _) | (with_reducible refine Kd.C_drew ?_))); (case side2 => exact HC0.out); rintro e w' ⟨rfl, ⟨nd, rfl⟩⟩; refine ⟨_, rfl, ?_⟩) | ((with_reducible refine gate_callee (f := 18) rfl ?_); refine goesL_ (some 20) rfl rfl Try.func18 (by kernel_rfl) rfl #[.int .u8 t102] rfl (by (try simp only [List.map_toArray, List.map_cons, List.map_nil]); first | done | rfl | (simp only [List.length_drop, List.length_take]; rfl)) ?_; (with_reducible refine (types_Is.calls t102 false _ A5.out).mono ?_); rintro e w' ⟨rfl, ⟨nd, rfl⟩⟩; refine ⟨_, rfl, ?_⟩))
      go_ret3
      exact ⟨by first | rfl | (simp; done) | (simp [*]; done), by repeat (first | exact Drawn0.refl _ | apply Drawn0.step)⟩
  · rw [if_neg c4] at H
    have c4b0 : (t103 == 0) = false := beq_eq_false_iff_ne.mpr c4
    have c4b1 : (t103 != 0) = true := bne_iff_ne.mpr c4
    simp only [Option.some.injEq, Prod.mk.injEq] at H
    obtain ⟨rfl, rfl, rfl⟩ := H
    go_enter Try.func14, Try.ntmps14
    go_wp2_with (first | ((with_reducible refine gate_callee (f := 49) rfl ?_); refine goesL_ (some 11) rfl rfl Try.func49 (by kernel_rfl) rfl #[.slice A0 l0.length c0, .int .i64 a1] rfl (by (try simp only [List.map_toArray, List.map_cons, List.map_nil]); first | done | rfl | (simp only [List.length_drop, List.length_take]; rfl)) ?_; (with_reducible refine (types_byteAt.calls k _ _ l0 a1 t102 t103 _ ?side1 ?side2 A3.out).mono ?_); (case side1 => repeat (first | exact HR0.out | (with_reducible refine Kd.C_alloc ?_ _) | (with_reducible refine Kd.C_drewN ?_ _) | (with_reducible refine Kd.C_drew ?_))); (case side2 => exact HC0.out); rintro e w' ⟨rfl, ⟨nd, rfl⟩⟩; refine ⟨_, rfl, ?_⟩))
    go_ret3
    exact ⟨by first | rfl | (simp; done) | (simp [*]; done), by repeat (first | exact Drawn0.refl _ | apply Drawn0.step)⟩

/-! ### leb_may: function 62 -/
def leb_may.f (l0 : List Int) (a1 : Int) (a2 : Int) : Option (Bool) := if a2 ≥ 1 then (if a2 ≤ 64 then (if a1 ≥ 0 then (some (decide (a1 ≤ (l0.length : Int)))) else (some false)) else (some false)) else (some false)
set_option maxHeartbeats 8000000 in
set_option maxRecDepth 100000 in
theorem leb_may.calls (A0 : Option Addr) (c0 : Nat) (l0 : List Int) (a1 : Int) (a2 : Int) (r : Bool) (w : World) (hr0 : Kd.C (Kd.int .u8) w A0 l0.length l0) (hc0 : l0.length ≤ c0) (h : leb_may.f l0 a1 a2 = some r) :
    Calls Try.prog 62 #[.slice A0 l0.length c0, .int .i64 a1, .int .i64 a2] w fun e w' => e = .returned (.bool r) ∧ Drawn0 w w' := by
  have HR0 := Aside0.mk hr0
  have HC0 := Aside0.mk hc0
  clear hr0 hc0
  have H : (if a2 ≥ 1 then (if a2 ≤ 64 then (if a1 ≥ 0 then (some (decide (a1 ≤ (l0.length : Int)))) else (some false)) else (some false)) else (some false)) = some r := h
  clear h
  by_cases c4 : a2 ≥ 1
  · rw [if_pos c4] at H
    have c4b0 : decide (1 ≤ a2) = true := decide_eq_true c4
    clear c4
    by_cases c5 : a2 ≤ 64
    · rw [if_pos c5] at H
      have c5b0 : decide (a2 ≤ 64) = true := decide_eq_true c5
      clear c5
      by_cases c6 : a1 ≥ 0
      · rw [if_pos c6] at H
        have c6b0 : decide (0 ≤ a1) = true := decide_eq_true c6
        clear c6
        obtain rfl := Option.some.inj H
        go_enter Try.func62, Try.ntmps62
        go_wp2
        go_ret
        exact ⟨by first | rfl | (simp; done) | (simp [*]; done), by repeat (first | exact Drawn0.refl _ | apply Drawn0.step)⟩
      · rw [if_neg c6] at H
        have c6b0 : decide (0 ≤ a1) = false := decide_eq_false c6
        clear c6
        obtain rfl := Option.some.inj H
        go_enter Try.func62, Try.ntmps62
        go_wp2
        go_ret
        exact ⟨by first | rfl | (simp; done) | (simp [*]; done), by repeat (first | exact Drawn0.refl _ | apply Drawn0.step)⟩
    · rw [if_neg c5] at H
      have c5b0 : decide (a2 ≤ 64) = false := decide_eq_false c5
      clear c5
      obtain rfl := Option.some.inj H
      go_enter Try.func62, Try.ntmps62
      go_wp2
      go_ret
      exact ⟨by first | rfl | (simp; done) | (simp [*]; done), by repeat (first | exact Drawn0.refl _ | apply Drawn0.step)⟩
  · rw [if_neg c4] at H
    have c4b0 : decide (1 ≤ a2) = false := decide_eq_false c4
    clear c4
    obtain rfl := Option.some.inj H
    go_enter Try.func62, Try.ntmps62
    go_wp2
    go_ret
    exact ⟨by first | rfl | (simp; done) | (simp [*]; done), by repeat (first | exact Drawn0.refl _ | apply Drawn0.step)⟩

/-! ### leb_end: function 63 -/
def leb_end.l0 : Nat → List Int → Int → Int → Int → Option (Int)
  | 0, _, _, _, _ => none
  | k + 1, x0, x1, x10, x11 => if x11 < x10 then (if (wrap64 (x1 + x11)) = (x0.length : Int) then (some (-1)) else (if 0 ≤ (wrap64 (x1 + x11)) then (if (wrap64 (x1 + x11)) < (x0.length : Int) then (if (rd x0 (wrap64 (x1 + x11))) < 128 then (some (wrap64 ((wrap64 (x1 + x11)) + 1))) else (leb_end.l0 k x0 x1 x10 (wrap64 (x11 + 1)))) else (none)) else (none))) else (some (-1))
def leb_end.f (k : Nat) (l0 : List Int) (a1 : Int) (a2 : Int) : Option (Int) := leb_end.l0 k l0 a1 (wrap64 (Int.tdiv (wrap64 (a2 + 6)) 7)) 0
theorem leb_end.mono_l : ∀ k, (∀ y0 y1 y2 y3, LeO (leb_end.l0 k y0 y1 y2 y3) (leb_end.l0 (k + 1) y0 y1 y2 y3))
  | 0 => fun _ _ _ _ r h => by simp [leb_end.l0] at h
  | k + 1 => by
    have ih0 := leb_end.mono_l k
    · intro y0 y1 y2 y3
      unfold leb_end.l0
      repeat' first
      | (with_reducible exact ih0 _ _ _ _)
      | (with_reducible exact LeO.refl _)
      | (with_reducible exact LeO.none _)
      | (with_reducible refine LeO.ite ?_ ?_)
      | (with_reducible refine LeO.bind ?_ (fun _ => ?_))
      | exact ih0 _ _ _ _
      | exact LeO.none _
      | refine LeO.ite ?_ ?_
      | refine LeO.bind ?_ (fun _ => ?_)
theorem leb_end.mono : ∀ a0 a1 a2 k, LeO (leb_end.f k a0 a1 a2) (leb_end.f (k + 1) a0 a1 a2) := by
  intro a0 a1 a2 k
  have ih0 := leb_end.mono_l k
  unfold leb_end.f
  repeat' first
      | (with_reducible exact ih0 _ _ _ _)
      | (with_reducible exact LeO.refl _)
      | (with_reducible exact LeO.none _)
      | (with_reducible refine LeO.ite ?_ ?_)
      | (with_reducible refine LeO.bind ?_ (fun _ => ?_))
      | exact ih0 _ _ _ _
      | exact LeO.none _
      | refine LeO.ite ?_ ?_
      | refine LeO.bind ?_ (fun _ => ?_)
set_option maxHeartbeats 8000000 in
set_option maxRecDepth 100000 in
theorem leb_end.calls (k : Nat) (A0 : Option Addr) (c0 : Nat) (l0 : List Int) (a1 : Int) (a2 : Int) (r : Int) (w : World) (hr0 : Kd.C (Kd.int .u8) w A0 l0.length l0) (hc0 : l0.length ≤ c0) (h : leb_end.f k l0 a1 a2 = some r) :
    Calls Try.prog 63 #[.slice A0 l0.length c0, .int .i64 a1, .int .i64 a2] w fun e w' => e = .returned (.int .i64 r) ∧ Drawn0 w w' := by
  have HR0 := Aside0.mk hr0
  have HC0 := Aside0.mk hc0
  clear hr0 hc0
  have H : (leb_end.l0 k l0 a1 (wrap64 (Int.tdiv (wrap64 (a2 + 6)) 7)) 0) = some r := h
  clear h
  have H' := Aside0.mk H
  clear H
  go_enter Try.func63, Try.ntmps63
  go_wp2
  (repeat (go_step3; go_wp2))
  go_loopg [11] k (fun kq v11 w' => ∃ (x11_1 : Int), v11 = .int .i64 x11_1 ∧ Aside0 (leb_end.l0 kq l0 a1 (wrap64 (Int.tdiv (wrap64 (a2 + 6)) 7)) x11_1 = some r) ∧ Aside0 (kq ≤ k) ∧ Drawn0 w w')
  case atStart => exact ⟨(0), (by first | rfl | (simp; done) | (simp [*]; done)), H', ⟨Nat.le_refl _⟩, by repeat (first | exact Drawn0.refl _ | apply Drawn0.step)⟩
  case round =>
    clear H'
    try clear p2
    try clear p3
    obtain ⟨x11_1, rfl, HA, HK1, ⟨m1, rfl⟩⟩ := hrel
    cases gk with
    | zero => exact absurd HA.out (by simp [leb_end.l0])
    | succ k1 =>
      have H := HA.out
      clear HA
      simp only [leb_end.l0] at H
      by_cases c4 : x11_1 < (wrap64 (Int.tdiv (wrap64 (a2 + 6)) 7))
      · rw [if_pos c4] at H
        have c4b0 : decide (x11_1 < (wrap64 (Int.tdiv (wrap64 (a2 + 6)) 7))) = true := decide_eq_true c4
        clear c4
        by_cases c5 : (wrap64 (a1 + x11_1)) = (l0.length : Int)
        · rw [if_pos c5] at H
          have c5b0 : ((wrap64 (a1 + x11_1)) == (l0.length : Int)) = true := beq_iff_eq.mpr c5
          have c5b1 : ((wrap64 (a1 + x11_1)) != (l0.length : Int)) = false := bne_eq_false_iff_eq.mpr c5
          clear c5
          obtain rfl := Option.some.inj H
          go_wp2
          (repeat (go_step3; go_wp2))
          go_ret
          exact ⟨by first | rfl | (simp; done) | (simp [*]; done), by repeat (first | exact Drawn0.refl _ | apply Drawn0.step)⟩
        · rw [if_neg c5] at H
          have c5b0 : ((wrap64 (a1 + x11_1)) == (l0.length : Int)) = false := beq_eq_false_iff_ne.mpr c5
          have c5b1 : ((wrap64 (a1 + x11_1)) != (l0.length : Int)) = true := bne_iff_ne.mpr c5
          obtain ⟨ji6, hji6⟩ : ∃ j_ : Int, (wrap64 (a1 + x11_1)) = j_ := ⟨_, rfl⟩
          replace H : (if 0 ≤ (ji6) then (if (ji6) < (l0.length : Int) then (if (rd l0 (ji6)) < 128 then (some (wrap64 ((ji6) + 1))) else (leb_end.l0 k1 l0 a1 (wrap64 (Int.tdiv (wrap64 (a2 + 6)) 7)) (wrap64 (x11_1 + 1)))) else (none)) else (none)) = some r := by first | (rw [hji6] at H; exact H) | (simp only [hji6] at H ⊢; exact H)
          (try rw [hji6] at c5b0)
          (try rw [hji6] at c5b1)
          have hji6w : (IntKind.i64.wrap (a1 + x11_1)) = ji6 := (i64_w _).trans hji6
          by_cases c7 : 0 ≤ (ji6)
          · rw [if_pos c7] at H
            have c7b0 : decide (0 ≤ (ji6)) = true := decide_eq_true c7
            clear c7
            by_cases c8 : (ji6) < (l0.length : Int)
            · rw [if_pos c8] at H
              have c8b0 : decide ((ji6) < (l0.length : Int)) = true := decide_eq_true c8
              clear c8
              by_cases c9 : (rd l0 (ji6)) < 128
              · rw [if_pos c9] at H
                have c9b0 : decide ((rd l0 (ji6)) < 128) = true := decide_eq_true c9
                clear c9
                obtain rfl := Option.some.inj H
                have p105 : 0 ≤ ((ji6) : Int) := of_decide_eq_true (by first | (with_reducible assumption) | assumption)
                have q105 : (ji6) < (l0.length : Int) := of_decide_eq_true (by first | (with_reducible assumption) | assumption)
                obtain ⟨ad105, e105, hx105_0⟩ := Kd.at_int HR0.out (ji6) p105 q105
                cases e105
                replace p105 := eq_true p105
                replace q105 := eq_true q105
                go_wp2
                (repeat (go_step3; go_wp2))
                go_ret
                exact ⟨by first | rfl | (simp; done) | (simp only [← hji6] <;> (first | rfl | simp)) | (simp [*]; done), by repeat (first | exact Drawn0.refl _ | apply Drawn0.step)⟩
              · rw [if_neg c9] at H
                have c9b0 : decide ((rd l0 (ji6)) < 128) = false := decide_eq_false c9
                clear c9
                have H' := Aside0.mk H
                clear H
                have p105 : 0 ≤ ((ji6) : Int) := of_decide_eq_true (by first | (with_reducible assumption) | assumption)
                have q105 : (ji6) < (l0.length : Int) := of_decide_eq_true (by first | (with_reducible assumption) | assumption)
                obtain ⟨ad105, e105, hx105_0⟩ := Kd.at_int HR0.out (ji6) p105 q105
                cases e105
                replace p105 := eq_true p105
                replace q105 := eq_true q105
                go_wp2
                (repeat (go_step3; go_wp2))
                go_roundg k1
                case measure => have := HK1.out; omega
                case rel => exact ⟨(wrap64 (x11_1 + 1)), (by first | rfl | (simp; done) | (simp [*]; done)), H', ⟨by have := HK1.out; omega⟩, by repeat (first | exact Drawn0.refl _ | apply Drawn0.step)⟩
            · rw [if_neg c8] at H
              exact absurd H (by simp)
          · rw [if_neg c7] at H
            exact absurd H (by simp)
      · rw [if_neg c4] at H
        have c4b0 : decide (x11_1 < (wrap64 (Int.tdiv (wrap64 (a2 + 6)) 7))) = false := decide_eq_false c4
        clear c4
        obtain rfl := Option.some.inj H
        go_wp2
        (repeat (go_step3; go_wp2))
        go_ret
        exact ⟨by first | rfl | (simp; done) | (simp [*]; done), by repeat (first | exact Drawn0.refl _ | apply Drawn0.step)⟩

/-! ### leb_U: function 57 -/
def leb_U.l0 : Nat → Int → Int → Int → List Int → Int → Int → Option (Int × Int × Int)
  | 0, _, _, _, _, _, _ => none
  | k + 1, x2, x6, x7, x27, x28, x29 => if x29 < x28 then (if 0 ≤ x29 then (if x29 < (x27.length : Int) then (if 0 ≤ (IntKind.u64.wrap (7 * (IntKind.u64.wrap (x29)))) then (if (shr .u64 (shl .u64 (IntKind.u64.wrap (Go.bits .and .u8 (rd x27 x29) 127)) (IntKind.u64.wrap (7 * (IntKind.u64.wrap (x29))))) (IntKind.u64.wrap (7 * (IntKind.u64.wrap (x29))))) = (IntKind.u64.wrap (Go.bits .and .u8 (rd x27 x29) 127)) then (if x2 < 64 then (if 0 ≤ (IntKind.u64.wrap (x2)) then (if (shr .u64 (shl .u64 (IntKind.u64.wrap (Go.bits .and .u8 (rd x27 x29) 127)) (IntKind.u64.wrap (7 * (IntKind.u64.wrap (x29))))) (IntKind.u64.wrap (x2))) = 0 then (leb_U.l0 k x2 (Go.bits .or .u64 x6 (shl .u64 (IntKind.u64.wrap (Go.bits .and .u8 (rd x27 x29) 127)) (IntKind.u64.wrap (7 * (IntKind.u64.wrap (x29)))))) x7 x27 x28 (wrap64 (x29 + 1))) else (some (0, 0, 4))) else (none)) else (leb_U.l0 k x2 (Go.bits .or .u64 x6 (shl .u64 (IntKind.u64.wrap (Go.bits .and .u8 (rd x27 x29) 127)) (IntKind.u64.wrap (7 * (IntKind.u64.wrap (x29)))))) x7 x27 x28 (wrap64 (x29 + 1)))) else (some (0, 0, 4))) else (none)) else (none)) else (none)) else (some (x6, x7, 0))
def leb_U.f (k : Nat) (l0 : List Int) (a1 : Int) (a2 : Int) : Option (Int × Int × Int) := (leb_may.f l0 a1 a2).bind fun t106 => (if t106 = true then ((leb_end.f k l0 a1 a2).bind fun t107 => (if t107 < 0 then (some (0, 0, 4)) else (if 0 ≤ a1 then (if a1 ≤ t107 then (if t107 ≤ (l0.length : Int) then (leb_U.l0 k a2 0 t107 ((l0.take (t107 : Int).toNat).drop (a1 : Int).toNat) (((l0.take (t107 : Int).toNat).drop (a1 : Int).toNat).length : Int) 0) else (none)) else (none)) else (none)))) else (some (0, 0, 2)))
theorem leb_U.mono_l : ∀ k, (∀ y0 y1 y2 y3 y4 y5, LeO (leb_U.l0 k y0 y1 y2 y3 y4 y5) (leb_U.l0 (k + 1) y0 y1 y2 y3 y4 y5))
  | 0 => fun _ _ _ _ _ _ r h => by simp [leb_U.l0] at h
  | k + 1 => by
    have ih0 := leb_U.mono_l k
    · intro y0 y1 y2 y3 y4 y5
      unfold leb_U.l0
      repeat' first
      | (with_reducible exact ih0 _ _ _ _ _ _)
      | (with_reducible exact leb_end.mono _ _ _ _)
      | (with_reducible exact LeO.refl _)
      | (with_reducible exact LeO.none _)
      | (with_reducible refine LeO.ite ?_ ?_)
      | (with_reducible refine LeO.bind ?_ (fun _ => ?_))
      | exact ih0 _ _ _ _ _ _
      | exact leb_end.mono _ _ _ _
      | exact LeO.none _
      | refine LeO.ite ?_ ?_
      | refine LeO.bind ?_ (fun _ => ?_)
theorem leb_U.mono : ∀ a0 a1 a2 k, LeO (leb_U.f k a0 a1 a2) (leb_U.f (k + 1) a0 a1 a2) := by
  intro a0 a1 a2 k
  have ih0 := leb_U.mono_l k
  unfold leb_U.f
  repeat' first
      | (with_reducible exact ih0 _ _ _ _ _ _)
      | (with_reducible exact leb_end.mono _ _ _ _)
      | (with_reducible exact LeO.refl _)
      | (with_reducible exact LeO.none _)
      | (with_reducible refine LeO.ite ?_ ?_)
      | (with_reducible refine LeO.bind ?_ (fun _ => ?_))
      | exact ih0 _ _ _ _ _ _
      | exact leb_end.mono _ _ _ _
      | exact LeO.none _
      | refine LeO.ite ?_ ?_
      | refine LeO.bind ?_ (fun _ => ?_)
set_option maxHeartbeats 8000000 in
set_option maxRecDepth 100000 in
theorem leb_U.calls (k : Nat) (A0 : Option Addr) (c0 : Nat) (l0 : List Int) (a1 : Int) (a2 : Int) (r1 : Int) (r2 : Int) (r3 : Int) (w : World) (hr0 : Kd.C (Kd.int .u8) w A0 l0.length l0) (hc0 : l0.length ≤ c0) (h : leb_U.f k l0 a1 a2 = some (r1, r2, r3)) :
    Calls Try.prog 57 #[.slice A0 l0.length c0, .int .i64 a1, .int .i64 a2] w fun e w' => e = .returned (.tuple #[.int .u64 r1, .int .i64 r2, .int .i64 r3]) ∧ Drawn0 w w' := by
  have HR0 := Aside0.mk hr0
  have HC0 := Aside0.mk hc0
  clear hr0 hc0
  have H : ((leb_may.f l0 a1 a2).bind fun t106 => (if t106 = true then ((leb_end.f k l0 a1 a2).bind fun t107 => (if t107 < 0 then (some (0, 0, 4)) else (if 0 ≤ a1 then (if a1 ≤ t107 then (if t107 ≤ (l0.length : Int) then (leb_U.l0 k a2 0 t107 ((l0.take (t107 : Int).toNat).drop (a1 : Int).toNat) (((l0.take (t107 : Int).toNat).drop (a1 : Int).toNat).length : Int) 0) else (none)) else (none)) else (none)))) else (some (0, 0, 2)))) = some (r1, r2, r3) := h
  clear h
  replace H := Option.bind_eq_some_iff.mp H
  obtain ⟨t106, A40, H⟩ := H
  replace H : (if t106 = true then ((leb_end.f k l0 a1 a2).bind fun t107 => (if t107 < 0 then (some (0, 0, 4)) else (if 0 ≤ a1 then (if a1 ≤ t107 then (if t107 ≤ (l0.length : Int) then (leb_U.l0 k a2 0 t107 ((l0.take (t107 : Int).toNat).drop (a1 : Int).toNat) (((l0.take (t107 : Int).toNat).drop (a1 : Int).toNat).length : Int) 0) else (none)) else (none)) else (none)))) else (some (0, 0, 2))) = some (r1, r2, r3) := H
  have A4 := Aside0.mk A40
  clear A40
  by_cases c5 : t106 = true
  · subst c5
    have H1 : ((leb_end.f k l0 a1 a2).bind fun t107 => (if t107 < 0 then (some (0, 0, 4)) else (if 0 ≤ a1 then (if a1 ≤ t107 then (if t107 ≤ (l0.length : Int) then (leb_U.l0 k a2 0 t107 ((l0.take (t107 : Int).toNat).drop (a1 : Int).toNat) (((l0.take (t107 : Int).toNat).drop (a1 : Int).toNat).length : Int) 0) else (none)) else (none)) else (none)))) = some (r1, r2, r3) := by rw [if_pos rfl] at H; exact H
    clear H
    have H := H1
    clear H1
    replace H := Option.bind_eq_some_iff.mp H
    obtain ⟨t107, A60, H⟩ := H
    replace H : (if t107 < 0 then (some (0, 0, 4)) else (if 0 ≤ a1 then (if a1 ≤ t107 then (if t107 ≤ (l0.length : Int) then (leb_U.l0 k a2 0 t107 ((l0.take (t107 : Int).toNat).drop (a1 : Int).toNat) (((l0.take (t107 : Int).toNat).drop (a1 : Int).toNat).length : Int) 0) else (none)) else (none)) else (none))) = some (r1, r2, r3) := H
    have A6 := Aside0.mk A60
    clear A60
    by_cases c7 : t107 < 0
    · rw [if_pos c7] at H
      have c7b0 : decide (t107 < 0) = true := decide_eq_true c7
      clear c7
      simp only [Option.some.injEq, Prod.mk.injEq] at H
      obtain ⟨rfl, rfl, rfl⟩ := H
      go_enter Try.func57, Try.ntmps57
      go_wp2_with (first | ((with_reducible refine gate_callee (f := 62) rfl ?_); refine goesL_ (some 16) rfl rfl Try.func62 (by kernel_rfl) rfl #[.slice A0 l0.length c0, .int .i64 a1, .int .i64 a2] rfl (by (try simp only [List.map_toArray, List.map_cons, List.map_nil]); first | done | rfl | (simp only [List.length_drop, List.length_take]; rfl)) ?_; (with_reducible refine (leb_may.calls _ _ l0 a1 a2 true _ ?side1 ?side2 A4.out).mono ?_); (case side1 => repeat (first | exact HR0.out | (with_reducible refine Kd.C_alloc ?_ _) | (with_reducible refine Kd.C_drewN ?_ _) | (with_reducible refine Kd.C_drew ?_))); (case side2 => exact HC0.out); rintro e w' ⟨rfl, ⟨nd, rfl⟩⟩; refine ⟨_, rfl, ?_⟩) | ((with_reducible refine gate_callee (f := 63) rfl ?_); refine goesL_ (some 21) rfl rfl Try.func63 (by kernel_rfl) rfl #[.slice A0 l0.length c0, .int .i64 a1, .int .i64 a2] rfl (by (try simp only [List.map_toArray, List.map_cons, List.map_nil]); first | done | rfl | (simp only [List.length_drop, List.length_take]; rfl)) ?_; (with_reducible refine (leb_end.calls k _ _ l0 a1 a2 t107 _ ?side1 ?side2 A6.out).mono ?_); (case side1 => repeat (first | exact HR0.out | (with_reducible refine Kd.C_alloc ?_ _) | (with_reducible refine Kd.C_drewN ?_ _) | (with_reducible refine Kd.C_drew ?_))); (case side2 => exact HC0.out); rintro e w' ⟨rfl, ⟨nd, rfl⟩⟩; refine ⟨_, rfl, ?_⟩))
      go_ret3
      exact ⟨by first | rfl | (simp; done) | (simp [*]; done), by repeat (first | exact Drawn0.refl _ | apply Drawn0.step)⟩
    · rw [if_neg c7] at H
      have c7b0 : decide (t107 < 0) = false := decide_eq_false c7
      clear c7
      by_cases c8 : 0 ≤ a1
      · rw [if_pos c8] at H
        have c8b0 := eq_true c8
        have c8b1 : decide (0 ≤ a1) = true := decide_eq_true c8
        clear c8
        by_cases c9 : a1 ≤ t107
        · rw [if_pos c9] at H
          have c9b0 := eq_true c9
          have c9b1 : decide (a1 ≤ t107) = true := decide_eq_true c9
          clear c9
          by_cases c10 : t107 ≤ (l0.length : Int)
          · rw [if_pos c10] at H
            have c10b0 := eq_true c10
            have c10b1 : decide (t107 ≤ (l0.length : Int)) = true := decide_eq_true c10
            clear c10
            have H' := Aside0.mk H
            clear H
            go_enter Try.func57, Try.ntmps57
            go_wp2_with (first | ((with_reducible refine gate_callee (f := 62) rfl ?_); refine goesL_ (some 16) rfl rfl Try.func62 (by kernel_rfl) rfl #[.slice A0 l0.length c0, .int .i64 a1, .int .i64 a2] rfl (by (try simp only [List.map_toArray, List.map_cons, List.map_nil]); first | done | rfl | (simp only [List.length_drop, List.length_take]; rfl)) ?_; (with_reducible refine (leb_may.calls _ _ l0 a1 a2 true _ ?side1 ?side2 A4.out).mono ?_); (case side1 => repeat (first | exact HR0.out | (with_reducible refine Kd.C_alloc ?_ _) | (with_reducible refine Kd.C_drewN ?_ _) | (with_reducible refine Kd.C_drew ?_))); (case side2 => exact HC0.out); rintro e w' ⟨rfl, ⟨nd, rfl⟩⟩; refine ⟨_, rfl, ?_⟩) | ((with_reducible refine gate_callee (f := 63) rfl ?_); refine goesL_ (some 21) rfl rfl Try.func63 (by kernel_rfl) rfl #[.slice A0 l0.length c0, .int .i64 a1, .int .i64 a2] rfl (by (try simp only [List.map_toArray, List.map_cons, List.map_nil]); first | done | rfl | (simp only [List.length_drop, List.length_take]; rfl)) ?_; (with_reducible refine (leb_end.calls k _ _ l0 a1 a2 t107 _ ?side1 ?side2 A6.out).mono ?_); (case side1 => repeat (first | exact HR0.out | (with_reducible refine Kd.C_alloc ?_ _) | (with_reducible refine Kd.C_drewN ?_ _) | (with_reducible refine Kd.C_drew ?_))); (case side2 => exact HC0.out); rintro e w' ⟨rfl, ⟨nd, rfl⟩⟩; refine ⟨_, rfl, ?_⟩; obtain ⟨i011, hi011, _, hsz11, _⟩ := info_parts info5; obtain ⟨A11, hcut11, hA11, hC11⟩ := print_mid_of (P := Try.prog) (Value.int .u8) 0 22 5 .i64 .i64 Try.underlying22 hi011 hsz11 A0 c0 l0 a1 t107 (of_decide_eq_true (by first | (with_reducible assumption) | assumption)) (by first | omega | exact of_decide_eq_true (by first | (with_reducible assumption) | assumption)) (of_decide_eq_true (by first | (with_reducible assumption) | assumption)) HC0.out; have HR108 := Aside0.mk (Kd.C_of_reads (h1 := fun _ => rfl) (hA11 _ (Kd.reads_of_C HR0.out))); have HC108 := Aside0.mk hC11; clear hA11 hC11 hi011 hsz11; have HLn11 := Aside0.mk (show ((l0.take (t107 : Int).toNat).drop (a1 : Int).toNat).length = (t107.toNat - a1.toNat) from (by rw [List.length_drop, List.length_take]; have h_ : (t107 : Int) ≤ (l0.length : Int) := of_decide_eq_true (by first | (with_reducible assumption) | assumption); omega))))
            go_loopg [6, 7, 29] k (fun kq v6 v7 v29 w' => ∃ (x6_1 : Int) (x7_1 : Int) (x29_1 : Int), v6 = .int .u64 x6_1 ∧ v7 = .int .i64 x7_1 ∧ v29 = .int .i64 x29_1 ∧ Aside0 (leb_U.l0 kq a2 x6_1 x7_1 ((l0.take (t107 : Int).toNat).drop (a1 : Int).toNat) (((l0.take (t107 : Int).toNat).drop (a1 : Int).toNat).length : Int) x29_1 = some (r1, r2, r3)) ∧ Aside0 (kq ≤ k) ∧ Drawn0 w w')
            case atStart => exact ⟨(0), (t107), (0), (by first | rfl | (simp; done) | (simp [*]; done)), (by first | rfl | (simp; done) | (simp [*]; done)), (by first | rfl | (simp; done) | (simp [*]; done)), H', ⟨Nat.le_refl _⟩, by repeat (first | exact Drawn0.refl _ | apply Drawn0.step)⟩
            case round =>
              clear H'
              try clear c1
              try clear p2
              try clear c5
              try clear c6
              try clear c7
              try clear c7b0
              try clear c8
              try clear c8b0
              try clear c8b1
              try clear c9
              try clear c9b0
              try clear c9b1
              try clear c10
              try clear c10b0
              try clear c10b1
              obtain ⟨x6_1, x7_1, x29_1, rfl, rfl, rfl, HA, HK1, ⟨m1, rfl⟩⟩ := hrel
              cases gk with
              | zero => exact absurd HA.out (by simp [leb_U.l0])
              | succ k1 =>
                have H := HA.out
                clear HA
                simp only [leb_U.l0] at H
                by_cases c12 : x29_1 < (((l0.take (t107 : Int).toNat).drop (a1 : Int).toNat).length : Int)
                · rw [if_pos c12] at H
                  have c12b0 : decide (x29_1 < (((l0.take (t107 : Int).toNat).drop (a1 : Int).toNat).length : Int)) = true := decide_eq_true c12
                  (try (have c12b0s := c12b0; rw [HLn11.out] at c12b0s))
                  clear c12
                  by_cases c13 : 0 ≤ x29_1
                  · rw [if_pos c13] at H
                    have c13b0 : decide (0 ≤ x29_1) = true := decide_eq_true c13
                    clear c13
                    by_cases c14 : x29_1 < (((l0.take (t107 : Int).toNat).drop (a1 : Int).toNat).length : Int)
                    · rw [if_pos c14] at H
                      have c14b0 : decide (x29_1 < (((l0.take (t107 : Int).toNat).drop (a1 : Int).toNat).length : Int)) = true := decide_eq_true c14
                      (try (have c14b0s := c14b0; rw [HLn11.out] at c14b0s))
                      clear c14
                      obtain ⟨ji15, hji15⟩ : ∃ j_ : Int, (IntKind.u64.wrap (7 * (IntKind.u64.wrap (x29_1)))) = j_ := ⟨_, rfl⟩
                      replace H : (if 0 ≤ (ji15) then (if (shr .u64 (shl .u64 (IntKind.u64.wrap (Go.bits .and .u8 (rd ((l0.take (t107 : Int).toNat).drop (a1 : Int).toNat) x29_1) 127)) (ji15)) (ji15)) = (IntKind.u64.wrap (Go.bits .and .u8 (rd ((l0.take (t107 : Int).toNat).drop (a1 : Int).toNat) x29_1) 127)) then (if a2 < 64 then (if 0 ≤ (IntKind.u64.wrap (a2)) then (if (shr .u64 (shl .u64 (IntKind.u64.wrap (Go.bits .and .u8 (rd ((l0.take (t107 : Int).toNat).drop (a1 : Int).toNat) x29_1) 127)) (ji15)) (IntKind.u64.wrap (a2))) = 0 then (leb_U.l0 k1 a2 (Go.bits .or .u64 x6_1 (shl .u64 (IntKind.u64.wrap (Go.bits .and .u8 (rd ((l0.take (t107 : Int).toNat).drop (a1 : Int).toNat) x29_1) 127)) (ji15))) x7_1 ((l0.take (t107 : Int).toNat).drop (a1 : Int).toNat) (((l0.take (t107 : Int).toNat).drop (a1 : Int).toNat).length : Int) (wrap64 (x29_1 + 1))) else (some (0, 0, 4))) else (none)) else (leb_U.l0 k1 a2 (Go.bits .or .u64 x6_1 (shl .u64 (IntKind.u64.wrap (Go.bits .and .u8 (rd ((l0.take (t107 : Int).toNat).drop (a1 : Int).toNat) x29_1) 127)) (ji15))) x7_1 ((l0.take (t107 : Int).toNat).drop (a1 : Int).toNat) (((l0.take (t107 : Int).toNat).drop (a1 : Int).toNat).length : Int) (wrap64 (x29_1 + 1)))) else (some (0, 0, 4))) else (none)) = some (r1, r2, r3) := by first | (rw [hji15] at H; exact H) | (simp only [hji15] at H ⊢; exact H)
                      by_cases c16 : 0 ≤ (ji15)
                      · rw [if_pos c16] at H
                        have c16b0 := eq_true c16
                        have c16b1 : decide (0 ≤ (ji15)) = true := decide_eq_true c16
                        clear c16
                        obtain ⟨ji17, hji17⟩ : ∃ j_ : Int, (shl .u64 (IntKind.u64.wrap (Go.bits .and .u8 (rd ((l0.take (t107 : Int).toNat).drop (a1 : Int).toNat) x29_1) 127)) (ji15)) = j_ := ⟨_, rfl⟩
                        replace H : (if (shr .u64 (ji17) (ji15)) = (IntKind.u64.wrap (Go.bits .and .u8 (rd ((l0.take (t107 : Int).toNat).drop (a1 : Int).toNat) x29_1) 127)) then (if a2 < 64 then (if 0 ≤ (IntKind.u64.wrap (a2)) then (if (shr .u64 (ji17) (IntKind.u64.wrap (a2))) = 0 then (leb_U.l0 k1 a2 (Go.bits .or .u64 x6_1 (ji17)) x7_1 ((l0.take (t107 : Int).toNat).drop (a1 : Int).toNat) (((l0.take (t107 : Int).toNat).drop (a1 : Int).toNat).length : Int) (wrap64 (x29_1 + 1))) else (some (0, 0, 4))) else (none)) else (leb_U.l0 k1 a2 (Go.bits .or .u64 x6_1 (ji17)) x7_1 ((l0.take (t107 : Int).toNat).drop (a1 : Int).toNat) (((l0.take (t107 : Int).toNat).drop (a1 : Int).toNat).length : Int) (wrap64 (x29_1 + 1)))) else (some (0, 0, 4))) = some (r1, r2, r3) := by first | (rw [hji17] at H; exact H) | (simp only [hji17] at H ⊢; exact H)
                        have hji17_ : (IntKind.u64.wrap ((IntKind.u64.wrap (Go.bits .and .u8 (rd ((l0.take (t107 : Int).toNat).drop (a1 : Int).toNat) x29_1) 127)) * 2 ^ min (ji15).toNat 64)) = ji17 := hji17
                        have hji17z : (ji15) ≤ 64 → (IntKind.u64.wrap ((IntKind.u64.wrap (Go.bits .and .u8 (rd ((l0.take (t107 : Int).toNat).drop (a1 : Int).toNat) x29_1) 127)) * 2 ^ (ji15).toNat)) = ji17 := shl_small hji17
                        have c18b0 := eq_true (of_decide_eq_true (by first | (with_reducible assumption) | assumption) : 0 ≤ (ji15))
                        obtain ⟨ji19, hji19⟩ : ∃ j_ : Int, (shr .u64 (ji17) (ji15)) = j_ := ⟨_, rfl⟩
                        replace H : (if (ji19) = (IntKind.u64.wrap (Go.bits .and .u8 (rd ((l0.take (t107 : Int).toNat).drop (a1 : Int).toNat) x29_1) 127)) then (if a2 < 64 then (if 0 ≤ (IntKind.u64.wrap (a2)) then (if (shr .u64 (ji17) (IntKind.u64.wrap (a2))) = 0 then (leb_U.l0 k1 a2 (Go.bits .or .u64 x6_1 (ji17)) x7_1 ((l0.take (t107 : Int).toNat).drop (a1 : Int).toNat) (((l0.take (t107 : Int).toNat).drop (a1 : Int).toNat).length : Int) (wrap64 (x29_1 + 1))) else (some (0, 0, 4))) else (none)) else (leb_U.l0 k1 a2 (Go.bits .or .u64 x6_1 (ji17)) x7_1 ((l0.take (t107 : Int).toNat).drop (a1 : Int).toNat) (((l0.take (t107 : Int).toNat).drop (a1 : Int).toNat).length : Int) (wrap64 (x29_1 + 1)))) else (some (0, 0, 4))) = some (r1, r2, r3) := by first | (rw [hji19] at H; exact H) | (simp only [hji19] at H ⊢; exact H)
                        have hji19_ : ((ji17) / 2 ^ min (ji15).toNat 64) = ji19 := hji19
                        have hji19z : (ji15) ≤ 64 → ((ji17) / 2 ^ (ji15).toNat) = ji19 := shr_small hji19
                        by_cases c20 : (ji19) = (IntKind.u64.wrap (Go.bits .and .u8 (rd ((l0.take (t107 : Int).toNat).drop (a1 : Int).toNat) x29_1) 127))
                        · rw [if_pos c20] at H
                          have c20b0 : ((ji19) == (IntKind.u64.wrap (Go.bits .and .u8 (rd ((l0.take (t107 : Int).toNat).drop (a1 : Int).toNat) x29_1) 127))) = true := beq_iff_eq.mpr c20
                          have c20b1 : ((ji19) != (IntKind.u64.wrap (Go.bits .and .u8 (rd ((l0.take (t107 : Int).toNat).drop (a1 : Int).toNat) x29_1) 127))) = false := bne_eq_false_iff_eq.mpr c20
                          clear c20
                          by_cases c21 : a2 < 64
                          · rw [if_pos c21] at H
                            have c21b0 : decide (a2 < 64) = true := decide_eq_true c21
                            clear c21
                            have c22b0 := eq_true (of_decide_eq_true (by first | (with_reducible assumption) | assumption) : 0 ≤ (ji15))
                            obtain ⟨ji23, hji23⟩ : ∃ j_ : Int, (IntKind.u64.wrap (a2)) = j_ := ⟨_, rfl⟩
                            replace H : (if 0 ≤ (ji23) then (if (shr .u64 (ji17) (ji23)) = 0 then (leb_U.l0 k1 a2 (Go.bits .or .u64 x6_1 (ji17)) x7_1 ((l0.take (t107 : Int).toNat).drop (a1 : Int).toNat) (((l0.take (t107 : Int).toNat).drop (a1 : Int).toNat).length : Int) (wrap64 (x29_1 + 1))) else (some (0, 0, 4))) else (none)) = some (r1, r2, r3) := by first | (rw [hji23] at H; exact H) | (simp only [hji23] at H ⊢; exact H)
                            by_cases c24 : 0 ≤ (ji23)
                            · rw [if_pos c24] at H
                              have c24b0 := eq_true c24
                              have c24b1 : decide (0 ≤ (ji23)) = true := decide_eq_true c24
                              clear c24
                              obtain ⟨ji25, hji25⟩ : ∃ j_ : Int, (shr .u64 (ji17) (ji23)) = j_ := ⟨_, rfl⟩
                              replace H : (if (ji25) = 0 then (leb_U.l0 k1 a2 (Go.bits .or .u64 x6_1 (ji17)) x7_1 ((l0.take (t107 : Int).toNat).drop (a1 : Int).toNat) (((l0.take (t107 : Int).toNat).drop (a1 : Int).toNat).length : Int) (wrap64 (x29_1 + 1))) else (some (0, 0, 4))) = some (r1, r2, r3) := by first | (rw [hji25] at H; exact H) | (simp only [hji25] at H ⊢; exact H)
                              have hji25_ : ((ji17) / 2 ^ min (ji23).toNat 64) = ji25 := hji25
                              have hji25z : (ji23) ≤ 64 → ((ji17) / 2 ^ (ji23).toNat) = ji25 := shr_small hji25
                              by_cases c26 : (ji25) = 0
                              · rw [if_pos c26] at H
                                have c26b0 : ((ji25) == 0) = true := beq_iff_eq.mpr c26
                                have c26b1 : ((ji25) != 0) = false := bne_eq_false_iff_eq.mpr c26
                                clear c26
                                have c27b0 := eq_true (of_decide_eq_true (by first | (with_reducible assumption) | assumption) : 0 ≤ (ji15))
                                have H' := Aside0.mk H
                                clear H
                                have p109 : 0 ≤ (x29_1 : Int) := of_decide_eq_true (by first | (with_reducible assumption) | assumption)
                                have q109 : x29_1 < (((l0.take (t107 : Int).toNat).drop (a1 : Int).toNat).length : Int) := of_decide_eq_true (by first | (with_reducible assumption) | assumption)
                                obtain ⟨ad109, e109, hx109_0⟩ := Kd.at_int HR108.out x29_1 p109 q109
                                cases e109
                                replace p109 := eq_true p109
                                replace q109 := eq_true q109
                                (try (have q109s0 := q109; rw [HLn11.out] at q109s0))
                                go_wp2
                                go_roundg k1
                                case measure => have := HK1.out; omega
                                case rel => exact ⟨(Go.bits .or .u64 x6_1 (ji17)), (x7_1), (wrap64 (x29_1 + 1)), (by first | rfl | (simp; done) | (simp only [← hji17] <;> (first | rfl | simp)) | (simp [*]; done)), (by first | rfl | (simp; done) | (simp [*]; done)), (by first | rfl | (simp; done) | (simp [*]; done)), H', ⟨by have := HK1.out; omega⟩, by repeat (first | exact Drawn0.refl _ | apply Drawn0.step)⟩
                              · rw [if_neg c26] at H
                                have c26b0 : ((ji25) == 0) = false := beq_eq_false_iff_ne.mpr c26
                                have c26b1 : ((ji25) != 0) = true := bne_iff_ne.mpr c26
                                simp only [Option.some.injEq, Prod.mk.injEq] at H
                                obtain ⟨rfl, rfl, rfl⟩ := H
                                have p109 : 0 ≤ (x29_1 : Int) := of_decide_eq_true (by first | (with_reducible assumption) | assumption)
                                have q109 : x29_1 < (((l0.take (t107 : Int).toNat).drop (a1 : Int).toNat).length : Int) := of_decide_eq_true (by first | (with_reducible assumption) | assumption)
                                obtain ⟨ad109, e109, hx109_0⟩ := Kd.at_int HR108.out x29_1 p109 q109
                                cases e109
                                replace p109 := eq_true p109
                                replace q109 := eq_true q109
                                (try (have q109s0 := q109; rw [HLn11.out] at q109s0))
                                go_wp2
                                go_ret3
                                exact ⟨by first | rfl | (simp; done) | (simp only [← hji15, ← hji17, ← hji19, ← hji23, ← hji25] <;> (first | rfl | simp)) | (simp [*]; done), by repeat (first | exact Drawn0.refl _ | apply Drawn0.step)⟩
                            · rw [if_neg c24] at H
                              exact absurd H (by simp)
                          · rw [if_neg c21] at H
                            have c21b0 : decide (a2 < 64) = false := decide_eq_false c21
                            clear c21
                            have c28b0 := eq_true (of_decide_eq_true (by first | (with_reducible assumption) | assumption) : 0 ≤ (ji15))
                            have H' := Aside0.mk H
                            clear H
                            have p109 : 0 ≤ (x29_1 : Int) := of_decide_eq_true (by first | (with_reducible assumption) | assumption)
                            have q109 : x29_1 < (((l0.take (t107 : Int).toNat).drop (a1 : Int).toNat).length : Int) := of_decide_eq_true (by first | (with_reducible assumption) | assumption)
                            obtain ⟨ad109, e109, hx109_0⟩ := Kd.at_int HR108.out x29_1 p109 q109
                            cases e109
                            replace p109 := eq_true p109
                            replace q109 := eq_true q109
                            (try (have q109s0 := q109; rw [HLn11.out] at q109s0))
                            go_wp2
                            go_roundg k1
                            case measure => have := HK1.out; omega
                            case rel => exact ⟨(Go.bits .or .u64 x6_1 (ji17)), (x7_1), (wrap64 (x29_1 + 1)), (by first | rfl | (simp; done) | (simp only [← hji17] <;> (first | rfl | simp)) | (simp [*]; done)), (by first | rfl | (simp; done) | (simp [*]; done)), (by first | rfl | (simp; done) | (simp [*]; done)), H', ⟨by have := HK1.out; omega⟩, by repeat (first | exact Drawn0.refl _ | apply Drawn0.step)⟩
                        · rw [if_neg c20] at H
                          have c20b0 : ((ji19) == (IntKind.u64.wrap (Go.bits .and .u8 (rd ((l0.take (t107 : Int).toNat).drop (a1 : Int).toNat) x29_1) 127))) = false := beq_eq_false_iff_ne.mpr c20
                          have c20b1 : ((ji19) != (IntKind.u64.wrap (Go.bits .and .u8 (rd ((l0.take (t107 : Int).toNat).drop (a1 : Int).toNat) x29_1) 127))) = true := bne_iff_ne.mpr c20
                          simp only [Option.some.injEq, Prod.mk.injEq] at H
                          obtain ⟨rfl, rfl, rfl⟩ := H
                          have p109 : 0 ≤ (x29_1 : Int) := of_decide_eq_true (by first | (with_reducible assumption) | assumption)
                          have q109 : x29_1 < (((l0.take (t107 : Int).toNat).drop (a1 : Int).toNat).length : Int) := of_decide_eq_true (by first | (with_reducible assumption) | assumption)
                          obtain ⟨ad109, e109, hx109_0⟩ := Kd.at_int HR108.out x29_1 p109 q109
                          cases e109
                          replace p109 := eq_true p109
                          replace q109 := eq_true q109
                          (try (have q109s0 := q109; rw [HLn11.out] at q109s0))
                          go_wp2
                          go_ret3
                          exact ⟨by first | rfl | (simp; done) | (simp only [← hji15, ← hji17, ← hji19] <;> (first | rfl | simp)) | (simp [*]; done), by repeat (first | exact Drawn0.refl _ | apply Drawn0.step)⟩
                      · rw [if_neg c16] at H
                        exact absurd H (by simp)
                    · rw [if_neg c14] at H
                      exact absurd H (by simp)
                  · rw [if_neg c13] at H
                    exact absurd H (by simp)
                · rw [if_neg c12] at H
                  have c12b0 : decide (x29_1 < (((l0.take (t107 : Int).toNat).drop (a1 : Int).toNat).length : Int)) = false := decide_eq_false c12
                  (try (have c12b0s := c12b0; rw [HLn11.out] at c12b0s))
                  clear c12
                  simp only [Option.some.injEq, Prod.mk.injEq] at H
                  obtain ⟨rfl, rfl, rfl⟩ := H
                  go_wp2
                  go_ret3
                  exact ⟨by first | rfl | (simp; done) | (simp [*]; done), by repeat (first | exact Drawn0.refl _ | apply Drawn0.step)⟩
          · rw [if_neg c10] at H
            exact absurd H (by simp)
        · rw [if_neg c9] at H
          exact absurd H (by simp)
      · rw [if_neg c8] at H
        exact absurd H (by simp)
  · replace c5 := Bool.eq_false_iff.mpr c5
    subst c5
    have H1 : (some (0, 0, 2)) = some (r1, r2, r3) := by rw [if_neg (show ¬ (false = true) by decide)] at H; exact H
    clear H
    have H := H1
    clear H1
    simp only [Option.some.injEq, Prod.mk.injEq] at H
    obtain ⟨rfl, rfl, rfl⟩ := H
    go_enter Try.func57, Try.ntmps57
    go_wp2_with (first | ((with_reducible refine gate_callee (f := 62) rfl ?_); refine goesL_ (some 16) rfl rfl Try.func62 (by kernel_rfl) rfl #[.slice A0 l0.length c0, .int .i64 a1, .int .i64 a2] rfl (by (try simp only [List.map_toArray, List.map_cons, List.map_nil]); first | done | rfl | (simp only [List.length_drop, List.length_take]; rfl)) ?_; (with_reducible refine (leb_may.calls _ _ l0 a1 a2 false _ ?side1 ?side2 A4.out).mono ?_); (case side1 => repeat (first | exact HR0.out | (with_reducible refine Kd.C_alloc ?_ _) | (with_reducible refine Kd.C_drewN ?_ _) | (with_reducible refine Kd.C_drew ?_))); (case side2 => exact HC0.out); rintro e w' ⟨rfl, ⟨nd, rfl⟩⟩; refine ⟨_, rfl, ?_⟩))
    go_ret3
    exact ⟨by first | rfl | (simp; done) | (simp [*]; done), by repeat (first | exact Drawn0.refl _ | apply Drawn0.step)⟩

end Go.Proofs.Ythillgpbenjldaa.P
