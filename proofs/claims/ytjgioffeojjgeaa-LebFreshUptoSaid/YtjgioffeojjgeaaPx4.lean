-- Printed by a program of this session (wip/patch-print.py over the kit's print): Lean checks it.
import Derived.Test.YtjgioffeojjgeaaPx0
import Derived.Test.YtjgioffeojjgeaaPx1
namespace Go.Proofs.Ytjgioffeojjgeaa.P
open Go.Proofs.YtjgioffeojjgeaaCaps
open Go.RowKit Go.Proofs.YtjgioffeojjgeaaW.PrintWords Go.Proofs.YtjgioffeojjgeaaW.PrintLast Go.Proofs.YtjgioffeojjgeaaW.PrintMore
attribute [local go_sem] max2_int min2_int max_two min_two max_three min_three max_four min_four   -- for this text's walks alone
set_option linter.unusedVariables false
set_option linter.unusedSimpArgs false

/-! ### jacquardref01_S: function 16 -/
mutual
def jacquardref01_S.j1 : Nat → Int → Int → List Int → Bool → Option (Int × Int × Int)
  | 0, _, _, _, _ => none
  | k + 1, x1, x2, x9, x11 => if 0 ≤ (IntKind.u64.wrap (wrap64 (64 - x2))) then ((jacquardref01_number.f k x9 ((shr .u64 18446744073709551615 (IntKind.u64.wrap (wrap64 (64 - x2)))) / 2)).bind fun bt153 => (if bt153.2 = true then (if x11 = true then (some (wrap64 ((wrap64 (-(wrap64 (bt153.1)))) - 1), wrap64 (x1 + (x9.length : Int)), 0)) else (some (wrap64 (bt153.1), wrap64 (x1 + (x9.length : Int)), 0))) else (some (0, 0, 4)))) else (none)
def jacquardref01_S.l0 : Nat → Int → Int → List Int → Bool → Int → Option (Int × Int × Int)
  | 0, _, _, _, _, _ => none
  | k + 1, x1, x2, x9, x11, x12 => if x12 < (x9.length : Int) then (if 0 ≤ x12 then (jacquardref01_S.l0 k x1 x2 (x9.set (x12 : Int).toNat (IntKind.u64.wrap (127 - (rd x9 x12)))) x11 (wrap64 (x12 + 1))) else (none)) else (jacquardref01_S.j1 k x1 x2 x9 x11)
end
def jacquardref01_S.f (k : Nat) (l0 : List Int) (a1 : Int) (a2 : Int) : Option (Int × Int × Int) := (jacquardref01_may.f l0 a1 a2).bind fun t145 => (if t145 = true then ((jacquardref01_groups.f k l0 a1 (wrap64 (Int.tdiv (wrap64 (a2 + 6)) 7))).bind fun bt146 => (if bt146.2 = true then (if 0 ≤ (wrap64 ((bt146.1.length : Int) - 1)) then (if (wrap64 ((bt146.1.length : Int) - 1)) < (bt146.1.length : Int) then (if (rd bt146.1 (wrap64 ((bt146.1.length : Int) - 1))) ≥ 64 then (jacquardref01_S.l0 k a1 a2 bt146.1 (decide ((rd bt146.1 (wrap64 ((bt146.1.length : Int) - 1))) ≥ 64)) 0) else (jacquardref01_S.j1 k a1 a2 bt146.1 (decide ((rd bt146.1 (wrap64 ((bt146.1.length : Int) - 1))) ≥ 64)))) else (none)) else (none)) else (some (0, 0, 4)))) else (some (0, 0, 2)))
theorem jacquardref01_S.mono_l : ∀ k, (∀ y0 y1 y2 y3, LeO (jacquardref01_S.j1 k y0 y1 y2 y3) (jacquardref01_S.j1 (k + 1) y0 y1 y2 y3)) ∧ (∀ y0 y1 y2 y3 y4, LeO (jacquardref01_S.l0 k y0 y1 y2 y3 y4) (jacquardref01_S.l0 (k + 1) y0 y1 y2 y3 y4))
  | 0 => ⟨fun _ _ _ _ r h => by simp [jacquardref01_S.j1] at h, fun _ _ _ _ _ r h => by simp [jacquardref01_S.l0] at h⟩
  | k + 1 => by
    obtain ⟨ih0, ih1⟩ := jacquardref01_S.mono_l k
    refine ⟨?_, ?_⟩
    · intro y0 y1 y2 y3
      unfold jacquardref01_S.j1
      repeat' first
      | (with_reducible exact ih0 _ _ _ _)
      | (with_reducible exact ih1 _ _ _ _ _)
      | (with_reducible exact jacquardref01_groups.mono _ _ _ _)
      | (with_reducible exact jacquardref01_number.mono _ _ _)
      | (with_reducible exact LeO.refl _)
      | (with_reducible exact LeO.none _)
      | (with_reducible refine LeO.ite ?_ ?_)
      | (with_reducible refine LeO.bind ?_ (fun _ => ?_))
      | exact ih0 _ _ _ _
      | exact ih1 _ _ _ _ _
      | exact jacquardref01_groups.mono _ _ _ _
      | exact jacquardref01_number.mono _ _ _
      | exact LeO.none _
      | refine LeO.ite ?_ ?_
      | refine LeO.bind ?_ (fun _ => ?_)
    · intro y0 y1 y2 y3 y4
      unfold jacquardref01_S.l0
      repeat' first
      | (with_reducible exact ih0 _ _ _ _)
      | (with_reducible exact ih1 _ _ _ _ _)
      | (with_reducible exact jacquardref01_groups.mono _ _ _ _)
      | (with_reducible exact jacquardref01_number.mono _ _ _)
      | (with_reducible exact LeO.refl _)
      | (with_reducible exact LeO.none _)
      | (with_reducible refine LeO.ite ?_ ?_)
      | (with_reducible refine LeO.bind ?_ (fun _ => ?_))
      | exact ih0 _ _ _ _
      | exact ih1 _ _ _ _ _
      | exact jacquardref01_groups.mono _ _ _ _
      | exact jacquardref01_number.mono _ _ _
      | exact LeO.none _
      | refine LeO.ite ?_ ?_
      | refine LeO.bind ?_ (fun _ => ?_)
theorem jacquardref01_S.mono : ∀ a0 a1 a2 k, LeO (jacquardref01_S.f k a0 a1 a2) (jacquardref01_S.f (k + 1) a0 a1 a2) := by
  intro a0 a1 a2 k
  obtain ⟨ih0, ih1⟩ := jacquardref01_S.mono_l k
  unfold jacquardref01_S.f
  repeat' first
      | (with_reducible exact ih0 _ _ _ _)
      | (with_reducible exact ih1 _ _ _ _ _)
      | (with_reducible exact jacquardref01_groups.mono _ _ _ _)
      | (with_reducible exact jacquardref01_number.mono _ _ _)
      | (with_reducible exact LeO.refl _)
      | (with_reducible exact LeO.none _)
      | (with_reducible refine LeO.ite ?_ ?_)
      | (with_reducible refine LeO.bind ?_ (fun _ => ?_))
      | exact ih0 _ _ _ _
      | exact ih1 _ _ _ _ _
      | exact jacquardref01_groups.mono _ _ _ _
      | exact jacquardref01_number.mono _ _ _
      | exact LeO.none _
      | refine LeO.ite ?_ ?_
      | refine LeO.bind ?_ (fun _ => ?_)
set_option maxHeartbeats 8000000 in
set_option maxRecDepth 100000 in
theorem jacquardref01_S.calls (k : Nat) (A0 : Option Addr) (c0 : Nat) (l0 : List Int) (a1 : Int) (a2 : Int) (r1 : Int) (r2 : Int) (r3 : Int) (w : World) (hr0 : Kd.C (Kd.int .u8) w A0 l0.length l0) (hc0 : l0.length ≤ c0) (h : jacquardref01_S.f k l0 a1 a2 = some (r1, r2, r3)) :
    Calls Try.prog 16 #[.slice A0 l0.length c0, .int .i64 a1, .int .i64 a2] w fun e w' => e = .returned (.tuple #[.int .i64 r1, .int .i64 r2, .int .i64 r3]) ∧ Below w.heap.size w w' := by
  have HR0 := Aside0.mk hr0
  have HC0 := Aside0.mk hc0
  clear hr0 hc0
  have HB := Aside0.mk (Below.refl w.heap.size w)
  have H : ((jacquardref01_may.f l0 a1 a2).bind fun t145 => (if t145 = true then ((jacquardref01_groups.f k l0 a1 (wrap64 (Int.tdiv (wrap64 (a2 + 6)) 7))).bind fun bt146 => (if bt146.2 = true then (if 0 ≤ (wrap64 ((bt146.1.length : Int) - 1)) then (if (wrap64 ((bt146.1.length : Int) - 1)) < (bt146.1.length : Int) then (if (rd bt146.1 (wrap64 ((bt146.1.length : Int) - 1))) ≥ 64 then (jacquardref01_S.l0 k a1 a2 bt146.1 (decide ((rd bt146.1 (wrap64 ((bt146.1.length : Int) - 1))) ≥ 64)) 0) else (jacquardref01_S.j1 k a1 a2 bt146.1 (decide ((rd bt146.1 (wrap64 ((bt146.1.length : Int) - 1))) ≥ 64)))) else (none)) else (none)) else (some (0, 0, 4)))) else (some (0, 0, 2)))) = some (r1, r2, r3) := h
  clear h
  replace H := Option.bind_eq_some_iff.mp H
  obtain ⟨t145, A40, H⟩ := H
  replace H : (if t145 = true then ((jacquardref01_groups.f k l0 a1 (wrap64 (Int.tdiv (wrap64 (a2 + 6)) 7))).bind fun bt146 => (if bt146.2 = true then (if 0 ≤ (wrap64 ((bt146.1.length : Int) - 1)) then (if (wrap64 ((bt146.1.length : Int) - 1)) < (bt146.1.length : Int) then (if (rd bt146.1 (wrap64 ((bt146.1.length : Int) - 1))) ≥ 64 then (jacquardref01_S.l0 k a1 a2 bt146.1 (decide ((rd bt146.1 (wrap64 ((bt146.1.length : Int) - 1))) ≥ 64)) 0) else (jacquardref01_S.j1 k a1 a2 bt146.1 (decide ((rd bt146.1 (wrap64 ((bt146.1.length : Int) - 1))) ≥ 64)))) else (none)) else (none)) else (some (0, 0, 4)))) else (some (0, 0, 2))) = some (r1, r2, r3) := H
  have A4 := Aside0.mk A40
  clear A40
  by_cases c5 : t145 = true
  · subst c5
    have H1 : ((jacquardref01_groups.f k l0 a1 (wrap64 (Int.tdiv (wrap64 (a2 + 6)) 7))).bind fun bt146 => (if bt146.2 = true then (if 0 ≤ (wrap64 ((bt146.1.length : Int) - 1)) then (if (wrap64 ((bt146.1.length : Int) - 1)) < (bt146.1.length : Int) then (if (rd bt146.1 (wrap64 ((bt146.1.length : Int) - 1))) ≥ 64 then (jacquardref01_S.l0 k a1 a2 bt146.1 (decide ((rd bt146.1 (wrap64 ((bt146.1.length : Int) - 1))) ≥ 64)) 0) else (jacquardref01_S.j1 k a1 a2 bt146.1 (decide ((rd bt146.1 (wrap64 ((bt146.1.length : Int) - 1))) ≥ 64)))) else (none)) else (none)) else (some (0, 0, 4)))) = some (r1, r2, r3) := by rw [if_pos rfl] at H; exact H
    clear H
    have H := H1
    clear H1
    replace H := Option.bind_eq_some_iff.mp H
    obtain ⟨⟨t146, t147⟩, A60, H⟩ := H
    replace H : (if t147 = true then (if 0 ≤ (wrap64 ((t146.length : Int) - 1)) then (if (wrap64 ((t146.length : Int) - 1)) < (t146.length : Int) then (if (rd t146 (wrap64 ((t146.length : Int) - 1))) ≥ 64 then (jacquardref01_S.l0 k a1 a2 t146 (decide ((rd t146 (wrap64 ((t146.length : Int) - 1))) ≥ 64)) 0) else (jacquardref01_S.j1 k a1 a2 t146 (decide ((rd t146 (wrap64 ((t146.length : Int) - 1))) ≥ 64)))) else (none)) else (none)) else (some (0, 0, 4))) = some (r1, r2, r3) := H
    have A6 := Aside0.mk A60
    clear A60
    by_cases c7 : t147 = true
    · subst c7
      have H1 : (if 0 ≤ (wrap64 ((t146.length : Int) - 1)) then (if (wrap64 ((t146.length : Int) - 1)) < (t146.length : Int) then (if (rd t146 (wrap64 ((t146.length : Int) - 1))) ≥ 64 then (jacquardref01_S.l0 k a1 a2 t146 (decide ((rd t146 (wrap64 ((t146.length : Int) - 1))) ≥ 64)) 0) else (jacquardref01_S.j1 k a1 a2 t146 (decide ((rd t146 (wrap64 ((t146.length : Int) - 1))) ≥ 64)))) else (none)) else (none)) = some (r1, r2, r3) := by rw [if_pos rfl] at H; exact H
      clear H
      have H := H1
      clear H1
      obtain ⟨ji8, hji8⟩ : ∃ j_ : Int, (wrap64 ((t146.length : Int) - 1)) = j_ := ⟨_, rfl⟩
      replace H : (if 0 ≤ (ji8) then (if (ji8) < (t146.length : Int) then (if (rd t146 (ji8)) ≥ 64 then (jacquardref01_S.l0 k a1 a2 t146 (decide ((rd t146 (ji8)) ≥ 64)) 0) else (jacquardref01_S.j1 k a1 a2 t146 (decide ((rd t146 (ji8)) ≥ 64)))) else (none)) else (none)) = some (r1, r2, r3) := by first | (rw [hji8] at H; exact H) | (simp only [hji8] at H ⊢; exact H)
      (try rw [hji8] at A4)
      (try rw [hji8] at A6)
      have hji8w : (IntKind.i64.wrap ((t146.length : Int) - 1)) = ji8 := (i64_w _).trans hji8
      by_cases c9 : 0 ≤ (ji8)
      · rw [if_pos c9] at H
        have c9b0 : decide (0 ≤ (ji8)) = true := decide_eq_true c9
        clear c9
        by_cases c10 : (ji8) < (t146.length : Int)
        · rw [if_pos c10] at H
          have c10b0 : decide ((ji8) < (t146.length : Int)) = true := decide_eq_true c10
          clear c10
          have HC11 := Aside0.mk H
          clear H
          go_enter Try.func16, Try.ntmps16
          go_upto_if 38 with (first | ((with_reducible refine gate_callee (f := 28) rfl ?_); refine goesL_ (some 18) rfl rfl Try.func28 (by kernel_rfl) rfl #[.slice A0 l0.length c0, .int .i64 a1, .int .i64 a2] rfl (by (try simp only [List.map_toArray, List.map_cons, List.map_nil]); first | done | rfl | (simp only [List.length_drop, List.length_take]; rfl)) ?_; (with_reducible refine (jacquardref01_may.calls _ _ l0 a1 a2 true _ ?side1 ?side2 A4.out).mono ?_); (case side1 => repeat (first | exact HR0.out | (with_reducible refine Kd.C_alloc ?_ _) | (with_reducible refine Kd.C_drewN ?_ _) | (with_reducible refine Kd.C_drew ?_))); (case side2 => exact HC0.out); rintro e w' ⟨rfl, ⟨nd, rfl⟩⟩; refine ⟨_, rfl, ?_⟩) | ((with_reducible refine gate_callee (f := 29) rfl ?_); refine goesL_ (some 26) rfl rfl Try.func29 (by kernel_rfl) rfl #[.slice A0 l0.length c0, .int .i64 a1, .int .i64 (wrap64 (Int.tdiv (wrap64 (a2 + 6)) 7))] rfl (by (try simp only [List.map_toArray, List.map_cons, List.map_nil]); first | done | rfl | (simp only [List.length_drop, List.length_take]; rfl)) ?_; (with_reducible refine (jacquardref01_groups.calls k _ _ l0 a1 (wrap64 (Int.tdiv (wrap64 (a2 + 6)) 7)) t146 true _ ?side1 ?side2 A6.out).mono ?_); (case side1 => repeat (first | exact HR0.out | (with_reducible refine Kd.C_alloc ?_ _) | (with_reducible refine Kd.C_drewN ?_ _) | (with_reducible refine Kd.C_drew ?_))); (case side2 => exact HC0.out); rintro e w12 ⟨v148, rfl, ho0, hb⟩; refine ⟨_, rfl, ?_⟩; have n0_ := Aside0.mk (Kd.R_lower ho0 (below_size (by repeat (first | (with_reducible first | exact HB.out | apply below_alloc | apply pw_below_drewN | apply below_drew1) | exact HB.out)))); have n1_ := Aside0.mk (below_step (by repeat (first | (with_reducible first | exact HB.out | apply below_alloc | apply pw_below_drewN | apply below_drew1) | exact HB.out)) hb); clear HB; have HO149 := n0_; have HB := n1_; clear n0_ n1_; (try clear hb); (try clear hb2); (try clear hk); (try clear hi); (try clear ho0); obtain ⟨Ao13, co13, eo13⟩ := Kd.R_slice HO149.out; subst eo13; have p150 : 0 ≤ ((ji8) : Int) := of_decide_eq_true (by first | (with_reducible assumption) | assumption); have q150 : (ji8) < (t146.length : Int) := of_decide_eq_true (by first | (with_reducible assumption) | assumption); obtain ⟨ad150, e150, hx150_0⟩ := Kd.at_int (Kd.R_reads' HO149.out).2.2 (ji8) p150 q150; cases e150; replace p150 := eq_true p150; replace q150 := eq_true q150))
          (try simp only [Act.put, List.setIfInBounds_toArray, List.set_cons_zero, List.set_cons_succ])
          go_cut [11] (fun v11 wc => ∃ (kq : Nat) (x9_10 : List Int), v11 = .bool (decide ((rd t146 (ji8)) ≥ 64)) ∧ Aside0 (jacquardref01_S.j1 kq a1 a2 x9_10 (decide ((rd t146 (ji8)) ≥ 64)) = some (r1, r2, r3)) ∧ Aside0 (kq ≤ k) ∧ Aside0 (Kd.R (Kd.int .u64) 23 wc w.heap.size (fun _ => True) (.slice (some ad150) t146.length co13) x9_10) ∧ Aside0 (Below w.heap.size w wc))
          case first =>
            have H := HC11.out
            clear HC11
            by_cases c14 : (rd t146 (ji8)) ≥ 64
            · rw [if_pos c14] at H
              have c14b0 : decide (64 ≤ (rd t146 (ji8))) = true := decide_eq_true c14
              have HC14b := Aside0.mk c14b0
              clear c14
              (first | rw [c14b0] | (simp only [i64_w, i32_w]; rw [c14b0]) | skip)
              have H' := Aside0.mk H
              clear H
              go_wp2
              go_loopg [12] k (fun kq v12 w' => ∃ (x9_1 : List Int) (x12_1 : Int), v12 = .int .i64 x12_1 ∧ Aside0 (jacquardref01_S.l0 kq a1 a2 x9_1 (decide ((rd t146 (ji8)) ≥ 64)) x12_1 = some (r1, r2, r3)) ∧ Aside0 (kq ≤ k) ∧ Aside0 (Kd.R (Kd.int .u64) 23 w' w.heap.size (fun _ => True) (.slice (some ad150) t146.length co13) x9_1) ∧ Aside0 (Below w.heap.size w w'))
              case atStart => exact ⟨(t146), (0), (by first | rfl | (simp; done) | (simp [*]; done)), H', ⟨Nat.le_refl _⟩, ⟨by (with_reducible repeat (first | apply Kd.R_alloc | apply Kd.R_drewN | apply Kd.R_drew)); exact HO149.out⟩, ⟨by repeat (first | (with_reducible first | exact HB.out | apply below_alloc | apply pw_below_drewN | apply below_drew1) | exact HB.out)⟩⟩
              case round =>
                clear H'
                try clear c1
                try clear p1
                try clear q1
                try clear hx1
                try clear c2
                try clear p2
                try clear c5
                try clear p6
                try clear c7
                try clear c9
                try clear c9b0
                try clear c10
                try clear c10b0
                try clear c14
                try clear c14b0
                try clear hx150_0
                try clear p150
                try clear q150
                obtain ⟨x9_1, x12_1, rfl, HA, HK1, HO_9, HB⟩ := hrel
                have hl9_1 := (Kd.R_reads' HO_9.out).1
                rw [hl9_1] at HO_9
                (try simp only [hl9_1])
                cases gk with
                | zero => exact absurd HA.out (by simp [jacquardref01_S.l0])
                | succ k1 =>
                  have H := HA.out
                  clear HA
                  simp only [jacquardref01_S.l0] at H
                  by_cases c15 : x12_1 < (x9_1.length : Int)
                  · rw [if_pos c15] at H
                    have c15b0 : decide (x12_1 < (x9_1.length : Int)) = true := decide_eq_true c15
                    clear c15
                    by_cases c16 : 0 ≤ x12_1
                    · rw [if_pos c16] at H
                      have c16b0 : decide (0 ≤ x12_1) = true := decide_eq_true c16
                      clear c16
                      obtain ⟨y152, hy152⟩ : ∃ y_ : List Int, y_ = (x9_1.set (x12_1 : Int).toNat (IntKind.u64.wrap (127 - (rd x9_1 x12_1)))) := ⟨_, rfl⟩
                      replace H : (jacquardref01_S.l0 k1 a1 a2 y152 (decide ((rd t146 (ji8)) ≥ 64)) (wrap64 (x12_1 + 1))) = some (r1, r2, r3) := by first | (rw [hy152]; with_reducible exact H) | (have H2_ := (Option.bind_some _ _).symm.trans H; rw [hy152]; with_reducible exact H2_) | (have H2_ := (Option.bind_some _ _).symm.trans H; with_reducible exact H2_) | with_reducible exact H | (rw [hy152]; exact H) | exact H
                      have Ny152 := Aside0.mk hy152
                      clear hy152
                      have H' := Aside0.mk H
                      clear H
                      have p151 : 0 ≤ (x12_1 : Int) := of_decide_eq_true (by first | (with_reducible assumption) | assumption)
                      have q151 : x12_1 < (x9_1.length : Int) := of_decide_eq_true (by first | (with_reducible assumption) | assumption)
                      obtain ⟨ad151, e151, hx151_0⟩ := Kd.at_int (Kd.R_reads' HO_9.out).2.2 x12_1 p151 q151
                      obtain rfl : ad150 = ad151 := (by injection e151)
                      replace p151 := eq_true p151
                      replace q151 := eq_true q151
                      have p17 : 0 ≤ (x12_1 : Int) := of_decide_eq_true (by first | (with_reducible assumption) | assumption)
                      have q17 : (x12_1 : Int) < ((x9_1.length : Int) : Int) := of_decide_eq_true (by first | (with_reducible assumption) | assumption)
                      obtain ⟨go17, co17, eo17, gb17, gl17, cl17, HG17⟩ := Kd.R_form HO_9.out (by omega)
                      (first | cases eo17 | (injection eo17 with ea_ en_ ec_; (first | subst ea_ | (injection ea_ with ea_; subst ea_)); subst ec_; clear en_))
                      have GB17 := Aside0.mk gb17
                      have GG17 := Aside0.mk HG17
                      clear gb17 gl17 HG17
                      (try simp only [add_plain] at *)
                      (first | simp only [add_plain] at hx150_0 | skip)
                      (first | simp only [add_plain] at hx151_0 | skip)
                      obtain ⟨hx17_0, hf17_0⟩ := Kd.R_celln 0 HO_9.out (x12_1 : Int) p17 q17
                      replace p17 := eq_true p17
                      replace q17 := eq_true q17
                      have HP18 := Kd.R_putg HO_9.out (x12_1 : Int) (IntKind.u64.wrap (127 - (rd x9_1 x12_1)))
                      go_wp2_with (first | ((with_reducible refine gate_store (t := 23) (p := 52) rfl ?_); refine store_event (t := 23) (p := 52) (v := ?vo_w19) (w1 := (wr.setCell ⟨go17, (x12_1 : Int).toNat, none⟩ (.int .u64 (IntKind.u64.wrap (127 - (rd x9_1 x12_1)))))) ?hg ?ho ?hn ?hr ?_; (case ho => rfl); (case hg => rfl); (case hn => rfl); (case hr => first | (go_simp; done) | (go_simp; rfl)); intro w19 hw; have hg : wr.grownBy w19 (some go17) := (by rw [hw]; exact HP18.2); have hp_ : Kd.R (Kd.int .u64) 23 w19 w.heap.size (fun _ => True) (.slice (some ⟨go17, 0, none⟩) x9_1.length co13) y152 := (by rw [hw, Ny152.out]; exact HP18.1); clear HP18; have n0_ := Aside0.mk (hp_); have n1_ := Aside0.mk ((by rw [hw]; exact below_set (HB.out) GB17.out : Below w.heap.size w w19)); clear HO_9; clear HB; have HO_9 := n0_; have HB := n1_; clear n0_ n1_; clear hg hw hp_))
                      (try simp only [← hl9_1])
                      go_roundg k1
                      case measure => have := HK1.out; omega
                      case rel => exact ⟨(y152), (wrap64 (x12_1 + 1)), (by first | rfl | (simp; done) | (simp [*]; done)), H', ⟨by have := HK1.out; omega⟩, ⟨by (try simp only [hl9_1]); (with_reducible repeat (first | apply Kd.R_alloc | apply Kd.R_drewN | apply Kd.R_drew)); exact HO_9.out⟩, ⟨by repeat (first | (with_reducible first | exact HB.out | apply below_alloc | apply pw_below_drewN | apply below_drew1) | exact HB.out)⟩⟩
                    · rw [if_neg c16] at H
                      exact absurd H (by simp)
                  · rw [if_neg c15] at H
                    have c15b0 : decide (x12_1 < (x9_1.length : Int)) = false := decide_eq_false c15
                    clear c15
                    have H' := Aside0.mk H
                    clear H
                    go_wp2
                    (try simp only [← hl9_1])
                    go_meet
                    case rel => exact ⟨_, (x9_1), (by first | rfl | exact congrArg Value.bool HC14b.out.symm), H', ⟨by have := HK1.out; first | omega | exact Nat.le_refl _⟩, ⟨by (try simp only [hl9_1]); (with_reducible repeat (first | apply Kd.R_alloc | apply Kd.R_drewN | apply Kd.R_drew)); exact HO_9.out⟩, ⟨by repeat (first | (with_reducible first | exact HB.out | apply below_alloc | apply pw_below_drewN | apply below_drew1) | exact HB.out)⟩⟩
            · rw [if_neg c14] at H
              have c14b0 : decide (64 ≤ (rd t146 (ji8))) = false := decide_eq_false c14
              have HC14b := Aside0.mk c14b0
              clear c14
              (first | rw [c14b0] | (simp only [i64_w, i32_w]; rw [c14b0]) | skip)
              have H' := Aside0.mk H
              clear H
              go_wp2
              go_meet
              case rel => exact ⟨_, (t146), (by first | rfl | exact congrArg Value.bool HC14b.out.symm), H', ⟨by first | omega | exact Nat.le_refl _⟩, ⟨by (with_reducible repeat (first | apply Kd.R_alloc | apply Kd.R_drewN | apply Kd.R_drew)); exact HO149.out⟩, ⟨by repeat (first | (with_reducible first | exact HB.out | apply below_alloc | apply pw_below_drewN | apply below_drew1) | exact HB.out)⟩⟩
          case rest =>
            clear HC11
            try clear c1
            try clear p1
            try clear q1
            try clear hx1
            try clear c2
            try clear p2
            try clear c5
            try clear p6
            try clear c7
            try clear c9
            try clear c9b0
            try clear c10
            try clear c10b0
            try clear c14
            try clear c14b0
            try clear c15
            try clear c15b0
            try clear p15
            try clear q15
            try clear hx15
            try clear c16
            try clear c16b0
            try clear p17
            try clear q17
            try clear hx17
            try clear hf17
            try clear hx150_0
            try clear hx151_0
            try clear hx17_0
            try clear p1
            try clear p150
            try clear p151
            try clear p17
            try clear p2
            try clear p6
            try clear q1
            try clear q150
            try clear q151
            try clear q17
            obtain ⟨kq, x9_10, rfl, HA, HJ10, HO_9, HB⟩ := hcut
            have hl9_10 := (Kd.R_reads' HO_9.out).1
            rw [hl9_10] at HO_9
            (try simp only [hl9_10])
            cases kq with
            | zero => exact absurd HA.out (by simp [jacquardref01_S.j1])
            | succ kj10 =>
              have H := HA.out
              clear HA
              simp only [jacquardref01_S.j1] at H
              obtain ⟨ji20, hji20⟩ : ∃ j_ : Int, (IntKind.u64.wrap (wrap64 (64 - a2))) = j_ := ⟨_, rfl⟩
              replace H : (if 0 ≤ (ji20) then ((jacquardref01_number.f kj10 x9_10 ((shr .u64 18446744073709551615 (ji20)) / 2)).bind fun bt153 => (if bt153.2 = true then (if (decide ((rd t146 (ji8)) ≥ 64)) = true then (some (wrap64 ((wrap64 (-(wrap64 (bt153.1)))) - 1), wrap64 (a1 + (x9_10.length : Int)), 0)) else (some (wrap64 (bt153.1), wrap64 (a1 + (x9_10.length : Int)), 0))) else (some (0, 0, 4)))) else (none)) = some (r1, r2, r3) := by first | (rw [hji20] at H; exact H) | (simp only [hji20] at H ⊢; exact H)
              by_cases c21 : 0 ≤ (ji20)
              · rw [if_pos c21] at H
                have c21b0 := eq_true c21
                have c21b1 : decide (0 ≤ (ji20)) = true := decide_eq_true c21
                clear c21
                obtain ⟨ji22, hji22⟩ : ∃ j_ : Int, (shr .u64 18446744073709551615 (ji20)) = j_ := ⟨_, rfl⟩
                have hji22l : 0 ≤ ji22 := by rw [← hji22]; unfold shr; exact Int.ediv_nonneg (by decide) (Int.le_of_lt (Int.pow_pos (by decide)))
                have hji22h : ji22 ≤ 18446744073709551615 := by rw [← hji22]; unfold shr; exact Int.ediv_le_self _ (by decide)
                replace H : ((jacquardref01_number.f kj10 x9_10 ((ji22) / 2)).bind fun bt153 => (if bt153.2 = true then (if (decide ((rd t146 (ji8)) ≥ 64)) = true then (some (wrap64 ((wrap64 (-(wrap64 (bt153.1)))) - 1), wrap64 (a1 + (x9_10.length : Int)), 0)) else (some (wrap64 (bt153.1), wrap64 (a1 + (x9_10.length : Int)), 0))) else (some (0, 0, 4)))) = some (r1, r2, r3) := by first | (rw [hji22] at H; exact H) | (simp only [hji22] at H ⊢; exact H)
                have hji22_ : (18446744073709551615 / 2 ^ min (ji20).toNat 64) = ji22 := hji22
                have hji22z : (ji20) ≤ 64 → (18446744073709551615 / 2 ^ (ji20).toNat) = ji22 := shr_small hji22
                replace H := Option.bind_eq_some_iff.mp H
                obtain ⟨⟨t153, t154⟩, A230, H⟩ := H
                replace H : (if t154 = true then (if (decide ((rd t146 (ji8)) ≥ 64)) = true then (some (wrap64 ((wrap64 (-(wrap64 (t153)))) - 1), wrap64 (a1 + (x9_10.length : Int)), 0)) else (some (wrap64 (t153), wrap64 (a1 + (x9_10.length : Int)), 0))) else (some (0, 0, 4))) = some (r1, r2, r3) := H
                have A23 := Aside0.mk A230
                clear A230
                by_cases c24 : t154 = true
                · subst c24
                  have H1 : (if (decide ((rd t146 (ji8)) ≥ 64)) = true then (some (wrap64 ((wrap64 (-(wrap64 (t153)))) - 1), wrap64 (a1 + (x9_10.length : Int)), 0)) else (some (wrap64 (t153), wrap64 (a1 + (x9_10.length : Int)), 0))) = some (r1, r2, r3) := by rw [if_pos rfl] at H; exact H
                  clear H
                  have H := H1
                  clear H1
                  by_cases c25 : (decide ((rd t146 (ji8)) ≥ 64)) = true
                  · rw [if_pos c25] at H
                    have c25b0 : (decide ((rd t146 (ji8)) ≥ 64)) = true := c25
                    clear c25
                    simp only [Option.some.injEq, Prod.mk.injEq] at H
                    obtain ⟨rfl, rfl, rfl⟩ := H
                    go_wp2_with (first | ((with_reducible refine gate_callee (f := 30) rfl ?_); refine goesL_ (some 60) rfl rfl Try.func30 (by kernel_rfl) rfl #[.slice (some ad150) x9_10.length co13, .int .u64 ((ji22) / 2)] rfl (by (try simp only [List.map_toArray, List.map_cons, List.map_nil]); first | done | (simp only [hji22]; rfl) | rfl | (simp only [List.length_drop, List.length_take]; rfl)) ?_; (with_reducible refine (jacquardref01_number.calls kj10 _ _ x9_10 ((ji22) / 2) t153 true _ ?side1 ?side2 A23.out).mono ?_); (case side1 => repeat (first | exact (Kd.R_reads' HO_9.out).2.2 | (with_reducible refine Kd.C_alloc ?_ _) | (with_reducible refine Kd.C_drewN ?_ _) | (with_reducible refine Kd.C_drew ?_))); (case side2 => exact (Kd.R_reads' HO_9.out).2.1); rintro e w26 ⟨rfl, hb⟩; refine ⟨_, rfl, ?_⟩; have n0_ := Aside0.mk (Kd.R_below (by (with_reducible repeat (first | apply Kd.R_alloc | apply Kd.R_drewN | apply Kd.R_drew)); exact HO_9.out) hb); have n1_ := Aside0.mk (below_step (by repeat (first | (with_reducible first | exact HB.out | apply below_alloc | apply pw_below_drewN | apply below_drew1) | exact HB.out)) hb); clear HO_9; clear HB; have HO_9 := n0_; have HB := n1_; clear n0_ n1_; (try clear hb); (try clear hb2); (try clear hk); (try clear hi)))
                    go_ret3
                    exact ⟨by first | rfl | (simp [errW_none, errW_some] <;> rfl) | (simp only [← hji8, ← hji20, ← hji22]; first | rfl | (simp [errW_none, errW_some] <;> rfl)) | (simp [*, errW_none, errW_some] <;> rfl), by repeat (first | (with_reducible first | exact HB.out | apply below_alloc | apply pw_below_drewN | apply below_drew1) | exact HB.out)⟩
                  · rw [if_neg c25] at H
                    have c25b0 : (decide ((rd t146 (ji8)) ≥ 64)) = false := by simpa using c25
                    clear c25
                    simp only [Option.some.injEq, Prod.mk.injEq] at H
                    obtain ⟨rfl, rfl, rfl⟩ := H
                    go_wp2_with (first | ((with_reducible refine gate_callee (f := 30) rfl ?_); refine goesL_ (some 60) rfl rfl Try.func30 (by kernel_rfl) rfl #[.slice (some ad150) x9_10.length co13, .int .u64 ((ji22) / 2)] rfl (by (try simp only [List.map_toArray, List.map_cons, List.map_nil]); first | done | (simp only [hji22]; rfl) | rfl | (simp only [List.length_drop, List.length_take]; rfl)) ?_; (with_reducible refine (jacquardref01_number.calls kj10 _ _ x9_10 ((ji22) / 2) t153 true _ ?side1 ?side2 A23.out).mono ?_); (case side1 => repeat (first | exact (Kd.R_reads' HO_9.out).2.2 | (with_reducible refine Kd.C_alloc ?_ _) | (with_reducible refine Kd.C_drewN ?_ _) | (with_reducible refine Kd.C_drew ?_))); (case side2 => exact (Kd.R_reads' HO_9.out).2.1); rintro e w27 ⟨rfl, hb⟩; refine ⟨_, rfl, ?_⟩; have n0_ := Aside0.mk (Kd.R_below (by (with_reducible repeat (first | apply Kd.R_alloc | apply Kd.R_drewN | apply Kd.R_drew)); exact HO_9.out) hb); have n1_ := Aside0.mk (below_step (by repeat (first | (with_reducible first | exact HB.out | apply below_alloc | apply pw_below_drewN | apply below_drew1) | exact HB.out)) hb); clear HO_9; clear HB; have HO_9 := n0_; have HB := n1_; clear n0_ n1_; (try clear hb); (try clear hb2); (try clear hk); (try clear hi)))
                    go_ret3
                    exact ⟨by first | rfl | (simp [errW_none, errW_some] <;> rfl) | (simp only [← hji8, ← hji20, ← hji22]; first | rfl | (simp [errW_none, errW_some] <;> rfl)) | (simp [*, errW_none, errW_some] <;> rfl), by repeat (first | (with_reducible first | exact HB.out | apply below_alloc | apply pw_below_drewN | apply below_drew1) | exact HB.out)⟩
                · replace c24 := Bool.eq_false_iff.mpr c24
                  subst c24
                  have H1 : (some (0, 0, 4)) = some (r1, r2, r3) := by rw [if_neg (show ¬ (false = true) by decide)] at H; exact H
                  clear H
                  have H := H1
                  clear H1
                  simp only [Option.some.injEq, Prod.mk.injEq] at H
                  obtain ⟨rfl, rfl, rfl⟩ := H
                  go_wp2_with (first | ((with_reducible refine gate_callee (f := 30) rfl ?_); refine goesL_ (some 60) rfl rfl Try.func30 (by kernel_rfl) rfl #[.slice (some ad150) x9_10.length co13, .int .u64 ((ji22) / 2)] rfl (by (try simp only [List.map_toArray, List.map_cons, List.map_nil]); first | done | (simp only [hji22]; rfl) | rfl | (simp only [List.length_drop, List.length_take]; rfl)) ?_; (with_reducible refine (jacquardref01_number.calls kj10 _ _ x9_10 ((ji22) / 2) t153 false _ ?side1 ?side2 A23.out).mono ?_); (case side1 => repeat (first | exact (Kd.R_reads' HO_9.out).2.2 | (with_reducible refine Kd.C_alloc ?_ _) | (with_reducible refine Kd.C_drewN ?_ _) | (with_reducible refine Kd.C_drew ?_))); (case side2 => exact (Kd.R_reads' HO_9.out).2.1); rintro e w28 ⟨rfl, hb⟩; refine ⟨_, rfl, ?_⟩; have n0_ := Aside0.mk (Kd.R_below (by (with_reducible repeat (first | apply Kd.R_alloc | apply Kd.R_drewN | apply Kd.R_drew)); exact HO_9.out) hb); have n1_ := Aside0.mk (below_step (by repeat (first | (with_reducible first | exact HB.out | apply below_alloc | apply pw_below_drewN | apply below_drew1) | exact HB.out)) hb); clear HO_9; clear HB; have HO_9 := n0_; have HB := n1_; clear n0_ n1_; (try clear hb); (try clear hb2); (try clear hk); (try clear hi)))
                  go_ret3
                  exact ⟨by first | rfl | (simp [errW_none, errW_some] <;> rfl) | (simp only [← hji8, ← hji20, ← hji22]; first | rfl | (simp [errW_none, errW_some] <;> rfl)) | (simp [*, errW_none, errW_some] <;> rfl), by repeat (first | (with_reducible first | exact HB.out | apply below_alloc | apply pw_below_drewN | apply below_drew1) | exact HB.out)⟩
              · rw [if_neg c21] at H
                exact absurd H (by simp)
        · rw [if_neg c10] at H
          exact absurd H (by simp)
      · rw [if_neg c9] at H
        exact absurd H (by simp)
    · replace c7 := Bool.eq_false_iff.mpr c7
      subst c7
      have H1 : (some (0, 0, 4)) = some (r1, r2, r3) := by rw [if_neg (show ¬ (false = true) by decide)] at H; exact H
      clear H
      have H := H1
      clear H1
      simp only [Option.some.injEq, Prod.mk.injEq] at H
      obtain ⟨rfl, rfl, rfl⟩ := H
      go_enter Try.func16, Try.ntmps16
      go_wp2_with (first | ((with_reducible refine gate_callee (f := 28) rfl ?_); refine goesL_ (some 18) rfl rfl Try.func28 (by kernel_rfl) rfl #[.slice A0 l0.length c0, .int .i64 a1, .int .i64 a2] rfl (by (try simp only [List.map_toArray, List.map_cons, List.map_nil]); first | done | rfl | (simp only [List.length_drop, List.length_take]; rfl)) ?_; (with_reducible refine (jacquardref01_may.calls _ _ l0 a1 a2 true _ ?side1 ?side2 A4.out).mono ?_); (case side1 => repeat (first | exact HR0.out | (with_reducible refine Kd.C_alloc ?_ _) | (with_reducible refine Kd.C_drewN ?_ _) | (with_reducible refine Kd.C_drew ?_))); (case side2 => exact HC0.out); rintro e w' ⟨rfl, ⟨nd, rfl⟩⟩; refine ⟨_, rfl, ?_⟩) | ((with_reducible refine gate_callee (f := 29) rfl ?_); refine goesL_ (some 26) rfl rfl Try.func29 (by kernel_rfl) rfl #[.slice A0 l0.length c0, .int .i64 a1, .int .i64 (wrap64 (Int.tdiv (wrap64 (a2 + 6)) 7))] rfl (by (try simp only [List.map_toArray, List.map_cons, List.map_nil]); first | done | rfl | (simp only [List.length_drop, List.length_take]; rfl)) ?_; (with_reducible refine (jacquardref01_groups.calls k _ _ l0 a1 (wrap64 (Int.tdiv (wrap64 (a2 + 6)) 7)) t146 false _ ?side1 ?side2 A6.out).mono ?_); (case side1 => repeat (first | exact HR0.out | (with_reducible refine Kd.C_alloc ?_ _) | (with_reducible refine Kd.C_drewN ?_ _) | (with_reducible refine Kd.C_drew ?_))); (case side2 => exact HC0.out); rintro e w29 ⟨v148, rfl, ho0, hb⟩; refine ⟨_, rfl, ?_⟩; have n0_ := Aside0.mk (Kd.R_lower ho0 (below_size (by repeat (first | (with_reducible first | exact HB.out | apply below_alloc | apply pw_below_drewN | apply below_drew1) | exact HB.out)))); have n1_ := Aside0.mk (below_step (by repeat (first | (with_reducible first | exact HB.out | apply below_alloc | apply pw_below_drewN | apply below_drew1) | exact HB.out)) hb); clear HB; have HO149 := n0_; have HB := n1_; clear n0_ n1_; (try clear hb); (try clear hb2); (try clear hk); (try clear hi); (try clear ho0)))
      go_ret3
      exact ⟨by first | rfl | (simp [errW_none, errW_some] <;> rfl) | (simp [*, errW_none, errW_some] <;> rfl), by repeat (first | (with_reducible first | exact HB.out | apply below_alloc | apply pw_below_drewN | apply below_drew1) | exact HB.out)⟩
  · replace c5 := Bool.eq_false_iff.mpr c5
    subst c5
    have H1 : (some (0, 0, 2)) = some (r1, r2, r3) := by rw [if_neg (show ¬ (false = true) by decide)] at H; exact H
    clear H
    have H := H1
    clear H1
    simp only [Option.some.injEq, Prod.mk.injEq] at H
    obtain ⟨rfl, rfl, rfl⟩ := H
    go_enter Try.func16, Try.ntmps16
    go_wp2_with (first | ((with_reducible refine gate_callee (f := 28) rfl ?_); refine goesL_ (some 18) rfl rfl Try.func28 (by kernel_rfl) rfl #[.slice A0 l0.length c0, .int .i64 a1, .int .i64 a2] rfl (by (try simp only [List.map_toArray, List.map_cons, List.map_nil]); first | done | rfl | (simp only [List.length_drop, List.length_take]; rfl)) ?_; (with_reducible refine (jacquardref01_may.calls _ _ l0 a1 a2 false _ ?side1 ?side2 A4.out).mono ?_); (case side1 => repeat (first | exact HR0.out | (with_reducible refine Kd.C_alloc ?_ _) | (with_reducible refine Kd.C_drewN ?_ _) | (with_reducible refine Kd.C_drew ?_))); (case side2 => exact HC0.out); rintro e w' ⟨rfl, ⟨nd, rfl⟩⟩; refine ⟨_, rfl, ?_⟩))
    go_ret3
    exact ⟨by first | rfl | (simp [errW_none, errW_some] <;> rfl) | (simp [*, errW_none, errW_some] <;> rfl), by repeat (first | (with_reducible first | exact HB.out | apply below_alloc | apply pw_below_drewN | apply below_drew1) | exact HB.out)⟩

end Go.Proofs.Ytjgioffeojjgeaa.P
