import Derived.Test.YtobldeamemmokaaDoorPx0
import Derived.Test.YtobldeamemmokaaDoorPA
namespace Go.Proofs.YtobldeamemmokaaDoor.P
open Go.Proofs.YtobldeamemmokaaDoorTabs
open Go.RowKit Go.Proofs.YtobldeamemmokaaDoorW.PrintWords Go.Proofs.YtobldeamemmokaaDoorW.PrintLast Go.Proofs.YtobldeamemmokaaDoorW.PrintMore
attribute [local go_sem] max2_int min2_int max_two min_two max_three min_three max_four min_four   -- for this text's walks alone
set_option linter.unusedVariables false
set_option linter.unusedSimpArgs false
/-! ### leb_may: function 87 -/
def leb_may.f (l0 : List Int) (a1 : Int) (a2 : Int) : Option (Bool) := if a2 ≥ 1 then (if a2 ≤ 64 then (if a1 ≥ 0 then (some (decide (a1 ≤ (l0.length : Int)))) else (some false)) else (some false)) else (some false)
set_option maxHeartbeats 8000000 in
set_option maxRecDepth 100000 in
theorem leb_may.calls (A0 : Option Addr) (c0 : Nat) (l0 : List Int) (a1 : Int) (a2 : Int) (r : Bool) (w : World) (hr0 : Kd.C (Kd.int .u8) w A0 l0.length l0) (hc0 : l0.length ≤ c0) (h : leb_may.f l0 a1 a2 = some r) :
  Calls Tryd.prog 87 #[.slice A0 l0.length c0, .int .i64 a1, .int .i64 a2] w fun e w' => e = .returned (.bool r) ∧ Drawn0 w w' := by
 have HR0 := Aside0.mk hr0
 have HC0 := Aside0.mk hc0
 clear hr0 hc0
 have H : (if a2 ≥ 1 then (if a2 ≤ 64 then (if a1 ≥ 0 then (some (decide (a1 ≤ (l0.length : Int)))) else (some false)) else (some false)) else (some false)) = some r := h
 clear h
 by_cases c4 : a2 ≥ 1
 ·rw [if_pos c4] at H
  have c4b0 : decide (1 ≤ a2) = true := decide_eq_true c4
  clear c4
  by_cases c5 : a2 ≤ 64
  ·rw [if_pos c5] at H
   have c5b0 : decide (a2 ≤ 64) = true := decide_eq_true c5
   clear c5
   by_cases c6 : a1 ≥ 0
   ·rw [if_pos c6] at H
    have c6b0 : decide (0 ≤ a1) = true := decide_eq_true c6
    clear c6
    obtain rfl := Option.some.inj H
    go_enter Tryd.func87, Tryd.ntmps87
    go_wp2
    go_ret
    exact ⟨by first | rfl | (simp; done) | (simp [*]; done), by repeat (first | exact Drawn0.refl _ | apply Drawn0.step)⟩
   ·rw [if_neg c6] at H
    have c6b0 : decide (0 ≤ a1) = false := decide_eq_false c6
    clear c6
    obtain rfl := Option.some.inj H
    go_enter Tryd.func87, Tryd.ntmps87
    go_wp2
    go_ret
    exact ⟨by first | rfl | (simp; done) | (simp [*]; done), by repeat (first | exact Drawn0.refl _ | apply Drawn0.step)⟩
  ·rw [if_neg c5] at H
   have c5b0 : decide (a2 ≤ 64) = false := decide_eq_false c5
   clear c5
   obtain rfl := Option.some.inj H
   go_enter Tryd.func87, Tryd.ntmps87
   go_wp2
   go_ret
   exact ⟨by first | rfl | (simp; done) | (simp [*]; done), by repeat (first | exact Drawn0.refl _ | apply Drawn0.step)⟩
 ·rw [if_neg c4] at H
  have c4b0 : decide (1 ≤ a2) = false := decide_eq_false c4
  clear c4
  obtain rfl := Option.some.inj H
  go_enter Tryd.func87, Tryd.ntmps87
  go_wp2
  go_ret
  exact ⟨by first | rfl | (simp; done) | (simp [*]; done), by repeat (first | exact Drawn0.refl _ | apply Drawn0.step)⟩

/-! ### leb_end: function 88 -/
def leb_end.l0 : Nat → List Int → Int → Int → Int → Option (Int)
 | 0, _, _, _, _ => none
 | k + 1, x0, x1, x10, x11 => if x11 < x10 then (if (wrap64 (x1 + x11)) = (x0.length : Int) then (some (-1)) else (if 0 ≤ (wrap64 (x1 + x11)) then (if (wrap64 (x1 + x11)) < (x0.length : Int) then (if (rd x0 (wrap64 (x1 + x11))) < 128 then (some (wrap64 ((wrap64 (x1 + x11)) + 1))) else (leb_end.l0 k x0 x1 x10 (wrap64 (x11 + 1)))) else (none)) else (none))) else (some (-1))
def leb_end.f (k : Nat) (l0 : List Int) (a1 : Int) (a2 : Int) : Option (Int) := leb_end.l0 k l0 a1 (wrap64 (Int.tdiv (wrap64 (a2 + 6)) 7)) 0
theorem leb_end.mono_l : ∀ k, (∀ y0 y1 y2 y3, LeO (leb_end.l0 k y0 y1 y2 y3) (leb_end.l0 (k + 1) y0 y1 y2 y3))
 | 0 => fun _ _ _ _ r h => by simp [leb_end.l0] at h
 | k + 1 => by
  have ih0 := leb_end.mono_l k
  ·intro y0 y1 y2 y3
   unfold leb_end.l0
   repeat' first
   | (with_reducible exact ih0 _ _ _ _)
   | (with_reducible exact LeO.refl _)
   | (with_reducible exact LeO.none _)
   | (with_reducible refine LeO.ite ?_ ?_)
   | (with_reducible refine LeO.bind ?_ (fun _ => ?_))
   | exact ih0 _ _ _ _
   | exact LeO.none _
   | refine LeO.ite ?_ ?_
   | refine LeO.bind ?_ (fun _ => ?_)
theorem leb_end.mono : ∀ a0 a1 a2 k, LeO (leb_end.f k a0 a1 a2) (leb_end.f (k + 1) a0 a1 a2) := by
 intro a0 a1 a2 k
 have ih0 := leb_end.mono_l k
 unfold leb_end.f
 repeat' first
   | (with_reducible exact ih0 _ _ _ _)
   | (with_reducible exact LeO.refl _)
   | (with_reducible exact LeO.none _)
   | (with_reducible refine LeO.ite ?_ ?_)
   | (with_reducible refine LeO.bind ?_ (fun _ => ?_))
   | exact ih0 _ _ _ _
   | exact LeO.none _
   | refine LeO.ite ?_ ?_
   | refine LeO.bind ?_ (fun _ => ?_)
set_option maxHeartbeats 8000000 in
set_option maxRecDepth 100000 in
theorem leb_end.calls (k : Nat) (A0 : Option Addr) (c0 : Nat) (l0 : List Int) (a1 : Int) (a2 : Int) (r : Int) (w : World) (hr0 : Kd.C (Kd.int .u8) w A0 l0.length l0) (hc0 : l0.length ≤ c0) (h : leb_end.f k l0 a1 a2 = some r) :
  Calls Tryd.prog 88 #[.slice A0 l0.length c0, .int .i64 a1, .int .i64 a2] w fun e w' => e = .returned (.int .i64 r) ∧ Drawn0 w w' := by
 have HR0 := Aside0.mk hr0
 have HC0 := Aside0.mk hc0
 clear hr0 hc0
 have H : (leb_end.l0 k l0 a1 (wrap64 (Int.tdiv (wrap64 (a2 + 6)) 7)) 0) = some r := h
 clear h
 have H' := Aside0.mk H
 clear H
 go_enter Tryd.func88, Tryd.ntmps88
 go_wp2
 (repeat (go_step3; go_wp2))
 go_loopg [11] k (fun kq v11 w' => ∃ (x11_1 : Int), v11 = .int .i64 x11_1 ∧ Aside0 (leb_end.l0 kq l0 a1 (wrap64 (Int.tdiv (wrap64 (a2 + 6)) 7)) x11_1 = some r) ∧ Aside0 (kq ≤ k) ∧ Drawn0 w w')
 case atStart => exact ⟨(0), (by first | rfl | (simp; done) | (simp [*]; done)), H', ⟨Nat.le_refl _⟩, by repeat (first | exact Drawn0.refl _ | apply Drawn0.step)⟩
 case round =>
  clear H'
  try clear p2
  try clear p3
  obtain ⟨x11_1, rfl, HA, HK1, ⟨m1, rfl⟩⟩ := hrel
  cases gk with
  | zero => exact absurd HA.out (by simp [leb_end.l0])
  | succ k1 =>
   have H := HA.out
   clear HA
   simp only [leb_end.l0] at H
   by_cases c4 : x11_1 < (wrap64 (Int.tdiv (wrap64 (a2 + 6)) 7))
   ·rw [if_pos c4] at H
    have c4b0 : decide (x11_1 < (wrap64 (Int.tdiv (wrap64 (a2 + 6)) 7))) = true := decide_eq_true c4
    clear c4
    by_cases c5 : (wrap64 (a1 + x11_1)) = (l0.length : Int)
    ·rw [if_pos c5] at H
     have c5b0 : ((wrap64 (a1 + x11_1)) == (l0.length : Int)) = true := beq_iff_eq.mpr c5
     have c5b1 : ((wrap64 (a1 + x11_1)) != (l0.length : Int)) = false := bne_eq_false_iff_eq.mpr c5
     clear c5
     obtain rfl := Option.some.inj H
     go_wp2
     (repeat (go_step3; go_wp2))
     go_ret
     exact ⟨by first | rfl | (simp; done) | (simp [*]; done), by repeat (first | exact Drawn0.refl _ | apply Drawn0.step)⟩
    ·rw [if_neg c5] at H
     have c5b0 : ((wrap64 (a1 + x11_1)) == (l0.length : Int)) = false := beq_eq_false_iff_ne.mpr c5
     have c5b1 : ((wrap64 (a1 + x11_1)) != (l0.length : Int)) = true := bne_iff_ne.mpr c5
     obtain ⟨ji6, hji6⟩ : ∃ j_ : Int, (wrap64 (a1 + x11_1)) = j_ := ⟨_, rfl⟩
     replace H : (if 0 ≤ (ji6) then (if (ji6) < (l0.length : Int) then (if (rd l0 (ji6)) < 128 then (some (wrap64 ((ji6) + 1))) else (leb_end.l0 k1 l0 a1 (wrap64 (Int.tdiv (wrap64 (a2 + 6)) 7)) (wrap64 (x11_1 + 1)))) else (none)) else (none)) = some r := by first | (rw [hji6] at H; exact H) | (simp only [hji6] at H ⊢; exact H)
     (try rw [hji6] at c5b0)
     (try rw [hji6] at c5b1)
     have hji6w : (IntKind.i64.wrap (a1 + x11_1)) = ji6 := (i64_w _).trans hji6
     by_cases c7 : 0 ≤ (ji6)
     ·rw [if_pos c7] at H
      have c7b0 : decide (0 ≤ (ji6)) = true := decide_eq_true c7
      clear c7
      by_cases c8 : (ji6) < (l0.length : Int)
      ·rw [if_pos c8] at H
       have c8b0 : decide ((ji6) < (l0.length : Int)) = true := decide_eq_true c8
       clear c8
       by_cases c9 : (rd l0 (ji6)) < 128
       ·rw [if_pos c9] at H
        have c9b0 : decide ((rd l0 (ji6)) < 128) = true := decide_eq_true c9
        clear c9
        obtain rfl := Option.some.inj H
        have p254 : 0 ≤ ((ji6) : Int) := of_decide_eq_true (by first | (with_reducible assumption) | assumption)
        have q254 : (ji6) < (l0.length : Int) := of_decide_eq_true (by first | (with_reducible assumption) | assumption)
        obtain ⟨ad254, e254, hx254_0⟩ := Kd.at_int HR0.out (ji6) p254 q254
        cases e254
        replace p254 := eq_true p254
        replace q254 := eq_true q254
        go_wp2
        (repeat (go_step3; go_wp2))
        go_ret
        exact ⟨by first | rfl | (simp; done) | (simp only [← hji6] <;> (first | rfl | simp)) | (simp [*]; done), by repeat (first | exact Drawn0.refl _ | apply Drawn0.step)⟩
       ·rw [if_neg c9] at H
        have c9b0 : decide ((rd l0 (ji6)) < 128) = false := decide_eq_false c9
        clear c9
        have H' := Aside0.mk H
        clear H
        have p254 : 0 ≤ ((ji6) : Int) := of_decide_eq_true (by first | (with_reducible assumption) | assumption)
        have q254 : (ji6) < (l0.length : Int) := of_decide_eq_true (by first | (with_reducible assumption) | assumption)
        obtain ⟨ad254, e254, hx254_0⟩ := Kd.at_int HR0.out (ji6) p254 q254
        cases e254
        replace p254 := eq_true p254
        replace q254 := eq_true q254
        go_wp2
        (repeat (go_step3; go_wp2))
        go_roundg k1
        case measure => have := HK1.out; omega
        case rel => exact ⟨(wrap64 (x11_1 + 1)), (by first | rfl | (simp; done) | (simp [*]; done)), H', ⟨by have := HK1.out; omega⟩, by repeat (first | exact Drawn0.refl _ | apply Drawn0.step)⟩
      ·rw [if_neg c8] at H
       exact absurd H (by simp)
     ·rw [if_neg c7] at H
      exact absurd H (by simp)
   ·rw [if_neg c4] at H
    have c4b0 : decide (x11_1 < (wrap64 (Int.tdiv (wrap64 (a2 + 6)) 7))) = false := decide_eq_false c4
    clear c4
    obtain rfl := Option.some.inj H
    go_wp2
    (repeat (go_step3; go_wp2))
    go_ret
    exact ⟨by first | rfl | (simp; done) | (simp [*]; done), by repeat (first | exact Drawn0.refl _ | apply Drawn0.step)⟩

/-! ### leb_S: function 79 -/
mutual
def leb_S.j0 : Nat → List Int → Int → Int → Int → Bool → Int → Option (Int × Int × Int)
 | 0, _, _, _, _, _, _ => none
 | k + 1, x0, x1, x2, x7, x9, x10 => if 0 ≤ x1 then (if x1 ≤ x7 then (if x7 ≤ (x0.length : Int) then (leb_S.l0 k x2 x7 x9 x10 0 ((x0.take (x7 : Int).toNat).drop (x1 : Int).toNat) (((x0.take (x7 : Int).toNat).drop (x1 : Int).toNat).length : Int) 0) else (none)) else (none)) else (none)
def leb_S.l0 : Nat → Int → Int → Bool → Int → Int → List Int → Int → Int → Option (Int × Int × Int)
 | 0, _, _, _, _, _, _, _, _ => none
 | k + 1, x2, x7, x9, x10, x11, x38, x39, x40 => if x40 < x39 then (if 0 ≤ x40 then (if x40 < (x38.length : Int) then (if 0 ≤ (IntKind.u64.wrap (7 * (IntKind.u64.wrap (x40)))) then (if (shr .u64 (shl .u64 (IntKind.u64.wrap (Go.bits .and .u8 (Go.bits .xor .u8 (rd x38 x40) x10) 127)) (IntKind.u64.wrap (7 * (IntKind.u64.wrap (x40))))) (IntKind.u64.wrap (7 * (IntKind.u64.wrap (x40))))) = (IntKind.u64.wrap (Go.bits .and .u8 (Go.bits .xor .u8 (rd x38 x40) x10) 127)) then (if 0 ≤ (IntKind.u64.wrap (wrap64 (x2 - 1))) then (if (shr .u64 (shl .u64 (IntKind.u64.wrap (Go.bits .and .u8 (Go.bits .xor .u8 (rd x38 x40) x10) 127)) (IntKind.u64.wrap (7 * (IntKind.u64.wrap (x40))))) (IntKind.u64.wrap (wrap64 (x2 - 1)))) = 0 then (leb_S.l0 k x2 x7 x9 x10 (Go.bits .or .u64 x11 (shl .u64 (IntKind.u64.wrap (Go.bits .and .u8 (Go.bits .xor .u8 (rd x38 x40) x10) 127)) (IntKind.u64.wrap (7 * (IntKind.u64.wrap (x40)))))) x38 x39 (wrap64 (x40 + 1))) else (some (0, 0, 4))) else (none)) else (some (0, 0, 4))) else (none)) else (none)) else (none)) else (if x9 = true then (some (wrap64 (Go.bits .xor .u64 18446744073709551615 x11), x7, 0)) else (some (wrap64 (x11), x7, 0)))
end
def leb_S.f (k : Nat) (l0 : List Int) (a1 : Int) (a2 : Int) : Option (Int × Int × Int) := (leb_may.f l0 a1 a2).bind fun t266 => (if t266 = true then ((leb_end.f k l0 a1 a2).bind fun t267 => (if t267 < 0 then (some (0, 0, 4)) else (if 0 ≤ (wrap64 (t267 - 1)) then (if (wrap64 (t267 - 1)) < (l0.length : Int) then (if (Go.bits .and .u8 (rd l0 (wrap64 (t267 - 1))) 64) = 0 then (leb_S.j0 k l0 a1 a2 t267 ((Go.bits .and .u8 (rd l0 (wrap64 (t267 - 1))) 64) != 0) 0) else (leb_S.j0 k l0 a1 a2 t267 ((Go.bits .and .u8 (rd l0 (wrap64 (t267 - 1))) 64) != 0) 127)) else (none)) else (none)))) else (some (0, 0, 2)))
theorem leb_S.mono_l : ∀ k, (∀ y0 y1 y2 y3 y4 y5, LeO (leb_S.j0 k y0 y1 y2 y3 y4 y5) (leb_S.j0 (k + 1) y0 y1 y2 y3 y4 y5)) ∧ (∀ y0 y1 y2 y3 y4 y5 y6 y7, LeO (leb_S.l0 k y0 y1 y2 y3 y4 y5 y6 y7) (leb_S.l0 (k + 1) y0 y1 y2 y3 y4 y5 y6 y7))
 | 0 => ⟨fun _ _ _ _ _ _ r h => by simp [leb_S.j0] at h, fun _ _ _ _ _ _ _ _ r h => by simp [leb_S.l0] at h⟩
 | k + 1 => by
  obtain ⟨ih0, ih1⟩ := leb_S.mono_l k
  refine ⟨?_, ?_⟩
  ·intro y0 y1 y2 y3 y4 y5
   unfold leb_S.j0
   repeat' first
   | (with_reducible exact ih0 _ _ _ _ _ _)
   | (with_reducible exact ih1 _ _ _ _ _ _ _ _)
   | (with_reducible exact leb_end.mono _ _ _ _)
   | (with_reducible exact LeO.refl _)
   | (with_reducible exact LeO.none _)
   | (with_reducible refine LeO.ite ?_ ?_)
   | (with_reducible refine LeO.bind ?_ (fun _ => ?_))
   | exact ih0 _ _ _ _ _ _
   | exact ih1 _ _ _ _ _ _ _ _
   | exact leb_end.mono _ _ _ _
   | exact LeO.none _
   | refine LeO.ite ?_ ?_
   | refine LeO.bind ?_ (fun _ => ?_)
  ·intro y0 y1 y2 y3 y4 y5 y6 y7
   unfold leb_S.l0
   repeat' first
   | (with_reducible exact ih0 _ _ _ _ _ _)
   | (with_reducible exact ih1 _ _ _ _ _ _ _ _)
   | (with_reducible exact leb_end.mono _ _ _ _)
   | (with_reducible exact LeO.refl _)
   | (with_reducible exact LeO.none _)
   | (with_reducible refine LeO.ite ?_ ?_)
   | (with_reducible refine LeO.bind ?_ (fun _ => ?_))
   | exact ih0 _ _ _ _ _ _
   | exact ih1 _ _ _ _ _ _ _ _
   | exact leb_end.mono _ _ _ _
   | exact LeO.none _
   | refine LeO.ite ?_ ?_
   | refine LeO.bind ?_ (fun _ => ?_)
theorem leb_S.mono : ∀ a0 a1 a2 k, LeO (leb_S.f k a0 a1 a2) (leb_S.f (k + 1) a0 a1 a2) := by
 intro a0 a1 a2 k
 obtain ⟨ih0, ih1⟩ := leb_S.mono_l k
 unfold leb_S.f
 repeat' first
   | (with_reducible exact ih0 _ _ _ _ _ _)
   | (with_reducible exact ih1 _ _ _ _ _ _ _ _)
   | (with_reducible exact leb_end.mono _ _ _ _)
   | (with_reducible exact LeO.refl _)
   | (with_reducible exact LeO.none _)
   | (with_reducible refine LeO.ite ?_ ?_)
   | (with_reducible refine LeO.bind ?_ (fun _ => ?_))
   | exact ih0 _ _ _ _ _ _
   | exact ih1 _ _ _ _ _ _ _ _
   | exact leb_end.mono _ _ _ _
   | exact LeO.none _
   | refine LeO.ite ?_ ?_
   | refine LeO.bind ?_ (fun _ => ?_)
set_option maxHeartbeats 8000000 in
set_option maxRecDepth 100000 in
theorem leb_S.calls (k : Nat) (A0 : Option Addr) (c0 : Nat) (l0 : List Int) (a1 : Int) (a2 : Int) (r1 : Int) (r2 : Int) (r3 : Int) (w : World) (hr0 : Kd.C (Kd.int .u8) w A0 l0.length l0) (hc0 : l0.length ≤ c0) (h : leb_S.f k l0 a1 a2 = some (r1, r2, r3)) :
  Calls Tryd.prog 79 #[.slice A0 l0.length c0, .int .i64 a1, .int .i64 a2] w fun e w' => e = .returned (.tuple #[.int .i64 r1, .int .i64 r2, .int .i64 r3]) ∧ Drawn0 w w' := by
 have HR0 := Aside0.mk hr0
 have HC0 := Aside0.mk hc0
 clear hr0 hc0
 have H : ((leb_may.f l0 a1 a2).bind fun t266 => (if t266 = true then ((leb_end.f k l0 a1 a2).bind fun t267 => (if t267 < 0 then (some (0, 0, 4)) else (if 0 ≤ (wrap64 (t267 - 1)) then (if (wrap64 (t267 - 1)) < (l0.length : Int) then (if (Go.bits .and .u8 (rd l0 (wrap64 (t267 - 1))) 64) = 0 then (leb_S.j0 k l0 a1 a2 t267 ((Go.bits .and .u8 (rd l0 (wrap64 (t267 - 1))) 64) != 0) 0) else (leb_S.j0 k l0 a1 a2 t267 ((Go.bits .and .u8 (rd l0 (wrap64 (t267 - 1))) 64) != 0) 127)) else (none)) else (none)))) else (some (0, 0, 2)))) = some (r1, r2, r3) := h
 clear h
 replace H := Option.bind_eq_some_iff.mp H
 obtain ⟨t266, A40, H⟩ := H
 replace H : (if t266 = true then ((leb_end.f k l0 a1 a2).bind fun t267 => (if t267 < 0 then (some (0, 0, 4)) else (if 0 ≤ (wrap64 (t267 - 1)) then (if (wrap64 (t267 - 1)) < (l0.length : Int) then (if (Go.bits .and .u8 (rd l0 (wrap64 (t267 - 1))) 64) = 0 then (leb_S.j0 k l0 a1 a2 t267 ((Go.bits .and .u8 (rd l0 (wrap64 (t267 - 1))) 64) != 0) 0) else (leb_S.j0 k l0 a1 a2 t267 ((Go.bits .and .u8 (rd l0 (wrap64 (t267 - 1))) 64) != 0) 127)) else (none)) else (none)))) else (some (0, 0, 2))) = some (r1, r2, r3) := H
 have A4 := Aside0.mk A40
 clear A40
 by_cases c5 : t266 = true
 ·subst c5
  have H1 : ((leb_end.f k l0 a1 a2).bind fun t267 => (if t267 < 0 then (some (0, 0, 4)) else (if 0 ≤ (wrap64 (t267 - 1)) then (if (wrap64 (t267 - 1)) < (l0.length : Int) then (if (Go.bits .and .u8 (rd l0 (wrap64 (t267 - 1))) 64) = 0 then (leb_S.j0 k l0 a1 a2 t267 ((Go.bits .and .u8 (rd l0 (wrap64 (t267 - 1))) 64) != 0) 0) else (leb_S.j0 k l0 a1 a2 t267 ((Go.bits .and .u8 (rd l0 (wrap64 (t267 - 1))) 64) != 0) 127)) else (none)) else (none)))) = some (r1, r2, r3) := by rw [if_pos rfl] at H; exact H
  clear H
  have H := H1
  clear H1
  replace H := Option.bind_eq_some_iff.mp H
  obtain ⟨t267, A60, H⟩ := H
  replace H : (if t267 < 0 then (some (0, 0, 4)) else (if 0 ≤ (wrap64 (t267 - 1)) then (if (wrap64 (t267 - 1)) < (l0.length : Int) then (if (Go.bits .and .u8 (rd l0 (wrap64 (t267 - 1))) 64) = 0 then (leb_S.j0 k l0 a1 a2 t267 ((Go.bits .and .u8 (rd l0 (wrap64 (t267 - 1))) 64) != 0) 0) else (leb_S.j0 k l0 a1 a2 t267 ((Go.bits .and .u8 (rd l0 (wrap64 (t267 - 1))) 64) != 0) 127)) else (none)) else (none))) = some (r1, r2, r3) := H
  have A6 := Aside0.mk A60
  clear A60
  by_cases c7 : t267 < 0
  ·rw [if_pos c7] at H
   have c7b0 : decide (t267 < 0) = true := decide_eq_true c7
   clear c7
   simp only [Option.some.injEq, Prod.mk.injEq] at H
   obtain ⟨rfl, rfl, rfl⟩ := H
   go_enter Tryd.func79, Tryd.ntmps79
   go_wp2_with (first | ((with_reducible refine gate_callee (f := 87) rfl ?_); refine goesL_ (some 19) rfl rfl Tryd.func87 (by kernel_rfl) rfl #[.slice A0 l0.length c0, .int .i64 a1, .int .i64 a2] rfl (by (try simp only [List.map_toArray, List.map_cons, List.map_nil]); first | done | rfl | (simp only [List.length_drop, List.length_take]; rfl)) ?_; (with_reducible refine (leb_may.calls _ _ l0 a1 a2 true _ ?side1 ?side2 A4.out).mono ?_); (case side1 => repeat (first | exact HR0.out | (with_reducible refine Kd.C_alloc ?_ _) | (with_reducible refine Kd.C_drewN ?_ _) | (with_reducible refine Kd.C_drew ?_))); (case side2 => exact HC0.out); rintro e w' ⟨rfl, ⟨nd, rfl⟩⟩; refine ⟨_, rfl, ?_⟩) | ((with_reducible refine gate_callee (f := 88) rfl ?_); refine goesL_ (some 24) rfl rfl Tryd.func88 (by kernel_rfl) rfl #[.slice A0 l0.length c0, .int .i64 a1, .int .i64 a2] rfl (by (try simp only [List.map_toArray, List.map_cons, List.map_nil]); first | done | rfl | (simp only [List.length_drop, List.length_take]; rfl)) ?_; (with_reducible refine (leb_end.calls k _ _ l0 a1 a2 t267 _ ?side1 ?side2 A6.out).mono ?_); (case side1 => repeat (first | exact HR0.out | (with_reducible refine Kd.C_alloc ?_ _) | (with_reducible refine Kd.C_drewN ?_ _) | (with_reducible refine Kd.C_drew ?_))); (case side2 => exact HC0.out); rintro e w' ⟨rfl, ⟨nd, rfl⟩⟩; refine ⟨_, rfl, ?_⟩))
   go_ret3
   exact ⟨by first | rfl | (simp; done) | (simp [*]; done), by repeat (first | exact Drawn0.refl _ | apply Drawn0.step)⟩
  ·rw [if_neg c7] at H
   have c7b0 : decide (t267 < 0) = false := decide_eq_false c7
   clear c7
   obtain ⟨ji8, hji8⟩ : ∃ j_ : Int, (wrap64 (t267 - 1)) = j_ := ⟨_, rfl⟩
   replace H : (if 0 ≤ (ji8) then (if (ji8) < (l0.length : Int) then (if (Go.bits .and .u8 (rd l0 (ji8)) 64) = 0 then (leb_S.j0 k l0 a1 a2 t267 ((Go.bits .and .u8 (rd l0 (ji8)) 64) != 0) 0) else (leb_S.j0 k l0 a1 a2 t267 ((Go.bits .and .u8 (rd l0 (ji8)) 64) != 0) 127)) else (none)) else (none)) = some (r1, r2, r3) := by first | (rw [hji8] at H; exact H) | (simp only [hji8] at H ⊢; exact H)
   (try rw [hji8] at A4)
   (try rw [hji8] at A6)
   have hji8w : (IntKind.i64.wrap (t267 - 1)) = ji8 := (i64_w _).trans hji8
   by_cases c9 : 0 ≤ (ji8)
   ·rw [if_pos c9] at H
    have c9b0 : decide (0 ≤ (ji8)) = true := decide_eq_true c9
    clear c9
    by_cases c10 : (ji8) < (l0.length : Int)
    ·rw [if_pos c10] at H
     have c10b0 : decide ((ji8) < (l0.length : Int)) = true := decide_eq_true c10
     clear c10
     have HC11 := Aside0.mk H
     clear H
     go_enter Tryd.func79, Tryd.ntmps79
     go_upto_if 34 with (first | ((with_reducible refine gate_callee (f := 87) rfl ?_); refine goesL_ (some 19) rfl rfl Tryd.func87 (by kernel_rfl) rfl #[.slice A0 l0.length c0, .int .i64 a1, .int .i64 a2] rfl (by (try simp only [List.map_toArray, List.map_cons, List.map_nil]); first | done | rfl | (simp only [List.length_drop, List.length_take]; rfl)) ?_; (with_reducible refine (leb_may.calls _ _ l0 a1 a2 true _ ?side1 ?side2 A4.out).mono ?_); (case side1 => repeat (first | exact HR0.out | (with_reducible refine Kd.C_alloc ?_ _) | (with_reducible refine Kd.C_drewN ?_ _) | (with_reducible refine Kd.C_drew ?_))); (case side2 => exact HC0.out); rintro e w' ⟨rfl, ⟨nd, rfl⟩⟩; refine ⟨_, rfl, ?_⟩) | ((with_reducible refine gate_callee (f := 88) rfl ?_); refine goesL_ (some 24) rfl rfl Tryd.func88 (by kernel_rfl) rfl #[.slice A0 l0.length c0, .int .i64 a1, .int .i64 a2] rfl (by (try simp only [List.map_toArray, List.map_cons, List.map_nil]); first | done | rfl | (simp only [List.length_drop, List.length_take]; rfl)) ?_; (with_reducible refine (leb_end.calls k _ _ l0 a1 a2 t267 _ ?side1 ?side2 A6.out).mono ?_); (case side1 => repeat (first | exact HR0.out | (with_reducible refine Kd.C_alloc ?_ _) | (with_reducible refine Kd.C_drewN ?_ _) | (with_reducible refine Kd.C_drew ?_))); (case side2 => exact HC0.out); rintro e w' ⟨rfl, ⟨nd, rfl⟩⟩; refine ⟨_, rfl, ?_⟩; have p268 : 0 ≤ ((ji8) : Int) := of_decide_eq_true (by first | (with_reducible assumption) | assumption); have q268 : (ji8) < (l0.length : Int) := of_decide_eq_true (by first | (with_reducible assumption) | assumption); obtain ⟨ad268, e268, hx268_0⟩ := Kd.at_int HR0.out (ji8) p268 q268; cases e268; replace p268 := eq_true p268; replace q268 := eq_true q268))
     (try simp only [Act.put, List.setIfInBounds_toArray, List.set_cons_zero, List.set_cons_succ])
     go_cut [10] (fun v10 wc => ∃ (kq : Nat) (x10_10 : Int), v10 = .int .u8 x10_10 ∧ Aside0 (leb_S.j0 kq l0 a1 a2 t267 ((Go.bits .and .u8 (rd l0 (ji8)) 64) != 0) x10_10 = some (r1, r2, r3)) ∧ Aside0 (kq ≤ k) ∧ Drawn0 w wc)
     case first =>
      have H := HC11.out
      clear HC11
      by_cases c12 : (Go.bits .and .u8 (rd l0 (ji8)) 64) = 0
      ·rw [if_pos c12] at H
       have c12b0 : ((Go.bits .and .u8 (rd l0 (ji8)) 64) == 0) = true := beq_iff_eq.mpr c12
       have c12b1 : ((Go.bits .and .u8 (rd l0 (ji8)) 64) != 0) = false := bne_eq_false_iff_eq.mpr c12
       clear c12
       (first | rw [c12b0] | (simp only [i64_w, i32_w]; rw [c12b0]) | skip)
       have H' := Aside0.mk H
       clear H
       go_wp2
       go_meet
       case rel => exact ⟨_, (0), (by first | rfl | (simp; done) | (simp [*]; done)), H', ⟨by first | omega | exact Nat.le_refl _⟩, by repeat (first | exact Drawn0.refl _ | apply Drawn0.step)⟩
      ·rw [if_neg c12] at H
       have c12b0 : ((Go.bits .and .u8 (rd l0 (ji8)) 64) == 0) = false := beq_eq_false_iff_ne.mpr c12
       have c12b1 : ((Go.bits .and .u8 (rd l0 (ji8)) 64) != 0) = true := bne_iff_ne.mpr c12
       (first | rw [c12b0] | (simp only [i64_w, i32_w]; rw [c12b0]) | skip)
       have H' := Aside0.mk H
       clear H
       go_wp2
       go_meet
       case rel => exact ⟨_, (127), (by first | rfl | (simp; done) | (simp [*]; done)), H', ⟨by first | omega | exact Nat.le_refl _⟩, by repeat (first | exact Drawn0.refl _ | apply Drawn0.step)⟩
     case rest =>
      clear HC11
      try clear c1
      try clear p2
      try clear q2
      try clear hx2
      try clear c5
      try clear p6
      try clear c7
      try clear c7b0
      try clear c8
      try clear c9
      try clear c9b0
      try clear c10
      try clear c10b0
      try clear c12
      try clear c12b0
      try clear c12b1
      try clear hx268_0
      try clear p268
      try clear q268
      obtain ⟨kq, x10_10, rfl, HA, HJ10, ⟨mc10, rfl⟩⟩ := hcut
      cases kq with
      | zero => exact absurd HA.out (by simp [leb_S.j0])
      | succ kj10 =>
       have H := HA.out
       clear HA
       simp only [leb_S.j0] at H
       by_cases c13 : 0 ≤ a1
       ·rw [if_pos c13] at H
        have c13b0 := eq_true c13
        have c13b1 : decide (0 ≤ a1) = true := decide_eq_true c13
        clear c13
        by_cases c14 : a1 ≤ t267
        ·rw [if_pos c14] at H
         have c14b0 := eq_true c14
         have c14b1 : decide (a1 ≤ t267) = true := decide_eq_true c14
         clear c14
         by_cases c15 : t267 ≤ (l0.length : Int)
         ·rw [if_pos c15] at H
          have c15b0 := eq_true c15
          have c15b1 : decide (t267 ≤ (l0.length : Int)) = true := decide_eq_true c15
          clear c15
          have H' := Aside0.mk H
          clear H
          obtain ⟨i016, hi016, _, hsz16, _⟩ := info_parts info5
          obtain ⟨A16, hcut16, hA16, hC16⟩ := print_mid_of (P := Tryd.prog) (Value.int .u8) 0 24 5 .i64 .i64 Tryd.underlying24 hi016 hsz16 (some ad268) c0 l0 a1 t267 (of_decide_eq_true (by first | (with_reducible assumption) | assumption)) (by first | omega | exact of_decide_eq_true (by first | (with_reducible assumption) | assumption)) (of_decide_eq_true (by first | (with_reducible assumption) | assumption)) HC0.out
          have HR269 := Aside0.mk (Kd.C_of_reads (h1 := fun _ => rfl) (hA16 _ (Kd.reads_of_C HR0.out)))
          have HC269 := Aside0.mk hC16
          clear hA16 hC16 hi016 hsz16
          have HLn16 := Aside0.mk (show ((l0.take (t267 : Int).toNat).drop (a1 : Int).toNat).length = (t267.toNat - a1.toNat) from (by rw [List.length_drop, List.length_take]; have h_ : (t267 : Int) ≤ (l0.length : Int) := of_decide_eq_true (by first | (with_reducible assumption) | assumption); omega))
          go_wp2
          go_loopg [7, 11, 40] kj10 (fun kq v7 v11 v40 w' => ∃ (x7_2 : Int) (x11_2 : Int) (x40_2 : Int), v7 = .int .i64 x7_2 ∧ v11 = .int .u64 x11_2 ∧ v40 = .int .i64 x40_2 ∧ Aside0 (leb_S.l0 kq a2 x7_2 ((Go.bits .and .u8 (rd l0 (ji8)) 64) != 0) x10_10 x11_2 ((l0.take (t267 : Int).toNat).drop (a1 : Int).toNat) (((l0.take (t267 : Int).toNat).drop (a1 : Int).toNat).length : Int) x40_2 = some (r1, r2, r3)) ∧ Aside0 (kq ≤ kj10) ∧ Drawn0 w w')
          case atStart => exact ⟨(t267), (0), (0), (by first | rfl | (simp; done) | (simp [*]; done)), (by first | rfl | (simp; done) | (simp [*]; done)), (by first | rfl | (simp; done) | (simp [*]; done)), H', ⟨Nat.le_refl _⟩, by repeat (first | exact Drawn0.refl _ | apply Drawn0.step)⟩
          case round =>
           clear H'
           try clear c1
           try clear p2
           try clear q2
           try clear hx2
           try clear c5
           try clear p6
           try clear c7
           try clear c7b0
           try clear c8
           try clear c9
           try clear c9b0
           try clear c10
           try clear c10b0
           try clear c12
           try clear c12b0
           try clear c12b1
           try clear c13
           try clear c13b0
           try clear c13b1
           try clear c14
           try clear c14b0
           try clear c14b1
           try clear c15
           try clear c15b0
           try clear c15b1
           try clear hx268_0
           try clear p2
           try clear p268
           try clear p6
           try clear q2
           try clear q268
           obtain ⟨x7_2, x11_2, x40_2, rfl, rfl, rfl, HA, HK2, ⟨m2, rfl⟩⟩ := hrel
           cases gk with
           | zero => exact absurd HA.out (by simp [leb_S.l0])
           | succ k2 =>
            have H := HA.out
            clear HA
            simp only [leb_S.l0] at H
            by_cases c17 : x40_2 < (((l0.take (t267 : Int).toNat).drop (a1 : Int).toNat).length : Int)
            ·rw [if_pos c17] at H
             have c17b0 : decide (x40_2 < (((l0.take (t267 : Int).toNat).drop (a1 : Int).toNat).length : Int)) = true := decide_eq_true c17
             (try (have c17b0s := c17b0; rw [HLn16.out] at c17b0s))
             clear c17
             by_cases c18 : 0 ≤ x40_2
             ·rw [if_pos c18] at H
              have c18b0 : decide (0 ≤ x40_2) = true := decide_eq_true c18
              clear c18
              by_cases c19 : x40_2 < (((l0.take (t267 : Int).toNat).drop (a1 : Int).toNat).length : Int)
              ·rw [if_pos c19] at H
               have c19b0 : decide (x40_2 < (((l0.take (t267 : Int).toNat).drop (a1 : Int).toNat).length : Int)) = true := decide_eq_true c19
               (try (have c19b0s := c19b0; rw [HLn16.out] at c19b0s))
               clear c19
               obtain ⟨ji20, hji20⟩ : ∃ j_ : Int, (IntKind.u64.wrap (7 * (IntKind.u64.wrap (x40_2)))) = j_ := ⟨_, rfl⟩
               replace H : (if 0 ≤ (ji20) then (if (shr .u64 (shl .u64 (IntKind.u64.wrap (Go.bits .and .u8 (Go.bits .xor .u8 (rd ((l0.take (t267 : Int).toNat).drop (a1 : Int).toNat) x40_2) x10_10) 127)) (ji20)) (ji20)) = (IntKind.u64.wrap (Go.bits .and .u8 (Go.bits .xor .u8 (rd ((l0.take (t267 : Int).toNat).drop (a1 : Int).toNat) x40_2) x10_10) 127)) then (if 0 ≤ (IntKind.u64.wrap (wrap64 (a2 - 1))) then (if (shr .u64 (shl .u64 (IntKind.u64.wrap (Go.bits .and .u8 (Go.bits .xor .u8 (rd ((l0.take (t267 : Int).toNat).drop (a1 : Int).toNat) x40_2) x10_10) 127)) (ji20)) (IntKind.u64.wrap (wrap64 (a2 - 1)))) = 0 then (leb_S.l0 k2 a2 x7_2 ((Go.bits .and .u8 (rd l0 (ji8)) 64) != 0) x10_10 (Go.bits .or .u64 x11_2 (shl .u64 (IntKind.u64.wrap (Go.bits .and .u8 (Go.bits .xor .u8 (rd ((l0.take (t267 : Int).toNat).drop (a1 : Int).toNat) x40_2) x10_10) 127)) (ji20))) ((l0.take (t267 : Int).toNat).drop (a1 : Int).toNat) (((l0.take (t267 : Int).toNat).drop (a1 : Int).toNat).length : Int) (wrap64 (x40_2 + 1))) else (some (0, 0, 4))) else (none)) else (some (0, 0, 4))) else (none)) = some (r1, r2, r3) := by first | (rw [hji20] at H; exact H) | (simp only [hji20] at H ⊢; exact H)
               by_cases c21 : 0 ≤ (ji20)
               ·rw [if_pos c21] at H
                have c21b0 := eq_true c21
                have c21b1 : decide (0 ≤ (ji20)) = true := decide_eq_true c21
                clear c21
                obtain ⟨ji22, hji22⟩ : ∃ j_ : Int, (shl .u64 (IntKind.u64.wrap (Go.bits .and .u8 (Go.bits .xor .u8 (rd ((l0.take (t267 : Int).toNat).drop (a1 : Int).toNat) x40_2) x10_10) 127)) (ji20)) = j_ := ⟨_, rfl⟩
                replace H : (if (shr .u64 (ji22) (ji20)) = (IntKind.u64.wrap (Go.bits .and .u8 (Go.bits .xor .u8 (rd ((l0.take (t267 : Int).toNat).drop (a1 : Int).toNat) x40_2) x10_10) 127)) then (if 0 ≤ (IntKind.u64.wrap (wrap64 (a2 - 1))) then (if (shr .u64 (ji22) (IntKind.u64.wrap (wrap64 (a2 - 1)))) = 0 then (leb_S.l0 k2 a2 x7_2 ((Go.bits .and .u8 (rd l0 (ji8)) 64) != 0) x10_10 (Go.bits .or .u64 x11_2 (ji22)) ((l0.take (t267 : Int).toNat).drop (a1 : Int).toNat) (((l0.take (t267 : Int).toNat).drop (a1 : Int).toNat).length : Int) (wrap64 (x40_2 + 1))) else (some (0, 0, 4))) else (none)) else (some (0, 0, 4))) = some (r1, r2, r3) := by first | (rw [hji22] at H; exact H) | (simp only [hji22] at H ⊢; exact H)
                have hji22_ : (IntKind.u64.wrap ((IntKind.u64.wrap (Go.bits .and .u8 (Go.bits .xor .u8 (rd ((l0.take (t267 : Int).toNat).drop (a1 : Int).toNat) x40_2) x10_10) 127)) * 2 ^ min (ji20).toNat 64)) = ji22 := hji22
                have hji22z : (ji20) ≤ 64 → (IntKind.u64.wrap ((IntKind.u64.wrap (Go.bits .and .u8 (Go.bits .xor .u8 (rd ((l0.take (t267 : Int).toNat).drop (a1 : Int).toNat) x40_2) x10_10) 127)) * 2 ^ (ji20).toNat)) = ji22 := shl_small hji22
                have c23b0 := eq_true (of_decide_eq_true (by first | (with_reducible assumption) | assumption) : 0 ≤ (ji20))
                obtain ⟨ji24, hji24⟩ : ∃ j_ : Int, (shr .u64 (ji22) (ji20)) = j_ := ⟨_, rfl⟩
                replace H : (if (ji24) = (IntKind.u64.wrap (Go.bits .and .u8 (Go.bits .xor .u8 (rd ((l0.take (t267 : Int).toNat).drop (a1 : Int).toNat) x40_2) x10_10) 127)) then (if 0 ≤ (IntKind.u64.wrap (wrap64 (a2 - 1))) then (if (shr .u64 (ji22) (IntKind.u64.wrap (wrap64 (a2 - 1)))) = 0 then (leb_S.l0 k2 a2 x7_2 ((Go.bits .and .u8 (rd l0 (ji8)) 64) != 0) x10_10 (Go.bits .or .u64 x11_2 (ji22)) ((l0.take (t267 : Int).toNat).drop (a1 : Int).toNat) (((l0.take (t267 : Int).toNat).drop (a1 : Int).toNat).length : Int) (wrap64 (x40_2 + 1))) else (some (0, 0, 4))) else (none)) else (some (0, 0, 4))) = some (r1, r2, r3) := by first | (rw [hji24] at H; exact H) | (simp only [hji24] at H ⊢; exact H)
                have hji24_ : ((ji22) / 2 ^ min (ji20).toNat 64) = ji24 := hji24
                have hji24z : (ji20) ≤ 64 → ((ji22) / 2 ^ (ji20).toNat) = ji24 := shr_small hji24
                by_cases c25 : (ji24) = (IntKind.u64.wrap (Go.bits .and .u8 (Go.bits .xor .u8 (rd ((l0.take (t267 : Int).toNat).drop (a1 : Int).toNat) x40_2) x10_10) 127))
                ·rw [if_pos c25] at H
                 have c25b0 : ((ji24) == (IntKind.u64.wrap (Go.bits .and .u8 (Go.bits .xor .u8 (rd ((l0.take (t267 : Int).toNat).drop (a1 : Int).toNat) x40_2) x10_10) 127))) = true := beq_iff_eq.mpr c25
                 have c25b1 : ((ji24) != (IntKind.u64.wrap (Go.bits .and .u8 (Go.bits .xor .u8 (rd ((l0.take (t267 : Int).toNat).drop (a1 : Int).toNat) x40_2) x10_10) 127))) = false := bne_eq_false_iff_eq.mpr c25
                 clear c25
                 have c26b0 := eq_true (of_decide_eq_true (by first | (with_reducible assumption) | assumption) : 0 ≤ (ji20))
                 obtain ⟨ji27, hji27⟩ : ∃ j_ : Int, (IntKind.u64.wrap (wrap64 (a2 - 1))) = j_ := ⟨_, rfl⟩
                 replace H : (if 0 ≤ (ji27) then (if (shr .u64 (ji22) (ji27)) = 0 then (leb_S.l0 k2 a2 x7_2 ((Go.bits .and .u8 (rd l0 (ji8)) 64) != 0) x10_10 (Go.bits .or .u64 x11_2 (ji22)) ((l0.take (t267 : Int).toNat).drop (a1 : Int).toNat) (((l0.take (t267 : Int).toNat).drop (a1 : Int).toNat).length : Int) (wrap64 (x40_2 + 1))) else (some (0, 0, 4))) else (none)) = some (r1, r2, r3) := by first | (rw [hji27] at H; exact H) | (simp only [hji27] at H ⊢; exact H)
                 by_cases c28 : 0 ≤ (ji27)
                 ·rw [if_pos c28] at H
                  have c28b0 := eq_true c28
                  have c28b1 : decide (0 ≤ (ji27)) = true := decide_eq_true c28
                  clear c28
                  obtain ⟨ji29, hji29⟩ : ∃ j_ : Int, (shr .u64 (ji22) (ji27)) = j_ := ⟨_, rfl⟩
                  replace H : (if (ji29) = 0 then (leb_S.l0 k2 a2 x7_2 ((Go.bits .and .u8 (rd l0 (ji8)) 64) != 0) x10_10 (Go.bits .or .u64 x11_2 (ji22)) ((l0.take (t267 : Int).toNat).drop (a1 : Int).toNat) (((l0.take (t267 : Int).toNat).drop (a1 : Int).toNat).length : Int) (wrap64 (x40_2 + 1))) else (some (0, 0, 4))) = some (r1, r2, r3) := by first | (rw [hji29] at H; exact H) | (simp only [hji29] at H ⊢; exact H)
                  have hji29_ : ((ji22) / 2 ^ min (ji27).toNat 64) = ji29 := hji29
                  have hji29z : (ji27) ≤ 64 → ((ji22) / 2 ^ (ji27).toNat) = ji29 := shr_small hji29
                  by_cases c30 : (ji29) = 0
                  ·rw [if_pos c30] at H
                   have c30b0 : ((ji29) == 0) = true := beq_iff_eq.mpr c30
                   have c30b1 : ((ji29) != 0) = false := bne_eq_false_iff_eq.mpr c30
                   clear c30
                   have c31b0 := eq_true (of_decide_eq_true (by first | (with_reducible assumption) | assumption) : 0 ≤ (ji20))
                   have H' := Aside0.mk H
                   clear H
                   have p270 : 0 ≤ (x40_2 : Int) := of_decide_eq_true (by first | (with_reducible assumption) | assumption)
                   have q270 : x40_2 < (((l0.take (t267 : Int).toNat).drop (a1 : Int).toNat).length : Int) := of_decide_eq_true (by first | (with_reducible assumption) | assumption)
                   obtain ⟨ad270, e270, hx270_0⟩ := Kd.at_int HR269.out x40_2 p270 q270
                   cases e270
                   replace p270 := eq_true p270
                   replace q270 := eq_true q270
                   (try (have q270s0 := q270; rw [HLn16.out] at q270s0))
                   go_wp2
                   go_roundg k2
                   case measure => have := HJ10.out; have := HK2.out; omega
                   case rel => exact ⟨(x7_2), (Go.bits .or .u64 x11_2 (ji22)), (wrap64 (x40_2 + 1)), (by first | rfl | (simp; done) | (simp [*]; done)), (by first | rfl | (simp; done) | (simp only [← hji22] <;> (first | rfl | simp)) | (simp [*]; done)), (by first | rfl | (simp; done) | (simp [*]; done)), H', ⟨by have := HJ10.out; have := HK2.out; omega⟩, by repeat (first | exact Drawn0.refl _ | apply Drawn0.step)⟩
                  ·rw [if_neg c30] at H
                   have c30b0 : ((ji29) == 0) = false := beq_eq_false_iff_ne.mpr c30
                   have c30b1 : ((ji29) != 0) = true := bne_iff_ne.mpr c30
                   simp only [Option.some.injEq, Prod.mk.injEq] at H
                   obtain ⟨rfl, rfl, rfl⟩ := H
                   have p270 : 0 ≤ (x40_2 : Int) := of_decide_eq_true (by first | (with_reducible assumption) | assumption)
                   have q270 : x40_2 < (((l0.take (t267 : Int).toNat).drop (a1 : Int).toNat).length : Int) := of_decide_eq_true (by first | (with_reducible assumption) | assumption)
                   obtain ⟨ad270, e270, hx270_0⟩ := Kd.at_int HR269.out x40_2 p270 q270
                   cases e270
                   replace p270 := eq_true p270
                   replace q270 := eq_true q270
                   (try (have q270s0 := q270; rw [HLn16.out] at q270s0))
                   go_wp2
                   go_ret3
                   exact ⟨by first | rfl | (simp; done) | (simp only [← hji8, ← hji20, ← hji22, ← hji24, ← hji27, ← hji29] <;> (first | rfl | simp)) | (simp [*]; done), by repeat (first | exact Drawn0.refl _ | apply Drawn0.step)⟩
                 ·rw [if_neg c28] at H
                  exact absurd H (by simp)
                ·rw [if_neg c25] at H
                 have c25b0 : ((ji24) == (IntKind.u64.wrap (Go.bits .and .u8 (Go.bits .xor .u8 (rd ((l0.take (t267 : Int).toNat).drop (a1 : Int).toNat) x40_2) x10_10) 127))) = false := beq_eq_false_iff_ne.mpr c25
                 have c25b1 : ((ji24) != (IntKind.u64.wrap (Go.bits .and .u8 (Go.bits .xor .u8 (rd ((l0.take (t267 : Int).toNat).drop (a1 : Int).toNat) x40_2) x10_10) 127))) = true := bne_iff_ne.mpr c25
                 simp only [Option.some.injEq, Prod.mk.injEq] at H
                 obtain ⟨rfl, rfl, rfl⟩ := H
                 have p270 : 0 ≤ (x40_2 : Int) := of_decide_eq_true (by first | (with_reducible assumption) | assumption)
                 have q270 : x40_2 < (((l0.take (t267 : Int).toNat).drop (a1 : Int).toNat).length : Int) := of_decide_eq_true (by first | (with_reducible assumption) | assumption)
                 obtain ⟨ad270, e270, hx270_0⟩ := Kd.at_int HR269.out x40_2 p270 q270
                 cases e270
                 replace p270 := eq_true p270
                 replace q270 := eq_true q270
                 (try (have q270s0 := q270; rw [HLn16.out] at q270s0))
                 go_wp2
                 go_ret3
                 exact ⟨by first | rfl | (simp; done) | (simp only [← hji8, ← hji20, ← hji22, ← hji24] <;> (first | rfl | simp)) | (simp [*]; done), by repeat (first | exact Drawn0.refl _ | apply Drawn0.step)⟩
               ·rw [if_neg c21] at H
                exact absurd H (by simp)
              ·rw [if_neg c19] at H
               exact absurd H (by simp)
             ·rw [if_neg c18] at H
              exact absurd H (by simp)
            ·rw [if_neg c17] at H
             have c17b0 : decide (x40_2 < (((l0.take (t267 : Int).toNat).drop (a1 : Int).toNat).length : Int)) = false := decide_eq_false c17
             (try (have c17b0s := c17b0; rw [HLn16.out] at c17b0s))
             clear c17
             by_cases c32 : ((Go.bits .and .u8 (rd l0 (ji8)) 64) != 0) = true
             ·rw [if_pos c32] at H
              have c32b0 : ((Go.bits .and .u8 (rd l0 (ji8)) 64) != 0) = true := c32
              (try (have c32b1 : decide ((Go.bits .and .u8 (rd l0 (ji8)) 64) = 0) = false := by simpa using c32))
              (try (have c32b2 : ((Go.bits .and .u8 (rd l0 (ji8)) 64) == 0) = false := by simpa using c32))
              (try (have c32b3 : ¬ ((Go.bits .and .u8 (rd l0 (ji8)) 64) = 0) := by simpa using c32))
              clear c32
              simp only [Option.some.injEq, Prod.mk.injEq] at H
              obtain ⟨rfl, rfl, rfl⟩ := H
              go_wp2
              go_ret3
              exact ⟨by first | rfl | (simp; done) | (simp only [← hji8] <;> (first | rfl | simp)) | (simp [*]; done), by repeat (first | exact Drawn0.refl _ | apply Drawn0.step)⟩
             ·rw [if_neg c32] at H
              have c32b0 : ((Go.bits .and .u8 (rd l0 (ji8)) 64) != 0) = false := by simpa using c32
              (try (have c32b1 : decide ((Go.bits .and .u8 (rd l0 (ji8)) 64) = 0) = true := by simpa using c32))
              (try (have c32b2 : ((Go.bits .and .u8 (rd l0 (ji8)) 64) == 0) = true := by simpa using c32))
              clear c32
              simp only [Option.some.injEq, Prod.mk.injEq] at H
              obtain ⟨rfl, rfl, rfl⟩ := H
              go_wp2
              go_ret3
              exact ⟨by first | rfl | (simp; done) | (simp only [← hji8] <;> (first | rfl | simp)) | (simp [*]; done), by repeat (first | exact Drawn0.refl _ | apply Drawn0.step)⟩
         ·rw [if_neg c15] at H
          exact absurd H (by simp)
        ·rw [if_neg c14] at H
         exact absurd H (by simp)
       ·rw [if_neg c13] at H
        exact absurd H (by simp)
    ·rw [if_neg c10] at H
     exact absurd H (by simp)
   ·rw [if_neg c9] at H
    exact absurd H (by simp)
 ·replace c5 := Bool.eq_false_iff.mpr c5
  subst c5
  have H1 : (some (0, 0, 2)) = some (r1, r2, r3) := by rw [if_neg (show ¬ (false = true) by decide)] at H; exact H
  clear H
  have H := H1
  clear H1
  simp only [Option.some.injEq, Prod.mk.injEq] at H
  obtain ⟨rfl, rfl, rfl⟩ := H
  go_enter Tryd.func79, Tryd.ntmps79
  go_wp2_with (first | ((with_reducible refine gate_callee (f := 87) rfl ?_); refine goesL_ (some 19) rfl rfl Tryd.func87 (by kernel_rfl) rfl #[.slice A0 l0.length c0, .int .i64 a1, .int .i64 a2] rfl (by (try simp only [List.map_toArray, List.map_cons, List.map_nil]); first | done | rfl | (simp only [List.length_drop, List.length_take]; rfl)) ?_; (with_reducible refine (leb_may.calls _ _ l0 a1 a2 false _ ?side1 ?side2 A4.out).mono ?_); (case side1 => repeat (first | exact HR0.out | (with_reducible refine Kd.C_alloc ?_ _) | (with_reducible refine Kd.C_drewN ?_ _) | (with_reducible refine Kd.C_drew ?_))); (case side2 => exact HC0.out); rintro e w' ⟨rfl, ⟨nd, rfl⟩⟩; refine ⟨_, rfl, ?_⟩))
  go_ret3
  exact ⟨by first | rfl | (simp; done) | (simp [*]; done), by repeat (first | exact Drawn0.refl _ | apply Drawn0.step)⟩



end Go.Proofs.YtobldeamemmokaaDoor.P

