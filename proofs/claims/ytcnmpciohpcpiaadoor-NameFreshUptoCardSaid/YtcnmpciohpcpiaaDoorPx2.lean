-- Printed by a program of this session (wip/patch-print.py over the kit's print): Lean checks it.
import Derived.Test.YtcnmpciohpcpiaaDoorPx0
import Derived.Test.YtcnmpciohpcpiaaDoorPx1
namespace Go.Proofs.YtcnmpciohpcpiaaDoor.P
open Go.Proofs.YtcnmpciohpcpiaaDoorTabs
open Go.Proofs.YtcnmpciohpcpiaaDoorCaps
open Go.RowKit Go.Proofs.YtcnmpciohpcpiaaDoorW.PrintWords Go.Proofs.YtcnmpciohpcpiaaDoorW.PrintLast Go.Proofs.YtcnmpciohpcpiaaDoorW.PrintMore
attribute [local go_sem] max2_int min2_int max_two min_two max_three min_three max_four min_four   -- for this text's walks alone
set_option linter.unusedVariables false
set_option linter.unusedSimpArgs false

/-! ### utf8_Valid: function 30 -/
mutual
def utf8_Valid.l0 : Nat → List Int → Option (Bool)
  | 0, _ => none
  | k + 1, x0 => if (x0.length : Int) > 0 then (if 0 < (x0.length : Int) then (if (rd x0 0) < 128 then (if 1 ≤ (x0.length : Int) then ((some (x0.drop 1 : List Int)).bind fun y115 => (if (y115.length : Int) > 8 then ((utf8_word_byte.f y115).bind fun t120 => (utf8_Valid.j1 k y115 ((Go.bits .and .u64 t120 9259542123273814144) == 0))) else (utf8_Valid.j1 k y115 false))) else (none)) else (if 0 ≤ (rd x0 0) then (if (rd x0 0) < 256 then (if 0 ≤ ((rd uFL (rd x0 0)) / 16) then (if ((rd uFL (rd x0 0)) / 16) < 16 then (if (wrap64 (Go.bits .and .u8 (rd uFL (rd x0 0)) 7)) = 2 then (if (x0.length : Int) < 2 then (utf8_Valid.j5 k x0 true) else (if 1 < (x0.length : Int) then (if (rd x0 1) < (rd aLL ((rd uFL (rd x0 0)) / 16)) then (utf8_Valid.j5 k x0 true) else (utf8_Valid.j5 k x0 (decide ((rd aHL ((rd uFL (rd x0 0)) / 16)) < (rd x0 1))))) else (none))) else (if (wrap64 (Go.bits .and .u8 (rd uFL (rd x0 0)) 7)) = 3 then (if (x0.length : Int) < 3 then (utf8_Valid.j6 k x0 true) else (if 1 < (x0.length : Int) then (if (rd x0 1) < (rd aLL ((rd uFL (rd x0 0)) / 16)) then (utf8_Valid.j6 k x0 true) else (if (rd aHL ((rd uFL (rd x0 0)) / 16)) < (rd x0 1) then (utf8_Valid.j6 k x0 true) else (if 2 < (x0.length : Int) then (if (rd x0 2) < 128 then (utf8_Valid.j6 k x0 true) else (utf8_Valid.j6 k x0 (decide (191 < (rd x0 2))))) else (none)))) else (none))) else (if (wrap64 (Go.bits .and .u8 (rd uFL (rd x0 0)) 7)) = 4 then (if (x0.length : Int) < 4 then (utf8_Valid.j7 k x0 true) else (if 1 < (x0.length : Int) then (if (rd x0 1) < (rd aLL ((rd uFL (rd x0 0)) / 16)) then (utf8_Valid.j7 k x0 true) else (if (rd aHL ((rd uFL (rd x0 0)) / 16)) < (rd x0 1) then (utf8_Valid.j7 k x0 true) else (if 2 < (x0.length : Int) then (if (rd x0 2) < 128 then (utf8_Valid.j7 k x0 true) else (if 191 < (rd x0 2) then (utf8_Valid.j7 k x0 true) else (if 3 < (x0.length : Int) then (if (rd x0 3) < 128 then (utf8_Valid.j7 k x0 true) else (utf8_Valid.j7 k x0 (decide (191 < (rd x0 3))))) else (none)))) else (none)))) else (none))) else (some false)))) else (none)) else (none)) else (none)) else (none))) else (none)) else (some true)
def utf8_Valid.j1 : Nat → List Int → Bool → Option (Bool)
  | 0, _, _ => none
  | k + 1, x0, x31 => if x31 = true then (if 8 ≤ (x0.length : Int) then ((some (x0.drop 8 : List Int)).bind fun y121 => (if (y121.length : Int) > 16 then ((utf8_word_byte.f y121).bind fun t126 => (if 8 ≤ (y121.length : Int) then ((utf8_word_byte.f (y121.drop 8)).bind fun t132 => (utf8_Valid.j2 k y121 ((Go.bits .and .u64 (Go.bits .or .u64 t126 t132) 9259542123273814144) == 0))) else (none))) else (utf8_Valid.j2 k y121 false))) else (none)) else (utf8_Valid.l0 k x0)
def utf8_Valid.j2 : Nat → List Int → Bool → Option (Bool)
  | 0, _, _ => none
  | k + 1, x0, x46 => if x46 = true then (if 16 ≤ (x0.length : Int) then (utf8_Valid.l1 k (x0.drop 16)) else (none)) else (utf8_Valid.l0 k x0)
def utf8_Valid.l1 : Nat → List Int → Option (Bool)
  | 0, _ => none
  | k + 1, x0 => if (x0.length : Int) > 32 then ((utf8_word_byte.f x0).bind fun t138 => (if 8 ≤ (x0.length : Int) then ((utf8_word_byte.f (x0.drop 8)).bind fun t144 => (if 16 ≤ (x0.length : Int) then ((utf8_word_byte.f (x0.drop 16)).bind fun t150 => (if 24 ≤ (x0.length : Int) then ((utf8_word_byte.f (x0.drop 24)).bind fun t156 => (utf8_Valid.j4 k x0 ((Go.bits .and .u64 (Go.bits .or .u64 (Go.bits .or .u64 t138 t144) (Go.bits .or .u64 t150 t156)) 9259542123273814144) == 0))) else (none))) else (none))) else (none))) else (utf8_Valid.j4 k x0 false)
def utf8_Valid.j4 : Nat → List Int → Bool → Option (Bool)
  | 0, _, _ => none
  | k + 1, x0, x69 => if x69 = true then (if 32 ≤ (x0.length : Int) then (utf8_Valid.l1 k (x0.drop 32)) else (none)) else (utf8_Valid.l0 k x0)
def utf8_Valid.j5 : Nat → List Int → Bool → Option (Bool)
  | 0, _, _ => none
  | k + 1, x0, x103 => if x103 = true then (some false) else (if 2 ≤ (x0.length : Int) then (utf8_Valid.l0 k (x0.drop 2)) else (none))
def utf8_Valid.j6 : Nat → List Int → Bool → Option (Bool)
  | 0, _, _ => none
  | k + 1, x0, x138 => if x138 = true then (some false) else (if 3 ≤ (x0.length : Int) then (utf8_Valid.l0 k (x0.drop 3)) else (none))
def utf8_Valid.j7 : Nat → List Int → Bool → Option (Bool)
  | 0, _, _ => none
  | k + 1, x0, x185 => if x185 = true then (some false) else (if 4 ≤ (x0.length : Int) then (utf8_Valid.l0 k (x0.drop 4)) else (none))
end
def utf8_Valid.f (k : Nat) (l0 : List Int) : Option (Bool) := if 0 ≤ (l0.length : Int) then (if (l0.length : Int) ≤ (l0.length : Int) then (utf8_Valid.l0 k (l0.take ((l0.length : Int) : Int).toNat)) else (none)) else (none)
theorem utf8_Valid.mono_l : ∀ k, (∀ y0, LeO (utf8_Valid.l0 k y0) (utf8_Valid.l0 (k + 1) y0)) ∧ (∀ y0 y1, LeO (utf8_Valid.j1 k y0 y1) (utf8_Valid.j1 (k + 1) y0 y1)) ∧ (∀ y0 y1, LeO (utf8_Valid.j2 k y0 y1) (utf8_Valid.j2 (k + 1) y0 y1)) ∧ (∀ y0, LeO (utf8_Valid.l1 k y0) (utf8_Valid.l1 (k + 1) y0)) ∧ (∀ y0 y1, LeO (utf8_Valid.j4 k y0 y1) (utf8_Valid.j4 (k + 1) y0 y1)) ∧ (∀ y0 y1, LeO (utf8_Valid.j5 k y0 y1) (utf8_Valid.j5 (k + 1) y0 y1)) ∧ (∀ y0 y1, LeO (utf8_Valid.j6 k y0 y1) (utf8_Valid.j6 (k + 1) y0 y1)) ∧ (∀ y0 y1, LeO (utf8_Valid.j7 k y0 y1) (utf8_Valid.j7 (k + 1) y0 y1))
  | 0 => ⟨fun _ r h => by simp [utf8_Valid.l0] at h, fun _ _ r h => by simp [utf8_Valid.j1] at h, fun _ _ r h => by simp [utf8_Valid.j2] at h, fun _ r h => by simp [utf8_Valid.l1] at h, fun _ _ r h => by simp [utf8_Valid.j4] at h, fun _ _ r h => by simp [utf8_Valid.j5] at h, fun _ _ r h => by simp [utf8_Valid.j6] at h, fun _ _ r h => by simp [utf8_Valid.j7] at h⟩
  | k + 1 => by
    obtain ⟨ih0, ih1, ih2, ih3, ih4, ih5, ih6, ih7⟩ := utf8_Valid.mono_l k
    refine ⟨?_, ?_, ?_, ?_, ?_, ?_, ?_, ?_⟩
    · intro y0
      unfold utf8_Valid.l0
      repeat' first
      | (with_reducible exact ih0 _)
      | (with_reducible exact ih1 _ _)
      | (with_reducible exact ih2 _ _)
      | (with_reducible exact ih3 _)
      | (with_reducible exact ih4 _ _)
      | (with_reducible exact ih5 _ _)
      | (with_reducible exact ih6 _ _)
      | (with_reducible exact ih7 _ _)
      | (with_reducible exact LeO.refl _)
      | (with_reducible exact LeO.none _)
      | (with_reducible refine LeO.ite ?_ ?_)
      | (with_reducible refine LeO.bind ?_ (fun _ => ?_))
      | exact ih0 _
      | exact ih1 _ _
      | exact ih2 _ _
      | exact ih3 _
      | exact ih4 _ _
      | exact ih5 _ _
      | exact ih6 _ _
      | exact ih7 _ _
      | exact LeO.none _
      | refine LeO.ite ?_ ?_
      | refine LeO.bind ?_ (fun _ => ?_)
    · intro y0 y1
      unfold utf8_Valid.j1
      repeat' first
      | (with_reducible exact ih0 _)
      | (with_reducible exact ih1 _ _)
      | (with_reducible exact ih2 _ _)
      | (with_reducible exact ih3 _)
      | (with_reducible exact ih4 _ _)
      | (with_reducible exact ih5 _ _)
      | (with_reducible exact ih6 _ _)
      | (with_reducible exact ih7 _ _)
      | (with_reducible exact LeO.refl _)
      | (with_reducible exact LeO.none _)
      | (with_reducible refine LeO.ite ?_ ?_)
      | (with_reducible refine LeO.bind ?_ (fun _ => ?_))
      | exact ih0 _
      | exact ih1 _ _
      | exact ih2 _ _
      | exact ih3 _
      | exact ih4 _ _
      | exact ih5 _ _
      | exact ih6 _ _
      | exact ih7 _ _
      | exact LeO.none _
      | refine LeO.ite ?_ ?_
      | refine LeO.bind ?_ (fun _ => ?_)
    · intro y0 y1
      unfold utf8_Valid.j2
      repeat' first
      | (with_reducible exact ih0 _)
      | (with_reducible exact ih1 _ _)
      | (with_reducible exact ih2 _ _)
      | (with_reducible exact ih3 _)
      | (with_reducible exact ih4 _ _)
      | (with_reducible exact ih5 _ _)
      | (with_reducible exact ih6 _ _)
      | (with_reducible exact ih7 _ _)
      | (with_reducible exact LeO.refl _)
      | (with_reducible exact LeO.none _)
      | (with_reducible refine LeO.ite ?_ ?_)
      | (with_reducible refine LeO.bind ?_ (fun _ => ?_))
      | exact ih0 _
      | exact ih1 _ _
      | exact ih2 _ _
      | exact ih3 _
      | exact ih4 _ _
      | exact ih5 _ _
      | exact ih6 _ _
      | exact ih7 _ _
      | exact LeO.none _
      | refine LeO.ite ?_ ?_
      | refine LeO.bind ?_ (fun _ => ?_)
    · intro y0
      unfold utf8_Valid.l1
      repeat' first
      | (with_reducible exact ih0 _)
      | (with_reducible exact ih1 _ _)
      | (with_reducible exact ih2 _ _)
      | (with_reducible exact ih3 _)
      | (with_reducible exact ih4 _ _)
      | (with_reducible exact ih5 _ _)
      | (with_reducible exact ih6 _ _)
      | (with_reducible exact ih7 _ _)
      | (with_reducible exact LeO.refl _)
      | (with_reducible exact LeO.none _)
      | (with_reducible refine LeO.ite ?_ ?_)
      | (with_reducible refine LeO.bind ?_ (fun _ => ?_))
      | exact ih0 _
      | exact ih1 _ _
      | exact ih2 _ _
      | exact ih3 _
      | exact ih4 _ _
      | exact ih5 _ _
      | exact ih6 _ _
      | exact ih7 _ _
      | exact LeO.none _
      | refine LeO.ite ?_ ?_
      | refine LeO.bind ?_ (fun _ => ?_)
    · intro y0 y1
      unfold utf8_Valid.j4
      repeat' first
      | (with_reducible exact ih0 _)
      | (with_reducible exact ih1 _ _)
      | (with_reducible exact ih2 _ _)
      | (with_reducible exact ih3 _)
      | (with_reducible exact ih4 _ _)
      | (with_reducible exact ih5 _ _)
      | (with_reducible exact ih6 _ _)
      | (with_reducible exact ih7 _ _)
      | (with_reducible exact LeO.refl _)
      | (with_reducible exact LeO.none _)
      | (with_reducible refine LeO.ite ?_ ?_)
      | (with_reducible refine LeO.bind ?_ (fun _ => ?_))
      | exact ih0 _
      | exact ih1 _ _
      | exact ih2 _ _
      | exact ih3 _
      | exact ih4 _ _
      | exact ih5 _ _
      | exact ih6 _ _
      | exact ih7 _ _
      | exact LeO.none _
      | refine LeO.ite ?_ ?_
      | refine LeO.bind ?_ (fun _ => ?_)
    · intro y0 y1
      unfold utf8_Valid.j5
      repeat' first
      | (with_reducible exact ih0 _)
      | (with_reducible exact ih1 _ _)
      | (with_reducible exact ih2 _ _)
      | (with_reducible exact ih3 _)
      | (with_reducible exact ih4 _ _)
      | (with_reducible exact ih5 _ _)
      | (with_reducible exact ih6 _ _)
      | (with_reducible exact ih7 _ _)
      | (with_reducible exact LeO.refl _)
      | (with_reducible exact LeO.none _)
      | (with_reducible refine LeO.ite ?_ ?_)
      | (with_reducible refine LeO.bind ?_ (fun _ => ?_))
      | exact ih0 _
      | exact ih1 _ _
      | exact ih2 _ _
      | exact ih3 _
      | exact ih4 _ _
      | exact ih5 _ _
      | exact ih6 _ _
      | exact ih7 _ _
      | exact LeO.none _
      | refine LeO.ite ?_ ?_
      | refine LeO.bind ?_ (fun _ => ?_)
    · intro y0 y1
      unfold utf8_Valid.j6
      repeat' first
      | (with_reducible exact ih0 _)
      | (with_reducible exact ih1 _ _)
      | (with_reducible exact ih2 _ _)
      | (with_reducible exact ih3 _)
      | (with_reducible exact ih4 _ _)
      | (with_reducible exact ih5 _ _)
      | (with_reducible exact ih6 _ _)
      | (with_reducible exact ih7 _ _)
      | (with_reducible exact LeO.refl _)
      | (with_reducible exact LeO.none _)
      | (with_reducible refine LeO.ite ?_ ?_)
      | (with_reducible refine LeO.bind ?_ (fun _ => ?_))
      | exact ih0 _
      | exact ih1 _ _
      | exact ih2 _ _
      | exact ih3 _
      | exact ih4 _ _
      | exact ih5 _ _
      | exact ih6 _ _
      | exact ih7 _ _
      | exact LeO.none _
      | refine LeO.ite ?_ ?_
      | refine LeO.bind ?_ (fun _ => ?_)
    · intro y0 y1
      unfold utf8_Valid.j7
      repeat' first
      | (with_reducible exact ih0 _)
      | (with_reducible exact ih1 _ _)
      | (with_reducible exact ih2 _ _)
      | (with_reducible exact ih3 _)
      | (with_reducible exact ih4 _ _)
      | (with_reducible exact ih5 _ _)
      | (with_reducible exact ih6 _ _)
      | (with_reducible exact ih7 _ _)
      | (with_reducible exact LeO.refl _)
      | (with_reducible exact LeO.none _)
      | (with_reducible refine LeO.ite ?_ ?_)
      | (with_reducible refine LeO.bind ?_ (fun _ => ?_))
      | exact ih0 _
      | exact ih1 _ _
      | exact ih2 _ _
      | exact ih3 _
      | exact ih4 _ _
      | exact ih5 _ _
      | exact ih6 _ _
      | exact ih7 _ _
      | exact LeO.none _
      | refine LeO.ite ?_ ?_
      | refine LeO.bind ?_ (fun _ => ?_)
theorem utf8_Valid.mono : ∀ a0 k, LeO (utf8_Valid.f k a0) (utf8_Valid.f (k + 1) a0) := by
  intro a0 k
  obtain ⟨ih0, ih1, ih2, ih3, ih4, ih5, ih6, ih7⟩ := utf8_Valid.mono_l k
  unfold utf8_Valid.f
  repeat' first
      | (with_reducible exact ih0 _)
      | (with_reducible exact ih1 _ _)
      | (with_reducible exact ih2 _ _)
      | (with_reducible exact ih3 _)
      | (with_reducible exact ih4 _ _)
      | (with_reducible exact ih5 _ _)
      | (with_reducible exact ih6 _ _)
      | (with_reducible exact ih7 _ _)
      | (with_reducible exact LeO.refl _)
      | (with_reducible exact LeO.none _)
      | (with_reducible refine LeO.ite ?_ ?_)
      | (with_reducible refine LeO.bind ?_ (fun _ => ?_))
      | exact ih0 _
      | exact ih1 _ _
      | exact ih2 _ _
      | exact ih3 _
      | exact ih4 _ _
      | exact ih5 _ _
      | exact ih6 _ _
      | exact ih7 _ _
      | exact LeO.none _
      | refine LeO.ite ?_ ?_
      | refine LeO.bind ?_ (fun _ => ?_)
set_option maxHeartbeats 8000000 in
set_option maxRecDepth 100000 in
theorem utf8_Valid.calls (k : Nat) (P0_ : Nat → Prop) (A0 : Option Addr) (c0 : Nat) (l0 : List Int) (r : Bool) (w : World) (hT : Go.Proofs.YtcnmpciohpcpiaaDoorTabs.Tab w) (hs0 : Kd.V (Kd.int .u8) 5 w w.heap.size (fun k_ => P0_ k_) (.slice A0 l0.length c0) l0) (h : utf8_Valid.f k l0 = some r) :
  Calls Tryd.prog 30 #[.slice A0 l0.length c0] w fun e w' => e = .returned (.bool r) ∧ Below w.heap.size w w' := by
 have HT := Aside0.mk hT
 clear hT
 have hu59 := Tryd.underlying59
 have HO0 := Aside0.mk (show Kd.V (Kd.int .u8) 5 w w.heap.size (fun k_ => (P0_ k_ ∨ w.heap.size ≤ k_)) (.slice A0 l0.length c0) l0 from Kd.V_mono hs0 (fun k_ hk => .inl hk))
 have HB := Aside0.mk (Below.refl w.heap.size w)
 have H : (if 0 ≤ (l0.length : Int) then (if (l0.length : Int) ≤ (l0.length : Int) then (utf8_Valid.l0 k (l0.take ((l0.length : Int) : Int).toNat)) else (none)) else (none)) = some r := h
 clear h
 by_cases c2 : 0 ≤ (l0.length : Int)
 ·rw [if_pos c2] at H
  have c2b0 := eq_true c2
  have c2b1 : decide (0 ≤ (l0.length : Int)) = true := decide_eq_true c2
  clear c2
  by_cases c3 : (l0.length : Int) ≤ (l0.length : Int)
  ·rw [if_pos c3] at H
   have c3b0 := eq_true c3
   have c3b1 : decide ((l0.length : Int) ≤ (l0.length : Int)) = true := decide_eq_true c3
   clear c3
   obtain ⟨y109, hy109⟩ : ∃ y_ : List Int, y_ = (l0.take ((l0.length : Int) : Int).toNat) := ⟨_, rfl⟩
   replace H : (utf8_Valid.l0 k y109) = some r := by first | (rw [hy109]; with_reducible exact H) | (have H2_ := (Option.bind_some _ _).symm.trans H; rw [hy109]; with_reducible exact H2_) | (have H2_ := (Option.bind_some _ _).symm.trans H; with_reducible exact H2_) | with_reducible exact H | (rw [hy109]; exact H) | exact H
   have Ny109 := Aside0.mk hy109
   clear hy109
   have H' := Aside0.mk H
   clear H
   have q4 : ((l0.length : Int) : Int) ≤ ((l0.length : Int) : Int) := of_decide_eq_true (by first | (with_reducible assumption) | assumption)
   obtain ⟨i04, hi04, _, hsz4, _⟩ := info_parts info5
   have hroom4 : l0.length ≤ c0 := (Kd.V_reads' HO0.out).2.1
   have hC4 : Kd.F (Kd.int .u8) _ _ A0 l0.length l0 := (Kd.V_at (base := w.heap.size) HO0.out).2.2
   have hcut4 := cut3_to (P := Tryd.prog) 22 5 .i64 Tryd.underlying22 hi04 A0 l0.length c0 (l0.length : Int) (of_decide_eq_true (by first | (with_reducible assumption) | assumption)) q4 hroom4
   have hr4 := Kd.F_take (m := ((l0.length : Int) : Int).toNat) hC4 (by omega)
   have hy4 : y109.length = ((l0.length : Int) : Int).toNat := (by rw [Ny109.out, List.length_take]; omega)
   rw [← Ny109.out] at hr4
   rw [← hy4] at hcut4
   have HO113 := Aside0.mk (show Kd.V (Kd.int .u8) 5 _ w.heap.size _ (.slice A0 y109.length y109.length) y109 from Kd.V_mk (by omega) hr4)
   have HC113 := Aside0.mk (show y109.length ≤ y109.length from by omega)
   clear hr4 hC4 hroom4 hi04 hsz4
   have KY4 := Aside0.mk hy4
   clear hy4
   replace q4 := eq_true q4
   go_enter Tryd.func30, Tryd.ntmps30
   go_wp2
   repeat (go_quiet (fail); try go_wp2)
   go_loopg [0] k (fun kq v0 w' => ∃ (x0_1 : List Int), Aside0 (utf8_Valid.l0 kq x0_1 = some r) ∧ Aside0 (kq ≤ k) ∧ Aside0 (Kd.V (Kd.int .u8) 5 w' w.heap.size (fun k_ => (P0_ k_ ∨ w.heap.size ≤ k_)) v0 x0_1) ∧ Aside0 (Below w.heap.size w w'))
   case atStart => exact ⟨(y109), H', ⟨Nat.le_refl _⟩, ⟨by (with_reducible repeat (first | apply Kd.V_alloc | apply Kd.V_drewN | apply Kd.V_drew)); exact HO113.out⟩, ⟨by repeat (first | (with_reducible first | exact HB.out | apply below_alloc | apply pw_below_drewN | apply below_drew1) | exact HB.out)⟩⟩
   case round =>
    as_aux_lemma =>
     clear H'
     try clear c2
     try clear c2b0
     try clear c2b1
     try clear p2
     try clear c3
     try clear c3b0
     try clear c3b1
     try clear q4
     try clear q4
     obtain ⟨x0_1, HA, HK1, HO_0, HB⟩ := hrel
     cases gk with
     | zero => exact absurd HA.out (by simp [utf8_Valid.l0])
     | succ k1 =>
      have H := HA.out
      clear HA
      simp only [utf8_Valid.l0] at H
      by_cases c5 : (x0_1.length : Int) > 0
      ·rw [if_pos c5] at H
       have c5b0 : decide (0 < (x0_1.length : Int)) = true := decide_eq_true c5
       have c5b1 : decide (0 < x0_1.length) = true := decide_eq_true (by omega)
       clear c5
       by_cases c6 : 0 < (x0_1.length : Int)
       ·rw [if_pos c6] at H
        have c6b0 : decide (0 < (x0_1.length : Int)) = true := decide_eq_true c6
        have c6b1 : decide (0 < x0_1.length) = true := decide_eq_true (by omega)
        clear c6
        by_cases c7 : (rd x0_1 0) < 128
        ·rw [if_pos c7] at H
         have c7b0 : decide ((rd x0_1 0) < 128) = true := decide_eq_true c7
         clear c7
         by_cases c8 : 1 ≤ (x0_1.length : Int)
         ·rw [if_pos c8] at H
          have c8b0 := eq_true c8
          have c8b1 : decide (1 ≤ (x0_1.length : Int)) = true := decide_eq_true c8
          clear c8
          obtain ⟨y115, hy115⟩ : ∃ y_ : List Int, y_ = (x0_1.drop 1) := ⟨_, rfl⟩
          replace H : (if (y115.length : Int) > 8 then ((utf8_word_byte.f y115).bind fun t120 => (utf8_Valid.j1 k1 y115 ((Go.bits .and .u64 t120 9259542123273814144) == 0))) else (utf8_Valid.j1 k1 y115 false)) = some r := by first | (rw [hy115]; with_reducible exact H) | (have H2_ := (Option.bind_some _ _).symm.trans H; rw [hy115]; with_reducible exact H2_) | (have H2_ := (Option.bind_some _ _).symm.trans H; with_reducible exact H2_) | with_reducible exact H | (rw [hy115]; exact H) | exact H
          have Ny115 := Aside0.mk hy115
          clear hy115
          have HC9 := Aside0.mk H
          clear H
          obtain ⟨Ao10, co10, eo10⟩ := Kd.V_slice HO_0.out
          subst eo10
          have p114 : 0 ≤ (0 : Int) := (by omega)
          have q114 : 0 < (x0_1.length : Int) := of_decide_eq_true (by first | (with_reducible assumption) | assumption)
          obtain ⟨ad114, e114, hx114_0⟩ := Kd.at_int (Kd.V_reads' HO_0.out).2.2 0 p114 q114
          cases e114
          have qi114 : (0 < x0_1.length) = True := eq_true (by omega)
          (try rw [show ((0 : Int)).toNat = 0 from rfl] at hx114_0)
          (try rw [Addr.add_zero'] at hx114_0)
          replace p114 := eq_true p114
          replace q114 := eq_true q114
          have q11 : (1 : Int) ≤ ((x0_1.length : Int) : Int) := of_decide_eq_true (by first | (with_reducible assumption) | assumption)
          obtain ⟨i011, hi011, _, hsz11, _⟩ := info_parts info5
          have hroom11 : x0_1.length ≤ co10 := (Kd.V_reads' HO_0.out).2.1
          have hC11 : Kd.F (Kd.int .u8) _ _ (some ad114) x0_1.length x0_1 := (Kd.V_at (base := w.heap.size) HO_0.out).2.2
          have hcut11 := cut_from (P := Tryd.prog) 22 5 .i64 Tryd.underlying22 hi011 1 hsz11 (some ad114) x0_1.length co10 1 (by omega) q11
          have hr11 := Kd.F_cut (m := (1 : Int).toNat) (c := co10) hC11 (by omega) hroom11
          obtain ⟨A11, hA11⟩ : ∃ A1, A1 = (if co10 = (1 : Int).toNat then (some ad114) else ((some ad114) : Option Addr).map (·.add ((1 : Int).toNat * 1))) := ⟨_, rfl⟩
          obtain ⟨c11, hc11⟩ : ∃ c1, c1 = co10 - (1 : Int).toNat := ⟨_, rfl⟩
          have hy11 : y115.length = x0_1.length - (1 : Int).toNat := (by rw [Ny115.out, List.length_drop] <;> omega)
          rw [show (x0_1).drop (1 : Int).toNat = y115 from Ny115.out.symm] at hr11
          replace hr11 : Kd.F (Kd.int .u8) _ _ A11 y115.length y115 := (by rw [hA11]; exact hr11)
          rw [← hy11, ← hA11, ← hc11] at hcut11
          have HO119 := Aside0.mk (show Kd.V (Kd.int .u8) 5 _ w.heap.size _ (.slice A11 y115.length c11) y115 from Kd.V_mk (by rw [hy11, hc11]; exact Nat.sub_le_sub_right hroom11 _) hr11)
          have HC119 := Aside0.mk (show y115.length ≤ c11 from by rw [hy11, hc11]; exact Nat.sub_le_sub_right hroom11 _)
          clear hr11 hC11 hroom11 hi011 hsz11 hc11
          have KY11 := Aside0.mk hy11
          have KA11 := Aside0.mk hA11
          clear hy11 hA11
          replace q11 := eq_true q11
          go_upto_region 6 with (fail)
          repeat (go_quiet (fail); go_upto_region 6 with (fail))
          go_cut [31] (fun v31 wc => ∃ (kq : Nat) (x31_8 : Bool), v31 = .bool x31_8 ∧ Aside0 (utf8_Valid.j1 kq y115 x31_8 = some r) ∧ Aside0 (kq ≤ k1) ∧ Aside0 (Kd.V (Kd.int .u8) 5 wc w.heap.size (fun k_ => (P0_ k_ ∨ w.heap.size ≤ k_)) (.slice A11 y115.length c11) y115) ∧ Aside0 (Below w.heap.size w wc))
          case first =>
           as_aux_lemma =>
            have H := HC9.out
            clear HC9
            by_cases c12 : (y115.length : Int) > 8
            ·rw [if_pos c12] at H
             have c12b0 : decide (8 < (y115.length : Int)) = true := decide_eq_true c12
             have c12b1 : decide (8 < y115.length) = true := decide_eq_true (by omega)
             clear c12
             (first | rw [c12b0] | (simp only [i64_w, i32_w]; rw [c12b0]) | skip)
             replace H := Option.bind_eq_some_iff.mp H
             obtain ⟨t120, A130, H⟩ := H
             replace H : (utf8_Valid.j1 k1 y115 ((Go.bits .and .u64 t120 9259542123273814144) == 0)) = some r := H
             have A13 := Aside0.mk A130
             clear A130
             have H' := Aside0.mk H
             clear H
             go_wp2_with (first | (go_at_call 39; (with_reducible refine (utf8_word_byte.calls _ _ y115 t120 _ ?side1 ?side2 A13.out).mono ?_); (case side1 => repeat (first | exact (Kd.V_reads' HO119.out).2.2 | (with_reducible refine Kd.C_alloc ?_ _) | (with_reducible refine Kd.C_drewN ?_ _) | (with_reducible refine Kd.C_drew ?_))); (case side2 => exact (Kd.V_reads' HO119.out).2.1); rintro e w' ⟨rfl, ⟨nd, rfl⟩⟩; (try first | exact ⟨rfl, _, World.drewN_drewN _ _ _⟩ | exact ⟨rfl, _, Eq.trans (World.drewN_drewN _ _ _) (congrArg (World.drewN _) (Nat.add_assoc _ _ _))⟩)))
             repeat (go_quiet (first | (go_at_call 39; (with_reducible refine (utf8_word_byte.calls _ _ y115 t120 _ ?side1 ?side2 A13.out).mono ?_); (case side1 => repeat (first | exact (Kd.V_reads' HO119.out).2.2 | (with_reducible refine Kd.C_alloc ?_ _) | (with_reducible refine Kd.C_drewN ?_ _) | (with_reducible refine Kd.C_drew ?_))); (case side2 => exact (Kd.V_reads' HO119.out).2.1); rintro e w' ⟨rfl, ⟨nd, rfl⟩⟩; (try first | exact ⟨rfl, _, World.drewN_drewN _ _ _⟩ | exact ⟨rfl, _, Eq.trans (World.drewN_drewN _ _ _) (congrArg (World.drewN _) (Nat.add_assoc _ _ _))⟩))); try go_wp2_with (first | (go_at_call 39; (with_reducible refine (utf8_word_byte.calls _ _ y115 t120 _ ?side1 ?side2 A13.out).mono ?_); (case side1 => repeat (first | exact (Kd.V_reads' HO119.out).2.2 | (with_reducible refine Kd.C_alloc ?_ _) | (with_reducible refine Kd.C_drewN ?_ _) | (with_reducible refine Kd.C_drew ?_))); (case side2 => exact (Kd.V_reads' HO119.out).2.1); rintro e w' ⟨rfl, ⟨nd, rfl⟩⟩; (try first | exact ⟨rfl, _, World.drewN_drewN _ _ _⟩ | exact ⟨rfl, _, Eq.trans (World.drewN_drewN _ _ _) (congrArg (World.drewN _) (Nat.add_assoc _ _ _))⟩))))
             go_meet
             case rel => exact ⟨_, (((Go.bits .and .u64 t120 9259542123273814144) == 0)), (by first | rfl | (simp; done) | (simp [*]; done)), H', ⟨by have := HK1.out; first | omega | exact Nat.le_refl _⟩, ⟨by (with_reducible repeat (first | apply Kd.V_alloc | apply Kd.V_drewN | apply Kd.V_drew)); exact HO119.out⟩, ⟨by repeat (first | (with_reducible first | exact HB.out | apply below_alloc | apply pw_below_drewN | apply below_drew1) | exact HB.out)⟩⟩
            ·rw [if_neg c12] at H
             have c12b0 : decide (8 < (y115.length : Int)) = false := decide_eq_false c12
             have c12b1 : decide (8 < y115.length) = false := decide_eq_false (by omega)
             clear c12
             (first | rw [c12b0] | (simp only [i64_w, i32_w]; rw [c12b0]) | skip)
             have H' := Aside0.mk H
             clear H
             go_wp2
             repeat (go_quiet (fail); try go_wp2)
             go_meet
             case rel => exact ⟨_, (false), (by first | rfl | (simp; done) | (simp [*]; done)), H', ⟨by have := HK1.out; first | omega | exact Nat.le_refl _⟩, ⟨by (with_reducible repeat (first | apply Kd.V_alloc | apply Kd.V_drewN | apply Kd.V_drew)); exact HO119.out⟩, ⟨by repeat (first | (with_reducible first | exact HB.out | apply below_alloc | apply pw_below_drewN | apply below_drew1) | exact HB.out)⟩⟩
          case rest =>
           as_aux_lemma =>
            clear HC9
            try clear c1
            try clear p1
            try clear q1
            try clear hx1
            try clear qi1
            try clear c2
            try clear c2b0
            try clear c2b1
            try clear p2
            try clear c3
            try clear c3b0
            try clear c3b1
            try clear q4
            try clear c5
            try clear c5b0
            try clear c5b1
            try clear c6
            try clear c6b0
            try clear c6b1
            try clear c7
            try clear c7b0
            try clear c8
            try clear c8b0
            try clear c8b1
            try clear c11
            try clear p11
            try clear q11
            try clear hx11
            try clear qi11
            try clear c12
            try clear c12b0
            try clear c12b1
            try clear hx114_0
            try clear p114
            try clear p2
            try clear q11
            try clear q114
            try clear q4
            obtain ⟨kq, x31_8, rfl, HA, HJ8, HO_0, HB⟩ := hcut
            cases kq with
            | zero => exact absurd HA.out (by simp [utf8_Valid.j1])
            | succ kj8 =>
             have H := HA.out
             clear HA
             simp only [utf8_Valid.j1] at H
             by_cases c14 : x31_8 = true
             ·subst c14
              have H1 : (if 8 ≤ (y115.length : Int) then ((some (y115.drop 8 : List Int)).bind fun y121 => (if (y121.length : Int) > 16 then ((utf8_word_byte.f y121).bind fun t126 => (if 8 ≤ (y121.length : Int) then ((utf8_word_byte.f (y121.drop 8)).bind fun t132 => (utf8_Valid.j2 kj8 y121 ((Go.bits .and .u64 (Go.bits .or .u64 t126 t132) 9259542123273814144) == 0))) else (none))) else (utf8_Valid.j2 kj8 y121 false))) else (none)) = some r := by rw [if_pos rfl] at H; exact H
              clear H
              have H := H1
              clear H1
              by_cases c15 : 8 ≤ (y115.length : Int)
              ·rw [if_pos c15] at H
               have c15b0 := eq_true c15
               have c15b1 : decide (8 ≤ (y115.length : Int)) = true := decide_eq_true c15
               clear c15
               obtain ⟨y121, hy121⟩ : ∃ y_ : List Int, y_ = (y115.drop 8) := ⟨_, rfl⟩
               replace H : (if (y121.length : Int) > 16 then ((utf8_word_byte.f y121).bind fun t126 => (if 8 ≤ (y121.length : Int) then ((utf8_word_byte.f (y121.drop 8)).bind fun t132 => (utf8_Valid.j2 kj8 y121 ((Go.bits .and .u64 (Go.bits .or .u64 t126 t132) 9259542123273814144) == 0))) else (none))) else (utf8_Valid.j2 kj8 y121 false)) = some r := by first | (rw [hy121]; with_reducible exact H) | (have H2_ := (Option.bind_some _ _).symm.trans H; rw [hy121]; with_reducible exact H2_) | (have H2_ := (Option.bind_some _ _).symm.trans H; with_reducible exact H2_) | with_reducible exact H | (rw [hy121]; exact H) | exact H
               have Ny121 := Aside0.mk hy121
               clear hy121
               have HC16 := Aside0.mk H
               clear H
               have q17 : (8 : Int) ≤ ((y115.length : Int) : Int) := of_decide_eq_true (by first | (with_reducible assumption) | assumption)
               obtain ⟨i017, hi017, _, hsz17, _⟩ := info_parts info5
               have hroom17 : y115.length ≤ c11 := (Kd.V_reads' HO_0.out).2.1
               have hC17 : Kd.F (Kd.int .u8) _ _ A11 y115.length y115 := (Kd.V_at (base := w.heap.size) HO_0.out).2.2
               have hcut17 := cut_from (P := Tryd.prog) 22 5 .i64 Tryd.underlying22 hi017 1 hsz17 A11 y115.length c11 8 (by omega) q17
               have hr17 := Kd.F_cut (m := (8 : Int).toNat) (c := c11) hC17 (by omega) hroom17
               obtain ⟨A17, hA17⟩ : ∃ A1, A1 = (if c11 = (8 : Int).toNat then A11 else (A11 : Option Addr).map (·.add ((8 : Int).toNat * 1))) := ⟨_, rfl⟩
               obtain ⟨c17, hc17⟩ : ∃ c1, c1 = c11 - (8 : Int).toNat := ⟨_, rfl⟩
               have hy17 : y121.length = y115.length - (8 : Int).toNat := (by rw [Ny121.out, List.length_drop] <;> omega)
               rw [show (y115).drop (8 : Int).toNat = y121 from Ny121.out.symm] at hr17
               replace hr17 : Kd.F (Kd.int .u8) _ _ A17 y121.length y121 := (by rw [hA17]; exact hr17)
               rw [← hy17, ← hA17, ← hc17] at hcut17
               have HO125 := Aside0.mk (show Kd.V (Kd.int .u8) 5 _ w.heap.size _ (.slice A17 y121.length c17) y121 from Kd.V_mk (by rw [hy17, hc17]; exact Nat.sub_le_sub_right hroom17 _) hr17)
               have HC125 := Aside0.mk (show y121.length ≤ c17 from by rw [hy17, hc17]; exact Nat.sub_le_sub_right hroom17 _)
               clear hr17 hC17 hroom17 hi017 hsz17 hc17
               have KY17 := Aside0.mk hy17
               have KA17 := Aside0.mk hA17
               clear hy17 hA17
               replace q17 := eq_true q17
               go_upto_region 8 with (fail)
               repeat (go_quiet (fail); go_upto_region 8 with (fail))
               go_cut [46] (fun v46 wc => ∃ (kq : Nat) (x46_15 : Bool), v46 = .bool x46_15 ∧ Aside0 (utf8_Valid.j2 kq y121 x46_15 = some r) ∧ Aside0 (kq ≤ kj8) ∧ Aside0 (Kd.V (Kd.int .u8) 5 wc w.heap.size (fun k_ => (P0_ k_ ∨ w.heap.size ≤ k_)) (.slice A17 y121.length c17) y121) ∧ Aside0 (Below w.heap.size w wc))
               case first =>
                as_aux_lemma =>
                 have H := HC16.out
                 clear HC16
                 by_cases c18 : (y121.length : Int) > 16
                 ·rw [if_pos c18] at H
                  have c18b0 : decide (16 < (y121.length : Int)) = true := decide_eq_true c18
                  have c18b1 : decide (16 < y121.length) = true := decide_eq_true (by omega)
                  clear c18
                  (first | rw [c18b0] | (simp only [i64_w, i32_w]; rw [c18b0]) | skip)
                  replace H := Option.bind_eq_some_iff.mp H
                  obtain ⟨t126, A190, H⟩ := H
                  replace H : (if 8 ≤ (y121.length : Int) then ((utf8_word_byte.f (y121.drop 8)).bind fun t132 => (utf8_Valid.j2 kj8 y121 ((Go.bits .and .u64 (Go.bits .or .u64 t126 t132) 9259542123273814144) == 0))) else (none)) = some r := H
                  have A19 := Aside0.mk A190
                  clear A190
                  by_cases c20 : 8 ≤ (y121.length : Int)
                  ·rw [if_pos c20] at H
                   have c20b0 := eq_true c20
                   have c20b1 : decide (8 ≤ (y121.length : Int)) = true := decide_eq_true c20
                   clear c20
                   obtain ⟨y127, hy127⟩ : ∃ y_ : List Int, y_ = (y121.drop 8) := ⟨_, rfl⟩
                   replace H : ((utf8_word_byte.f y127).bind fun t132 => (utf8_Valid.j2 kj8 y121 ((Go.bits .and .u64 (Go.bits .or .u64 t126 t132) 9259542123273814144) == 0))) = some r := by first | (rw [hy127]; with_reducible exact H) | (have H2_ := (Option.bind_some _ _).symm.trans H; rw [hy127]; with_reducible exact H2_) | (have H2_ := (Option.bind_some _ _).symm.trans H; with_reducible exact H2_) | with_reducible exact H | (rw [hy127]; exact H) | exact H
                   have Ny127 := Aside0.mk hy127
                   clear hy127
                   replace H := Option.bind_eq_some_iff.mp H
                   obtain ⟨t132, A210, H⟩ := H
                   replace H : (utf8_Valid.j2 kj8 y121 ((Go.bits .and .u64 (Go.bits .or .u64 t126 t132) 9259542123273814144) == 0)) = some r := H
                   have A21 := Aside0.mk A210
                   clear A210
                   have H' := Aside0.mk H
                   clear H
                   go_wp2_with (first | (go_at_call 39; (with_reducible refine (utf8_word_byte.calls _ _ y121 t126 _ ?side1 ?side2 A19.out).mono ?_); (case side1 => repeat (first | exact (Kd.V_reads' HO125.out).2.2 | (with_reducible refine Kd.C_alloc ?_ _) | (with_reducible refine Kd.C_drewN ?_ _) | (with_reducible refine Kd.C_drew ?_))); (case side2 => exact (Kd.V_reads' HO125.out).2.1); rintro e w' ⟨rfl, ⟨nd, rfl⟩⟩; (try first | exact ⟨rfl, _, World.drewN_drewN _ _ _⟩ | exact ⟨rfl, _, Eq.trans (World.drewN_drewN _ _ _) (congrArg (World.drewN _) (Nat.add_assoc _ _ _))⟩); have q22 : (8 : Int) ≤ ((y121.length : Int) : Int) := of_decide_eq_true (by first | (with_reducible assumption) | assumption); obtain ⟨i022, hi022, _, hsz22, _⟩ := info_parts info5; have hroom22 : y121.length ≤ c17 := (Kd.V_reads' HO125.out).2.1; have hC22 : Kd.F (Kd.int .u8) _ _ A17 y121.length y121 := (Kd.V_at (base := w.heap.size) HO125.out).2.2; have hcut22 := cut_from (P := Tryd.prog) 22 5 .i64 Tryd.underlying22 hi022 1 hsz22 A17 y121.length c17 8 (by omega) q22; have hr22 := Kd.F_cut (m := (8 : Int).toNat) (c := c17) hC22 (by omega) hroom22; obtain ⟨A22, hA22⟩ : ∃ A1, A1 = (if c17 = (8 : Int).toNat then A17 else (A17 : Option Addr).map (·.add ((8 : Int).toNat * 1))) := ⟨_, rfl⟩; obtain ⟨c22, hc22⟩ : ∃ c1, c1 = c17 - (8 : Int).toNat := ⟨_, rfl⟩; have hy22 : y127.length = y121.length - (8 : Int).toNat := (by rw [Ny127.out, List.length_drop] <;> omega); rw [show (y121).drop (8 : Int).toNat = y127 from Ny127.out.symm] at hr22; replace hr22 : Kd.F (Kd.int .u8) _ _ A22 y127.length y127 := (by rw [hA22]; exact hr22); rw [← hy22, ← hA22, ← hc22] at hcut22; have HO131 := Aside0.mk (show Kd.V (Kd.int .u8) 5 _ w.heap.size _ (.slice A22 y127.length c22) y127 from Kd.V_mk (by rw [hy22, hc22]; exact Nat.sub_le_sub_right hroom22 _) hr22); have HC131 := Aside0.mk (show y127.length ≤ c22 from by rw [hy22, hc22]; exact Nat.sub_le_sub_right hroom22 _); clear hr22 hC22 hroom22 hi022 hsz22 hc22; have KY22 := Aside0.mk hy22; have KA22 := Aside0.mk hA22; clear hy22 hA22; replace q22 := eq_true q22) | (go_at_call 39; (with_reducible refine (utf8_word_byte.calls _ _ y127 t132 _ ?side1 ?side2 A21.out).mono ?_); (case side1 => repeat (first | exact (Kd.V_reads' HO131.out).2.2 | (with_reducible refine Kd.C_alloc ?_ _) | (with_reducible refine Kd.C_drewN ?_ _) | (with_reducible refine Kd.C_drew ?_))); (case side2 => exact (Kd.V_reads' HO131.out).2.1); rintro e w' ⟨rfl, ⟨nd, rfl⟩⟩; (try first | exact ⟨rfl, _, World.drewN_drewN _ _ _⟩ | exact ⟨rfl, _, Eq.trans (World.drewN_drewN _ _ _) (congrArg (World.drewN _) (Nat.add_assoc _ _ _))⟩)))
                   repeat (go_quiet (first | (go_at_call 39; (with_reducible refine (utf8_word_byte.calls _ _ y121 t126 _ ?side1 ?side2 A19.out).mono ?_); (case side1 => repeat (first | exact (Kd.V_reads' HO125.out).2.2 | (with_reducible refine Kd.C_alloc ?_ _) | (with_reducible refine Kd.C_drewN ?_ _) | (with_reducible refine Kd.C_drew ?_))); (case side2 => exact (Kd.V_reads' HO125.out).2.1); rintro e w' ⟨rfl, ⟨nd, rfl⟩⟩; (try first | exact ⟨rfl, _, World.drewN_drewN _ _ _⟩ | exact ⟨rfl, _, Eq.trans (World.drewN_drewN _ _ _) (congrArg (World.drewN _) (Nat.add_assoc _ _ _))⟩); have q22 : (8 : Int) ≤ ((y121.length : Int) : Int) := of_decide_eq_true (by first | (with_reducible assumption) | assumption); obtain ⟨i022, hi022, _, hsz22, _⟩ := info_parts info5; have hroom22 : y121.length ≤ c17 := (Kd.V_reads' HO125.out).2.1; have hC22 : Kd.F (Kd.int .u8) _ _ A17 y121.length y121 := (Kd.V_at (base := w.heap.size) HO125.out).2.2; have hcut22 := cut_from (P := Tryd.prog) 22 5 .i64 Tryd.underlying22 hi022 1 hsz22 A17 y121.length c17 8 (by omega) q22; have hr22 := Kd.F_cut (m := (8 : Int).toNat) (c := c17) hC22 (by omega) hroom22; obtain ⟨A22, hA22⟩ : ∃ A1, A1 = (if c17 = (8 : Int).toNat then A17 else (A17 : Option Addr).map (·.add ((8 : Int).toNat * 1))) := ⟨_, rfl⟩; obtain ⟨c22, hc22⟩ : ∃ c1, c1 = c17 - (8 : Int).toNat := ⟨_, rfl⟩; have hy22 : y127.length = y121.length - (8 : Int).toNat := (by rw [Ny127.out, List.length_drop] <;> omega); rw [show (y121).drop (8 : Int).toNat = y127 from Ny127.out.symm] at hr22; replace hr22 : Kd.F (Kd.int .u8) _ _ A22 y127.length y127 := (by rw [hA22]; exact hr22); rw [← hy22, ← hA22, ← hc22] at hcut22; have HO131 := Aside0.mk (show Kd.V (Kd.int .u8) 5 _ w.heap.size _ (.slice A22 y127.length c22) y127 from Kd.V_mk (by rw [hy22, hc22]; exact Nat.sub_le_sub_right hroom22 _) hr22); have HC131 := Aside0.mk (show y127.length ≤ c22 from by rw [hy22, hc22]; exact Nat.sub_le_sub_right hroom22 _); clear hr22 hC22 hroom22 hi022 hsz22 hc22; have KY22 := Aside0.mk hy22; have KA22 := Aside0.mk hA22; clear hy22 hA22; replace q22 := eq_true q22) | (go_at_call 39; (with_reducible refine (utf8_word_byte.calls _ _ y127 t132 _ ?side1 ?side2 A21.out).mono ?_); (case side1 => repeat (first | exact (Kd.V_reads' HO131.out).2.2 | (with_reducible refine Kd.C_alloc ?_ _) | (with_reducible refine Kd.C_drewN ?_ _) | (with_reducible refine Kd.C_drew ?_))); (case side2 => exact (Kd.V_reads' HO131.out).2.1); rintro e w' ⟨rfl, ⟨nd, rfl⟩⟩; (try first | exact ⟨rfl, _, World.drewN_drewN _ _ _⟩ | exact ⟨rfl, _, Eq.trans (World.drewN_drewN _ _ _) (congrArg (World.drewN _) (Nat.add_assoc _ _ _))⟩))); try go_wp2_with (first | (go_at_call 39; (with_reducible refine (utf8_word_byte.calls _ _ y121 t126 _ ?side1 ?side2 A19.out).mono ?_); (case side1 => repeat (first | exact (Kd.V_reads' HO125.out).2.2 | (with_reducible refine Kd.C_alloc ?_ _) | (with_reducible refine Kd.C_drewN ?_ _) | (with_reducible refine Kd.C_drew ?_))); (case side2 => exact (Kd.V_reads' HO125.out).2.1); rintro e w' ⟨rfl, ⟨nd, rfl⟩⟩; (try first | exact ⟨rfl, _, World.drewN_drewN _ _ _⟩ | exact ⟨rfl, _, Eq.trans (World.drewN_drewN _ _ _) (congrArg (World.drewN _) (Nat.add_assoc _ _ _))⟩); have q22 : (8 : Int) ≤ ((y121.length : Int) : Int) := of_decide_eq_true (by first | (with_reducible assumption) | assumption); obtain ⟨i022, hi022, _, hsz22, _⟩ := info_parts info5; have hroom22 : y121.length ≤ c17 := (Kd.V_reads' HO125.out).2.1; have hC22 : Kd.F (Kd.int .u8) _ _ A17 y121.length y121 := (Kd.V_at (base := w.heap.size) HO125.out).2.2; have hcut22 := cut_from (P := Tryd.prog) 22 5 .i64 Tryd.underlying22 hi022 1 hsz22 A17 y121.length c17 8 (by omega) q22; have hr22 := Kd.F_cut (m := (8 : Int).toNat) (c := c17) hC22 (by omega) hroom22; obtain ⟨A22, hA22⟩ : ∃ A1, A1 = (if c17 = (8 : Int).toNat then A17 else (A17 : Option Addr).map (·.add ((8 : Int).toNat * 1))) := ⟨_, rfl⟩; obtain ⟨c22, hc22⟩ : ∃ c1, c1 = c17 - (8 : Int).toNat := ⟨_, rfl⟩; have hy22 : y127.length = y121.length - (8 : Int).toNat := (by rw [Ny127.out, List.length_drop] <;> omega); rw [show (y121).drop (8 : Int).toNat = y127 from Ny127.out.symm] at hr22; replace hr22 : Kd.F (Kd.int .u8) _ _ A22 y127.length y127 := (by rw [hA22]; exact hr22); rw [← hy22, ← hA22, ← hc22] at hcut22; have HO131 := Aside0.mk (show Kd.V (Kd.int .u8) 5 _ w.heap.size _ (.slice A22 y127.length c22) y127 from Kd.V_mk (by rw [hy22, hc22]; exact Nat.sub_le_sub_right hroom22 _) hr22); have HC131 := Aside0.mk (show y127.length ≤ c22 from by rw [hy22, hc22]; exact Nat.sub_le_sub_right hroom22 _); clear hr22 hC22 hroom22 hi022 hsz22 hc22; have KY22 := Aside0.mk hy22; have KA22 := Aside0.mk hA22; clear hy22 hA22; replace q22 := eq_true q22) | (go_at_call 39; (with_reducible refine (utf8_word_byte.calls _ _ y127 t132 _ ?side1 ?side2 A21.out).mono ?_); (case side1 => repeat (first | exact (Kd.V_reads' HO131.out).2.2 | (with_reducible refine Kd.C_alloc ?_ _) | (with_reducible refine Kd.C_drewN ?_ _) | (with_reducible refine Kd.C_drew ?_))); (case side2 => exact (Kd.V_reads' HO131.out).2.1); rintro e w' ⟨rfl, ⟨nd, rfl⟩⟩; (try first | exact ⟨rfl, _, World.drewN_drewN _ _ _⟩ | exact ⟨rfl, _, Eq.trans (World.drewN_drewN _ _ _) (congrArg (World.drewN _) (Nat.add_assoc _ _ _))⟩))))
                   go_meet
                   case rel => exact ⟨_, (((Go.bits .and .u64 (Go.bits .or .u64 t126 t132) 9259542123273814144) == 0)), (by first | rfl | (simp; done) | (simp [*]; done)), H', ⟨by have := HK1.out; have := HJ8.out; first | omega | exact Nat.le_refl _⟩, ⟨by (with_reducible repeat (first | apply Kd.V_alloc | apply Kd.V_drewN | apply Kd.V_drew)); exact HO125.out⟩, ⟨by repeat (first | (with_reducible first | exact HB.out | apply below_alloc | apply pw_below_drewN | apply below_drew1) | exact HB.out)⟩⟩
                  ·rw [if_neg c20] at H
                   exact absurd H (by simp)
                 ·rw [if_neg c18] at H
                  have c18b0 : decide (16 < (y121.length : Int)) = false := decide_eq_false c18
                  have c18b1 : decide (16 < y121.length) = false := decide_eq_false (by omega)
                  clear c18
                  (first | rw [c18b0] | (simp only [i64_w, i32_w]; rw [c18b0]) | skip)
                  have H' := Aside0.mk H
                  clear H
                  go_wp2
                  repeat (go_quiet (fail); try go_wp2)
                  go_meet
                  case rel => exact ⟨_, (false), (by first | rfl | (simp; done) | (simp [*]; done)), H', ⟨by have := HK1.out; have := HJ8.out; first | omega | exact Nat.le_refl _⟩, ⟨by (with_reducible repeat (first | apply Kd.V_alloc | apply Kd.V_drewN | apply Kd.V_drew)); exact HO125.out⟩, ⟨by repeat (first | (with_reducible first | exact HB.out | apply below_alloc | apply pw_below_drewN | apply below_drew1) | exact HB.out)⟩⟩
               case rest =>
                as_aux_lemma =>
                 clear HC16
                 try clear c1
                 try clear p1
                 try clear q1
                 try clear hx1
                 try clear qi1
                 try clear c2
                 try clear c2b0
                 try clear c2b1
                 try clear p2
                 try clear q2
                 try clear c3
                 try clear c3b0
                 try clear c3b1
                 try clear q4
                 try clear c5
                 try clear c5b0
                 try clear c5b1
                 try clear c6
                 try clear c6b0
                 try clear c6b1
                 try clear c7
                 try clear c7b0
                 try clear c8
                 try clear c8b0
                 try clear c8b1
                 try clear c11
                 try clear p11
                 try clear q11
                 try clear hx11
                 try clear qi11
                 try clear c12
                 try clear c12b0
                 try clear c12b1
                 try clear c14
                 try clear c15
                 try clear c15b0
                 try clear c15b1
                 try clear c17
                 try clear q17
                 try clear c18
                 try clear c18b0
                 try clear c18b1
                 try clear c20
                 try clear c20b0
                 try clear c20b1
                 try clear c22
                 try clear q22
                 try clear hx114_0
                 try clear p1
                 try clear p11
                 try clear p114
                 try clear p2
                 try clear q1
                 try clear q11
                 try clear q114
                 try clear q17
                 try clear q22
                 try clear q4
                 obtain ⟨kq, x46_15, rfl, HA, HJ15, HO_0, HB⟩ := hcut
                 cases kq with
                 | zero => exact absurd HA.out (by simp [utf8_Valid.j2])
                 | succ kj15 =>
                  have H := HA.out
                  clear HA
                  simp only [utf8_Valid.j2] at H
                  by_cases c23 : x46_15 = true
                  ·subst c23
                   have H1 : (if 16 ≤ (y121.length : Int) then (utf8_Valid.l1 kj15 (y121.drop 16)) else (none)) = some r := by rw [if_pos rfl] at H; exact H
                   clear H
                   have H := H1
                   clear H1
                   by_cases c24 : 16 ≤ (y121.length : Int)
                   ·rw [if_pos c24] at H
                    have c24b0 := eq_true c24
                    have c24b1 : decide (16 ≤ (y121.length : Int)) = true := decide_eq_true c24
                    clear c24
                    obtain ⟨y133, hy133⟩ : ∃ y_ : List Int, y_ = (y121.drop 16) := ⟨_, rfl⟩
                    replace H : (utf8_Valid.l1 kj15 y133) = some r := by first | (rw [hy133]; with_reducible exact H) | (have H2_ := (Option.bind_some _ _).symm.trans H; rw [hy133]; with_reducible exact H2_) | (have H2_ := (Option.bind_some _ _).symm.trans H; with_reducible exact H2_) | with_reducible exact H | (rw [hy133]; exact H) | exact H
                    have Ny133 := Aside0.mk hy133
                    clear hy133
                    have H' := Aside0.mk H
                    clear H
                    have q25 : (16 : Int) ≤ ((y121.length : Int) : Int) := of_decide_eq_true (by first | (with_reducible assumption) | assumption)
                    obtain ⟨i025, hi025, _, hsz25, _⟩ := info_parts info5
                    have hroom25 : y121.length ≤ c17 := (Kd.V_reads' HO_0.out).2.1
                    have hC25 : Kd.F (Kd.int .u8) _ _ A17 y121.length y121 := (Kd.V_at (base := w.heap.size) HO_0.out).2.2
                    have hcut25 := cut_from (P := Tryd.prog) 22 5 .i64 Tryd.underlying22 hi025 1 hsz25 A17 y121.length c17 16 (by omega) q25
                    have hr25 := Kd.F_cut (m := (16 : Int).toNat) (c := c17) hC25 (by omega) hroom25
                    obtain ⟨A25, hA25⟩ : ∃ A1, A1 = (if c17 = (16 : Int).toNat then A17 else (A17 : Option Addr).map (·.add ((16 : Int).toNat * 1))) := ⟨_, rfl⟩
                    obtain ⟨c25, hc25⟩ : ∃ c1, c1 = c17 - (16 : Int).toNat := ⟨_, rfl⟩
                    have hy25 : y133.length = y121.length - (16 : Int).toNat := (by rw [Ny133.out, List.length_drop] <;> omega)
                    rw [show (y121).drop (16 : Int).toNat = y133 from Ny133.out.symm] at hr25
                    replace hr25 : Kd.F (Kd.int .u8) _ _ A25 y133.length y133 := (by rw [hA25]; exact hr25)
                    rw [← hy25, ← hA25, ← hc25] at hcut25
                    have HO137 := Aside0.mk (show Kd.V (Kd.int .u8) 5 _ w.heap.size _ (.slice A25 y133.length c25) y133 from Kd.V_mk (by rw [hy25, hc25]; exact Nat.sub_le_sub_right hroom25 _) hr25)
                    have HC137 := Aside0.mk (show y133.length ≤ c25 from by rw [hy25, hc25]; exact Nat.sub_le_sub_right hroom25 _)
                    clear hr25 hC25 hroom25 hi025 hsz25 hc25
                    have KY25 := Aside0.mk hy25
                    have KA25 := Aside0.mk hA25
                    clear hy25 hA25
                    replace q25 := eq_true q25
                    go_wp2
                    repeat (go_quiet (fail); try go_wp2)
                    go_loopg [0] kj15 (fun kq v0 w' => ∃ (x0_4 : List Int), Aside0 (utf8_Valid.l1 kq x0_4 = some r) ∧ Aside0 (kq ≤ kj15) ∧ Aside0 (Kd.V (Kd.int .u8) 5 w' w.heap.size (fun k_ => (P0_ k_ ∨ w.heap.size ≤ k_)) v0 x0_4) ∧ Aside0 (Below w.heap.size w w'))
                    case atStart => exact ⟨(y133), H', ⟨Nat.le_refl _⟩, ⟨by (with_reducible repeat (first | apply Kd.V_alloc | apply Kd.V_drewN | apply Kd.V_drew)); exact HO137.out⟩, ⟨by repeat (first | (with_reducible first | exact HB.out | apply below_alloc | apply pw_below_drewN | apply below_drew1) | exact HB.out)⟩⟩
                    case round =>
                     as_aux_lemma =>
                      clear H'
                      try clear c1
                      try clear p1
                      try clear q1
                      try clear hx1
                      try clear qi1
                      try clear c2
                      try clear c2b0
                      try clear c2b1
                      try clear p2
                      try clear q2
                      try clear c3
                      try clear c3b0
                      try clear c3b1
                      try clear q4
                      try clear c5
                      try clear c5b0
                      try clear c5b1
                      try clear c6
                      try clear c6b0
                      try clear c6b1
                      try clear c7
                      try clear c7b0
                      try clear c8
                      try clear c8b0
                      try clear c8b1
                      try clear c11
                      try clear p11
                      try clear q11
                      try clear hx11
                      try clear qi11
                      try clear c12
                      try clear c12b0
                      try clear c12b1
                      try clear c14
                      try clear c15
                      try clear c15b0
                      try clear c15b1
                      try clear c17
                      try clear q17
                      try clear c18
                      try clear c18b0
                      try clear c18b1
                      try clear c20
                      try clear c20b0
                      try clear c20b1
                      try clear c22
                      try clear q22
                      try clear c23
                      try clear c24
                      try clear c24b0
                      try clear c24b1
                      try clear c25
                      try clear q25
                      try clear hx114_0
                      try clear p1
                      try clear p11
                      try clear p114
                      try clear p2
                      try clear q1
                      try clear q11
                      try clear q114
                      try clear q17
                      try clear q2
                      try clear q22
                      try clear q25
                      try clear q4
                      obtain ⟨x0_4, HA, HK4, HO_0, HB⟩ := hrel
                      cases gk with
                      | zero => exact absurd HA.out (by simp [utf8_Valid.l1])
                      | succ k4 =>
                       have H := HA.out
                       clear HA
                       simp only [utf8_Valid.l1] at H
                       have HC26 := Aside0.mk H
                       clear H
                       go_upto_region 10 with (fail)
                       repeat (go_quiet (fail); go_upto_region 10 with (fail))
                       go_cut [69] (fun v69 wc => ∃ (kq : Nat) (x69_25 : Bool), v69 = .bool x69_25 ∧ Aside0 (utf8_Valid.j4 kq x0_4 x69_25 = some r) ∧ Aside0 (kq ≤ k4) ∧ Aside0 (Kd.V (Kd.int .u8) 5 wc w.heap.size (fun k_ => (P0_ k_ ∨ w.heap.size ≤ k_)) u0 x0_4) ∧ Aside0 (Below w.heap.size w wc))
                       case first =>
                        as_aux_lemma =>
                         have H := HC26.out
                         clear HC26
                         by_cases c27 : (x0_4.length : Int) > 32
                         ·rw [if_pos c27] at H
                          have c27b0 : decide (32 < (x0_4.length : Int)) = true := decide_eq_true c27
                          have c27b1 : decide (32 < x0_4.length) = true := decide_eq_true (by omega)
                          clear c27
                          (first | rw [c27b0] | (simp only [i64_w, i32_w]; rw [c27b0]) | skip)
                          replace H := Option.bind_eq_some_iff.mp H
                          obtain ⟨t138, A280, H⟩ := H
                          replace H : (if 8 ≤ (x0_4.length : Int) then ((utf8_word_byte.f (x0_4.drop 8)).bind fun t144 => (if 16 ≤ (x0_4.length : Int) then ((utf8_word_byte.f (x0_4.drop 16)).bind fun t150 => (if 24 ≤ (x0_4.length : Int) then ((utf8_word_byte.f (x0_4.drop 24)).bind fun t156 => (utf8_Valid.j4 k4 x0_4 ((Go.bits .and .u64 (Go.bits .or .u64 (Go.bits .or .u64 t138 t144) (Go.bits .or .u64 t150 t156)) 9259542123273814144) == 0))) else (none))) else (none))) else (none)) = some r := H
                          have A28 := Aside0.mk A280
                          clear A280
                          by_cases c29 : 8 ≤ (x0_4.length : Int)
                          ·rw [if_pos c29] at H
                           have c29b0 := eq_true c29
                           have c29b1 : decide (8 ≤ (x0_4.length : Int)) = true := decide_eq_true c29
                           clear c29
                           obtain ⟨y139, hy139⟩ : ∃ y_ : List Int, y_ = (x0_4.drop 8) := ⟨_, rfl⟩
                           replace H : ((utf8_word_byte.f y139).bind fun t144 => (if 16 ≤ (x0_4.length : Int) then ((utf8_word_byte.f (x0_4.drop 16)).bind fun t150 => (if 24 ≤ (x0_4.length : Int) then ((utf8_word_byte.f (x0_4.drop 24)).bind fun t156 => (utf8_Valid.j4 k4 x0_4 ((Go.bits .and .u64 (Go.bits .or .u64 (Go.bits .or .u64 t138 t144) (Go.bits .or .u64 t150 t156)) 9259542123273814144) == 0))) else (none))) else (none))) = some r := by first | (rw [hy139]; with_reducible exact H) | (have H2_ := (Option.bind_some _ _).symm.trans H; rw [hy139]; with_reducible exact H2_) | (have H2_ := (Option.bind_some _ _).symm.trans H; with_reducible exact H2_) | with_reducible exact H | (rw [hy139]; exact H) | exact H
                           have Ny139 := Aside0.mk hy139
                           clear hy139
                           replace H := Option.bind_eq_some_iff.mp H
                           obtain ⟨t144, A300, H⟩ := H
                           replace H : (if 16 ≤ (x0_4.length : Int) then ((utf8_word_byte.f (x0_4.drop 16)).bind fun t150 => (if 24 ≤ (x0_4.length : Int) then ((utf8_word_byte.f (x0_4.drop 24)).bind fun t156 => (utf8_Valid.j4 k4 x0_4 ((Go.bits .and .u64 (Go.bits .or .u64 (Go.bits .or .u64 t138 t144) (Go.bits .or .u64 t150 t156)) 9259542123273814144) == 0))) else (none))) else (none)) = some r := H
                           have A30 := Aside0.mk A300
                           clear A300
                           by_cases c31 : 16 ≤ (x0_4.length : Int)
                           ·rw [if_pos c31] at H
                            have c31b0 := eq_true c31
                            have c31b1 : decide (16 ≤ (x0_4.length : Int)) = true := decide_eq_true c31
                            clear c31
                            obtain ⟨y145, hy145⟩ : ∃ y_ : List Int, y_ = (x0_4.drop 16) := ⟨_, rfl⟩
                            replace H : ((utf8_word_byte.f y145).bind fun t150 => (if 24 ≤ (x0_4.length : Int) then ((utf8_word_byte.f (x0_4.drop 24)).bind fun t156 => (utf8_Valid.j4 k4 x0_4 ((Go.bits .and .u64 (Go.bits .or .u64 (Go.bits .or .u64 t138 t144) (Go.bits .or .u64 t150 t156)) 9259542123273814144) == 0))) else (none))) = some r := by first | (rw [hy145]; with_reducible exact H) | (have H2_ := (Option.bind_some _ _).symm.trans H; rw [hy145]; with_reducible exact H2_) | (have H2_ := (Option.bind_some _ _).symm.trans H; with_reducible exact H2_) | with_reducible exact H | (rw [hy145]; exact H) | exact H
                            have Ny145 := Aside0.mk hy145
                            clear hy145
                            replace H := Option.bind_eq_some_iff.mp H
                            obtain ⟨t150, A320, H⟩ := H
                            replace H : (if 24 ≤ (x0_4.length : Int) then ((utf8_word_byte.f (x0_4.drop 24)).bind fun t156 => (utf8_Valid.j4 k4 x0_4 ((Go.bits .and .u64 (Go.bits .or .u64 (Go.bits .or .u64 t138 t144) (Go.bits .or .u64 t150 t156)) 9259542123273814144) == 0))) else (none)) = some r := H
                            have A32 := Aside0.mk A320
                            clear A320
                            by_cases c33 : 24 ≤ (x0_4.length : Int)
                            ·rw [if_pos c33] at H
                             have c33b0 := eq_true c33
                             have c33b1 : decide (24 ≤ (x0_4.length : Int)) = true := decide_eq_true c33
                             clear c33
                             obtain ⟨y151, hy151⟩ : ∃ y_ : List Int, y_ = (x0_4.drop 24) := ⟨_, rfl⟩
                             replace H : ((utf8_word_byte.f y151).bind fun t156 => (utf8_Valid.j4 k4 x0_4 ((Go.bits .and .u64 (Go.bits .or .u64 (Go.bits .or .u64 t138 t144) (Go.bits .or .u64 t150 t156)) 9259542123273814144) == 0))) = some r := by first | (rw [hy151]; with_reducible exact H) | (have H2_ := (Option.bind_some _ _).symm.trans H; rw [hy151]; with_reducible exact H2_) | (have H2_ := (Option.bind_some _ _).symm.trans H; with_reducible exact H2_) | with_reducible exact H | (rw [hy151]; exact H) | exact H
                             have Ny151 := Aside0.mk hy151
                             clear hy151
                             replace H := Option.bind_eq_some_iff.mp H
                             obtain ⟨t156, A340, H⟩ := H
                             replace H : (utf8_Valid.j4 k4 x0_4 ((Go.bits .and .u64 (Go.bits .or .u64 (Go.bits .or .u64 t138 t144) (Go.bits .or .u64 t150 t156)) 9259542123273814144) == 0)) = some r := H
                             have A34 := Aside0.mk A340
                             clear A340
                             have H' := Aside0.mk H
                             clear H
                             obtain ⟨Ao35, co35, eo35⟩ := Kd.V_slice HO_0.out
                             subst eo35
                             go_wp2_with (first | (go_at_call 39; (with_reducible refine (utf8_word_byte.calls _ _ x0_4 t138 _ ?side1 ?side2 A28.out).mono ?_); (case side1 => repeat (first | exact (Kd.V_reads' HO_0.out).2.2 | (with_reducible refine Kd.C_alloc ?_ _) | (with_reducible refine Kd.C_drewN ?_ _) | (with_reducible refine Kd.C_drew ?_))); (case side2 => exact (Kd.V_reads' HO_0.out).2.1); rintro e w' ⟨rfl, ⟨nd, rfl⟩⟩; (try first | exact ⟨rfl, _, World.drewN_drewN _ _ _⟩ | exact ⟨rfl, _, Eq.trans (World.drewN_drewN _ _ _) (congrArg (World.drewN _) (Nat.add_assoc _ _ _))⟩); have q36 : (8 : Int) ≤ ((x0_4.length : Int) : Int) := of_decide_eq_true (by first | (with_reducible assumption) | assumption); obtain ⟨i036, hi036, _, hsz36, _⟩ := info_parts info5; have hroom36 : x0_4.length ≤ co35 := (Kd.V_reads' HO_0.out).2.1; have hC36 : Kd.F (Kd.int .u8) _ _ Ao35 x0_4.length x0_4 := (Kd.V_at (base := w.heap.size) HO_0.out).2.2; have hcut36 := cut_from (P := Tryd.prog) 22 5 .i64 Tryd.underlying22 hi036 1 hsz36 Ao35 x0_4.length co35 8 (by omega) q36; have hr36 := Kd.F_cut (m := (8 : Int).toNat) (c := co35) hC36 (by omega) hroom36; obtain ⟨A36, hA36⟩ : ∃ A1, A1 = (if co35 = (8 : Int).toNat then Ao35 else (Ao35 : Option Addr).map (·.add ((8 : Int).toNat * 1))) := ⟨_, rfl⟩; obtain ⟨c36, hc36⟩ : ∃ c1, c1 = co35 - (8 : Int).toNat := ⟨_, rfl⟩; have hy36 : y139.length = x0_4.length - (8 : Int).toNat := (by rw [Ny139.out, List.length_drop] <;> omega); rw [show (x0_4).drop (8 : Int).toNat = y139 from Ny139.out.symm] at hr36; replace hr36 : Kd.F (Kd.int .u8) _ _ A36 y139.length y139 := (by rw [hA36]; exact hr36); rw [← hy36, ← hA36, ← hc36] at hcut36; have HO143 := Aside0.mk (show Kd.V (Kd.int .u8) 5 _ w.heap.size _ (.slice A36 y139.length c36) y139 from Kd.V_mk (by rw [hy36, hc36]; exact Nat.sub_le_sub_right hroom36 _) hr36); have HC143 := Aside0.mk (show y139.length ≤ c36 from by rw [hy36, hc36]; exact Nat.sub_le_sub_right hroom36 _); clear hr36 hC36 hroom36 hi036 hsz36 hc36; have KY36 := Aside0.mk hy36; have KA36 := Aside0.mk hA36; clear hy36 hA36; replace q36 := eq_true q36) | (go_at_call 39; (with_reducible refine (utf8_word_byte.calls _ _ y139 t144 _ ?side1 ?side2 A30.out).mono ?_); (case side1 => repeat (first | exact (Kd.V_reads' HO143.out).2.2 | (with_reducible refine Kd.C_alloc ?_ _) | (with_reducible refine Kd.C_drewN ?_ _) | (with_reducible refine Kd.C_drew ?_))); (case side2 => exact (Kd.V_reads' HO143.out).2.1); rintro e w' ⟨rfl, ⟨nd, rfl⟩⟩; (try first | exact ⟨rfl, _, World.drewN_drewN _ _ _⟩ | exact ⟨rfl, _, Eq.trans (World.drewN_drewN _ _ _) (congrArg (World.drewN _) (Nat.add_assoc _ _ _))⟩); have q37 : (16 : Int) ≤ ((x0_4.length : Int) : Int) := of_decide_eq_true (by first | (with_reducible assumption) | assumption); obtain ⟨i037, hi037, _, hsz37, _⟩ := info_parts info5; have hroom37 : x0_4.length ≤ co35 := (Kd.V_reads' HO_0.out).2.1; have hC37 : Kd.F (Kd.int .u8) _ _ Ao35 x0_4.length x0_4 := (Kd.V_at (base := w.heap.size) HO_0.out).2.2; have hcut37 := cut_from (P := Tryd.prog) 22 5 .i64 Tryd.underlying22 hi037 1 hsz37 Ao35 x0_4.length co35 16 (by omega) q37; have hr37 := Kd.F_cut (m := (16 : Int).toNat) (c := co35) hC37 (by omega) hroom37; obtain ⟨A37, hA37⟩ : ∃ A1, A1 = (if co35 = (16 : Int).toNat then Ao35 else (Ao35 : Option Addr).map (·.add ((16 : Int).toNat * 1))) := ⟨_, rfl⟩; obtain ⟨c37, hc37⟩ : ∃ c1, c1 = co35 - (16 : Int).toNat := ⟨_, rfl⟩; have hy37 : y145.length = x0_4.length - (16 : Int).toNat := (by rw [Ny145.out, List.length_drop] <;> omega); rw [show (x0_4).drop (16 : Int).toNat = y145 from Ny145.out.symm] at hr37; replace hr37 : Kd.F (Kd.int .u8) _ _ A37 y145.length y145 := (by rw [hA37]; exact hr37); rw [← hy37, ← hA37, ← hc37] at hcut37; have HO149 := Aside0.mk (show Kd.V (Kd.int .u8) 5 _ w.heap.size _ (.slice A37 y145.length c37) y145 from Kd.V_mk (by rw [hy37, hc37]; exact Nat.sub_le_sub_right hroom37 _) hr37); have HC149 := Aside0.mk (show y145.length ≤ c37 from by rw [hy37, hc37]; exact Nat.sub_le_sub_right hroom37 _); clear hr37 hC37 hroom37 hi037 hsz37 hc37; have KY37 := Aside0.mk hy37; have KA37 := Aside0.mk hA37; clear hy37 hA37; replace q37 := eq_true q37) | (go_at_call 39; (with_reducible refine (utf8_word_byte.calls _ _ y145 t150 _ ?side1 ?side2 A32.out).mono ?_); (case side1 => repeat (first | exact (Kd.V_reads' HO149.out).2.2 | (with_reducible refine Kd.C_alloc ?_ _) | (with_reducible refine Kd.C_drewN ?_ _) | (with_reducible refine Kd.C_drew ?_))); (case side2 => exact (Kd.V_reads' HO149.out).2.1); rintro e w' ⟨rfl, ⟨nd, rfl⟩⟩; (try first | exact ⟨rfl, _, World.drewN_drewN _ _ _⟩ | exact ⟨rfl, _, Eq.trans (World.drewN_drewN _ _ _) (congrArg (World.drewN _) (Nat.add_assoc _ _ _))⟩); have q38 : (24 : Int) ≤ ((x0_4.length : Int) : Int) := of_decide_eq_true (by first | (with_reducible assumption) | assumption); obtain ⟨i038, hi038, _, hsz38, _⟩ := info_parts info5; have hroom38 : x0_4.length ≤ co35 := (Kd.V_reads' HO_0.out).2.1; have hC38 : Kd.F (Kd.int .u8) _ _ Ao35 x0_4.length x0_4 := (Kd.V_at (base := w.heap.size) HO_0.out).2.2; have hcut38 := cut_from (P := Tryd.prog) 22 5 .i64 Tryd.underlying22 hi038 1 hsz38 Ao35 x0_4.length co35 24 (by omega) q38; have hr38 := Kd.F_cut (m := (24 : Int).toNat) (c := co35) hC38 (by omega) hroom38; obtain ⟨A38, hA38⟩ : ∃ A1, A1 = (if co35 = (24 : Int).toNat then Ao35 else (Ao35 : Option Addr).map (·.add ((24 : Int).toNat * 1))) := ⟨_, rfl⟩; obtain ⟨c38, hc38⟩ : ∃ c1, c1 = co35 - (24 : Int).toNat := ⟨_, rfl⟩; have hy38 : y151.length = x0_4.length - (24 : Int).toNat := (by rw [Ny151.out, List.length_drop] <;> omega); rw [show (x0_4).drop (24 : Int).toNat = y151 from Ny151.out.symm] at hr38; replace hr38 : Kd.F (Kd.int .u8) _ _ A38 y151.length y151 := (by rw [hA38]; exact hr38); rw [← hy38, ← hA38, ← hc38] at hcut38; have HO155 := Aside0.mk (show Kd.V (Kd.int .u8) 5 _ w.heap.size _ (.slice A38 y151.length c38) y151 from Kd.V_mk (by rw [hy38, hc38]; exact Nat.sub_le_sub_right hroom38 _) hr38); have HC155 := Aside0.mk (show y151.length ≤ c38 from by rw [hy38, hc38]; exact Nat.sub_le_sub_right hroom38 _); clear hr38 hC38 hroom38 hi038 hsz38 hc38; have KY38 := Aside0.mk hy38; have KA38 := Aside0.mk hA38; clear hy38 hA38; replace q38 := eq_true q38) | (go_at_call 39; (with_reducible refine (utf8_word_byte.calls _ _ y151 t156 _ ?side1 ?side2 A34.out).mono ?_); (case side1 => repeat (first | exact (Kd.V_reads' HO155.out).2.2 | (with_reducible refine Kd.C_alloc ?_ _) | (with_reducible refine Kd.C_drewN ?_ _) | (with_reducible refine Kd.C_drew ?_))); (case side2 => exact (Kd.V_reads' HO155.out).2.1); rintro e w' ⟨rfl, ⟨nd, rfl⟩⟩; (try first | exact ⟨rfl, _, World.drewN_drewN _ _ _⟩ | exact ⟨rfl, _, Eq.trans (World.drewN_drewN _ _ _) (congrArg (World.drewN _) (Nat.add_assoc _ _ _))⟩)))
                             repeat (go_quiet (first | (go_at_call 39; (with_reducible refine (utf8_word_byte.calls _ _ x0_4 t138 _ ?side1 ?side2 A28.out).mono ?_); (case side1 => repeat (first | exact (Kd.V_reads' HO_0.out).2.2 | (with_reducible refine Kd.C_alloc ?_ _) | (with_reducible refine Kd.C_drewN ?_ _) | (with_reducible refine Kd.C_drew ?_))); (case side2 => exact (Kd.V_reads' HO_0.out).2.1); rintro e w' ⟨rfl, ⟨nd, rfl⟩⟩; (try first | exact ⟨rfl, _, World.drewN_drewN _ _ _⟩ | exact ⟨rfl, _, Eq.trans (World.drewN_drewN _ _ _) (congrArg (World.drewN _) (Nat.add_assoc _ _ _))⟩); have q36 : (8 : Int) ≤ ((x0_4.length : Int) : Int) := of_decide_eq_true (by first | (with_reducible assumption) | assumption); obtain ⟨i036, hi036, _, hsz36, _⟩ := info_parts info5; have hroom36 : x0_4.length ≤ co35 := (Kd.V_reads' HO_0.out).2.1; have hC36 : Kd.F (Kd.int .u8) _ _ Ao35 x0_4.length x0_4 := (Kd.V_at (base := w.heap.size) HO_0.out).2.2; have hcut36 := cut_from (P := Tryd.prog) 22 5 .i64 Tryd.underlying22 hi036 1 hsz36 Ao35 x0_4.length co35 8 (by omega) q36; have hr36 := Kd.F_cut (m := (8 : Int).toNat) (c := co35) hC36 (by omega) hroom36; obtain ⟨A36, hA36⟩ : ∃ A1, A1 = (if co35 = (8 : Int).toNat then Ao35 else (Ao35 : Option Addr).map (·.add ((8 : Int).toNat * 1))) := ⟨_, rfl⟩; obtain ⟨c36, hc36⟩ : ∃ c1, c1 = co35 - (8 : Int).toNat := ⟨_, rfl⟩; have hy36 : y139.length = x0_4.length - (8 : Int).toNat := (by rw [Ny139.out, List.length_drop] <;> omega); rw [show (x0_4).drop (8 : Int).toNat = y139 from Ny139.out.symm] at hr36; replace hr36 : Kd.F (Kd.int .u8) _ _ A36 y139.length y139 := (by rw [hA36]; exact hr36); rw [← hy36, ← hA36, ← hc36] at hcut36; have HO143 := Aside0.mk (show Kd.V (Kd.int .u8) 5 _ w.heap.size _ (.slice A36 y139.length c36) y139 from Kd.V_mk (by rw [hy36, hc36]; exact Nat.sub_le_sub_right hroom36 _) hr36); have HC143 := Aside0.mk (show y139.length ≤ c36 from by rw [hy36, hc36]; exact Nat.sub_le_sub_right hroom36 _); clear hr36 hC36 hroom36 hi036 hsz36 hc36; have KY36 := Aside0.mk hy36; have KA36 := Aside0.mk hA36; clear hy36 hA36; replace q36 := eq_true q36) | (go_at_call 39; (with_reducible refine (utf8_word_byte.calls _ _ y139 t144 _ ?side1 ?side2 A30.out).mono ?_); (case side1 => repeat (first | exact (Kd.V_reads' HO143.out).2.2 | (with_reducible refine Kd.C_alloc ?_ _) | (with_reducible refine Kd.C_drewN ?_ _) | (with_reducible refine Kd.C_drew ?_))); (case side2 => exact (Kd.V_reads' HO143.out).2.1); rintro e w' ⟨rfl, ⟨nd, rfl⟩⟩; (try first | exact ⟨rfl, _, World.drewN_drewN _ _ _⟩ | exact ⟨rfl, _, Eq.trans (World.drewN_drewN _ _ _) (congrArg (World.drewN _) (Nat.add_assoc _ _ _))⟩); have q37 : (16 : Int) ≤ ((x0_4.length : Int) : Int) := of_decide_eq_true (by first | (with_reducible assumption) | assumption); obtain ⟨i037, hi037, _, hsz37, _⟩ := info_parts info5; have hroom37 : x0_4.length ≤ co35 := (Kd.V_reads' HO_0.out).2.1; have hC37 : Kd.F (Kd.int .u8) _ _ Ao35 x0_4.length x0_4 := (Kd.V_at (base := w.heap.size) HO_0.out).2.2; have hcut37 := cut_from (P := Tryd.prog) 22 5 .i64 Tryd.underlying22 hi037 1 hsz37 Ao35 x0_4.length co35 16 (by omega) q37; have hr37 := Kd.F_cut (m := (16 : Int).toNat) (c := co35) hC37 (by omega) hroom37; obtain ⟨A37, hA37⟩ : ∃ A1, A1 = (if co35 = (16 : Int).toNat then Ao35 else (Ao35 : Option Addr).map (·.add ((16 : Int).toNat * 1))) := ⟨_, rfl⟩; obtain ⟨c37, hc37⟩ : ∃ c1, c1 = co35 - (16 : Int).toNat := ⟨_, rfl⟩; have hy37 : y145.length = x0_4.length - (16 : Int).toNat := (by rw [Ny145.out, List.length_drop] <;> omega); rw [show (x0_4).drop (16 : Int).toNat = y145 from Ny145.out.symm] at hr37; replace hr37 : Kd.F (Kd.int .u8) _ _ A37 y145.length y145 := (by rw [hA37]; exact hr37); rw [← hy37, ← hA37, ← hc37] at hcut37; have HO149 := Aside0.mk (show Kd.V (Kd.int .u8) 5 _ w.heap.size _ (.slice A37 y145.length c37) y145 from Kd.V_mk (by rw [hy37, hc37]; exact Nat.sub_le_sub_right hroom37 _) hr37); have HC149 := Aside0.mk (show y145.length ≤ c37 from by rw [hy37, hc37]; exact Nat.sub_le_sub_right hroom37 _); clear hr37 hC37 hroom37 hi037 hsz37 hc37; have KY37 := Aside0.mk hy37; have KA37 := Aside0.mk hA37; clear hy37 hA37; replace q37 := eq_true q37) | (go_at_call 39; (with_reducible refine (utf8_word_byte.calls _ _ y145 t150 _ ?side1 ?side2 A32.out).mono ?_); (case side1 => repeat (first | exact (Kd.V_reads' HO149.out).2.2 | (with_reducible refine Kd.C_alloc ?_ _) | (with_reducible refine Kd.C_drewN ?_ _) | (with_reducible refine Kd.C_drew ?_))); (case side2 => exact (Kd.V_reads' HO149.out).2.1); rintro e w' ⟨rfl, ⟨nd, rfl⟩⟩; (try first | exact ⟨rfl, _, World.drewN_drewN _ _ _⟩ | exact ⟨rfl, _, Eq.trans (World.drewN_drewN _ _ _) (congrArg (World.drewN _) (Nat.add_assoc _ _ _))⟩); have q38 : (24 : Int) ≤ ((x0_4.length : Int) : Int) := of_decide_eq_true (by first | (with_reducible assumption) | assumption); obtain ⟨i038, hi038, _, hsz38, _⟩ := info_parts info5; have hroom38 : x0_4.length ≤ co35 := (Kd.V_reads' HO_0.out).2.1; have hC38 : Kd.F (Kd.int .u8) _ _ Ao35 x0_4.length x0_4 := (Kd.V_at (base := w.heap.size) HO_0.out).2.2; have hcut38 := cut_from (P := Tryd.prog) 22 5 .i64 Tryd.underlying22 hi038 1 hsz38 Ao35 x0_4.length co35 24 (by omega) q38; have hr38 := Kd.F_cut (m := (24 : Int).toNat) (c := co35) hC38 (by omega) hroom38; obtain ⟨A38, hA38⟩ : ∃ A1, A1 = (if co35 = (24 : Int).toNat then Ao35 else (Ao35 : Option Addr).map (·.add ((24 : Int).toNat * 1))) := ⟨_, rfl⟩; obtain ⟨c38, hc38⟩ : ∃ c1, c1 = co35 - (24 : Int).toNat := ⟨_, rfl⟩; have hy38 : y151.length = x0_4.length - (24 : Int).toNat := (by rw [Ny151.out, List.length_drop] <;> omega); rw [show (x0_4).drop (24 : Int).toNat = y151 from Ny151.out.symm] at hr38; replace hr38 : Kd.F (Kd.int .u8) _ _ A38 y151.length y151 := (by rw [hA38]; exact hr38); rw [← hy38, ← hA38, ← hc38] at hcut38; have HO155 := Aside0.mk (show Kd.V (Kd.int .u8) 5 _ w.heap.size _ (.slice A38 y151.length c38) y151 from Kd.V_mk (by rw [hy38, hc38]; exact Nat.sub_le_sub_right hroom38 _) hr38); have HC155 := Aside0.mk (show y151.length ≤ c38 from by rw [hy38, hc38]; exact Nat.sub_le_sub_right hroom38 _); clear hr38 hC38 hroom38 hi038 hsz38 hc38; have KY38 := Aside0.mk hy38; have KA38 := Aside0.mk hA38; clear hy38 hA38; replace q38 := eq_true q38) | (go_at_call 39; (with_reducible refine (utf8_word_byte.calls _ _ y151 t156 _ ?side1 ?side2 A34.out).mono ?_); (case side1 => repeat (first | exact (Kd.V_reads' HO155.out).2.2 | (with_reducible refine Kd.C_alloc ?_ _) | (with_reducible refine Kd.C_drewN ?_ _) | (with_reducible refine Kd.C_drew ?_))); (case side2 => exact (Kd.V_reads' HO155.out).2.1); rintro e w' ⟨rfl, ⟨nd, rfl⟩⟩; (try first | exact ⟨rfl, _, World.drewN_drewN _ _ _⟩ | exact ⟨rfl, _, Eq.trans (World.drewN_drewN _ _ _) (congrArg (World.drewN _) (Nat.add_assoc _ _ _))⟩))); try go_wp2_with (first | (go_at_call 39; (with_reducible refine (utf8_word_byte.calls _ _ x0_4 t138 _ ?side1 ?side2 A28.out).mono ?_); (case side1 => repeat (first | exact (Kd.V_reads' HO_0.out).2.2 | (with_reducible refine Kd.C_alloc ?_ _) | (with_reducible refine Kd.C_drewN ?_ _) | (with_reducible refine Kd.C_drew ?_))); (case side2 => exact (Kd.V_reads' HO_0.out).2.1); rintro e w' ⟨rfl, ⟨nd, rfl⟩⟩; (try first | exact ⟨rfl, _, World.drewN_drewN _ _ _⟩ | exact ⟨rfl, _, Eq.trans (World.drewN_drewN _ _ _) (congrArg (World.drewN _) (Nat.add_assoc _ _ _))⟩); have q36 : (8 : Int) ≤ ((x0_4.length : Int) : Int) := of_decide_eq_true (by first | (with_reducible assumption) | assumption); obtain ⟨i036, hi036, _, hsz36, _⟩ := info_parts info5; have hroom36 : x0_4.length ≤ co35 := (Kd.V_reads' HO_0.out).2.1; have hC36 : Kd.F (Kd.int .u8) _ _ Ao35 x0_4.length x0_4 := (Kd.V_at (base := w.heap.size) HO_0.out).2.2; have hcut36 := cut_from (P := Tryd.prog) 22 5 .i64 Tryd.underlying22 hi036 1 hsz36 Ao35 x0_4.length co35 8 (by omega) q36; have hr36 := Kd.F_cut (m := (8 : Int).toNat) (c := co35) hC36 (by omega) hroom36; obtain ⟨A36, hA36⟩ : ∃ A1, A1 = (if co35 = (8 : Int).toNat then Ao35 else (Ao35 : Option Addr).map (·.add ((8 : Int).toNat * 1))) := ⟨_, rfl⟩; obtain ⟨c36, hc36⟩ : ∃ c1, c1 = co35 - (8 : Int).toNat := ⟨_, rfl⟩; have hy36 : y139.length = x0_4.length - (8 : Int).toNat := (by rw [Ny139.out, List.length_drop] <;> omega); rw [show (x0_4).drop (8 : Int).toNat = y139 from Ny139.out.symm] at hr36; replace hr36 : Kd.F (Kd.int .u8) _ _ A36 y139.length y139 := (by rw [hA36]; exact hr36); rw [← hy36, ← hA36, ← hc36] at hcut36; have HO143 := Aside0.mk (show Kd.V (Kd.int .u8) 5 _ w.heap.size _ (.slice A36 y139.length c36) y139 from Kd.V_mk (by rw [hy36, hc36]; exact Nat.sub_le_sub_right hroom36 _) hr36); have HC143 := Aside0.mk (show y139.length ≤ c36 from by rw [hy36, hc36]; exact Nat.sub_le_sub_right hroom36 _); clear hr36 hC36 hroom36 hi036 hsz36 hc36; have KY36 := Aside0.mk hy36; have KA36 := Aside0.mk hA36; clear hy36 hA36; replace q36 := eq_true q36) | (go_at_call 39; (with_reducible refine (utf8_word_byte.calls _ _ y139 t144 _ ?side1 ?side2 A30.out).mono ?_); (case side1 => repeat (first | exact (Kd.V_reads' HO143.out).2.2 | (with_reducible refine Kd.C_alloc ?_ _) | (with_reducible refine Kd.C_drewN ?_ _) | (with_reducible refine Kd.C_drew ?_))); (case side2 => exact (Kd.V_reads' HO143.out).2.1); rintro e w' ⟨rfl, ⟨nd, rfl⟩⟩; (try first | exact ⟨rfl, _, World.drewN_drewN _ _ _⟩ | exact ⟨rfl, _, Eq.trans (World.drewN_drewN _ _ _) (congrArg (World.drewN _) (Nat.add_assoc _ _ _))⟩); have q37 : (16 : Int) ≤ ((x0_4.length : Int) : Int) := of_decide_eq_true (by first | (with_reducible assumption) | assumption); obtain ⟨i037, hi037, _, hsz37, _⟩ := info_parts info5; have hroom37 : x0_4.length ≤ co35 := (Kd.V_reads' HO_0.out).2.1; have hC37 : Kd.F (Kd.int .u8) _ _ Ao35 x0_4.length x0_4 := (Kd.V_at (base := w.heap.size) HO_0.out).2.2; have hcut37 := cut_from (P := Tryd.prog) 22 5 .i64 Tryd.underlying22 hi037 1 hsz37 Ao35 x0_4.length co35 16 (by omega) q37; have hr37 := Kd.F_cut (m := (16 : Int).toNat) (c := co35) hC37 (by omega) hroom37; obtain ⟨A37, hA37⟩ : ∃ A1, A1 = (if co35 = (16 : Int).toNat then Ao35 else (Ao35 : Option Addr).map (·.add ((16 : Int).toNat * 1))) := ⟨_, rfl⟩; obtain ⟨c37, hc37⟩ : ∃ c1, c1 = co35 - (16 : Int).toNat := ⟨_, rfl⟩; have hy37 : y145.length = x0_4.length - (16 : Int).toNat := (by rw [Ny145.out, List.length_drop] <;> omega); rw [show (x0_4).drop (16 : Int).toNat = y145 from Ny145.out.symm] at hr37; replace hr37 : Kd.F (Kd.int .u8) _ _ A37 y145.length y145 := (by rw [hA37]; exact hr37); rw [← hy37, ← hA37, ← hc37] at hcut37; have HO149 := Aside0.mk (show Kd.V (Kd.int .u8) 5 _ w.heap.size _ (.slice A37 y145.length c37) y145 from Kd.V_mk (by rw [hy37, hc37]; exact Nat.sub_le_sub_right hroom37 _) hr37); have HC149 := Aside0.mk (show y145.length ≤ c37 from by rw [hy37, hc37]; exact Nat.sub_le_sub_right hroom37 _); clear hr37 hC37 hroom37 hi037 hsz37 hc37; have KY37 := Aside0.mk hy37; have KA37 := Aside0.mk hA37; clear hy37 hA37; replace q37 := eq_true q37) | (go_at_call 39; (with_reducible refine (utf8_word_byte.calls _ _ y145 t150 _ ?side1 ?side2 A32.out).mono ?_); (case side1 => repeat (first | exact (Kd.V_reads' HO149.out).2.2 | (with_reducible refine Kd.C_alloc ?_ _) | (with_reducible refine Kd.C_drewN ?_ _) | (with_reducible refine Kd.C_drew ?_))); (case side2 => exact (Kd.V_reads' HO149.out).2.1); rintro e w' ⟨rfl, ⟨nd, rfl⟩⟩; (try first | exact ⟨rfl, _, World.drewN_drewN _ _ _⟩ | exact ⟨rfl, _, Eq.trans (World.drewN_drewN _ _ _) (congrArg (World.drewN _) (Nat.add_assoc _ _ _))⟩); have q38 : (24 : Int) ≤ ((x0_4.length : Int) : Int) := of_decide_eq_true (by first | (with_reducible assumption) | assumption); obtain ⟨i038, hi038, _, hsz38, _⟩ := info_parts info5; have hroom38 : x0_4.length ≤ co35 := (Kd.V_reads' HO_0.out).2.1; have hC38 : Kd.F (Kd.int .u8) _ _ Ao35 x0_4.length x0_4 := (Kd.V_at (base := w.heap.size) HO_0.out).2.2; have hcut38 := cut_from (P := Tryd.prog) 22 5 .i64 Tryd.underlying22 hi038 1 hsz38 Ao35 x0_4.length co35 24 (by omega) q38; have hr38 := Kd.F_cut (m := (24 : Int).toNat) (c := co35) hC38 (by omega) hroom38; obtain ⟨A38, hA38⟩ : ∃ A1, A1 = (if co35 = (24 : Int).toNat then Ao35 else (Ao35 : Option Addr).map (·.add ((24 : Int).toNat * 1))) := ⟨_, rfl⟩; obtain ⟨c38, hc38⟩ : ∃ c1, c1 = co35 - (24 : Int).toNat := ⟨_, rfl⟩; have hy38 : y151.length = x0_4.length - (24 : Int).toNat := (by rw [Ny151.out, List.length_drop] <;> omega); rw [show (x0_4).drop (24 : Int).toNat = y151 from Ny151.out.symm] at hr38; replace hr38 : Kd.F (Kd.int .u8) _ _ A38 y151.length y151 := (by rw [hA38]; exact hr38); rw [← hy38, ← hA38, ← hc38] at hcut38; have HO155 := Aside0.mk (show Kd.V (Kd.int .u8) 5 _ w.heap.size _ (.slice A38 y151.length c38) y151 from Kd.V_mk (by rw [hy38, hc38]; exact Nat.sub_le_sub_right hroom38 _) hr38); have HC155 := Aside0.mk (show y151.length ≤ c38 from by rw [hy38, hc38]; exact Nat.sub_le_sub_right hroom38 _); clear hr38 hC38 hroom38 hi038 hsz38 hc38; have KY38 := Aside0.mk hy38; have KA38 := Aside0.mk hA38; clear hy38 hA38; replace q38 := eq_true q38) | (go_at_call 39; (with_reducible refine (utf8_word_byte.calls _ _ y151 t156 _ ?side1 ?side2 A34.out).mono ?_); (case side1 => repeat (first | exact (Kd.V_reads' HO155.out).2.2 | (with_reducible refine Kd.C_alloc ?_ _) | (with_reducible refine Kd.C_drewN ?_ _) | (with_reducible refine Kd.C_drew ?_))); (case side2 => exact (Kd.V_reads' HO155.out).2.1); rintro e w' ⟨rfl, ⟨nd, rfl⟩⟩; (try first | exact ⟨rfl, _, World.drewN_drewN _ _ _⟩ | exact ⟨rfl, _, Eq.trans (World.drewN_drewN _ _ _) (congrArg (World.drewN _) (Nat.add_assoc _ _ _))⟩))))
                             go_meet
                             case rel => exact ⟨_, (((Go.bits .and .u64 (Go.bits .or .u64 (Go.bits .or .u64 t138 t144) (Go.bits .or .u64 t150 t156)) 9259542123273814144) == 0)), (by first | rfl | (simp; done) | (simp [*]; done)), H', ⟨by have := HK1.out; have := HJ8.out; have := HJ15.out; have := HK4.out; first | omega | exact Nat.le_refl _⟩, ⟨by (with_reducible repeat (first | apply Kd.V_alloc | apply Kd.V_drewN | apply Kd.V_drew)); exact HO_0.out⟩, ⟨by repeat (first | (with_reducible first | exact HB.out | apply below_alloc | apply pw_below_drewN | apply below_drew1) | exact HB.out)⟩⟩
                            ·rw [if_neg c33] at H
                             exact absurd H (by simp)
                           ·rw [if_neg c31] at H
                            exact absurd H (by simp)
                          ·rw [if_neg c29] at H
                           exact absurd H (by simp)
                         ·rw [if_neg c27] at H
                          have c27b0 : decide (32 < (x0_4.length : Int)) = false := decide_eq_false c27
                          have c27b1 : decide (32 < x0_4.length) = false := decide_eq_false (by omega)
                          clear c27
                          (first | rw [c27b0] | (simp only [i64_w, i32_w]; rw [c27b0]) | skip)
                          have H' := Aside0.mk H
                          clear H
                          obtain ⟨Ao39, co39, eo39⟩ := Kd.V_slice HO_0.out
                          subst eo39
                          go_wp2
                          repeat (go_quiet (fail); try go_wp2)
                          go_meet
                          case rel => exact ⟨_, (false), (by first | rfl | (simp; done) | (simp [*]; done)), H', ⟨by have := HK1.out; have := HJ8.out; have := HJ15.out; have := HK4.out; first | omega | exact Nat.le_refl _⟩, ⟨by (with_reducible repeat (first | apply Kd.V_alloc | apply Kd.V_drewN | apply Kd.V_drew)); exact HO_0.out⟩, ⟨by repeat (first | (with_reducible first | exact HB.out | apply below_alloc | apply pw_below_drewN | apply below_drew1) | exact HB.out)⟩⟩
                       case rest =>
                        as_aux_lemma =>
                         clear HC26
                         try clear c1
                         try clear p1
                         try clear q1
                         try clear hx1
                         try clear qi1
                         try clear c2
                         try clear c2b0
                         try clear c2b1
                         try clear p2
                         try clear q2
                         try clear c3
                         try clear c3b0
                         try clear c3b1
                         try clear q3
                         try clear q4
                         try clear c5
                         try clear c5b0
                         try clear c5b1
                         try clear c6
                         try clear c6b0
                         try clear c6b1
                         try clear c7
                         try clear c7b0
                         try clear c8
                         try clear c8b0
                         try clear c8b1
                         try clear c11
                         try clear p11
                         try clear q11
                         try clear hx11
                         try clear qi11
                         try clear c12
                         try clear c12b0
                         try clear c12b1
                         try clear c14
                         try clear c15
                         try clear c15b0
                         try clear c15b1
                         try clear c17
                         try clear q17
                         try clear c18
                         try clear c18b0
                         try clear c18b1
                         try clear c20
                         try clear c20b0
                         try clear c20b1
                         try clear c22
                         try clear q22
                         try clear c23
                         try clear c24
                         try clear c24b0
                         try clear c24b1
                         try clear c25
                         try clear q25
                         try clear c27
                         try clear c27b0
                         try clear c27b1
                         try clear c29
                         try clear c29b0
                         try clear c29b1
                         try clear c30
                         try clear c31
                         try clear c31b0
                         try clear c31b1
                         try clear c33
                         try clear c33b0
                         try clear c33b1
                         try clear c36
                         try clear q36
                         try clear c37
                         try clear q37
                         try clear c38
                         try clear q38
                         try clear hx114_0
                         try clear p1
                         try clear p11
                         try clear p114
                         try clear p2
                         try clear q1
                         try clear q11
                         try clear q114
                         try clear q17
                         try clear q2
                         try clear q22
                         try clear q25
                         try clear q36
                         try clear q37
                         try clear q38
                         try clear q4
                         obtain ⟨kq, x69_25, rfl, HA, HJ25, HO_0, HB⟩ := hcut
                         cases kq with
                         | zero => exact absurd HA.out (by simp [utf8_Valid.j4])
                         | succ kj25 =>
                          have H := HA.out
                          clear HA
                          simp only [utf8_Valid.j4] at H
                          by_cases c40 : x69_25 = true
                          ·subst c40
                           have H1 : (if 32 ≤ (x0_4.length : Int) then (utf8_Valid.l1 kj25 (x0_4.drop 32)) else (none)) = some r := by rw [if_pos rfl] at H; exact H
                           clear H
                           have H := H1
                           clear H1
                           by_cases c41 : 32 ≤ (x0_4.length : Int)
                           ·rw [if_pos c41] at H
                            have c41b0 := eq_true c41
                            have c41b1 : decide (32 ≤ (x0_4.length : Int)) = true := decide_eq_true c41
                            clear c41
                            obtain ⟨y157, hy157⟩ : ∃ y_ : List Int, y_ = (x0_4.drop 32) := ⟨_, rfl⟩
                            replace H : (utf8_Valid.l1 kj25 y157) = some r := by first | (rw [hy157]; with_reducible exact H) | (have H2_ := (Option.bind_some _ _).symm.trans H; rw [hy157]; with_reducible exact H2_) | (have H2_ := (Option.bind_some _ _).symm.trans H; with_reducible exact H2_) | with_reducible exact H | (rw [hy157]; exact H) | exact H
                            have Ny157 := Aside0.mk hy157
                            clear hy157
                            have H' := Aside0.mk H
                            clear H
                            obtain ⟨Ao43, co43, eo43⟩ := Kd.V_slice HO_0.out
                            subst eo43
                            have q42 : (32 : Int) ≤ ((x0_4.length : Int) : Int) := of_decide_eq_true (by first | (with_reducible assumption) | assumption)
                            obtain ⟨i042, hi042, _, hsz42, _⟩ := info_parts info5
                            have hroom42 : x0_4.length ≤ co43 := (Kd.V_reads' HO_0.out).2.1
                            have hC42 : Kd.F (Kd.int .u8) _ _ Ao43 x0_4.length x0_4 := (Kd.V_at (base := w.heap.size) HO_0.out).2.2
                            have hcut42 := cut_from (P := Tryd.prog) 22 5 .i64 Tryd.underlying22 hi042 1 hsz42 Ao43 x0_4.length co43 32 (by omega) q42
                            have hr42 := Kd.F_cut (m := (32 : Int).toNat) (c := co43) hC42 (by omega) hroom42
                            obtain ⟨A42, hA42⟩ : ∃ A1, A1 = (if co43 = (32 : Int).toNat then Ao43 else (Ao43 : Option Addr).map (·.add ((32 : Int).toNat * 1))) := ⟨_, rfl⟩
                            obtain ⟨c42, hc42⟩ : ∃ c1, c1 = co43 - (32 : Int).toNat := ⟨_, rfl⟩
                            have hy42 : y157.length = x0_4.length - (32 : Int).toNat := (by rw [Ny157.out, List.length_drop] <;> omega)
                            rw [show (x0_4).drop (32 : Int).toNat = y157 from Ny157.out.symm] at hr42
                            replace hr42 : Kd.F (Kd.int .u8) _ _ A42 y157.length y157 := (by rw [hA42]; exact hr42)
                            rw [← hy42, ← hA42, ← hc42] at hcut42
                            have HO161 := Aside0.mk (show Kd.V (Kd.int .u8) 5 _ w.heap.size _ (.slice A42 y157.length c42) y157 from Kd.V_mk (by rw [hy42, hc42]; exact Nat.sub_le_sub_right hroom42 _) hr42)
                            have HC161 := Aside0.mk (show y157.length ≤ c42 from by rw [hy42, hc42]; exact Nat.sub_le_sub_right hroom42 _)
                            clear hr42 hC42 hroom42 hi042 hsz42 hc42
                            have KY42 := Aside0.mk hy42
                            have KA42 := Aside0.mk hA42
                            clear hy42 hA42
                            replace q42 := eq_true q42
                            go_wp2
                            repeat (go_quiet (fail); try go_wp2)
                            go_roundg kj25
                            case measure => have := HK1.out; have := HJ8.out; have := HJ15.out; have := HK4.out; have := HJ25.out; omega
                            case rel => exact ⟨(y157), H', ⟨by have := HK1.out; have := HJ8.out; have := HJ15.out; have := HK4.out; have := HJ25.out; omega⟩, ⟨by (with_reducible repeat (first | apply Kd.V_alloc | apply Kd.V_drewN | apply Kd.V_drew)); exact HO161.out⟩, ⟨by repeat (first | (with_reducible first | exact HB.out | apply below_alloc | apply pw_below_drewN | apply below_drew1) | exact HB.out)⟩⟩
                           ·rw [if_neg c41] at H
                            exact absurd H (by simp)
                          ·replace c40 := Bool.eq_false_iff.mpr c40
                           subst c40
                           have H1 : (utf8_Valid.l0 kj25 x0_4) = some r := by rw [if_neg (show ¬ (false = true) by decide)] at H; exact H
                           clear H
                           have H := H1
                           clear H1
                           have H' := Aside0.mk H
                           clear H
                           go_wp2
                           repeat (go_quiet (fail); try go_wp2)
                           go_roundg kj25
                           case measure => have := HK1.out; have := HJ8.out; have := HJ15.out; have := HK4.out; have := HJ25.out; omega
                           case rel => exact ⟨(x0_4), H', ⟨by have := HK1.out; have := HJ8.out; have := HJ15.out; have := HK4.out; have := HJ25.out; omega⟩, ⟨by (with_reducible repeat (first | apply Kd.V_alloc | apply Kd.V_drewN | apply Kd.V_drew)); exact HO_0.out⟩, ⟨by repeat (first | (with_reducible first | exact HB.out | apply below_alloc | apply pw_below_drewN | apply below_drew1) | exact HB.out)⟩⟩
                   ·rw [if_neg c24] at H
                    exact absurd H (by simp)
                  ·replace c23 := Bool.eq_false_iff.mpr c23
                   subst c23
                   have H1 : (utf8_Valid.l0 kj15 y121) = some r := by rw [if_neg (show ¬ (false = true) by decide)] at H; exact H
                   clear H
                   have H := H1
                   clear H1
                   have H' := Aside0.mk H
                   clear H
                   go_wp2
                   repeat (go_quiet (fail); try go_wp2)
                   go_roundg kj15
                   case measure => have := HK1.out; have := HJ8.out; have := HJ15.out; omega
                   case rel => exact ⟨(y121), H', ⟨by have := HK1.out; have := HJ8.out; have := HJ15.out; omega⟩, ⟨by (with_reducible repeat (first | apply Kd.V_alloc | apply Kd.V_drewN | apply Kd.V_drew)); exact HO_0.out⟩, ⟨by repeat (first | (with_reducible first | exact HB.out | apply below_alloc | apply pw_below_drewN | apply below_drew1) | exact HB.out)⟩⟩
              ·rw [if_neg c15] at H
               exact absurd H (by simp)
             ·replace c14 := Bool.eq_false_iff.mpr c14
              subst c14
              have H1 : (utf8_Valid.l0 kj8 y115) = some r := by rw [if_neg (show ¬ (false = true) by decide)] at H; exact H
              clear H
              have H := H1
              clear H1
              have H' := Aside0.mk H
              clear H
              go_wp2
              repeat (go_quiet (fail); try go_wp2)
              go_roundg kj8
              case measure => have := HK1.out; have := HJ8.out; omega
              case rel => exact ⟨(y115), H', ⟨by have := HK1.out; have := HJ8.out; omega⟩, ⟨by (with_reducible repeat (first | apply Kd.V_alloc | apply Kd.V_drewN | apply Kd.V_drew)); exact HO_0.out⟩, ⟨by repeat (first | (with_reducible first | exact HB.out | apply below_alloc | apply pw_below_drewN | apply below_drew1) | exact HB.out)⟩⟩
         ·rw [if_neg c8] at H
          exact absurd H (by simp)
        ·rw [if_neg c7] at H
         have c7b0 : decide ((rd x0_1 0) < 128) = false := decide_eq_false c7
         clear c7
         by_cases c44 : 0 ≤ (rd x0_1 0)
         ·rw [if_pos c44] at H
          have c44b0 : decide (0 ≤ (rd x0_1 0)) = true := decide_eq_true c44
          clear c44
          by_cases c45 : (rd x0_1 0) < 256
          ·rw [if_pos c45] at H
           have c45b0 : decide ((rd x0_1 0) < 256) = true := decide_eq_true c45
           clear c45
           obtain ⟨ji47, hji47⟩ : ∃ j_ : Int, ((rd uFL (rd x0_1 0)) / 16) = j_ := ⟨_, rfl⟩
           replace H : (if 0 ≤ (ji47) then (if (ji47) < 16 then (if (wrap64 (Go.bits .and .u8 (rd uFL (rd x0_1 0)) 7)) = 2 then (if (x0_1.length : Int) < 2 then (utf8_Valid.j5 k1 x0_1 true) else (if 1 < (x0_1.length : Int) then (if (rd x0_1 1) < (rd aLL (ji47)) then (utf8_Valid.j5 k1 x0_1 true) else (utf8_Valid.j5 k1 x0_1 (decide ((rd aHL (ji47)) < (rd x0_1 1))))) else (none))) else (if (wrap64 (Go.bits .and .u8 (rd uFL (rd x0_1 0)) 7)) = 3 then (if (x0_1.length : Int) < 3 then (utf8_Valid.j6 k1 x0_1 true) else (if 1 < (x0_1.length : Int) then (if (rd x0_1 1) < (rd aLL (ji47)) then (utf8_Valid.j6 k1 x0_1 true) else (if (rd aHL (ji47)) < (rd x0_1 1) then (utf8_Valid.j6 k1 x0_1 true) else (if 2 < (x0_1.length : Int) then (if (rd x0_1 2) < 128 then (utf8_Valid.j6 k1 x0_1 true) else (utf8_Valid.j6 k1 x0_1 (decide (191 < (rd x0_1 2))))) else (none)))) else (none))) else (if (wrap64 (Go.bits .and .u8 (rd uFL (rd x0_1 0)) 7)) = 4 then (if (x0_1.length : Int) < 4 then (utf8_Valid.j7 k1 x0_1 true) else (if 1 < (x0_1.length : Int) then (if (rd x0_1 1) < (rd aLL (ji47)) then (utf8_Valid.j7 k1 x0_1 true) else (if (rd aHL (ji47)) < (rd x0_1 1) then (utf8_Valid.j7 k1 x0_1 true) else (if 2 < (x0_1.length : Int) then (if (rd x0_1 2) < 128 then (utf8_Valid.j7 k1 x0_1 true) else (if 191 < (rd x0_1 2) then (utf8_Valid.j7 k1 x0_1 true) else (if 3 < (x0_1.length : Int) then (if (rd x0_1 3) < 128 then (utf8_Valid.j7 k1 x0_1 true) else (utf8_Valid.j7 k1 x0_1 (decide (191 < (rd x0_1 3))))) else (none)))) else (none)))) else (none))) else (some false)))) else (none)) else (none)) = some r := by first | (rw [hji47] at H; exact H) | (simp only [hji47] at H ⊢; exact H)
           by_cases c48 : 0 ≤ (ji47)
           ·rw [if_pos c48] at H
            have c48b0 : decide (0 ≤ (ji47)) = true := decide_eq_true c48
            clear c48
            by_cases c49 : (ji47) < 16
            ·rw [if_pos c49] at H
             have c49b0 : decide ((ji47) < 16) = true := decide_eq_true c49
             clear c49
             by_cases c51 : (wrap64 (Go.bits .and .u8 (rd uFL (rd x0_1 0)) 7)) = 2
             ·rw [if_pos c51] at H
              have c51b0 : ((wrap64 (Go.bits .and .u8 (rd uFL (rd x0_1 0)) 7)) == 2) = true := beq_iff_eq.mpr c51
              have c51b1 : ((wrap64 (Go.bits .and .u8 (rd uFL (rd x0_1 0)) 7)) != 2) = false := bne_eq_false_iff_eq.mpr c51
              clear c51
              have HC52 := Aside0.mk H
              clear H
              obtain ⟨Ao53, co53, eo53⟩ := Kd.V_slice HO_0.out
              subst eo53
              have p114 : 0 ≤ (0 : Int) := (by omega)
              have q114 : 0 < (x0_1.length : Int) := of_decide_eq_true (by first | (with_reducible assumption) | assumption)
              obtain ⟨ad114, e114, hx114_0⟩ := Kd.at_int (Kd.V_reads' HO_0.out).2.2 0 p114 q114
              cases e114
              have qi114 : (0 < x0_1.length) = True := eq_true (by omega)
              (try rw [show ((0 : Int)).toNat = 0 from rfl] at hx114_0)
              (try rw [Addr.add_zero'] at hx114_0)
              replace p114 := eq_true p114
              replace q114 := eq_true q114
              have p46 : 0 ≤ ((rd x0_1 0) : Int) := of_decide_eq_true (by first | (with_reducible assumption) | assumption)
              have q46 : ((rd x0_1 0) : Int) < 256 := of_decide_eq_true (by first | (with_reducible assumption) | assumption)
              have hx46_0 := HT.out.uF (rd x0_1 0) p46 q46
              (try replace hx46_0 := (HB.out.cell (World.block_lt_of_cell? _ _ hx46_0)).trans hx46_0)
              replace p46 := eq_true p46
              replace q46 := eq_true q46
              have p50 : 0 ≤ ((ji47) : Int) := of_decide_eq_true (by first | (with_reducible assumption) | assumption)
              have q50 : ((ji47) : Int) < 16 := of_decide_eq_true (by first | (with_reducible assumption) | assumption)
              have hx50_0 := HT.out.aL (ji47) p50 q50
              (try replace hx50_0 := (HB.out.cell (World.block_lt_of_cell? _ _ hx50_0)).trans hx50_0)
              have hx50_1 := HT.out.aH (ji47) p50 q50
              (try replace hx50_1 := (HB.out.cell (World.block_lt_of_cell? _ _ hx50_1)).trans hx50_1)
              replace p50 := eq_true p50
              replace q50 := eq_true q50
              go_upto_region 18 with (first | ((with_reducible refine gate_dst (N := 6) rfl ?_); refine box_event ?hg (N := 6) ?hd (cs := #[.int .u8 0, .int .u8 0]) (t := 59) ?hr ?_; (case hd => rfl); (case hg => rfl); (case hr => first | (go_simp; done) | (go_simp; rfl)); intro gb162 hg w54 hbox hb; have n0_ := Aside0.mk (Kd.V_below (Kd.V_elderB (by (with_reducible repeat (first | apply Kd.V_alloc | apply Kd.V_drewN | apply Kd.V_drew)); exact HO_0.out) gb162 (Nat.le_of_eq hg.symm)) hb); have n1_ := Aside0.mk (below_step (by repeat (first | (with_reducible first | exact HB.out | apply below_alloc | apply pw_below_drewN | apply below_drew1) | exact HB.out)) hb); have n2_ := Aside0.mk (hbox); have n3_ := Aside0.mk ((by rw [hg]; exact (below_size (by repeat (first | (with_reducible first | exact HB.out | apply below_alloc | apply pw_below_drewN | apply below_drew1) | exact HB.out))) : w.heap.size ≤ gb162)); have n4_ := Aside0.mk ((by rw [hg]; exact (below_size (by repeat (first | (with_reducible first | exact HB.out | apply below_alloc | apply pw_below_drewN | apply below_drew1) | exact HB.out))) : w.heap.size ≤ gb162)); clear HO_0; clear HB; have HO_0 := n0_; have HB := n1_; have BK162 := n2_; have GW162 := n3_; have GE162 := n4_; clear n0_ n1_ n2_ n3_ n4_; clear hb hbox hg; have hcz55_0 : w54.cell? ⟨gb162, 0, none⟩ = some (.int .u8 0) := (blk_cell BK162.out 0).trans rfl; have hcz55_1 : w54.cell? ⟨gb162, 1, none⟩ = some (.int .u8 0) := (blk_cell BK162.out 1).trans rfl; have hfz55_0 := blk_frozen BK162.out 0; have hfz55_1 := blk_frozen BK162.out 1))
              repeat (go_quiet (first | ((with_reducible refine gate_dst (N := 6) rfl ?_); refine box_event ?hg (N := 6) ?hd (cs := #[.int .u8 0, .int .u8 0]) (t := 59) ?hr ?_; (case hd => rfl); (case hg => rfl); (case hr => first | (go_simp; done) | (go_simp; rfl)); intro gb162 hg w54 hbox hb; have n0_ := Aside0.mk (Kd.V_below (Kd.V_elderB (by (with_reducible repeat (first | apply Kd.V_alloc | apply Kd.V_drewN | apply Kd.V_drew)); exact HO_0.out) gb162 (Nat.le_of_eq hg.symm)) hb); have n1_ := Aside0.mk (below_step (by repeat (first | (with_reducible first | exact HB.out | apply below_alloc | apply pw_below_drewN | apply below_drew1) | exact HB.out)) hb); have n2_ := Aside0.mk (hbox); have n3_ := Aside0.mk ((by rw [hg]; exact (below_size (by repeat (first | (with_reducible first | exact HB.out | apply below_alloc | apply pw_below_drewN | apply below_drew1) | exact HB.out))) : w.heap.size ≤ gb162)); have n4_ := Aside0.mk ((by rw [hg]; exact (below_size (by repeat (first | (with_reducible first | exact HB.out | apply below_alloc | apply pw_below_drewN | apply below_drew1) | exact HB.out))) : w.heap.size ≤ gb162)); clear HO_0; clear HB; have HO_0 := n0_; have HB := n1_; have BK162 := n2_; have GW162 := n3_; have GE162 := n4_; clear n0_ n1_ n2_ n3_ n4_; clear hb hbox hg; have hcz55_0 : w54.cell? ⟨gb162, 0, none⟩ = some (.int .u8 0) := (blk_cell BK162.out 0).trans rfl; have hcz55_1 : w54.cell? ⟨gb162, 1, none⟩ = some (.int .u8 0) := (blk_cell BK162.out 1).trans rfl; have hfz55_0 := blk_frozen BK162.out 0; have hfz55_1 := blk_frozen BK162.out 1)); go_upto_region 18 with (first | ((with_reducible refine gate_dst (N := 6) rfl ?_); refine box_event ?hg (N := 6) ?hd (cs := #[.int .u8 0, .int .u8 0]) (t := 59) ?hr ?_; (case hd => rfl); (case hg => rfl); (case hr => first | (go_simp; done) | (go_simp; rfl)); intro gb162 hg w54 hbox hb; have n0_ := Aside0.mk (Kd.V_below (Kd.V_elderB (by (with_reducible repeat (first | apply Kd.V_alloc | apply Kd.V_drewN | apply Kd.V_drew)); exact HO_0.out) gb162 (Nat.le_of_eq hg.symm)) hb); have n1_ := Aside0.mk (below_step (by repeat (first | (with_reducible first | exact HB.out | apply below_alloc | apply pw_below_drewN | apply below_drew1) | exact HB.out)) hb); have n2_ := Aside0.mk (hbox); have n3_ := Aside0.mk ((by rw [hg]; exact (below_size (by repeat (first | (with_reducible first | exact HB.out | apply below_alloc | apply pw_below_drewN | apply below_drew1) | exact HB.out))) : w.heap.size ≤ gb162)); have n4_ := Aside0.mk ((by rw [hg]; exact (below_size (by repeat (first | (with_reducible first | exact HB.out | apply below_alloc | apply pw_below_drewN | apply below_drew1) | exact HB.out))) : w.heap.size ≤ gb162)); clear HO_0; clear HB; have HO_0 := n0_; have HB := n1_; have BK162 := n2_; have GW162 := n3_; have GE162 := n4_; clear n0_ n1_ n2_ n3_ n4_; clear hb hbox hg; have hcz55_0 : w54.cell? ⟨gb162, 0, none⟩ = some (.int .u8 0) := (blk_cell BK162.out 0).trans rfl; have hcz55_1 : w54.cell? ⟨gb162, 1, none⟩ = some (.int .u8 0) := (blk_cell BK162.out 1).trans rfl; have hfz55_0 := blk_frozen BK162.out 0; have hfz55_1 := blk_frozen BK162.out 1)))
              (try simp only [Act.put, List.setIfInBounds_toArray, List.set_cons_zero, List.set_cons_succ])
              go_cut [103] (fun v103 wc => ∃ (kq : Nat) (x103_51 : Bool), v103 = .bool x103_51 ∧ Aside0 (utf8_Valid.j5 kq x0_1 x103_51 = some r) ∧ Aside0 (kq ≤ k1) ∧ Aside0 (Kd.V (Kd.int .u8) 5 wc w.heap.size (fun k_ => (P0_ k_ ∨ w.heap.size ≤ k_) ∧ k_ ≠ gb162) (.slice (some ad114) x0_1.length co53) x0_1) ∧ Aside0 (wc.heap[gb162]? = some (.cells #[.int .u8 (rd aLL (ji47)), .int .u8 (rd aHL (ji47))] 59 (0, 0))) ∧ Aside0 (Below w.heap.size w wc))
              case first =>
               as_aux_lemma =>
                have H := HC52.out
                clear HC52
                by_cases c56 : (x0_1.length : Int) < 2
                ·rw [if_pos c56] at H
                 have c56b0 : decide ((x0_1.length : Int) < 2) = true := decide_eq_true c56
                 have c56b1 : decide (x0_1.length < 2) = true := decide_eq_true (by omega)
                 clear c56
                 (first | rw [c56b0] | (simp only [i64_w, i32_w]; rw [c56b0]) | skip)
                 have H' := Aside0.mk H
                 clear H
                 go_wp2
                 repeat (go_quiet (fail); try go_wp2)
                 go_meet
                 case rel => exact ⟨_, (true), (by first | rfl | (simp; done) | (simp [*]; done)), H', ⟨by have := HK1.out; first | omega | exact Nat.le_refl _⟩, ⟨by (with_reducible repeat (first | apply Kd.V_alloc | apply Kd.V_drewN | apply Kd.V_drew)); exact Kd.V_mono (Kd.V_far (p := ⟨gb162, 1, none⟩) (Kd.V_far (p := ⟨gb162, 0, none⟩) (Kd.V_mono HO_0.out (fun k_ hk => (⟨hk, hk.2⟩ : _ ∧ k_ ≠ gb162))) (fun _ hk => hk.2) (.int .u8 (rd aLL (ji47)))) (fun _ hk => hk.2) (.int .u8 (rd aHL (ji47)))) (fun _ hk => ⟨hk.1.1, hk.1.2⟩)⟩, ⟨by (with_reducible repeat (first | refine blk_drewN ?_ _ | refine blk_drew ?_ | refine blk_alloc ?_ _)); refine blk_put (cs := #[.int .u8 (rd aLL (ji47)), .int .u8 0]) ?_ 1 _ rfl; (with_reducible repeat (first | refine blk_drewN ?_ _ | refine blk_drew ?_ | refine blk_alloc ?_ _)); refine blk_put (cs := #[.int .u8 0, .int .u8 0]) ?_ 0 _ rfl; (with_reducible repeat (first | refine blk_drewN ?_ _ | refine blk_drew ?_ | refine blk_alloc ?_ _)); exact BK162.out⟩, ⟨by repeat (first | (with_reducible first | exact HB.out | apply below_alloc | apply pw_below_drewN | apply below_drew1 | refine below_set ?_ GE162.out) | exact HB.out)⟩⟩
                ·rw [if_neg c56] at H
                 have c56b0 : decide ((x0_1.length : Int) < 2) = false := decide_eq_false c56
                 have c56b1 : decide (x0_1.length < 2) = false := decide_eq_false (by omega)
                 clear c56
                 (first | rw [c56b0] | (simp only [i64_w, i32_w]; rw [c56b0]) | skip)
                 by_cases c57 : 1 < (x0_1.length : Int)
                 ·rw [if_pos c57] at H
                  have c57b0 : decide (1 < (x0_1.length : Int)) = true := decide_eq_true c57
                  have c57b1 : decide (1 < x0_1.length) = true := decide_eq_true (by omega)
                  clear c57
                  by_cases c58 : (rd x0_1 1) < (rd aLL (ji47))
                  ·rw [if_pos c58] at H
                   have c58b0 : decide ((rd x0_1 1) < (rd aLL (ji47))) = true := decide_eq_true c58
                   clear c58
                   have H' := Aside0.mk H
                   clear H
                   have p163 : 0 ≤ (1 : Int) := (by omega)
                   have q163 : 1 < (x0_1.length : Int) := of_decide_eq_true (by first | (with_reducible assumption) | assumption)
                   obtain ⟨ad163, e163, hx163_0⟩ := Kd.at_int (Kd.V_reads' HO_0.out).2.2 1 p163 q163
                   obtain rfl : ad114 = ad163 := (by injection e163)
                   (try simp only [show (1 : Int).toNat = 1 from rfl, Nat.reduceMul, Nat.reduceEqDiff, Go.Addr.add, ↓reduceIte] at hx163_0)
                   have qi163 : (1 < x0_1.length) = True := eq_true (by omega)
                   (try rw [show ((1 : Int)).toNat = 1 from rfl] at hx163_0)
                   have hn163_0 : ad114.block ≠ gb162 := V_ne_of HO_0.out (fun _ hk => hk.2) (by omega) (by decide)
                   have hn163_1 : ad114.block ≠ gb162 := V_ne_of HO_0.out (fun _ hk => hk.2) (by omega) (by decide)
                   replace hx163_0 := (cell_far (p := ⟨gb162, 0, none⟩) (by first | (rw [add_block]; exact hn163_0) | (show (Addr.add _ _).block ≠ _; rw [add_block]; exact hn163_0) | exact hn163_0) (.int .u8 (rd aLL (ji47)))).trans hx163_0
                   replace hx163_0 := (cell_far (p := ⟨gb162, 1, none⟩) (by first | (rw [add_block]; exact hn163_1) | (show (Addr.add _ _).block ≠ _; rw [add_block]; exact hn163_1) | exact hn163_1) (.int .u8 (rd aHL (ji47)))).trans hx163_0
                   (try have hy163_0 := fun (n_ : Nat) => (show ((((w54.drewN n_).setCell ⟨gb162, 0, none⟩ (.int .u8 (rd aLL (ji47)))).setCell ⟨gb162, 1, none⟩ (.int .u8 (rd aHL (ji47))))).cell? _ = some _ from hx163_0))
                   clear hn163_0
                   clear hn163_1
                   replace p163 := eq_true p163
                   replace q163 := eq_true q163
                   have hcz59_0 : w54.cell? ⟨gb162, 0, none⟩ = some (.int .u8 0) := (blk_cell BK162.out 0).trans rfl
                   have hcz59_1 : w54.cell? ⟨gb162, 1, none⟩ = some (.int .u8 0) := (blk_cell BK162.out 1).trans rfl
                   have hfz59_0 := blk_frozen BK162.out 0
                   have hfz59_1 := blk_frozen BK162.out 1
                   go_wp2
                   repeat (go_quiet (fail); try go_wp2)
                   go_meet
                   case rel => exact ⟨_, (true), (by first | rfl | (simp; done) | (simp [*]; done)), H', ⟨by have := HK1.out; first | omega | exact Nat.le_refl _⟩, ⟨by (with_reducible repeat (first | apply Kd.V_alloc | apply Kd.V_drewN | apply Kd.V_drew)); exact Kd.V_mono (Kd.V_far (p := ⟨gb162, 1, none⟩) (Kd.V_far (p := ⟨gb162, 0, none⟩) (Kd.V_mono HO_0.out (fun k_ hk => (⟨hk, hk.2⟩ : _ ∧ k_ ≠ gb162))) (fun _ hk => hk.2) (.int .u8 (rd aLL (ji47)))) (fun _ hk => hk.2) (.int .u8 (rd aHL (ji47)))) (fun _ hk => ⟨hk.1.1, hk.1.2⟩)⟩, ⟨by (with_reducible repeat (first | refine blk_drewN ?_ _ | refine blk_drew ?_ | refine blk_alloc ?_ _)); refine blk_put (cs := #[.int .u8 (rd aLL (ji47)), .int .u8 0]) ?_ 1 _ rfl; (with_reducible repeat (first | refine blk_drewN ?_ _ | refine blk_drew ?_ | refine blk_alloc ?_ _)); refine blk_put (cs := #[.int .u8 0, .int .u8 0]) ?_ 0 _ rfl; (with_reducible repeat (first | refine blk_drewN ?_ _ | refine blk_drew ?_ | refine blk_alloc ?_ _)); exact BK162.out⟩, ⟨by repeat (first | (with_reducible first | exact HB.out | apply below_alloc | apply pw_below_drewN | apply below_drew1 | refine below_set ?_ GE162.out) | exact HB.out)⟩⟩
                  ·rw [if_neg c58] at H
                   have c58b0 : decide ((rd x0_1 1) < (rd aLL (ji47))) = false := decide_eq_false c58
                   clear c58
                   have H' := Aside0.mk H
                   clear H
                   have p163 : 0 ≤ (1 : Int) := (by omega)
                   have q163 : 1 < (x0_1.length : Int) := of_decide_eq_true (by first | (with_reducible assumption) | assumption)
                   obtain ⟨ad163, e163, hx163_0⟩ := Kd.at_int (Kd.V_reads' HO_0.out).2.2 1 p163 q163
                   obtain rfl : ad114 = ad163 := (by injection e163)
                   (try simp only [show (1 : Int).toNat = 1 from rfl, Nat.reduceMul, Nat.reduceEqDiff, Go.Addr.add, ↓reduceIte] at hx163_0)
                   have qi163 : (1 < x0_1.length) = True := eq_true (by omega)
                   (try rw [show ((1 : Int)).toNat = 1 from rfl] at hx163_0)
                   have hn163_0 : ad114.block ≠ gb162 := V_ne_of HO_0.out (fun _ hk => hk.2) (by omega) (by decide)
                   have hn163_1 : ad114.block ≠ gb162 := V_ne_of HO_0.out (fun _ hk => hk.2) (by omega) (by decide)
                   replace hx163_0 := (cell_far (p := ⟨gb162, 0, none⟩) (by first | (rw [add_block]; exact hn163_0) | (show (Addr.add _ _).block ≠ _; rw [add_block]; exact hn163_0) | exact hn163_0) (.int .u8 (rd aLL (ji47)))).trans hx163_0
                   replace hx163_0 := (cell_far (p := ⟨gb162, 1, none⟩) (by first | (rw [add_block]; exact hn163_1) | (show (Addr.add _ _).block ≠ _; rw [add_block]; exact hn163_1) | exact hn163_1) (.int .u8 (rd aHL (ji47)))).trans hx163_0
                   (try have hy163_0 := fun (n_ : Nat) => (show ((((w54.drewN n_).setCell ⟨gb162, 0, none⟩ (.int .u8 (rd aLL (ji47)))).setCell ⟨gb162, 1, none⟩ (.int .u8 (rd aHL (ji47))))).cell? _ = some _ from hx163_0))
                   clear hn163_0
                   clear hn163_1
                   replace p163 := eq_true p163
                   replace q163 := eq_true q163
                   have hcz60_0 : w54.cell? ⟨gb162, 0, none⟩ = some (.int .u8 0) := (blk_cell BK162.out 0).trans rfl
                   have hcz60_1 : w54.cell? ⟨gb162, 1, none⟩ = some (.int .u8 0) := (blk_cell BK162.out 1).trans rfl
                   have hfz60_0 := blk_frozen BK162.out 0
                   have hfz60_1 := blk_frozen BK162.out 1
                   have p164 : 0 ≤ (1 : Int) := (by omega)
                   have q164 : 1 < (x0_1.length : Int) := of_decide_eq_true (by first | (with_reducible assumption) | assumption)
                   obtain ⟨ad164, e164, hx164_0⟩ := Kd.at_int (Kd.V_reads' HO_0.out).2.2 1 p164 q164
                   obtain rfl : ad114 = ad164 := (by injection e164)
                   (try simp only [show (1 : Int).toNat = 1 from rfl, Nat.reduceMul, Nat.reduceEqDiff, Go.Addr.add, ↓reduceIte] at hx164_0)
                   have qi164 : (1 < x0_1.length) = True := eq_true (by omega)
                   (try rw [show ((1 : Int)).toNat = 1 from rfl] at hx164_0)
                   have hn164_0 : ad114.block ≠ gb162 := V_ne_of HO_0.out (fun _ hk => hk.2) (by omega) (by decide)
                   have hn164_1 : ad114.block ≠ gb162 := V_ne_of HO_0.out (fun _ hk => hk.2) (by omega) (by decide)
                   replace hx164_0 := (cell_far (p := ⟨gb162, 0, none⟩) (by first | (rw [add_block]; exact hn164_0) | (show (Addr.add _ _).block ≠ _; rw [add_block]; exact hn164_0) | exact hn164_0) (.int .u8 (rd aLL (ji47)))).trans hx164_0
                   replace hx164_0 := (cell_far (p := ⟨gb162, 1, none⟩) (by first | (rw [add_block]; exact hn164_1) | (show (Addr.add _ _).block ≠ _; rw [add_block]; exact hn164_1) | exact hn164_1) (.int .u8 (rd aHL (ji47)))).trans hx164_0
                   (try have hy164_0 := fun (n_ : Nat) => (show ((((w54.drewN n_).setCell ⟨gb162, 0, none⟩ (.int .u8 (rd aLL (ji47)))).setCell ⟨gb162, 1, none⟩ (.int .u8 (rd aHL (ji47))))).cell? _ = some _ from hx164_0))
                   clear hn164_0
                   clear hn164_1
                   replace p164 := eq_true p164
                   replace q164 := eq_true q164
                   go_wp2
                   repeat (go_quiet (fail); try go_wp2)
                   go_meet
                   case rel => exact ⟨_, (decide ((rd aHL (ji47)) < (rd x0_1 1))), (by first | rfl | (simp; done) | (simp only [← hji47] <;> (first | rfl | simp)) | (simp [*]; done)), H', ⟨by have := HK1.out; first | omega | exact Nat.le_refl _⟩, ⟨by (with_reducible repeat (first | apply Kd.V_alloc | apply Kd.V_drewN | apply Kd.V_drew)); exact Kd.V_mono (Kd.V_far (p := ⟨gb162, 1, none⟩) (Kd.V_far (p := ⟨gb162, 0, none⟩) (Kd.V_mono HO_0.out (fun k_ hk => (⟨hk, hk.2⟩ : _ ∧ k_ ≠ gb162))) (fun _ hk => hk.2) (.int .u8 (rd aLL (ji47)))) (fun _ hk => hk.2) (.int .u8 (rd aHL (ji47)))) (fun _ hk => ⟨hk.1.1, hk.1.2⟩)⟩, ⟨by (with_reducible repeat (first | refine blk_drewN ?_ _ | refine blk_drew ?_ | refine blk_alloc ?_ _)); refine blk_put (cs := #[.int .u8 (rd aLL (ji47)), .int .u8 0]) ?_ 1 _ rfl; (with_reducible repeat (first | refine blk_drewN ?_ _ | refine blk_drew ?_ | refine blk_alloc ?_ _)); refine blk_put (cs := #[.int .u8 0, .int .u8 0]) ?_ 0 _ rfl; (with_reducible repeat (first | refine blk_drewN ?_ _ | refine blk_drew ?_ | refine blk_alloc ?_ _)); exact BK162.out⟩, ⟨by repeat (first | (with_reducible first | exact HB.out | apply below_alloc | apply pw_below_drewN | apply below_drew1 | refine below_set ?_ GE162.out) | exact HB.out)⟩⟩
                 ·rw [if_neg c57] at H
                  exact absurd H (by simp)
              case rest =>
               as_aux_lemma =>
                clear HC52
                try clear c1
                try clear p1
                try clear q1
                try clear hx1
                try clear qi1
                try clear c2
                try clear c2b0
                try clear c2b1
                try clear p2
                try clear q2
                try clear c3
                try clear c3b0
                try clear c3b1
                try clear q3
                try clear c4
                try clear p4
                try clear q4
                try clear hx4
                try clear c5
                try clear c5b0
                try clear c5b1
                try clear p5
                try clear q5
                try clear hx5
                try clear c6
                try clear c6b0
                try clear c6b1
                try clear p6
                try clear c7
                try clear c7b0
                try clear c8
                try clear c8b0
                try clear c8b1
                try clear c11
                try clear p11
                try clear q11
                try clear hx11
                try clear qi11
                try clear c12
                try clear c12b0
                try clear c12b1
                try clear c14
                try clear c15
                try clear c15b0
                try clear c15b1
                try clear p16
                try clear q16
                try clear hx16
                try clear qi16
                try clear c17
                try clear q17
                try clear c18
                try clear c18b0
                try clear c18b1
                try clear c20
                try clear c20b0
                try clear c20b1
                try clear c22
                try clear q22
                try clear c23
                try clear c24
                try clear c24b0
                try clear c24b1
                try clear c25
                try clear q25
                try clear c27
                try clear c27b0
                try clear c27b1
                try clear c29
                try clear c29b0
                try clear c29b1
                try clear c30
                try clear c31
                try clear c31b0
                try clear c31b1
                try clear c33
                try clear c33b0
                try clear c33b1
                try clear c36
                try clear q36
                try clear c37
                try clear q37
                try clear c38
                try clear q38
                try clear c40
                try clear c41
                try clear c41b0
                try clear c41b1
                try clear c42
                try clear q42
                try clear c44
                try clear c44b0
                try clear c45
                try clear c45b0
                try clear p46
                try clear q46
                try clear hx46
                try clear c48
                try clear c48b0
                try clear c49
                try clear c49b0
                try clear p50
                try clear q50
                try clear hx50
                try clear c51
                try clear c51b0
                try clear c51b1
                try clear c56
                try clear c56b0
                try clear c56b1
                try clear c57
                try clear c57b0
                try clear c57b1
                try clear c58
                try clear c58b0
                try clear hcz55_0
                try clear hcz55_1
                try clear hcz59_0
                try clear hcz59_1
                try clear hcz60_0
                try clear hcz60_1
                try clear hfz55_0
                try clear hfz55_1
                try clear hfz59_0
                try clear hfz59_1
                try clear hfz60_0
                try clear hfz60_1
                try clear hx114_0
                try clear hx163_0
                try clear hx164_0
                try clear hx46_0
                try clear hx50_0
                try clear hx50_1
                try clear p1
                try clear p11
                try clear p114
                try clear p163
                try clear p164
                try clear p2
                try clear p46
                try clear p50
                try clear q1
                try clear q11
                try clear q114
                try clear q163
                try clear q164
                try clear q17
                try clear q2
                try clear q22
                try clear q25
                try clear q3
                try clear q36
                try clear q37
                try clear q38
                try clear q4
                try clear q42
                try clear q46
                try clear q50
                obtain ⟨kq, x103_51, rfl, HA, HJ51, HO_0, BK162, HB⟩ := hcut
                cases kq with
                | zero => exact absurd HA.out (by simp [utf8_Valid.j5])
                | succ kj51 =>
                 have H := HA.out
                 clear HA
                 simp only [utf8_Valid.j5] at H
                 by_cases c61 : x103_51 = true
                 ·subst c61
                  have H1 : (some false) = some r := by rw [if_pos rfl] at H; exact H
                  clear H
                  have H := H1
                  clear H1
                  obtain rfl := Option.some.inj H
                  go_wp2
                  repeat (go_quiet (fail); try go_wp2)
                  go_ret
                  exact ⟨by first | rfl | (simp [errW_none, errW_some] <;> rfl) | (simp only [← hji47]; first | rfl | (simp [errW_none, errW_some] <;> rfl)) | (simp [*, errW_none, errW_some] <;> rfl), by repeat (first | (with_reducible first | exact HB.out | apply below_alloc | apply pw_below_drewN | apply below_drew1 | refine below_set ?_ GE162.out) | exact HB.out)⟩
                 ·replace c61 := Bool.eq_false_iff.mpr c61
                  subst c61
                  have H1 : (if 2 ≤ (x0_1.length : Int) then (utf8_Valid.l0 kj51 (x0_1.drop 2)) else (none)) = some r := by rw [if_neg (show ¬ (false = true) by decide)] at H; exact H
                  clear H
                  have H := H1
                  clear H1
                  by_cases c62 : 2 ≤ (x0_1.length : Int)
                  ·rw [if_pos c62] at H
                   have c62b0 := eq_true c62
                   have c62b1 : decide (2 ≤ (x0_1.length : Int)) = true := decide_eq_true c62
                   clear c62
                   obtain ⟨y165, hy165⟩ : ∃ y_ : List Int, y_ = (x0_1.drop 2) := ⟨_, rfl⟩
                   replace H : (utf8_Valid.l0 kj51 y165) = some r := by first | (rw [hy165]; with_reducible exact H) | (have H2_ := (Option.bind_some _ _).symm.trans H; rw [hy165]; with_reducible exact H2_) | (have H2_ := (Option.bind_some _ _).symm.trans H; with_reducible exact H2_) | with_reducible exact H | (rw [hy165]; exact H) | exact H
                   have Ny165 := Aside0.mk hy165
                   clear hy165
                   have H' := Aside0.mk H
                   clear H
                   have q63 : (2 : Int) ≤ ((x0_1.length : Int) : Int) := of_decide_eq_true (by first | (with_reducible assumption) | assumption)
                   obtain ⟨i063, hi063, _, hsz63, _⟩ := info_parts info5
                   have hroom63 : x0_1.length ≤ co53 := (Kd.V_reads' HO_0.out).2.1
                   have hC63 : Kd.F (Kd.int .u8) _ _ (some ad114) x0_1.length x0_1 := (Kd.V_at (base := w.heap.size) HO_0.out).2.2
                   have hcut63 := cut_from (P := Tryd.prog) 22 5 .i64 Tryd.underlying22 hi063 1 hsz63 (some ad114) x0_1.length co53 2 (by omega) q63
                   have hr63 := Kd.F_cut (m := (2 : Int).toNat) (c := co53) hC63 (by omega) hroom63
                   obtain ⟨A63, hA63⟩ : ∃ A1, A1 = (if co53 = (2 : Int).toNat then (some ad114) else ((some ad114) : Option Addr).map (·.add ((2 : Int).toNat * 1))) := ⟨_, rfl⟩
                   obtain ⟨c63, hc63⟩ : ∃ c1, c1 = co53 - (2 : Int).toNat := ⟨_, rfl⟩
                   have hy63 : y165.length = x0_1.length - (2 : Int).toNat := (by rw [Ny165.out, List.length_drop] <;> omega)
                   rw [show (x0_1).drop (2 : Int).toNat = y165 from Ny165.out.symm] at hr63
                   replace hr63 : Kd.F (Kd.int .u8) _ _ A63 y165.length y165 := (by rw [hA63]; exact hr63)
                   rw [← hy63, ← hA63, ← hc63] at hcut63
                   have HO169 := Aside0.mk (show Kd.V (Kd.int .u8) 5 _ w.heap.size _ (.slice A63 y165.length c63) y165 from Kd.V_mk (by rw [hy63, hc63]; exact Nat.sub_le_sub_right hroom63 _) hr63)
                   have HC169 := Aside0.mk (show y165.length ≤ c63 from by rw [hy63, hc63]; exact Nat.sub_le_sub_right hroom63 _)
                   clear hr63 hC63 hroom63 hi063 hsz63 hc63
                   have KY63 := Aside0.mk hy63
                   have KA63 := Aside0.mk hA63
                   clear hy63 hA63
                   replace q63 := eq_true q63
                   go_wp2
                   repeat (go_quiet (fail); try go_wp2)
                   go_roundg kj51
                   case measure => have := HK1.out; have := HJ51.out; omega
                   case rel => exact ⟨(y165), H', ⟨by have := HK1.out; have := HJ51.out; omega⟩, ⟨by (with_reducible repeat (first | apply Kd.V_alloc | apply Kd.V_drewN | apply Kd.V_drew)); exact Kd.V_mono HO169.out (fun _ hk => hk.1)⟩, ⟨by repeat (first | (with_reducible first | exact HB.out | apply below_alloc | apply pw_below_drewN | apply below_drew1 | refine below_set ?_ GE162.out) | exact HB.out)⟩⟩
                  ·rw [if_neg c62] at H
                   exact absurd H (by simp)
             ·rw [if_neg c51] at H
              have c51b0 : ((wrap64 (Go.bits .and .u8 (rd uFL (rd x0_1 0)) 7)) == 2) = false := beq_eq_false_iff_ne.mpr c51
              have c51b1 : ((wrap64 (Go.bits .and .u8 (rd uFL (rd x0_1 0)) 7)) != 2) = true := bne_iff_ne.mpr c51
              by_cases c64 : (wrap64 (Go.bits .and .u8 (rd uFL (rd x0_1 0)) 7)) = 3
              ·rw [if_pos c64] at H
               have c64b0 : ((wrap64 (Go.bits .and .u8 (rd uFL (rd x0_1 0)) 7)) == 3) = true := beq_iff_eq.mpr c64
               have c64b1 : ((wrap64 (Go.bits .and .u8 (rd uFL (rd x0_1 0)) 7)) != 3) = false := bne_eq_false_iff_eq.mpr c64
               clear c64
               have HC65 := Aside0.mk H
               clear H
               obtain ⟨Ao66, co66, eo66⟩ := Kd.V_slice HO_0.out
               subst eo66
               have p114 : 0 ≤ (0 : Int) := (by omega)
               have q114 : 0 < (x0_1.length : Int) := of_decide_eq_true (by first | (with_reducible assumption) | assumption)
               obtain ⟨ad114, e114, hx114_0⟩ := Kd.at_int (Kd.V_reads' HO_0.out).2.2 0 p114 q114
               cases e114
               have qi114 : (0 < x0_1.length) = True := eq_true (by omega)
               (try rw [show ((0 : Int)).toNat = 0 from rfl] at hx114_0)
               (try rw [Addr.add_zero'] at hx114_0)
               replace p114 := eq_true p114
               replace q114 := eq_true q114
               have p46 : 0 ≤ ((rd x0_1 0) : Int) := of_decide_eq_true (by first | (with_reducible assumption) | assumption)
               have q46 : ((rd x0_1 0) : Int) < 256 := of_decide_eq_true (by first | (with_reducible assumption) | assumption)
               have hx46_0 := HT.out.uF (rd x0_1 0) p46 q46
               (try replace hx46_0 := (HB.out.cell (World.block_lt_of_cell? _ _ hx46_0)).trans hx46_0)
               replace p46 := eq_true p46
               replace q46 := eq_true q46
               have p50 : 0 ≤ ((ji47) : Int) := of_decide_eq_true (by first | (with_reducible assumption) | assumption)
               have q50 : ((ji47) : Int) < 16 := of_decide_eq_true (by first | (with_reducible assumption) | assumption)
               have hx50_0 := HT.out.aL (ji47) p50 q50
               (try replace hx50_0 := (HB.out.cell (World.block_lt_of_cell? _ _ hx50_0)).trans hx50_0)
               have hx50_1 := HT.out.aH (ji47) p50 q50
               (try replace hx50_1 := (HB.out.cell (World.block_lt_of_cell? _ _ hx50_1)).trans hx50_1)
               replace p50 := eq_true p50
               replace q50 := eq_true q50
               go_upto_region 22 with (first | ((with_reducible refine gate_dst (N := 6) rfl ?_); refine box_event ?hg (N := 6) ?hd (cs := #[.int .u8 0, .int .u8 0]) (t := 59) ?hr ?_; (case hd => rfl); (case hg => rfl); (case hr => first | (go_simp; done) | (go_simp; rfl)); intro gb162 hg w67 hbox hb; have n0_ := Aside0.mk (Kd.V_below (Kd.V_elderB (by (with_reducible repeat (first | apply Kd.V_alloc | apply Kd.V_drewN | apply Kd.V_drew)); exact HO_0.out) gb162 (Nat.le_of_eq hg.symm)) hb); have n1_ := Aside0.mk (below_step (by repeat (first | (with_reducible first | exact HB.out | apply below_alloc | apply pw_below_drewN | apply below_drew1) | exact HB.out)) hb); have n2_ := Aside0.mk (hbox); have n3_ := Aside0.mk ((by rw [hg]; exact (below_size (by repeat (first | (with_reducible first | exact HB.out | apply below_alloc | apply pw_below_drewN | apply below_drew1) | exact HB.out))) : w.heap.size ≤ gb162)); have n4_ := Aside0.mk ((by rw [hg]; exact (below_size (by repeat (first | (with_reducible first | exact HB.out | apply below_alloc | apply pw_below_drewN | apply below_drew1) | exact HB.out))) : w.heap.size ≤ gb162)); clear HO_0; clear HB; have HO_0 := n0_; have HB := n1_; have BK162 := n2_; have GW162 := n3_; have GE162 := n4_; clear n0_ n1_ n2_ n3_ n4_; clear hb hbox hg; have hcz68_0 : w67.cell? ⟨gb162, 0, none⟩ = some (.int .u8 0) := (blk_cell BK162.out 0).trans rfl; have hcz68_1 : w67.cell? ⟨gb162, 1, none⟩ = some (.int .u8 0) := (blk_cell BK162.out 1).trans rfl; have hfz68_0 := blk_frozen BK162.out 0; have hfz68_1 := blk_frozen BK162.out 1))
               repeat (go_quiet (first | ((with_reducible refine gate_dst (N := 6) rfl ?_); refine box_event ?hg (N := 6) ?hd (cs := #[.int .u8 0, .int .u8 0]) (t := 59) ?hr ?_; (case hd => rfl); (case hg => rfl); (case hr => first | (go_simp; done) | (go_simp; rfl)); intro gb162 hg w67 hbox hb; have n0_ := Aside0.mk (Kd.V_below (Kd.V_elderB (by (with_reducible repeat (first | apply Kd.V_alloc | apply Kd.V_drewN | apply Kd.V_drew)); exact HO_0.out) gb162 (Nat.le_of_eq hg.symm)) hb); have n1_ := Aside0.mk (below_step (by repeat (first | (with_reducible first | exact HB.out | apply below_alloc | apply pw_below_drewN | apply below_drew1) | exact HB.out)) hb); have n2_ := Aside0.mk (hbox); have n3_ := Aside0.mk ((by rw [hg]; exact (below_size (by repeat (first | (with_reducible first | exact HB.out | apply below_alloc | apply pw_below_drewN | apply below_drew1) | exact HB.out))) : w.heap.size ≤ gb162)); have n4_ := Aside0.mk ((by rw [hg]; exact (below_size (by repeat (first | (with_reducible first | exact HB.out | apply below_alloc | apply pw_below_drewN | apply below_drew1) | exact HB.out))) : w.heap.size ≤ gb162)); clear HO_0; clear HB; have HO_0 := n0_; have HB := n1_; have BK162 := n2_; have GW162 := n3_; have GE162 := n4_; clear n0_ n1_ n2_ n3_ n4_; clear hb hbox hg; have hcz68_0 : w67.cell? ⟨gb162, 0, none⟩ = some (.int .u8 0) := (blk_cell BK162.out 0).trans rfl; have hcz68_1 : w67.cell? ⟨gb162, 1, none⟩ = some (.int .u8 0) := (blk_cell BK162.out 1).trans rfl; have hfz68_0 := blk_frozen BK162.out 0; have hfz68_1 := blk_frozen BK162.out 1)); go_upto_region 22 with (first | ((with_reducible refine gate_dst (N := 6) rfl ?_); refine box_event ?hg (N := 6) ?hd (cs := #[.int .u8 0, .int .u8 0]) (t := 59) ?hr ?_; (case hd => rfl); (case hg => rfl); (case hr => first | (go_simp; done) | (go_simp; rfl)); intro gb162 hg w67 hbox hb; have n0_ := Aside0.mk (Kd.V_below (Kd.V_elderB (by (with_reducible repeat (first | apply Kd.V_alloc | apply Kd.V_drewN | apply Kd.V_drew)); exact HO_0.out) gb162 (Nat.le_of_eq hg.symm)) hb); have n1_ := Aside0.mk (below_step (by repeat (first | (with_reducible first | exact HB.out | apply below_alloc | apply pw_below_drewN | apply below_drew1) | exact HB.out)) hb); have n2_ := Aside0.mk (hbox); have n3_ := Aside0.mk ((by rw [hg]; exact (below_size (by repeat (first | (with_reducible first | exact HB.out | apply below_alloc | apply pw_below_drewN | apply below_drew1) | exact HB.out))) : w.heap.size ≤ gb162)); have n4_ := Aside0.mk ((by rw [hg]; exact (below_size (by repeat (first | (with_reducible first | exact HB.out | apply below_alloc | apply pw_below_drewN | apply below_drew1) | exact HB.out))) : w.heap.size ≤ gb162)); clear HO_0; clear HB; have HO_0 := n0_; have HB := n1_; have BK162 := n2_; have GW162 := n3_; have GE162 := n4_; clear n0_ n1_ n2_ n3_ n4_; clear hb hbox hg; have hcz68_0 : w67.cell? ⟨gb162, 0, none⟩ = some (.int .u8 0) := (blk_cell BK162.out 0).trans rfl; have hcz68_1 : w67.cell? ⟨gb162, 1, none⟩ = some (.int .u8 0) := (blk_cell BK162.out 1).trans rfl; have hfz68_0 := blk_frozen BK162.out 0; have hfz68_1 := blk_frozen BK162.out 1)))
               (try simp only [Act.put, List.setIfInBounds_toArray, List.set_cons_zero, List.set_cons_succ])
               go_cut [138] (fun v138 wc => ∃ (kq : Nat) (x138_64 : Bool), v138 = .bool x138_64 ∧ Aside0 (utf8_Valid.j6 kq x0_1 x138_64 = some r) ∧ Aside0 (kq ≤ k1) ∧ Aside0 (Kd.V (Kd.int .u8) 5 wc w.heap.size (fun k_ => (P0_ k_ ∨ w.heap.size ≤ k_) ∧ k_ ≠ gb162) (.slice (some ad114) x0_1.length co66) x0_1) ∧ Aside0 (wc.heap[gb162]? = some (.cells #[.int .u8 (rd aLL (ji47)), .int .u8 (rd aHL (ji47))] 59 (0, 0))) ∧ Aside0 (Below w.heap.size w wc))
               case first =>
                as_aux_lemma =>
                 have H := HC65.out
                 clear HC65
                 by_cases c69 : (x0_1.length : Int) < 3
                 ·rw [if_pos c69] at H
                  have c69b0 : decide ((x0_1.length : Int) < 3) = true := decide_eq_true c69
                  have c69b1 : decide (x0_1.length < 3) = true := decide_eq_true (by omega)
                  clear c69
                  (first | rw [c69b0] | (simp only [i64_w, i32_w]; rw [c69b0]) | skip)
                  have H' := Aside0.mk H
                  clear H
                  go_wp2
                  repeat (go_quiet (fail); try go_wp2)
                  go_meet
                  case rel => exact ⟨_, (true), (by first | rfl | (simp; done) | (simp [*]; done)), H', ⟨by have := HK1.out; first | omega | exact Nat.le_refl _⟩, ⟨by (with_reducible repeat (first | apply Kd.V_alloc | apply Kd.V_drewN | apply Kd.V_drew)); exact Kd.V_mono (Kd.V_far (p := ⟨gb162, 1, none⟩) (Kd.V_far (p := ⟨gb162, 0, none⟩) (Kd.V_mono HO_0.out (fun k_ hk => (⟨hk, hk.2⟩ : _ ∧ k_ ≠ gb162))) (fun _ hk => hk.2) (.int .u8 (rd aLL (ji47)))) (fun _ hk => hk.2) (.int .u8 (rd aHL (ji47)))) (fun _ hk => ⟨hk.1.1, hk.1.2⟩)⟩, ⟨by (with_reducible repeat (first | refine blk_drewN ?_ _ | refine blk_drew ?_ | refine blk_alloc ?_ _)); refine blk_put (cs := #[.int .u8 (rd aLL (ji47)), .int .u8 0]) ?_ 1 _ rfl; (with_reducible repeat (first | refine blk_drewN ?_ _ | refine blk_drew ?_ | refine blk_alloc ?_ _)); refine blk_put (cs := #[.int .u8 0, .int .u8 0]) ?_ 0 _ rfl; (with_reducible repeat (first | refine blk_drewN ?_ _ | refine blk_drew ?_ | refine blk_alloc ?_ _)); exact BK162.out⟩, ⟨by repeat (first | (with_reducible first | exact HB.out | apply below_alloc | apply pw_below_drewN | apply below_drew1 | refine below_set ?_ GE162.out) | exact HB.out)⟩⟩
                 ·rw [if_neg c69] at H
                  have c69b0 : decide ((x0_1.length : Int) < 3) = false := decide_eq_false c69
                  have c69b1 : decide (x0_1.length < 3) = false := decide_eq_false (by omega)
                  clear c69
                  (first | rw [c69b0] | (simp only [i64_w, i32_w]; rw [c69b0]) | skip)
                  by_cases c70 : 1 < (x0_1.length : Int)
                  ·rw [if_pos c70] at H
                   have c70b0 : decide (1 < (x0_1.length : Int)) = true := decide_eq_true c70
                   have c70b1 : decide (1 < x0_1.length) = true := decide_eq_true (by omega)
                   clear c70
                   by_cases c71 : (rd x0_1 1) < (rd aLL (ji47))
                   ·rw [if_pos c71] at H
                    have c71b0 : decide ((rd x0_1 1) < (rd aLL (ji47))) = true := decide_eq_true c71
                    clear c71
                    have H' := Aside0.mk H
                    clear H
                    have p170 : 0 ≤ (1 : Int) := (by omega)
                    have q170 : 1 < (x0_1.length : Int) := of_decide_eq_true (by first | (with_reducible assumption) | assumption)
                    obtain ⟨ad170, e170, hx170_0⟩ := Kd.at_int (Kd.V_reads' HO_0.out).2.2 1 p170 q170
                    obtain rfl : ad114 = ad170 := (by injection e170)
                    (try simp only [show (1 : Int).toNat = 1 from rfl, Nat.reduceMul, Nat.reduceEqDiff, Go.Addr.add, ↓reduceIte] at hx170_0)
                    have qi170 : (1 < x0_1.length) = True := eq_true (by omega)
                    (try rw [show ((1 : Int)).toNat = 1 from rfl] at hx170_0)
                    have hn170_0 : ad114.block ≠ gb162 := V_ne_of HO_0.out (fun _ hk => hk.2) (by omega) (by decide)
                    have hn170_1 : ad114.block ≠ gb162 := V_ne_of HO_0.out (fun _ hk => hk.2) (by omega) (by decide)
                    replace hx170_0 := (cell_far (p := ⟨gb162, 0, none⟩) (by first | (rw [add_block]; exact hn170_0) | (show (Addr.add _ _).block ≠ _; rw [add_block]; exact hn170_0) | exact hn170_0) (.int .u8 (rd aLL (ji47)))).trans hx170_0
                    replace hx170_0 := (cell_far (p := ⟨gb162, 1, none⟩) (by first | (rw [add_block]; exact hn170_1) | (show (Addr.add _ _).block ≠ _; rw [add_block]; exact hn170_1) | exact hn170_1) (.int .u8 (rd aHL (ji47)))).trans hx170_0
                    (try have hy170_0 := fun (n_ : Nat) => (show ((((w67.drewN n_).setCell ⟨gb162, 0, none⟩ (.int .u8 (rd aLL (ji47)))).setCell ⟨gb162, 1, none⟩ (.int .u8 (rd aHL (ji47))))).cell? _ = some _ from hx170_0))
                    clear hn170_0
                    clear hn170_1
                    replace p170 := eq_true p170
                    replace q170 := eq_true q170
                    have hcz72_0 : w67.cell? ⟨gb162, 0, none⟩ = some (.int .u8 0) := (blk_cell BK162.out 0).trans rfl
                    have hcz72_1 : w67.cell? ⟨gb162, 1, none⟩ = some (.int .u8 0) := (blk_cell BK162.out 1).trans rfl
                    have hfz72_0 := blk_frozen BK162.out 0
                    have hfz72_1 := blk_frozen BK162.out 1
                    go_wp2
                    repeat (go_quiet (fail); try go_wp2)
                    go_meet
                    case rel => exact ⟨_, (true), (by first | rfl | (simp; done) | (simp [*]; done)), H', ⟨by have := HK1.out; first | omega | exact Nat.le_refl _⟩, ⟨by (with_reducible repeat (first | apply Kd.V_alloc | apply Kd.V_drewN | apply Kd.V_drew)); exact Kd.V_mono (Kd.V_far (p := ⟨gb162, 1, none⟩) (Kd.V_far (p := ⟨gb162, 0, none⟩) (Kd.V_mono HO_0.out (fun k_ hk => (⟨hk, hk.2⟩ : _ ∧ k_ ≠ gb162))) (fun _ hk => hk.2) (.int .u8 (rd aLL (ji47)))) (fun _ hk => hk.2) (.int .u8 (rd aHL (ji47)))) (fun _ hk => ⟨hk.1.1, hk.1.2⟩)⟩, ⟨by (with_reducible repeat (first | refine blk_drewN ?_ _ | refine blk_drew ?_ | refine blk_alloc ?_ _)); refine blk_put (cs := #[.int .u8 (rd aLL (ji47)), .int .u8 0]) ?_ 1 _ rfl; (with_reducible repeat (first | refine blk_drewN ?_ _ | refine blk_drew ?_ | refine blk_alloc ?_ _)); refine blk_put (cs := #[.int .u8 0, .int .u8 0]) ?_ 0 _ rfl; (with_reducible repeat (first | refine blk_drewN ?_ _ | refine blk_drew ?_ | refine blk_alloc ?_ _)); exact BK162.out⟩, ⟨by repeat (first | (with_reducible first | exact HB.out | apply below_alloc | apply pw_below_drewN | apply below_drew1 | refine below_set ?_ GE162.out) | exact HB.out)⟩⟩
                   ·rw [if_neg c71] at H
                    have c71b0 : decide ((rd x0_1 1) < (rd aLL (ji47))) = false := decide_eq_false c71
                    clear c71
                    by_cases c73 : (rd aHL (ji47)) < (rd x0_1 1)
                    ·rw [if_pos c73] at H
                     have c73b0 : decide ((rd aHL (ji47)) < (rd x0_1 1)) = true := decide_eq_true c73
                     clear c73
                     have H' := Aside0.mk H
                     clear H
                     have p170 : 0 ≤ (1 : Int) := (by omega)
                     have q170 : 1 < (x0_1.length : Int) := of_decide_eq_true (by first | (with_reducible assumption) | assumption)
                     obtain ⟨ad170, e170, hx170_0⟩ := Kd.at_int (Kd.V_reads' HO_0.out).2.2 1 p170 q170
                     obtain rfl : ad114 = ad170 := (by injection e170)
                     (try simp only [show (1 : Int).toNat = 1 from rfl, Nat.reduceMul, Nat.reduceEqDiff, Go.Addr.add, ↓reduceIte] at hx170_0)
                     have qi170 : (1 < x0_1.length) = True := eq_true (by omega)
                     (try rw [show ((1 : Int)).toNat = 1 from rfl] at hx170_0)
                     have hn170_0 : ad114.block ≠ gb162 := V_ne_of HO_0.out (fun _ hk => hk.2) (by omega) (by decide)
                     have hn170_1 : ad114.block ≠ gb162 := V_ne_of HO_0.out (fun _ hk => hk.2) (by omega) (by decide)
                     replace hx170_0 := (cell_far (p := ⟨gb162, 0, none⟩) (by first | (rw [add_block]; exact hn170_0) | (show (Addr.add _ _).block ≠ _; rw [add_block]; exact hn170_0) | exact hn170_0) (.int .u8 (rd aLL (ji47)))).trans hx170_0
                     replace hx170_0 := (cell_far (p := ⟨gb162, 1, none⟩) (by first | (rw [add_block]; exact hn170_1) | (show (Addr.add _ _).block ≠ _; rw [add_block]; exact hn170_1) | exact hn170_1) (.int .u8 (rd aHL (ji47)))).trans hx170_0
                     (try have hy170_0 := fun (n_ : Nat) => (show ((((w67.drewN n_).setCell ⟨gb162, 0, none⟩ (.int .u8 (rd aLL (ji47)))).setCell ⟨gb162, 1, none⟩ (.int .u8 (rd aHL (ji47))))).cell? _ = some _ from hx170_0))
                     clear hn170_0
                     clear hn170_1
                     replace p170 := eq_true p170
                     replace q170 := eq_true q170
                     have hcz74_0 : w67.cell? ⟨gb162, 0, none⟩ = some (.int .u8 0) := (blk_cell BK162.out 0).trans rfl
                     have hcz74_1 : w67.cell? ⟨gb162, 1, none⟩ = some (.int .u8 0) := (blk_cell BK162.out 1).trans rfl
                     have hfz74_0 := blk_frozen BK162.out 0
                     have hfz74_1 := blk_frozen BK162.out 1
                     have p171 : 0 ≤ (1 : Int) := (by omega)
                     have q171 : 1 < (x0_1.length : Int) := of_decide_eq_true (by first | (with_reducible assumption) | assumption)
                     obtain ⟨ad171, e171, hx171_0⟩ := Kd.at_int (Kd.V_reads' HO_0.out).2.2 1 p171 q171
                     obtain rfl : ad114 = ad171 := (by injection e171)
                     (try simp only [show (1 : Int).toNat = 1 from rfl, Nat.reduceMul, Nat.reduceEqDiff, Go.Addr.add, ↓reduceIte] at hx171_0)
                     have qi171 : (1 < x0_1.length) = True := eq_true (by omega)
                     (try rw [show ((1 : Int)).toNat = 1 from rfl] at hx171_0)
                     have hn171_0 : ad114.block ≠ gb162 := V_ne_of HO_0.out (fun _ hk => hk.2) (by omega) (by decide)
                     have hn171_1 : ad114.block ≠ gb162 := V_ne_of HO_0.out (fun _ hk => hk.2) (by omega) (by decide)
                     replace hx171_0 := (cell_far (p := ⟨gb162, 0, none⟩) (by first | (rw [add_block]; exact hn171_0) | (show (Addr.add _ _).block ≠ _; rw [add_block]; exact hn171_0) | exact hn171_0) (.int .u8 (rd aLL (ji47)))).trans hx171_0
                     replace hx171_0 := (cell_far (p := ⟨gb162, 1, none⟩) (by first | (rw [add_block]; exact hn171_1) | (show (Addr.add _ _).block ≠ _; rw [add_block]; exact hn171_1) | exact hn171_1) (.int .u8 (rd aHL (ji47)))).trans hx171_0
                     (try have hy171_0 := fun (n_ : Nat) => (show ((((w67.drewN n_).setCell ⟨gb162, 0, none⟩ (.int .u8 (rd aLL (ji47)))).setCell ⟨gb162, 1, none⟩ (.int .u8 (rd aHL (ji47))))).cell? _ = some _ from hx171_0))
                     clear hn171_0
                     clear hn171_1
                     replace p171 := eq_true p171
                     replace q171 := eq_true q171
                     go_wp2
                     repeat (go_quiet (fail); try go_wp2)
                     go_meet
                     case rel => exact ⟨_, (true), (by first | rfl | (simp; done) | (simp [*]; done)), H', ⟨by have := HK1.out; first | omega | exact Nat.le_refl _⟩, ⟨by (with_reducible repeat (first | apply Kd.V_alloc | apply Kd.V_drewN | apply Kd.V_drew)); exact Kd.V_mono (Kd.V_far (p := ⟨gb162, 1, none⟩) (Kd.V_far (p := ⟨gb162, 0, none⟩) (Kd.V_mono HO_0.out (fun k_ hk => (⟨hk, hk.2⟩ : _ ∧ k_ ≠ gb162))) (fun _ hk => hk.2) (.int .u8 (rd aLL (ji47)))) (fun _ hk => hk.2) (.int .u8 (rd aHL (ji47)))) (fun _ hk => ⟨hk.1.1, hk.1.2⟩)⟩, ⟨by (with_reducible repeat (first | refine blk_drewN ?_ _ | refine blk_drew ?_ | refine blk_alloc ?_ _)); refine blk_put (cs := #[.int .u8 (rd aLL (ji47)), .int .u8 0]) ?_ 1 _ rfl; (with_reducible repeat (first | refine blk_drewN ?_ _ | refine blk_drew ?_ | refine blk_alloc ?_ _)); refine blk_put (cs := #[.int .u8 0, .int .u8 0]) ?_ 0 _ rfl; (with_reducible repeat (first | refine blk_drewN ?_ _ | refine blk_drew ?_ | refine blk_alloc ?_ _)); exact BK162.out⟩, ⟨by repeat (first | (with_reducible first | exact HB.out | apply below_alloc | apply pw_below_drewN | apply below_drew1 | refine below_set ?_ GE162.out) | exact HB.out)⟩⟩
                    ·rw [if_neg c73] at H
                     have c73b0 : decide ((rd aHL (ji47)) < (rd x0_1 1)) = false := decide_eq_false c73
                     clear c73
                     by_cases c75 : 2 < (x0_1.length : Int)
                     ·rw [if_pos c75] at H
                      have c75b0 : decide (2 < (x0_1.length : Int)) = true := decide_eq_true c75
                      have c75b1 : decide (2 < x0_1.length) = true := decide_eq_true (by omega)
                      clear c75
                      by_cases c76 : (rd x0_1 2) < 128
                      ·rw [if_pos c76] at H
                       have c76b0 : decide ((rd x0_1 2) < 128) = true := decide_eq_true c76
                       clear c76
                       have H' := Aside0.mk H
                       clear H
                       have p170 : 0 ≤ (1 : Int) := (by omega)
                       have q170 : 1 < (x0_1.length : Int) := of_decide_eq_true (by first | (with_reducible assumption) | assumption)
                       obtain ⟨ad170, e170, hx170_0⟩ := Kd.at_int (Kd.V_reads' HO_0.out).2.2 1 p170 q170
                       obtain rfl : ad114 = ad170 := (by injection e170)
                       (try simp only [show (1 : Int).toNat = 1 from rfl, Nat.reduceMul, Nat.reduceEqDiff, Go.Addr.add, ↓reduceIte] at hx170_0)
                       have qi170 : (1 < x0_1.length) = True := eq_true (by omega)
                       (try rw [show ((1 : Int)).toNat = 1 from rfl] at hx170_0)
                       have hn170_0 : ad114.block ≠ gb162 := V_ne_of HO_0.out (fun _ hk => hk.2) (by omega) (by decide)
                       have hn170_1 : ad114.block ≠ gb162 := V_ne_of HO_0.out (fun _ hk => hk.2) (by omega) (by decide)
                       replace hx170_0 := (cell_far (p := ⟨gb162, 0, none⟩) (by first | (rw [add_block]; exact hn170_0) | (show (Addr.add _ _).block ≠ _; rw [add_block]; exact hn170_0) | exact hn170_0) (.int .u8 (rd aLL (ji47)))).trans hx170_0
                       replace hx170_0 := (cell_far (p := ⟨gb162, 1, none⟩) (by first | (rw [add_block]; exact hn170_1) | (show (Addr.add _ _).block ≠ _; rw [add_block]; exact hn170_1) | exact hn170_1) (.int .u8 (rd aHL (ji47)))).trans hx170_0
                       (try have hy170_0 := fun (n_ : Nat) => (show ((((w67.drewN n_).setCell ⟨gb162, 0, none⟩ (.int .u8 (rd aLL (ji47)))).setCell ⟨gb162, 1, none⟩ (.int .u8 (rd aHL (ji47))))).cell? _ = some _ from hx170_0))
                       clear hn170_0
                       clear hn170_1
                       replace p170 := eq_true p170
                       replace q170 := eq_true q170
                       have hcz77_0 : w67.cell? ⟨gb162, 0, none⟩ = some (.int .u8 0) := (blk_cell BK162.out 0).trans rfl
                       have hcz77_1 : w67.cell? ⟨gb162, 1, none⟩ = some (.int .u8 0) := (blk_cell BK162.out 1).trans rfl
                       have hfz77_0 := blk_frozen BK162.out 0
                       have hfz77_1 := blk_frozen BK162.out 1
                       have p171 : 0 ≤ (1 : Int) := (by omega)
                       have q171 : 1 < (x0_1.length : Int) := of_decide_eq_true (by first | (with_reducible assumption) | assumption)
                       obtain ⟨ad171, e171, hx171_0⟩ := Kd.at_int (Kd.V_reads' HO_0.out).2.2 1 p171 q171
                       obtain rfl : ad114 = ad171 := (by injection e171)
                       (try simp only [show (1 : Int).toNat = 1 from rfl, Nat.reduceMul, Nat.reduceEqDiff, Go.Addr.add, ↓reduceIte] at hx171_0)
                       have qi171 : (1 < x0_1.length) = True := eq_true (by omega)
                       (try rw [show ((1 : Int)).toNat = 1 from rfl] at hx171_0)
                       have hn171_0 : ad114.block ≠ gb162 := V_ne_of HO_0.out (fun _ hk => hk.2) (by omega) (by decide)
                       have hn171_1 : ad114.block ≠ gb162 := V_ne_of HO_0.out (fun _ hk => hk.2) (by omega) (by decide)
                       replace hx171_0 := (cell_far (p := ⟨gb162, 0, none⟩) (by first | (rw [add_block]; exact hn171_0) | (show (Addr.add _ _).block ≠ _; rw [add_block]; exact hn171_0) | exact hn171_0) (.int .u8 (rd aLL (ji47)))).trans hx171_0
                       replace hx171_0 := (cell_far (p := ⟨gb162, 1, none⟩) (by first | (rw [add_block]; exact hn171_1) | (show (Addr.add _ _).block ≠ _; rw [add_block]; exact hn171_1) | exact hn171_1) (.int .u8 (rd aHL (ji47)))).trans hx171_0
                       (try have hy171_0 := fun (n_ : Nat) => (show ((((w67.drewN n_).setCell ⟨gb162, 0, none⟩ (.int .u8 (rd aLL (ji47)))).setCell ⟨gb162, 1, none⟩ (.int .u8 (rd aHL (ji47))))).cell? _ = some _ from hx171_0))
                       clear hn171_0
                       clear hn171_1
                       replace p171 := eq_true p171
                       replace q171 := eq_true q171
                       have p172 : 0 ≤ (2 : Int) := (by omega)
                       have q172 : 2 < (x0_1.length : Int) := of_decide_eq_true (by first | (with_reducible assumption) | assumption)
                       obtain ⟨ad172, e172, hx172_0⟩ := Kd.at_int (Kd.V_reads' HO_0.out).2.2 2 p172 q172
                       obtain rfl : ad114 = ad172 := (by injection e172)
                       (try simp only [show (2 : Int).toNat = 2 from rfl, Nat.reduceMul, Nat.reduceEqDiff, Go.Addr.add, ↓reduceIte] at hx172_0)
                       have qi172 : (2 < x0_1.length) = True := eq_true (by omega)
                       (try rw [show ((2 : Int)).toNat = 2 from rfl] at hx172_0)
                       have hn172_0 : ad114.block ≠ gb162 := V_ne_of HO_0.out (fun _ hk => hk.2) (by omega) (by decide)
                       have hn172_1 : ad114.block ≠ gb162 := V_ne_of HO_0.out (fun _ hk => hk.2) (by omega) (by decide)
                       replace hx172_0 := (cell_far (p := ⟨gb162, 0, none⟩) (by first | (rw [add_block]; exact hn172_0) | (show (Addr.add _ _).block ≠ _; rw [add_block]; exact hn172_0) | exact hn172_0) (.int .u8 (rd aLL (ji47)))).trans hx172_0
                       replace hx172_0 := (cell_far (p := ⟨gb162, 1, none⟩) (by first | (rw [add_block]; exact hn172_1) | (show (Addr.add _ _).block ≠ _; rw [add_block]; exact hn172_1) | exact hn172_1) (.int .u8 (rd aHL (ji47)))).trans hx172_0
                       (try have hy172_0 := fun (n_ : Nat) => (show ((((w67.drewN n_).setCell ⟨gb162, 0, none⟩ (.int .u8 (rd aLL (ji47)))).setCell ⟨gb162, 1, none⟩ (.int .u8 (rd aHL (ji47))))).cell? _ = some _ from hx172_0))
                       clear hn172_0
                       clear hn172_1
                       replace p172 := eq_true p172
                       replace q172 := eq_true q172
                       go_wp2
                       repeat (go_quiet (fail); try go_wp2)
                       go_meet
                       case rel => exact ⟨_, (true), (by first | rfl | (simp; done) | (simp [*]; done)), H', ⟨by have := HK1.out; first | omega | exact Nat.le_refl _⟩, ⟨by (with_reducible repeat (first | apply Kd.V_alloc | apply Kd.V_drewN | apply Kd.V_drew)); exact Kd.V_mono (Kd.V_far (p := ⟨gb162, 1, none⟩) (Kd.V_far (p := ⟨gb162, 0, none⟩) (Kd.V_mono HO_0.out (fun k_ hk => (⟨hk, hk.2⟩ : _ ∧ k_ ≠ gb162))) (fun _ hk => hk.2) (.int .u8 (rd aLL (ji47)))) (fun _ hk => hk.2) (.int .u8 (rd aHL (ji47)))) (fun _ hk => ⟨hk.1.1, hk.1.2⟩)⟩, ⟨by (with_reducible repeat (first | refine blk_drewN ?_ _ | refine blk_drew ?_ | refine blk_alloc ?_ _)); refine blk_put (cs := #[.int .u8 (rd aLL (ji47)), .int .u8 0]) ?_ 1 _ rfl; (with_reducible repeat (first | refine blk_drewN ?_ _ | refine blk_drew ?_ | refine blk_alloc ?_ _)); refine blk_put (cs := #[.int .u8 0, .int .u8 0]) ?_ 0 _ rfl; (with_reducible repeat (first | refine blk_drewN ?_ _ | refine blk_drew ?_ | refine blk_alloc ?_ _)); exact BK162.out⟩, ⟨by repeat (first | (with_reducible first | exact HB.out | apply below_alloc | apply pw_below_drewN | apply below_drew1 | refine below_set ?_ GE162.out) | exact HB.out)⟩⟩
                      ·rw [if_neg c76] at H
                       have c76b0 : decide ((rd x0_1 2) < 128) = false := decide_eq_false c76
                       clear c76
                       have H' := Aside0.mk H
                       clear H
                       have p170 : 0 ≤ (1 : Int) := (by omega)
                       have q170 : 1 < (x0_1.length : Int) := of_decide_eq_true (by first | (with_reducible assumption) | assumption)
                       obtain ⟨ad170, e170, hx170_0⟩ := Kd.at_int (Kd.V_reads' HO_0.out).2.2 1 p170 q170
                       obtain rfl : ad114 = ad170 := (by injection e170)
                       (try simp only [show (1 : Int).toNat = 1 from rfl, Nat.reduceMul, Nat.reduceEqDiff, Go.Addr.add, ↓reduceIte] at hx170_0)
                       have qi170 : (1 < x0_1.length) = True := eq_true (by omega)
                       (try rw [show ((1 : Int)).toNat = 1 from rfl] at hx170_0)
                       have hn170_0 : ad114.block ≠ gb162 := V_ne_of HO_0.out (fun _ hk => hk.2) (by omega) (by decide)
                       have hn170_1 : ad114.block ≠ gb162 := V_ne_of HO_0.out (fun _ hk => hk.2) (by omega) (by decide)
                       replace hx170_0 := (cell_far (p := ⟨gb162, 0, none⟩) (by first | (rw [add_block]; exact hn170_0) | (show (Addr.add _ _).block ≠ _; rw [add_block]; exact hn170_0) | exact hn170_0) (.int .u8 (rd aLL (ji47)))).trans hx170_0
                       replace hx170_0 := (cell_far (p := ⟨gb162, 1, none⟩) (by first | (rw [add_block]; exact hn170_1) | (show (Addr.add _ _).block ≠ _; rw [add_block]; exact hn170_1) | exact hn170_1) (.int .u8 (rd aHL (ji47)))).trans hx170_0
                       (try have hy170_0 := fun (n_ : Nat) => (show ((((w67.drewN n_).setCell ⟨gb162, 0, none⟩ (.int .u8 (rd aLL (ji47)))).setCell ⟨gb162, 1, none⟩ (.int .u8 (rd aHL (ji47))))).cell? _ = some _ from hx170_0))
                       clear hn170_0
                       clear hn170_1
                       replace p170 := eq_true p170
                       replace q170 := eq_true q170
                       have hcz78_0 : w67.cell? ⟨gb162, 0, none⟩ = some (.int .u8 0) := (blk_cell BK162.out 0).trans rfl
                       have hcz78_1 : w67.cell? ⟨gb162, 1, none⟩ = some (.int .u8 0) := (blk_cell BK162.out 1).trans rfl
                       have hfz78_0 := blk_frozen BK162.out 0
                       have hfz78_1 := blk_frozen BK162.out 1
                       have p171 : 0 ≤ (1 : Int) := (by omega)
                       have q171 : 1 < (x0_1.length : Int) := of_decide_eq_true (by first | (with_reducible assumption) | assumption)
                       obtain ⟨ad171, e171, hx171_0⟩ := Kd.at_int (Kd.V_reads' HO_0.out).2.2 1 p171 q171
                       obtain rfl : ad114 = ad171 := (by injection e171)
                       (try simp only [show (1 : Int).toNat = 1 from rfl, Nat.reduceMul, Nat.reduceEqDiff, Go.Addr.add, ↓reduceIte] at hx171_0)
                       have qi171 : (1 < x0_1.length) = True := eq_true (by omega)
                       (try rw [show ((1 : Int)).toNat = 1 from rfl] at hx171_0)
                       have hn171_0 : ad114.block ≠ gb162 := V_ne_of HO_0.out (fun _ hk => hk.2) (by omega) (by decide)
                       have hn171_1 : ad114.block ≠ gb162 := V_ne_of HO_0.out (fun _ hk => hk.2) (by omega) (by decide)
                       replace hx171_0 := (cell_far (p := ⟨gb162, 0, none⟩) (by first | (rw [add_block]; exact hn171_0) | (show (Addr.add _ _).block ≠ _; rw [add_block]; exact hn171_0) | exact hn171_0) (.int .u8 (rd aLL (ji47)))).trans hx171_0
                       replace hx171_0 := (cell_far (p := ⟨gb162, 1, none⟩) (by first | (rw [add_block]; exact hn171_1) | (show (Addr.add _ _).block ≠ _; rw [add_block]; exact hn171_1) | exact hn171_1) (.int .u8 (rd aHL (ji47)))).trans hx171_0
                       (try have hy171_0 := fun (n_ : Nat) => (show ((((w67.drewN n_).setCell ⟨gb162, 0, none⟩ (.int .u8 (rd aLL (ji47)))).setCell ⟨gb162, 1, none⟩ (.int .u8 (rd aHL (ji47))))).cell? _ = some _ from hx171_0))
                       clear hn171_0
                       clear hn171_1
                       replace p171 := eq_true p171
                       replace q171 := eq_true q171
                       have p172 : 0 ≤ (2 : Int) := (by omega)
                       have q172 : 2 < (x0_1.length : Int) := of_decide_eq_true (by first | (with_reducible assumption) | assumption)
                       obtain ⟨ad172, e172, hx172_0⟩ := Kd.at_int (Kd.V_reads' HO_0.out).2.2 2 p172 q172
                       obtain rfl : ad114 = ad172 := (by injection e172)
                       (try simp only [show (2 : Int).toNat = 2 from rfl, Nat.reduceMul, Nat.reduceEqDiff, Go.Addr.add, ↓reduceIte] at hx172_0)
                       have qi172 : (2 < x0_1.length) = True := eq_true (by omega)
                       (try rw [show ((2 : Int)).toNat = 2 from rfl] at hx172_0)
                       have hn172_0 : ad114.block ≠ gb162 := V_ne_of HO_0.out (fun _ hk => hk.2) (by omega) (by decide)
                       have hn172_1 : ad114.block ≠ gb162 := V_ne_of HO_0.out (fun _ hk => hk.2) (by omega) (by decide)
                       replace hx172_0 := (cell_far (p := ⟨gb162, 0, none⟩) (by first | (rw [add_block]; exact hn172_0) | (show (Addr.add _ _).block ≠ _; rw [add_block]; exact hn172_0) | exact hn172_0) (.int .u8 (rd aLL (ji47)))).trans hx172_0
                       replace hx172_0 := (cell_far (p := ⟨gb162, 1, none⟩) (by first | (rw [add_block]; exact hn172_1) | (show (Addr.add _ _).block ≠ _; rw [add_block]; exact hn172_1) | exact hn172_1) (.int .u8 (rd aHL (ji47)))).trans hx172_0
                       (try have hy172_0 := fun (n_ : Nat) => (show ((((w67.drewN n_).setCell ⟨gb162, 0, none⟩ (.int .u8 (rd aLL (ji47)))).setCell ⟨gb162, 1, none⟩ (.int .u8 (rd aHL (ji47))))).cell? _ = some _ from hx172_0))
                       clear hn172_0
                       clear hn172_1
                       replace p172 := eq_true p172
                       replace q172 := eq_true q172
                       have p173 : 0 ≤ (2 : Int) := (by omega)
                       have q173 : 2 < (x0_1.length : Int) := of_decide_eq_true (by first | (with_reducible assumption) | assumption)
                       obtain ⟨ad173, e173, hx173_0⟩ := Kd.at_int (Kd.V_reads' HO_0.out).2.2 2 p173 q173
                       obtain rfl : ad114 = ad173 := (by injection e173)
                       (try simp only [show (2 : Int).toNat = 2 from rfl, Nat.reduceMul, Nat.reduceEqDiff, Go.Addr.add, ↓reduceIte] at hx173_0)
                       have qi173 : (2 < x0_1.length) = True := eq_true (by omega)
                       (try rw [show ((2 : Int)).toNat = 2 from rfl] at hx173_0)
                       have hn173_0 : ad114.block ≠ gb162 := V_ne_of HO_0.out (fun _ hk => hk.2) (by omega) (by decide)
                       have hn173_1 : ad114.block ≠ gb162 := V_ne_of HO_0.out (fun _ hk => hk.2) (by omega) (by decide)
                       replace hx173_0 := (cell_far (p := ⟨gb162, 0, none⟩) (by first | (rw [add_block]; exact hn173_0) | (show (Addr.add _ _).block ≠ _; rw [add_block]; exact hn173_0) | exact hn173_0) (.int .u8 (rd aLL (ji47)))).trans hx173_0
                       replace hx173_0 := (cell_far (p := ⟨gb162, 1, none⟩) (by first | (rw [add_block]; exact hn173_1) | (show (Addr.add _ _).block ≠ _; rw [add_block]; exact hn173_1) | exact hn173_1) (.int .u8 (rd aHL (ji47)))).trans hx173_0
                       (try have hy173_0 := fun (n_ : Nat) => (show ((((w67.drewN n_).setCell ⟨gb162, 0, none⟩ (.int .u8 (rd aLL (ji47)))).setCell ⟨gb162, 1, none⟩ (.int .u8 (rd aHL (ji47))))).cell? _ = some _ from hx173_0))
                       clear hn173_0
                       clear hn173_1
                       replace p173 := eq_true p173
                       replace q173 := eq_true q173
                       go_wp2
                       repeat (go_quiet (fail); try go_wp2)
                       go_meet
                       case rel => exact ⟨_, (decide (191 < (rd x0_1 2))), (by first | rfl | (simp; done) | (simp [*]; done)), H', ⟨by have := HK1.out; first | omega | exact Nat.le_refl _⟩, ⟨by (with_reducible repeat (first | apply Kd.V_alloc | apply Kd.V_drewN | apply Kd.V_drew)); exact Kd.V_mono (Kd.V_far (p := ⟨gb162, 1, none⟩) (Kd.V_far (p := ⟨gb162, 0, none⟩) (Kd.V_mono HO_0.out (fun k_ hk => (⟨hk, hk.2⟩ : _ ∧ k_ ≠ gb162))) (fun _ hk => hk.2) (.int .u8 (rd aLL (ji47)))) (fun _ hk => hk.2) (.int .u8 (rd aHL (ji47)))) (fun _ hk => ⟨hk.1.1, hk.1.2⟩)⟩, ⟨by (with_reducible repeat (first | refine blk_drewN ?_ _ | refine blk_drew ?_ | refine blk_alloc ?_ _)); refine blk_put (cs := #[.int .u8 (rd aLL (ji47)), .int .u8 0]) ?_ 1 _ rfl; (with_reducible repeat (first | refine blk_drewN ?_ _ | refine blk_drew ?_ | refine blk_alloc ?_ _)); refine blk_put (cs := #[.int .u8 0, .int .u8 0]) ?_ 0 _ rfl; (with_reducible repeat (first | refine blk_drewN ?_ _ | refine blk_drew ?_ | refine blk_alloc ?_ _)); exact BK162.out⟩, ⟨by repeat (first | (with_reducible first | exact HB.out | apply below_alloc | apply pw_below_drewN | apply below_drew1 | refine below_set ?_ GE162.out) | exact HB.out)⟩⟩
                     ·rw [if_neg c75] at H
                      exact absurd H (by simp)
                  ·rw [if_neg c70] at H
                   exact absurd H (by simp)
               case rest =>
                as_aux_lemma =>
                 clear HC65
                 try clear c1
                 try clear p1
                 try clear q1
                 try clear hx1
                 try clear qi1
                 try clear c2
                 try clear c2b0
                 try clear c2b1
                 try clear p2
                 try clear q2
                 try clear c3
                 try clear c3b0
                 try clear c3b1
                 try clear q3
                 try clear c4
                 try clear p4
                 try clear q4
                 try clear hx4
                 try clear c5
                 try clear c5b0
                 try clear c5b1
                 try clear p5
                 try clear q5
                 try clear hx5
                 try clear c6
                 try clear c6b0
                 try clear c6b1
                 try clear p6
                 try clear q6
                 try clear c7
                 try clear c7b0
                 try clear c8
                 try clear c8b0
                 try clear c8b1
                 try clear c11
                 try clear p11
                 try clear q11
                 try clear hx11
                 try clear qi11
                 try clear c12
                 try clear c12b0
                 try clear c12b1
                 try clear c14
                 try clear c15
                 try clear c15b0
                 try clear c15b1
                 try clear p16
                 try clear q16
                 try clear hx16
                 try clear qi16
                 try clear c17
                 try clear p17
                 try clear q17
                 try clear hx17
                 try clear qi17
                 try clear c18
                 try clear c18b0
                 try clear c18b1
                 try clear c20
                 try clear c20b0
                 try clear c20b1
                 try clear c22
                 try clear q22
                 try clear c23
                 try clear c24
                 try clear c24b0
                 try clear c24b1
                 try clear c25
                 try clear q25
                 try clear c27
                 try clear c27b0
                 try clear c27b1
                 try clear c29
                 try clear c29b0
                 try clear c29b1
                 try clear c30
                 try clear c31
                 try clear c31b0
                 try clear c31b1
                 try clear c33
                 try clear c33b0
                 try clear c33b1
                 try clear c36
                 try clear q36
                 try clear c37
                 try clear q37
                 try clear c38
                 try clear q38
                 try clear c40
                 try clear c41
                 try clear c41b0
                 try clear c41b1
                 try clear c42
                 try clear q42
                 try clear c44
                 try clear c44b0
                 try clear c45
                 try clear c45b0
                 try clear p46
                 try clear q46
                 try clear hx46
                 try clear c48
                 try clear c48b0
                 try clear c49
                 try clear c49b0
                 try clear p50
                 try clear q50
                 try clear hx50
                 try clear c51
                 try clear c51b0
                 try clear c51b1
                 try clear c56
                 try clear c56b0
                 try clear c56b1
                 try clear c57
                 try clear c57b0
                 try clear c57b1
                 try clear c58
                 try clear c58b0
                 try clear c61
                 try clear c62
                 try clear c62b0
                 try clear c62b1
                 try clear c63
                 try clear q63
                 try clear c64
                 try clear c64b0
                 try clear c64b1
                 try clear p64
                 try clear c69
                 try clear c69b0
                 try clear c69b1
                 try clear c70
                 try clear c70b0
                 try clear c70b1
                 try clear c71
                 try clear c71b0
                 try clear c73
                 try clear c73b0
                 try clear c75
                 try clear c75b0
                 try clear c75b1
                 try clear c76
                 try clear c76b0
                 try clear hcz55_0
                 try clear hcz55_1
                 try clear hcz59_0
                 try clear hcz59_1
                 try clear hcz60_0
                 try clear hcz60_1
                 try clear hcz68_0
                 try clear hcz68_1
                 try clear hcz72_0
                 try clear hcz72_1
                 try clear hcz74_0
                 try clear hcz74_1
                 try clear hcz77_0
                 try clear hcz77_1
                 try clear hcz78_0
                 try clear hcz78_1
                 try clear hfz55_0
                 try clear hfz55_1
                 try clear hfz59_0
                 try clear hfz59_1
                 try clear hfz60_0
                 try clear hfz60_1
                 try clear hfz68_0
                 try clear hfz68_1
                 try clear hfz72_0
                 try clear hfz72_1
                 try clear hfz74_0
                 try clear hfz74_1
                 try clear hfz77_0
                 try clear hfz77_1
                 try clear hfz78_0
                 try clear hfz78_1
                 try clear hx114_0
                 try clear hx163_0
                 try clear hx164_0
                 try clear hx170_0
                 try clear hx171_0
                 try clear hx172_0
                 try clear hx173_0
                 try clear hx46_0
                 try clear hx50_0
                 try clear hx50_1
                 try clear p1
                 try clear p11
                 try clear p114
                 try clear p16
                 try clear p163
                 try clear p164
                 try clear p170
                 try clear p171
                 try clear p172
                 try clear p173
                 try clear p2
                 try clear p4
                 try clear p46
                 try clear p5
                 try clear p50
                 try clear p6
                 try clear q1
                 try clear q11
                 try clear q114
                 try clear q16
                 try clear q163
                 try clear q164
                 try clear q17
                 try clear q170
                 try clear q171
                 try clear q172
                 try clear q173
                 try clear q2
                 try clear q22
                 try clear q25
                 try clear q3
                 try clear q36
                 try clear q37
                 try clear q38
                 try clear q4
                 try clear q42
                 try clear q46
                 try clear q5
                 try clear q50
                 try clear q63
                 obtain ⟨kq, x138_64, rfl, HA, HJ64, HO_0, BK162, HB⟩ := hcut
                 cases kq with
                 | zero => exact absurd HA.out (by simp [utf8_Valid.j6])
                 | succ kj64 =>
                  have H := HA.out
                  clear HA
                  simp only [utf8_Valid.j6] at H
                  by_cases c79 : x138_64 = true
                  ·subst c79
                   have H1 : (some false) = some r := by rw [if_pos rfl] at H; exact H
                   clear H
                   have H := H1
                   clear H1
                   obtain rfl := Option.some.inj H
                   go_wp2
                   repeat (go_quiet (fail); try go_wp2)
                   go_ret
                   exact ⟨by first | rfl | (simp [errW_none, errW_some] <;> rfl) | (simp only [← hji47]; first | rfl | (simp [errW_none, errW_some] <;> rfl)) | (simp [*, errW_none, errW_some] <;> rfl), by repeat (first | (with_reducible first | exact HB.out | apply below_alloc | apply pw_below_drewN | apply below_drew1 | refine below_set ?_ GE162.out) | exact HB.out)⟩
                  ·replace c79 := Bool.eq_false_iff.mpr c79
                   subst c79
                   have H1 : (if 3 ≤ (x0_1.length : Int) then (utf8_Valid.l0 kj64 (x0_1.drop 3)) else (none)) = some r := by rw [if_neg (show ¬ (false = true) by decide)] at H; exact H
                   clear H
                   have H := H1
                   clear H1
                   by_cases c80 : 3 ≤ (x0_1.length : Int)
                   ·rw [if_pos c80] at H
                    have c80b0 := eq_true c80
                    have c80b1 : decide (3 ≤ (x0_1.length : Int)) = true := decide_eq_true c80
                    clear c80
                    obtain ⟨y174, hy174⟩ : ∃ y_ : List Int, y_ = (x0_1.drop 3) := ⟨_, rfl⟩
                    replace H : (utf8_Valid.l0 kj64 y174) = some r := by first | (rw [hy174]; with_reducible exact H) | (have H2_ := (Option.bind_some _ _).symm.trans H; rw [hy174]; with_reducible exact H2_) | (have H2_ := (Option.bind_some _ _).symm.trans H; with_reducible exact H2_) | with_reducible exact H | (rw [hy174]; exact H) | exact H
                    have Ny174 := Aside0.mk hy174
                    clear hy174
                    have H' := Aside0.mk H
                    clear H
                    have q81 : (3 : Int) ≤ ((x0_1.length : Int) : Int) := of_decide_eq_true (by first | (with_reducible assumption) | assumption)
                    obtain ⟨i081, hi081, _, hsz81, _⟩ := info_parts info5
                    have hroom81 : x0_1.length ≤ co66 := (Kd.V_reads' HO_0.out).2.1
                    have hC81 : Kd.F (Kd.int .u8) _ _ (some ad114) x0_1.length x0_1 := (Kd.V_at (base := w.heap.size) HO_0.out).2.2
                    have hcut81 := cut_from (P := Tryd.prog) 22 5 .i64 Tryd.underlying22 hi081 1 hsz81 (some ad114) x0_1.length co66 3 (by omega) q81
                    have hr81 := Kd.F_cut (m := (3 : Int).toNat) (c := co66) hC81 (by omega) hroom81
                    obtain ⟨A81, hA81⟩ : ∃ A1, A1 = (if co66 = (3 : Int).toNat then (some ad114) else ((some ad114) : Option Addr).map (·.add ((3 : Int).toNat * 1))) := ⟨_, rfl⟩
                    obtain ⟨c81, hc81⟩ : ∃ c1, c1 = co66 - (3 : Int).toNat := ⟨_, rfl⟩
                    have hy81 : y174.length = x0_1.length - (3 : Int).toNat := (by rw [Ny174.out, List.length_drop] <;> omega)
                    rw [show (x0_1).drop (3 : Int).toNat = y174 from Ny174.out.symm] at hr81
                    replace hr81 : Kd.F (Kd.int .u8) _ _ A81 y174.length y174 := (by rw [hA81]; exact hr81)
                    rw [← hy81, ← hA81, ← hc81] at hcut81
                    have HO178 := Aside0.mk (show Kd.V (Kd.int .u8) 5 _ w.heap.size _ (.slice A81 y174.length c81) y174 from Kd.V_mk (by rw [hy81, hc81]; exact Nat.sub_le_sub_right hroom81 _) hr81)
                    have HC178 := Aside0.mk (show y174.length ≤ c81 from by rw [hy81, hc81]; exact Nat.sub_le_sub_right hroom81 _)
                    clear hr81 hC81 hroom81 hi081 hsz81 hc81
                    have KY81 := Aside0.mk hy81
                    have KA81 := Aside0.mk hA81
                    clear hy81 hA81
                    replace q81 := eq_true q81
                    go_wp2
                    repeat (go_quiet (fail); try go_wp2)
                    go_roundg kj64
                    case measure => have := HK1.out; have := HJ64.out; omega
                    case rel => exact ⟨(y174), H', ⟨by have := HK1.out; have := HJ64.out; omega⟩, ⟨by (with_reducible repeat (first | apply Kd.V_alloc | apply Kd.V_drewN | apply Kd.V_drew)); exact Kd.V_mono HO178.out (fun _ hk => hk.1)⟩, ⟨by repeat (first | (with_reducible first | exact HB.out | apply below_alloc | apply pw_below_drewN | apply below_drew1 | refine below_set ?_ GE162.out) | exact HB.out)⟩⟩
                   ·rw [if_neg c80] at H
                    exact absurd H (by simp)
              ·rw [if_neg c64] at H
               have c64b0 : ((wrap64 (Go.bits .and .u8 (rd uFL (rd x0_1 0)) 7)) == 3) = false := beq_eq_false_iff_ne.mpr c64
               have c64b1 : ((wrap64 (Go.bits .and .u8 (rd uFL (rd x0_1 0)) 7)) != 3) = true := bne_iff_ne.mpr c64
               by_cases c82 : (wrap64 (Go.bits .and .u8 (rd uFL (rd x0_1 0)) 7)) = 4
               ·rw [if_pos c82] at H
                have c82b0 : ((wrap64 (Go.bits .and .u8 (rd uFL (rd x0_1 0)) 7)) == 4) = true := beq_iff_eq.mpr c82
                have c82b1 : ((wrap64 (Go.bits .and .u8 (rd uFL (rd x0_1 0)) 7)) != 4) = false := bne_eq_false_iff_eq.mpr c82
                clear c82
                have HC83 := Aside0.mk H
                clear H
                obtain ⟨Ao84, co84, eo84⟩ := Kd.V_slice HO_0.out
                subst eo84
                have p114 : 0 ≤ (0 : Int) := (by omega)
                have q114 : 0 < (x0_1.length : Int) := of_decide_eq_true (by first | (with_reducible assumption) | assumption)
                obtain ⟨ad114, e114, hx114_0⟩ := Kd.at_int (Kd.V_reads' HO_0.out).2.2 0 p114 q114
                cases e114
                have qi114 : (0 < x0_1.length) = True := eq_true (by omega)
                (try rw [show ((0 : Int)).toNat = 0 from rfl] at hx114_0)
                (try rw [Addr.add_zero'] at hx114_0)
                replace p114 := eq_true p114
                replace q114 := eq_true q114
                have p46 : 0 ≤ ((rd x0_1 0) : Int) := of_decide_eq_true (by first | (with_reducible assumption) | assumption)
                have q46 : ((rd x0_1 0) : Int) < 256 := of_decide_eq_true (by first | (with_reducible assumption) | assumption)
                have hx46_0 := HT.out.uF (rd x0_1 0) p46 q46
                (try replace hx46_0 := (HB.out.cell (World.block_lt_of_cell? _ _ hx46_0)).trans hx46_0)
                replace p46 := eq_true p46
                replace q46 := eq_true q46
                have p50 : 0 ≤ ((ji47) : Int) := of_decide_eq_true (by first | (with_reducible assumption) | assumption)
                have q50 : ((ji47) : Int) < 16 := of_decide_eq_true (by first | (with_reducible assumption) | assumption)
                have hx50_0 := HT.out.aL (ji47) p50 q50
                (try replace hx50_0 := (HB.out.cell (World.block_lt_of_cell? _ _ hx50_0)).trans hx50_0)
                have hx50_1 := HT.out.aH (ji47) p50 q50
                (try replace hx50_1 := (HB.out.cell (World.block_lt_of_cell? _ _ hx50_1)).trans hx50_1)
                replace p50 := eq_true p50
                replace q50 := eq_true q50
                go_upto_region 26 with (first | ((with_reducible refine gate_dst (N := 6) rfl ?_); refine box_event ?hg (N := 6) ?hd (cs := #[.int .u8 0, .int .u8 0]) (t := 59) ?hr ?_; (case hd => rfl); (case hg => rfl); (case hr => first | (go_simp; done) | (go_simp; rfl)); intro gb162 hg w85 hbox hb; have n0_ := Aside0.mk (Kd.V_below (Kd.V_elderB (by (with_reducible repeat (first | apply Kd.V_alloc | apply Kd.V_drewN | apply Kd.V_drew)); exact HO_0.out) gb162 (Nat.le_of_eq hg.symm)) hb); have n1_ := Aside0.mk (below_step (by repeat (first | (with_reducible first | exact HB.out | apply below_alloc | apply pw_below_drewN | apply below_drew1) | exact HB.out)) hb); have n2_ := Aside0.mk (hbox); have n3_ := Aside0.mk ((by rw [hg]; exact (below_size (by repeat (first | (with_reducible first | exact HB.out | apply below_alloc | apply pw_below_drewN | apply below_drew1) | exact HB.out))) : w.heap.size ≤ gb162)); have n4_ := Aside0.mk ((by rw [hg]; exact (below_size (by repeat (first | (with_reducible first | exact HB.out | apply below_alloc | apply pw_below_drewN | apply below_drew1) | exact HB.out))) : w.heap.size ≤ gb162)); clear HO_0; clear HB; have HO_0 := n0_; have HB := n1_; have BK162 := n2_; have GW162 := n3_; have GE162 := n4_; clear n0_ n1_ n2_ n3_ n4_; clear hb hbox hg; have hcz86_0 : w85.cell? ⟨gb162, 0, none⟩ = some (.int .u8 0) := (blk_cell BK162.out 0).trans rfl; have hcz86_1 : w85.cell? ⟨gb162, 1, none⟩ = some (.int .u8 0) := (blk_cell BK162.out 1).trans rfl; have hfz86_0 := blk_frozen BK162.out 0; have hfz86_1 := blk_frozen BK162.out 1))
                repeat (go_quiet (first | ((with_reducible refine gate_dst (N := 6) rfl ?_); refine box_event ?hg (N := 6) ?hd (cs := #[.int .u8 0, .int .u8 0]) (t := 59) ?hr ?_; (case hd => rfl); (case hg => rfl); (case hr => first | (go_simp; done) | (go_simp; rfl)); intro gb162 hg w85 hbox hb; have n0_ := Aside0.mk (Kd.V_below (Kd.V_elderB (by (with_reducible repeat (first | apply Kd.V_alloc | apply Kd.V_drewN | apply Kd.V_drew)); exact HO_0.out) gb162 (Nat.le_of_eq hg.symm)) hb); have n1_ := Aside0.mk (below_step (by repeat (first | (with_reducible first | exact HB.out | apply below_alloc | apply pw_below_drewN | apply below_drew1) | exact HB.out)) hb); have n2_ := Aside0.mk (hbox); have n3_ := Aside0.mk ((by rw [hg]; exact (below_size (by repeat (first | (with_reducible first | exact HB.out | apply below_alloc | apply pw_below_drewN | apply below_drew1) | exact HB.out))) : w.heap.size ≤ gb162)); have n4_ := Aside0.mk ((by rw [hg]; exact (below_size (by repeat (first | (with_reducible first | exact HB.out | apply below_alloc | apply pw_below_drewN | apply below_drew1) | exact HB.out))) : w.heap.size ≤ gb162)); clear HO_0; clear HB; have HO_0 := n0_; have HB := n1_; have BK162 := n2_; have GW162 := n3_; have GE162 := n4_; clear n0_ n1_ n2_ n3_ n4_; clear hb hbox hg; have hcz86_0 : w85.cell? ⟨gb162, 0, none⟩ = some (.int .u8 0) := (blk_cell BK162.out 0).trans rfl; have hcz86_1 : w85.cell? ⟨gb162, 1, none⟩ = some (.int .u8 0) := (blk_cell BK162.out 1).trans rfl; have hfz86_0 := blk_frozen BK162.out 0; have hfz86_1 := blk_frozen BK162.out 1)); go_upto_region 26 with (first | ((with_reducible refine gate_dst (N := 6) rfl ?_); refine box_event ?hg (N := 6) ?hd (cs := #[.int .u8 0, .int .u8 0]) (t := 59) ?hr ?_; (case hd => rfl); (case hg => rfl); (case hr => first | (go_simp; done) | (go_simp; rfl)); intro gb162 hg w85 hbox hb; have n0_ := Aside0.mk (Kd.V_below (Kd.V_elderB (by (with_reducible repeat (first | apply Kd.V_alloc | apply Kd.V_drewN | apply Kd.V_drew)); exact HO_0.out) gb162 (Nat.le_of_eq hg.symm)) hb); have n1_ := Aside0.mk (below_step (by repeat (first | (with_reducible first | exact HB.out | apply below_alloc | apply pw_below_drewN | apply below_drew1) | exact HB.out)) hb); have n2_ := Aside0.mk (hbox); have n3_ := Aside0.mk ((by rw [hg]; exact (below_size (by repeat (first | (with_reducible first | exact HB.out | apply below_alloc | apply pw_below_drewN | apply below_drew1) | exact HB.out))) : w.heap.size ≤ gb162)); have n4_ := Aside0.mk ((by rw [hg]; exact (below_size (by repeat (first | (with_reducible first | exact HB.out | apply below_alloc | apply pw_below_drewN | apply below_drew1) | exact HB.out))) : w.heap.size ≤ gb162)); clear HO_0; clear HB; have HO_0 := n0_; have HB := n1_; have BK162 := n2_; have GW162 := n3_; have GE162 := n4_; clear n0_ n1_ n2_ n3_ n4_; clear hb hbox hg; have hcz86_0 : w85.cell? ⟨gb162, 0, none⟩ = some (.int .u8 0) := (blk_cell BK162.out 0).trans rfl; have hcz86_1 : w85.cell? ⟨gb162, 1, none⟩ = some (.int .u8 0) := (blk_cell BK162.out 1).trans rfl; have hfz86_0 := blk_frozen BK162.out 0; have hfz86_1 := blk_frozen BK162.out 1)))
                (try simp only [Act.put, List.setIfInBounds_toArray, List.set_cons_zero, List.set_cons_succ])
                go_cut [185] (fun v185 wc => ∃ (kq : Nat) (x185_82 : Bool), v185 = .bool x185_82 ∧ Aside0 (utf8_Valid.j7 kq x0_1 x185_82 = some r) ∧ Aside0 (kq ≤ k1) ∧ Aside0 (Kd.V (Kd.int .u8) 5 wc w.heap.size (fun k_ => (P0_ k_ ∨ w.heap.size ≤ k_) ∧ k_ ≠ gb162) (.slice (some ad114) x0_1.length co84) x0_1) ∧ Aside0 (wc.heap[gb162]? = some (.cells #[.int .u8 (rd aLL (ji47)), .int .u8 (rd aHL (ji47))] 59 (0, 0))) ∧ Aside0 (Below w.heap.size w wc))
                case first =>
                 as_aux_lemma =>
                  have H := HC83.out
                  clear HC83
                  by_cases c87 : (x0_1.length : Int) < 4
                  ·rw [if_pos c87] at H
                   have c87b0 : decide ((x0_1.length : Int) < 4) = true := decide_eq_true c87
                   have c87b1 : decide (x0_1.length < 4) = true := decide_eq_true (by omega)
                   clear c87
                   (first | rw [c87b0] | (simp only [i64_w, i32_w]; rw [c87b0]) | skip)
                   have H' := Aside0.mk H
                   clear H
                   go_wp2
                   repeat (go_quiet (fail); try go_wp2)
                   go_meet
                   case rel => exact ⟨_, (true), (by first | rfl | (simp; done) | (simp [*]; done)), H', ⟨by have := HK1.out; first | omega | exact Nat.le_refl _⟩, ⟨by (with_reducible repeat (first | apply Kd.V_alloc | apply Kd.V_drewN | apply Kd.V_drew)); exact Kd.V_mono (Kd.V_far (p := ⟨gb162, 1, none⟩) (Kd.V_far (p := ⟨gb162, 0, none⟩) (Kd.V_mono HO_0.out (fun k_ hk => (⟨hk, hk.2⟩ : _ ∧ k_ ≠ gb162))) (fun _ hk => hk.2) (.int .u8 (rd aLL (ji47)))) (fun _ hk => hk.2) (.int .u8 (rd aHL (ji47)))) (fun _ hk => ⟨hk.1.1, hk.1.2⟩)⟩, ⟨by (with_reducible repeat (first | refine blk_drewN ?_ _ | refine blk_drew ?_ | refine blk_alloc ?_ _)); refine blk_put (cs := #[.int .u8 (rd aLL (ji47)), .int .u8 0]) ?_ 1 _ rfl; (with_reducible repeat (first | refine blk_drewN ?_ _ | refine blk_drew ?_ | refine blk_alloc ?_ _)); refine blk_put (cs := #[.int .u8 0, .int .u8 0]) ?_ 0 _ rfl; (with_reducible repeat (first | refine blk_drewN ?_ _ | refine blk_drew ?_ | refine blk_alloc ?_ _)); exact BK162.out⟩, ⟨by repeat (first | (with_reducible first | exact HB.out | apply below_alloc | apply pw_below_drewN | apply below_drew1 | refine below_set ?_ GE162.out) | exact HB.out)⟩⟩
                  ·rw [if_neg c87] at H
                   have c87b0 : decide ((x0_1.length : Int) < 4) = false := decide_eq_false c87
                   have c87b1 : decide (x0_1.length < 4) = false := decide_eq_false (by omega)
                   clear c87
                   (first | rw [c87b0] | (simp only [i64_w, i32_w]; rw [c87b0]) | skip)
                   by_cases c88 : 1 < (x0_1.length : Int)
                   ·rw [if_pos c88] at H
                    have c88b0 : decide (1 < (x0_1.length : Int)) = true := decide_eq_true c88
                    have c88b1 : decide (1 < x0_1.length) = true := decide_eq_true (by omega)
                    clear c88
                    by_cases c89 : (rd x0_1 1) < (rd aLL (ji47))
                    ·rw [if_pos c89] at H
                     have c89b0 : decide ((rd x0_1 1) < (rd aLL (ji47))) = true := decide_eq_true c89
                     clear c89
                     have H' := Aside0.mk H
                     clear H
                     have p179 : 0 ≤ (1 : Int) := (by omega)
                     have q179 : 1 < (x0_1.length : Int) := of_decide_eq_true (by first | (with_reducible assumption) | assumption)
                     obtain ⟨ad179, e179, hx179_0⟩ := Kd.at_int (Kd.V_reads' HO_0.out).2.2 1 p179 q179
                     obtain rfl : ad114 = ad179 := (by injection e179)
                     (try simp only [show (1 : Int).toNat = 1 from rfl, Nat.reduceMul, Nat.reduceEqDiff, Go.Addr.add, ↓reduceIte] at hx179_0)
                     have qi179 : (1 < x0_1.length) = True := eq_true (by omega)
                     (try rw [show ((1 : Int)).toNat = 1 from rfl] at hx179_0)
                     have hn179_0 : ad114.block ≠ gb162 := V_ne_of HO_0.out (fun _ hk => hk.2) (by omega) (by decide)
                     have hn179_1 : ad114.block ≠ gb162 := V_ne_of HO_0.out (fun _ hk => hk.2) (by omega) (by decide)
                     replace hx179_0 := (cell_far (p := ⟨gb162, 0, none⟩) (by first | (rw [add_block]; exact hn179_0) | (show (Addr.add _ _).block ≠ _; rw [add_block]; exact hn179_0) | exact hn179_0) (.int .u8 (rd aLL (ji47)))).trans hx179_0
                     replace hx179_0 := (cell_far (p := ⟨gb162, 1, none⟩) (by first | (rw [add_block]; exact hn179_1) | (show (Addr.add _ _).block ≠ _; rw [add_block]; exact hn179_1) | exact hn179_1) (.int .u8 (rd aHL (ji47)))).trans hx179_0
                     (try have hy179_0 := fun (n_ : Nat) => (show ((((w85.drewN n_).setCell ⟨gb162, 0, none⟩ (.int .u8 (rd aLL (ji47)))).setCell ⟨gb162, 1, none⟩ (.int .u8 (rd aHL (ji47))))).cell? _ = some _ from hx179_0))
                     clear hn179_0
                     clear hn179_1
                     replace p179 := eq_true p179
                     replace q179 := eq_true q179
                     have hcz90_0 : w85.cell? ⟨gb162, 0, none⟩ = some (.int .u8 0) := (blk_cell BK162.out 0).trans rfl
                     have hcz90_1 : w85.cell? ⟨gb162, 1, none⟩ = some (.int .u8 0) := (blk_cell BK162.out 1).trans rfl
                     have hfz90_0 := blk_frozen BK162.out 0
                     have hfz90_1 := blk_frozen BK162.out 1
                     go_wp2
                     repeat (go_quiet (fail); try go_wp2)
                     go_meet
                     case rel => exact ⟨_, (true), (by first | rfl | (simp; done) | (simp [*]; done)), H', ⟨by have := HK1.out; first | omega | exact Nat.le_refl _⟩, ⟨by (with_reducible repeat (first | apply Kd.V_alloc | apply Kd.V_drewN | apply Kd.V_drew)); exact Kd.V_mono (Kd.V_far (p := ⟨gb162, 1, none⟩) (Kd.V_far (p := ⟨gb162, 0, none⟩) (Kd.V_mono HO_0.out (fun k_ hk => (⟨hk, hk.2⟩ : _ ∧ k_ ≠ gb162))) (fun _ hk => hk.2) (.int .u8 (rd aLL (ji47)))) (fun _ hk => hk.2) (.int .u8 (rd aHL (ji47)))) (fun _ hk => ⟨hk.1.1, hk.1.2⟩)⟩, ⟨by (with_reducible repeat (first | refine blk_drewN ?_ _ | refine blk_drew ?_ | refine blk_alloc ?_ _)); refine blk_put (cs := #[.int .u8 (rd aLL (ji47)), .int .u8 0]) ?_ 1 _ rfl; (with_reducible repeat (first | refine blk_drewN ?_ _ | refine blk_drew ?_ | refine blk_alloc ?_ _)); refine blk_put (cs := #[.int .u8 0, .int .u8 0]) ?_ 0 _ rfl; (with_reducible repeat (first | refine blk_drewN ?_ _ | refine blk_drew ?_ | refine blk_alloc ?_ _)); exact BK162.out⟩, ⟨by repeat (first | (with_reducible first | exact HB.out | apply below_alloc | apply pw_below_drewN | apply below_drew1 | refine below_set ?_ GE162.out) | exact HB.out)⟩⟩
                    ·rw [if_neg c89] at H
                     have c89b0 : decide ((rd x0_1 1) < (rd aLL (ji47))) = false := decide_eq_false c89
                     clear c89
                     by_cases c91 : (rd aHL (ji47)) < (rd x0_1 1)
                     ·rw [if_pos c91] at H
                      have c91b0 : decide ((rd aHL (ji47)) < (rd x0_1 1)) = true := decide_eq_true c91
                      clear c91
                      have H' := Aside0.mk H
                      clear H
                      have p179 : 0 ≤ (1 : Int) := (by omega)
                      have q179 : 1 < (x0_1.length : Int) := of_decide_eq_true (by first | (with_reducible assumption) | assumption)
                      obtain ⟨ad179, e179, hx179_0⟩ := Kd.at_int (Kd.V_reads' HO_0.out).2.2 1 p179 q179
                      obtain rfl : ad114 = ad179 := (by injection e179)
                      (try simp only [show (1 : Int).toNat = 1 from rfl, Nat.reduceMul, Nat.reduceEqDiff, Go.Addr.add, ↓reduceIte] at hx179_0)
                      have qi179 : (1 < x0_1.length) = True := eq_true (by omega)
                      (try rw [show ((1 : Int)).toNat = 1 from rfl] at hx179_0)
                      have hn179_0 : ad114.block ≠ gb162 := V_ne_of HO_0.out (fun _ hk => hk.2) (by omega) (by decide)
                      have hn179_1 : ad114.block ≠ gb162 := V_ne_of HO_0.out (fun _ hk => hk.2) (by omega) (by decide)
                      replace hx179_0 := (cell_far (p := ⟨gb162, 0, none⟩) (by first | (rw [add_block]; exact hn179_0) | (show (Addr.add _ _).block ≠ _; rw [add_block]; exact hn179_0) | exact hn179_0) (.int .u8 (rd aLL (ji47)))).trans hx179_0
                      replace hx179_0 := (cell_far (p := ⟨gb162, 1, none⟩) (by first | (rw [add_block]; exact hn179_1) | (show (Addr.add _ _).block ≠ _; rw [add_block]; exact hn179_1) | exact hn179_1) (.int .u8 (rd aHL (ji47)))).trans hx179_0
                      (try have hy179_0 := fun (n_ : Nat) => (show ((((w85.drewN n_).setCell ⟨gb162, 0, none⟩ (.int .u8 (rd aLL (ji47)))).setCell ⟨gb162, 1, none⟩ (.int .u8 (rd aHL (ji47))))).cell? _ = some _ from hx179_0))
                      clear hn179_0
                      clear hn179_1
                      replace p179 := eq_true p179
                      replace q179 := eq_true q179
                      have hcz92_0 : w85.cell? ⟨gb162, 0, none⟩ = some (.int .u8 0) := (blk_cell BK162.out 0).trans rfl
                      have hcz92_1 : w85.cell? ⟨gb162, 1, none⟩ = some (.int .u8 0) := (blk_cell BK162.out 1).trans rfl
                      have hfz92_0 := blk_frozen BK162.out 0
                      have hfz92_1 := blk_frozen BK162.out 1
                      have p180 : 0 ≤ (1 : Int) := (by omega)
                      have q180 : 1 < (x0_1.length : Int) := of_decide_eq_true (by first | (with_reducible assumption) | assumption)
                      obtain ⟨ad180, e180, hx180_0⟩ := Kd.at_int (Kd.V_reads' HO_0.out).2.2 1 p180 q180
                      obtain rfl : ad114 = ad180 := (by injection e180)
                      (try simp only [show (1 : Int).toNat = 1 from rfl, Nat.reduceMul, Nat.reduceEqDiff, Go.Addr.add, ↓reduceIte] at hx180_0)
                      have qi180 : (1 < x0_1.length) = True := eq_true (by omega)
                      (try rw [show ((1 : Int)).toNat = 1 from rfl] at hx180_0)
                      have hn180_0 : ad114.block ≠ gb162 := V_ne_of HO_0.out (fun _ hk => hk.2) (by omega) (by decide)
                      have hn180_1 : ad114.block ≠ gb162 := V_ne_of HO_0.out (fun _ hk => hk.2) (by omega) (by decide)
                      replace hx180_0 := (cell_far (p := ⟨gb162, 0, none⟩) (by first | (rw [add_block]; exact hn180_0) | (show (Addr.add _ _).block ≠ _; rw [add_block]; exact hn180_0) | exact hn180_0) (.int .u8 (rd aLL (ji47)))).trans hx180_0
                      replace hx180_0 := (cell_far (p := ⟨gb162, 1, none⟩) (by first | (rw [add_block]; exact hn180_1) | (show (Addr.add _ _).block ≠ _; rw [add_block]; exact hn180_1) | exact hn180_1) (.int .u8 (rd aHL (ji47)))).trans hx180_0
                      (try have hy180_0 := fun (n_ : Nat) => (show ((((w85.drewN n_).setCell ⟨gb162, 0, none⟩ (.int .u8 (rd aLL (ji47)))).setCell ⟨gb162, 1, none⟩ (.int .u8 (rd aHL (ji47))))).cell? _ = some _ from hx180_0))
                      clear hn180_0
                      clear hn180_1
                      replace p180 := eq_true p180
                      replace q180 := eq_true q180
                      go_wp2
                      repeat (go_quiet (fail); try go_wp2)
                      go_meet
                      case rel => exact ⟨_, (true), (by first | rfl | (simp; done) | (simp [*]; done)), H', ⟨by have := HK1.out; first | omega | exact Nat.le_refl _⟩, ⟨by (with_reducible repeat (first | apply Kd.V_alloc | apply Kd.V_drewN | apply Kd.V_drew)); exact Kd.V_mono (Kd.V_far (p := ⟨gb162, 1, none⟩) (Kd.V_far (p := ⟨gb162, 0, none⟩) (Kd.V_mono HO_0.out (fun k_ hk => (⟨hk, hk.2⟩ : _ ∧ k_ ≠ gb162))) (fun _ hk => hk.2) (.int .u8 (rd aLL (ji47)))) (fun _ hk => hk.2) (.int .u8 (rd aHL (ji47)))) (fun _ hk => ⟨hk.1.1, hk.1.2⟩)⟩, ⟨by (with_reducible repeat (first | refine blk_drewN ?_ _ | refine blk_drew ?_ | refine blk_alloc ?_ _)); refine blk_put (cs := #[.int .u8 (rd aLL (ji47)), .int .u8 0]) ?_ 1 _ rfl; (with_reducible repeat (first | refine blk_drewN ?_ _ | refine blk_drew ?_ | refine blk_alloc ?_ _)); refine blk_put (cs := #[.int .u8 0, .int .u8 0]) ?_ 0 _ rfl; (with_reducible repeat (first | refine blk_drewN ?_ _ | refine blk_drew ?_ | refine blk_alloc ?_ _)); exact BK162.out⟩, ⟨by repeat (first | (with_reducible first | exact HB.out | apply below_alloc | apply pw_below_drewN | apply below_drew1 | refine below_set ?_ GE162.out) | exact HB.out)⟩⟩
                     ·rw [if_neg c91] at H
                      have c91b0 : decide ((rd aHL (ji47)) < (rd x0_1 1)) = false := decide_eq_false c91
                      clear c91
                      by_cases c93 : 2 < (x0_1.length : Int)
                      ·rw [if_pos c93] at H
                       have c93b0 : decide (2 < (x0_1.length : Int)) = true := decide_eq_true c93
                       have c93b1 : decide (2 < x0_1.length) = true := decide_eq_true (by omega)
                       clear c93
                       by_cases c94 : (rd x0_1 2) < 128
                       ·rw [if_pos c94] at H
                        have c94b0 : decide ((rd x0_1 2) < 128) = true := decide_eq_true c94
                        clear c94
                        have H' := Aside0.mk H
                        clear H
                        have p179 : 0 ≤ (1 : Int) := (by omega)
                        have q179 : 1 < (x0_1.length : Int) := of_decide_eq_true (by first | (with_reducible assumption) | assumption)
                        obtain ⟨ad179, e179, hx179_0⟩ := Kd.at_int (Kd.V_reads' HO_0.out).2.2 1 p179 q179
                        obtain rfl : ad114 = ad179 := (by injection e179)
                        (try simp only [show (1 : Int).toNat = 1 from rfl, Nat.reduceMul, Nat.reduceEqDiff, Go.Addr.add, ↓reduceIte] at hx179_0)
                        have qi179 : (1 < x0_1.length) = True := eq_true (by omega)
                        (try rw [show ((1 : Int)).toNat = 1 from rfl] at hx179_0)
                        have hn179_0 : ad114.block ≠ gb162 := V_ne_of HO_0.out (fun _ hk => hk.2) (by omega) (by decide)
                        have hn179_1 : ad114.block ≠ gb162 := V_ne_of HO_0.out (fun _ hk => hk.2) (by omega) (by decide)
                        replace hx179_0 := (cell_far (p := ⟨gb162, 0, none⟩) (by first | (rw [add_block]; exact hn179_0) | (show (Addr.add _ _).block ≠ _; rw [add_block]; exact hn179_0) | exact hn179_0) (.int .u8 (rd aLL (ji47)))).trans hx179_0
                        replace hx179_0 := (cell_far (p := ⟨gb162, 1, none⟩) (by first | (rw [add_block]; exact hn179_1) | (show (Addr.add _ _).block ≠ _; rw [add_block]; exact hn179_1) | exact hn179_1) (.int .u8 (rd aHL (ji47)))).trans hx179_0
                        (try have hy179_0 := fun (n_ : Nat) => (show ((((w85.drewN n_).setCell ⟨gb162, 0, none⟩ (.int .u8 (rd aLL (ji47)))).setCell ⟨gb162, 1, none⟩ (.int .u8 (rd aHL (ji47))))).cell? _ = some _ from hx179_0))
                        clear hn179_0
                        clear hn179_1
                        replace p179 := eq_true p179
                        replace q179 := eq_true q179
                        have hcz95_0 : w85.cell? ⟨gb162, 0, none⟩ = some (.int .u8 0) := (blk_cell BK162.out 0).trans rfl
                        have hcz95_1 : w85.cell? ⟨gb162, 1, none⟩ = some (.int .u8 0) := (blk_cell BK162.out 1).trans rfl
                        have hfz95_0 := blk_frozen BK162.out 0
                        have hfz95_1 := blk_frozen BK162.out 1
                        have p180 : 0 ≤ (1 : Int) := (by omega)
                        have q180 : 1 < (x0_1.length : Int) := of_decide_eq_true (by first | (with_reducible assumption) | assumption)
                        obtain ⟨ad180, e180, hx180_0⟩ := Kd.at_int (Kd.V_reads' HO_0.out).2.2 1 p180 q180
                        obtain rfl : ad114 = ad180 := (by injection e180)
                        (try simp only [show (1 : Int).toNat = 1 from rfl, Nat.reduceMul, Nat.reduceEqDiff, Go.Addr.add, ↓reduceIte] at hx180_0)
                        have qi180 : (1 < x0_1.length) = True := eq_true (by omega)
                        (try rw [show ((1 : Int)).toNat = 1 from rfl] at hx180_0)
                        have hn180_0 : ad114.block ≠ gb162 := V_ne_of HO_0.out (fun _ hk => hk.2) (by omega) (by decide)
                        have hn180_1 : ad114.block ≠ gb162 := V_ne_of HO_0.out (fun _ hk => hk.2) (by omega) (by decide)
                        replace hx180_0 := (cell_far (p := ⟨gb162, 0, none⟩) (by first | (rw [add_block]; exact hn180_0) | (show (Addr.add _ _).block ≠ _; rw [add_block]; exact hn180_0) | exact hn180_0) (.int .u8 (rd aLL (ji47)))).trans hx180_0
                        replace hx180_0 := (cell_far (p := ⟨gb162, 1, none⟩) (by first | (rw [add_block]; exact hn180_1) | (show (Addr.add _ _).block ≠ _; rw [add_block]; exact hn180_1) | exact hn180_1) (.int .u8 (rd aHL (ji47)))).trans hx180_0
                        (try have hy180_0 := fun (n_ : Nat) => (show ((((w85.drewN n_).setCell ⟨gb162, 0, none⟩ (.int .u8 (rd aLL (ji47)))).setCell ⟨gb162, 1, none⟩ (.int .u8 (rd aHL (ji47))))).cell? _ = some _ from hx180_0))
                        clear hn180_0
                        clear hn180_1
                        replace p180 := eq_true p180
                        replace q180 := eq_true q180
                        have p181 : 0 ≤ (2 : Int) := (by omega)
                        have q181 : 2 < (x0_1.length : Int) := of_decide_eq_true (by first | (with_reducible assumption) | assumption)
                        obtain ⟨ad181, e181, hx181_0⟩ := Kd.at_int (Kd.V_reads' HO_0.out).2.2 2 p181 q181
                        obtain rfl : ad114 = ad181 := (by injection e181)
                        (try simp only [show (2 : Int).toNat = 2 from rfl, Nat.reduceMul, Nat.reduceEqDiff, Go.Addr.add, ↓reduceIte] at hx181_0)
                        have qi181 : (2 < x0_1.length) = True := eq_true (by omega)
                        (try rw [show ((2 : Int)).toNat = 2 from rfl] at hx181_0)
                        have hn181_0 : ad114.block ≠ gb162 := V_ne_of HO_0.out (fun _ hk => hk.2) (by omega) (by decide)
                        have hn181_1 : ad114.block ≠ gb162 := V_ne_of HO_0.out (fun _ hk => hk.2) (by omega) (by decide)
                        replace hx181_0 := (cell_far (p := ⟨gb162, 0, none⟩) (by first | (rw [add_block]; exact hn181_0) | (show (Addr.add _ _).block ≠ _; rw [add_block]; exact hn181_0) | exact hn181_0) (.int .u8 (rd aLL (ji47)))).trans hx181_0
                        replace hx181_0 := (cell_far (p := ⟨gb162, 1, none⟩) (by first | (rw [add_block]; exact hn181_1) | (show (Addr.add _ _).block ≠ _; rw [add_block]; exact hn181_1) | exact hn181_1) (.int .u8 (rd aHL (ji47)))).trans hx181_0
                        (try have hy181_0 := fun (n_ : Nat) => (show ((((w85.drewN n_).setCell ⟨gb162, 0, none⟩ (.int .u8 (rd aLL (ji47)))).setCell ⟨gb162, 1, none⟩ (.int .u8 (rd aHL (ji47))))).cell? _ = some _ from hx181_0))
                        clear hn181_0
                        clear hn181_1
                        replace p181 := eq_true p181
                        replace q181 := eq_true q181
                        go_wp2
                        repeat (go_quiet (fail); try go_wp2)
                        go_meet
                        case rel => exact ⟨_, (true), (by first | rfl | (simp; done) | (simp [*]; done)), H', ⟨by have := HK1.out; first | omega | exact Nat.le_refl _⟩, ⟨by (with_reducible repeat (first | apply Kd.V_alloc | apply Kd.V_drewN | apply Kd.V_drew)); exact Kd.V_mono (Kd.V_far (p := ⟨gb162, 1, none⟩) (Kd.V_far (p := ⟨gb162, 0, none⟩) (Kd.V_mono HO_0.out (fun k_ hk => (⟨hk, hk.2⟩ : _ ∧ k_ ≠ gb162))) (fun _ hk => hk.2) (.int .u8 (rd aLL (ji47)))) (fun _ hk => hk.2) (.int .u8 (rd aHL (ji47)))) (fun _ hk => ⟨hk.1.1, hk.1.2⟩)⟩, ⟨by (with_reducible repeat (first | refine blk_drewN ?_ _ | refine blk_drew ?_ | refine blk_alloc ?_ _)); refine blk_put (cs := #[.int .u8 (rd aLL (ji47)), .int .u8 0]) ?_ 1 _ rfl; (with_reducible repeat (first | refine blk_drewN ?_ _ | refine blk_drew ?_ | refine blk_alloc ?_ _)); refine blk_put (cs := #[.int .u8 0, .int .u8 0]) ?_ 0 _ rfl; (with_reducible repeat (first | refine blk_drewN ?_ _ | refine blk_drew ?_ | refine blk_alloc ?_ _)); exact BK162.out⟩, ⟨by repeat (first | (with_reducible first | exact HB.out | apply below_alloc | apply pw_below_drewN | apply below_drew1 | refine below_set ?_ GE162.out) | exact HB.out)⟩⟩
                       ·rw [if_neg c94] at H
                        have c94b0 : decide ((rd x0_1 2) < 128) = false := decide_eq_false c94
                        clear c94
                        by_cases c96 : 191 < (rd x0_1 2)
                        ·rw [if_pos c96] at H
                         have c96b0 : decide (191 < (rd x0_1 2)) = true := decide_eq_true c96
                         clear c96
                         have H' := Aside0.mk H
                         clear H
                         have p179 : 0 ≤ (1 : Int) := (by omega)
                         have q179 : 1 < (x0_1.length : Int) := of_decide_eq_true (by first | (with_reducible assumption) | assumption)
                         obtain ⟨ad179, e179, hx179_0⟩ := Kd.at_int (Kd.V_reads' HO_0.out).2.2 1 p179 q179
                         obtain rfl : ad114 = ad179 := (by injection e179)
                         (try simp only [show (1 : Int).toNat = 1 from rfl, Nat.reduceMul, Nat.reduceEqDiff, Go.Addr.add, ↓reduceIte] at hx179_0)
                         have qi179 : (1 < x0_1.length) = True := eq_true (by omega)
                         (try rw [show ((1 : Int)).toNat = 1 from rfl] at hx179_0)
                         have hn179_0 : ad114.block ≠ gb162 := V_ne_of HO_0.out (fun _ hk => hk.2) (by omega) (by decide)
                         have hn179_1 : ad114.block ≠ gb162 := V_ne_of HO_0.out (fun _ hk => hk.2) (by omega) (by decide)
                         replace hx179_0 := (cell_far (p := ⟨gb162, 0, none⟩) (by first | (rw [add_block]; exact hn179_0) | (show (Addr.add _ _).block ≠ _; rw [add_block]; exact hn179_0) | exact hn179_0) (.int .u8 (rd aLL (ji47)))).trans hx179_0
                         replace hx179_0 := (cell_far (p := ⟨gb162, 1, none⟩) (by first | (rw [add_block]; exact hn179_1) | (show (Addr.add _ _).block ≠ _; rw [add_block]; exact hn179_1) | exact hn179_1) (.int .u8 (rd aHL (ji47)))).trans hx179_0
                         (try have hy179_0 := fun (n_ : Nat) => (show ((((w85.drewN n_).setCell ⟨gb162, 0, none⟩ (.int .u8 (rd aLL (ji47)))).setCell ⟨gb162, 1, none⟩ (.int .u8 (rd aHL (ji47))))).cell? _ = some _ from hx179_0))
                         clear hn179_0
                         clear hn179_1
                         replace p179 := eq_true p179
                         replace q179 := eq_true q179
                         have hcz97_0 : w85.cell? ⟨gb162, 0, none⟩ = some (.int .u8 0) := (blk_cell BK162.out 0).trans rfl
                         have hcz97_1 : w85.cell? ⟨gb162, 1, none⟩ = some (.int .u8 0) := (blk_cell BK162.out 1).trans rfl
                         have hfz97_0 := blk_frozen BK162.out 0
                         have hfz97_1 := blk_frozen BK162.out 1
                         have p180 : 0 ≤ (1 : Int) := (by omega)
                         have q180 : 1 < (x0_1.length : Int) := of_decide_eq_true (by first | (with_reducible assumption) | assumption)
                         obtain ⟨ad180, e180, hx180_0⟩ := Kd.at_int (Kd.V_reads' HO_0.out).2.2 1 p180 q180
                         obtain rfl : ad114 = ad180 := (by injection e180)
                         (try simp only [show (1 : Int).toNat = 1 from rfl, Nat.reduceMul, Nat.reduceEqDiff, Go.Addr.add, ↓reduceIte] at hx180_0)
                         have qi180 : (1 < x0_1.length) = True := eq_true (by omega)
                         (try rw [show ((1 : Int)).toNat = 1 from rfl] at hx180_0)
                         have hn180_0 : ad114.block ≠ gb162 := V_ne_of HO_0.out (fun _ hk => hk.2) (by omega) (by decide)
                         have hn180_1 : ad114.block ≠ gb162 := V_ne_of HO_0.out (fun _ hk => hk.2) (by omega) (by decide)
                         replace hx180_0 := (cell_far (p := ⟨gb162, 0, none⟩) (by first | (rw [add_block]; exact hn180_0) | (show (Addr.add _ _).block ≠ _; rw [add_block]; exact hn180_0) | exact hn180_0) (.int .u8 (rd aLL (ji47)))).trans hx180_0
                         replace hx180_0 := (cell_far (p := ⟨gb162, 1, none⟩) (by first | (rw [add_block]; exact hn180_1) | (show (Addr.add _ _).block ≠ _; rw [add_block]; exact hn180_1) | exact hn180_1) (.int .u8 (rd aHL (ji47)))).trans hx180_0
                         (try have hy180_0 := fun (n_ : Nat) => (show ((((w85.drewN n_).setCell ⟨gb162, 0, none⟩ (.int .u8 (rd aLL (ji47)))).setCell ⟨gb162, 1, none⟩ (.int .u8 (rd aHL (ji47))))).cell? _ = some _ from hx180_0))
                         clear hn180_0
                         clear hn180_1
                         replace p180 := eq_true p180
                         replace q180 := eq_true q180
                         have p181 : 0 ≤ (2 : Int) := (by omega)
                         have q181 : 2 < (x0_1.length : Int) := of_decide_eq_true (by first | (with_reducible assumption) | assumption)
                         obtain ⟨ad181, e181, hx181_0⟩ := Kd.at_int (Kd.V_reads' HO_0.out).2.2 2 p181 q181
                         obtain rfl : ad114 = ad181 := (by injection e181)
                         (try simp only [show (2 : Int).toNat = 2 from rfl, Nat.reduceMul, Nat.reduceEqDiff, Go.Addr.add, ↓reduceIte] at hx181_0)
                         have qi181 : (2 < x0_1.length) = True := eq_true (by omega)
                         (try rw [show ((2 : Int)).toNat = 2 from rfl] at hx181_0)
                         have hn181_0 : ad114.block ≠ gb162 := V_ne_of HO_0.out (fun _ hk => hk.2) (by omega) (by decide)
                         have hn181_1 : ad114.block ≠ gb162 := V_ne_of HO_0.out (fun _ hk => hk.2) (by omega) (by decide)
                         replace hx181_0 := (cell_far (p := ⟨gb162, 0, none⟩) (by first | (rw [add_block]; exact hn181_0) | (show (Addr.add _ _).block ≠ _; rw [add_block]; exact hn181_0) | exact hn181_0) (.int .u8 (rd aLL (ji47)))).trans hx181_0
                         replace hx181_0 := (cell_far (p := ⟨gb162, 1, none⟩) (by first | (rw [add_block]; exact hn181_1) | (show (Addr.add _ _).block ≠ _; rw [add_block]; exact hn181_1) | exact hn181_1) (.int .u8 (rd aHL (ji47)))).trans hx181_0
                         (try have hy181_0 := fun (n_ : Nat) => (show ((((w85.drewN n_).setCell ⟨gb162, 0, none⟩ (.int .u8 (rd aLL (ji47)))).setCell ⟨gb162, 1, none⟩ (.int .u8 (rd aHL (ji47))))).cell? _ = some _ from hx181_0))
                         clear hn181_0
                         clear hn181_1
                         replace p181 := eq_true p181
                         replace q181 := eq_true q181
                         have p182 : 0 ≤ (2 : Int) := (by omega)
                         have q182 : 2 < (x0_1.length : Int) := of_decide_eq_true (by first | (with_reducible assumption) | assumption)
                         obtain ⟨ad182, e182, hx182_0⟩ := Kd.at_int (Kd.V_reads' HO_0.out).2.2 2 p182 q182
                         obtain rfl : ad114 = ad182 := (by injection e182)
                         (try simp only [show (2 : Int).toNat = 2 from rfl, Nat.reduceMul, Nat.reduceEqDiff, Go.Addr.add, ↓reduceIte] at hx182_0)
                         have qi182 : (2 < x0_1.length) = True := eq_true (by omega)
                         (try rw [show ((2 : Int)).toNat = 2 from rfl] at hx182_0)
                         have hn182_0 : ad114.block ≠ gb162 := V_ne_of HO_0.out (fun _ hk => hk.2) (by omega) (by decide)
                         have hn182_1 : ad114.block ≠ gb162 := V_ne_of HO_0.out (fun _ hk => hk.2) (by omega) (by decide)
                         replace hx182_0 := (cell_far (p := ⟨gb162, 0, none⟩) (by first | (rw [add_block]; exact hn182_0) | (show (Addr.add _ _).block ≠ _; rw [add_block]; exact hn182_0) | exact hn182_0) (.int .u8 (rd aLL (ji47)))).trans hx182_0
                         replace hx182_0 := (cell_far (p := ⟨gb162, 1, none⟩) (by first | (rw [add_block]; exact hn182_1) | (show (Addr.add _ _).block ≠ _; rw [add_block]; exact hn182_1) | exact hn182_1) (.int .u8 (rd aHL (ji47)))).trans hx182_0
                         (try have hy182_0 := fun (n_ : Nat) => (show ((((w85.drewN n_).setCell ⟨gb162, 0, none⟩ (.int .u8 (rd aLL (ji47)))).setCell ⟨gb162, 1, none⟩ (.int .u8 (rd aHL (ji47))))).cell? _ = some _ from hx182_0))
                         clear hn182_0
                         clear hn182_1
                         replace p182 := eq_true p182
                         replace q182 := eq_true q182
                         go_wp2
                         repeat (go_quiet (fail); try go_wp2)
                         go_meet
                         case rel => exact ⟨_, (true), (by first | rfl | (simp; done) | (simp [*]; done)), H', ⟨by have := HK1.out; first | omega | exact Nat.le_refl _⟩, ⟨by (with_reducible repeat (first | apply Kd.V_alloc | apply Kd.V_drewN | apply Kd.V_drew)); exact Kd.V_mono (Kd.V_far (p := ⟨gb162, 1, none⟩) (Kd.V_far (p := ⟨gb162, 0, none⟩) (Kd.V_mono HO_0.out (fun k_ hk => (⟨hk, hk.2⟩ : _ ∧ k_ ≠ gb162))) (fun _ hk => hk.2) (.int .u8 (rd aLL (ji47)))) (fun _ hk => hk.2) (.int .u8 (rd aHL (ji47)))) (fun _ hk => ⟨hk.1.1, hk.1.2⟩)⟩, ⟨by (with_reducible repeat (first | refine blk_drewN ?_ _ | refine blk_drew ?_ | refine blk_alloc ?_ _)); refine blk_put (cs := #[.int .u8 (rd aLL (ji47)), .int .u8 0]) ?_ 1 _ rfl; (with_reducible repeat (first | refine blk_drewN ?_ _ | refine blk_drew ?_ | refine blk_alloc ?_ _)); refine blk_put (cs := #[.int .u8 0, .int .u8 0]) ?_ 0 _ rfl; (with_reducible repeat (first | refine blk_drewN ?_ _ | refine blk_drew ?_ | refine blk_alloc ?_ _)); exact BK162.out⟩, ⟨by repeat (first | (with_reducible first | exact HB.out | apply below_alloc | apply pw_below_drewN | apply below_drew1 | refine below_set ?_ GE162.out) | exact HB.out)⟩⟩
                        ·rw [if_neg c96] at H
                         have c96b0 : decide (191 < (rd x0_1 2)) = false := decide_eq_false c96
                         clear c96
                         by_cases c98 : 3 < (x0_1.length : Int)
                         ·rw [if_pos c98] at H
                          have c98b0 : decide (3 < (x0_1.length : Int)) = true := decide_eq_true c98
                          have c98b1 : decide (3 < x0_1.length) = true := decide_eq_true (by omega)
                          clear c98
                          by_cases c99 : (rd x0_1 3) < 128
                          ·rw [if_pos c99] at H
                           have c99b0 : decide ((rd x0_1 3) < 128) = true := decide_eq_true c99
                           clear c99
                           have H' := Aside0.mk H
                           clear H
                           have p179 : 0 ≤ (1 : Int) := (by omega)
                           have q179 : 1 < (x0_1.length : Int) := of_decide_eq_true (by first | (with_reducible assumption) | assumption)
                           obtain ⟨ad179, e179, hx179_0⟩ := Kd.at_int (Kd.V_reads' HO_0.out).2.2 1 p179 q179
                           obtain rfl : ad114 = ad179 := (by injection e179)
                           (try simp only [show (1 : Int).toNat = 1 from rfl, Nat.reduceMul, Nat.reduceEqDiff, Go.Addr.add, ↓reduceIte] at hx179_0)
                           have qi179 : (1 < x0_1.length) = True := eq_true (by omega)
                           (try rw [show ((1 : Int)).toNat = 1 from rfl] at hx179_0)
                           have hn179_0 : ad114.block ≠ gb162 := V_ne_of HO_0.out (fun _ hk => hk.2) (by omega) (by decide)
                           have hn179_1 : ad114.block ≠ gb162 := V_ne_of HO_0.out (fun _ hk => hk.2) (by omega) (by decide)
                           replace hx179_0 := (cell_far (p := ⟨gb162, 0, none⟩) (by first | (rw [add_block]; exact hn179_0) | (show (Addr.add _ _).block ≠ _; rw [add_block]; exact hn179_0) | exact hn179_0) (.int .u8 (rd aLL (ji47)))).trans hx179_0
                           replace hx179_0 := (cell_far (p := ⟨gb162, 1, none⟩) (by first | (rw [add_block]; exact hn179_1) | (show (Addr.add _ _).block ≠ _; rw [add_block]; exact hn179_1) | exact hn179_1) (.int .u8 (rd aHL (ji47)))).trans hx179_0
                           (try have hy179_0 := fun (n_ : Nat) => (show ((((w85.drewN n_).setCell ⟨gb162, 0, none⟩ (.int .u8 (rd aLL (ji47)))).setCell ⟨gb162, 1, none⟩ (.int .u8 (rd aHL (ji47))))).cell? _ = some _ from hx179_0))
                           clear hn179_0
                           clear hn179_1
                           replace p179 := eq_true p179
                           replace q179 := eq_true q179
                           have hcz100_0 : w85.cell? ⟨gb162, 0, none⟩ = some (.int .u8 0) := (blk_cell BK162.out 0).trans rfl
                           have hcz100_1 : w85.cell? ⟨gb162, 1, none⟩ = some (.int .u8 0) := (blk_cell BK162.out 1).trans rfl
                           have hfz100_0 := blk_frozen BK162.out 0
                           have hfz100_1 := blk_frozen BK162.out 1
                           have p180 : 0 ≤ (1 : Int) := (by omega)
                           have q180 : 1 < (x0_1.length : Int) := of_decide_eq_true (by first | (with_reducible assumption) | assumption)
                           obtain ⟨ad180, e180, hx180_0⟩ := Kd.at_int (Kd.V_reads' HO_0.out).2.2 1 p180 q180
                           obtain rfl : ad114 = ad180 := (by injection e180)
                           (try simp only [show (1 : Int).toNat = 1 from rfl, Nat.reduceMul, Nat.reduceEqDiff, Go.Addr.add, ↓reduceIte] at hx180_0)
                           have qi180 : (1 < x0_1.length) = True := eq_true (by omega)
                           (try rw [show ((1 : Int)).toNat = 1 from rfl] at hx180_0)
                           have hn180_0 : ad114.block ≠ gb162 := V_ne_of HO_0.out (fun _ hk => hk.2) (by omega) (by decide)
                           have hn180_1 : ad114.block ≠ gb162 := V_ne_of HO_0.out (fun _ hk => hk.2) (by omega) (by decide)
                           replace hx180_0 := (cell_far (p := ⟨gb162, 0, none⟩) (by first | (rw [add_block]; exact hn180_0) | (show (Addr.add _ _).block ≠ _; rw [add_block]; exact hn180_0) | exact hn180_0) (.int .u8 (rd aLL (ji47)))).trans hx180_0
                           replace hx180_0 := (cell_far (p := ⟨gb162, 1, none⟩) (by first | (rw [add_block]; exact hn180_1) | (show (Addr.add _ _).block ≠ _; rw [add_block]; exact hn180_1) | exact hn180_1) (.int .u8 (rd aHL (ji47)))).trans hx180_0
                           (try have hy180_0 := fun (n_ : Nat) => (show ((((w85.drewN n_).setCell ⟨gb162, 0, none⟩ (.int .u8 (rd aLL (ji47)))).setCell ⟨gb162, 1, none⟩ (.int .u8 (rd aHL (ji47))))).cell? _ = some _ from hx180_0))
                           clear hn180_0
                           clear hn180_1
                           replace p180 := eq_true p180
                           replace q180 := eq_true q180
                           have p181 : 0 ≤ (2 : Int) := (by omega)
                           have q181 : 2 < (x0_1.length : Int) := of_decide_eq_true (by first | (with_reducible assumption) | assumption)
                           obtain ⟨ad181, e181, hx181_0⟩ := Kd.at_int (Kd.V_reads' HO_0.out).2.2 2 p181 q181
                           obtain rfl : ad114 = ad181 := (by injection e181)
                           (try simp only [show (2 : Int).toNat = 2 from rfl, Nat.reduceMul, Nat.reduceEqDiff, Go.Addr.add, ↓reduceIte] at hx181_0)
                           have qi181 : (2 < x0_1.length) = True := eq_true (by omega)
                           (try rw [show ((2 : Int)).toNat = 2 from rfl] at hx181_0)
                           have hn181_0 : ad114.block ≠ gb162 := V_ne_of HO_0.out (fun _ hk => hk.2) (by omega) (by decide)
                           have hn181_1 : ad114.block ≠ gb162 := V_ne_of HO_0.out (fun _ hk => hk.2) (by omega) (by decide)
                           replace hx181_0 := (cell_far (p := ⟨gb162, 0, none⟩) (by first | (rw [add_block]; exact hn181_0) | (show (Addr.add _ _).block ≠ _; rw [add_block]; exact hn181_0) | exact hn181_0) (.int .u8 (rd aLL (ji47)))).trans hx181_0
                           replace hx181_0 := (cell_far (p := ⟨gb162, 1, none⟩) (by first | (rw [add_block]; exact hn181_1) | (show (Addr.add _ _).block ≠ _; rw [add_block]; exact hn181_1) | exact hn181_1) (.int .u8 (rd aHL (ji47)))).trans hx181_0
                           (try have hy181_0 := fun (n_ : Nat) => (show ((((w85.drewN n_).setCell ⟨gb162, 0, none⟩ (.int .u8 (rd aLL (ji47)))).setCell ⟨gb162, 1, none⟩ (.int .u8 (rd aHL (ji47))))).cell? _ = some _ from hx181_0))
                           clear hn181_0
                           clear hn181_1
                           replace p181 := eq_true p181
                           replace q181 := eq_true q181
                           have p182 : 0 ≤ (2 : Int) := (by omega)
                           have q182 : 2 < (x0_1.length : Int) := of_decide_eq_true (by first | (with_reducible assumption) | assumption)
                           obtain ⟨ad182, e182, hx182_0⟩ := Kd.at_int (Kd.V_reads' HO_0.out).2.2 2 p182 q182
                           obtain rfl : ad114 = ad182 := (by injection e182)
                           (try simp only [show (2 : Int).toNat = 2 from rfl, Nat.reduceMul, Nat.reduceEqDiff, Go.Addr.add, ↓reduceIte] at hx182_0)
                           have qi182 : (2 < x0_1.length) = True := eq_true (by omega)
                           (try rw [show ((2 : Int)).toNat = 2 from rfl] at hx182_0)
                           have hn182_0 : ad114.block ≠ gb162 := V_ne_of HO_0.out (fun _ hk => hk.2) (by omega) (by decide)
                           have hn182_1 : ad114.block ≠ gb162 := V_ne_of HO_0.out (fun _ hk => hk.2) (by omega) (by decide)
                           replace hx182_0 := (cell_far (p := ⟨gb162, 0, none⟩) (by first | (rw [add_block]; exact hn182_0) | (show (Addr.add _ _).block ≠ _; rw [add_block]; exact hn182_0) | exact hn182_0) (.int .u8 (rd aLL (ji47)))).trans hx182_0
                           replace hx182_0 := (cell_far (p := ⟨gb162, 1, none⟩) (by first | (rw [add_block]; exact hn182_1) | (show (Addr.add _ _).block ≠ _; rw [add_block]; exact hn182_1) | exact hn182_1) (.int .u8 (rd aHL (ji47)))).trans hx182_0
                           (try have hy182_0 := fun (n_ : Nat) => (show ((((w85.drewN n_).setCell ⟨gb162, 0, none⟩ (.int .u8 (rd aLL (ji47)))).setCell ⟨gb162, 1, none⟩ (.int .u8 (rd aHL (ji47))))).cell? _ = some _ from hx182_0))
                           clear hn182_0
                           clear hn182_1
                           replace p182 := eq_true p182
                           replace q182 := eq_true q182
                           have p183 : 0 ≤ (3 : Int) := (by omega)
                           have q183 : 3 < (x0_1.length : Int) := of_decide_eq_true (by first | (with_reducible assumption) | assumption)
                           obtain ⟨ad183, e183, hx183_0⟩ := Kd.at_int (Kd.V_reads' HO_0.out).2.2 3 p183 q183
                           obtain rfl : ad114 = ad183 := (by injection e183)
                           (try simp only [show (3 : Int).toNat = 3 from rfl, Nat.reduceMul, Nat.reduceEqDiff, Go.Addr.add, ↓reduceIte] at hx183_0)
                           have qi183 : (3 < x0_1.length) = True := eq_true (by omega)
                           (try rw [show ((3 : Int)).toNat = 3 from rfl] at hx183_0)
                           have hn183_0 : ad114.block ≠ gb162 := V_ne_of HO_0.out (fun _ hk => hk.2) (by omega) (by decide)
                           have hn183_1 : ad114.block ≠ gb162 := V_ne_of HO_0.out (fun _ hk => hk.2) (by omega) (by decide)
                           replace hx183_0 := (cell_far (p := ⟨gb162, 0, none⟩) (by first | (rw [add_block]; exact hn183_0) | (show (Addr.add _ _).block ≠ _; rw [add_block]; exact hn183_0) | exact hn183_0) (.int .u8 (rd aLL (ji47)))).trans hx183_0
                           replace hx183_0 := (cell_far (p := ⟨gb162, 1, none⟩) (by first | (rw [add_block]; exact hn183_1) | (show (Addr.add _ _).block ≠ _; rw [add_block]; exact hn183_1) | exact hn183_1) (.int .u8 (rd aHL (ji47)))).trans hx183_0
                           (try have hy183_0 := fun (n_ : Nat) => (show ((((w85.drewN n_).setCell ⟨gb162, 0, none⟩ (.int .u8 (rd aLL (ji47)))).setCell ⟨gb162, 1, none⟩ (.int .u8 (rd aHL (ji47))))).cell? _ = some _ from hx183_0))
                           clear hn183_0
                           clear hn183_1
                           replace p183 := eq_true p183
                           replace q183 := eq_true q183
                           go_wp2
                           repeat (go_quiet (fail); try go_wp2)
                           go_meet
                           case rel => exact ⟨_, (true), (by first | rfl | (simp; done) | (simp [*]; done)), H', ⟨by have := HK1.out; first | omega | exact Nat.le_refl _⟩, ⟨by (with_reducible repeat (first | apply Kd.V_alloc | apply Kd.V_drewN | apply Kd.V_drew)); exact Kd.V_mono (Kd.V_far (p := ⟨gb162, 1, none⟩) (Kd.V_far (p := ⟨gb162, 0, none⟩) (Kd.V_mono HO_0.out (fun k_ hk => (⟨hk, hk.2⟩ : _ ∧ k_ ≠ gb162))) (fun _ hk => hk.2) (.int .u8 (rd aLL (ji47)))) (fun _ hk => hk.2) (.int .u8 (rd aHL (ji47)))) (fun _ hk => ⟨hk.1.1, hk.1.2⟩)⟩, ⟨by (with_reducible repeat (first | refine blk_drewN ?_ _ | refine blk_drew ?_ | refine blk_alloc ?_ _)); refine blk_put (cs := #[.int .u8 (rd aLL (ji47)), .int .u8 0]) ?_ 1 _ rfl; (with_reducible repeat (first | refine blk_drewN ?_ _ | refine blk_drew ?_ | refine blk_alloc ?_ _)); refine blk_put (cs := #[.int .u8 0, .int .u8 0]) ?_ 0 _ rfl; (with_reducible repeat (first | refine blk_drewN ?_ _ | refine blk_drew ?_ | refine blk_alloc ?_ _)); exact BK162.out⟩, ⟨by repeat (first | (with_reducible first | exact HB.out | apply below_alloc | apply pw_below_drewN | apply below_drew1 | refine below_set ?_ GE162.out) | exact HB.out)⟩⟩
                          ·rw [if_neg c99] at H
                           have c99b0 : decide ((rd x0_1 3) < 128) = false := decide_eq_false c99
                           clear c99
                           have H' := Aside0.mk H
                           clear H
                           have p179 : 0 ≤ (1 : Int) := (by omega)
                           have q179 : 1 < (x0_1.length : Int) := of_decide_eq_true (by first | (with_reducible assumption) | assumption)
                           obtain ⟨ad179, e179, hx179_0⟩ := Kd.at_int (Kd.V_reads' HO_0.out).2.2 1 p179 q179
                           obtain rfl : ad114 = ad179 := (by injection e179)
                           (try simp only [show (1 : Int).toNat = 1 from rfl, Nat.reduceMul, Nat.reduceEqDiff, Go.Addr.add, ↓reduceIte] at hx179_0)
                           have qi179 : (1 < x0_1.length) = True := eq_true (by omega)
                           (try rw [show ((1 : Int)).toNat = 1 from rfl] at hx179_0)
                           have hn179_0 : ad114.block ≠ gb162 := V_ne_of HO_0.out (fun _ hk => hk.2) (by omega) (by decide)
                           have hn179_1 : ad114.block ≠ gb162 := V_ne_of HO_0.out (fun _ hk => hk.2) (by omega) (by decide)
                           replace hx179_0 := (cell_far (p := ⟨gb162, 0, none⟩) (by first | (rw [add_block]; exact hn179_0) | (show (Addr.add _ _).block ≠ _; rw [add_block]; exact hn179_0) | exact hn179_0) (.int .u8 (rd aLL (ji47)))).trans hx179_0
                           replace hx179_0 := (cell_far (p := ⟨gb162, 1, none⟩) (by first | (rw [add_block]; exact hn179_1) | (show (Addr.add _ _).block ≠ _; rw [add_block]; exact hn179_1) | exact hn179_1) (.int .u8 (rd aHL (ji47)))).trans hx179_0
                           (try have hy179_0 := fun (n_ : Nat) => (show ((((w85.drewN n_).setCell ⟨gb162, 0, none⟩ (.int .u8 (rd aLL (ji47)))).setCell ⟨gb162, 1, none⟩ (.int .u8 (rd aHL (ji47))))).cell? _ = some _ from hx179_0))
                           clear hn179_0
                           clear hn179_1
                           replace p179 := eq_true p179
                           replace q179 := eq_true q179
                           have hcz101_0 : w85.cell? ⟨gb162, 0, none⟩ = some (.int .u8 0) := (blk_cell BK162.out 0).trans rfl
                           have hcz101_1 : w85.cell? ⟨gb162, 1, none⟩ = some (.int .u8 0) := (blk_cell BK162.out 1).trans rfl
                           have hfz101_0 := blk_frozen BK162.out 0
                           have hfz101_1 := blk_frozen BK162.out 1
                           have p180 : 0 ≤ (1 : Int) := (by omega)
                           have q180 : 1 < (x0_1.length : Int) := of_decide_eq_true (by first | (with_reducible assumption) | assumption)
                           obtain ⟨ad180, e180, hx180_0⟩ := Kd.at_int (Kd.V_reads' HO_0.out).2.2 1 p180 q180
                           obtain rfl : ad114 = ad180 := (by injection e180)
                           (try simp only [show (1 : Int).toNat = 1 from rfl, Nat.reduceMul, Nat.reduceEqDiff, Go.Addr.add, ↓reduceIte] at hx180_0)
                           have qi180 : (1 < x0_1.length) = True := eq_true (by omega)
                           (try rw [show ((1 : Int)).toNat = 1 from rfl] at hx180_0)
                           have hn180_0 : ad114.block ≠ gb162 := V_ne_of HO_0.out (fun _ hk => hk.2) (by omega) (by decide)
                           have hn180_1 : ad114.block ≠ gb162 := V_ne_of HO_0.out (fun _ hk => hk.2) (by omega) (by decide)
                           replace hx180_0 := (cell_far (p := ⟨gb162, 0, none⟩) (by first | (rw [add_block]; exact hn180_0) | (show (Addr.add _ _).block ≠ _; rw [add_block]; exact hn180_0) | exact hn180_0) (.int .u8 (rd aLL (ji47)))).trans hx180_0
                           replace hx180_0 := (cell_far (p := ⟨gb162, 1, none⟩) (by first | (rw [add_block]; exact hn180_1) | (show (Addr.add _ _).block ≠ _; rw [add_block]; exact hn180_1) | exact hn180_1) (.int .u8 (rd aHL (ji47)))).trans hx180_0
                           (try have hy180_0 := fun (n_ : Nat) => (show ((((w85.drewN n_).setCell ⟨gb162, 0, none⟩ (.int .u8 (rd aLL (ji47)))).setCell ⟨gb162, 1, none⟩ (.int .u8 (rd aHL (ji47))))).cell? _ = some _ from hx180_0))
                           clear hn180_0
                           clear hn180_1
                           replace p180 := eq_true p180
                           replace q180 := eq_true q180
                           have p181 : 0 ≤ (2 : Int) := (by omega)
                           have q181 : 2 < (x0_1.length : Int) := of_decide_eq_true (by first | (with_reducible assumption) | assumption)
                           obtain ⟨ad181, e181, hx181_0⟩ := Kd.at_int (Kd.V_reads' HO_0.out).2.2 2 p181 q181
                           obtain rfl : ad114 = ad181 := (by injection e181)
                           (try simp only [show (2 : Int).toNat = 2 from rfl, Nat.reduceMul, Nat.reduceEqDiff, Go.Addr.add, ↓reduceIte] at hx181_0)
                           have qi181 : (2 < x0_1.length) = True := eq_true (by omega)
                           (try rw [show ((2 : Int)).toNat = 2 from rfl] at hx181_0)
                           have hn181_0 : ad114.block ≠ gb162 := V_ne_of HO_0.out (fun _ hk => hk.2) (by omega) (by decide)
                           have hn181_1 : ad114.block ≠ gb162 := V_ne_of HO_0.out (fun _ hk => hk.2) (by omega) (by decide)
                           replace hx181_0 := (cell_far (p := ⟨gb162, 0, none⟩) (by first | (rw [add_block]; exact hn181_0) | (show (Addr.add _ _).block ≠ _; rw [add_block]; exact hn181_0) | exact hn181_0) (.int .u8 (rd aLL (ji47)))).trans hx181_0
                           replace hx181_0 := (cell_far (p := ⟨gb162, 1, none⟩) (by first | (rw [add_block]; exact hn181_1) | (show (Addr.add _ _).block ≠ _; rw [add_block]; exact hn181_1) | exact hn181_1) (.int .u8 (rd aHL (ji47)))).trans hx181_0
                           (try have hy181_0 := fun (n_ : Nat) => (show ((((w85.drewN n_).setCell ⟨gb162, 0, none⟩ (.int .u8 (rd aLL (ji47)))).setCell ⟨gb162, 1, none⟩ (.int .u8 (rd aHL (ji47))))).cell? _ = some _ from hx181_0))
                           clear hn181_0
                           clear hn181_1
                           replace p181 := eq_true p181
                           replace q181 := eq_true q181
                           have p182 : 0 ≤ (2 : Int) := (by omega)
                           have q182 : 2 < (x0_1.length : Int) := of_decide_eq_true (by first | (with_reducible assumption) | assumption)
                           obtain ⟨ad182, e182, hx182_0⟩ := Kd.at_int (Kd.V_reads' HO_0.out).2.2 2 p182 q182
                           obtain rfl : ad114 = ad182 := (by injection e182)
                           (try simp only [show (2 : Int).toNat = 2 from rfl, Nat.reduceMul, Nat.reduceEqDiff, Go.Addr.add, ↓reduceIte] at hx182_0)
                           have qi182 : (2 < x0_1.length) = True := eq_true (by omega)
                           (try rw [show ((2 : Int)).toNat = 2 from rfl] at hx182_0)
                           have hn182_0 : ad114.block ≠ gb162 := V_ne_of HO_0.out (fun _ hk => hk.2) (by omega) (by decide)
                           have hn182_1 : ad114.block ≠ gb162 := V_ne_of HO_0.out (fun _ hk => hk.2) (by omega) (by decide)
                           replace hx182_0 := (cell_far (p := ⟨gb162, 0, none⟩) (by first | (rw [add_block]; exact hn182_0) | (show (Addr.add _ _).block ≠ _; rw [add_block]; exact hn182_0) | exact hn182_0) (.int .u8 (rd aLL (ji47)))).trans hx182_0
                           replace hx182_0 := (cell_far (p := ⟨gb162, 1, none⟩) (by first | (rw [add_block]; exact hn182_1) | (show (Addr.add _ _).block ≠ _; rw [add_block]; exact hn182_1) | exact hn182_1) (.int .u8 (rd aHL (ji47)))).trans hx182_0
                           (try have hy182_0 := fun (n_ : Nat) => (show ((((w85.drewN n_).setCell ⟨gb162, 0, none⟩ (.int .u8 (rd aLL (ji47)))).setCell ⟨gb162, 1, none⟩ (.int .u8 (rd aHL (ji47))))).cell? _ = some _ from hx182_0))
                           clear hn182_0
                           clear hn182_1
                           replace p182 := eq_true p182
                           replace q182 := eq_true q182
                           have p183 : 0 ≤ (3 : Int) := (by omega)
                           have q183 : 3 < (x0_1.length : Int) := of_decide_eq_true (by first | (with_reducible assumption) | assumption)
                           obtain ⟨ad183, e183, hx183_0⟩ := Kd.at_int (Kd.V_reads' HO_0.out).2.2 3 p183 q183
                           obtain rfl : ad114 = ad183 := (by injection e183)
                           (try simp only [show (3 : Int).toNat = 3 from rfl, Nat.reduceMul, Nat.reduceEqDiff, Go.Addr.add, ↓reduceIte] at hx183_0)
                           have qi183 : (3 < x0_1.length) = True := eq_true (by omega)
                           (try rw [show ((3 : Int)).toNat = 3 from rfl] at hx183_0)
                           have hn183_0 : ad114.block ≠ gb162 := V_ne_of HO_0.out (fun _ hk => hk.2) (by omega) (by decide)
                           have hn183_1 : ad114.block ≠ gb162 := V_ne_of HO_0.out (fun _ hk => hk.2) (by omega) (by decide)
                           replace hx183_0 := (cell_far (p := ⟨gb162, 0, none⟩) (by first | (rw [add_block]; exact hn183_0) | (show (Addr.add _ _).block ≠ _; rw [add_block]; exact hn183_0) | exact hn183_0) (.int .u8 (rd aLL (ji47)))).trans hx183_0
                           replace hx183_0 := (cell_far (p := ⟨gb162, 1, none⟩) (by first | (rw [add_block]; exact hn183_1) | (show (Addr.add _ _).block ≠ _; rw [add_block]; exact hn183_1) | exact hn183_1) (.int .u8 (rd aHL (ji47)))).trans hx183_0
                           (try have hy183_0 := fun (n_ : Nat) => (show ((((w85.drewN n_).setCell ⟨gb162, 0, none⟩ (.int .u8 (rd aLL (ji47)))).setCell ⟨gb162, 1, none⟩ (.int .u8 (rd aHL (ji47))))).cell? _ = some _ from hx183_0))
                           clear hn183_0
                           clear hn183_1
                           replace p183 := eq_true p183
                           replace q183 := eq_true q183
                           have p184 : 0 ≤ (3 : Int) := (by omega)
                           have q184 : 3 < (x0_1.length : Int) := of_decide_eq_true (by first | (with_reducible assumption) | assumption)
                           obtain ⟨ad184, e184, hx184_0⟩ := Kd.at_int (Kd.V_reads' HO_0.out).2.2 3 p184 q184
                           obtain rfl : ad114 = ad184 := (by injection e184)
                           (try simp only [show (3 : Int).toNat = 3 from rfl, Nat.reduceMul, Nat.reduceEqDiff, Go.Addr.add, ↓reduceIte] at hx184_0)
                           have qi184 : (3 < x0_1.length) = True := eq_true (by omega)
                           (try rw [show ((3 : Int)).toNat = 3 from rfl] at hx184_0)
                           have hn184_0 : ad114.block ≠ gb162 := V_ne_of HO_0.out (fun _ hk => hk.2) (by omega) (by decide)
                           have hn184_1 : ad114.block ≠ gb162 := V_ne_of HO_0.out (fun _ hk => hk.2) (by omega) (by decide)
                           replace hx184_0 := (cell_far (p := ⟨gb162, 0, none⟩) (by first | (rw [add_block]; exact hn184_0) | (show (Addr.add _ _).block ≠ _; rw [add_block]; exact hn184_0) | exact hn184_0) (.int .u8 (rd aLL (ji47)))).trans hx184_0
                           replace hx184_0 := (cell_far (p := ⟨gb162, 1, none⟩) (by first | (rw [add_block]; exact hn184_1) | (show (Addr.add _ _).block ≠ _; rw [add_block]; exact hn184_1) | exact hn184_1) (.int .u8 (rd aHL (ji47)))).trans hx184_0
                           (try have hy184_0 := fun (n_ : Nat) => (show ((((w85.drewN n_).setCell ⟨gb162, 0, none⟩ (.int .u8 (rd aLL (ji47)))).setCell ⟨gb162, 1, none⟩ (.int .u8 (rd aHL (ji47))))).cell? _ = some _ from hx184_0))
                           clear hn184_0
                           clear hn184_1
                           replace p184 := eq_true p184
                           replace q184 := eq_true q184
                           go_wp2
                           repeat (go_quiet (fail); try go_wp2)
                           go_meet
                           case rel => exact ⟨_, (decide (191 < (rd x0_1 3))), (by first | rfl | (simp; done) | (simp [*]; done)), H', ⟨by have := HK1.out; first | omega | exact Nat.le_refl _⟩, ⟨by (with_reducible repeat (first | apply Kd.V_alloc | apply Kd.V_drewN | apply Kd.V_drew)); exact Kd.V_mono (Kd.V_far (p := ⟨gb162, 1, none⟩) (Kd.V_far (p := ⟨gb162, 0, none⟩) (Kd.V_mono HO_0.out (fun k_ hk => (⟨hk, hk.2⟩ : _ ∧ k_ ≠ gb162))) (fun _ hk => hk.2) (.int .u8 (rd aLL (ji47)))) (fun _ hk => hk.2) (.int .u8 (rd aHL (ji47)))) (fun _ hk => ⟨hk.1.1, hk.1.2⟩)⟩, ⟨by (with_reducible repeat (first | refine blk_drewN ?_ _ | refine blk_drew ?_ | refine blk_alloc ?_ _)); refine blk_put (cs := #[.int .u8 (rd aLL (ji47)), .int .u8 0]) ?_ 1 _ rfl; (with_reducible repeat (first | refine blk_drewN ?_ _ | refine blk_drew ?_ | refine blk_alloc ?_ _)); refine blk_put (cs := #[.int .u8 0, .int .u8 0]) ?_ 0 _ rfl; (with_reducible repeat (first | refine blk_drewN ?_ _ | refine blk_drew ?_ | refine blk_alloc ?_ _)); exact BK162.out⟩, ⟨by repeat (first | (with_reducible first | exact HB.out | apply below_alloc | apply pw_below_drewN | apply below_drew1 | refine below_set ?_ GE162.out) | exact HB.out)⟩⟩
                         ·rw [if_neg c98] at H
                          exact absurd H (by simp)
                      ·rw [if_neg c93] at H
                       exact absurd H (by simp)
                   ·rw [if_neg c88] at H
                    exact absurd H (by simp)
                case rest =>
                 as_aux_lemma =>
                  clear HC83
                  try clear c1
                  try clear p1
                  try clear q1
                  try clear hx1
                  try clear qi1
                  try clear p2
                  try clear q2
                  try clear q3
                  try clear p4
                  try clear q4
                  try clear hx4
                  try clear p5
                  try clear q5
                  try clear hx5
                  try clear c6
                  try clear p6
                  try clear q6
                  try clear c7
                  try clear c8
                  try clear q8
                  try clear c9
                  try clear p11
                  try clear q11
                  try clear hx11
                  try clear qi11
                  try clear q16
                  try clear p17
                  try clear q17
                  try clear hx17
                  try clear qi17
                  try clear p18
                  try clear q18
                  try clear hx18
                  try clear qi18
                  try clear q22
                  try clear q25
                  try clear q36
                  try clear q37
                  try clear q38
                  try clear q42
                  try clear p46
                  try clear q46
                  try clear hx46
                  try clear p50
                  try clear q50
                  try clear hx50
                  try clear q63
                  try clear c64
                  try clear c64b0
                  try clear c64b1
                  try clear p64
                  try clear c79
                  try clear c80
                  try clear c80b0
                  try clear c80b1
                  try clear c81
                  try clear q81
                  try clear c82
                  try clear c82b0
                  try clear c82b1
                  try clear c87
                  try clear c87b0
                  try clear c87b1
                  try clear c88
                  try clear c88b0
                  try clear c88b1
                  try clear c89
                  try clear c89b0
                  try clear c91
                  try clear c91b0
                  try clear c93
                  try clear c93b0
                  try clear c93b1
                  try clear c94
                  try clear c94b0
                  try clear c96
                  try clear c96b0
                  try clear c98
                  try clear c98b0
                  try clear c98b1
                  try clear c99
                  try clear c99b0
                  try clear hcz100_0
                  try clear hcz100_1
                  try clear hcz101_0
                  try clear hcz101_1
                  try clear hcz86_0
                  try clear hcz86_1
                  try clear hcz90_0
                  try clear hcz90_1
                  try clear hcz92_0
                  try clear hcz92_1
                  try clear hcz95_0
                  try clear hcz95_1
                  try clear hcz97_0
                  try clear hcz97_1
                  try clear hfz100_0
                  try clear hfz100_1
                  try clear hfz101_0
                  try clear hfz101_1
                  try clear hfz86_0
                  try clear hfz86_1
                  try clear hfz90_0
                  try clear hfz90_1
                  try clear hfz92_0
                  try clear hfz92_1
                  try clear hfz95_0
                  try clear hfz95_1
                  try clear hfz97_0
                  try clear hfz97_1
                  try clear hx114_0
                  try clear hx179_0
                  try clear hx180_0
                  try clear hx181_0
                  try clear hx182_0
                  try clear hx183_0
                  try clear hx184_0
                  try clear hx46_0
                  try clear hx50_0
                  try clear hx50_1
                  try clear p114
                  try clear p179
                  try clear p180
                  try clear p181
                  try clear p182
                  try clear p183
                  try clear p184
                  try clear p46
                  try clear p50
                  try clear p6
                  try clear q1
                  try clear q11
                  try clear q114
                  try clear q16
                  try clear q163
                  try clear q164
                  try clear q17
                  try clear q170
                  try clear q171
                  try clear q172
                  try clear q173
                  try clear q179
                  try clear q180
                  try clear q181
                  try clear q182
                  try clear q183
                  try clear q184
                  try clear q2
                  try clear q22
                  try clear q25
                  try clear q3
                  try clear q36
                  try clear q37
                  try clear q38
                  try clear q4
                  try clear q42
                  try clear q46
                  try clear q5
                  try clear q50
                  try clear q63
                  try clear q81
                  obtain ⟨kq, x185_82, rfl, HA, HJ82, HO_0, BK162, HB⟩ := hcut
                  cases kq with
                  | zero => exact absurd HA.out (by simp [utf8_Valid.j7])
                  | succ kj82 =>
                   have H := HA.out
                   clear HA
                   simp only [utf8_Valid.j7] at H
                   by_cases c102 : x185_82 = true
                   ·subst c102
                    have H1 : (some false) = some r := by rw [if_pos rfl] at H; exact H
                    clear H
                    have H := H1
                    clear H1
                    obtain rfl := Option.some.inj H
                    go_wp2
                    repeat (go_quiet (fail); try go_wp2)
                    go_ret
                    exact ⟨by first | rfl | (simp [errW_none, errW_some] <;> rfl) | (simp only [← hji47]; first | rfl | (simp [errW_none, errW_some] <;> rfl)) | (simp [*, errW_none, errW_some] <;> rfl), by repeat (first | (with_reducible first | exact HB.out | apply below_alloc | apply pw_below_drewN | apply below_drew1 | refine below_set ?_ GE162.out) | exact HB.out)⟩
                   ·replace c102 := Bool.eq_false_iff.mpr c102
                    subst c102
                    have H1 : (if 4 ≤ (x0_1.length : Int) then (utf8_Valid.l0 kj82 (x0_1.drop 4)) else (none)) = some r := by rw [if_neg (show ¬ (false = true) by decide)] at H; exact H
                    clear H
                    have H := H1
                    clear H1
                    by_cases c103 : 4 ≤ (x0_1.length : Int)
                    ·rw [if_pos c103] at H
                     have c103b0 := eq_true c103
                     have c103b1 : decide (4 ≤ (x0_1.length : Int)) = true := decide_eq_true c103
                     clear c103
                     obtain ⟨y185, hy185⟩ : ∃ y_ : List Int, y_ = (x0_1.drop 4) := ⟨_, rfl⟩
                     replace H : (utf8_Valid.l0 kj82 y185) = some r := by first | (rw [hy185]; with_reducible exact H) | (have H2_ := (Option.bind_some _ _).symm.trans H; rw [hy185]; with_reducible exact H2_) | (have H2_ := (Option.bind_some _ _).symm.trans H; with_reducible exact H2_) | with_reducible exact H | (rw [hy185]; exact H) | exact H
                     have Ny185 := Aside0.mk hy185
                     clear hy185
                     have H' := Aside0.mk H
                     clear H
                     have q104 : (4 : Int) ≤ ((x0_1.length : Int) : Int) := of_decide_eq_true (by first | (with_reducible assumption) | assumption)
                     obtain ⟨i0104, hi0104, _, hsz104, _⟩ := info_parts info5
                     have hroom104 : x0_1.length ≤ co84 := (Kd.V_reads' HO_0.out).2.1
                     have hC104 : Kd.F (Kd.int .u8) _ _ (some ad114) x0_1.length x0_1 := (Kd.V_at (base := w.heap.size) HO_0.out).2.2
                     have hcut104 := cut_from (P := Tryd.prog) 22 5 .i64 Tryd.underlying22 hi0104 1 hsz104 (some ad114) x0_1.length co84 4 (by omega) q104
                     have hr104 := Kd.F_cut (m := (4 : Int).toNat) (c := co84) hC104 (by omega) hroom104
                     obtain ⟨A104, hA104⟩ : ∃ A1, A1 = (if co84 = (4 : Int).toNat then (some ad114) else ((some ad114) : Option Addr).map (·.add ((4 : Int).toNat * 1))) := ⟨_, rfl⟩
                     obtain ⟨c104, hc104⟩ : ∃ c1, c1 = co84 - (4 : Int).toNat := ⟨_, rfl⟩
                     have hy104 : y185.length = x0_1.length - (4 : Int).toNat := (by rw [Ny185.out, List.length_drop] <;> omega)
                     rw [show (x0_1).drop (4 : Int).toNat = y185 from Ny185.out.symm] at hr104
                     replace hr104 : Kd.F (Kd.int .u8) _ _ A104 y185.length y185 := (by rw [hA104]; exact hr104)
                     rw [← hy104, ← hA104, ← hc104] at hcut104
                     have HO189 := Aside0.mk (show Kd.V (Kd.int .u8) 5 _ w.heap.size _ (.slice A104 y185.length c104) y185 from Kd.V_mk (by rw [hy104, hc104]; exact Nat.sub_le_sub_right hroom104 _) hr104)
                     have HC189 := Aside0.mk (show y185.length ≤ c104 from by rw [hy104, hc104]; exact Nat.sub_le_sub_right hroom104 _)
                     clear hr104 hC104 hroom104 hi0104 hsz104 hc104
                     have KY104 := Aside0.mk hy104
                     have KA104 := Aside0.mk hA104
                     clear hy104 hA104
                     replace q104 := eq_true q104
                     go_wp2
                     repeat (go_quiet (fail); try go_wp2)
                     go_roundg kj82
                     case measure => have := HK1.out; have := HJ82.out; omega
                     case rel => exact ⟨(y185), H', ⟨by have := HK1.out; have := HJ82.out; omega⟩, ⟨by (with_reducible repeat (first | apply Kd.V_alloc | apply Kd.V_drewN | apply Kd.V_drew)); exact Kd.V_mono HO189.out (fun _ hk => hk.1)⟩, ⟨by repeat (first | (with_reducible first | exact HB.out | apply below_alloc | apply pw_below_drewN | apply below_drew1 | refine below_set ?_ GE162.out) | exact HB.out)⟩⟩
                    ·rw [if_neg c103] at H
                     exact absurd H (by simp)
               ·rw [if_neg c82] at H
                have c82b0 : ((wrap64 (Go.bits .and .u8 (rd uFL (rd x0_1 0)) 7)) == 4) = false := beq_eq_false_iff_ne.mpr c82
                have c82b1 : ((wrap64 (Go.bits .and .u8 (rd uFL (rd x0_1 0)) 7)) != 4) = true := bne_iff_ne.mpr c82
                obtain rfl := Option.some.inj H
                obtain ⟨Ao105, co105, eo105⟩ := Kd.V_slice HO_0.out
                subst eo105
                have p114 : 0 ≤ (0 : Int) := (by omega)
                have q114 : 0 < (x0_1.length : Int) := of_decide_eq_true (by first | (with_reducible assumption) | assumption)
                obtain ⟨ad114, e114, hx114_0⟩ := Kd.at_int (Kd.V_reads' HO_0.out).2.2 0 p114 q114
                cases e114
                have qi114 : (0 < x0_1.length) = True := eq_true (by omega)
                (try rw [show ((0 : Int)).toNat = 0 from rfl] at hx114_0)
                (try rw [Addr.add_zero'] at hx114_0)
                replace p114 := eq_true p114
                replace q114 := eq_true q114
                have p46 : 0 ≤ ((rd x0_1 0) : Int) := of_decide_eq_true (by first | (with_reducible assumption) | assumption)
                have q46 : ((rd x0_1 0) : Int) < 256 := of_decide_eq_true (by first | (with_reducible assumption) | assumption)
                have hx46_0 := HT.out.uF (rd x0_1 0) p46 q46
                (try replace hx46_0 := (HB.out.cell (World.block_lt_of_cell? _ _ hx46_0)).trans hx46_0)
                replace p46 := eq_true p46
                replace q46 := eq_true q46
                have p50 : 0 ≤ ((ji47) : Int) := of_decide_eq_true (by first | (with_reducible assumption) | assumption)
                have q50 : ((ji47) : Int) < 16 := of_decide_eq_true (by first | (with_reducible assumption) | assumption)
                have hx50_0 := HT.out.aL (ji47) p50 q50
                (try replace hx50_0 := (HB.out.cell (World.block_lt_of_cell? _ _ hx50_0)).trans hx50_0)
                have hx50_1 := HT.out.aH (ji47) p50 q50
                (try replace hx50_1 := (HB.out.cell (World.block_lt_of_cell? _ _ hx50_1)).trans hx50_1)
                replace p50 := eq_true p50
                replace q50 := eq_true q50
                go_wp2_with (first | ((with_reducible refine gate_dst (N := 6) rfl ?_); refine box_event ?hg (N := 6) ?hd (cs := #[.int .u8 0, .int .u8 0]) (t := 59) ?hr ?_; (case hd => rfl); (case hg => rfl); (case hr => first | (go_simp; done) | (go_simp; rfl)); intro gb162 hg w106 hbox hb; have n0_ := Aside0.mk (Kd.V_below (Kd.V_elderB (by (with_reducible repeat (first | apply Kd.V_alloc | apply Kd.V_drewN | apply Kd.V_drew)); exact HO_0.out) gb162 (Nat.le_of_eq hg.symm)) hb); have n1_ := Aside0.mk (below_step (by repeat (first | (with_reducible first | exact HB.out | apply below_alloc | apply pw_below_drewN | apply below_drew1) | exact HB.out)) hb); have n2_ := Aside0.mk (hbox); have n3_ := Aside0.mk ((by rw [hg]; exact (below_size (by repeat (first | (with_reducible first | exact HB.out | apply below_alloc | apply pw_below_drewN | apply below_drew1) | exact HB.out))) : w.heap.size ≤ gb162)); have n4_ := Aside0.mk ((by rw [hg]; exact (below_size (by repeat (first | (with_reducible first | exact HB.out | apply below_alloc | apply pw_below_drewN | apply below_drew1) | exact HB.out))) : w.heap.size ≤ gb162)); clear HO_0; clear HB; have HO_0 := n0_; have HB := n1_; have BK162 := n2_; have GW162 := n3_; have GE162 := n4_; clear n0_ n1_ n2_ n3_ n4_; clear hb hbox hg; have hcz107_0 : w106.cell? ⟨gb162, 0, none⟩ = some (.int .u8 0) := (blk_cell BK162.out 0).trans rfl; have hcz107_1 : w106.cell? ⟨gb162, 1, none⟩ = some (.int .u8 0) := (blk_cell BK162.out 1).trans rfl; have hfz107_0 := blk_frozen BK162.out 0; have hfz107_1 := blk_frozen BK162.out 1))
                repeat (go_quiet (first | ((with_reducible refine gate_dst (N := 6) rfl ?_); refine box_event ?hg (N := 6) ?hd (cs := #[.int .u8 0, .int .u8 0]) (t := 59) ?hr ?_; (case hd => rfl); (case hg => rfl); (case hr => first | (go_simp; done) | (go_simp; rfl)); intro gb162 hg w106 hbox hb; have n0_ := Aside0.mk (Kd.V_below (Kd.V_elderB (by (with_reducible repeat (first | apply Kd.V_alloc | apply Kd.V_drewN | apply Kd.V_drew)); exact HO_0.out) gb162 (Nat.le_of_eq hg.symm)) hb); have n1_ := Aside0.mk (below_step (by repeat (first | (with_reducible first | exact HB.out | apply below_alloc | apply pw_below_drewN | apply below_drew1) | exact HB.out)) hb); have n2_ := Aside0.mk (hbox); have n3_ := Aside0.mk ((by rw [hg]; exact (below_size (by repeat (first | (with_reducible first | exact HB.out | apply below_alloc | apply pw_below_drewN | apply below_drew1) | exact HB.out))) : w.heap.size ≤ gb162)); have n4_ := Aside0.mk ((by rw [hg]; exact (below_size (by repeat (first | (with_reducible first | exact HB.out | apply below_alloc | apply pw_below_drewN | apply below_drew1) | exact HB.out))) : w.heap.size ≤ gb162)); clear HO_0; clear HB; have HO_0 := n0_; have HB := n1_; have BK162 := n2_; have GW162 := n3_; have GE162 := n4_; clear n0_ n1_ n2_ n3_ n4_; clear hb hbox hg; have hcz107_0 : w106.cell? ⟨gb162, 0, none⟩ = some (.int .u8 0) := (blk_cell BK162.out 0).trans rfl; have hcz107_1 : w106.cell? ⟨gb162, 1, none⟩ = some (.int .u8 0) := (blk_cell BK162.out 1).trans rfl; have hfz107_0 := blk_frozen BK162.out 0; have hfz107_1 := blk_frozen BK162.out 1)); try go_wp2_with (first | ((with_reducible refine gate_dst (N := 6) rfl ?_); refine box_event ?hg (N := 6) ?hd (cs := #[.int .u8 0, .int .u8 0]) (t := 59) ?hr ?_; (case hd => rfl); (case hg => rfl); (case hr => first | (go_simp; done) | (go_simp; rfl)); intro gb162 hg w106 hbox hb; have n0_ := Aside0.mk (Kd.V_below (Kd.V_elderB (by (with_reducible repeat (first | apply Kd.V_alloc | apply Kd.V_drewN | apply Kd.V_drew)); exact HO_0.out) gb162 (Nat.le_of_eq hg.symm)) hb); have n1_ := Aside0.mk (below_step (by repeat (first | (with_reducible first | exact HB.out | apply below_alloc | apply pw_below_drewN | apply below_drew1) | exact HB.out)) hb); have n2_ := Aside0.mk (hbox); have n3_ := Aside0.mk ((by rw [hg]; exact (below_size (by repeat (first | (with_reducible first | exact HB.out | apply below_alloc | apply pw_below_drewN | apply below_drew1) | exact HB.out))) : w.heap.size ≤ gb162)); have n4_ := Aside0.mk ((by rw [hg]; exact (below_size (by repeat (first | (with_reducible first | exact HB.out | apply below_alloc | apply pw_below_drewN | apply below_drew1) | exact HB.out))) : w.heap.size ≤ gb162)); clear HO_0; clear HB; have HO_0 := n0_; have HB := n1_; have BK162 := n2_; have GW162 := n3_; have GE162 := n4_; clear n0_ n1_ n2_ n3_ n4_; clear hb hbox hg; have hcz107_0 : w106.cell? ⟨gb162, 0, none⟩ = some (.int .u8 0) := (blk_cell BK162.out 0).trans rfl; have hcz107_1 : w106.cell? ⟨gb162, 1, none⟩ = some (.int .u8 0) := (blk_cell BK162.out 1).trans rfl; have hfz107_0 := blk_frozen BK162.out 0; have hfz107_1 := blk_frozen BK162.out 1)))
                go_ret
                exact ⟨by first | rfl | (simp [errW_none, errW_some] <;> rfl) | (simp only [← hji47]; first | rfl | (simp [errW_none, errW_some] <;> rfl)) | (simp [*, errW_none, errW_some] <;> rfl), by repeat (first | (with_reducible first | exact HB.out | apply below_alloc | apply pw_below_drewN | apply below_drew1 | refine below_set ?_ GE162.out) | exact HB.out)⟩
            ·rw [if_neg c49] at H
             exact absurd H (by simp)
           ·rw [if_neg c48] at H
            exact absurd H (by simp)
          ·rw [if_neg c45] at H
           exact absurd H (by simp)
         ·rw [if_neg c44] at H
          exact absurd H (by simp)
       ·rw [if_neg c6] at H
        exact absurd H (by simp)
      ·rw [if_neg c5] at H
       have c5b0 : decide (0 < (x0_1.length : Int)) = false := decide_eq_false c5
       have c5b1 : decide (0 < x0_1.length) = false := decide_eq_false (by omega)
       clear c5
       obtain rfl := Option.some.inj H
       obtain ⟨Ao108, co108, eo108⟩ := Kd.V_slice HO_0.out
       subst eo108
       go_wp2
       repeat (go_quiet (fail); try go_wp2)
       go_ret
       exact ⟨by first | rfl | (simp [errW_none, errW_some] <;> rfl) | (simp [*, errW_none, errW_some] <;> rfl), by repeat (first | (with_reducible first | exact HB.out | apply below_alloc | apply pw_below_drewN | apply below_drew1) | exact HB.out)⟩
  ·rw [if_neg c3] at H
   exact absurd H (by simp)
 ·rw [if_neg c2] at H
  exact absurd H (by simp)

end Go.Proofs.YtcnmpciohpcpiaaDoor.P
