-- Printed by a program of this session (wip/patch-print.py over the kit's print): Lean checks it.
import Derived.Test.YtfbdmgdbamjjhaaDoorPx0
import Derived.Test.YtfbdmgdbamjjhaaDoorPx18
namespace Go.Proofs.YtfbdmgdbamjjhaaDoor.P
open Go.Proofs.YtfbdmgdbamjjhaaDoorTabs
open Go.Proofs.YtfbdmgdbamjjhaaDoorCaps
open Go.RowKit Go.Proofs.YtfbdmgdbamjjhaaDoorW.PrintWords Go.Proofs.YtfbdmgdbamjjhaaDoorW.PrintLast Go.Proofs.YtfbdmgdbamjjhaaDoorW.PrintMore
attribute [local go_sem] max2_int min2_int max_two min_two max_three min_three max_four min_four   -- for this text's walks alone
set_option linter.unusedVariables false
set_option linter.unusedSimpArgs false

/-! ### jacquardref10_Named: function 17 -/
def jacquardref10_Named.l0 : Nat → ByteArray → List (S27) → Int → Option (Int × Int)
 | 0, _, _, _ => none
 | k + 1, x0, x4, x5 => if x5 < (x4.length : Int) then (if 0 ≤ x5 then (if ((rd_T27 x4 x5).f1).toList = x0.toList then (some ((rd_T27 x4 x5).f0, 0)) else (jacquardref10_Named.l0 k x0 x4 (wrap64 (x5 + 1)))) else (none)) else (some (0, 11))
def jacquardref10_Named.f (k : Nat) (a0 : ByteArray) : Option (Int × Int) := (jacquardref10_Table.f k).bind fun t977 => (jacquardref10_Named.l0 k a0 t977 0)
theorem jacquardref10_Named.mono_l : ∀ k, (∀ y0 y1 y2, LeO (jacquardref10_Named.l0 k y0 y1 y2) (jacquardref10_Named.l0 (k + 1) y0 y1 y2))
 | 0 => fun _ _ _ r h => by simp [jacquardref10_Named.l0] at h
 | k + 1 => by
  have ih0 := jacquardref10_Named.mono_l k
  ·intro y0 y1 y2
   unfold jacquardref10_Named.l0
   repeat' first
   | (with_reducible exact ih0 _ _ _)
   | (with_reducible exact jacquardref10_Table.mono _)
   | (with_reducible exact LeO.refl _)
   | (with_reducible exact LeO.none _)
   | (with_reducible refine LeO.ite ?_ ?_)
   | (with_reducible refine LeO.bind ?_ (fun _ => ?_))
   | exact ih0 _ _ _
   | exact jacquardref10_Table.mono _
   | exact LeO.none _
   | refine LeO.ite ?_ ?_
   | refine LeO.bind ?_ (fun _ => ?_)
theorem jacquardref10_Named.mono : ∀ a0 k, LeO (jacquardref10_Named.f k a0) (jacquardref10_Named.f (k + 1) a0) := by
 intro a0 k
 have ih0 := jacquardref10_Named.mono_l k
 unfold jacquardref10_Named.f
 repeat' first
   | (with_reducible exact ih0 _ _ _)
   | (with_reducible exact jacquardref10_Table.mono _)
   | (with_reducible exact LeO.refl _)
   | (with_reducible exact LeO.none _)
   | (with_reducible refine LeO.ite ?_ ?_)
   | (with_reducible refine LeO.bind ?_ (fun _ => ?_))
   | exact ih0 _ _ _
   | exact jacquardref10_Table.mono _
   | exact LeO.none _
   | refine LeO.ite ?_ ?_
   | refine LeO.bind ?_ (fun _ => ?_)
set_option maxHeartbeats 8000000 in
set_option maxRecDepth 100000 in
theorem jacquardref10_Named.calls (k : Nat) (a0 : ByteArray) (r1 : Int) (r2 : Int) (w : World) (h : jacquardref10_Named.f k a0 = some (r1, r2)) :
  Calls Tryd.prog 17 #[.string a0] w fun e w' => e = .returned (.tuple #[.int .u16 r1, .int .i64 r2]) ∧ Below w.heap.size w w' := by
 have HB := Aside0.mk (Below.refl w.heap.size w)
 have H : ((jacquardref10_Table.f k).bind fun t977 => (jacquardref10_Named.l0 k a0 t977 0)) = some (r1, r2) := h
 clear h
 replace H := Option.bind_eq_some_iff.mp H
 obtain ⟨t977, A20, H⟩ := H
 replace H : (jacquardref10_Named.l0 k a0 t977 0) = some (r1, r2) := H
 have A2 := Aside0.mk A20
 clear A20
 have H' := Aside0.mk H
 clear H
 go_enter Tryd.func17, Tryd.ntmps17
 go_wp2_with (first | ((with_reducible refine gate_callee (f := 25) rfl ?_); refine goesL_ (some 6) rfl rfl Tryd.func25 (by kernel_rfl) rfl #[] rfl (by (try simp only [List.map_toArray, List.map_cons, List.map_nil]); first | done | rfl | (simp only [List.length_drop, List.length_take]; rfl)) ?_; (with_reducible refine (jacquardref10_Table.calls k  t977 _ A2.out).mono ?_); rintro e w3 ⟨v978, rfl, ho0, hb⟩; refine ⟨_, rfl, ?_⟩; have n0_ := Aside0.mk (Kd.N_lower (Kd.N_mono (ok' := fun k_ => True) ho0 (fun k_ hk_ => trivial)) (below_size (by repeat (first | (with_reducible first | exact HB.out | apply bA|apply bN|apply bD) | exact HB.out)))); have n1_ := Aside0.mk (below_step (by repeat (first | (with_reducible first | exact HB.out | apply bA|apply bN|apply bD) | exact HB.out)) hb); clear HB; have HO979 := n0_; have HB := n1_; clear n0_ n1_; (try clear hb); (try clear hb2); (try clear hk); (try clear hi); (try clear ho0)))
 go_loopg [5] k (fun kq v5 w' => ∃ (x5_1 : Int), v5 = .int .i64 x5_1 ∧ Aside0 (jacquardref10_Named.l0 kq a0 t977 x5_1 = some (r1, r2)) ∧ Aside0 (kq ≤ k) ∧ Aside0 (Kd.N k27 27 w' w.heap.size (fun _ => True) v978 t977) ∧ Aside0 (Below w.heap.size w w'))
 case atStart => exact ⟨(0), (by first | rfl | (simp; done) | (simp [*]; done)), H', ⟨Nat.le_refl _⟩, ⟨by (with_reducible repeat (first | apply Kd.N_alloc | apply Kd.N_drewN | apply Kd.N_drew)); exact HO979.out⟩, ⟨by repeat (first | (with_reducible first | exact HB.out | apply bA|apply bN|apply bD) | exact HB.out)⟩⟩
 case round =>
  clear H'
  try clear c1
  try clear c2
  try clear p2
  obtain ⟨x5_1, rfl, HA, HK1, HO_4, HB⟩ := hrel
  cases gk with
  | zero => exact absurd HA.out (by simp [jacquardref10_Named.l0])
  | succ k1 =>
   have H := HA.out
   clear HA
   simp only [jacquardref10_Named.l0] at H
   by_cases c4 : x5_1 < (t977.length : Int)
   ·rw [if_pos c4] at H
    have c4b0 : decide (x5_1 < (t977.length : Int)) = true := decide_eq_true c4
    clear c4
    by_cases c5 : 0 ≤ x5_1
    ·rw [if_pos c5] at H
     have c5b0 : decide (0 ≤ x5_1) = true := decide_eq_true c5
     clear c5
     by_cases c6 : ((rd_T27 t977 x5_1).f1).toList = a0.toList
     ·rw [if_pos c6] at H
      have c6b0 : (((rd_T27 t977 x5_1).f1).toList == a0.toList) = true := beq_iff_eq.mpr c6
      have c6b1 : (((rd_T27 t977 x5_1).f1).toList != a0.toList) = false := bne_eq_false_iff_eq.mpr c6
      clear c6
      simp only [Option.some.injEq, Prod.mk.injEq] at H
      obtain ⟨rfl, rfl⟩ := H
      obtain ⟨Ao7, co7, eo7⟩ := Kd.N_slice HO_4.out
      subst eo7
      have p980 : 0 ≤ (x5_1 : Int) := of_decide_eq_true (by first | (with_reducible assumption) | assumption)
      have q980 : x5_1 < (t977.length : Int) := of_decide_eq_true (by first | (with_reducible assumption) | assumption)
      obtain ⟨ad980, A980_3, c980_3, A980_4, c980_4, e980, hx980_0, hx980_1, hx980_2, hx980_3, hx980_4, hx980_5, hx980_6, hl980_3, hi980_3, hl980_4, hi980_4⟩ := at_T27 (Kd.N_reads' HO_4.out).2.2 x5_1 p980 q980
      cases e980
      obtain ⟨ce980, hce980, hMe980, hcc980⟩ := Kd.N_get HO_4.out z27 x5_1 p980 (by first | exact q980 | exact of_decide_eq_true (by first | (with_reducible assumption) | assumption) | (have e_ := (Kd.N_reads' HO_4.out).1; omega))
      obtain ⟨ua980_3, uc980_3, ua980_4, uc980_4, rfl, ul980_3, ge980_3, ul980_4, ge980_4⟩ := k27_openF hMe980
      have hv980_3 := hcc980 3 _ rfl
      rw [add_field _ _ 3 (by omega)] at hv980_3
      replace hv980_3 := Option.some.inj (hv980_3.symm.trans hx980_3)
      injection hv980_3 with hva_ hvn_ hvc_
      rw [hva_] at ge980_3
      rw [hvc_] at ul980_3
      have HL980_3 := Aside0.mk (show Kd.V (Kd.int .u8) 34 _ w.heap.size _ _ ((rd_T27 t977 x5_1).f3) from Kd.V_mk ul980_3 ge980_3)
      clear hva_ hvn_ hvc_ ge980_3 ul980_3
      have hv980_4 := hcc980 4 _ rfl
      rw [add_field _ _ 4 (by omega)] at hv980_4
      replace hv980_4 := Option.some.inj (hv980_4.symm.trans hx980_4)
      injection hv980_4 with hva_ hvn_ hvc_
      rw [hva_] at ge980_4
      rw [hvc_] at ul980_4
      have HL980_4 := Aside0.mk (show Kd.V (Kd.int .u8) 34 _ w.heap.size _ _ ((rd_T27 t977 x5_1).f4) from Kd.V_mk ul980_4 ge980_4)
      clear hva_ hvn_ hvc_ ge980_4 ul980_4
      clear hcc980 hce980
      have HR980_3 := Aside0.mk hi980_3
      have HC980_3 := Aside0.mk hl980_3
      clear hi980_3 hl980_3
      have HR980_4 := Aside0.mk hi980_4
      have HC980_4 := Aside0.mk hl980_4
      clear hi980_4 hl980_4
      replace p980 := eq_true p980
      replace q980 := eq_true q980
      have p981 : 0 ≤ (x5_1 : Int) := of_decide_eq_true (by first | (with_reducible assumption) | assumption)
      have q981 : x5_1 < (t977.length : Int) := of_decide_eq_true (by first | (with_reducible assumption) | assumption)
      obtain ⟨ad981, A981_3, c981_3, A981_4, c981_4, e981, hx981_0, hx981_1, hx981_2, hx981_3, hx981_4, hx981_5, hx981_6, hl981_3, hi981_3, hl981_4, hi981_4⟩ := at_T27 (Kd.N_reads' HO_4.out).2.2 x5_1 p981 q981
      obtain rfl : ad980 = ad981 := (by injection e981)
      obtain ⟨ce981, hce981, hMe981, hcc981⟩ := Kd.N_get HO_4.out z27 x5_1 p981 (by first | exact q981 | exact of_decide_eq_true (by first | (with_reducible assumption) | assumption) | (have e_ := (Kd.N_reads' HO_4.out).1; omega))
      obtain ⟨ua981_3, uc981_3, ua981_4, uc981_4, rfl, ul981_3, ge981_3, ul981_4, ge981_4⟩ := k27_openF hMe981
      have hv981_3 := hcc981 3 _ rfl
      rw [add_field _ _ 3 (by omega)] at hv981_3
      replace hv981_3 := Option.some.inj (hv981_3.symm.trans hx981_3)
      injection hv981_3 with hva_ hvn_ hvc_
      rw [hva_] at ge981_3
      rw [hvc_] at ul981_3
      have HL981_3 := Aside0.mk (show Kd.V (Kd.int .u8) 34 _ w.heap.size _ _ ((rd_T27 t977 x5_1).f3) from Kd.V_mk ul981_3 ge981_3)
      clear hva_ hvn_ hvc_ ge981_3 ul981_3
      have hv981_4 := hcc981 4 _ rfl
      rw [add_field _ _ 4 (by omega)] at hv981_4
      replace hv981_4 := Option.some.inj (hv981_4.symm.trans hx981_4)
      injection hv981_4 with hva_ hvn_ hvc_
      rw [hva_] at ge981_4
      rw [hvc_] at ul981_4
      have HL981_4 := Aside0.mk (show Kd.V (Kd.int .u8) 34 _ w.heap.size _ _ ((rd_T27 t977 x5_1).f4) from Kd.V_mk ul981_4 ge981_4)
      clear hva_ hvn_ hvc_ ge981_4 ul981_4
      clear hcc981 hce981
      have HR981_3 := Aside0.mk hi981_3
      have HC981_3 := Aside0.mk hl981_3
      clear hi981_3 hl981_3
      have HR981_4 := Aside0.mk hi981_4
      have HC981_4 := Aside0.mk hl981_4
      clear hi981_4 hl981_4
      replace p981 := eq_true p981
      replace q981 := eq_true q981
      have ea_ := Option.some.inj (hx980_3.symm.trans hx981_3)
      injection ea_ with ea_ en_ ec_
      subst ea_
      subst ec_
      clear en_
      have ea_ := Option.some.inj (hx980_4.symm.trans hx981_4)
      injection ea_ with ea_ en_ ec_
      subst ea_
      subst ec_
      clear en_
      go_wp2
      go_ret2
      exact ⟨by first | rfl | (simp [errW_none, errW_some] <;> rfl) | (simp [*, errW_none, errW_some] <;> rfl), by repeat (first | (with_reducible first | exact HB.out | apply bA|apply bN|apply bD) | exact HB.out)⟩
     ·rw [if_neg c6] at H
      have c6b0 : (((rd_T27 t977 x5_1).f1).toList == a0.toList) = false := beq_eq_false_iff_ne.mpr c6
      have c6b1 : (((rd_T27 t977 x5_1).f1).toList != a0.toList) = true := bne_iff_ne.mpr c6
      have H' := Aside0.mk H
      clear H
      obtain ⟨Ao8, co8, eo8⟩ := Kd.N_slice HO_4.out
      subst eo8
      have p980 : 0 ≤ (x5_1 : Int) := of_decide_eq_true (by first | (with_reducible assumption) | assumption)
      have q980 : x5_1 < (t977.length : Int) := of_decide_eq_true (by first | (with_reducible assumption) | assumption)
      obtain ⟨ad980, A980_3, c980_3, A980_4, c980_4, e980, hx980_0, hx980_1, hx980_2, hx980_3, hx980_4, hx980_5, hx980_6, hl980_3, hi980_3, hl980_4, hi980_4⟩ := at_T27 (Kd.N_reads' HO_4.out).2.2 x5_1 p980 q980
      cases e980
      obtain ⟨ce980, hce980, hMe980, hcc980⟩ := Kd.N_get HO_4.out z27 x5_1 p980 (by first | exact q980 | exact of_decide_eq_true (by first | (with_reducible assumption) | assumption) | (have e_ := (Kd.N_reads' HO_4.out).1; omega))
      obtain ⟨ua980_3, uc980_3, ua980_4, uc980_4, rfl, ul980_3, ge980_3, ul980_4, ge980_4⟩ := k27_openF hMe980
      have hv980_3 := hcc980 3 _ rfl
      rw [add_field _ _ 3 (by omega)] at hv980_3
      replace hv980_3 := Option.some.inj (hv980_3.symm.trans hx980_3)
      injection hv980_3 with hva_ hvn_ hvc_
      rw [hva_] at ge980_3
      rw [hvc_] at ul980_3
      have HL980_3 := Aside0.mk (show Kd.V (Kd.int .u8) 34 _ w.heap.size _ _ ((rd_T27 t977 x5_1).f3) from Kd.V_mk ul980_3 ge980_3)
      clear hva_ hvn_ hvc_ ge980_3 ul980_3
      have hv980_4 := hcc980 4 _ rfl
      rw [add_field _ _ 4 (by omega)] at hv980_4
      replace hv980_4 := Option.some.inj (hv980_4.symm.trans hx980_4)
      injection hv980_4 with hva_ hvn_ hvc_
      rw [hva_] at ge980_4
      rw [hvc_] at ul980_4
      have HL980_4 := Aside0.mk (show Kd.V (Kd.int .u8) 34 _ w.heap.size _ _ ((rd_T27 t977 x5_1).f4) from Kd.V_mk ul980_4 ge980_4)
      clear hva_ hvn_ hvc_ ge980_4 ul980_4
      clear hcc980 hce980
      have HR980_3 := Aside0.mk hi980_3
      have HC980_3 := Aside0.mk hl980_3
      clear hi980_3 hl980_3
      have HR980_4 := Aside0.mk hi980_4
      have HC980_4 := Aside0.mk hl980_4
      clear hi980_4 hl980_4
      replace p980 := eq_true p980
      replace q980 := eq_true q980
      go_wp2
      go_roundg k1
      case measure => have := HK1.out; omega
      case rel => exact ⟨(wrap64 (x5_1 + 1)), (by first | rfl | (simp; done) | (simp [*]; done)), H', ⟨by have := HK1.out; omega⟩, ⟨by (with_reducible repeat (first | apply Kd.N_alloc | apply Kd.N_drewN | apply Kd.N_drew)); exact HO_4.out⟩, ⟨by repeat (first | (with_reducible first | exact HB.out | apply bA|apply bN|apply bD) | exact HB.out)⟩⟩
    ·rw [if_neg c5] at H
     exact absurd H (by simp)
   ·rw [if_neg c4] at H
    have c4b0 : decide (x5_1 < (t977.length : Int)) = false := decide_eq_false c4
    clear c4
    simp only [Option.some.injEq, Prod.mk.injEq] at H
    obtain ⟨rfl, rfl⟩ := H
    obtain ⟨Ao9, co9, eo9⟩ := Kd.N_slice HO_4.out
    subst eo9
    go_wp2
    go_ret2
    exact ⟨by first | rfl | (simp [errW_none, errW_some] <;> rfl) | (simp [*, errW_none, errW_some] <;> rfl), by repeat (first | (with_reducible first | exact HB.out | apply bA|apply bN|apply bD) | exact HB.out)⟩

end Go.Proofs.YtfbdmgdbamjjhaaDoor.P
