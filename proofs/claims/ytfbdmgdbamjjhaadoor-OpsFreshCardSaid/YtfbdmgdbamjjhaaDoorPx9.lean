-- Printed by a program of this session (wip/patch-print.py over the kit's print): Lean checks it.
import Derived.Test.YtfbdmgdbamjjhaaDoorPx0
import Derived.Test.YtfbdmgdbamjjhaaDoorPx7
import Derived.Test.YtfbdmgdbamjjhaaDoorPx8
namespace Go.Proofs.YtfbdmgdbamjjhaaDoor.P
open Go.Proofs.YtfbdmgdbamjjhaaDoorTabs
open Go.Proofs.YtfbdmgdbamjjhaaDoorCaps
open Go.RowKit Go.Proofs.YtfbdmgdbamjjhaaDoorW.PrintWords Go.Proofs.YtfbdmgdbamjjhaaDoorW.PrintLast Go.Proofs.YtfbdmgdbamjjhaaDoorW.PrintMore
attribute [local go_sem] max2_int min2_int max_two min_two max_three min_three max_four min_four   -- for this text's walks alone
set_option linter.unusedVariables false
set_option linter.unusedSimpArgs false

/-! ### jacquardref10_Of: function 12 -/
mutual
def jacquardref10_Of.l0 : Nat → Int → List (List (S52)) → Int → Option (Int × ByteArray × Int × List Int × List Int × Int × Bool × Int)
 | 0, _, _, _ => none
 | k + 1, x0, x4, x5 => if x5 < (x4.length : Int) then (jacquardref10_Of.l1 k x0 x4 x5 0) else (some (0, (⟨#[]⟩ : ByteArray), 0, ([] : List Int), ([] : List Int), 0, false, 11))
def jacquardref10_Of.l1 : Nat → Int → List (List (S52)) → Int → Int → Option (Int × ByteArray × Int × List Int × List Int × Int × Bool × Int)
 | 0, _, _, _, _ => none
 | k + 1, x0, x4, x5, x6 => if 0 ≤ x5 then (if x5 < (x4.length : Int) then (if x6 < ((rd_L10 x4 x5).length : Int) then (if 0 ≤ x6 then (if x0 < ((rd_T52 (rd_L10 x4 x5) x6).f0) then (jacquardref10_Of.j2 k x0 x4 x5 x6 true ((rd_T52 (rd_L10 x4 x5) x6).f0) ((rd_T52 (rd_L10 x4 x5) x6).f1) ((rd_T52 (rd_L10 x4 x5) x6).f2) ((rd_T52 (rd_L10 x4 x5) x6).f3) ((rd_T52 (rd_L10 x4 x5) x6).f4) ((rd_T52 (rd_L10 x4 x5) x6).f5) ((rd_T52 (rd_L10 x4 x5) x6).f6)) else (jacquardref10_Of.j2 k x0 x4 x5 x6 (decide (x0 > (IntKind.u16.wrap (((rd_T52 (rd_L10 x4 x5) x6).f0) + 20)))) ((rd_T52 (rd_L10 x4 x5) x6).f0) ((rd_T52 (rd_L10 x4 x5) x6).f1) ((rd_T52 (rd_L10 x4 x5) x6).f2) ((rd_T52 (rd_L10 x4 x5) x6).f3) ((rd_T52 (rd_L10 x4 x5) x6).f4) ((rd_T52 (rd_L10 x4 x5) x6).f5) ((rd_T52 (rd_L10 x4 x5) x6).f6))) else (none)) else (jacquardref10_Of.l0 k x0 x4 (wrap64 (x5 + 1)))) else (none)) else (none)
def jacquardref10_Of.j2 : Nat → Int → List (List (S52)) → Int → Int → Bool → Int → ByteArray → ByteArray → ByteArray → Int → ByteArray → Bool → Option (Int × ByteArray × Int × List Int × List Int × Int × Bool × Int)
 | 0, _, _, _, _, _, _, _, _, _, _, _, _ => none
 | k + 1, x0, x4, x5, x6, x43, x707000, x707001, x707002, x707003, x707004, x707005, x707006 => if x43 = true then (jacquardref10_Of.l1 k x0 x4 x5 (wrap64 (x6 + 1))) else ((jacquardref10_words.f k x707002).bind fun t707 => (if (wrap64 (IntKind.u16.wrap (x0 - x707000))) < (t707.length : Int) then (if 0 ≤ (wrap64 (IntKind.u16.wrap (x0 - x707000))) then ((jacquardref10_info.f k x707000 x707001 x707002 x707003 x707004 x707005 x707006 (rdOf ByteArray.empty t707 (wrap64 (IntKind.u16.wrap (x0 - x707000)))) (wrap64 (IntKind.u16.wrap (x0 - x707000)))).bind fun bt711 => (some (bt711.1, bt711.2.1, bt711.2.2.1, bt711.2.2.2.1, bt711.2.2.2.2.1, bt711.2.2.2.2.2.1, bt711.2.2.2.2.2.2, 0))) else (none)) else (jacquardref10_Of.l1 k x0 x4 x5 (wrap64 (x6 + 1)))))
end
def jacquardref10_Of.f (k : Nat) (a0 : Int) : Option (Int × ByteArray × Int × List Int × List Int × Int × Bool × Int) := (jacquardref10_families.f).bind fun t700 => (jacquardref10_Of.l0 k a0 t700 0)
theorem jacquardref10_Of.mono_l : ∀ k, (∀ y0 y1 y2, LeO (jacquardref10_Of.l0 k y0 y1 y2) (jacquardref10_Of.l0 (k + 1) y0 y1 y2)) ∧ (∀ y0 y1 y2 y3, LeO (jacquardref10_Of.l1 k y0 y1 y2 y3) (jacquardref10_Of.l1 (k + 1) y0 y1 y2 y3)) ∧ (∀ y0 y1 y2 y3 y4 y5 y6 y7 y8 y9 y10 y11, LeO (jacquardref10_Of.j2 k y0 y1 y2 y3 y4 y5 y6 y7 y8 y9 y10 y11) (jacquardref10_Of.j2 (k + 1) y0 y1 y2 y3 y4 y5 y6 y7 y8 y9 y10 y11))
 | 0 => ⟨fun _ _ _ r h => by simp [jacquardref10_Of.l0] at h, fun _ _ _ _ r h => by simp [jacquardref10_Of.l1] at h, fun _ _ _ _ _ _ _ _ _ _ _ _ r h => by simp [jacquardref10_Of.j2] at h⟩
 | k + 1 => by
  obtain ⟨ih0, ih1, ih2⟩ := jacquardref10_Of.mono_l k
  refine ⟨?_, ?_, ?_⟩ <;> intros <;> (first | unfold jacquardref10_Of.l0 | unfold jacquardref10_Of.l1 | unfold jacquardref10_Of.j2) <;> (repeat' first | (with_reducible exact LeO.refl _) | (with_reducible exact ih0 _ _ _) | (with_reducible exact ih1 _ _ _ _) | (with_reducible exact ih2 _ _ _ _ _ _ _ _ _ _ _ _) | (with_reducible exact LeO.none _) | (with_reducible refine LeO.ite ?_ ?_) | (with_reducible refine LeO.bind ?_ (fun _ => ?_)) | exact jacquardref10_info.mono _ _ _ _ _ _ _ _ _ _ | exact jacquardref10_words.mono _ _ | exact ih0 _ _ _ | exact ih1 _ _ _ _ | exact ih2 _ _ _ _ _ _ _ _ _ _ _ _ | exact LeO.none _ | refine LeO.ite ?_ ?_ | refine LeO.bind ?_ (fun _ => ?_))
theorem jacquardref10_Of.mono : ∀ a0 k, LeO (jacquardref10_Of.f k a0) (jacquardref10_Of.f (k + 1) a0) := by
 intro a0 k
 obtain ⟨ih0, ih1, ih2⟩ := jacquardref10_Of.mono_l k
 unfold jacquardref10_Of.f
 repeat' first
   | (with_reducible exact ih0 _ _ _)
   | (with_reducible exact ih1 _ _ _ _)
   | (with_reducible exact ih2 _ _ _ _ _ _ _ _ _ _ _ _)
   | (with_reducible exact jacquardref10_info.mono _ _ _ _ _ _ _ _ _ _)
   | (with_reducible exact jacquardref10_words.mono _ _)
   | (with_reducible exact LeO.refl _)
   | (with_reducible exact LeO.none _)
   | (with_reducible refine LeO.ite ?_ ?_)
   | (with_reducible refine LeO.bind ?_ (fun _ => ?_))
   | exact ih0 _ _ _
   | exact ih1 _ _ _ _
   | exact ih2 _ _ _ _ _ _ _ _ _ _ _ _
   | exact jacquardref10_info.mono _ _ _ _ _ _ _ _ _ _
   | exact jacquardref10_words.mono _ _
   | exact LeO.none _
   | refine LeO.ite ?_ ?_
   | refine LeO.bind ?_ (fun _ => ?_)
def jacquardref10_Of.T13 : Bool × List (List Nat × List Nat) := (true, [([], []), ([], []), ([], []), ([1, 2], [1, 2]), ([3], [3]), ([], []), ([0, 4, 5], [0, 4, 5]), ([6, 6, 0, 1, 2, 3, 4, 5, 6], [6]), ([7, 0, 1, 2, 3, 4, 5, 6, 7], [])])
def jacquardref10_Of.B13 : List Nat := [0, 0, 0, 6, 14, 0, 63, 127, 255]
theorem jacquardref10_Of.tab13 : rtab .any (opsOf Tryd.f12 13) = jacquardref10_Of.T13 := by kernel_rfl
theorem jacquardref10_Of.bits13 : waitsOk jacquardref10_Of.T13.2 jacquardref10_Of.B13 = true := by kernel_rfl
set_option maxHeartbeats 8000000 in
set_option maxRecDepth 100000 in
theorem jacquardref10_Of.calls (k : Nat) (a0 : Int) (r1 : Int) (r2 : ByteArray) (r3 : Int) (r4 : List Int) (r5 : List Int) (r6 : Int) (r7 : Bool) (r8 : Int) (w : World) (h : jacquardref10_Of.f k a0 = some (r1, r2, r3, r4, r5, r6, r7, r8)) :
  Calls Tryd.prog 12 #[.int .u16 a0] w fun e w' => ∃ v3_ v4_ : Value, e = .returned (.tuple #[.agg #[.int .u16 r1, .string r2, .int .u8 r3, v3_, v4_, .int .i64 r6, .bool r7], .int .i64 r8]) ∧ Kd.R (Kd.int .u8) 34 w' w.heap.size (fun k_ => some k_ ≠ (v4_ : Value).ownBlock) v3_ r4 ∧ Kd.R (Kd.int .u8) 34 w' w.heap.size (fun k_ => some k_ ≠ (v3_ : Value).ownBlock) v4_ r5 ∧ Below w.heap.size w w' := by
 have hu27 := Tryd.underlying27
 have hu52 := Tryd.underlying52
 have HB := Aside0.mk (Below.refl w.heap.size w)
 have H : ((jacquardref10_families.f).bind fun t700 => (jacquardref10_Of.l0 k a0 t700 0)) = some (r1, r2, r3, r4, r5, r6, r7, r8) := h
 clear h
 replace H := Option.bind_eq_some_iff.mp H
 obtain ⟨t700, A20, H⟩ := H
 replace H : (jacquardref10_Of.l0 k a0 t700 0) = some (r1, r2, r3, r4, r5, r6, r7, r8) := H
 have A2 := Aside0.mk A20
 clear A20
 have H' := Aside0.mk H
 clear H
 go_enter Tryd.func12, Tryd.ntmps12
 go_wp2_with (first | ((with_reducible refine gate_dst (N := 2) rfl ?_); refine box_event ?hg (N := 2) ?hd (cs := #[.int .u16 0, .string (⟨#[]⟩ : ByteArray), .int .u8 0, .slice none 0 0, .slice none 0 0, .int .i64 0, .bool false]) (t := 27) ?hr ?_; (case hd => rfl); (case hg => rfl); (case hr => first | (go_simp; done) | (go_simp; rfl)); intro gb699 hg w3 hbox hb; have n0_ := Aside0.mk (below_step (by repeat (first | (with_reducible first | exact HB.out | apply bA|apply bN|apply bD) | exact HB.out)) hb); have n1_ := Aside0.mk (hbox); have n2_ := Aside0.mk ((by rw [hg]; exact (below_size (by repeat (first | (with_reducible first | exact HB.out | apply bA|apply bN|apply bD) | exact HB.out))) : w.heap.size ≤ gb699)); have n3_ := Aside0.mk ((by rw [hg]; exact (below_size (by repeat (first | (with_reducible first | exact HB.out | apply bA|apply bN|apply bD) | exact HB.out))) : w.heap.size ≤ gb699)); clear HB; have HB := n0_; have BK699 := n1_; have GW699 := n2_; have GE699 := n3_; clear n0_ n1_ n2_ n3_; clear hb hbox hg) | ((with_reducible refine gate_callee (f := 21) rfl ?_); refine goesL_ (some 10) rfl rfl Tryd.func21 (by kernel_rfl) rfl #[] rfl (by (try simp only [List.map_toArray, List.map_cons, List.map_nil]); first | done | rfl | (simp only [List.length_drop, List.length_take]; rfl)) ?_; (with_reducible refine (jacquardref10_families.calls  t700 _ A2.out).mono ?_); rintro e w4 ⟨v701, rfl, ho0, hb⟩; refine ⟨_, rfl, ?_⟩; have n0_ := Aside0.mk (Kd.N_lower (Kd.N_mono (ok' := fun k_ => k_ ≠ gb699) ho0 (fun k_ hk_ => (Kd.freshB (g := gb699) (o := .cells #[.int .u16 0, .string (⟨#[]⟩ : ByteArray), .int .u8 0, .slice none 0 0, .slice none 0 0, .int .i64 0, .bool false] 27 (0, 0)) (by (with_reducible repeat (first | apply kN|apply kD|apply kA)); exact BK699.out) k_ hk_))) (below_size (by repeat (first | (with_reducible first | exact HB.out | apply bA|apply bN|apply bD | refine below_set ?_ GE699.out) | exact HB.out)))); have n1_ := Aside0.mk (blk_below (g := gb699) (o := .cells #[.int .u16 0, .string (⟨#[]⟩ : ByteArray), .int .u8 0, .slice none 0 0, .slice none 0 0, .int .i64 0, .bool false] 27 (0, 0)) (by (with_reducible repeat (first | apply kN|apply kD|apply kA)); exact BK699.out) hb); have n2_ := Aside0.mk (below_step (by repeat (first | (with_reducible first | exact HB.out | apply bA|apply bN|apply bD | refine below_set ?_ GE699.out) | exact HB.out)) hb); clear BK699; clear HB; have HO702 := n0_; have BK699 := n1_; have HB := n2_; clear n0_ n1_ n2_; (try clear hb); (try clear hb2); (try clear hk); (try clear hi); (try clear ho0)))
 go_loopg [5] k (fun kq v5 w' => ∃ (x5_1 : Int) (x700000_1 : Int) (x700001_1 : ByteArray) (x700002_1 : Int) (x700005_1 : Int) (x700006_1 : Bool), v5 = .int .i64 x5_1 ∧ Aside0 (jacquardref10_Of.l0 kq a0 t700 x5_1 = some (r1, r2, r3, r4, r5, r6, r7, r8)) ∧ Aside0 (kq ≤ k) ∧ Aside0 (Kd.N (Kd.slice 52 k52) 50 w' w.heap.size (fun k_ => k_ ≠ gb699) v701 t700) ∧ Aside0 (w'.heap[gb699]? = some (.cells #[.int .u16 x700000_1, .string x700001_1, .int .u8 x700002_1, (.slice none 0 0), (.slice none 0 0), .int .i64 x700005_1, .bool x700006_1] 27 (0, 0))) ∧ Aside0 (Below w.heap.size w w'))
 case atStart => exact ⟨(0), (0), ((⟨#[]⟩ : ByteArray)), (0), (0), (false), (by first | rfl | (simp; done) | (simp [*]; done)), H', ⟨Nat.le_refl _⟩, ⟨by (with_reducible repeat (first | apply Kd.N_alloc | apply Kd.N_drewN | apply Kd.N_drew)); exact HO702.out⟩, ⟨by (with_reducible repeat (first | apply kN|apply kD|apply kA)); exact BK699.out⟩, ⟨by repeat (first | (with_reducible first | exact HB.out | apply bA|apply bN|apply bD | refine below_set ?_ GE699.out) | exact HB.out)⟩⟩
 case round =>
  clear H'
  try clear c1
  try clear c2
  try clear p2
  obtain ⟨x5_1, x700000_1, x700001_1, x700002_1, x700005_1, x700006_1, rfl, HA, HK1, HO_4, BK699, HB⟩ := hrel
  cases gk with
  | zero => exact absurd HA.out (by simp [jacquardref10_Of.l0])
  | succ k1 =>
   have H := HA.out
   clear HA
   simp only [jacquardref10_Of.l0] at H
   by_cases c5 : x5_1 < (t700.length : Int)
   ·rw [if_pos c5] at H
    have c5b0 : decide (x5_1 < (t700.length : Int)) = true := decide_eq_true c5
    clear c5
    have H' := Aside0.mk H
    clear H
    obtain ⟨Ao6, co6, eo6⟩ := Kd.N_slice HO_4.out
    subst eo6
    go_wp2
    go_loopg [6] k1 (fun kq v6 w' => ∃ (x6_2 : Int) (x700000_2 : Int) (x700001_2 : ByteArray) (x700002_2 : Int) (x700005_2 : Int) (x700006_2 : Bool), v6 = .int .i64 x6_2 ∧ Aside0 (jacquardref10_Of.l1 kq a0 t700 x5_1 x6_2 = some (r1, r2, r3, r4, r5, r6, r7, r8)) ∧ Aside0 (kq ≤ k1) ∧ Aside0 (Kd.N (Kd.slice 52 k52) 50 w' w.heap.size (fun k_ => k_ ≠ gb699) (.slice Ao6 t700.length co6) t700) ∧ Aside0 (w'.heap[gb699]? = some (.cells #[.int .u16 x700000_2, .string x700001_2, .int .u8 x700002_2, (.slice none 0 0), (.slice none 0 0), .int .i64 x700005_2, .bool x700006_2] 27 (0, 0))) ∧ Aside0 (Below w.heap.size w w'))
    case atStart => exact ⟨(0), (x700000_1), (x700001_1), (x700002_1), (x700005_1), (x700006_1), (by first | rfl | (simp; done) | (simp [*]; done)), H', ⟨Nat.le_refl _⟩, ⟨by (with_reducible repeat (first | apply Kd.N_alloc | apply Kd.N_drewN | apply Kd.N_drew)); exact HO_4.out⟩, ⟨by (with_reducible repeat (first | apply kN|apply kD|apply kA)); exact BK699.out⟩, ⟨by repeat (first | (with_reducible first | exact HB.out | apply bA|apply bN|apply bD | refine below_set ?_ GE699.out) | exact HB.out)⟩⟩
    case round =>
     clear H'
     try clear c1
     try clear c2
     try clear p2
     try clear c5
     try clear c5b0
     try clear p2
     obtain ⟨x6_2, x700000_2, x700001_2, x700002_2, x700005_2, x700006_2, rfl, HA, HK2, HO_4, BK699, HB⟩ := hrel
     cases gk with
     | zero => exact absurd HA.out (by simp [jacquardref10_Of.l1])
     | succ k2 =>
      have H := HA.out
      clear HA
      simp only [jacquardref10_Of.l1] at H
      by_cases c7 : 0 ≤ x5_1
      ·rw [if_pos c7] at H
       have c7b0 : decide (0 ≤ x5_1) = true := decide_eq_true c7
       clear c7
       by_cases c8 : x5_1 < (t700.length : Int)
       ·rw [if_pos c8] at H
        have c8b0 : decide (x5_1 < (t700.length : Int)) = true := decide_eq_true c8
        clear c8
        by_cases c9 : x6_2 < ((rd_L10 t700 x5_1).length : Int)
        ·rw [if_pos c9] at H
         have c9b0 : decide (x6_2 < ((rd_L10 t700 x5_1).length : Int)) = true := decide_eq_true c9
         clear c9
         by_cases c10 : 0 ≤ x6_2
         ·rw [if_pos c10] at H
          have c10b0 : decide (0 ≤ x6_2) = true := decide_eq_true c10
          clear c10
          have HC11 := Aside0.mk H
          clear H
          have p703 : 0 ≤ (x5_1 : Int) := of_decide_eq_true (by first | (with_reducible assumption) | assumption)
          have q703 : x5_1 < (t700.length : Int) := of_decide_eq_true (by first | (with_reducible assumption) | assumption)
          obtain ⟨ad703, A703_0, c703_0, e703, hx703_0, hl703_0, hi703_0⟩ := at_L10 (Kd.N_reads' HO_4.out).2.2 x5_1 p703 q703
          cases e703
          obtain ⟨ce703, hce703, hMe703, hcc703⟩ := Kd.N_get HO_4.out [] x5_1 p703 (by first | exact q703 | exact of_decide_eq_true (by first | (with_reducible assumption) | assumption) | (have e_ := (Kd.N_reads' HO_4.out).1; omega))
          obtain ⟨ua703_0, uc703_0, rfl, ul703_0, ge703_0⟩ := Kd.FK_slice_open hMe703
          have hv703_0 := hcc703 0 _ rfl
          rw [Nat.add_zero, show ((Kd.slice 52 k52)).sz = 1 from rfl, Nat.mul_one] at hv703_0
          replace hv703_0 := Option.some.inj (hv703_0.symm.trans hx703_0)
          injection hv703_0 with hva_ hvn_ hvc_
          rw [hva_] at ge703_0
          rw [hvc_] at ul703_0
          have HL703_0 := Aside0.mk (show Kd.V k52 52 _ w.heap.size _ _ (rd_L10 t700 x5_1) from Kd.V_mk ul703_0 ge703_0)
          clear hva_ hvn_ hvc_ ge703_0 ul703_0
          clear hcc703 hce703
          have HR703_0 := Aside0.mk hi703_0
          have HC703_0 := Aside0.mk hl703_0
          clear hi703_0 hl703_0
          replace p703 := eq_true p703
          replace q703 := eq_true q703
          have p704 : 0 ≤ (x5_1 : Int) := of_decide_eq_true (by first | (with_reducible assumption) | assumption)
          have q704 : x5_1 < (t700.length : Int) := of_decide_eq_true (by first | (with_reducible assumption) | assumption)
          obtain ⟨ad704, A704_0, c704_0, e704, hx704_0, hl704_0, hi704_0⟩ := at_L10 (Kd.N_reads' HO_4.out).2.2 x5_1 p704 q704
          obtain rfl : ad703 = ad704 := (by injection e704)
          obtain ⟨ce704, hce704, hMe704, hcc704⟩ := Kd.N_get HO_4.out [] x5_1 p704 (by first | exact q704 | exact of_decide_eq_true (by first | (with_reducible assumption) | assumption) | (have e_ := (Kd.N_reads' HO_4.out).1; omega))
          obtain ⟨ua704_0, uc704_0, rfl, ul704_0, ge704_0⟩ := Kd.FK_slice_open hMe704
          have hv704_0 := hcc704 0 _ rfl
          rw [Nat.add_zero, show ((Kd.slice 52 k52)).sz = 1 from rfl, Nat.mul_one] at hv704_0
          replace hv704_0 := Option.some.inj (hv704_0.symm.trans hx704_0)
          injection hv704_0 with hva_ hvn_ hvc_
          rw [hva_] at ge704_0
          rw [hvc_] at ul704_0
          have HL704_0 := Aside0.mk (show Kd.V k52 52 _ w.heap.size _ _ (rd_L10 t700 x5_1) from Kd.V_mk ul704_0 ge704_0)
          clear hva_ hvn_ hvc_ ge704_0 ul704_0
          clear hcc704 hce704
          have HR704_0 := Aside0.mk hi704_0
          have HC704_0 := Aside0.mk hl704_0
          clear hi704_0 hl704_0
          replace p704 := eq_true p704
          replace q704 := eq_true q704
          have ea_ := Option.some.inj (hx703_0.symm.trans hx704_0)
          injection ea_ with ea_ en_ ec_
          subst ea_
          subst ec_
          clear en_
          have p705 : 0 ≤ (x6_2 : Int) := of_decide_eq_true (by first | (with_reducible assumption) | assumption)
          have q705 : x6_2 < ((rd_L10 t700 x5_1).length : Int) := of_decide_eq_true (by first | (with_reducible assumption) | assumption)
          obtain ⟨ad705, e705, hx705_0, hx705_1, hx705_2, hx705_3, hx705_4, hx705_5, hx705_6⟩ := at_T52 (by repeat (first | (with_reducible exact HR704_0.out) | (with_reducible refine Kd.C_alloc ?_ _) | (with_reducible refine Kd.C_drewN ?_ _) | (with_reducible refine Kd.C_drew ?_) | exact HR704_0.out)) x6_2 p705 q705
          cases e705
          replace p705 := eq_true p705
          replace q705 := eq_true q705
          go_upto_region 9 with (first | ((with_reducible refine gate_dst (N := 7) rfl ?_); refine box_event ?hg (N := 7) ?hd (cs := #[.int .u16 0, .string (⟨#[]⟩ : ByteArray), .string (⟨#[]⟩ : ByteArray), .string (⟨#[]⟩ : ByteArray), .int .u8 0, .string (⟨#[]⟩ : ByteArray), .bool false]) (t := 52) ?hr ?_; (case hd => rfl); (case hg => rfl); (case hr => first | (go_simp; done) | (go_simp; rfl)); intro gb706 hg w12 hbox hb; have n0_ := Aside0.mk (Kd.N_below (Kd.N_elderB (by (with_reducible repeat (first | apply Kd.N_alloc | apply Kd.N_drewN | apply Kd.N_drew)); exact HO_4.out) gb706 (Nat.le_of_eq hg.symm)) hb); have n1_ := Aside0.mk (Kd.V_below (Kd.V_elderB (by (with_reducible repeat (first | apply Kd.V_alloc | apply Kd.V_drewN | apply Kd.V_drew)); exact HL703_0.out) gb706 (Nat.le_of_eq hg.symm)) hb); have n2_ := Aside0.mk (Kd.V_below (Kd.V_elderB (by (with_reducible repeat (first | apply Kd.V_alloc | apply Kd.V_drewN | apply Kd.V_drew)); exact HL704_0.out) gb706 (Nat.le_of_eq hg.symm)) hb); have n3_ := Aside0.mk (blk_below (g := gb699) (o := .cells #[.int .u16 x700000_2, .string x700001_2, .int .u8 x700002_2, .slice none 0 0, .slice none 0 0, .int .i64 x700005_2, .bool x700006_2] 27 (0, 0)) (by (with_reducible repeat (first | apply kN|apply kD|apply kA)); exact BK699.out) hb); have n4_ := Aside0.mk (Kd.C_below (by repeat (first | (with_reducible exact HR703_0.out) | (with_reducible refine Kd.C_alloc ?_ _) | (with_reducible refine Kd.C_drewN ?_ _) | (with_reducible refine Kd.C_drew ?_) | exact HR703_0.out)) hb); have n5_ := Aside0.mk (Kd.C_below (by repeat (first | (with_reducible exact HR704_0.out) | (with_reducible refine Kd.C_alloc ?_ _) | (with_reducible refine Kd.C_drewN ?_ _) | (with_reducible refine Kd.C_drew ?_) | exact HR704_0.out)) hb); have n6_ := Aside0.mk (below_step (by repeat (first | (with_reducible first | exact HB.out | apply bA|apply bN|apply bD | refine below_set ?_ GE699.out) | exact HB.out)) hb); have n7_ := Aside0.mk (hbox); have n8_ := Aside0.mk ((by rw [hg]; exact (below_size (by repeat (first | (with_reducible first | exact HB.out | apply bA|apply bN|apply bD | refine below_set ?_ GE699.out) | exact HB.out))) : w.heap.size ≤ gb706)); have n9_ := Aside0.mk ((by rw [hg]; exact (below_size (by repeat (first | (with_reducible first | exact HB.out | apply bA|apply bN|apply bD | refine below_set ?_ GE699.out) | exact HB.out))) : w.heap.size ≤ gb706)); have n10_ := Aside0.mk ((by rw [hg]; exact Nat.ne_of_lt (blk_lt (g := gb699) (o := .cells #[.int .u16 x700000_2, .string x700001_2, .int .u8 x700002_2, .slice none 0 0, .slice none 0 0, .int .i64 x700005_2, .bool x700006_2] 27 (0, 0)) (by (with_reducible repeat (first | apply kN|apply kD|apply kA)); exact BK699.out)) : gb699 ≠ gb706)); have n11_ := Aside0.mk ((by rw [hg]; exact Nat.ne_of_gt (blk_lt (g := gb699) (o := .cells #[.int .u16 x700000_2, .string x700001_2, .int .u8 x700002_2, .slice none 0 0, .slice none 0 0, .int .i64 x700005_2, .bool x700006_2] 27 (0, 0)) (by (with_reducible repeat (first | apply kN|apply kD|apply kA)); exact BK699.out)) : gb706 ≠ gb699)); clear HO_4; clear HL703_0; clear HL704_0; clear BK699; clear HR703_0; clear HR704_0; clear HB; have HO_4 := n0_; have HL703_0 := n1_; have HL704_0 := n2_; have BK699 := n3_; have HR703_0 := n4_; have HR704_0 := n5_; have HB := n6_; have BK706 := n7_; have GW706 := n8_; have GE706 := n9_; have NB699_706 := n10_; have NB706_699 := n11_; clear n0_ n1_ n2_ n3_ n4_ n5_ n6_ n7_ n8_ n9_ n10_ n11_; clear hb hbox hg; have hnb13 := NB706_699.out; have hnc13 := NB699_706.out; have hcz14_0 : w12.cell? ⟨gb706, 0, none⟩ = some (.int .u16 0) := (blk_cell BK706.out 0).trans rfl; have hcz14_1 : w12.cell? ⟨gb706, 1, none⟩ = some (.string (⟨#[]⟩ : ByteArray)) := (blk_cell BK706.out 1).trans rfl; have hcz14_2 : w12.cell? ⟨gb706, 2, none⟩ = some (.string (⟨#[]⟩ : ByteArray)) := (blk_cell BK706.out 2).trans rfl; have hcz14_3 : w12.cell? ⟨gb706, 3, none⟩ = some (.string (⟨#[]⟩ : ByteArray)) := (blk_cell BK706.out 3).trans rfl; have hcz14_4 : w12.cell? ⟨gb706, 4, none⟩ = some (.int .u8 0) := (blk_cell BK706.out 4).trans rfl; have hcz14_5 : w12.cell? ⟨gb706, 5, none⟩ = some (.string (⟨#[]⟩ : ByteArray)) := (blk_cell BK706.out 5).trans rfl; have hcz14_6 : w12.cell? ⟨gb706, 6, none⟩ = some (.bool false) := (blk_cell BK706.out 6).trans rfl; have hfz14_0 := blk_frozen BK706.out 0; have hfz14_1 := blk_frozen BK706.out 1; have hfz14_2 := blk_frozen BK706.out 2; have hfz14_3 := blk_frozen BK706.out 3; have hfz14_4 := blk_frozen BK706.out 4; have hfz14_5 := blk_frozen BK706.out 5; have hfz14_6 := blk_frozen BK706.out 6))
          (try simp only [Act.put, List.setIfInBounds_toArray, List.set_cons_zero, List.set_cons_succ])
          go_cut [43] (fun v43 wc => ∃ (kq : Nat) (x43_10 : Bool), v43 = .bool x43_10 ∧ Aside0 (jacquardref10_Of.j2 kq a0 t700 x5_1 x6_2 x43_10 ((rd_T52 (rd_L10 t700 x5_1) x6_2).f0) ((rd_T52 (rd_L10 t700 x5_1) x6_2).f1) ((rd_T52 (rd_L10 t700 x5_1) x6_2).f2) ((rd_T52 (rd_L10 t700 x5_1) x6_2).f3) ((rd_T52 (rd_L10 t700 x5_1) x6_2).f4) ((rd_T52 (rd_L10 t700 x5_1) x6_2).f5) ((rd_T52 (rd_L10 t700 x5_1) x6_2).f6) = some (r1, r2, r3, r4, r5, r6, r7, r8)) ∧ Aside0 (kq ≤ k2) ∧ Aside0 (Kd.N (Kd.slice 52 k52) 50 wc w.heap.size (fun k_ => k_ ≠ gb699 ∧ k_ ≠ gb706) (.slice (some ad703) t700.length co6) t700) ∧ Aside0 (wc.heap[gb699]? = some (.cells #[.int .u16 x700000_2, .string x700001_2, .int .u8 x700002_2, (.slice none 0 0), (.slice none 0 0), .int .i64 x700005_2, .bool x700006_2] 27 (0, 0))) ∧ Aside0 (wc.heap[gb706]? = some (.cells #[.int .u16 ((rd_T52 (rd_L10 t700 x5_1) x6_2).f0), .string ((rd_T52 (rd_L10 t700 x5_1) x6_2).f1), .string ((rd_T52 (rd_L10 t700 x5_1) x6_2).f2), .string ((rd_T52 (rd_L10 t700 x5_1) x6_2).f3), .int .u8 ((rd_T52 (rd_L10 t700 x5_1) x6_2).f4), .string ((rd_T52 (rd_L10 t700 x5_1) x6_2).f5), .bool ((rd_T52 (rd_L10 t700 x5_1) x6_2).f6)] 52 (0, 0))) ∧ Aside0 (Kd.C k52 wc (some ad705) (rd_L10 t700 x5_1).length (rd_L10 t700 x5_1)) ∧ Aside0 (Kd.C k52 wc (some ad705) (rd_L10 t700 x5_1).length (rd_L10 t700 x5_1)) ∧ Aside0 (Below w.heap.size w wc))
          case first =>
           have H := HC11.out
           clear HC11
           by_cases c15 : a0 < ((rd_T52 (rd_L10 t700 x5_1) x6_2).f0)
           ·rw [if_pos c15] at H
            have c15b0 : decide (a0 < ((rd_T52 (rd_L10 t700 x5_1) x6_2).f0)) = true := decide_eq_true c15
            clear c15
            (first | rw [c15b0] | (simp only [i64_w, i32_w]; rw [c15b0]) | skip)
            have H' := Aside0.mk H
            clear H
            have hnb16 := NB706_699.out
            have hnc16 := NB699_706.out
            have hcz17_0 : w12.cell? ⟨gb706, 0, none⟩ = some (.int .u16 0) := (blk_cell BK706.out 0).trans rfl
            have hcz17_1 : w12.cell? ⟨gb706, 1, none⟩ = some (.string (⟨#[]⟩ : ByteArray)) := (blk_cell BK706.out 1).trans rfl
            have hcz17_2 : w12.cell? ⟨gb706, 2, none⟩ = some (.string (⟨#[]⟩ : ByteArray)) := (blk_cell BK706.out 2).trans rfl
            have hcz17_3 : w12.cell? ⟨gb706, 3, none⟩ = some (.string (⟨#[]⟩ : ByteArray)) := (blk_cell BK706.out 3).trans rfl
            have hcz17_4 : w12.cell? ⟨gb706, 4, none⟩ = some (.int .u8 0) := (blk_cell BK706.out 4).trans rfl
            have hcz17_5 : w12.cell? ⟨gb706, 5, none⟩ = some (.string (⟨#[]⟩ : ByteArray)) := (blk_cell BK706.out 5).trans rfl
            have hcz17_6 : w12.cell? ⟨gb706, 6, none⟩ = some (.bool false) := (blk_cell BK706.out 6).trans rfl
            have hfz17_0 := blk_frozen BK706.out 0
            have hfz17_1 := blk_frozen BK706.out 1
            have hfz17_2 := blk_frozen BK706.out 2
            have hfz17_3 := blk_frozen BK706.out 3
            have hfz17_4 := blk_frozen BK706.out 4
            have hfz17_5 := blk_frozen BK706.out 5
            have hfz17_6 := blk_frozen BK706.out 6
            go_wp2
            go_meet
            case rel => exact ⟨_, (true), (by first | rfl | (simp; done) | (simp [*]; done)), H', ⟨by have := HK1.out; have := HK2.out; first | omega | exact Nat.le_refl _⟩, ⟨by (with_reducible repeat (first | apply Kd.N_alloc | apply Kd.N_drewN | apply Kd.N_drew)); exact Kd.N_mono (Kd.N_far (p := ⟨gb706, 6, none⟩) (Kd.N_far (p := ⟨gb706, 5, none⟩) (Kd.N_far (p := ⟨gb706, 4, none⟩) (Kd.N_far (p := ⟨gb706, 3, none⟩) (Kd.N_far (p := ⟨gb706, 2, none⟩) (Kd.N_far (p := ⟨gb706, 1, none⟩) (Kd.N_far (p := ⟨gb706, 0, none⟩) (Kd.N_mono HO_4.out (fun k_ hk => (⟨hk, hk.2⟩ : _ ∧ k_ ≠ gb706))) (fun _ hk => hk.2) (.int .u16 ((rd_T52 (rd_L10 t700 x5_1) x6_2).f0))) (fun _ hk => hk.2) (.string ((rd_T52 (rd_L10 t700 x5_1) x6_2).f1))) (fun _ hk => hk.2) (.string ((rd_T52 (rd_L10 t700 x5_1) x6_2).f2))) (fun _ hk => hk.2) (.string ((rd_T52 (rd_L10 t700 x5_1) x6_2).f3))) (fun _ hk => hk.2) (.int .u8 ((rd_T52 (rd_L10 t700 x5_1) x6_2).f4))) (fun _ hk => hk.2) (.string ((rd_T52 (rd_L10 t700 x5_1) x6_2).f5))) (fun _ hk => hk.2) (.bool ((rd_T52 (rd_L10 t700 x5_1) x6_2).f6))) (fun _ hk => ⟨hk.1.1, hk.1.2⟩)⟩, ⟨by (with_reducible repeat (first | apply kN|apply kD|apply kA)); refine blk_far ?_ NB699_706.out _; (with_reducible repeat (first | apply kN|apply kD|apply kA)); refine blk_far ?_ NB699_706.out _; (with_reducible repeat (first | apply kN|apply kD|apply kA)); refine blk_far ?_ NB699_706.out _; (with_reducible repeat (first | apply kN|apply kD|apply kA)); refine blk_far ?_ NB699_706.out _; (with_reducible repeat (first | apply kN|apply kD|apply kA)); refine blk_far ?_ NB699_706.out _; (with_reducible repeat (first | apply kN|apply kD|apply kA)); refine blk_far ?_ NB699_706.out _; (with_reducible repeat (first | apply kN|apply kD|apply kA)); refine blk_far ?_ NB699_706.out _; (with_reducible repeat (first | apply kN|apply kD|apply kA)); exact BK699.out⟩, ⟨by (with_reducible repeat (first | apply kN|apply kD|apply kA)); refine blk_put (cs := #[.int .u16 ((rd_T52 (rd_L10 t700 x5_1) x6_2).f0), .string ((rd_T52 (rd_L10 t700 x5_1) x6_2).f1), .string ((rd_T52 (rd_L10 t700 x5_1) x6_2).f2), .string ((rd_T52 (rd_L10 t700 x5_1) x6_2).f3), .int .u8 ((rd_T52 (rd_L10 t700 x5_1) x6_2).f4), .string ((rd_T52 (rd_L10 t700 x5_1) x6_2).f5), .bool false]) ?_ 6 _ rfl; (with_reducible repeat (first | apply kN|apply kD|apply kA)); refine blk_put (cs := #[.int .u16 ((rd_T52 (rd_L10 t700 x5_1) x6_2).f0), .string ((rd_T52 (rd_L10 t700 x5_1) x6_2).f1), .string ((rd_T52 (rd_L10 t700 x5_1) x6_2).f2), .string ((rd_T52 (rd_L10 t700 x5_1) x6_2).f3), .int .u8 ((rd_T52 (rd_L10 t700 x5_1) x6_2).f4), .string (⟨#[]⟩ : ByteArray), .bool false]) ?_ 5 _ rfl; (with_reducible repeat (first | apply kN|apply kD|apply kA)); refine blk_put (cs := #[.int .u16 ((rd_T52 (rd_L10 t700 x5_1) x6_2).f0), .string ((rd_T52 (rd_L10 t700 x5_1) x6_2).f1), .string ((rd_T52 (rd_L10 t700 x5_1) x6_2).f2), .string ((rd_T52 (rd_L10 t700 x5_1) x6_2).f3), .int .u8 0, .string (⟨#[]⟩ : ByteArray), .bool false]) ?_ 4 _ rfl; (with_reducible repeat (first | apply kN|apply kD|apply kA)); refine blk_put (cs := #[.int .u16 ((rd_T52 (rd_L10 t700 x5_1) x6_2).f0), .string ((rd_T52 (rd_L10 t700 x5_1) x6_2).f1), .string ((rd_T52 (rd_L10 t700 x5_1) x6_2).f2), .string (⟨#[]⟩ : ByteArray), .int .u8 0, .string (⟨#[]⟩ : ByteArray), .bool false]) ?_ 3 _ rfl; (with_reducible repeat (first | apply kN|apply kD|apply kA)); refine blk_put (cs := #[.int .u16 ((rd_T52 (rd_L10 t700 x5_1) x6_2).f0), .string ((rd_T52 (rd_L10 t700 x5_1) x6_2).f1), .string (⟨#[]⟩ : ByteArray), .string (⟨#[]⟩ : ByteArray), .int .u8 0, .string (⟨#[]⟩ : ByteArray), .bool false]) ?_ 2 _ rfl; (with_reducible repeat (first | apply kN|apply kD|apply kA)); refine blk_put (cs := #[.int .u16 ((rd_T52 (rd_L10 t700 x5_1) x6_2).f0), .string (⟨#[]⟩ : ByteArray), .string (⟨#[]⟩ : ByteArray), .string (⟨#[]⟩ : ByteArray), .int .u8 0, .string (⟨#[]⟩ : ByteArray), .bool false]) ?_ 1 _ rfl; (with_reducible repeat (first | apply kN|apply kD|apply kA)); refine blk_put (cs := #[.int .u16 0, .string (⟨#[]⟩ : ByteArray), .string (⟨#[]⟩ : ByteArray), .string (⟨#[]⟩ : ByteArray), .int .u8 0, .string (⟨#[]⟩ : ByteArray), .bool false]) ?_ 0 _ rfl; (with_reducible repeat (first | apply kN|apply kD|apply kA)); exact BK706.out⟩, ⟨(Kd.V_reads' (by (with_reducible repeat (first | apply Kd.V_alloc | apply Kd.V_drewN | apply Kd.V_drew)); exact (Kd.V_mono (Kd.V_far (p := ⟨gb706, 6, none⟩) (Kd.V_far (p := ⟨gb706, 5, none⟩) (Kd.V_far (p := ⟨gb706, 4, none⟩) (Kd.V_far (p := ⟨gb706, 3, none⟩) (Kd.V_far (p := ⟨gb706, 2, none⟩) (Kd.V_far (p := ⟨gb706, 1, none⟩) (Kd.V_far (p := ⟨gb706, 0, none⟩) (Kd.V_mono HL703_0.out (fun k_ hk => (⟨hk, hk.2⟩ : _ ∧ k_ ≠ gb706))) (fun _ hk => hk.2) (.int .u16 ((rd_T52 (rd_L10 t700 x5_1) x6_2).f0))) (fun _ hk => hk.2) (.string ((rd_T52 (rd_L10 t700 x5_1) x6_2).f1))) (fun _ hk => hk.2) (.string ((rd_T52 (rd_L10 t700 x5_1) x6_2).f2))) (fun _ hk => hk.2) (.string ((rd_T52 (rd_L10 t700 x5_1) x6_2).f3))) (fun _ hk => hk.2) (.int .u8 ((rd_T52 (rd_L10 t700 x5_1) x6_2).f4))) (fun _ hk => hk.2) (.string ((rd_T52 (rd_L10 t700 x5_1) x6_2).f5))) (fun _ hk => hk.2) (.bool ((rd_T52 (rd_L10 t700 x5_1) x6_2).f6))) (fun _ h_ => h_.1)))).2.2⟩, ⟨(Kd.V_reads' (by (with_reducible repeat (first | apply Kd.V_alloc | apply Kd.V_drewN | apply Kd.V_drew)); exact (Kd.V_mono (Kd.V_far (p := ⟨gb706, 6, none⟩) (Kd.V_far (p := ⟨gb706, 5, none⟩) (Kd.V_far (p := ⟨gb706, 4, none⟩) (Kd.V_far (p := ⟨gb706, 3, none⟩) (Kd.V_far (p := ⟨gb706, 2, none⟩) (Kd.V_far (p := ⟨gb706, 1, none⟩) (Kd.V_far (p := ⟨gb706, 0, none⟩) (Kd.V_mono HL704_0.out (fun k_ hk => (⟨hk, hk.2⟩ : _ ∧ k_ ≠ gb706))) (fun _ hk => hk.2) (.int .u16 ((rd_T52 (rd_L10 t700 x5_1) x6_2).f0))) (fun _ hk => hk.2) (.string ((rd_T52 (rd_L10 t700 x5_1) x6_2).f1))) (fun _ hk => hk.2) (.string ((rd_T52 (rd_L10 t700 x5_1) x6_2).f2))) (fun _ hk => hk.2) (.string ((rd_T52 (rd_L10 t700 x5_1) x6_2).f3))) (fun _ hk => hk.2) (.int .u8 ((rd_T52 (rd_L10 t700 x5_1) x6_2).f4))) (fun _ hk => hk.2) (.string ((rd_T52 (rd_L10 t700 x5_1) x6_2).f5))) (fun _ hk => hk.2) (.bool ((rd_T52 (rd_L10 t700 x5_1) x6_2).f6))) (fun _ h_ => h_.1)))).2.2⟩, ⟨by repeat (first | (with_reducible first | exact HB.out | apply bA|apply bN|apply bD | refine below_set ?_ GE699.out | refine below_set ?_ GE706.out) | exact HB.out)⟩⟩
           ·rw [if_neg c15] at H
            have c15b0 : decide (a0 < ((rd_T52 (rd_L10 t700 x5_1) x6_2).f0)) = false := decide_eq_false c15
            clear c15
            (first | rw [c15b0] | (simp only [i64_w, i32_w]; rw [c15b0]) | skip)
            have H' := Aside0.mk H
            clear H
            have hnb18 := NB706_699.out
            have hnc18 := NB699_706.out
            have hcz19_0 : w12.cell? ⟨gb706, 0, none⟩ = some (.int .u16 0) := (blk_cell BK706.out 0).trans rfl
            have hcz19_1 : w12.cell? ⟨gb706, 1, none⟩ = some (.string (⟨#[]⟩ : ByteArray)) := (blk_cell BK706.out 1).trans rfl
            have hcz19_2 : w12.cell? ⟨gb706, 2, none⟩ = some (.string (⟨#[]⟩ : ByteArray)) := (blk_cell BK706.out 2).trans rfl
            have hcz19_3 : w12.cell? ⟨gb706, 3, none⟩ = some (.string (⟨#[]⟩ : ByteArray)) := (blk_cell BK706.out 3).trans rfl
            have hcz19_4 : w12.cell? ⟨gb706, 4, none⟩ = some (.int .u8 0) := (blk_cell BK706.out 4).trans rfl
            have hcz19_5 : w12.cell? ⟨gb706, 5, none⟩ = some (.string (⟨#[]⟩ : ByteArray)) := (blk_cell BK706.out 5).trans rfl
            have hcz19_6 : w12.cell? ⟨gb706, 6, none⟩ = some (.bool false) := (blk_cell BK706.out 6).trans rfl
            have hfz19_0 := blk_frozen BK706.out 0
            have hfz19_1 := blk_frozen BK706.out 1
            have hfz19_2 := blk_frozen BK706.out 2
            have hfz19_3 := blk_frozen BK706.out 3
            have hfz19_4 := blk_frozen BK706.out 4
            have hfz19_5 := blk_frozen BK706.out 5
            have hfz19_6 := blk_frozen BK706.out 6
            go_wp2
            go_meet
            case rel => exact ⟨_, (decide (a0 > (IntKind.u16.wrap (((rd_T52 (rd_L10 t700 x5_1) x6_2).f0) + 20)))), (by first | rfl | (simp; done) | (simp [*]; done)), H', ⟨by have := HK1.out; have := HK2.out; first | omega | exact Nat.le_refl _⟩, ⟨by (with_reducible repeat (first | apply Kd.N_alloc | apply Kd.N_drewN | apply Kd.N_drew)); exact Kd.N_mono (Kd.N_far (p := ⟨gb706, 6, none⟩) (Kd.N_far (p := ⟨gb706, 5, none⟩) (Kd.N_far (p := ⟨gb706, 4, none⟩) (Kd.N_far (p := ⟨gb706, 3, none⟩) (Kd.N_far (p := ⟨gb706, 2, none⟩) (Kd.N_far (p := ⟨gb706, 1, none⟩) (Kd.N_far (p := ⟨gb706, 0, none⟩) (Kd.N_mono HO_4.out (fun k_ hk => (⟨hk, hk.2⟩ : _ ∧ k_ ≠ gb706))) (fun _ hk => hk.2) (.int .u16 ((rd_T52 (rd_L10 t700 x5_1) x6_2).f0))) (fun _ hk => hk.2) (.string ((rd_T52 (rd_L10 t700 x5_1) x6_2).f1))) (fun _ hk => hk.2) (.string ((rd_T52 (rd_L10 t700 x5_1) x6_2).f2))) (fun _ hk => hk.2) (.string ((rd_T52 (rd_L10 t700 x5_1) x6_2).f3))) (fun _ hk => hk.2) (.int .u8 ((rd_T52 (rd_L10 t700 x5_1) x6_2).f4))) (fun _ hk => hk.2) (.string ((rd_T52 (rd_L10 t700 x5_1) x6_2).f5))) (fun _ hk => hk.2) (.bool ((rd_T52 (rd_L10 t700 x5_1) x6_2).f6))) (fun _ hk => ⟨hk.1.1, hk.1.2⟩)⟩, ⟨by (with_reducible repeat (first | apply kN|apply kD|apply kA)); refine blk_far ?_ NB699_706.out _; (with_reducible repeat (first | apply kN|apply kD|apply kA)); refine blk_far ?_ NB699_706.out _; (with_reducible repeat (first | apply kN|apply kD|apply kA)); refine blk_far ?_ NB699_706.out _; (with_reducible repeat (first | apply kN|apply kD|apply kA)); refine blk_far ?_ NB699_706.out _; (with_reducible repeat (first | apply kN|apply kD|apply kA)); refine blk_far ?_ NB699_706.out _; (with_reducible repeat (first | apply kN|apply kD|apply kA)); refine blk_far ?_ NB699_706.out _; (with_reducible repeat (first | apply kN|apply kD|apply kA)); refine blk_far ?_ NB699_706.out _; (with_reducible repeat (first | apply kN|apply kD|apply kA)); exact BK699.out⟩, ⟨by (with_reducible repeat (first | apply kN|apply kD|apply kA)); refine blk_put (cs := #[.int .u16 ((rd_T52 (rd_L10 t700 x5_1) x6_2).f0), .string ((rd_T52 (rd_L10 t700 x5_1) x6_2).f1), .string ((rd_T52 (rd_L10 t700 x5_1) x6_2).f2), .string ((rd_T52 (rd_L10 t700 x5_1) x6_2).f3), .int .u8 ((rd_T52 (rd_L10 t700 x5_1) x6_2).f4), .string ((rd_T52 (rd_L10 t700 x5_1) x6_2).f5), .bool false]) ?_ 6 _ rfl; (with_reducible repeat (first | apply kN|apply kD|apply kA)); refine blk_put (cs := #[.int .u16 ((rd_T52 (rd_L10 t700 x5_1) x6_2).f0), .string ((rd_T52 (rd_L10 t700 x5_1) x6_2).f1), .string ((rd_T52 (rd_L10 t700 x5_1) x6_2).f2), .string ((rd_T52 (rd_L10 t700 x5_1) x6_2).f3), .int .u8 ((rd_T52 (rd_L10 t700 x5_1) x6_2).f4), .string (⟨#[]⟩ : ByteArray), .bool false]) ?_ 5 _ rfl; (with_reducible repeat (first | apply kN|apply kD|apply kA)); refine blk_put (cs := #[.int .u16 ((rd_T52 (rd_L10 t700 x5_1) x6_2).f0), .string ((rd_T52 (rd_L10 t700 x5_1) x6_2).f1), .string ((rd_T52 (rd_L10 t700 x5_1) x6_2).f2), .string ((rd_T52 (rd_L10 t700 x5_1) x6_2).f3), .int .u8 0, .string (⟨#[]⟩ : ByteArray), .bool false]) ?_ 4 _ rfl; (with_reducible repeat (first | apply kN|apply kD|apply kA)); refine blk_put (cs := #[.int .u16 ((rd_T52 (rd_L10 t700 x5_1) x6_2).f0), .string ((rd_T52 (rd_L10 t700 x5_1) x6_2).f1), .string ((rd_T52 (rd_L10 t700 x5_1) x6_2).f2), .string (⟨#[]⟩ : ByteArray), .int .u8 0, .string (⟨#[]⟩ : ByteArray), .bool false]) ?_ 3 _ rfl; (with_reducible repeat (first | apply kN|apply kD|apply kA)); refine blk_put (cs := #[.int .u16 ((rd_T52 (rd_L10 t700 x5_1) x6_2).f0), .string ((rd_T52 (rd_L10 t700 x5_1) x6_2).f1), .string (⟨#[]⟩ : ByteArray), .string (⟨#[]⟩ : ByteArray), .int .u8 0, .string (⟨#[]⟩ : ByteArray), .bool false]) ?_ 2 _ rfl; (with_reducible repeat (first | apply kN|apply kD|apply kA)); refine blk_put (cs := #[.int .u16 ((rd_T52 (rd_L10 t700 x5_1) x6_2).f0), .string (⟨#[]⟩ : ByteArray), .string (⟨#[]⟩ : ByteArray), .string (⟨#[]⟩ : ByteArray), .int .u8 0, .string (⟨#[]⟩ : ByteArray), .bool false]) ?_ 1 _ rfl; (with_reducible repeat (first | apply kN|apply kD|apply kA)); refine blk_put (cs := #[.int .u16 0, .string (⟨#[]⟩ : ByteArray), .string (⟨#[]⟩ : ByteArray), .string (⟨#[]⟩ : ByteArray), .int .u8 0, .string (⟨#[]⟩ : ByteArray), .bool false]) ?_ 0 _ rfl; (with_reducible repeat (first | apply kN|apply kD|apply kA)); exact BK706.out⟩, ⟨(Kd.V_reads' (by (with_reducible repeat (first | apply Kd.V_alloc | apply Kd.V_drewN | apply Kd.V_drew)); exact (Kd.V_mono (Kd.V_far (p := ⟨gb706, 6, none⟩) (Kd.V_far (p := ⟨gb706, 5, none⟩) (Kd.V_far (p := ⟨gb706, 4, none⟩) (Kd.V_far (p := ⟨gb706, 3, none⟩) (Kd.V_far (p := ⟨gb706, 2, none⟩) (Kd.V_far (p := ⟨gb706, 1, none⟩) (Kd.V_far (p := ⟨gb706, 0, none⟩) (Kd.V_mono HL703_0.out (fun k_ hk => (⟨hk, hk.2⟩ : _ ∧ k_ ≠ gb706))) (fun _ hk => hk.2) (.int .u16 ((rd_T52 (rd_L10 t700 x5_1) x6_2).f0))) (fun _ hk => hk.2) (.string ((rd_T52 (rd_L10 t700 x5_1) x6_2).f1))) (fun _ hk => hk.2) (.string ((rd_T52 (rd_L10 t700 x5_1) x6_2).f2))) (fun _ hk => hk.2) (.string ((rd_T52 (rd_L10 t700 x5_1) x6_2).f3))) (fun _ hk => hk.2) (.int .u8 ((rd_T52 (rd_L10 t700 x5_1) x6_2).f4))) (fun _ hk => hk.2) (.string ((rd_T52 (rd_L10 t700 x5_1) x6_2).f5))) (fun _ hk => hk.2) (.bool ((rd_T52 (rd_L10 t700 x5_1) x6_2).f6))) (fun _ h_ => h_.1)))).2.2⟩, ⟨(Kd.V_reads' (by (with_reducible repeat (first | apply Kd.V_alloc | apply Kd.V_drewN | apply Kd.V_drew)); exact (Kd.V_mono (Kd.V_far (p := ⟨gb706, 6, none⟩) (Kd.V_far (p := ⟨gb706, 5, none⟩) (Kd.V_far (p := ⟨gb706, 4, none⟩) (Kd.V_far (p := ⟨gb706, 3, none⟩) (Kd.V_far (p := ⟨gb706, 2, none⟩) (Kd.V_far (p := ⟨gb706, 1, none⟩) (Kd.V_far (p := ⟨gb706, 0, none⟩) (Kd.V_mono HL704_0.out (fun k_ hk => (⟨hk, hk.2⟩ : _ ∧ k_ ≠ gb706))) (fun _ hk => hk.2) (.int .u16 ((rd_T52 (rd_L10 t700 x5_1) x6_2).f0))) (fun _ hk => hk.2) (.string ((rd_T52 (rd_L10 t700 x5_1) x6_2).f1))) (fun _ hk => hk.2) (.string ((rd_T52 (rd_L10 t700 x5_1) x6_2).f2))) (fun _ hk => hk.2) (.string ((rd_T52 (rd_L10 t700 x5_1) x6_2).f3))) (fun _ hk => hk.2) (.int .u8 ((rd_T52 (rd_L10 t700 x5_1) x6_2).f4))) (fun _ hk => hk.2) (.string ((rd_T52 (rd_L10 t700 x5_1) x6_2).f5))) (fun _ hk => hk.2) (.bool ((rd_T52 (rd_L10 t700 x5_1) x6_2).f6))) (fun _ h_ => h_.1)))).2.2⟩, ⟨by repeat (first | (with_reducible first | exact HB.out | apply bA|apply bN|apply bD | refine below_set ?_ GE699.out | refine below_set ?_ GE706.out) | exact HB.out)⟩⟩
          case rest =>
           clear HC11
           try clear c1
           try clear c2
           try clear p2
           try clear c5
           try clear c5b0
           try clear c7
           try clear c7b0
           try clear p7
           try clear q7
           try clear hx7
           try clear c8
           try clear c8b0
           try clear c9
           try clear c9b0
           try clear c10
           try clear c10b0
           try clear c12
           try clear c13
           try clear c15
           try clear c15b0
           try clear c16
           try clear c18
           try clear hcz14_0
           try clear hcz14_1
           try clear hcz14_2
           try clear hcz14_3
           try clear hcz14_4
           try clear hcz14_5
           try clear hcz14_6
           try clear hcz17_0
           try clear hcz17_1
           try clear hcz17_2
           try clear hcz17_3
           try clear hcz17_4
           try clear hcz17_5
           try clear hcz17_6
           try clear hcz19_0
           try clear hcz19_1
           try clear hcz19_2
           try clear hcz19_3
           try clear hcz19_4
           try clear hcz19_5
           try clear hcz19_6
           try clear hfz14_0
           try clear hfz14_1
           try clear hfz14_2
           try clear hfz14_3
           try clear hfz14_4
           try clear hfz14_5
           try clear hfz14_6
           try clear hfz17_0
           try clear hfz17_1
           try clear hfz17_2
           try clear hfz17_3
           try clear hfz17_4
           try clear hfz17_5
           try clear hfz17_6
           try clear hfz19_0
           try clear hfz19_1
           try clear hfz19_2
           try clear hfz19_3
           try clear hfz19_4
           try clear hfz19_5
           try clear hfz19_6
           try clear hx703_0
           try clear hx704_0
           try clear hx705_0
           try clear hx705_1
           try clear hx705_2
           try clear hx705_3
           try clear hx705_4
           try clear hx705_5
           try clear hx705_6
           try clear p2
           try clear p703
           try clear p704
           try clear p705
           try clear q703
           try clear q704
           try clear q705
           obtain ⟨kq, x43_10, rfl, HA, HJ10, HO_4, BK699, BK706, HR703_0, HR704_0, HB⟩ := hcut
           cases kq with
           | zero => exact absurd HA.out (by simp [jacquardref10_Of.j2])
           | succ kj10 =>
            have H := HA.out
            clear HA
            simp only [jacquardref10_Of.j2] at H
            by_cases c20 : x43_10 = true
            ·subst c20
             have H1 : (jacquardref10_Of.l1 kj10 a0 t700 x5_1 (wrap64 (x6_2 + 1))) = some (r1, r2, r3, r4, r5, r6, r7, r8) := by rw [if_pos rfl] at H; exact H
             clear H
             have H := H1
             clear H1
             have H' := Aside0.mk H
             clear H
             go_wp2
             go_roundg kj10
             case measure => have := HK1.out; have := HK2.out; have := HJ10.out; omega
             case rel => exact ⟨(wrap64 (x6_2 + 1)), (x700000_2), (x700001_2), (x700002_2), (x700005_2), (x700006_2), (by first | rfl | (simp; done) | (simp [*]; done)), H', ⟨by have := HK1.out; have := HK2.out; have := HJ10.out; omega⟩, ⟨by (with_reducible repeat (first | apply Kd.N_alloc | apply Kd.N_drewN | apply Kd.N_drew)); exact Kd.N_mono HO_4.out (fun _ hk => hk.1)⟩, ⟨by (with_reducible repeat (first | apply kN|apply kD|apply kA)); exact BK699.out⟩, ⟨by repeat (first | (with_reducible first | exact HB.out | apply bA|apply bN|apply bD | refine below_set ?_ GE699.out | refine below_set ?_ GE706.out) | exact HB.out)⟩⟩
            ·replace c20 := Bool.eq_false_iff.mpr c20
             subst c20
             have H1 : ((jacquardref10_words.f kj10 ((rd_T52 (rd_L10 t700 x5_1) x6_2).f2)).bind fun t707 => (if (wrap64 (IntKind.u16.wrap (a0 - ((rd_T52 (rd_L10 t700 x5_1) x6_2).f0)))) < (t707.length : Int) then (if 0 ≤ (wrap64 (IntKind.u16.wrap (a0 - ((rd_T52 (rd_L10 t700 x5_1) x6_2).f0)))) then ((jacquardref10_info.f kj10 ((rd_T52 (rd_L10 t700 x5_1) x6_2).f0) ((rd_T52 (rd_L10 t700 x5_1) x6_2).f1) ((rd_T52 (rd_L10 t700 x5_1) x6_2).f2) ((rd_T52 (rd_L10 t700 x5_1) x6_2).f3) ((rd_T52 (rd_L10 t700 x5_1) x6_2).f4) ((rd_T52 (rd_L10 t700 x5_1) x6_2).f5) ((rd_T52 (rd_L10 t700 x5_1) x6_2).f6) (rdOf ByteArray.empty t707 (wrap64 (IntKind.u16.wrap (a0 - ((rd_T52 (rd_L10 t700 x5_1) x6_2).f0))))) (wrap64 (IntKind.u16.wrap (a0 - ((rd_T52 (rd_L10 t700 x5_1) x6_2).f0))))).bind fun bt711 => (some (bt711.1, bt711.2.1, bt711.2.2.1, bt711.2.2.2.1, bt711.2.2.2.2.1, bt711.2.2.2.2.2.1, bt711.2.2.2.2.2.2, 0))) else (none)) else (jacquardref10_Of.l1 kj10 a0 t700 x5_1 (wrap64 (x6_2 + 1))))) = some (r1, r2, r3, r4, r5, r6, r7, r8) := by rw [if_neg (show ¬ (false = true) by decide)] at H; exact H
             clear H
             have H := H1
             clear H1
             replace H := Option.bind_eq_some_iff.mp H
             obtain ⟨t707, A210, H⟩ := H
             replace H : (if (wrap64 (IntKind.u16.wrap (a0 - ((rd_T52 (rd_L10 t700 x5_1) x6_2).f0)))) < (t707.length : Int) then (if 0 ≤ (wrap64 (IntKind.u16.wrap (a0 - ((rd_T52 (rd_L10 t700 x5_1) x6_2).f0)))) then ((jacquardref10_info.f kj10 ((rd_T52 (rd_L10 t700 x5_1) x6_2).f0) ((rd_T52 (rd_L10 t700 x5_1) x6_2).f1) ((rd_T52 (rd_L10 t700 x5_1) x6_2).f2) ((rd_T52 (rd_L10 t700 x5_1) x6_2).f3) ((rd_T52 (rd_L10 t700 x5_1) x6_2).f4) ((rd_T52 (rd_L10 t700 x5_1) x6_2).f5) ((rd_T52 (rd_L10 t700 x5_1) x6_2).f6) (rdOf ByteArray.empty t707 (wrap64 (IntKind.u16.wrap (a0 - ((rd_T52 (rd_L10 t700 x5_1) x6_2).f0))))) (wrap64 (IntKind.u16.wrap (a0 - ((rd_T52 (rd_L10 t700 x5_1) x6_2).f0))))).bind fun bt711 => (some (bt711.1, bt711.2.1, bt711.2.2.1, bt711.2.2.2.1, bt711.2.2.2.2.1, bt711.2.2.2.2.2.1, bt711.2.2.2.2.2.2, 0))) else (none)) else (jacquardref10_Of.l1 kj10 a0 t700 x5_1 (wrap64 (x6_2 + 1)))) = some (r1, r2, r3, r4, r5, r6, r7, r8) := H
             have A21 := Aside0.mk A210
             clear A210
             by_cases c22 : (wrap64 (IntKind.u16.wrap (a0 - ((rd_T52 (rd_L10 t700 x5_1) x6_2).f0)))) < (t707.length : Int)
             ·rw [if_pos c22] at H
              have c22b0 : decide ((wrap64 (IntKind.u16.wrap (a0 - ((rd_T52 (rd_L10 t700 x5_1) x6_2).f0)))) < (t707.length : Int)) = true := decide_eq_true c22
              clear c22
              obtain ⟨ji23, hji23⟩ : ∃ j_ : Int, (wrap64 (IntKind.u16.wrap (a0 - ((rd_T52 (rd_L10 t700 x5_1) x6_2).f0)))) = j_ := ⟨_, rfl⟩
              replace H : (if 0 ≤ (ji23) then ((jacquardref10_info.f kj10 ((rd_T52 (rd_L10 t700 x5_1) x6_2).f0) ((rd_T52 (rd_L10 t700 x5_1) x6_2).f1) ((rd_T52 (rd_L10 t700 x5_1) x6_2).f2) ((rd_T52 (rd_L10 t700 x5_1) x6_2).f3) ((rd_T52 (rd_L10 t700 x5_1) x6_2).f4) ((rd_T52 (rd_L10 t700 x5_1) x6_2).f5) ((rd_T52 (rd_L10 t700 x5_1) x6_2).f6) (rdOf ByteArray.empty t707 (ji23)) (ji23)).bind fun bt711 => (some (bt711.1, bt711.2.1, bt711.2.2.1, bt711.2.2.2.1, bt711.2.2.2.2.1, bt711.2.2.2.2.2.1, bt711.2.2.2.2.2.2, 0))) else (none)) = some (r1, r2, r3, r4, r5, r6, r7, r8) := by first | (rw [hji23] at H; exact H) | (simp only [hji23] at H ⊢; exact H)
              (try rw [hji23] at c22b0)
              (try rw [hji23] at A21)
              have hji23w : (IntKind.i64.wrap (IntKind.u16.wrap (a0 - ((rd_T52 (rd_L10 t700 x5_1) x6_2).f0)))) = ji23 := (i64_w _).trans hji23
              by_cases c24 : 0 ≤ (ji23)
              ·rw [if_pos c24] at H
               have c24b0 : decide (0 ≤ (ji23)) = true := decide_eq_true c24
               clear c24
               replace H := Option.bind_eq_some_iff.mp H
               obtain ⟨⟨t711, t712, t713, t714, t717, t720, t721⟩, A250, H⟩ := H
               replace H : (some (t711, t712, t713, t714, t717, t720, t721, 0)) = some (r1, r2, r3, r4, r5, r6, r7, r8) := H
               have A25 := Aside0.mk A250
               clear A250
               simp only [Option.some.injEq, Prod.mk.injEq] at H
               obtain ⟨rfl, rfl, rfl, rfl, rfl, rfl, rfl, rfl⟩ := H
               have hnb26 := NB706_699.out
               have hnc26 := NB699_706.out
               have hcz27_0 : wc.cell? ⟨gb706, 0, none⟩ = some (.int .u16 ((rd_T52 (rd_L10 t700 x5_1) x6_2).f0)) := (blk_cell BK706.out 0).trans rfl
               have hcz27_1 : wc.cell? ⟨gb706, 1, none⟩ = some (.string ((rd_T52 (rd_L10 t700 x5_1) x6_2).f1)) := (blk_cell BK706.out 1).trans rfl
               have hcz27_2 : wc.cell? ⟨gb706, 2, none⟩ = some (.string ((rd_T52 (rd_L10 t700 x5_1) x6_2).f2)) := (blk_cell BK706.out 2).trans rfl
               have hcz27_3 : wc.cell? ⟨gb706, 3, none⟩ = some (.string ((rd_T52 (rd_L10 t700 x5_1) x6_2).f3)) := (blk_cell BK706.out 3).trans rfl
               have hcz27_4 : wc.cell? ⟨gb706, 4, none⟩ = some (.int .u8 ((rd_T52 (rd_L10 t700 x5_1) x6_2).f4)) := (blk_cell BK706.out 4).trans rfl
               have hcz27_5 : wc.cell? ⟨gb706, 5, none⟩ = some (.string ((rd_T52 (rd_L10 t700 x5_1) x6_2).f5)) := (blk_cell BK706.out 5).trans rfl
               have hcz27_6 : wc.cell? ⟨gb706, 6, none⟩ = some (.bool ((rd_T52 (rd_L10 t700 x5_1) x6_2).f6)) := (blk_cell BK706.out 6).trans rfl
               have hfz27_0 := blk_frozen BK706.out 0
               have hfz27_1 := blk_frozen BK706.out 1
               have hfz27_2 := blk_frozen BK706.out 2
               have hfz27_3 := blk_frozen BK706.out 3
               have hfz27_4 := blk_frozen BK706.out 4
               have hfz27_5 := blk_frozen BK706.out 5
               have hfz27_6 := blk_frozen BK706.out 6
               try go_wp2_with (first | ((with_reducible refine gate_callee (f := 22) rfl ?_); refine goesL_ (some 46) rfl rfl Tryd.func22 (by kernel_rfl) rfl #[.string ((rd_T52 (rd_L10 t700 x5_1) x6_2).f2)] rfl (by (try simp only [List.map_toArray, List.map_cons, List.map_nil]); first | done | rfl | (simp only [List.length_drop, List.length_take]; rfl)) ?_; (with_reducible refine (jacquardref10_words.calls kj10 ((rd_T52 (rd_L10 t700 x5_1) x6_2).f2) t707 _ A21.out).mono ?_); rintro e w28 ⟨v708, rfl, ho0, hb⟩; refine ⟨_, rfl, ?_⟩; have n0_ := Aside0.mk (Kd.N_elder' (by (with_reducible repeat (first | apply Kd.N_alloc | apply Kd.N_drewN | apply Kd.N_drew)); exact HO_4.out) (Kd.R_base ho0) hb); have n1_ := Aside0.mk (Kd.R_lower ho0 (below_size (by repeat (first | (with_reducible first | exact HB.out | apply bA|apply bN|apply bD | refine below_set ?_ GE699.out | refine below_set ?_ GE706.out) | exact HB.out)))); have n2_ := Aside0.mk (blk_below (g := gb699) (o := .cells #[.int .u16 x700000_2, .string x700001_2, .int .u8 x700002_2, .slice none 0 0, .slice none 0 0, .int .i64 x700005_2, .bool x700006_2] 27 (0, 0)) (by (with_reducible repeat (first | apply kN|apply kD|apply kA)); exact BK699.out) hb); have n3_ := Aside0.mk (blk_below (g := gb706) (o := .cells #[.int .u16 ((rd_T52 (rd_L10 t700 x5_1) x6_2).f0), .string ((rd_T52 (rd_L10 t700 x5_1) x6_2).f1), .string ((rd_T52 (rd_L10 t700 x5_1) x6_2).f2), .string ((rd_T52 (rd_L10 t700 x5_1) x6_2).f3), .int .u8 ((rd_T52 (rd_L10 t700 x5_1) x6_2).f4), .string ((rd_T52 (rd_L10 t700 x5_1) x6_2).f5), .bool ((rd_T52 (rd_L10 t700 x5_1) x6_2).f6)] 52 (0, 0)) (by (with_reducible repeat (first | apply kN|apply kD|apply kA)); exact BK706.out) hb); have n4_ := Aside0.mk (Kd.C_below (by repeat (first | (with_reducible exact HR703_0.out) | (with_reducible refine Kd.C_alloc ?_ _) | (with_reducible refine Kd.C_drewN ?_ _) | (with_reducible refine Kd.C_drew ?_) | exact HR703_0.out)) hb); have n5_ := Aside0.mk (Kd.C_below (by repeat (first | (with_reducible exact HR704_0.out) | (with_reducible refine Kd.C_alloc ?_ _) | (with_reducible refine Kd.C_drewN ?_ _) | (with_reducible refine Kd.C_drew ?_) | exact HR704_0.out)) hb); have n6_ := Aside0.mk (below_step (by repeat (first | (with_reducible first | exact HB.out | apply bA|apply bN|apply bD | refine below_set ?_ GE699.out | refine below_set ?_ GE706.out) | exact HB.out)) hb); clear HO_4; clear BK699; clear BK706; clear HR703_0; clear HR704_0; clear HB; have HO_4 := n0_; have HO709 := n1_; have BK699 := n2_; have BK706 := n3_; have HR703_0 := n4_; have HR704_0 := n5_; have HB := n6_; clear n0_ n1_ n2_ n3_ n4_ n5_ n6_; (try clear hb); (try clear hb2); (try clear hk); (try clear hi); (try clear ho0); have hcz29_0 : w28.cell? ⟨gb706, 0, none⟩ = some (.int .u16 ((rd_T52 (rd_L10 t700 x5_1) x6_2).f0)) := (blk_cell BK706.out 0).trans rfl; have hcz29_1 : w28.cell? ⟨gb706, 1, none⟩ = some (.string ((rd_T52 (rd_L10 t700 x5_1) x6_2).f1)) := (blk_cell BK706.out 1).trans rfl; have hcz29_2 : w28.cell? ⟨gb706, 2, none⟩ = some (.string ((rd_T52 (rd_L10 t700 x5_1) x6_2).f2)) := (blk_cell BK706.out 2).trans rfl; have hcz29_3 : w28.cell? ⟨gb706, 3, none⟩ = some (.string ((rd_T52 (rd_L10 t700 x5_1) x6_2).f3)) := (blk_cell BK706.out 3).trans rfl; have hcz29_4 : w28.cell? ⟨gb706, 4, none⟩ = some (.int .u8 ((rd_T52 (rd_L10 t700 x5_1) x6_2).f4)) := (blk_cell BK706.out 4).trans rfl; have hcz29_5 : w28.cell? ⟨gb706, 5, none⟩ = some (.string ((rd_T52 (rd_L10 t700 x5_1) x6_2).f5)) := (blk_cell BK706.out 5).trans rfl; have hcz29_6 : w28.cell? ⟨gb706, 6, none⟩ = some (.bool ((rd_T52 (rd_L10 t700 x5_1) x6_2).f6)) := (blk_cell BK706.out 6).trans rfl; have hfz29_0 := blk_frozen BK706.out 0; have hfz29_1 := blk_frozen BK706.out 1; have hfz29_2 := blk_frozen BK706.out 2; have hfz29_3 := blk_frozen BK706.out 3; have hfz29_4 := blk_frozen BK706.out 4; have hfz29_5 := blk_frozen BK706.out 5; have hfz29_6 := blk_frozen BK706.out 6; obtain ⟨Ao30, co30, eo30⟩ := Kd.R_slice HO709.out; subst eo30))
               have n0_ := Aside0.mk (Kd.N_drew HO_4.out)
               have n1_ := Aside0.mk (Kd.R_drew HO709.out)
               have n2_ := Aside0.mk (blk_drew BK699.out)
               have n3_ := Aside0.mk (blk_drew BK706.out)
               have n4_ := Aside0.mk (Kd.C_drew HR703_0.out)
               have n5_ := Aside0.mk (Kd.C_drew HR704_0.out)
               have n6_ := Aside0.mk (below_drew1 HB.out)
               clear HO_4
               clear HO709
               clear BK699
               clear BK706
               clear HR703_0
               clear HR704_0
               clear HB
               have HO_4 := n0_
               have HO709 := n1_
               have BK699 := n2_
               have BK706 := n3_
               have HR703_0 := n4_
               have HR704_0 := n5_
               have HB := n6_
               clear n0_ n1_ n2_ n3_ n4_ n5_ n6_
               have p710 : 0 ≤ ((ji23) : Int) := of_decide_eq_true (by first | (with_reducible assumption) | assumption)
               have q710 : (ji23) < (t707.length : Int) := of_decide_eq_true (by first | (with_reducible assumption) | assumption)
               obtain ⟨ad710, e710, hx710_0⟩ := Kd.at_string (Kd.R_reads' HO709.out).2.2 (ji23) p710 q710
               cases e710
               replace p710 := eq_true p710
               replace q710 := eq_true q710
               refine start_ (n := 9) (S := fun w' => w'.cell? ⟨gb706, 0, none⟩ = some (.int .u16 ((rd_T52 (rd_L10 t700 x5_1) x6_2).f0)) ∧ w'.cell? ⟨gb706, 1, none⟩ = some (.string ((rd_T52 (rd_L10 t700 x5_1) x6_2).f1)) ∧ w'.cell? ⟨gb706, 2, none⟩ = some (.string ((rd_T52 (rd_L10 t700 x5_1) x6_2).f2)) ∧ w'.cell? ⟨gb706, 3, none⟩ = some (.string ((rd_T52 (rd_L10 t700 x5_1) x6_2).f3)) ∧ w'.cell? ⟨gb706, 4, none⟩ = some (.int .u8 ((rd_T52 (rd_L10 t700 x5_1) x6_2).f4)) ∧ w'.cell? ⟨gb706, 5, none⟩ = some (.string ((rd_T52 (rd_L10 t700 x5_1) x6_2).f5)) ∧ w'.cell? ⟨gb706, 6, none⟩ = some (.bool ((rd_T52 (rd_L10 t700 x5_1) x6_2).f6)) ∧ w'.cell? (ad710.add ((ji23)).toNat) = some (.string (rdOf ByteArray.empty t707 (ji23)))) (ds := []) #[false,false,false,false,false,false,false,false,false] (by kernel_rfl) rfl rfl ⟨(blk_cell BK706.out 0).trans rfl, (blk_cell BK706.out 1).trans rfl, (blk_cell BK706.out 2).trans rfl, (blk_cell BK706.out 3).trans rfl, (blk_cell BK706.out 4).trans rfl, (blk_cell BK706.out 5).trans rfl, (blk_cell BK706.out 6).trans rfl, hx710_0⟩ (fun hHeld => ?_); refine with_tabW jacquardref10_Of.tab13 jacquardref10_Of.bits13 (fun HT_ HW_ => ?_)
               generalize w28.drew = w31 at HO_4 HO709 BK699 BK706 HR703_0 HR704_0 HB hx710_0 hHeld ⊢
               refine pure_ (i := 1) (N := some 57) (v := ?_) (a' := ?_) #[false,true,false,false,false,false,false,false,false] rfl rfl (any_of HT_.out (by kernel_rfl)) (fun _ _ _ h => h) (Or.inl ⟨by rfl, ?_⟩) ?_ ?_
               rotate_left
               ·intro w'
                go_simp
                with_reducible rfl
               rotate_left
               ·simp only [Act.put, List.setIfInBounds_toArray, List.set_cons_zero, List.set_cons_succ, i64_w, i32_w]
                rfl
               refine pure_ (i := 2) (N := some 58) (v := ?_) (a' := ?_) #[false,true,true,false,false,false,false,false,false] rfl rfl (any_of HT_.out (by kernel_rfl)) (fun _ _ _ h => h) (Or.inl ⟨by rfl, ?_⟩) ?_ ?_
               rotate_left
               ·intro w'
                go_simp
                with_reducible rfl
               rotate_left
               ·simp only [Act.put, List.setIfInBounds_toArray, List.set_cons_zero, List.set_cons_succ, i64_w, i32_w]
                rfl
               refine pure_ (i := 3) (N := some 59) (v := ?_) (a' := ?_) #[false,true,true,true,false,false,false,false,false] rfl rfl (any_of HT_.out (by kernel_rfl)) (fun _ _ _ h => h) (Or.inl ⟨by rfl, ?_⟩) ?_ ?_
               rotate_left
               ·intro w'
                go_simp
                with_reducible rfl
               rotate_left
               ·simp only [Act.put, List.setIfInBounds_toArray, List.set_cons_zero, List.set_cons_succ, i64_w, i32_w]
                rfl
               refine pure_ (i := 5) (N := some 61) (v := ?_) (a' := ?_) #[false,true,true,true,false,true,false,false,false] rfl rfl (any_of HT_.out (by kernel_rfl)) (fun _ _ _ h => h) (Or.inl ⟨by rfl, ?_⟩) ?_ ?_
               rotate_left
               ·intro w'
                go_simp
                with_reducible rfl
               rotate_left
               ·simp only [Act.put, List.setIfInBounds_toArray, List.set_cons_zero, List.set_cons_succ, i64_w, i32_w]
                rfl
               refine take_ (i := 0) (N := some 56) (v := ?_) (a' := ?_) #[true,true,true,true,false,true,false,false,false] rfl rfl (take_ofW HT_.out HW_.out (by kernel_rfl)) (fun _ _ _ h => h) (Or.inl ⟨by rfl, ?_⟩) hHeld ?_ ?_
               rotate_left
               ·rintro w' ⟨s0, s1, s2, s3, s4, s5, s6, s7⟩
                go_simp
                with_reducible rfl
               rotate_left
               ·simp only [Act.put, List.setIfInBounds_toArray, List.set_cons_zero, List.set_cons_succ, i64_w, i32_w]
                rfl
               refine take_ (i := 4) (N := some 60) (v := ?_) (a' := ?_) #[true,true,true,true,true,true,false,false,false] rfl rfl (take_ofW HT_.out HW_.out (by kernel_rfl)) (fun _ _ _ h => h) (Or.inl ⟨by rfl, ?_⟩) hHeld ?_ ?_
               rotate_left
               ·rintro w' ⟨s0, s1, s2, s3, s4, s5, s6, s7⟩
                go_simp
                with_reducible rfl
               rotate_left
               ·simp only [Act.put, List.setIfInBounds_toArray, List.set_cons_zero, List.set_cons_succ, i64_w, i32_w]
                rfl
               refine one_ (i := 6) (N := some 62) #[true,true,true,true,true,true,true,false,false] rfl rfl (one_of HT_.out (by kernel_rfl)) (by decide) (fun K hK => ?_)
               refine goes_ Tryd.func23 (by kernel_rfl) rfl #[.agg #[.int .u16 ((rd_T52 (rd_L10 t700 x5_1) x6_2).f0), .string ((rd_T52 (rd_L10 t700 x5_1) x6_2).f1), .string ((rd_T52 (rd_L10 t700 x5_1) x6_2).f2), .string ((rd_T52 (rd_L10 t700 x5_1) x6_2).f3), .int .u8 ((rd_T52 (rd_L10 t700 x5_1) x6_2).f4), .string ((rd_T52 (rd_L10 t700 x5_1) x6_2).f5), .bool ((rd_T52 (rd_L10 t700 x5_1) x6_2).f6)], .string (rdOf ByteArray.empty t707 (ji23)), .int .i64 ji23] (by rfl) rfl rfl (by (try simp only [List.map_toArray, List.map_cons, List.map_nil]); first | done | (simp only [hji23]; rfl) | rfl | (simp only [List.length_drop, List.length_take]; rfl)) ?_
               with_reducible refine (jacquardref10_info.calls kj10 ((rd_T52 (rd_L10 t700 x5_1) x6_2).f0) ((rd_T52 (rd_L10 t700 x5_1) x6_2).f1) ((rd_T52 (rd_L10 t700 x5_1) x6_2).f2) ((rd_T52 (rd_L10 t700 x5_1) x6_2).f3) ((rd_T52 (rd_L10 t700 x5_1) x6_2).f4) ((rd_T52 (rd_L10 t700 x5_1) x6_2).f5) ((rd_T52 (rd_L10 t700 x5_1) x6_2).f6) (rdOf ByteArray.empty t707 (ji23)) ji23 t711 t712 t713 t714 t717 t720 t721 _ A25.out).mono ?_
               rintro e w32 ⟨v715, v718, rfl, ho0, ho1, hb⟩
               have HS7_ := (hb.cell (World.block_lt_of_cell? _ _ (hHeld.2.2.2.2.2.2.2))).trans (hHeld.2.2.2.2.2.2.2)
               refine ⟨_, rfl, ?_⟩
               have n0_ := Aside0.mk (Kd.N_mono (Kd.N_told (Kd.N_told (Kd.N_old (by (with_reducible repeat (first | apply Kd.N_alloc | apply Kd.N_drewN | apply Kd.N_drew)); exact HO_4.out) hb) (Kd.R_base ho0)) (Kd.R_base ho1)) (fun _ h_ => h_.1))
               have n1_ := Aside0.mk (Kd.R_below (by (with_reducible repeat (first | apply rA|apply rN|apply rD)); exact HO709.out) hb)
               have n2_ := Aside0.mk (Kd.R_lower ho0 (below_size (by repeat (first | (with_reducible first | exact HB.out | apply bA|apply bN|apply bD | refine below_set ?_ GE699.out | refine below_set ?_ GE706.out) | exact HB.out))))
               have n3_ := Aside0.mk (Kd.R_lower ho1 (below_size (by repeat (first | (with_reducible first | exact HB.out | apply bA|apply bN|apply bD | refine below_set ?_ GE699.out | refine below_set ?_ GE706.out) | exact HB.out))))
               have n4_ := Aside0.mk (blk_below (g := gb699) (o := .cells #[.int .u16 x700000_2, .string x700001_2, .int .u8 x700002_2, .slice none 0 0, .slice none 0 0, .int .i64 x700005_2, .bool x700006_2] 27 (0, 0)) (by (with_reducible repeat (first | apply kN|apply kD|apply kA)); exact BK699.out) hb)
               have n5_ := Aside0.mk (blk_below (g := gb706) (o := .cells #[.int .u16 ((rd_T52 (rd_L10 t700 x5_1) x6_2).f0), .string ((rd_T52 (rd_L10 t700 x5_1) x6_2).f1), .string ((rd_T52 (rd_L10 t700 x5_1) x6_2).f2), .string ((rd_T52 (rd_L10 t700 x5_1) x6_2).f3), .int .u8 ((rd_T52 (rd_L10 t700 x5_1) x6_2).f4), .string ((rd_T52 (rd_L10 t700 x5_1) x6_2).f5), .bool ((rd_T52 (rd_L10 t700 x5_1) x6_2).f6)] 52 (0, 0)) (by (with_reducible repeat (first | apply kN|apply kD|apply kA)); exact BK706.out) hb)
               have n6_ := Aside0.mk (Kd.C_below (by repeat (first | (with_reducible exact HR703_0.out) | (with_reducible refine Kd.C_alloc ?_ _) | (with_reducible refine Kd.C_drewN ?_ _) | (with_reducible refine Kd.C_drew ?_) | exact HR703_0.out)) hb)
               have n7_ := Aside0.mk (Kd.C_below (by repeat (first | (with_reducible exact HR704_0.out) | (with_reducible refine Kd.C_alloc ?_ _) | (with_reducible refine Kd.C_drewN ?_ _) | (with_reducible refine Kd.C_drew ?_) | exact HR704_0.out)) hb)
               have n8_ := Aside0.mk (below_step (by repeat (first | (with_reducible first | exact HB.out | apply bA|apply bN|apply bD | refine below_set ?_ GE699.out | refine below_set ?_ GE706.out) | exact HB.out)) hb)
               clear HO_4
               clear HO709
               clear BK699
               clear BK706
               clear HR703_0
               clear HR704_0
               clear HB
               have HO_4 := n0_
               have HO709 := n1_
               have HO716 := n2_
               have HO719 := n3_
               have BK699 := n4_
               have BK706 := n5_
               have HR703_0 := n6_
               have HR704_0 := n7_
               have HB := n8_
               clear n0_ n1_ n2_ n3_ n4_ n5_ n6_ n7_ n8_
               (try clear hb)
               (try clear hb2)
               (try clear hk)
               (try clear hi)
               (try clear ho0)
               (try clear ho1)
               obtain ⟨Ao36, co36, eo36⟩ := Kd.R_slice HO716.out
               (first | subst eo36 | (injection eo36 with f1_ f2_ f3_; have f4_ := f1_.symm; have f5_ := f3_.symm; clear f1_ f2_ f3_; subst f4_; subst f5_))
               obtain ⟨Ao38, co38, eo38⟩ := Kd.R_slice HO719.out
               (first | subst eo38 | (injection eo38 with f1_ f2_ f3_; have f4_ := f1_.symm; have f5_ := f3_.symm; clear f1_ f2_ f3_; subst f4_; subst f5_))
               refine hK.out _ _ ⟨(blk_cell BK706.out 0).trans rfl, (blk_cell BK706.out 1).trans rfl, (blk_cell BK706.out 2).trans rfl, (blk_cell BK706.out 3).trans rfl, (blk_cell BK706.out 4).trans rfl, (blk_cell BK706.out 5).trans rfl, (blk_cell BK706.out 6).trans rfl, HS7_⟩ (fun hHeld => ?_)
               clear hK K
               refine norm_ (a' := ?_) ?_ ?_
               rotate_left
               ·show Act.put _ (some 62) _ = _
                simp only [Act.put, List.setIfInBounds_toArray, List.set_cons_zero, List.set_cons_succ, i64_w, i32_w]
                rfl
               refine one_ (i := 7) (N := none) #[true,true,true,true,true,true,true,true,false] rfl rfl (one_of HT_.out (by kernel_rfl)) (by decide) (fun K hK => ?_)
               have hs33 : w32.cell? ⟨gb699, 0, none⟩ = some (.int .u16 x700000_2) := (blk_cell BK699.out 0).trans rfl
               have hfs33 := blk_frozen BK699.out 0
               have hns33_1 := NB706_699.out
               have hms33_1 := NB699_706.out
               have hs34 : w32.cell? ⟨gb699, 1, none⟩ = some (.string x700001_2) := (blk_cell BK699.out 1).trans rfl
               have hfs34 := blk_frozen BK699.out 1
               have hns34_1 := NB706_699.out
               have hms34_1 := NB699_706.out
               have hs35 : w32.cell? ⟨gb699, 2, none⟩ = some (.int .u8 x700002_2) := (blk_cell BK699.out 2).trans rfl
               have hfs35 := blk_frozen BK699.out 2
               have hns35_1 := NB706_699.out
               have hms35_1 := NB699_706.out
               have hs37 : w32.cell? ⟨gb699, 3, none⟩ = some (.slice none 0 0) := (blk_cell BK699.out 3).trans rfl
               have hfs37 := blk_frozen BK699.out 3
               have hns37_1 := NB706_699.out
               have hms37_1 := NB699_706.out
               have hs39 : w32.cell? ⟨gb699, 4, none⟩ = some (.slice none 0 0) := (blk_cell BK699.out 4).trans rfl
               have hfs39 := blk_frozen BK699.out 4
               have hns39_1 := NB706_699.out
               have hms39_1 := NB699_706.out
               have hs40 : w32.cell? ⟨gb699, 5, none⟩ = some (.int .i64 x700005_2) := (blk_cell BK699.out 5).trans rfl
               have hfs40 := blk_frozen BK699.out 5
               have hns40_1 := NB706_699.out
               have hms40_1 := NB699_706.out
               have hs41 : w32.cell? ⟨gb699, 6, none⟩ = some (.bool x700006_2) := (blk_cell BK699.out 6).trans rfl
               have hfs41 := blk_frozen BK699.out 6
               have hns41_1 := NB706_699.out
               have hms41_1 := NB699_706.out
               refine skip_ (w1 := ?_) (by rfl) rfl ?_ ?_
               rotate_left
               ·go_simp
                rfl
               refine hK.out _ _ ⟨((cell_far (p := ⟨gb699, _, none⟩) NB706_699.out _).trans (((cell_far (p := ⟨gb699, _, none⟩) NB706_699.out _).trans (((cell_far (p := ⟨gb699, _, none⟩) NB706_699.out _).trans (((cell_far (p := ⟨gb699, _, none⟩) NB706_699.out _).trans (((cell_far (p := ⟨gb699, _, none⟩) NB706_699.out _).trans (((cell_far (p := ⟨gb699, _, none⟩) NB706_699.out _).trans (((cell_far (p := ⟨gb699, _, none⟩) NB706_699.out _).trans (hHeld.1)))))))))))))), ((cell_far (p := ⟨gb699, _, none⟩) NB706_699.out _).trans (((cell_far (p := ⟨gb699, _, none⟩) NB706_699.out _).trans (((cell_far (p := ⟨gb699, _, none⟩) NB706_699.out _).trans (((cell_far (p := ⟨gb699, _, none⟩) NB706_699.out _).trans (((cell_far (p := ⟨gb699, _, none⟩) NB706_699.out _).trans (((cell_far (p := ⟨gb699, _, none⟩) NB706_699.out _).trans (((cell_far (p := ⟨gb699, _, none⟩) NB706_699.out _).trans (hHeld.2.1)))))))))))))), ((cell_far (p := ⟨gb699, _, none⟩) NB706_699.out _).trans (((cell_far (p := ⟨gb699, _, none⟩) NB706_699.out _).trans (((cell_far (p := ⟨gb699, _, none⟩) NB706_699.out _).trans (((cell_far (p := ⟨gb699, _, none⟩) NB706_699.out _).trans (((cell_far (p := ⟨gb699, _, none⟩) NB706_699.out _).trans (((cell_far (p := ⟨gb699, _, none⟩) NB706_699.out _).trans (((cell_far (p := ⟨gb699, _, none⟩) NB706_699.out _).trans (hHeld.2.2.1)))))))))))))), ((cell_far (p := ⟨gb699, _, none⟩) NB706_699.out _).trans (((cell_far (p := ⟨gb699, _, none⟩) NB706_699.out _).trans (((cell_far (p := ⟨gb699, _, none⟩) NB706_699.out _).trans (((cell_far (p := ⟨gb699, _, none⟩) NB706_699.out _).trans (((cell_far (p := ⟨gb699, _, none⟩) NB706_699.out _).trans (((cell_far (p := ⟨gb699, _, none⟩) NB706_699.out _).trans (((cell_far (p := ⟨gb699, _, none⟩) NB706_699.out _).trans (hHeld.2.2.2.1)))))))))))))), ((cell_far (p := ⟨gb699, _, none⟩) NB706_699.out _).trans (((cell_far (p := ⟨gb699, _, none⟩) NB706_699.out _).trans (((cell_far (p := ⟨gb699, _, none⟩) NB706_699.out _).trans (((cell_far (p := ⟨gb699, _, none⟩) NB706_699.out _).trans (((cell_far (p := ⟨gb699, _, none⟩) NB706_699.out _).trans (((cell_far (p := ⟨gb699, _, none⟩) NB706_699.out _).trans (((cell_far (p := ⟨gb699, _, none⟩) NB706_699.out _).trans (hHeld.2.2.2.2.1)))))))))))))), ((cell_far (p := ⟨gb699, _, none⟩) NB706_699.out _).trans (((cell_far (p := ⟨gb699, _, none⟩) NB706_699.out _).trans (((cell_far (p := ⟨gb699, _, none⟩) NB706_699.out _).trans (((cell_far (p := ⟨gb699, _, none⟩) NB706_699.out _).trans (((cell_far (p := ⟨gb699, _, none⟩) NB706_699.out _).trans (((cell_far (p := ⟨gb699, _, none⟩) NB706_699.out _).trans (((cell_far (p := ⟨gb699, _, none⟩) NB706_699.out _).trans (hHeld.2.2.2.2.2.1)))))))))))))), ((cell_far (p := ⟨gb699, _, none⟩) NB706_699.out _).trans (((cell_far (p := ⟨gb699, _, none⟩) NB706_699.out _).trans (((cell_far (p := ⟨gb699, _, none⟩) NB706_699.out _).trans (((cell_far (p := ⟨gb699, _, none⟩) NB706_699.out _).trans (((cell_far (p := ⟨gb699, _, none⟩) NB706_699.out _).trans (((cell_far (p := ⟨gb699, _, none⟩) NB706_699.out _).trans (((cell_far (p := ⟨gb699, _, none⟩) NB706_699.out _).trans (hHeld.2.2.2.2.2.2.1)))))))))))))), ((cell_far (p := ⟨gb699, _, none⟩) (by first | exact Kd.own_blk (Kd.R_ne HO709.out BK699.out (by decide)) | (rw [add_block]; exact Kd.own_blk (Kd.R_ne HO709.out BK699.out (by decide))) | (show (Addr.add _ _).block ≠ _; rw [add_block]; exact Kd.own_blk (Kd.R_ne HO709.out BK699.out (by decide))) | (dsimp only; exact Kd.own_blk (Kd.R_ne HO709.out BK699.out (by decide)))) _).trans (((cell_far (p := ⟨gb699, _, none⟩) (by first | exact Kd.own_blk (Kd.R_ne HO709.out BK699.out (by decide)) | (rw [add_block]; exact Kd.own_blk (Kd.R_ne HO709.out BK699.out (by decide))) | (show (Addr.add _ _).block ≠ _; rw [add_block]; exact Kd.own_blk (Kd.R_ne HO709.out BK699.out (by decide))) | (dsimp only; exact Kd.own_blk (Kd.R_ne HO709.out BK699.out (by decide)))) _).trans (((cell_far (p := ⟨gb699, _, none⟩) (by first | exact Kd.own_blk (Kd.R_ne HO709.out BK699.out (by decide)) | (rw [add_block]; exact Kd.own_blk (Kd.R_ne HO709.out BK699.out (by decide))) | (show (Addr.add _ _).block ≠ _; rw [add_block]; exact Kd.own_blk (Kd.R_ne HO709.out BK699.out (by decide))) | (dsimp only; exact Kd.own_blk (Kd.R_ne HO709.out BK699.out (by decide)))) _).trans (((cell_far (p := ⟨gb699, _, none⟩) (by first | exact Kd.own_blk (Kd.R_ne HO709.out BK699.out (by decide)) | (rw [add_block]; exact Kd.own_blk (Kd.R_ne HO709.out BK699.out (by decide))) | (show (Addr.add _ _).block ≠ _; rw [add_block]; exact Kd.own_blk (Kd.R_ne HO709.out BK699.out (by decide))) | (dsimp only; exact Kd.own_blk (Kd.R_ne HO709.out BK699.out (by decide)))) _).trans (((cell_far (p := ⟨gb699, _, none⟩) (by first | exact Kd.own_blk (Kd.R_ne HO709.out BK699.out (by decide)) | (rw [add_block]; exact Kd.own_blk (Kd.R_ne HO709.out BK699.out (by decide))) | (show (Addr.add _ _).block ≠ _; rw [add_block]; exact Kd.own_blk (Kd.R_ne HO709.out BK699.out (by decide))) | (dsimp only; exact Kd.own_blk (Kd.R_ne HO709.out BK699.out (by decide)))) _).trans (((cell_far (p := ⟨gb699, _, none⟩) (by first | exact Kd.own_blk (Kd.R_ne HO709.out BK699.out (by decide)) | (rw [add_block]; exact Kd.own_blk (Kd.R_ne HO709.out BK699.out (by decide))) | (show (Addr.add _ _).block ≠ _; rw [add_block]; exact Kd.own_blk (Kd.R_ne HO709.out BK699.out (by decide))) | (dsimp only; exact Kd.own_blk (Kd.R_ne HO709.out BK699.out (by decide)))) _).trans (((cell_far (p := ⟨gb699, _, none⟩) (by first | exact Kd.own_blk (Kd.R_ne HO709.out BK699.out (by decide)) | (rw [add_block]; exact Kd.own_blk (Kd.R_ne HO709.out BK699.out (by decide))) | (show (Addr.add _ _).block ≠ _; rw [add_block]; exact Kd.own_blk (Kd.R_ne HO709.out BK699.out (by decide))) | (dsimp only; exact Kd.own_blk (Kd.R_ne HO709.out BK699.out (by decide)))) _).trans (hHeld.2.2.2.2.2.2.2))))))))))))))⟩ (fun hHeld => ?_)
               clear hK K
               refine pure_ (i := 8) (N := some 3) (v := ?_) (a' := ?_) #[true,true,true,true,true,true,true,true,true] rfl rfl (any_of HT_.out (by kernel_rfl)) (fun _ _ _ h => h) (Or.inl ⟨by rfl, ?_⟩) ?_ ?_
               rotate_left
               ·intro w'
                go_simp
                with_reducible rfl
               rotate_left
               ·simp only [Act.put, List.setIfInBounds_toArray, List.set_cons_zero, List.set_cons_succ, i64_w, i32_w]
                rfl
               refine done_ (done_of HT_.out (by kernel_rfl)) ?_
               try go_wp2
               refine bodyPost_ret (results_ct rfl _ _ gb699 27 #[.int .u16 t711, .string t712, .int .u8 t713, .slice Ao36 t714.length co36, .slice Ao38 t717.length co38, .int .i64 t720, .bool t721] (0, 0) _ rfl (by (with_reducible repeat (first | apply kN|apply kD|apply kA)); refine blk_put (cs := #[.int .u16 t711, .string t712, .int .u8 t713, .slice Ao36 t714.length co36, .slice Ao38 t717.length co38, .int .i64 t720, .bool x700006_2]) ?_ 6 _ rfl; (with_reducible repeat (first | apply kN|apply kD|apply kA)); refine blk_put (cs := #[.int .u16 t711, .string t712, .int .u8 t713, .slice Ao36 t714.length co36, .slice Ao38 t717.length co38, .int .i64 x700005_2, .bool x700006_2]) ?_ 5 _ rfl; (with_reducible repeat (first | apply kN|apply kD|apply kA)); refine blk_put (cs := #[.int .u16 t711, .string t712, .int .u8 t713, .slice Ao36 t714.length co36, .slice none 0 0, .int .i64 x700005_2, .bool x700006_2]) ?_ 4 _ rfl; (with_reducible repeat (first | apply kN|apply kD|apply kA)); refine blk_put (cs := #[.int .u16 t711, .string t712, .int .u8 t713, .slice none 0 0, .slice none 0 0, .int .i64 x700005_2, .bool x700006_2]) ?_ 3 _ rfl; (with_reducible repeat (first | apply kN|apply kD|apply kA)); refine blk_put (cs := #[.int .u16 t711, .string t712, .int .u8 x700002_2, .slice none 0 0, .slice none 0 0, .int .i64 x700005_2, .bool x700006_2]) ?_ 2 _ rfl; (with_reducible repeat (first | apply kN|apply kD|apply kA)); refine blk_put (cs := #[.int .u16 t711, .string x700001_2, .int .u8 x700002_2, .slice none 0 0, .slice none 0 0, .int .i64 x700005_2, .bool x700006_2]) ?_ 1 _ rfl; (with_reducible repeat (first | apply kN|apply kD|apply kA)); refine blk_put (cs := #[.int .u16 x700000_2, .string x700001_2, .int .u8 x700002_2, .slice none 0 0, .slice none 0 0, .int .i64 x700005_2, .bool x700006_2]) ?_ 0 _ rfl; (with_reducible repeat (first | apply kN|apply kD|apply kA)); exact BK699.out) Tryd.underlying27 rfl (by kernel_rfl)) rfl ?_
               exact ⟨_, _, by first | rfl | (simp [errW_none, errW_some] <;> rfl) | (simp only [← hji23]; first | rfl | (simp [errW_none, errW_some] <;> rfl)) | (simp [*, errW_none, errW_some] <;> rfl), by (with_reducible repeat (first | apply rA|apply rN|apply rD)); exact Kd.R_mono (Kd.R_far (p := ⟨gb699, 6, none⟩) (Kd.R_far (p := ⟨gb699, 5, none⟩) (Kd.R_far (p := ⟨gb699, 4, none⟩) (Kd.R_far (p := ⟨gb699, 3, none⟩) (Kd.R_far (p := ⟨gb699, 2, none⟩) (Kd.R_far (p := ⟨gb699, 1, none⟩) (Kd.R_far (p := ⟨gb699, 0, none⟩) (Kd.R_types HO716.out BK699.out (by decide)) (fun _ hk => hk.2) (.int .u16 t711)) (fun _ hk => hk.2) (.string t712)) (fun _ hk => hk.2) (.int .u8 t713)) (fun _ hk => hk.2) (.slice Ao36 t714.length co36)) (fun _ hk => hk.2) (.slice Ao38 t717.length co38)) (fun _ hk => hk.2) (.int .i64 t720)) (fun _ hk => hk.2) (.bool t721)) (fun _ hk => hk.1), by (with_reducible repeat (first | apply rA|apply rN|apply rD)); exact Kd.R_mono (Kd.R_far (p := ⟨gb699, 6, none⟩) (Kd.R_far (p := ⟨gb699, 5, none⟩) (Kd.R_far (p := ⟨gb699, 4, none⟩) (Kd.R_far (p := ⟨gb699, 3, none⟩) (Kd.R_far (p := ⟨gb699, 2, none⟩) (Kd.R_far (p := ⟨gb699, 1, none⟩) (Kd.R_far (p := ⟨gb699, 0, none⟩) (Kd.R_types HO719.out BK699.out (by decide)) (fun _ hk => hk.2) (.int .u16 t711)) (fun _ hk => hk.2) (.string t712)) (fun _ hk => hk.2) (.int .u8 t713)) (fun _ hk => hk.2) (.slice Ao36 t714.length co36)) (fun _ hk => hk.2) (.slice Ao38 t717.length co38)) (fun _ hk => hk.2) (.int .i64 t720)) (fun _ hk => hk.2) (.bool t721)) (fun _ hk => hk.1), by repeat (first | (with_reducible first | exact HB.out | apply bA|apply bN|apply bD | refine below_set ?_ GE699.out | refine below_set ?_ GE706.out) | exact HB.out)⟩
              ·rw [if_neg c24] at H
               exact absurd H (by simp)
             ·rw [if_neg c22] at H
              have c22b0 : decide ((wrap64 (IntKind.u16.wrap (a0 - ((rd_T52 (rd_L10 t700 x5_1) x6_2).f0)))) < (t707.length : Int)) = false := decide_eq_false c22
              clear c22
              have H' := Aside0.mk H
              clear H
              have hnb42 := NB706_699.out
              have hnc42 := NB699_706.out
              have hcz43_0 : wc.cell? ⟨gb706, 0, none⟩ = some (.int .u16 ((rd_T52 (rd_L10 t700 x5_1) x6_2).f0)) := (blk_cell BK706.out 0).trans rfl
              have hcz43_1 : wc.cell? ⟨gb706, 1, none⟩ = some (.string ((rd_T52 (rd_L10 t700 x5_1) x6_2).f1)) := (blk_cell BK706.out 1).trans rfl
              have hcz43_2 : wc.cell? ⟨gb706, 2, none⟩ = some (.string ((rd_T52 (rd_L10 t700 x5_1) x6_2).f2)) := (blk_cell BK706.out 2).trans rfl
              have hcz43_3 : wc.cell? ⟨gb706, 3, none⟩ = some (.string ((rd_T52 (rd_L10 t700 x5_1) x6_2).f3)) := (blk_cell BK706.out 3).trans rfl
              have hcz43_4 : wc.cell? ⟨gb706, 4, none⟩ = some (.int .u8 ((rd_T52 (rd_L10 t700 x5_1) x6_2).f4)) := (blk_cell BK706.out 4).trans rfl
              have hcz43_5 : wc.cell? ⟨gb706, 5, none⟩ = some (.string ((rd_T52 (rd_L10 t700 x5_1) x6_2).f5)) := (blk_cell BK706.out 5).trans rfl
              have hcz43_6 : wc.cell? ⟨gb706, 6, none⟩ = some (.bool ((rd_T52 (rd_L10 t700 x5_1) x6_2).f6)) := (blk_cell BK706.out 6).trans rfl
              have hfz43_0 := blk_frozen BK706.out 0
              have hfz43_1 := blk_frozen BK706.out 1
              have hfz43_2 := blk_frozen BK706.out 2
              have hfz43_3 := blk_frozen BK706.out 3
              have hfz43_4 := blk_frozen BK706.out 4
              have hfz43_5 := blk_frozen BK706.out 5
              have hfz43_6 := blk_frozen BK706.out 6
              go_wp2_with (first | ((with_reducible refine gate_callee (f := 22) rfl ?_); refine goesL_ (some 46) rfl rfl Tryd.func22 (by kernel_rfl) rfl #[.string ((rd_T52 (rd_L10 t700 x5_1) x6_2).f2)] rfl (by (try simp only [List.map_toArray, List.map_cons, List.map_nil]); first | done | rfl | (simp only [List.length_drop, List.length_take]; rfl)) ?_; (with_reducible refine (jacquardref10_words.calls kj10 ((rd_T52 (rd_L10 t700 x5_1) x6_2).f2) t707 _ A21.out).mono ?_); rintro e w44 ⟨v708, rfl, ho0, hb⟩; refine ⟨_, rfl, ?_⟩; have n0_ := Aside0.mk (Kd.N_elder' (by (with_reducible repeat (first | apply Kd.N_alloc | apply Kd.N_drewN | apply Kd.N_drew)); exact HO_4.out) (Kd.R_base ho0) hb); have n1_ := Aside0.mk (Kd.R_lower ho0 (below_size (by repeat (first | (with_reducible first | exact HB.out | apply bA|apply bN|apply bD | refine below_set ?_ GE699.out | refine below_set ?_ GE706.out) | exact HB.out)))); have n2_ := Aside0.mk (blk_below (g := gb699) (o := .cells #[.int .u16 x700000_2, .string x700001_2, .int .u8 x700002_2, .slice none 0 0, .slice none 0 0, .int .i64 x700005_2, .bool x700006_2] 27 (0, 0)) (by (with_reducible repeat (first | apply kN|apply kD|apply kA)); exact BK699.out) hb); have n3_ := Aside0.mk (blk_below (g := gb706) (o := .cells #[.int .u16 ((rd_T52 (rd_L10 t700 x5_1) x6_2).f0), .string ((rd_T52 (rd_L10 t700 x5_1) x6_2).f1), .string ((rd_T52 (rd_L10 t700 x5_1) x6_2).f2), .string ((rd_T52 (rd_L10 t700 x5_1) x6_2).f3), .int .u8 ((rd_T52 (rd_L10 t700 x5_1) x6_2).f4), .string ((rd_T52 (rd_L10 t700 x5_1) x6_2).f5), .bool ((rd_T52 (rd_L10 t700 x5_1) x6_2).f6)] 52 (0, 0)) (by (with_reducible repeat (first | apply kN|apply kD|apply kA)); exact BK706.out) hb); have n4_ := Aside0.mk (Kd.C_below (by repeat (first | (with_reducible exact HR703_0.out) | (with_reducible refine Kd.C_alloc ?_ _) | (with_reducible refine Kd.C_drewN ?_ _) | (with_reducible refine Kd.C_drew ?_) | exact HR703_0.out)) hb); have n5_ := Aside0.mk (Kd.C_below (by repeat (first | (with_reducible exact HR704_0.out) | (with_reducible refine Kd.C_alloc ?_ _) | (with_reducible refine Kd.C_drewN ?_ _) | (with_reducible refine Kd.C_drew ?_) | exact HR704_0.out)) hb); have n6_ := Aside0.mk (below_step (by repeat (first | (with_reducible first | exact HB.out | apply bA|apply bN|apply bD | refine below_set ?_ GE699.out | refine below_set ?_ GE706.out) | exact HB.out)) hb); clear HO_4; clear BK699; clear BK706; clear HR703_0; clear HR704_0; clear HB; have HO_4 := n0_; have HO709 := n1_; have BK699 := n2_; have BK706 := n3_; have HR703_0 := n4_; have HR704_0 := n5_; have HB := n6_; clear n0_ n1_ n2_ n3_ n4_ n5_ n6_; (try clear hb); (try clear hb2); (try clear hk); (try clear hi); (try clear ho0); have hcz45_0 : w44.cell? ⟨gb706, 0, none⟩ = some (.int .u16 ((rd_T52 (rd_L10 t700 x5_1) x6_2).f0)) := (blk_cell BK706.out 0).trans rfl; have hcz45_1 : w44.cell? ⟨gb706, 1, none⟩ = some (.string ((rd_T52 (rd_L10 t700 x5_1) x6_2).f1)) := (blk_cell BK706.out 1).trans rfl; have hcz45_2 : w44.cell? ⟨gb706, 2, none⟩ = some (.string ((rd_T52 (rd_L10 t700 x5_1) x6_2).f2)) := (blk_cell BK706.out 2).trans rfl; have hcz45_3 : w44.cell? ⟨gb706, 3, none⟩ = some (.string ((rd_T52 (rd_L10 t700 x5_1) x6_2).f3)) := (blk_cell BK706.out 3).trans rfl; have hcz45_4 : w44.cell? ⟨gb706, 4, none⟩ = some (.int .u8 ((rd_T52 (rd_L10 t700 x5_1) x6_2).f4)) := (blk_cell BK706.out 4).trans rfl; have hcz45_5 : w44.cell? ⟨gb706, 5, none⟩ = some (.string ((rd_T52 (rd_L10 t700 x5_1) x6_2).f5)) := (blk_cell BK706.out 5).trans rfl; have hcz45_6 : w44.cell? ⟨gb706, 6, none⟩ = some (.bool ((rd_T52 (rd_L10 t700 x5_1) x6_2).f6)) := (blk_cell BK706.out 6).trans rfl; have hfz45_0 := blk_frozen BK706.out 0; have hfz45_1 := blk_frozen BK706.out 1; have hfz45_2 := blk_frozen BK706.out 2; have hfz45_3 := blk_frozen BK706.out 3; have hfz45_4 := blk_frozen BK706.out 4; have hfz45_5 := blk_frozen BK706.out 5; have hfz45_6 := blk_frozen BK706.out 6; obtain ⟨Ao46, co46, eo46⟩ := Kd.R_slice HO709.out; subst eo46))
              go_roundg kj10
              case measure => have := HK1.out; have := HK2.out; have := HJ10.out; omega
              case rel => exact ⟨(wrap64 (x6_2 + 1)), (x700000_2), (x700001_2), (x700002_2), (x700005_2), (x700006_2), (by first | rfl | (simp; done) | (simp [*]; done)), H', ⟨by have := HK1.out; have := HK2.out; have := HJ10.out; omega⟩, ⟨by (with_reducible repeat (first | apply Kd.N_alloc | apply Kd.N_drewN | apply Kd.N_drew)); exact Kd.N_mono HO_4.out (fun _ hk => hk.1.1)⟩, ⟨by (with_reducible repeat (first | apply kN|apply kD|apply kA)); exact BK699.out⟩, ⟨by repeat (first | (with_reducible first | exact HB.out | apply bA|apply bN|apply bD | refine below_set ?_ GE699.out | refine below_set ?_ GE706.out) | exact HB.out)⟩⟩
         ·rw [if_neg c10] at H
          exact absurd H (by simp)
        ·rw [if_neg c9] at H
         have c9b0 : decide (x6_2 < ((rd_L10 t700 x5_1).length : Int)) = false := decide_eq_false c9
         clear c9
         have H' := Aside0.mk H
         clear H
         have p703 : 0 ≤ (x5_1 : Int) := of_decide_eq_true (by first | (with_reducible assumption) | assumption)
         have q703 : x5_1 < (t700.length : Int) := of_decide_eq_true (by first | (with_reducible assumption) | assumption)
         obtain ⟨ad703, A703_0, c703_0, e703, hx703_0, hl703_0, hi703_0⟩ := at_L10 (Kd.N_reads' HO_4.out).2.2 x5_1 p703 q703
         cases e703
         obtain ⟨ce703, hce703, hMe703, hcc703⟩ := Kd.N_get HO_4.out [] x5_1 p703 (by first | exact q703 | exact of_decide_eq_true (by first | (with_reducible assumption) | assumption) | (have e_ := (Kd.N_reads' HO_4.out).1; omega))
         obtain ⟨ua703_0, uc703_0, rfl, ul703_0, ge703_0⟩ := Kd.FK_slice_open hMe703
         have hv703_0 := hcc703 0 _ rfl
         rw [Nat.add_zero, show ((Kd.slice 52 k52)).sz = 1 from rfl, Nat.mul_one] at hv703_0
         replace hv703_0 := Option.some.inj (hv703_0.symm.trans hx703_0)
         injection hv703_0 with hva_ hvn_ hvc_
         rw [hva_] at ge703_0
         rw [hvc_] at ul703_0
         have HL703_0 := Aside0.mk (show Kd.V k52 52 _ w.heap.size _ _ (rd_L10 t700 x5_1) from Kd.V_mk ul703_0 ge703_0)
         clear hva_ hvn_ hvc_ ge703_0 ul703_0
         clear hcc703 hce703
         have HR703_0 := Aside0.mk hi703_0
         have HC703_0 := Aside0.mk hl703_0
         clear hi703_0 hl703_0
         replace p703 := eq_true p703
         replace q703 := eq_true q703
         go_wp2
         go_roundg k2
         case measure => have := HK1.out; have := HK2.out; omega
         case rel => exact ⟨(wrap64 (x5_1 + 1)), (x700000_2), (x700001_2), (x700002_2), (x700005_2), (x700006_2), (by first | rfl | (simp; done) | (simp [*]; done)), H', ⟨by have := HK1.out; have := HK2.out; omega⟩, ⟨by (with_reducible repeat (first | apply Kd.N_alloc | apply Kd.N_drewN | apply Kd.N_drew)); exact HO_4.out⟩, ⟨by (with_reducible repeat (first | apply kN|apply kD|apply kA)); exact BK699.out⟩, ⟨by repeat (first | (with_reducible first | exact HB.out | apply bA|apply bN|apply bD | refine below_set ?_ GE699.out) | exact HB.out)⟩⟩
       ·rw [if_neg c8] at H
        exact absurd H (by simp)
      ·rw [if_neg c7] at H
       exact absurd H (by simp)
   ·rw [if_neg c5] at H
    have c5b0 : decide (x5_1 < (t700.length : Int)) = false := decide_eq_false c5
    clear c5
    simp only [Option.some.injEq, Prod.mk.injEq] at H
    obtain ⟨rfl, rfl, rfl, rfl, rfl, rfl, rfl, rfl⟩ := H
    obtain ⟨Ao47, co47, eo47⟩ := Kd.N_slice HO_4.out
    subst eo47
    have hcz48_0 : wr.cell? ⟨gb699, 0, none⟩ = some (.int .u16 x700000_1) := (blk_cell BK699.out 0).trans rfl
    have hcz48_1 : wr.cell? ⟨gb699, 1, none⟩ = some (.string x700001_1) := (blk_cell BK699.out 1).trans rfl
    have hcz48_2 : wr.cell? ⟨gb699, 2, none⟩ = some (.int .u8 x700002_1) := (blk_cell BK699.out 2).trans rfl
    have hcz48_3 : wr.cell? ⟨gb699, 3, none⟩ = some (.slice none 0 0) := (blk_cell BK699.out 3).trans rfl
    have hcz48_4 : wr.cell? ⟨gb699, 4, none⟩ = some (.slice none 0 0) := (blk_cell BK699.out 4).trans rfl
    have hcz48_5 : wr.cell? ⟨gb699, 5, none⟩ = some (.int .i64 x700005_1) := (blk_cell BK699.out 5).trans rfl
    have hcz48_6 : wr.cell? ⟨gb699, 6, none⟩ = some (.bool x700006_1) := (blk_cell BK699.out 6).trans rfl
    have hfz48_0 := blk_frozen BK699.out 0
    have hfz48_1 := blk_frozen BK699.out 1
    have hfz48_2 := blk_frozen BK699.out 2
    have hfz48_3 := blk_frozen BK699.out 3
    have hfz48_4 := blk_frozen BK699.out 4
    have hfz48_5 := blk_frozen BK699.out 5
    have hfz48_6 := blk_frozen BK699.out 6
    go_wp2
    refine bodyPost_ret (results_ct rfl _ _ gb699 27 #[.int .u16 0, .string (⟨#[]⟩ : ByteArray), .int .u8 0, .slice none 0 0, .slice none 0 0, .int .i64 0, .bool false] (0, 0) _ rfl (by (with_reducible repeat (first | apply kN|apply kD|apply kA)); refine blk_put (cs := #[.int .u16 0, .string (⟨#[]⟩ : ByteArray), .int .u8 0, .slice none 0 0, .slice none 0 0, .int .i64 0, .bool x700006_1]) ?_ 6 _ rfl; (with_reducible repeat (first | apply kN|apply kD|apply kA)); refine blk_put (cs := #[.int .u16 0, .string (⟨#[]⟩ : ByteArray), .int .u8 0, .slice none 0 0, .slice none 0 0, .int .i64 x700005_1, .bool x700006_1]) ?_ 5 _ rfl; (with_reducible repeat (first | apply kN|apply kD|apply kA)); refine blk_put (cs := #[.int .u16 0, .string (⟨#[]⟩ : ByteArray), .int .u8 0, .slice none 0 0, .slice none 0 0, .int .i64 x700005_1, .bool x700006_1]) ?_ 4 _ rfl; (with_reducible repeat (first | apply kN|apply kD|apply kA)); refine blk_put (cs := #[.int .u16 0, .string (⟨#[]⟩ : ByteArray), .int .u8 0, .slice none 0 0, .slice none 0 0, .int .i64 x700005_1, .bool x700006_1]) ?_ 3 _ rfl; (with_reducible repeat (first | apply kN|apply kD|apply kA)); refine blk_put (cs := #[.int .u16 0, .string (⟨#[]⟩ : ByteArray), .int .u8 x700002_1, .slice none 0 0, .slice none 0 0, .int .i64 x700005_1, .bool x700006_1]) ?_ 2 _ rfl; (with_reducible repeat (first | apply kN|apply kD|apply kA)); refine blk_put (cs := #[.int .u16 0, .string x700001_1, .int .u8 x700002_1, .slice none 0 0, .slice none 0 0, .int .i64 x700005_1, .bool x700006_1]) ?_ 1 _ rfl; (with_reducible repeat (first | apply kN|apply kD|apply kA)); refine blk_put (cs := #[.int .u16 x700000_1, .string x700001_1, .int .u8 x700002_1, .slice none 0 0, .slice none 0 0, .int .i64 x700005_1, .bool x700006_1]) ?_ 0 _ rfl; (with_reducible repeat (first | apply kN|apply kD|apply kA)); exact BK699.out) Tryd.underlying27 rfl (by kernel_rfl)) rfl ?_
    exact ⟨_, _, by first | rfl | (simp [errW_none, errW_some] <;> rfl) | (simp [*, errW_none, errW_some] <;> rfl), by first | exact Kd.R_nil _ _ _ _ _ | exact Kd.N_nil _ _ _ _ _ | exact Kd.V_nil _ _ _ _ _ | exact Kd.Q_nil _ _ _ _ _ | exact Kd.S_nil _ _ _ _ _, by first | exact Kd.R_nil _ _ _ _ _ | exact Kd.N_nil _ _ _ _ _ | exact Kd.V_nil _ _ _ _ _ | exact Kd.Q_nil _ _ _ _ _ | exact Kd.S_nil _ _ _ _ _, by repeat (first | (with_reducible first | exact HB.out | apply bA|apply bN|apply bD | refine below_set ?_ GE699.out) | exact HB.out)⟩

end Go.Proofs.YtfbdmgdbamjjhaaDoor.P
