-- Printed by a program of this session (wip/patch-print.py over the kit's print): Lean checks it.
import Derived.Test.YtfbdmgdbamjjhaaDoorPx0
import Derived.Test.YtfbdmgdbamjjhaaDoorLits
import Derived.Test.YtfbdmgdbamjjhaaDoorPx5
namespace Go.Proofs.YtfbdmgdbamjjhaaDoor.P
open Go.Proofs.YtfbdmgdbamjjhaaDoorTabs
open Go.Proofs.YtfbdmgdbamjjhaaDoorCaps
open Go.RowKit Go.Proofs.YtfbdmgdbamjjhaaDoorW.PrintWords Go.Proofs.YtfbdmgdbamjjhaaDoorW.PrintLast Go.Proofs.YtfbdmgdbamjjhaaDoorW.PrintMore
attribute [local go_sem] max2_int min2_int max_two min_two max_three min_three max_four min_four   -- for this text's walks alone
set_option linter.unusedVariables false
set_option linter.unusedSimpArgs false

/-! ### jacquardref10_narrow: function 36 -/
def jacquardref10_narrow.xs : List S52 := [
  ⟨64864,⟨#[105,56,120,49,54,46]⟩,⟨#[97,98,115,32,110,101,103,32,112,111,112,99,110,116]⟩,⟨#[118,58,118]⟩,0,⟨#[48]⟩,true⟩,
  ⟨64867,⟨#[105,56,120,49,54,46]⟩,⟨#[97,108,108,95,116,114,117,101,32,98,105,116,109,97,115,107]⟩,⟨#[118,58,105]⟩,0,⟨#[48]⟩,true⟩,
  ⟨64869,⟨#[105,56,120,49,54,46]⟩,⟨#[110,97,114,114,111,119,95,105,49,54,120,56,95,115,32,110,97,114,114,111,119,95,105,49,54,120,56,95,117]⟩,⟨#[118,118,58,118]⟩,0,⟨#[48]⟩,true⟩,
  ⟨64875,⟨#[105,56,120,49,54,46]⟩,⟨#[115,104,108,32,115,104,114,95,115,32,115,104,114,95,117]⟩,⟨#[118,105,58,118]⟩,0,⟨#[48]⟩,true⟩,
  ⟨64878,⟨#[105,56,120,49,54,46]⟩,⟨#[97,100,100,32,97,100,100,95,115,97,116,95,115,32,97,100,100,95,115,97,116,95,117,32,115,117,98,32,115,117,98,95,115,97,116,95,115,32,115,117,98,95,115,97,116,95,117]⟩,⟨#[118,118,58,118]⟩,0,⟨#[48]⟩,true⟩,
  ⟨64886,⟨#[105,56,120,49,54,46]⟩,⟨#[109,105,110,95,115,32,109,105,110,95,117,32,109,97,120,95,115,32,109,97,120,95,117]⟩,⟨#[118,118,58,118]⟩,0,⟨#[48]⟩,true⟩,
  ⟨64891,⟨#[105,56,120,49,54,46]⟩,⟨#[97,118,103,114,95,117]⟩,⟨#[118,118,58,118]⟩,0,⟨#[48]⟩,true⟩,
  ⟨64892,⟨#[105,49,54,120,56,46]⟩,⟨#[101,120,116,97,100,100,95,112,97,105,114,119,105,115,101,95,105,56,120,49,54,95,115,32,101,120,116,97,100,100,95,112,97,105,114,119,105,115,101,95,105,56,120,49,54,95,117]⟩,⟨#[118,58,118]⟩,0,⟨#[48]⟩,true⟩,
  ⟨64894,⟨#[105,51,50,120,52,46]⟩,⟨#[101,120,116,97,100,100,95,112,97,105,114,119,105,115,101,95,105,49,54,120,56,95,115,32,101,120,116,97,100,100,95,112,97,105,114,119,105,115,101,95,105,49,54,120,56,95,117]⟩,⟨#[118,58,118]⟩,0,⟨#[48]⟩,true⟩,
  ⟨64896,⟨#[105,49,54,120,56,46]⟩,⟨#[97,98,115,32,110,101,103]⟩,⟨#[118,58,118]⟩,0,⟨#[48]⟩,true⟩,
  ⟨64898,⟨#[105,49,54,120,56,46]⟩,⟨#[113,49,53,109,117,108,114,95,115,97,116,95,115]⟩,⟨#[118,118,58,118]⟩,0,⟨#[48]⟩,true⟩,
  ⟨64899,⟨#[105,49,54,120,56,46]⟩,⟨#[97,108,108,95,116,114,117,101,32,98,105,116,109,97,115,107]⟩,⟨#[118,58,105]⟩,0,⟨#[48]⟩,true⟩,
  ⟨64901,⟨#[105,49,54,120,56,46]⟩,⟨#[110,97,114,114,111,119,95,105,51,50,120,52,95,115,32,110,97,114,114,111,119,95,105,51,50,120,52,95,117]⟩,⟨#[118,118,58,118]⟩,0,⟨#[48]⟩,true⟩,
  ⟨64903,⟨#[105,49,54,120,56,46]⟩,⟨#[101,120,116,101,110,100,95,108,111,119,95,105,56,120,49,54,95,115,32,101,120,116,101,110,100,95,104,105,103,104,95,105,56,120,49,54,95,115,32,101,120,116,101,110,100,95,108,111,119,95,105,56,120,49,54,95,117,32,101,120,116,101,110,100,95,104,105,103,104,95,105,56,120,49,54,95,117]⟩,⟨#[118,58,118]⟩,0,⟨#[48]⟩,true⟩,
  ⟨64907,⟨#[105,49,54,120,56,46]⟩,⟨#[115,104,108,32,115,104,114,95,115,32,115,104,114,95,117]⟩,⟨#[118,105,58,118]⟩,0,⟨#[48]⟩,true⟩,
  ⟨64910,⟨#[105,49,54,120,56,46]⟩,⟨#[97,100,100,32,97,100,100,95,115,97,116,95,115,32,97,100,100,95,115,97,116,95,117,32,115,117,98,32,115,117,98,95,115,97,116,95,115,32,115,117,98,95,115,97,116,95,117]⟩,⟨#[118,118,58,118]⟩,0,⟨#[48]⟩,true⟩,
  ⟨64917,⟨#[105,49,54,120,56,46]⟩,⟨#[109,117,108,32,109,105,110,95,115,32,109,105,110,95,117,32,109,97,120,95,115,32,109,97,120,95,117]⟩,⟨#[118,118,58,118]⟩,0,⟨#[48]⟩,true⟩,
  ⟨64923,⟨#[105,49,54,120,56,46]⟩,⟨#[97,118,103,114,95,117,32,101,120,116,109,117,108,95,108,111,119,95,105,56,120,49,54,95,115,32,101,120,116,109,117,108,95,104,105,103,104,95,105,56,120,49,54,95,115,32,101,120,116,109,117,108,95,108,111,119,95,105,56,120,49,54,95,117,32,101,120,116,109,117,108,95,104,105,103,104,95,105,56,120,49,54,95,117]⟩,⟨#[118,118,58,118]⟩,0,⟨#[48]⟩,true⟩]
def jacquardref10_narrow.f : Option (List S52) := some jacquardref10_narrow.xs
set_option maxHeartbeats 8000000 in
set_option maxRecDepth 100000 in
theorem jacquardref10_narrow.calls (r : List S52) (w : World) (h : jacquardref10_narrow.f = some r) :
    Calls Tryd.prog 36 #[] w fun e w' => ∃ v0_ : Value, e = .returned (v0_) ∧ Kd.R k52 52 w' w.heap.size (fun _ => True) v0_ r ∧ Below w.heap.size w w' := by
  have hu52 := Tryd.underlying52
  have HB := Aside0.mk (Below.refl w.heap.size w)
  obtain rfl := Option.some.inj (show some jacquardref10_narrow.xs = some r from h)
  clear h
  go_enter Tryd.func36, Tryd.ntmps36
  go_wp2_with (first | ((go_at_call 49); (with_reducible refine (vec_calls _ _ _ _ _).mono ?_); rintro e w1 ⟨rfl, hb⟩; have n0_ := Aside0.mk (below_step (by repeat (first | (with_reducible first | exact HB.out | apply bA|apply bN|apply bD) | exact HB.out)) hb); clear HB; have HB := n0_; clear n0_; clear hb) | ((with_reducible refine gate_dst (N := 19) rfl ?_); refine Kd.R_lit k52 _ 52 ?hg (N := 19) ?hd (xs := jacquardref10_narrow.xs) (inner := jacquardref10_narrow.xs.flatMap c52) (ok := fun _ => True) (okp := fun _ => True) ?hr ?hp (fun _ hk => hk) trivial (Below.refl _ _) (Nat.le_refl _) (of_decide_eq_true (by kernel_rfl)) ?_; (case hd => rfl); (case hg => rfl); (case hr => kernel_rfl); (case hp => exact reps52 _ _ _ _); intro v161 w1 ho2 hb hg_ hnew_; clear hg_ hnew_; have n0_ := Aside0.mk (Kd.R_lower ho2 (below_size (by repeat (first | (with_reducible first | exact HB.out | apply bA|apply bN|apply bD) | exact HB.out)))); have n1_ := Aside0.mk (below_step (by repeat (first | (with_reducible first | exact HB.out | apply bA|apply bN|apply bD) | exact HB.out)) hb); clear HB; have HO1 := n0_; have HB := n1_; clear n0_ n1_; clear hb ho2))
  go_ret
  exact ⟨_, by first | rfl | (simp [errW_none, errW_some] <;> rfl), by (with_reducible repeat (first | apply rA|apply rN|apply rD)); exact HO1.out, by repeat (first | (with_reducible first | exact HB.out | apply bA|apply bN|apply bD) | exact HB.out)⟩

/-! ### jacquardref10_broad: function 37 -/
def jacquardref10_broad.xs : List S52 := [
  ⟨64928,⟨#[105,51,50,120,52,46]⟩,⟨#[97,98,115,32,110,101,103]⟩,⟨#[118,58,118]⟩,0,⟨#[48]⟩,true⟩,
  ⟨64931,⟨#[105,51,50,120,52,46]⟩,⟨#[97,108,108,95,116,114,117,101,32,98,105,116,109,97,115,107]⟩,⟨#[118,58,105]⟩,0,⟨#[48]⟩,true⟩,
  ⟨64935,⟨#[105,51,50,120,52,46]⟩,⟨#[101,120,116,101,110,100,95,108,111,119,95,105,49,54,120,56,95,115,32,101,120,116,101,110,100,95,104,105,103,104,95,105,49,54,120,56,95,115,32,101,120,116,101,110,100,95,108,111,119,95,105,49,54,120,56,95,117,32,101,120,116,101,110,100,95,104,105,103,104,95,105,49,54,120,56,95,117]⟩,⟨#[118,58,118]⟩,0,⟨#[48]⟩,true⟩,
  ⟨64939,⟨#[105,51,50,120,52,46]⟩,⟨#[115,104,108,32,115,104,114,95,115,32,115,104,114,95,117]⟩,⟨#[118,105,58,118]⟩,0,⟨#[48]⟩,true⟩,
  ⟨64942,⟨#[105,51,50,120,52,46]⟩,⟨#[97,100,100]⟩,⟨#[118,118,58,118]⟩,0,⟨#[48]⟩,true⟩,
  ⟨64945,⟨#[105,51,50,120,52,46]⟩,⟨#[115,117,98]⟩,⟨#[118,118,58,118]⟩,0,⟨#[48]⟩,true⟩,
  ⟨64949,⟨#[105,51,50,120,52,46]⟩,⟨#[109,117,108,32,109,105,110,95,115,32,109,105,110,95,117,32,109,97,120,95,115,32,109,97,120,95,117,32,100,111,116,95,105,49,54,120,56,95,115]⟩,⟨#[118,118,58,118]⟩,0,⟨#[48]⟩,true⟩,
  ⟨64956,⟨#[105,51,50,120,52,46]⟩,⟨#[101,120,116,109,117,108,95,108,111,119,95,105,49,54,120,56,95,115,32,101,120,116,109,117,108,95,104,105,103,104,95,105,49,54,120,56,95,115,32,101,120,116,109,117,108,95,108,111,119,95,105,49,54,120,56,95,117,32,101,120,116,109,117,108,95,104,105,103,104,95,105,49,54,120,56,95,117]⟩,⟨#[118,118,58,118]⟩,0,⟨#[48]⟩,true⟩,
  ⟨64960,⟨#[105,54,52,120,50,46]⟩,⟨#[97,98,115,32,110,101,103]⟩,⟨#[118,58,118]⟩,0,⟨#[48]⟩,true⟩,
  ⟨64963,⟨#[105,54,52,120,50,46]⟩,⟨#[97,108,108,95,116,114,117,101,32,98,105,116,109,97,115,107]⟩,⟨#[118,58,105]⟩,0,⟨#[48]⟩,true⟩,
  ⟨64967,⟨#[105,54,52,120,50,46]⟩,⟨#[101,120,116,101,110,100,95,108,111,119,95,105,51,50,120,52,95,115,32,101,120,116,101,110,100,95,104,105,103,104,95,105,51,50,120,52,95,115,32,101,120,116,101,110,100,95,108,111,119,95,105,51,50,120,52,95,117,32,101,120,116,101,110,100,95,104,105,103,104,95,105,51,50,120,52,95,117]⟩,⟨#[118,58,118]⟩,0,⟨#[48]⟩,true⟩,
  ⟨64971,⟨#[105,54,52,120,50,46]⟩,⟨#[115,104,108,32,115,104,114,95,115,32,115,104,114,95,117]⟩,⟨#[118,105,58,118]⟩,0,⟨#[48]⟩,true⟩,
  ⟨64974,⟨#[105,54,52,120,50,46]⟩,⟨#[97,100,100]⟩,⟨#[118,118,58,118]⟩,0,⟨#[48]⟩,true⟩,
  ⟨64977,⟨#[105,54,52,120,50,46]⟩,⟨#[115,117,98]⟩,⟨#[118,118,58,118]⟩,0,⟨#[48]⟩,true⟩,
  ⟨64981,⟨#[105,54,52,120,50,46]⟩,⟨#[109,117,108]⟩,⟨#[118,118,58,118]⟩,0,⟨#[48]⟩,true⟩,
  ⟨64988,⟨#[105,54,52,120,50,46]⟩,⟨#[101,120,116,109,117,108,95,108,111,119,95,105,51,50,120,52,95,115,32,101,120,116,109,117,108,95,104,105,103,104,95,105,51,50,120,52,95,115,32,101,120,116,109,117,108,95,108,111,119,95,105,51,50,120,52,95,117,32,101,120,116,109,117,108,95,104,105,103,104,95,105,51,50,120,52,95,117]⟩,⟨#[118,118,58,118]⟩,0,⟨#[48]⟩,true⟩]
def jacquardref10_broad.f : Option (List S52) := some jacquardref10_broad.xs
set_option maxHeartbeats 8000000 in
set_option maxRecDepth 100000 in
theorem jacquardref10_broad.calls (r : List S52) (w : World) (h : jacquardref10_broad.f = some r) :
    Calls Tryd.prog 37 #[] w fun e w' => ∃ v0_ : Value, e = .returned (v0_) ∧ Kd.R k52 52 w' w.heap.size (fun _ => True) v0_ r ∧ Below w.heap.size w w' := by
  have hu52 := Tryd.underlying52
  have HB := Aside0.mk (Below.refl w.heap.size w)
  obtain rfl := Option.some.inj (show some jacquardref10_broad.xs = some r from h)
  clear h
  go_enter Tryd.func37, Tryd.ntmps37
  go_wp2_with (first | ((go_at_call 49); (with_reducible refine (vec_calls _ _ _ _ _).mono ?_); rintro e w1 ⟨rfl, hb⟩; have n0_ := Aside0.mk (below_step (by repeat (first | (with_reducible first | exact HB.out | apply bA|apply bN|apply bD) | exact HB.out)) hb); clear HB; have HB := n0_; clear n0_; clear hb) | ((with_reducible refine gate_dst (N := 17) rfl ?_); refine Kd.R_lit k52 _ 52 ?hg (N := 17) ?hd (xs := jacquardref10_broad.xs) (inner := jacquardref10_broad.xs.flatMap c52) (ok := fun _ => True) (okp := fun _ => True) ?hr ?hp (fun _ hk => hk) trivial (Below.refl _ _) (Nat.le_refl _) (of_decide_eq_true (by kernel_rfl)) ?_; (case hd => rfl); (case hg => rfl); (case hr => kernel_rfl); (case hp => exact reps52 _ _ _ _); intro v161 w1 ho2 hb hg_ hnew_; clear hg_ hnew_; have n0_ := Aside0.mk (Kd.R_lower ho2 (below_size (by repeat (first | (with_reducible first | exact HB.out | apply bA|apply bN|apply bD) | exact HB.out)))); have n1_ := Aside0.mk (below_step (by repeat (first | (with_reducible first | exact HB.out | apply bA|apply bN|apply bD) | exact HB.out)) hb); clear HB; have HO1 := n0_; have HB := n1_; clear n0_ n1_; clear hb ho2))
  go_ret
  exact ⟨_, by first | rfl | (simp [errW_none, errW_some] <;> rfl), by (with_reducible repeat (first | apply rA|apply rN|apply rD)); exact HO1.out, by repeat (first | (with_reducible first | exact HB.out | apply bA|apply bN|apply bD) | exact HB.out)⟩

/-! ### jacquardref10_afloat: function 38 -/
def jacquardref10_afloat.xs : List S52 := [
  ⟨64871,⟨#[102,51,50,120,52,46]⟩,⟨#[99,101,105,108,32,102,108,111,111,114,32,116,114,117,110,99,32,110,101,97,114,101,115,116]⟩,⟨#[118,58,118]⟩,0,⟨#[48]⟩,true⟩,
  ⟨64884,⟨#[102,54,52,120,50,46]⟩,⟨#[99,101,105,108,32,102,108,111,111,114]⟩,⟨#[118,58,118]⟩,0,⟨#[48]⟩,true⟩,
  ⟨64890,⟨#[102,54,52,120,50,46]⟩,⟨#[116,114,117,110,99]⟩,⟨#[118,58,118]⟩,0,⟨#[48]⟩,true⟩,
  ⟨64916,⟨#[102,54,52,120,50,46]⟩,⟨#[110,101,97,114,101,115,116]⟩,⟨#[118,58,118]⟩,0,⟨#[48]⟩,true⟩,
  ⟨64992,⟨#[102,51,50,120,52,46]⟩,⟨#[97,98,115,32,110,101,103]⟩,⟨#[118,58,118]⟩,0,⟨#[48]⟩,true⟩,
  ⟨64995,⟨#[102,51,50,120,52,46]⟩,⟨#[115,113,114,116]⟩,⟨#[118,58,118]⟩,0,⟨#[48]⟩,true⟩,
  ⟨64996,⟨#[102,51,50,120,52,46]⟩,⟨#[97,100,100,32,115,117,98,32,109,117,108,32,100,105,118,32,109,105,110,32,109,97,120,32,112,109,105,110,32,112,109,97,120]⟩,⟨#[118,118,58,118]⟩,0,⟨#[48]⟩,true⟩,
  ⟨65004,⟨#[102,54,52,120,50,46]⟩,⟨#[97,98,115,32,110,101,103]⟩,⟨#[118,58,118]⟩,0,⟨#[48]⟩,true⟩,
  ⟨65007,⟨#[102,54,52,120,50,46]⟩,⟨#[115,113,114,116]⟩,⟨#[118,58,118]⟩,0,⟨#[48]⟩,true⟩,
  ⟨65008,⟨#[102,54,52,120,50,46]⟩,⟨#[97,100,100,32,115,117,98,32,109,117,108,32,100,105,118,32,109,105,110,32,109,97,120,32,112,109,105,110,32,112,109,97,120]⟩,⟨#[118,118,58,118]⟩,0,⟨#[48]⟩,true⟩]
def jacquardref10_afloat.f : Option (List S52) := some jacquardref10_afloat.xs
set_option maxHeartbeats 8000000 in
set_option maxRecDepth 100000 in
theorem jacquardref10_afloat.calls (r : List S52) (w : World) (h : jacquardref10_afloat.f = some r) :
    Calls Tryd.prog 38 #[] w fun e w' => ∃ v0_ : Value, e = .returned (v0_) ∧ Kd.R k52 52 w' w.heap.size (fun _ => True) v0_ r ∧ Below w.heap.size w w' := by
  have hu52 := Tryd.underlying52
  have HB := Aside0.mk (Below.refl w.heap.size w)
  obtain rfl := Option.some.inj (show some jacquardref10_afloat.xs = some r from h)
  clear h
  go_enter Tryd.func38, Tryd.ntmps38
  go_wp2_with (first | ((go_at_call 49); (with_reducible refine (vec_calls _ _ _ _ _).mono ?_); rintro e w1 ⟨rfl, hb⟩; have n0_ := Aside0.mk (below_step (by repeat (first | (with_reducible first | exact HB.out | apply bA|apply bN|apply bD) | exact HB.out)) hb); clear HB; have HB := n0_; clear n0_; clear hb) | ((with_reducible refine gate_dst (N := 11) rfl ?_); refine Kd.R_lit k52 _ 52 ?hg (N := 11) ?hd (xs := jacquardref10_afloat.xs) (inner := jacquardref10_afloat.xs.flatMap c52) (ok := fun _ => True) (okp := fun _ => True) ?hr ?hp (fun _ hk => hk) trivial (Below.refl _ _) (Nat.le_refl _) (of_decide_eq_true (by kernel_rfl)) ?_; (case hd => rfl); (case hg => rfl); (case hr => kernel_rfl); (case hp => exact reps52 _ _ _ _); intro v161 w1 ho2 hb hg_ hnew_; clear hg_ hnew_; have n0_ := Aside0.mk (Kd.R_lower ho2 (below_size (by repeat (first | (with_reducible first | exact HB.out | apply bA|apply bN|apply bD) | exact HB.out)))); have n1_ := Aside0.mk (below_step (by repeat (first | (with_reducible first | exact HB.out | apply bA|apply bN|apply bD) | exact HB.out)) hb); clear HB; have HO1 := n0_; have HB := n1_; clear n0_ n1_; clear hb ho2))
  go_ret
  exact ⟨_, by first | rfl | (simp [errW_none, errW_some] <;> rfl), by (with_reducible repeat (first | apply rA|apply rN|apply rD)); exact HO1.out, by repeat (first | (with_reducible first | exact HB.out | apply bA|apply bN|apply bD) | exact HB.out)⟩

end Go.Proofs.YtfbdmgdbamjjhaaDoor.P
