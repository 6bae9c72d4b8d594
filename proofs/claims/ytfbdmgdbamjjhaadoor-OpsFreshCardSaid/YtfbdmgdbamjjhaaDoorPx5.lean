-- Printed by a program of this session (wip/patch-print.py over the kit's print): Lean checks it.
import Derived.Test.YtfbdmgdbamjjhaaDoorPx0
import Derived.Test.YtfbdmgdbamjjhaaDoorLits
namespace Go.Proofs.YtfbdmgdbamjjhaaDoor.P
open Go.Proofs.YtfbdmgdbamjjhaaDoorTabs
open Go.Proofs.YtfbdmgdbamjjhaaDoorCaps
open Go.RowKit Go.Proofs.YtfbdmgdbamjjhaaDoorW.PrintWords Go.Proofs.YtfbdmgdbamjjhaaDoorW.PrintLast Go.Proofs.YtfbdmgdbamjjhaaDoorW.PrintMore
attribute [local go_sem] max2_int min2_int max_two min_two max_three min_three max_four min_four   -- for this text's walks alone
set_option linter.unusedVariables false
set_option linter.unusedSimpArgs false

/-! ### jacquardref10_hung: function 32 -/
def jacquardref10_hung.xs : List S52 := [
  ⟨0,⟨#[]⟩,⟨#[117,110,114,101,97,99,104,97,98,108,101,32,110,111,112]⟩,⟨#[58]⟩,0,⟨#[48]⟩,false⟩,
  ⟨2,⟨#[]⟩,⟨#[98,108,111,99,107,32,108,111,111,112,32,105,102]⟩,⟨#[58]⟩,1,⟨#[48]⟩,false⟩,
  ⟨12,⟨#[]⟩,⟨#[98,114,32,98,114,95,105,102]⟩,⟨#[58]⟩,2,⟨#[48]⟩,false⟩,
  ⟨14,⟨#[]⟩,⟨#[98,114,95,116,97,98,108,101]⟩,⟨#[58]⟩,3,⟨#[48]⟩,false⟩,
  ⟨15,⟨#[]⟩,⟨#[114,101,116,117,114,110]⟩,⟨#[58]⟩,0,⟨#[48]⟩,false⟩,
  ⟨16,⟨#[]⟩,⟨#[99,97,108,108]⟩,⟨#[58]⟩,4,⟨#[48]⟩,false⟩,
  ⟨17,⟨#[]⟩,⟨#[99,97,108,108,95,105,110,100,105,114,101,99,116]⟩,⟨#[58]⟩,5,⟨#[48]⟩,false⟩,
  ⟨26,⟨#[]⟩,⟨#[100,114,111,112,32,115,101,108,101,99,116]⟩,⟨#[58]⟩,0,⟨#[48]⟩,false⟩,
  ⟨28,⟨#[]⟩,⟨#[115,101,108,101,99,116,95,116]⟩,⟨#[58]⟩,26,⟨#[48]⟩,false⟩,
  ⟨32,⟨#[108,111,99,97,108,46]⟩,⟨#[103,101,116,32,115,101,116,32,116,101,101]⟩,⟨#[58]⟩,6,⟨#[48]⟩,false⟩,
  ⟨35,⟨#[103,108,111,98,97,108,46]⟩,⟨#[103,101,116,32,115,101,116]⟩,⟨#[58]⟩,7,⟨#[48]⟩,false⟩,
  ⟨37,⟨#[116,97,98,108,101,46]⟩,⟨#[103,101,116,32,115,101,116]⟩,⟨#[58]⟩,8,⟨#[48]⟩,false⟩,
  ⟨40,⟨#[]⟩,⟨#[105,51,50,46,108,111,97,100,32,105,54,52,46,108,111,97,100,32,102,51,50,46,108,111,97,100,32,102,54,52,46,108,111,97,100]⟩,⟨#[105,58,105,32,105,58,108,32,105,58,102,32,105,58,100]⟩,16,⟨#[51,50,32,54,52,32,51,50,32,54,52]⟩,false⟩,
  ⟨44,⟨#[105,51,50,46,108,111,97,100]⟩,⟨#[56,95,115,32,56,95,117,32,49,54,95,115,32,49,54,95,117]⟩,⟨#[105,58,105]⟩,16,⟨#[56,32,56,32,49,54,32,49,54]⟩,false⟩,
  ⟨48,⟨#[105,54,52,46,108,111,97,100]⟩,⟨#[56,95,115,32,56,95,117,32,49,54,95,115,32,49,54,95,117,32,51,50,95,115,32,51,50,95,117]⟩,⟨#[105,58,108]⟩,16,⟨#[56,32,56,32,49,54,32,49,54,32,51,50,32,51,50]⟩,false⟩,
  ⟨54,⟨#[]⟩,⟨#[105,51,50,46,115,116,111,114,101,32,105,54,52,46,115,116,111,114,101,32,102,51,50,46,115,116,111,114,101,32,102,54,52,46,115,116,111,114,101]⟩,⟨#[105,105,58,32,105,108,58,32,105,102,58,32,105,100,58]⟩,16,⟨#[51,50,32,54,52,32,51,50,32,54,52]⟩,false⟩,
  ⟨58,⟨#[105,51,50,46,115,116,111,114,101]⟩,⟨#[56,32,49,54]⟩,⟨#[105,105,58]⟩,16,⟨#[56,32,49,54]⟩,false⟩,
  ⟨60,⟨#[105,54,52,46,115,116,111,114,101]⟩,⟨#[56,32,49,54,32,51,50]⟩,⟨#[105,108,58]⟩,16,⟨#[56,32,49,54,32,51,50]⟩,false⟩,
  ⟨63,⟨#[109,101,109,111,114,121,46]⟩,⟨#[115,105,122,101,32,103,114,111,119]⟩,⟨#[58,105,32,105,58,105]⟩,14,⟨#[48]⟩,false⟩,
  ⟨208,⟨#[]⟩,⟨#[114,101,102,46,110,117,108,108]⟩,⟨#[58]⟩,25,⟨#[48]⟩,false⟩,
  ⟨209,⟨#[]⟩,⟨#[114,101,102,46,105,115,95,110,117,108,108]⟩,⟨#[58]⟩,0,⟨#[48]⟩,false⟩,
  ⟨210,⟨#[]⟩,⟨#[114,101,102,46,102,117,110,99]⟩,⟨#[58]⟩,4,⟨#[48]⟩,false⟩,
  ⟨64520,⟨#[109,101,109,111,114,121,46]⟩,⟨#[105,110,105,116]⟩,⟨#[105,105,105,58]⟩,13,⟨#[48]⟩,false⟩,
  ⟨64521,⟨#[100,97,116,97,46]⟩,⟨#[100,114,111,112]⟩,⟨#[58]⟩,12,⟨#[48]⟩,false⟩,
  ⟨64522,⟨#[109,101,109,111,114,121,46]⟩,⟨#[99,111,112,121]⟩,⟨#[105,105,105,58]⟩,15,⟨#[48]⟩,false⟩,
  ⟨64523,⟨#[109,101,109,111,114,121,46]⟩,⟨#[102,105,108,108]⟩,⟨#[105,105,105,58]⟩,14,⟨#[48]⟩,false⟩,
  ⟨64524,⟨#[116,97,98,108,101,46]⟩,⟨#[105,110,105,116]⟩,⟨#[58]⟩,9,⟨#[48]⟩,false⟩,
  ⟨64525,⟨#[101,108,101,109,46]⟩,⟨#[100,114,111,112]⟩,⟨#[58]⟩,10,⟨#[48]⟩,false⟩,
  ⟨64526,⟨#[116,97,98,108,101,46]⟩,⟨#[99,111,112,121]⟩,⟨#[58]⟩,11,⟨#[48]⟩,false⟩,
  ⟨64527,⟨#[116,97,98,108,101,46]⟩,⟨#[103,114,111,119,32,115,105,122,101,32,102,105,108,108]⟩,⟨#[58]⟩,8,⟨#[48]⟩,false⟩]
def jacquardref10_hung.f : Option (List S52) := some jacquardref10_hung.xs
set_option maxHeartbeats 8000000 in
set_option maxRecDepth 100000 in
theorem jacquardref10_hung.calls (r : List S52) (w : World) (h : jacquardref10_hung.f = some r) :
    Calls Tryd.prog 32 #[] w fun e w' => ∃ v0_ : Value, e = .returned (v0_) ∧ Kd.R k52 52 w' w.heap.size (fun _ => True) v0_ r ∧ Below w.heap.size w w' := by
  have hu52 := Tryd.underlying52
  have HB := Aside0.mk (Below.refl w.heap.size w)
  obtain rfl := Option.some.inj (show some jacquardref10_hung.xs = some r from h)
  clear h
  go_enter Tryd.func32, Tryd.ntmps32
  go_wp2_with (first | ((with_reducible refine gate_dst (N := 31) rfl ?_); refine Kd.R_lit k52 _ 52 ?hg (N := 31) ?hd (xs := jacquardref10_hung.xs) (inner := jacquardref10_hung.xs.flatMap c52) (ok := fun _ => True) (okp := fun _ => True) ?hr ?hp (fun _ hk => hk) trivial (Below.refl _ _) (Nat.le_refl _) (of_decide_eq_true (by kernel_rfl)) ?_; (case hd => rfl); (case hg => rfl); (case hr => kernel_rfl); (case hp => exact reps52 _ _ _ _); intro v161 w1 ho2 hb hg_ hnew_; clear hg_ hnew_; have n0_ := Aside0.mk (Kd.R_lower ho2 (below_size (by repeat (first | (with_reducible first | exact HB.out | apply bA|apply bN|apply bD) | exact HB.out)))); have n1_ := Aside0.mk (below_step (by repeat (first | (with_reducible first | exact HB.out | apply bA|apply bN|apply bD) | exact HB.out)) hb); clear HB; have HO1 := n0_; have HB := n1_; clear n0_ n1_; clear hb ho2))
  go_ret
  exact ⟨_, by first | rfl | (simp [errW_none, errW_some] <;> rfl), by (with_reducible repeat (first | apply rA|apply rN|apply rD)); exact HO1.out, by repeat (first | (with_reducible first | exact HB.out | apply bA|apply bN|apply bD) | exact HB.out)⟩

/-! ### jacquardref10_scalars: function 33 -/
def jacquardref10_scalars.xs : List S52 := [
  ⟨65,⟨#[]⟩,⟨#[105,51,50,46,99,111,110,115,116]⟩,⟨#[58,105]⟩,20,⟨#[48]⟩,true⟩,
  ⟨66,⟨#[]⟩,⟨#[105,54,52,46,99,111,110,115,116]⟩,⟨#[58,108]⟩,21,⟨#[48]⟩,true⟩,
  ⟨67,⟨#[]⟩,⟨#[102,51,50,46,99,111,110,115,116]⟩,⟨#[58,102]⟩,22,⟨#[48]⟩,true⟩,
  ⟨68,⟨#[]⟩,⟨#[102,54,52,46,99,111,110,115,116]⟩,⟨#[58,100]⟩,23,⟨#[48]⟩,true⟩,
  ⟨69,⟨#[105,51,50,46]⟩,⟨#[101,113,122]⟩,⟨#[105,58,105]⟩,0,⟨#[48]⟩,true⟩,
  ⟨70,⟨#[105,51,50,46]⟩,⟨#[101,113,32,110,101,32,108,116,95,115,32,108,116,95,117,32,103,116,95,115,32,103,116,95,117,32,108,101,95,115,32,108,101,95,117,32,103,101,95,115,32,103,101,95,117]⟩,⟨#[105,105,58,105]⟩,0,⟨#[48]⟩,true⟩,
  ⟨80,⟨#[105,54,52,46]⟩,⟨#[101,113,122]⟩,⟨#[108,58,105]⟩,0,⟨#[48]⟩,true⟩,
  ⟨81,⟨#[105,54,52,46]⟩,⟨#[101,113,32,110,101,32,108,116,95,115,32,108,116,95,117,32,103,116,95,115,32,103,116,95,117,32,108,101,95,115,32,108,101,95,117,32,103,101,95,115,32,103,101,95,117]⟩,⟨#[108,108,58,105]⟩,0,⟨#[48]⟩,true⟩,
  ⟨91,⟨#[102,51,50,46]⟩,⟨#[101,113,32,110,101,32,108,116,32,103,116,32,108,101,32,103,101]⟩,⟨#[102,102,58,105]⟩,0,⟨#[48]⟩,true⟩,
  ⟨97,⟨#[102,54,52,46]⟩,⟨#[101,113,32,110,101,32,108,116,32,103,116,32,108,101,32,103,101]⟩,⟨#[100,100,58,105]⟩,0,⟨#[48]⟩,true⟩,
  ⟨103,⟨#[105,51,50,46]⟩,⟨#[99,108,122,32,99,116,122,32,112,111,112,99,110,116]⟩,⟨#[105,58,105]⟩,0,⟨#[48]⟩,true⟩,
  ⟨106,⟨#[105,51,50,46]⟩,⟨#[97,100,100,32,115,117,98,32,109,117,108,32,100,105,118,95,115,32,100,105,118,95,117,32,114,101,109,95,115,32,114,101,109,95,117,32,97,110,100,32,111,114,32,120,111,114,32,115,104,108,32,115,104,114,95,115,32,115,104,114,95,117,32,114,111,116,108,32,114,111,116,114]⟩,⟨#[105,105,58,105]⟩,0,⟨#[48]⟩,true⟩,
  ⟨121,⟨#[105,54,52,46]⟩,⟨#[99,108,122,32,99,116,122,32,112,111,112,99,110,116]⟩,⟨#[108,58,108]⟩,0,⟨#[48]⟩,true⟩,
  ⟨124,⟨#[105,54,52,46]⟩,⟨#[97,100,100,32,115,117,98,32,109,117,108,32,100,105,118,95,115,32,100,105,118,95,117,32,114,101,109,95,115,32,114,101,109,95,117,32,97,110,100,32,111,114,32,120,111,114,32,115,104,108,32,115,104,114,95,115,32,115,104,114,95,117,32,114,111,116,108,32,114,111,116,114]⟩,⟨#[108,108,58,108]⟩,0,⟨#[48]⟩,true⟩,
  ⟨139,⟨#[102,51,50,46]⟩,⟨#[97,98,115,32,110,101,103,32,99,101,105,108,32,102,108,111,111,114,32,116,114,117,110,99,32,110,101,97,114,101,115,116,32,115,113,114,116]⟩,⟨#[102,58,102]⟩,0,⟨#[48]⟩,true⟩,
  ⟨146,⟨#[102,51,50,46]⟩,⟨#[97,100,100,32,115,117,98,32,109,117,108,32,100,105,118,32,109,105,110,32,109,97,120,32,99,111,112,121,115,105,103,110]⟩,⟨#[102,102,58,102]⟩,0,⟨#[48]⟩,true⟩,
  ⟨153,⟨#[102,54,52,46]⟩,⟨#[97,98,115,32,110,101,103,32,99,101,105,108,32,102,108,111,111,114,32,116,114,117,110,99,32,110,101,97,114,101,115,116,32,115,113,114,116]⟩,⟨#[100,58,100]⟩,0,⟨#[48]⟩,true⟩,
  ⟨160,⟨#[102,54,52,46]⟩,⟨#[97,100,100,32,115,117,98,32,109,117,108,32,100,105,118,32,109,105,110,32,109,97,120,32,99,111,112,121,115,105,103,110]⟩,⟨#[100,100,58,100]⟩,0,⟨#[48]⟩,true⟩,
  ⟨167,⟨#[105,51,50,46]⟩,⟨#[119,114,97,112,95,105,54,52]⟩,⟨#[108,58,105]⟩,0,⟨#[48]⟩,true⟩,
  ⟨168,⟨#[105,51,50,46]⟩,⟨#[116,114,117,110,99,95,102,51,50,95,115,32,116,114,117,110,99,95,102,51,50,95,117,32,116,114,117,110,99,95,102,54,52,95,115,32,116,114,117,110,99,95,102,54,52,95,117]⟩,⟨#[102,58,105,32,102,58,105,32,100,58,105,32,100,58,105]⟩,0,⟨#[48]⟩,true⟩,
  ⟨172,⟨#[105,54,52,46]⟩,⟨#[101,120,116,101,110,100,95,105,51,50,95,115,32,101,120,116,101,110,100,95,105,51,50,95,117]⟩,⟨#[105,58,108]⟩,0,⟨#[48]⟩,true⟩,
  ⟨174,⟨#[105,54,52,46]⟩,⟨#[116,114,117,110,99,95,102,51,50,95,115,32,116,114,117,110,99,95,102,51,50,95,117,32,116,114,117,110,99,95,102,54,52,95,115,32,116,114,117,110,99,95,102,54,52,95,117]⟩,⟨#[102,58,108,32,102,58,108,32,100,58,108,32,100,58,108]⟩,0,⟨#[48]⟩,true⟩,
  ⟨178,⟨#[102,51,50,46]⟩,⟨#[99,111,110,118,101,114,116,95,105,51,50,95,115,32,99,111,110,118,101,114,116,95,105,51,50,95,117,32,99,111,110,118,101,114,116,95,105,54,52,95,115,32,99,111,110,118,101,114,116,95,105,54,52,95,117]⟩,⟨#[105,58,102,32,105,58,102,32,108,58,102,32,108,58,102]⟩,0,⟨#[48]⟩,true⟩,
  ⟨182,⟨#[102,51,50,46]⟩,⟨#[100,101,109,111,116,101,95,102,54,52]⟩,⟨#[100,58,102]⟩,0,⟨#[48]⟩,true⟩,
  ⟨183,⟨#[102,54,52,46]⟩,⟨#[99,111,110,118,101,114,116,95,105,51,50,95,115,32,99,111,110,118,101,114,116,95,105,51,50,95,117,32,99,111,110,118,101,114,116,95,105,54,52,95,115,32,99,111,110,118,101,114,116,95,105,54,52,95,117]⟩,⟨#[105,58,100,32,105,58,100,32,108,58,100,32,108,58,100]⟩,0,⟨#[48]⟩,true⟩,
  ⟨187,⟨#[102,54,52,46]⟩,⟨#[112,114,111,109,111,116,101,95,102,51,50]⟩,⟨#[102,58,100]⟩,0,⟨#[48]⟩,true⟩,
  ⟨188,⟨#[]⟩,⟨#[105,51,50,46,114,101,105,110,116,101,114,112,114,101,116,95,102,51,50,32,105,54,52,46,114,101,105,110,116,101,114,112,114,101,116,95,102,54,52,32,102,51,50,46,114,101,105,110,116,101,114,112,114,101,116,95,105,51,50,32,102,54,52,46,114,101,105,110,116,101,114,112,114,101,116,95,105,54,52]⟩,⟨#[102,58,105,32,100,58,108,32,105,58,102,32,108,58,100]⟩,0,⟨#[48]⟩,true⟩,
  ⟨192,⟨#[105,51,50,46]⟩,⟨#[101,120,116,101,110,100,56,95,115,32,101,120,116,101,110,100,49,54,95,115]⟩,⟨#[105,58,105]⟩,0,⟨#[48]⟩,true⟩,
  ⟨194,⟨#[105,54,52,46]⟩,⟨#[101,120,116,101,110,100,56,95,115,32,101,120,116,101,110,100,49,54,95,115,32,101,120,116,101,110,100,51,50,95,115]⟩,⟨#[108,58,108]⟩,0,⟨#[48]⟩,true⟩,
  ⟨64512,⟨#[105,51,50,46]⟩,⟨#[116,114,117,110,99,95,115,97,116,95,102,51,50,95,115,32,116,114,117,110,99,95,115,97,116,95,102,51,50,95,117,32,116,114,117,110,99,95,115,97,116,95,102,54,52,95,115,32,116,114,117,110,99,95,115,97,116,95,102,54,52,95,117]⟩,⟨#[102,58,105,32,102,58,105,32,100,58,105,32,100,58,105]⟩,0,⟨#[48]⟩,true⟩,
  ⟨64516,⟨#[105,54,52,46]⟩,⟨#[116,114,117,110,99,95,115,97,116,95,102,51,50,95,115,32,116,114,117,110,99,95,115,97,116,95,102,51,50,95,117,32,116,114,117,110,99,95,115,97,116,95,102,54,52,95,115,32,116,114,117,110,99,95,115,97,116,95,102,54,52,95,117]⟩,⟨#[102,58,108,32,102,58,108,32,100,58,108,32,100,58,108]⟩,0,⟨#[48]⟩,true⟩]
def jacquardref10_scalars.f : Option (List S52) := some jacquardref10_scalars.xs
set_option maxHeartbeats 8000000 in
set_option maxRecDepth 100000 in
theorem jacquardref10_scalars.calls (r : List S52) (w : World) (h : jacquardref10_scalars.f = some r) :
    Calls Tryd.prog 33 #[] w fun e w' => ∃ v0_ : Value, e = .returned (v0_) ∧ Kd.R k52 52 w' w.heap.size (fun _ => True) v0_ r ∧ Below w.heap.size w w' := by
  have hu52 := Tryd.underlying52
  have HB := Aside0.mk (Below.refl w.heap.size w)
  obtain rfl := Option.some.inj (show some jacquardref10_scalars.xs = some r from h)
  clear h
  go_enter Tryd.func33, Tryd.ntmps33
  go_wp2_with (first | ((with_reducible refine gate_dst (N := 32) rfl ?_); refine Kd.R_lit k52 _ 52 ?hg (N := 32) ?hd (xs := jacquardref10_scalars.xs) (inner := jacquardref10_scalars.xs.flatMap c52) (ok := fun _ => True) (okp := fun _ => True) ?hr ?hp (fun _ hk => hk) trivial (Below.refl _ _) (Nat.le_refl _) (of_decide_eq_true (by kernel_rfl)) ?_; (case hd => rfl); (case hg => rfl); (case hr => kernel_rfl); (case hp => exact reps52 _ _ _ _); intro v161 w1 ho2 hb hg_ hnew_; clear hg_ hnew_; have n0_ := Aside0.mk (Kd.R_lower ho2 (below_size (by repeat (first | (with_reducible first | exact HB.out | apply bA|apply bN|apply bD) | exact HB.out)))); have n1_ := Aside0.mk (below_step (by repeat (first | (with_reducible first | exact HB.out | apply bA|apply bN|apply bD) | exact HB.out)) hb); clear HB; have HO1 := n0_; have HB := n1_; clear n0_ n1_; clear hb ho2))
  go_ret
  exact ⟨_, by first | rfl | (simp [errW_none, errW_some] <;> rfl), by (with_reducible repeat (first | apply rA|apply rN|apply rD)); exact HO1.out, by repeat (first | (with_reducible first | exact HB.out | apply bA|apply bN|apply bD) | exact HB.out)⟩

/-! ### jacquardref10_places: function 34 -/
def jacquardref10_places.xs : List S52 := [
  ⟨64768,⟨#[118,49,50,56,46]⟩,⟨#[108,111,97,100]⟩,⟨#[105,58,118]⟩,16,⟨#[49,50,56]⟩,false⟩,
  ⟨64769,⟨#[118,49,50,56,46,108,111,97,100]⟩,⟨#[56,120,56,95,115,32,56,120,56,95,117,32,49,54,120,52,95,115,32,49,54,120,52,95,117,32,51,50,120,50,95,115,32,51,50,120,50,95,117]⟩,⟨#[105,58,118]⟩,16,⟨#[54,52]⟩,false⟩,
  ⟨64775,⟨#[118,49,50,56,46,108,111,97,100]⟩,⟨#[56,95,115,112,108,97,116,32,49,54,95,115,112,108,97,116,32,51,50,95,115,112,108,97,116,32,54,52,95,115,112,108,97,116]⟩,⟨#[105,58,118]⟩,16,⟨#[56,32,49,54,32,51,50,32,54,52]⟩,false⟩,
  ⟨64779,⟨#[118,49,50,56,46]⟩,⟨#[115,116,111,114,101]⟩,⟨#[105,118,58]⟩,16,⟨#[49,50,56]⟩,false⟩,
  ⟨64780,⟨#[118,49,50,56,46]⟩,⟨#[99,111,110,115,116]⟩,⟨#[58,118]⟩,24,⟨#[48]⟩,true⟩,
  ⟨64781,⟨#[105,56,120,49,54,46]⟩,⟨#[115,104,117,102,102,108,101]⟩,⟨#[118,118,58,118]⟩,19,⟨#[48]⟩,true⟩,
  ⟨64782,⟨#[105,56,120,49,54,46]⟩,⟨#[115,119,105,122,122,108,101]⟩,⟨#[118,118,58,118]⟩,0,⟨#[48]⟩,true⟩,
  ⟨64783,⟨#[]⟩,⟨#[105,56,120,49,54,46,115,112,108,97,116,32,105,49,54,120,56,46,115,112,108,97,116,32,105,51,50,120,52,46,115,112,108,97,116,32,105,54,52,120,50,46,115,112,108,97,116,32,102,51,50,120,52,46,115,112,108,97,116,32,102,54,52,120,50,46,115,112,108,97,116]⟩,⟨#[105,58,118,32,105,58,118,32,105,58,118,32,108,58,118,32,102,58,118,32,100,58,118]⟩,0,⟨#[48]⟩,true⟩,
  ⟨64789,⟨#[105,56,120,49,54,46]⟩,⟨#[101,120,116,114,97,99,116,95,108,97,110,101,95,115,32,101,120,116,114,97,99,116,95,108,97,110,101,95,117,32,114,101,112,108,97,99,101,95,108,97,110,101]⟩,⟨#[118,58,105,32,118,58,105,32,118,105,58,118]⟩,18,⟨#[48]⟩,true⟩,
  ⟨64792,⟨#[105,49,54,120,56,46]⟩,⟨#[101,120,116,114,97,99,116,95,108,97,110,101,95,115,32,101,120,116,114,97,99,116,95,108,97,110,101,95,117,32,114,101,112,108,97,99,101,95,108,97,110,101]⟩,⟨#[118,58,105,32,118,58,105,32,118,105,58,118]⟩,18,⟨#[48]⟩,true⟩,
  ⟨64795,⟨#[105,51,50,120,52,46]⟩,⟨#[101,120,116,114,97,99,116,95,108,97,110,101,32,114,101,112,108,97,99,101,95,108,97,110,101]⟩,⟨#[118,58,105,32,118,105,58,118]⟩,18,⟨#[48]⟩,true⟩,
  ⟨64797,⟨#[105,54,52,120,50,46]⟩,⟨#[101,120,116,114,97,99,116,95,108,97,110,101,32,114,101,112,108,97,99,101,95,108,97,110,101]⟩,⟨#[118,58,108,32,118,108,58,118]⟩,18,⟨#[48]⟩,true⟩,
  ⟨64799,⟨#[102,51,50,120,52,46]⟩,⟨#[101,120,116,114,97,99,116,95,108,97,110,101,32,114,101,112,108,97,99,101,95,108,97,110,101]⟩,⟨#[118,58,102,32,118,102,58,118]⟩,18,⟨#[48]⟩,true⟩,
  ⟨64801,⟨#[102,54,52,120,50,46]⟩,⟨#[101,120,116,114,97,99,116,95,108,97,110,101,32,114,101,112,108,97,99,101,95,108,97,110,101]⟩,⟨#[118,58,100,32,118,100,58,118]⟩,18,⟨#[48]⟩,true⟩,
  ⟨64852,⟨#[118,49,50,56,46,108,111,97,100]⟩,⟨#[56,95,108,97,110,101,32,49,54,95,108,97,110,101,32,51,50,95,108,97,110,101,32,54,52,95,108,97,110,101]⟩,⟨#[105,118,58,118]⟩,17,⟨#[56,32,49,54,32,51,50,32,54,52]⟩,false⟩,
  ⟨64856,⟨#[118,49,50,56,46,115,116,111,114,101]⟩,⟨#[56,95,108,97,110,101,32,49,54,95,108,97,110,101,32,51,50,95,108,97,110,101,32,54,52,95,108,97,110,101]⟩,⟨#[105,118,58]⟩,17,⟨#[56,32,49,54,32,51,50,32,54,52]⟩,false⟩,
  ⟨64860,⟨#[118,49,50,56,46,108,111,97,100]⟩,⟨#[51,50,95,122,101,114,111,32,54,52,95,122,101,114,111]⟩,⟨#[105,58,118]⟩,16,⟨#[51,50,32,54,52]⟩,false⟩]
def jacquardref10_places.f : Option (List S52) := some jacquardref10_places.xs
set_option maxHeartbeats 8000000 in
set_option maxRecDepth 100000 in
theorem jacquardref10_places.calls (r : List S52) (w : World) (h : jacquardref10_places.f = some r) :
    Calls Tryd.prog 34 #[] w fun e w' => ∃ v0_ : Value, e = .returned (v0_) ∧ Kd.R k52 52 w' w.heap.size (fun _ => True) v0_ r ∧ Below w.heap.size w w' := by
  have hu52 := Tryd.underlying52
  have HB := Aside0.mk (Below.refl w.heap.size w)
  obtain rfl := Option.some.inj (show some jacquardref10_places.xs = some r from h)
  clear h
  go_enter Tryd.func34, Tryd.ntmps34
  go_wp2_with (first | ((with_reducible refine gate_dst (N := 18) rfl ?_); refine Kd.R_lit k52 _ 52 ?hg (N := 18) ?hd (xs := jacquardref10_places.xs) (inner := jacquardref10_places.xs.flatMap c52) (ok := fun _ => True) (okp := fun _ => True) ?hr ?hp (fun _ hk => hk) trivial (Below.refl _ _) (Nat.le_refl _) (of_decide_eq_true (by kernel_rfl)) ?_; (case hd => rfl); (case hg => rfl); (case hr => kernel_rfl); (case hp => exact reps52 _ _ _ _); intro v161 w1 ho2 hb hg_ hnew_; clear hg_ hnew_; have n0_ := Aside0.mk (Kd.R_lower ho2 (below_size (by repeat (first | (with_reducible first | exact HB.out | apply bA|apply bN|apply bD) | exact HB.out)))); have n1_ := Aside0.mk (below_step (by repeat (first | (with_reducible first | exact HB.out | apply bA|apply bN|apply bD) | exact HB.out)) hb); clear HB; have HO1 := n0_; have HB := n1_; clear n0_ n1_; clear hb ho2))
  go_ret
  exact ⟨_, by first | rfl | (simp [errW_none, errW_some] <;> rfl), by (with_reducible repeat (first | apply rA|apply rN|apply rD)); exact HO1.out, by repeat (first | (with_reducible first | exact HB.out | apply bA|apply bN|apply bD) | exact HB.out)⟩

/-! ### jacquardref10_vector: function 49 -/
def jacquardref10_vector.f (a0 : Int) (a1 : ByteArray) (a2 : ByteArray) (a3 : ByteArray) : Option (Int × ByteArray × ByteArray × ByteArray × Int × ByteArray × Bool) := some (a0, a1, a2, a3, 0, (⟨#[48]⟩ : ByteArray), true)
set_option maxHeartbeats 8000000 in
set_option maxRecDepth 100000 in
theorem jacquardref10_vector.calls (a0 : Int) (a1 : ByteArray) (a2 : ByteArray) (a3 : ByteArray) (r1 : Int) (r2 : ByteArray) (r3 : ByteArray) (r4 : ByteArray) (r5 : Int) (r6 : ByteArray) (r7 : Bool) (w : World) (h : jacquardref10_vector.f a0 a1 a2 a3 = some (r1, r2, r3, r4, r5, r6, r7)) :
    Calls Tryd.prog 49 #[.int .u16 a0, .string a1, .string a2, .string a3] w fun e w' => e = .returned (.agg #[.int .u16 r1, .string r2, .string r3, .string r4, .int .u8 r5, .string r6, .bool r7]) ∧ Below w.heap.size w w' := by
  have hu52 := Tryd.underlying52
  have HB := Aside0.mk (Below.refl w.heap.size w)
  have H : (some (a0, a1, a2, a3, 0, (⟨#[48]⟩ : ByteArray), true)) = some (r1, r2, r3, r4, r5, r6, r7) := h
  clear h
  simp only [Option.some.injEq, Prod.mk.injEq] at H
  obtain ⟨rfl, rfl, rfl, rfl, rfl, rfl, rfl⟩ := H
  go_enter Tryd.func49, Tryd.ntmps49
  go_wp2_with (first | ((with_reducible refine gate_dst (N := 8) rfl ?_); refine box_event ?hg (N := 8) ?hd (cs := #[.int .u16 0, .string (⟨#[]⟩ : ByteArray), .string (⟨#[]⟩ : ByteArray), .string (⟨#[]⟩ : ByteArray), .int .u8 0, .string (⟨#[]⟩ : ByteArray), .bool false]) (t := 52) ?hr ?_; (case hd => rfl); (case hg => rfl); (case hr => first | (go_simp; done) | (go_simp; rfl)); intro gb229 hg w5 hbox hb; have n0_ := Aside0.mk (below_step (by repeat (first | (with_reducible first | exact HB.out | apply bA|apply bN|apply bD) | exact HB.out)) hb); have n1_ := Aside0.mk (hbox); have n2_ := Aside0.mk ((by rw [hg]; exact (below_size (by repeat (first | (with_reducible first | exact HB.out | apply bA|apply bN|apply bD) | exact HB.out))) : w.heap.size ≤ gb229)); have n3_ := Aside0.mk ((by rw [hg]; exact (below_size (by repeat (first | (with_reducible first | exact HB.out | apply bA|apply bN|apply bD) | exact HB.out))) : w.heap.size ≤ gb229)); clear HB; have HB := n0_; have BK229 := n1_; have GW229 := n2_; have GE229 := n3_; clear n0_ n1_ n2_ n3_; clear hb hbox hg; have hcz6_0 : w5.cell? ⟨gb229, 0, none⟩ = some (.int .u16 0) := (blk_cell BK229.out 0).trans rfl; have hcz6_1 : w5.cell? ⟨gb229, 1, none⟩ = some (.string (⟨#[]⟩ : ByteArray)) := (blk_cell BK229.out 1).trans rfl; have hcz6_2 : w5.cell? ⟨gb229, 2, none⟩ = some (.string (⟨#[]⟩ : ByteArray)) := (blk_cell BK229.out 2).trans rfl; have hcz6_3 : w5.cell? ⟨gb229, 3, none⟩ = some (.string (⟨#[]⟩ : ByteArray)) := (blk_cell BK229.out 3).trans rfl; have hcz6_4 : w5.cell? ⟨gb229, 4, none⟩ = some (.int .u8 0) := (blk_cell BK229.out 4).trans rfl; have hcz6_5 : w5.cell? ⟨gb229, 5, none⟩ = some (.string (⟨#[]⟩ : ByteArray)) := (blk_cell BK229.out 5).trans rfl; have hcz6_6 : w5.cell? ⟨gb229, 6, none⟩ = some (.bool false) := (blk_cell BK229.out 6).trans rfl; have hfz6_0 := blk_frozen BK229.out 0; have hfz6_1 := blk_frozen BK229.out 1; have hfz6_2 := blk_frozen BK229.out 2; have hfz6_3 := blk_frozen BK229.out 3; have hfz6_4 := blk_frozen BK229.out 4; have hfz6_5 := blk_frozen BK229.out 5; have hfz6_6 := blk_frozen BK229.out 6))
  refine bodyPost_ret (results_cell_row rfl _ _ gb229 52 #[.int .u16 a0, .string a1, .string a2, .string a3, .int .u8 0, .string (⟨#[48]⟩ : ByteArray), .bool true] (0, 0) _ rfl (by (with_reducible repeat (first | apply kN|apply kD|apply kA)); refine blk_put (cs := #[.int .u16 a0, .string a1, .string a2, .string a3, .int .u8 0, .string (⟨#[48]⟩ : ByteArray), .bool false]) ?_ 6 _ rfl; (with_reducible repeat (first | apply kN|apply kD|apply kA)); refine blk_put (cs := #[.int .u16 a0, .string a1, .string a2, .string a3, .int .u8 0, .string (⟨#[]⟩ : ByteArray), .bool false]) ?_ 5 _ rfl; (with_reducible repeat (first | apply kN|apply kD|apply kA)); refine blk_put (cs := #[.int .u16 a0, .string a1, .string a2, .string a3, .int .u8 0, .string (⟨#[]⟩ : ByteArray), .bool false]) ?_ 4 _ rfl; (with_reducible repeat (first | apply kN|apply kD|apply kA)); refine blk_put (cs := #[.int .u16 a0, .string a1, .string a2, .string (⟨#[]⟩ : ByteArray), .int .u8 0, .string (⟨#[]⟩ : ByteArray), .bool false]) ?_ 3 _ rfl; (with_reducible repeat (first | apply kN|apply kD|apply kA)); refine blk_put (cs := #[.int .u16 a0, .string a1, .string (⟨#[]⟩ : ByteArray), .string (⟨#[]⟩ : ByteArray), .int .u8 0, .string (⟨#[]⟩ : ByteArray), .bool false]) ?_ 2 _ rfl; (with_reducible repeat (first | apply kN|apply kD|apply kA)); refine blk_put (cs := #[.int .u16 a0, .string (⟨#[]⟩ : ByteArray), .string (⟨#[]⟩ : ByteArray), .string (⟨#[]⟩ : ByteArray), .int .u8 0, .string (⟨#[]⟩ : ByteArray), .bool false]) ?_ 1 _ rfl; (with_reducible repeat (first | apply kN|apply kD|apply kA)); refine blk_put (cs := #[.int .u16 0, .string (⟨#[]⟩ : ByteArray), .string (⟨#[]⟩ : ByteArray), .string (⟨#[]⟩ : ByteArray), .int .u8 0, .string (⟨#[]⟩ : ByteArray), .bool false]) ?_ 0 _ rfl; (with_reducible repeat (first | apply kN|apply kD|apply kA)); exact BK229.out) Tryd.underlying52 rfl (by kernel_rfl)) rfl ?_
  exact ⟨by first | rfl | (simp [errW_none, errW_some] <;> rfl) | (simp [*, errW_none, errW_some] <;> rfl), by repeat (first | (with_reducible first | exact HB.out | apply bA|apply bN|apply bD | refine below_set ?_ GE229.out) | exact HB.out)⟩

/-! ### vec_calls: function 49 -/
theorem vec_calls (a0 : Int) (a1 a2 a3 : ByteArray) (w : World) : Calls Tryd.prog 49 #[.int .u16 a0, .string a1, .string a2, .string a3] w fun e w' => e = .returned (.agg #[.int .u16 a0, .string a1, .string a2, .string a3, .int .u8 0, .string (⟨#[48]⟩ : ByteArray), .bool true]) ∧ Below w.heap.size w w' :=
  jacquardref10_vector.calls a0 a1 a2 a3 _ _ _ _ _ _ _ w rfl

/-! ### jacquardref10_compared: function 35 -/
def jacquardref10_compared.xs : List S52 := [
  ⟨64803,⟨#[105,56,120,49,54,46]⟩,⟨#[101,113,32,110,101,32,108,116,95,115,32,108,116,95,117,32,103,116,95,115,32,103,116,95,117,32,108,101,95,115,32,108,101,95,117,32,103,101,95,115,32,103,101,95,117]⟩,⟨#[118,118,58,118]⟩,0,⟨#[48]⟩,true⟩,
  ⟨64813,⟨#[105,49,54,120,56,46]⟩,⟨#[101,113,32,110,101,32,108,116,95,115,32,108,116,95,117,32,103,116,95,115,32,103,116,95,117,32,108,101,95,115,32,108,101,95,117,32,103,101,95,115,32,103,101,95,117]⟩,⟨#[118,118,58,118]⟩,0,⟨#[48]⟩,true⟩,
  ⟨64823,⟨#[105,51,50,120,52,46]⟩,⟨#[101,113,32,110,101,32,108,116,95,115,32,108,116,95,117,32,103,116,95,115,32,103,116,95,117,32,108,101,95,115,32,108,101,95,117,32,103,101,95,115,32,103,101,95,117]⟩,⟨#[118,118,58,118]⟩,0,⟨#[48]⟩,true⟩,
  ⟨64833,⟨#[102,51,50,120,52,46]⟩,⟨#[101,113,32,110,101,32,108,116,32,103,116,32,108,101,32,103,101]⟩,⟨#[118,118,58,118]⟩,0,⟨#[48]⟩,true⟩,
  ⟨64839,⟨#[102,54,52,120,50,46]⟩,⟨#[101,113,32,110,101,32,108,116,32,103,116,32,108,101,32,103,101]⟩,⟨#[118,118,58,118]⟩,0,⟨#[48]⟩,true⟩,
  ⟨64845,⟨#[118,49,50,56,46]⟩,⟨#[110,111,116]⟩,⟨#[118,58,118]⟩,0,⟨#[48]⟩,true⟩,
  ⟨64846,⟨#[118,49,50,56,46]⟩,⟨#[97,110,100,32,97,110,100,110,111,116,32,111,114,32,120,111,114]⟩,⟨#[118,118,58,118]⟩,0,⟨#[48]⟩,true⟩,
  ⟨64850,⟨#[118,49,50,56,46]⟩,⟨#[98,105,116,115,101,108,101,99,116]⟩,⟨#[118,118,118,58,118]⟩,0,⟨#[48]⟩,true⟩,
  ⟨64851,⟨#[118,49,50,56,46]⟩,⟨#[97,110,121,95,116,114,117,101]⟩,⟨#[118,58,105]⟩,0,⟨#[48]⟩,true⟩,
  ⟨64862,⟨#[]⟩,⟨#[102,51,50,120,52,46,100,101,109,111,116,101,95,102,54,52,120,50,95,122,101,114,111,32,102,54,52,120,50,46,112,114,111,109,111,116,101,95,108,111,119,95,102,51,50,120,52]⟩,⟨#[118,58,118]⟩,0,⟨#[48]⟩,true⟩,
  ⟨64982,⟨#[105,54,52,120,50,46]⟩,⟨#[101,113,32,110,101,32,108,116,95,115,32,103,116,95,115,32,108,101,95,115,32,103,101,95,115]⟩,⟨#[118,118,58,118]⟩,0,⟨#[48]⟩,true⟩,
  ⟨65016,⟨#[]⟩,⟨#[105,51,50,120,52,46,116,114,117,110,99,95,115,97,116,95,102,51,50,120,52,95,115,32,105,51,50,120,52,46,116,114,117,110,99,95,115,97,116,95,102,51,50,120,52,95,117,32,102,51,50,120,52,46,99,111,110,118,101,114,116,95,105,51,50,120,52,95,115,32,102,51,50,120,52,46,99,111,110,118,101,114,116,95,105,51,50,120,52,95,117]⟩,⟨#[118,58,118]⟩,0,⟨#[48]⟩,true⟩,
  ⟨65020,⟨#[]⟩,⟨#[105,51,50,120,52,46,116,114,117,110,99,95,115,97,116,95,102,54,52,120,50,95,115,95,122,101,114,111,32,105,51,50,120,52,46,116,114,117,110,99,95,115,97,116,95,102,54,52,120,50,95,117,95,122,101,114,111,32,102,54,52,120,50,46,99,111,110,118,101,114,116,95,108,111,119,95,105,51,50,120,52,95,115,32,102,54,52,120,50,46,99,111,110,118,101,114,116,95,108,111,119,95,105,51,50,120,52,95,117]⟩,⟨#[118,58,118]⟩,0,⟨#[48]⟩,true⟩]
def jacquardref10_compared.f : Option (List S52) := some jacquardref10_compared.xs
set_option maxHeartbeats 8000000 in
set_option maxRecDepth 100000 in
theorem jacquardref10_compared.calls (r : List S52) (w : World) (h : jacquardref10_compared.f = some r) :
    Calls Tryd.prog 35 #[] w fun e w' => ∃ v0_ : Value, e = .returned (v0_) ∧ Kd.R k52 52 w' w.heap.size (fun _ => True) v0_ r ∧ Below w.heap.size w w' := by
  have hu52 := Tryd.underlying52
  have HB := Aside0.mk (Below.refl w.heap.size w)
  obtain rfl := Option.some.inj (show some jacquardref10_compared.xs = some r from h)
  clear h
  go_enter Tryd.func35, Tryd.ntmps35
  go_wp2_with (first | ((go_at_call 49); (with_reducible refine (vec_calls _ _ _ _ _).mono ?_); rintro e w1 ⟨rfl, hb⟩; have n0_ := Aside0.mk (below_step (by repeat (first | (with_reducible first | exact HB.out | apply bA|apply bN|apply bD) | exact HB.out)) hb); clear HB; have HB := n0_; clear n0_; clear hb) | ((with_reducible refine gate_dst (N := 14) rfl ?_); refine Kd.R_lit k52 _ 52 ?hg (N := 14) ?hd (xs := jacquardref10_compared.xs) (inner := jacquardref10_compared.xs.flatMap c52) (ok := fun _ => True) (okp := fun _ => True) ?hr ?hp (fun _ hk => hk) trivial (Below.refl _ _) (Nat.le_refl _) (of_decide_eq_true (by kernel_rfl)) ?_; (case hd => rfl); (case hg => rfl); (case hr => kernel_rfl); (case hp => exact reps52 _ _ _ _); intro v161 w1 ho2 hb hg_ hnew_; clear hg_ hnew_; have n0_ := Aside0.mk (Kd.R_lower ho2 (below_size (by repeat (first | (with_reducible first | exact HB.out | apply bA|apply bN|apply bD) | exact HB.out)))); have n1_ := Aside0.mk (below_step (by repeat (first | (with_reducible first | exact HB.out | apply bA|apply bN|apply bD) | exact HB.out)) hb); clear HB; have HO1 := n0_; have HB := n1_; clear n0_ n1_; clear hb ho2))
  go_ret
  exact ⟨_, by first | rfl | (simp [errW_none, errW_some] <;> rfl), by (with_reducible repeat (first | apply rA|apply rN|apply rD)); exact HO1.out, by repeat (first | (with_reducible first | exact HB.out | apply bA|apply bN|apply bD) | exact HB.out)⟩

end Go.Proofs.YtfbdmgdbamjjhaaDoor.P
