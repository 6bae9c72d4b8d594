import Derived.Test.YtobldeamemmokaaDoorPx0
import Derived.Test.YtobldeamemmokaaDoorGStr
namespace Go.Proofs.YtobldeamemmokaaDoor.P
open Go.Proofs.YtobldeamemmokaaDoorTabs
open Go.RowKit Go.Proofs.YtobldeamemmokaaDoorW.PrintWords Go.Proofs.YtobldeamemmokaaDoorW.PrintLast Go.Proofs.YtobldeamemmokaaDoorW.PrintMore
attribute [local go_sem] max2_int min2_int max_two min_two max_three min_three max_four min_four   -- for this text's walks alone
set_option linter.unusedVariables false
set_option linter.unusedSimpArgs false






/-! ### ops_word: function 83 -/
def ops_word.f (a0 : ByteArray) (a1 : Int) : Option (ByteArray) := (strings_Fields.f a0).bind fun t104 => (if (t104.length : Int) = 1 then (if 0 < (t104.length : Int) then (some (rdOf ByteArray.empty t104 0)) else (none)) else (if a1 < (t104.length : Int) then (if 0 ≤ a1 then (some (rdOf ByteArray.empty t104 a1)) else (none)) else (some (⟨#[]⟩ : ByteArray))))
set_option maxHeartbeats 8000000 in
set_option maxRecDepth 100000 in
theorem ops_word.calls (a0 : ByteArray) (a1 : Int) (r : ByteArray) (w : World) (hT : Go.Proofs.YtobldeamemmokaaDoorTabs.Tab w) (h : ops_word.f a0 a1 = some r) :
  Calls Tryd.prog 83 #[.string a0, .int .i64 a1] w fun e w' => e = .returned (.string r) ∧ Below w.heap.size w w' := by
 have HT := Aside0.mk hT
 clear hT
 have HB := Aside0.mk (Below.refl w.heap.size w)
 have H : ((strings_Fields.f a0).bind fun t104 => (if (t104.length : Int) = 1 then (if 0 < (t104.length : Int) then (some (rdOf ByteArray.empty t104 0)) else (none)) else (if a1 < (t104.length : Int) then (if 0 ≤ a1 then (some (rdOf ByteArray.empty t104 a1)) else (none)) else (some (⟨#[]⟩ : ByteArray))))) = some r := h
 clear h
 replace H := Option.bind_eq_some_iff.mp H
 obtain ⟨t104, A30, H⟩ := H
 replace H : (if (t104.length : Int) = 1 then (if 0 < (t104.length : Int) then (some (rdOf ByteArray.empty t104 0)) else (none)) else (if a1 < (t104.length : Int) then (if 0 ≤ a1 then (some (rdOf ByteArray.empty t104 a1)) else (none)) else (some (⟨#[]⟩ : ByteArray)))) = some r := H
 have A3 := Aside0.mk A30
 clear A30
 by_cases c4 : (t104.length : Int) = 1
 ·rw [if_pos c4] at H
  have c4b0 : ((t104.length : Int) == 1) = true := beq_iff_eq.mpr c4
  have c4b1 : ((t104.length : Int) != 1) = false := bne_eq_false_iff_eq.mpr c4
  clear c4
  by_cases c5 : 0 < (t104.length : Int)
  ·rw [if_pos c5] at H
   have c5b0 : decide (0 < (t104.length : Int)) = true := decide_eq_true c5
   have c5b1 : decide (0 < t104.length) = true := decide_eq_true (by omega)
   clear c5
   obtain rfl := Option.some.inj H
   go_enter Tryd.func83, Tryd.ntmps83
   go_wp2_with (first | ((with_reducible refine gate_callee (f := 89) rfl ?_); refine goesL_ (some 7) rfl rfl Tryd.func89 (by kernel_rfl) rfl #[.string a0] rfl (by (try simp only [List.map_toArray, List.map_cons, List.map_nil]); first | done | rfl | (simp only [List.length_drop, List.length_take]; rfl)) ?_; (with_reducible refine (strings_Fields.calls (hT := by first | exact HT.out | exact Go.Proofs.YtobldeamemmokaaDoorTabs.Tab.below HT.out (by repeat (first | (with_reducible first | exact HB.out | apply bA|apply bN|apply bD | refine below_set ?_ (Aside0.out (by assumption))) | exact HB.out)) | exact Go.Proofs.YtobldeamemmokaaDoorTabs.Tab.drawn HT.out (by repeat (first | exact Drawn0.refl _ | apply Drawn0.step))) a0 t104 _ A3.out).mono ?_); rintro e w6 ⟨v105, rfl, ho0, hb⟩; refine ⟨_, rfl, ?_⟩; have n0_ := Aside0.mk (Kd.R_lower ho0 (below_size (by repeat (first | (with_reducible first | exact HB.out | apply bA|apply bN|apply bD) | exact HB.out)))); have n1_ := Aside0.mk (below_step (by repeat (first | (with_reducible first | exact HB.out | apply bA|apply bN|apply bD) | exact HB.out)) hb); clear HB; have HO106 := n0_; have HB := n1_; clear n0_ n1_; (try clear hb); (try clear hb2); (try clear hk); (try clear hi); (try clear ho0); obtain ⟨Ao7, co7, eo7⟩ := Kd.R_slice HO106.out; subst eo7; have p107 : 0 ≤ (0 : Int) := (by omega); have q107 : 0 < (t104.length : Int) := of_decide_eq_true (by first | (with_reducible assumption) | assumption); obtain ⟨ad107, e107, hx107_0⟩ := Kd.at_string (Kd.R_reads' HO106.out).2.2 0 p107 q107; cases e107; have qi107 : (0 < t104.length) = True := eq_true (by omega); (try rw [show ((0 : Int)).toNat = 0 from rfl] at hx107_0); (try rw [Addr.add_zero'] at hx107_0); replace p107 := eq_true p107; replace q107 := eq_true q107))
   go_ret
   exact ⟨by first | rfl | (simp [errW_none, errW_some] <;> rfl) | (simp [*, errW_none, errW_some] <;> rfl), by repeat (first | (with_reducible first | exact HB.out | apply bA|apply bN|apply bD) | exact HB.out)⟩
  ·rw [if_neg c5] at H
   exact absurd H (by simp)
 ·rw [if_neg c4] at H
  have c4b0 : ((t104.length : Int) == 1) = false := beq_eq_false_iff_ne.mpr c4
  have c4b1 : ((t104.length : Int) != 1) = true := bne_iff_ne.mpr c4
  by_cases c8 : a1 < (t104.length : Int)
  ·rw [if_pos c8] at H
   have c8b0 : decide (a1 < (t104.length : Int)) = true := decide_eq_true c8
   clear c8
   by_cases c9 : 0 ≤ a1
   ·rw [if_pos c9] at H
    have c9b0 : decide (0 ≤ a1) = true := decide_eq_true c9
    clear c9
    obtain rfl := Option.some.inj H
    go_enter Tryd.func83, Tryd.ntmps83
    go_wp2_with (first | ((with_reducible refine gate_callee (f := 89) rfl ?_); refine goesL_ (some 7) rfl rfl Tryd.func89 (by kernel_rfl) rfl #[.string a0] rfl (by (try simp only [List.map_toArray, List.map_cons, List.map_nil]); first | done | rfl | (simp only [List.length_drop, List.length_take]; rfl)) ?_; (with_reducible refine (strings_Fields.calls (hT := by first | exact HT.out | exact Go.Proofs.YtobldeamemmokaaDoorTabs.Tab.below HT.out (by repeat (first | (with_reducible first | exact HB.out | apply bA|apply bN|apply bD | refine below_set ?_ (Aside0.out (by assumption))) | exact HB.out)) | exact Go.Proofs.YtobldeamemmokaaDoorTabs.Tab.drawn HT.out (by repeat (first | exact Drawn0.refl _ | apply Drawn0.step))) a0 t104 _ A3.out).mono ?_); rintro e w10 ⟨v105, rfl, ho0, hb⟩; refine ⟨_, rfl, ?_⟩; have n0_ := Aside0.mk (Kd.R_lower ho0 (below_size (by repeat (first | (with_reducible first | exact HB.out | apply bA|apply bN|apply bD) | exact HB.out)))); have n1_ := Aside0.mk (below_step (by repeat (first | (with_reducible first | exact HB.out | apply bA|apply bN|apply bD) | exact HB.out)) hb); clear HB; have HO106 := n0_; have HB := n1_; clear n0_ n1_; (try clear hb); (try clear hb2); (try clear hk); (try clear hi); (try clear ho0); obtain ⟨Ao11, co11, eo11⟩ := Kd.R_slice HO106.out; subst eo11; have p108 : 0 ≤ (a1 : Int) := of_decide_eq_true (by first | (with_reducible assumption) | assumption); have q108 : a1 < (t104.length : Int) := of_decide_eq_true (by first | (with_reducible assumption) | assumption); obtain ⟨ad108, e108, hx108_0⟩ := Kd.at_string (Kd.R_reads' HO106.out).2.2 a1 p108 q108; cases e108; replace p108 := eq_true p108; replace q108 := eq_true q108))
    go_ret
    exact ⟨by first | rfl | (simp [errW_none, errW_some] <;> rfl) | (simp [*, errW_none, errW_some] <;> rfl), by repeat (first | (with_reducible first | exact HB.out | apply bA|apply bN|apply bD) | exact HB.out)⟩
   ·rw [if_neg c9] at H
    exact absurd H (by simp)
  ·rw [if_neg c8] at H
   have c8b0 : decide (a1 < (t104.length : Int)) = false := decide_eq_false c8
   clear c8
   obtain rfl := Option.some.inj H
   go_enter Tryd.func83, Tryd.ntmps83
   go_wp2_with (first | ((with_reducible refine gate_callee (f := 89) rfl ?_); refine goesL_ (some 7) rfl rfl Tryd.func89 (by kernel_rfl) rfl #[.string a0] rfl (by (try simp only [List.map_toArray, List.map_cons, List.map_nil]); first | done | rfl | (simp only [List.length_drop, List.length_take]; rfl)) ?_; (with_reducible refine (strings_Fields.calls (hT := by first | exact HT.out | exact Go.Proofs.YtobldeamemmokaaDoorTabs.Tab.below HT.out (by repeat (first | (with_reducible first | exact HB.out | apply bA|apply bN|apply bD | refine below_set ?_ (Aside0.out (by assumption))) | exact HB.out)) | exact Go.Proofs.YtobldeamemmokaaDoorTabs.Tab.drawn HT.out (by repeat (first | exact Drawn0.refl _ | apply Drawn0.step))) a0 t104 _ A3.out).mono ?_); rintro e w12 ⟨v105, rfl, ho0, hb⟩; refine ⟨_, rfl, ?_⟩; have n0_ := Aside0.mk (Kd.R_lower ho0 (below_size (by repeat (first | (with_reducible first | exact HB.out | apply bA|apply bN|apply bD) | exact HB.out)))); have n1_ := Aside0.mk (below_step (by repeat (first | (with_reducible first | exact HB.out | apply bA|apply bN|apply bD) | exact HB.out)) hb); clear HB; have HO106 := n0_; have HB := n1_; clear n0_ n1_; (try clear hb); (try clear hb2); (try clear hk); (try clear hi); (try clear ho0); obtain ⟨Ao13, co13, eo13⟩ := Kd.R_slice HO106.out; subst eo13))
   go_ret
   exact ⟨by first | rfl | (simp [errW_none, errW_some] <;> rfl) | (simp [*, errW_none, errW_some] <;> rfl), by repeat (first | (with_reducible first | exact HB.out | apply bA|apply bN|apply bD) | exact HB.out)⟩






end Go.Proofs.YtobldeamemmokaaDoor.P

