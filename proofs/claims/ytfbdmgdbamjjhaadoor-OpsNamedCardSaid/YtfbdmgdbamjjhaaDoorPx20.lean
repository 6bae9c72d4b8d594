-- Printed by a program of this session (wip/patch-print.py over the kit's print): Lean checks it.
import Derived.Test.YtfbdmgdbamjjhaaDoorPx0
import Derived.Test.YtfbdmgdbamjjhaaDoorPx11
import Derived.Test.YtfbdmgdbamjjhaaDoorPx18
import Derived.Test.YtfbdmgdbamjjhaaDoorPx19
namespace Go.Proofs.YtfbdmgdbamjjhaaDoor.P
open Go.Proofs.YtfbdmgdbamjjhaaDoorTabs
open Go.Proofs.YtfbdmgdbamjjhaaDoorCaps
open Go.RowKit Go.Proofs.YtfbdmgdbamjjhaaDoorW.PrintWords Go.Proofs.YtfbdmgdbamjjhaaDoorW.PrintLast Go.Proofs.YtfbdmgdbamjjhaaDoorW.PrintMore
attribute [local go_sem] max2_int min2_int max_two min_two max_three min_three max_four min_four   -- for this text's walks alone
set_option linter.unusedVariables false
set_option linter.unusedSimpArgs false

/-! ### jacquardlaw10_OpsNamed: function 9 -/
def jacquardlaw10_OpsNamed.f (k : Nat) (a0 : ByteArray) : Option (Bool) := (ops_Named.f k a0).bind fun bt982 => ((jacquardref10_Named.f k a0).bind fun bt984 => (if bt982.1 = bt984.1 then (if bt982.2 = bt984.2 then ((jacquardlaw10_works.f k).bind fun t986 => (some t986)) else (some false)) else (some false)))
theorem jacquardlaw10_OpsNamed.mono : ∀ a0 k, LeO (jacquardlaw10_OpsNamed.f k a0) (jacquardlaw10_OpsNamed.f (k + 1) a0) := by
  intro a0 k
  unfold jacquardlaw10_OpsNamed.f
  repeat' first
      | (with_reducible exact jacquardlaw10_works.mono _)
      | (with_reducible exact jacquardref10_Named.mono _ _)
      | (with_reducible exact ops_Named.mono _ _)
      | (with_reducible exact LeO.refl _)
      | (with_reducible exact LeO.none _)
      | (with_reducible refine LeO.ite ?_ ?_)
      | (with_reducible refine LeO.bind ?_ (fun _ => ?_))
      | exact jacquardlaw10_works.mono _
      | exact jacquardref10_Named.mono _ _
      | exact ops_Named.mono _ _
      | exact LeO.none _
      | refine LeO.ite ?_ ?_
      | refine LeO.bind ?_ (fun _ => ?_)
set_option maxHeartbeats 8000000 in
set_option maxRecDepth 100000 in
theorem jacquardlaw10_OpsNamed.calls (k : Nat) (a0 : ByteArray) (w : World) (hT : Go.Proofs.YtfbdmgdbamjjhaaDoorTabs.Tab w) (h : jacquardlaw10_OpsNamed.f k a0 = some true) :
    Calls Tryd.prog 9 #[.string a0] w fun e w' => e = .returned (.bool true) ∧ Below w.heap.size w w' := by
  have HT := Aside0.mk hT
  clear hT
  have HB := Aside0.mk (Below.refl w.heap.size w)
  have H : ((ops_Named.f k a0).bind fun bt982 => ((jacquardref10_Named.f k a0).bind fun bt984 => (if bt982.1 = bt984.1 then (if bt982.2 = bt984.2 then ((jacquardlaw10_works.f k).bind fun t986 => (some t986)) else (some false)) else (some false)))) = some true := h
  clear h
  replace H := Option.bind_eq_some_iff.mp H
  obtain ⟨⟨t982, t983⟩, A20, H⟩ := H
  replace H : ((jacquardref10_Named.f k a0).bind fun bt984 => (if t982 = bt984.1 then (if t983 = bt984.2 then ((jacquardlaw10_works.f k).bind fun t986 => (some t986)) else (some false)) else (some false))) = some true := H
  have A2 := Aside0.mk A20
  clear A20
  replace H := Option.bind_eq_some_iff.mp H
  obtain ⟨⟨t984, t985⟩, A30, H⟩ := H
  replace H : (if t982 = t984 then (if t983 = t985 then ((jacquardlaw10_works.f k).bind fun t986 => (some t986)) else (some false)) else (some false)) = some true := H
  have A3 := Aside0.mk A30
  clear A30
  by_cases c4 : t982 = t984
  · rw [if_pos c4] at H
    have c4b0 : (t982 == t984) = true := beq_iff_eq.mpr c4
    have c4b1 : (t982 != t984) = false := bne_eq_false_iff_eq.mpr c4
    clear c4
    by_cases c5 : t983 = t985
    · rw [if_pos c5] at H
      have c5b0 : (t983 == t985) = true := beq_iff_eq.mpr c5
      have c5b1 : (t983 != t985) = false := bne_eq_false_iff_eq.mpr c5
      clear c5
      replace H := Option.bind_eq_some_iff.mp H
      obtain ⟨t986, A60, H⟩ := H
      replace H : (some t986) = some true := H
      have A6 := Aside0.mk A60
      clear A60
      replace H := Option.some.inj H
      go_enter Tryd.func9, Tryd.ntmps9
      go_wp2_with (first | ((with_reducible refine gate_callee (f := 16) rfl ?_); refine goesL_ (some 9) rfl rfl Tryd.func16 (by kernel_rfl) rfl #[.string a0] rfl (by (try simp only [List.map_toArray, List.map_cons, List.map_nil]); first | done | rfl | (simp only [List.length_drop, List.length_take]; rfl)) ?_; (with_reducible refine (ops_Named.calls (hT := by first | exact HT.out | exact Go.Proofs.YtfbdmgdbamjjhaaDoorTabs.Tab.below HT.out (by repeat (first | (with_reducible first | exact HB.out | apply bA|apply bN|apply bD | refine below_set ?_ (Aside0.out (by assumption))) | exact HB.out)) | exact Go.Proofs.YtfbdmgdbamjjhaaDoorTabs.Tab.drawn HT.out (by repeat (first | exact Drawn0.refl _ | apply Drawn0.step))) k a0 t982 t983 _ A2.out).mono ?_); rintro e w7 ⟨rfl, hb⟩; refine ⟨_, rfl, ?_⟩; have n0_ := Aside0.mk (below_step (by repeat (first | (with_reducible first | exact HB.out | apply bA|apply bN|apply bD) | exact HB.out)) hb); clear HB; have HB := n0_; clear n0_; (try clear hb); (try clear hb2); (try clear hk); (try clear hi)) | ((with_reducible refine gate_callee (f := 17) rfl ?_); refine goesL_ (some 14) rfl rfl Tryd.func17 (by kernel_rfl) rfl #[.string a0] rfl (by (try simp only [List.map_toArray, List.map_cons, List.map_nil]); first | done | rfl | (simp only [List.length_drop, List.length_take]; rfl)) ?_; (with_reducible refine (jacquardref10_Named.calls k a0 t984 t985 _ A3.out).mono ?_); rintro e w8 ⟨rfl, hb⟩; refine ⟨_, rfl, ?_⟩; have n0_ := Aside0.mk (below_step (by repeat (first | (with_reducible first | exact HB.out | apply bA|apply bN|apply bD) | exact HB.out)) hb); clear HB; have HB := n0_; clear n0_; (try clear hb); (try clear hb2); (try clear hk); (try clear hi)) | (go_at_call 14; (with_reducible refine (jacquardlaw10_works.calls (hT := by first | exact HT.out | exact Go.Proofs.YtfbdmgdbamjjhaaDoorTabs.Tab.below HT.out (by repeat (first | (with_reducible first | exact HB.out | apply bA|apply bN|apply bD | refine below_set ?_ (Aside0.out (by assumption))) | exact HB.out)) | exact Go.Proofs.YtfbdmgdbamjjhaaDoorTabs.Tab.drawn HT.out (by repeat (first | exact Drawn0.refl _ | apply Drawn0.step))) k  t986 _ A6.out).mono ?_); rintro e w9 ⟨rfl, hb⟩; have n0_ := Aside0.mk (below_step (by repeat (first | (with_reducible first | exact HB.out | apply bA|apply bN|apply bD) | exact HB.out)) hb); clear HB; have HB := n0_; clear n0_; (try clear hb); (try clear hb2); (try clear hk); (try clear hi)))
      go_ret
      exact ⟨by first | rfl | (simp [errW_none, errW_some] <;> rfl) | (simp [*, errW_none, errW_some] <;> rfl), by repeat (first | (with_reducible first | exact HB.out | apply bA|apply bN|apply bD) | exact HB.out)⟩
    · rw [if_neg c5] at H
      have c5b0 : (t983 == t985) = false := beq_eq_false_iff_ne.mpr c5
      have c5b1 : (t983 != t985) = true := bne_iff_ne.mpr c5
      exact absurd H (by simp)
  · rw [if_neg c4] at H
    have c4b0 : (t982 == t984) = false := beq_eq_false_iff_ne.mpr c4
    have c4b1 : (t982 != t984) = true := bne_iff_ne.mpr c4
    exact absurd H (by simp)

/-- THE ONE PURE STATEMENT of jacquardlaw10_OpsNamed: yours. -/
def jacquardlaw10_OpsNamed.Pure : Prop := ∀ (a0 : ByteArray), a0.size ≤ 140737488351232 → ∃ k, jacquardlaw10_OpsNamed.f k a0 = some true
theorem jacquardlaw10_OpsNamed.walk (P : jacquardlaw10_OpsNamed.Pure) (a0 : ByteArray) (w : World) (hT : Go.Proofs.YtfbdmgdbamjjhaaDoorTabs.Tab w) (w0 : a0.size ≤ 140737488351232) :
    Calls Tryd.prog 9 #[.string a0] w fun e w' => e = .returned (.bool true) ∧ Below w.heap.size w w' := by
  have HT := Aside0.mk hT
  clear hT
  obtain ⟨k, h⟩ := P a0 w0
  refine (jacquardlaw10_OpsNamed.calls (hT := by first | exact HT.out | exact Go.Proofs.YtfbdmgdbamjjhaaDoorTabs.Tab.below HT.out (by repeat (first | (with_reducible first | exact HB.out | apply bA|apply bN|apply bD | refine below_set ?_ (Aside0.out (by assumption))) | exact HB.out)) | exact Go.Proofs.YtfbdmgdbamjjhaaDoorTabs.Tab.drawn HT.out (by repeat (first | exact Drawn0.refl _ | apply Drawn0.step))) k a0 w h).mono ?_
  rintro e w' ⟨rfl, hd⟩
  exact ⟨rfl, hd⟩

end Go.Proofs.YtfbdmgdbamjjhaaDoor.P
