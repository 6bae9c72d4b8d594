import Derived.Test.YtfbdmgdbamjjhaaDoorOc
import Derived.Test.YtfbdmgdbamjjhaaDoorPx10
/-! An answer is the same as itself. -/
namespace Go.Proofs.YtfbdmgdbamjjhaaDoor.Ops
open Go Go.Proofs Go.RowKit Go.Proofs.YtfbdmgdbamjjhaaDoor.P Go.Proofs.YtfbdmgdbamjjhaaDoorW.PrintWords
set_option maxRecDepth 100000
theorem types_self (l : List Int) (hl : l.length < 1000) : ∀ (n i : Nat), i + n = l.length → ∀ k, n < k → jacquardref00_Types.l0 k l l (i : Int) = some true := by
  intro n
  induction n with
  | zero =>
    intro i hi k hk
    obtain ⟨k, rfl⟩ : ∃ m, k = m + 1 := ⟨k - 1, by omega⟩
    simp only [jacquardref00_Types.l0]
    rw [if_neg (by omega)]
  | succ n ih =>
    intro i hi k hk
    obtain ⟨k, rfl⟩ : ∃ m, k = m + 1 := ⟨k - 1, by omega⟩
    simp only [jacquardref00_Types.l0]
    rw [if_pos (by omega), if_pos (by omega), if_pos (by omega), if_pos trivial, show wrap64 ((i : Int) + 1) = ((i + 1 : Nat) : Int) by rw [w64 (by omega) (by omega)]; omega]
    exact ih (i + 1) (by omega) k (by omega)
theorem types_f (l : List Int) (hl : l.length < 1000) (k : Nat) (hk : 1000 ≤ k) : jacquardref00_Types.f k l l = some true := by
  unfold jacquardref00_Types.f
  rw [if_pos rfl]
  exact types_self l hl l.length 0 (by omega) k (by omega)
theorem info_self (A : Ans) (hf : A.2.2.2.1.length < 1000) (ht : A.2.2.2.2.1.length < 1000) (k : Nat) (hk : 1000 ≤ k) :
    jacquardref00_Info.f k A.1 A.2.1 A.2.2.1 A.2.2.2.1 A.2.2.2.2.1 A.2.2.2.2.2.1 A.2.2.2.2.2.2.1 A.1 A.2.1 A.2.2.1 A.2.2.2.1 A.2.2.2.2.1 A.2.2.2.2.2.1 A.2.2.2.2.2.2.1 = some true := by
  unfold jacquardref00_Info.f
  rw [if_pos rfl, if_pos rfl, if_pos rfl, types_f _ hf k hk, Option.bind_some, if_pos rfl, types_f _ ht k hk, Option.bind_some, if_pos rfl, if_pos rfl, beq_self_eq_true]
theorem small : ((List.range 256).all fun o => match tbl o with | some r => decide (r.2.2.1.length < 1000) && decide (r.2.2.2.1.length < 1000) | none => true) = true ∧ ((List.range 18).all fun o => match tbl (o + 64512) with | some r => decide (r.2.2.1.length < 1000) && decide (r.2.2.2.1.length < 1000) | none => true) = true ∧ ((List.range 256).all fun o => match tbl (o + 64768) with | some r => decide (r.2.2.1.length < 1000) && decide (r.2.2.2.1.length < 1000) | none => true) = true := by decide +kernel
theorem ans_small (o : Nat) : (ans (o : Int) (tbl o)).2.2.2.1.length < 1000 ∧ (ans (o : Int) (tbl o)).2.2.2.2.1.length < 1000 := by
  cases h : tbl o with
  | none => exact ⟨show 0 < 1000 by decide, show 0 < 1000 by decide⟩
  | some r =>
    have h1 : (match tbl o with | some r => decide (r.2.2.1.length < 1000) && decide (r.2.2.2.1.length < 1000) | none => true) = true := by
      rcases tbl_some h with h0 | h0 | h0
      · exact all_range small.1 o h0
      · have := all_range small.2.1 (o - 64512) (by omega)
        rwa [show o - 64512 + 64512 = o by omega] at this
      · have := all_range small.2.2 (o - 64768) (by omega)
        rwa [show o - 64768 + 64768 = o by omega] at this
    rw [h] at h1
    obtain ⟨h2, h3⟩ := Bool.and_eq_true_iff.1 h1
    obtain ⟨n, m, f, t, b, p⟩ := r
    exact ⟨of_decide_eq_true h2, of_decide_eq_true h3⟩
end Go.Proofs.YtfbdmgdbamjjhaaDoor.Ops
