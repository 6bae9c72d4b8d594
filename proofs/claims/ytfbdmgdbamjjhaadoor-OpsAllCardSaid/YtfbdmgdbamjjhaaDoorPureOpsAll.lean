import Derived.Test.YtfbdmgdbamjjhaaDoorPx16
import Derived.Test.YtfbdmgdbamjjhaaDoorOe
namespace Go.Proofs.YtfbdmgdbamjjhaaDoor.Pure
open Go Go.Proofs Go.RowKit Go.Proofs.YtfbdmgdbamjjhaaDoor.P Go.Proofs.YtfbdmgdbamjjhaaDoor.Ops Go.Proofs.YtfbdmgdbamjjhaaDoorW.PrintWords
theorem take_mem {o i : Nat} (hi : i < 435) : o ∈ allN.take (i + 1) ↔ o ∈ allN.take i ∨ allN.getD i 0 = o := by
  have hl : i < allN.length := by rw [allN_len]; exact hi
  rw [List.take_succ_eq_append_getElem hl, List.mem_append, List.mem_singleton, List.getD_eq_getElem?_getD, List.getElem?_eq_getElem hl, Option.getD_some]
  exact ⟨fun h => h.imp id Eq.symm, fun h => h.imp id Eq.symm⟩
theorem all_l0 (o : Nat) (ho : o < 65536) : ∀ (n i : Nat), i + n = 435 → ∀ k, n + 401 ≤ k → ∀ x4 : Bool, (x4 = true ↔ o ∈ allN.take i) →
    jacquardlaw10_OpsAll.l0 k (o : Int) allI x4 (i : Int) = some true := by
  intro n
  induction n with
  | zero =>
    intro i hi k hk x4 hx
    obtain ⟨k, rfl⟩ : ∃ m, k = m + 1 := ⟨k - 1, by omega⟩
    simp only [jacquardlaw10_OpsAll.l0]
    rw [allI_len, if_neg (by omega), Of_k o ho k (by omega), Option.bind_some, if_pos (by rfl)]
    have h1 : x4 = true ↔ (tbl o).isSome = true := by
      rw [hx, ← mem_allN, List.take_of_length_le (by rw [allN_len]; omega)]
    have h2 : (x4 == ((ans (o : Int) (tbl o)).2.2.2.2.2.2.2 == 0)) = true := by
      cases h : tbl o with
      | none =>
        rw [h] at h1
        have : x4 = false := by cases x4 with | false => rfl | true => exact absurd (h1.1 rfl) (by decide)
        rw [this]; rfl
      | some r =>
        rw [h] at h1
        have : x4 = true := h1.2 rfl
        rw [this]; rfl
    rw [if_pos h2, works_k k (by omega)]
    rfl
  | succ n ih =>
    intro i hi k hk x4 hx
    obtain ⟨k, rfl⟩ : ∃ m, k = m + 1 := ⟨k - 1, by omega⟩
    have step : ∀ y : Bool, (y = true ↔ o ∈ allN.take (i + 1)) → jacquardlaw10_OpsAll.l0 k (o : Int) allI y (wrap64 ((i : Int) + 1)) = some true := by
      intro y hy
      rw [next hi]
      exact ih (i + 1) (by omega) k (by omega) y hy
    have hr := rd_all i (by omega)
    have fin : (if x4 = true then jacquardlaw10_OpsAll.l0 k (o : Int) allI true (wrap64 ((i : Int) + 1)) else jacquardlaw10_OpsAll.l0 k (o : Int) allI ((rd allI (i : Int)) == (o : Int)) (wrap64 ((i : Int) + 1))) = some true := by
      by_cases hx4 : x4 = true
      · rw [if_pos hx4]
        exact step true ⟨fun _ => (take_mem (by omega)).2 (Or.inl (hx.1 hx4)), fun _ => rfl⟩
      · rw [if_neg hx4]
        refine step _ ?_
        rw [hr, take_mem (by omega), beq_iff_eq]
        have : ¬ o ∈ allN.take i := fun h => hx4 (hx.2 h)
        constructor
        · intro h; exact Or.inr (by omega)
        · rintro (h | h)
          · exact absurd h this
          · rw [h]
    simp only [jacquardlaw10_OpsAll.l0]
    rw [allI_len, if_pos (by omega)]
    by_cases h0 : i = 0
    · subst h0
      rw [if_neg (by decide), if_pos (show (0 : Int) ≤ ((0 : Nat) : Int) by decide)]
      exact fin
    · have hp : wrap64 ((i : Int) - 1) = ((i - 1 : Nat) : Int) := by rw [w64 (by omega) (by omega)]; omega
      have hlt := of_decide_eq_true (all_range rises (i - 1) (by omega))
      rw [show i - 1 + 1 = i by omega] at hlt
      rw [hp, if_pos (by omega), if_pos (by omega), if_pos (by omega), if_pos (by omega), rd_all (i - 1) (by omega), hr, if_neg (by omega)]
      rw [← hr]
      exact fin
theorem OpsAll : jacquardlaw10_OpsAll.Pure := by
  intro a0 h0
  obtain ⟨o, ho, rfl⟩ := u16 h0
  refine ⟨1500, ?_⟩
  unfold jacquardlaw10_OpsAll.f
  rw [All_at, Option.bind_some]
  exact all_l0 o ho 435 0 (by omega) 1500 (by omega) false ⟨fun h => (by cases h), fun h => (by cases h)⟩
end Go.Proofs.YtfbdmgdbamjjhaaDoor.Pure
