/- Of each of the seven types the zero is a value, and of no other byte; for all inputs, no condition. -/
import Derived.Test.YthillgpbenjldaaPx8
import Derived.Test.YthillgpbenjldaaNc
namespace Go.Proofs.Ythillgpbenjldaa.Pure
open Go.RowKit Go.Proofs.Ythillgpbenjldaa.P Go.Proofs.YthillgpbenjldaaW.PrintWords Go.Proofs.YthillgpbenjldaaW.PrintLast Go.Proofs.Ythillgpbenjldaa.LebM

theorem TypesZeros : jacquardlaw09_TypesZeros.Pure := by
  intro t lo hi ht hlo hhi
  obtain ⟨l0, _⟩ := u64_wf hlo
  obtain ⟨K4, h4⟩ := works_ev
  have e4 : jacquardlaw09_works.f (K4 + 2) = some true := h4 _ (by omega)
  have z : ∀ q, isT t = q → jacquardlaw09_TypesZeros.j0 (K4 + 3) t lo hi q = some true := by
    intro q hq
    simp only [jacquardlaw09_TypesZeros.j0, is_eq, types_Zero.f, has_eq K4 _ _ (Int.le_refl 0), has_eq K4 _ _ l0, e4, Option.bind_some, hq]
    have hz : Hs t 0 0 = q := by
      subst hq
      unfold Hs isT
      by_cases h1 : t = 123 <;> by_cases h2 : t = 127 <;> by_cases h3 : t = 125 <;> by_cases h5 : t = 126 <;> by_cases h6 : t = 124 <;> by_cases h7 : t = 112 <;> by_cases h8 : t = 111 <;> simp_all
    have hv : Hs t lo hi = true → q = true ∧ (hi = 0 ∨ t = 123) := by
      subst hq
      unfold Hs isT
      by_cases h1 : t = 123 <;> by_cases h2 : t = 127 <;> by_cases h3 : t = 125 <;> by_cases h5 : t = 126 <;> by_cases h6 : t = 124 <;> by_cases h7 : t = 112 <;> by_cases h8 : t = 111 <;> simp_all
    rw [hz]
    simp only [beq_self_eq_true, if_true]
    by_cases hh : Hs t lo hi = true
    · obtain ⟨a, b⟩ := hv hh
      rw [if_pos hh, if_pos a]
      rcases b with b | b
      · rw [if_pos b]
      · by_cases c : hi = 0
        · rw [if_pos c]
        · rw [if_neg c, if_pos b]
    · rw [if_neg hh]
  refine ⟨K4 + 3, ?_⟩
  unfold jacquardlaw09_TypesZeros.f
  by_cases h1 : t = 127
  · rw [if_pos h1]; exact z _ (by simp [isT, h1])
  rw [if_neg h1]
  by_cases h2 : t = 126
  · rw [if_pos h2]; exact z _ (by simp [isT, h2])
  rw [if_neg h2]
  by_cases h3 : t = 125
  · rw [if_pos h3]; exact z _ (by simp [isT, h3])
  rw [if_neg h3]
  by_cases h4 : t = 124
  · rw [if_pos h4]; exact z _ (by simp [isT, h4])
  rw [if_neg h4]
  by_cases h5 : t = 123
  · rw [if_pos h5]; exact z _ (by simp [isT, h5])
  rw [if_neg h5]
  by_cases h6 : t = 112
  · rw [if_pos h6]; exact z _ (by simp [isT, h6])
  rw [if_neg h6]
  exact z _ (by
    have e1 : (t == 127) = false := by simpa using h1
    have e2 : (t == 126) = false := by simpa using h2
    have e3 : (t == 125) = false := by simpa using h3
    have e4 : (t == 124) = false := by simpa using h4
    have e5 : (t == 123) = false := by simpa using h5
    have e6 : (t == 112) = false := by simpa using h6
    simp [isT, e1, e2, e3, e4, e5, e6])

end Go.Proofs.Ythillgpbenjldaa.Pure
