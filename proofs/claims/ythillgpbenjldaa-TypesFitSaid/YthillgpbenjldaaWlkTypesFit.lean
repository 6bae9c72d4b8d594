/- The walk of the law TypesFit: out of its printed contract; fitting is an order. -/
import Derived.Test.YthillgpbenjldaaStmTypesFit
import Derived.Test.YthillgpbenjldaaPx9
import Derived.Test.YthillgpbenjldaaNc
namespace Go.Proofs.Ythillgpbenjldaa.Wlk
open Go.RowKit Go.Proofs.Ythillgpbenjldaa.P Go.Proofs.YthillgpbenjldaaW.PrintWords Go.Proofs.YthillgpbenjldaaW.PrintLast Go.Proofs.Ythillgpbenjldaa.LebM

theorem TypesFit : Stm.TypesFit := by
  intro e a b c e' a' b' c' e'' a'' b'' c'' w _ _ _ _ _ _ _ _ _
  obtain ⟨K4, h4⟩ := works_ev
  obtain ⟨K5, h5⟩ := same_ev (x := []) (y := []) (x' := []) (y' := []) (by simp) (by simp)
  obtain ⟨K, hK⟩ : ∃ K, K = K4 + K5 := ⟨_, rfl⟩
  have e4 : jacquardlaw09_works.f K = some true := h4 _ (by omega)
  have e5 : types_Same.f (K + 2) [] [] [] [] = some true := h5 _ (by omega)
  have h : jacquardlaw09_TypesFit.f (K + 2) e a b c e' a' b' c' e'' a'' b'' c'' = some true := by
    have hr : FitT e a b c e a b c = true := by simp [FitT, Fit_refl]
    simp only [jacquardlaw09_TypesFit.f, fit_eq, fitTable_eq, e5, Fit_refl, hr, Option.bind_some, if_true, Bool.not_true, jacquardlaw09_TypesFit.j0]
    rw [if_neg (by decide)]
    have j1 : ∀ q, q = false → jacquardlaw09_TypesFit.j1 (K + 1) q e a b c e' a' b' c' e'' a'' b'' c'' = some true := by
      intro q hq
      subst hq
      have e4' : jacquardlaw09_works.f K = some true := e4
      simp only [jacquardlaw09_TypesFit.j1, fitTable_eq, e4', Option.bind_some]
      rw [if_neg (by decide)]
      by_cases p1 : FitT e a b c e' a' b' c' = true
      · rw [if_pos p1]
        by_cases p2 : FitT e' a' b' c' e'' a'' b'' c'' = true
        · rw [if_pos p2]
          have : FitT e a b c e'' a'' b'' c'' = true := by
            unfold FitT at *
            simp only [Bool.and_eq_true, decide_eq_true_eq] at *
            exact ⟨p1.1.trans p2.1, Fit_trans p1.2 p2.2⟩
          rw [if_pos this]
        · rw [if_neg p2]
      · rw [if_neg p1]
    by_cases p1 : Fit a b c a' b' c' = true
    · rw [if_pos p1]
      by_cases p2 : Fit a' b' c' a'' b'' c'' = true
      · rw [if_pos p2]
        exact j1 _ (by rw [Fit_trans p1 p2]; rfl)
      · rw [if_neg p2]; exact j1 _ rfl
    · rw [if_neg p1]; exact j1 _ rfl
  refine (jacquardlaw09_TypesFit.calls (K + 2) e a b c e' a' b' c' e'' a'' b'' c'' true w h).mono ?_
  rintro e w' ⟨rfl, hd⟩
  exact ⟨rfl, hd⟩
end Go.Proofs.Ythillgpbenjldaa.Wlk
