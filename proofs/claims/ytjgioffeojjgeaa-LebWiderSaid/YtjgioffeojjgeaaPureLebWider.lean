/- What leb.U and leb.S read of one width they read of a greater one; for all inputs, no condition. -/
import Derived.Test.YtjgioffeojjgeaaPx4
import Derived.Test.YtjgioffeojjgeaaMg
namespace Go.Proofs.Ytjgioffeojjgeaa.Pure
open Go.RowKit Go.Proofs.Ytjgioffeojjgeaa.P Go.Proofs.YtjgioffeojjgeaaW.PrintWords Go.Proofs.YtjgioffeojjgeaaW.PrintLast Go.Proofs.Ytjgioffeojjgeaa.LebM

theorem LebWider : jacquardlaw01_LebWider.Pure := by
  intro l a w m _ hl hb _ hw hm
  have hB := bytes_wf hb
  obtain ⟨w0, w1⟩ := i64_wf hw
  obtain ⟨m0, m1⟩ := i64_wf hm
  obtain ⟨K5, h5⟩ := works_ev
  have short : ∀ k, K5 ≤ k → jacquardlaw01_LebWider.j0 (k + 1) l a w m true = some true := by
    intro k hk
    simp only [jacquardlaw01_LebWider.j0, h5 k hk, if_true, Option.bind_some]
  by_cases c1 : w < 1
  · exact ⟨K5 + 1, by simp only [jacquardlaw01_LebWider.f, if_pos c1]; exact short K5 (by omega)⟩
  by_cases c2 : w > 64
  · exact ⟨K5 + 1, by simp only [jacquardlaw01_LebWider.f, if_neg c1, if_pos c2]; exact short K5 (by omega)⟩
  by_cases c3 : m < 0
  · exact ⟨K5 + 1, by simp only [jacquardlaw01_LebWider.f, if_neg c1, if_neg c2, if_pos c3]; exact short K5 (by omega)⟩
  have e64 : wrap64 (64 - w) = 64 - w := w64 (by omega) (by omega)
  by_cases c4 : m > 64 - w
  · exact ⟨K5 + 1, by simp only [jacquardlaw01_LebWider.f, if_neg c1, if_neg c2, if_neg c3, e64, decide_eq_true c4]; exact short K5 (by omega)⟩
  have ew : wrap64 (w + m) = w + m := w64 (by omega) (by omega)
  obtain ⟨K1, h1⟩ := U_ev hB (by omega) a w
  obtain ⟨K2, h2⟩ := U_ev hB (by omega) a (w + m)
  obtain ⟨K3, h3⟩ := S_ev hB (by omega) a w
  obtain ⟨K4, h4⟩ := S_ev hB (by omega) a (w + m)
  obtain ⟨K, hK⟩ : ∃ K, K = K1 + K2 + K3 + K4 + K5 := ⟨_, rfl⟩
  refine ⟨K + 1, ?_⟩
  simp only [jacquardlaw01_LebWider.f, if_neg c1, if_neg c2, if_neg c3, e64, decide_eq_false c4, jacquardlaw01_LebWider.j0, ew, h1 K (by omega), h2 K (by omega), h3 K (by omega), h4 K (by omega), h5 K (by omega), Option.bind_some]
  have s1 : (Ss l a w).2.2 = 0 → (Ss l a (w + m)).2.2 = 0 ∧ (Ss l a w).1 = (Ss l a (w + m)).1 ∧ (Ss l a w).2.1 = (Ss l a (w + m)).2.1 := fun h => by
    rw [Ss_wider h (by omega) (by omega)]; exact ⟨h, rfl, rfl⟩
  have u1 : (Us l a w).2.2 = 0 → (Us l a (w + m)).2.2 = 0 ∧ (Us l a (w + m)).1 = (Us l a w).1 ∧ (Us l a (w + m)).2.1 = (Us l a w).2.1 := fun h => by
    rw [Us_wider h (by omega) (by omega)]; exact ⟨h, rfl, rfl⟩
  rw [if_neg (by decide)]
  by_cases hu : (Us l a w).2.2 = 0
  · obtain ⟨u2, u3, u4⟩ := u1 hu
    rw [if_pos hu, if_pos u2, if_pos u3, if_pos u4]
    by_cases hs : (Ss l a w).2.2 = 0
    · obtain ⟨s2, s3, s4⟩ := s1 hs
      rw [if_pos hs, if_pos s2, if_pos s3, if_pos s4]
    · rw [if_neg hs]
  · rw [if_neg hu]
    by_cases hs : (Ss l a w).2.2 = 0
    · obtain ⟨s2, s3, s4⟩ := s1 hs
      rw [if_pos hs, if_pos s2, if_pos s3, if_pos s4]
    · rw [if_neg hs]

end Go.Proofs.Ytjgioffeojjgeaa.Pure
