/- A form whose last byte has no bit 40 is read as one number, unsigned and, of a width greater by one, signed; for all inputs, no condition. -/
import Derived.Test.YtjgioffeojjgeaaPx3
import Derived.Test.YtjgioffeojjgeaaMg
namespace Go.Proofs.Ytjgioffeojjgeaa.Pure
open Go.RowKit Go.Proofs.Ytjgioffeojjgeaa.P Go.Proofs.YtjgioffeojjgeaaW.PrintWords Go.Proofs.YtjgioffeojjgeaaW.PrintLast Go.Proofs.Ytjgioffeojjgeaa.LebM

theorem LebSame : jacquardlaw01_LebSame.Pure := by
  intro l a w _ hl hb _ hw
  have hB := bytes_wf hb
  obtain ⟨w0, w1⟩ := i64_wf hw
  obtain ⟨K5, h5⟩ := works_ev
  have short : ∀ k, K5 ≤ k → jacquardlaw01_LebSame.j0 (k + 1) l a w true = some true := by
    intro k hk
    simp only [jacquardlaw01_LebSame.j0, h5 k hk, if_true, Option.bind_some]
  by_cases c1 : w < 1
  · exact ⟨K5 + 1, by simp only [jacquardlaw01_LebSame.f, if_pos c1]; exact short K5 (by omega)⟩
  by_cases c2 : w > 63
  · exact ⟨K5 + 1, by simp only [jacquardlaw01_LebSame.f, if_neg c1, decide_eq_true c2]; exact short K5 (by omega)⟩
  obtain ⟨K1, h1⟩ := U_ev hB (by omega) a w
  obtain ⟨K2, h2⟩ := S_ev hB (by omega) a (w + 1)
  have ew : wrap64 (w + 1) = w + 1 := w64 (by omega) (by omega)
  obtain ⟨K, hK⟩ : ∃ K, K = K1 + K2 + K5 := ⟨_, rfl⟩
  refine ⟨K + 2, ?_⟩
  simp only [jacquardlaw01_LebSame.f, if_neg c1, decide_eq_false c2, jacquardlaw01_LebSame.j0, h1 (K + 1) (by omega), h5 (K + 1) (by omega), Option.bind_some]
  rw [if_neg (by decide)]
  by_cases hu : (Us l a w).2.2 = 0
  · obtain ⟨q1, q2, q3, q4, n, hc, hv, e⟩ := Us_ok hu
    have hn := cnt_bd hc
    simp only [List.length_drop] at hn
    obtain ⟨p, rfl⟩ := Int.eq_ofNat_of_zero_le q3
    simp only [Int.toNat_natCast] at hc hv e hn
    rw [e]
    have hlast : p + (n - 1) < l.length := by omega
    have hcb := hB l[p + (n - 1)] (List.getElem_mem _)
    have e1 : wrap64 ((p : Int) + n - 1) = ((p + (n - 1) : Nat) : Int) := by rw [w64 (by omega) (by omega)]; omega
    have hd : decide ((p : Int) + n > (l.length : Int)) = false := decide_eq_false (by omega)
    simp only [if_true]
    rw [if_neg (by omega), hd]
    simp only [jacquardlaw01_LebSame.j1, e1, ew, h5 K (by omega), h2 K (by omega), Option.bind_some]
    rw [if_neg (by decide), if_pos (by omega), if_pos (by omega), rd_get hlast, and64 hcb.1 hcb.2]
    by_cases hs : l[p + (n - 1)] % 128 < 64
    · have hng : neg (l.drop p) n = false := by
        unfold neg
        have : (l.drop p).getD (n - 1) 0 = l[p + (n - 1)] := by simp [hlast]
        rw [this]; exact decide_eq_false (by omega)
      have := Ss_same (l := l) (a := (p : Int)) (w := w) (n := n) (by omega) (by omega) q3 q4 (by simpa using hc) (by simpa using hv) (by simpa using hng)
      simp only [Int.toNat_natCast] at this
      have hv0 := val_nonneg (dig_digits (l.drop p) n)
      have hle : (2 : Int) ^ w.toNat ≤ 2 ^ 64 := p2_le (by omega)
      have e64 : (2 : Int) ^ 64 = 18446744073709551616 := by decide
      rw [this, if_pos hs]
      simp only [if_true]
      rw [if_pos (by omega), u64w hv0 (by omega)]
      simp
    · rw [if_neg hs]; simp
  · rw [if_neg hu]

end Go.Proofs.Ytjgioffeojjgeaa.Pure
