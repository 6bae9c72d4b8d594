/- Where leb.U or leb.S reads a number, of whatever form, its short form is not longer, and the number fits the width; for all inputs, no condition. -/
import Derived.Test.YtjgioffeojjgeaaPx5
import Derived.Test.YtjgioffeojjgeaaMg
namespace Go.Proofs.Ytjgioffeojjgeaa.Pure
open Go.RowKit Go.Proofs.Ytjgioffeojjgeaa.P Go.Proofs.YtjgioffeojjgeaaW.PrintWords Go.Proofs.YtjgioffeojjgeaaW.PrintLast Go.Proofs.YtjgioffeojjgeaaW.PrintMore Go.Proofs.Ytjgioffeojjgeaa.LebM

theorem least_s {l : List Int} {a w : Int} (ha : a ≤ 9223372036854775807) (hs : (Ss l a w).2.2 = 0) :
    0 ≤ a ∧ a < (Ss l a w).2.1 ∧ (Ss l a w).2.1 ≤ l.length ∧ -9223372036854775808 ≤ (Ss l a w).1 ∧ (Ss l a w).1 ≤ 9223372036854775807 ∧ ((putS 9 (Ss l a w).1).length : Int) ≤ (Ss l a w).2.1 - a ∧
    1 ≤ w ∧ w ≤ 64 ∧ (shr .i64 (Ss l a w).1 (w - 1) = 0 ∨ shr .i64 (Ss l a w).1 (w - 1) = -1) := by
  obtain ⟨h1, h2, h3, h4, n, hc, hv, e⟩ := Ss_ok hs
  have hn := cnt_bd hc
  have hdg := turn_digits (neg (l.drop a.toNat) n) (dig_digits (l.drop a.toNat) n)
  have hlen0 : (dig (l.drop a.toNat) n).length = n := dig_length (by omega)
  have hlen : (turn (neg (l.drop a.toNat) n) (dig (l.drop a.toNat) n)).length = n := by rw [turn_length, hlen0]
  have h0 := val_nonneg hdg
  have hle : (2 : Int) ^ (w.toNat - 1) ≤ 2 ^ 63 := p2_le (by omega)
  have e63 : (2 : Int) ^ 63 = 9223372036854775808 := by decide
  have hp : (0 : Int) < 2 ^ (w.toNat - 1) := Int.pow_pos (by decide)
  have hlast : (turn (neg (l.drop a.toNat) n) (dig (l.drop a.toNat) n))[n - 1]'(by omega) < 64 := by
    rw [turn_get _ (by omega), dig_get (by omega) (by omega)]
    have : neg (l.drop a.toNat) n = decide (64 ≤ (l.drop a.toNat)[n - 1]'(by omega) % 128) := by
      unfold neg
      rw [List.getD_eq_getElem?_getD, List.getElem?_eq_getElem (by omega), Option.getD_some]
    rw [this]
    by_cases q : 64 ≤ (l.drop a.toNat)[n - 1]'(by omega) % 128
    · rw [if_pos (decide_eq_true q)]; omega
    · rw [if_neg (by simpa using q)]; omega
  have hshort := val_last hdg (n - 1) (by omega) hlast
  obtain ⟨v, hvv⟩ : ∃ v, v = val (turn (neg (l.drop a.toNat) n) (dig (l.drop a.toNat) n)) := ⟨_, rfl⟩
  rw [← hvv] at e hv h0 hshort
  simp only [List.length_drop] at hn
  rw [e]
  simp only
  have em : min (w - 1).toNat IntKind.i64.bits = w.toNat - 1 := by simp only [IntKind.bits]; omega
  refine ⟨h3, by omega, by omega, ?_, ?_, ?_, h1, h2, ?_⟩
  · unfold sgn; split <;> omega
  · unfold sgn; split <;> omega
  · have := putS_short 9 (sgn (neg (l.drop a.toNat) n) v) n (by unfold sgn; split <;> omega) (by unfold sgn; split <;> omega) (by omega)
    omega
  · unfold shr sgn
    rw [em]
    cases neg (l.drop a.toNat) n
    · exact .inl (Int.ediv_eq_zero_of_lt (by simpa using h0) (by simpa using hv))
    · right
      simp only [if_true]
      have q1 : (-v - 1) / 2 ^ (w.toNat - 1) < 0 := Int.ediv_neg_of_neg_of_pos (by omega) hp
      have q2 : -1 ≤ (-v - 1) / 2 ^ (w.toNat - 1) := (Int.le_ediv_iff_mul_le hp).2 (by omega)
      omega

theorem least_u {l : List Int} {a w : Int} (hs : (Us l a w).2.2 = 0) :
    0 ≤ a ∧ a < (Us l a w).2.1 ∧ (Us l a w).2.1 ≤ l.length ∧ 0 ≤ (Us l a w).1 ∧ (Us l a w).1 ≤ 18446744073709551615 ∧ ((putU 9 (Us l a w).1).length : Int) ≤ (Us l a w).2.1 - a ∧
    1 ≤ w ∧ w ≤ 64 ∧ (w < 64 → shr .u64 (Us l a w).1 w = 0) := by
  obtain ⟨h1, h2, h3, h4, n, hc, hv, e⟩ := Us_ok hs
  have hn := cnt_bd hc
  have hdg := dig_digits (l.drop a.toNat) n
  have hlen0 : (dig (l.drop a.toNat) n).length = n := dig_length (by omega)
  have h0 := val_nonneg hdg
  have hle : (2 : Int) ^ w.toNat ≤ 2 ^ 64 := p2_le (by omega)
  have e64 : (2 : Int) ^ 64 = 18446744073709551616 := by decide
  have hshort := val_lt hdg
  rw [hlen0] at hshort
  simp only [List.length_drop] at hn
  rw [e]
  simp only
  refine ⟨h3, by omega, by omega, h0, by omega, ?_, h1, h2, ?_⟩
  · have := putU_short 9 _ n h0 hshort (by omega)
    omega
  · intro hw
    have em : min w.toNat IntKind.u64.bits = w.toNat := by simp only [IntKind.bits]; omega
    unfold shr
    rw [em]
    exact Int.ediv_eq_zero_of_lt h0 hv

theorem LebLeast : jacquardlaw01_LebLeast.Pure := by
  intro l a w _ hl hb ha _
  have hB := bytes_wf hb
  obtain ⟨a0, a1⟩ := i64_wf ha
  obtain ⟨K1, h1⟩ := U_ev hB (by omega) a w
  obtain ⟨K2, h2⟩ := S_ev hB (by omega) a w
  obtain ⟨K5, h5⟩ := works_ev
  have fin : ∃ K, ∀ k, K ≤ k → jacquardlaw01_LebLeast.j0 k l a w (Ss l a w).1 (Ss l a w).2.1 (Ss l a w).2.2 false = some true := by
    by_cases hs : (Ss l a w).2.2 = 0
    · obtain ⟨q1, q2, q3, q4, q5, q6, q7, q8, q9⟩ := least_s (by omega) hs
      obtain ⟨K3, h3⟩ := PutS_ev q4 q5
      refine ⟨K3 + K5 + 1, fun k hk => ?_⟩
      obtain ⟨k, rfl⟩ : ∃ m, k = m + 1 := ⟨k - 1, by omega⟩
      have e1 : wrap64 ((Ss l a w).2.1 - a) = (Ss l a w).2.1 - a := w64 (by omega) (by omega)
      have e2 : IntKind.u64.wrap (wrap64 (w - 1)) = w - 1 := by rw [w64 (by omega) (by omega), u64w (by omega) (by omega)]
      simp only [jacquardlaw01_LebLeast.j0, h3 k (by omega), h5 k (by omega), Option.bind_some, e1, e2]
      rw [if_neg (by decide), if_pos hs, if_neg (by omega), if_neg (by omega), if_neg (by omega), if_neg (by omega), if_pos (by omega)]
      rcases q9 with q | q
      · rw [if_pos q]
      · rw [if_neg (by omega), if_pos q]
    · refine ⟨K5 + 1, fun k hk => ?_⟩
      obtain ⟨k, rfl⟩ : ∃ m, k = m + 1 := ⟨k - 1, by omega⟩
      simp only [jacquardlaw01_LebLeast.j0, h5 k (by omega), Option.bind_some]
      rw [if_neg (by decide), if_neg hs]
  obtain ⟨K4, h4⟩ := fin
  by_cases hu : (Us l a w).2.2 = 0
  · obtain ⟨q1, q2, q3, q4, q5, q6, q7, q8, q9⟩ := least_u hu
    obtain ⟨K3, h3⟩ := PutU_ev q4 q5
    obtain ⟨K, hK⟩ : ∃ K, K = K1 + K2 + K3 + K4 + K5 := ⟨_, rfl⟩
    refine ⟨K, ?_⟩
    have e1 : wrap64 ((Us l a w).2.1 - a) = (Us l a w).2.1 - a := w64 (by omega) (by omega)
    have e2 : IntKind.u64.wrap w = w := u64w (by omega) (by omega)
    simp only [jacquardlaw01_LebLeast.f, h1 K (by omega), h2 K (by omega), h3 K (by omega), Option.bind_some, e1, e2]
    rw [if_pos hu, if_neg (by omega), if_neg (by omega), if_neg (by omega), if_neg (by omega)]
    by_cases hw : w < 64
    · have : (shr .u64 (Us l a w).1 w != 0) = false := by rw [q9 hw]; rfl
      rw [if_pos hw, if_pos (by omega), this]
      exact h4 K (by omega)
    · rw [if_neg hw]
      exact h4 K (by omega)
  · obtain ⟨K, hK⟩ : ∃ K, K = K1 + K2 + K4 + K5 := ⟨_, rfl⟩
    refine ⟨K, ?_⟩
    simp only [jacquardlaw01_LebLeast.f, h1 K (by omega), h2 K (by omega), Option.bind_some]
    rw [if_neg hu]
    exact h4 K (by omega)

end Go.Proofs.Ytjgioffeojjgeaa.Pure
