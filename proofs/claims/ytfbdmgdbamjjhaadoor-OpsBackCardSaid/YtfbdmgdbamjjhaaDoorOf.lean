import Derived.Test.YtfbdmgdbamjjhaaDoorOe
import Derived.Test.YtfbdmgdbamjjhaaDoorPx18
/-! ops.Named of whatever name. -/
namespace Go.Proofs.YtfbdmgdbamjjhaaDoor.Ops
open Go Go.Proofs Go.RowKit Go.Proofs.YtfbdmgdbamjjhaaDoor.P Go.Proofs.YtfbdmgdbamjjhaaDoorW.PrintWords
theorem getD_last {i : Nat} (hi : i < 435) : allN.drop i = allN.getD i 0 :: allN.drop (i + 1) := by
  have hl : i < allN.length := by rw [allN_len]; exact hi
  rw [List.drop_eq_getElem_cons hl, List.getD_eq_getElem?_getD, List.getElem?_eq_getElem hl, Option.getD_some]
theorem named_step (a : ByteArray) (k i : Nat) (hi : i < 435) (hk : 400 ≤ k) : ops_Named.l0 (k + 1) a allI 435 (i : Int) =
    if nm (allN.getD i 0) = a then some (((allN.getD i 0 : Nat) : Int), 0) else ops_Named.l0 k a allI 435 ((i + 1 : Nat) : Int) := by
  obtain ⟨bt, h1, h2⟩ := look_at (getD_mem (l := allN) (i := i) (by rw [allN_len]; exact hi)) k hk
  simp only [ops_Named.l0]
  rw [allI_len, if_pos (by omega), if_pos (by omega), if_pos (by omega), rd_all i hi, h1, Option.bind_some, h2]
  by_cases h : nm (allN.getD i 0) = a
  · rw [if_pos h, if_pos (congrArg ByteArray.toList h)]
  · rw [if_neg h, if_neg (fun e => h (tl_inj e)), show wrap64 ((i : Int) + 1) = ((i + 1 : Nat) : Int) by rw [w64 (by omega) (by omega)]; omega]
theorem named_hit (a : ByteArray) (o : Nat) (ho : o ∈ allN) (ha : nm o = a) : ∀ (n i : Nat), i + n = 435 → o ∈ allN.drop i → ∀ k, n + 401 ≤ k → ops_Named.l0 k a allI 435 (i : Int) = some ((o : Int), 0) := by
  intro n
  induction n with
  | zero =>
    intro i hi hm
    rw [List.drop_eq_nil_of_le (by rw [allN_len]; omega)] at hm
    cases hm
  | succ n ih =>
    intro i hi hm k hk
    obtain ⟨k, rfl⟩ : ∃ m, k = m + 1 := ⟨k - 1, by omega⟩
    rw [named_step a k i (by omega) (by omega)]
    by_cases h : nm (allN.getD i 0) = a
    · rw [if_pos h, nm_inj (getD_mem (l := allN) (i := i) (by rw [allN_len]; omega)) ho (h.trans ha.symm)]
    · rw [if_neg h]
      rw [getD_last (by omega)] at hm
      rcases List.mem_cons.1 hm with e | hm
      · exact absurd (e ▸ ha) h
      · exact ih (i + 1) (by omega) hm k (by omega)
theorem named_miss (a : ByteArray) (ha : ∀ o ∈ allN, nm o ≠ a) : ∀ (n i : Nat), i + n = 435 → ∀ k, n + 401 ≤ k → ops_Named.l0 k a allI 435 (i : Int) = some (0, 11) := by
  intro n
  induction n with
  | zero =>
    intro i hi k hk
    obtain ⟨k, rfl⟩ : ∃ m, k = m + 1 := ⟨k - 1, by omega⟩
    simp only [ops_Named.l0]
    rw [if_neg (by omega)]
  | succ n ih =>
    intro i hi k hk
    obtain ⟨k, rfl⟩ : ∃ m, k = m + 1 := ⟨k - 1, by omega⟩
    rw [named_step a k i (by omega) (by omega), if_neg (ha _ (getD_mem (l := allN) (i := i) (by rw [allN_len]; omega)))]
    exact ih (i + 1) (by omega) k (by omega)
theorem Named_hit (a : ByteArray) (o : Nat) (ho : o ∈ allN) (ha : nm o = a) (k : Nat) (hk : 1500 ≤ k) : ops_Named.f k a = some ((o : Int), 0) := by
  unfold ops_Named.f
  rw [All_k k hk, Option.bind_some, allI_len]
  exact named_hit a o ho ha 435 0 (by omega) ho k (by omega)
theorem Named_miss (a : ByteArray) (ha : ∀ o ∈ allN, nm o ≠ a) (k : Nat) (hk : 1500 ≤ k) : ops_Named.f k a = some (0, 11) := by
  unfold ops_Named.f
  rw [All_k k hk, Option.bind_some, allI_len]
  exact named_miss a ha 435 0 (by omega) k (by omega)
end Go.Proofs.YtfbdmgdbamjjhaaDoor.Ops
