import Derived.Test.YtfbdmgdbamjjhaaDoorOf
import Derived.Test.YtfbdmgdbamjjhaaDoorPx19
/-! The document's Named of whatever name. -/
namespace Go.Proofs.YtfbdmgdbamjjhaaDoor.Ops
open Go Go.Proofs Go.RowKit Go.Proofs.YtfbdmgdbamjjhaaDoor.P Go.Proofs.YtfbdmgdbamjjhaaDoorW.PrintWords
set_option maxRecDepth 100000
theorem T_some : (jacquardref10_Table.f 2500).isSome = true := by decide +kernel
def T : List S27 := (jacquardref10_Table.f 2500).get T_some
theorem T_eq : jacquardref10_Table.f 2500 = some T := (Option.some_get T_some).symm
def rowIs (r : S27) : Bool := (match tbl r.f0.toNat with | some q => decide (q.1.data.toList = r.f1.data.toList) | none => false) && decide (0 ≤ r.f0)
theorem T_len : T.length < 1000 := of_decide_eq_true (by decide +kernel)
theorem T_rows : T.all rowIs = true := by decide +kernel
theorem T_there : allN.all (fun o => T.any fun r => r.f0 == (o : Int)) = true := by decide +kernel
theorem rd_mem {i : Nat} (hi : i < T.length) : rd_T27 T (i : Int) ∈ T := by
  unfold rd_T27
  rw [Int.toNat_natCast, List.getD_eq_getElem?_getD, List.getElem?_eq_getElem hi, Option.getD_some]
  exact List.getElem_mem hi
theorem T_row {r : S27} (h : r ∈ T) : ∃ o : Nat, o ∈ allN ∧ r.f0 = (o : Int) ∧ r.f1 = nm o := by
  have h1 := List.all_eq_true.1 T_rows r h
  obtain ⟨h2, h3⟩ := Bool.and_eq_true_iff.1 h1
  have h4 := of_decide_eq_true h3
  refine ⟨r.f0.toNat, ?_, by omega, ?_⟩
  · rw [mem_allN]
    cases h5 : tbl r.f0.toNat with
    | none => rw [h5] at h2; cases h2
    | some q => rfl
  · unfold nm
    cases h5 : tbl r.f0.toNat with
    | none => rw [h5] at h2; cases h2
    | some q =>
      rw [h5] at h2
      have h6 : q.1.data.toList = r.f1.data.toList := of_decide_eq_true h2
      exact tl_inj (by rw [ByteArray.toList_eq, ByteArray.toList_eq]; exact h6.symm)
theorem T_all {o : Nat} (h : o ∈ allN) : ∃ r ∈ T, r.f0 = (o : Int) := by
  have h1 := List.all_eq_true.1 T_there o h
  obtain ⟨r, hr, h2⟩ := List.any_eq_true.1 h1
  exact ⟨r, hr, eq_of_beq h2⟩
theorem T_drop {i : Nat} (hi : i < T.length) : T.drop i = rd_T27 T (i : Int) :: T.drop (i + 1) := by
  unfold rd_T27
  rw [Int.toNat_natCast, List.drop_eq_getElem_cons hi, List.getD_eq_getElem?_getD, List.getElem?_eq_getElem hi, Option.getD_some]
theorem rnamed_step (a : ByteArray) (k i : Nat) (hi : i < T.length) : jacquardref10_Named.l0 (k + 1) a T (i : Int) =
    if (rd_T27 T (i : Int)).f1 = a then some ((rd_T27 T (i : Int)).f0, 0) else jacquardref10_Named.l0 k a T ((i + 1 : Nat) : Int) := by
  have hl := T_len
  simp only [jacquardref10_Named.l0]
  rw [if_pos (by omega), if_pos (by omega)]
  by_cases h : (rd_T27 T (i : Int)).f1 = a
  · rw [if_pos h, if_pos (congrArg ByteArray.toList h)]
  · rw [if_neg h, if_neg (fun e => h (tl_inj e)), show wrap64 ((i : Int) + 1) = ((i + 1 : Nat) : Int) by rw [w64 (by omega) (by omega)]; omega]
theorem rnamed_hit (a : ByteArray) (o : Nat) (ho : o ∈ allN) (ha : nm o = a) : ∀ (n i : Nat), i + n = T.length → (∃ r ∈ T.drop i, r.f0 = (o : Int)) → ∀ k, n < k → jacquardref10_Named.l0 k a T (i : Int) = some ((o : Int), 0) := by
  intro n
  induction n with
  | zero =>
    intro i hi hm
    rw [List.drop_eq_nil_of_le (by omega)] at hm
    obtain ⟨_, h, _⟩ := hm
    cases h
  | succ n ih =>
    intro i hi hm k hk
    obtain ⟨k, rfl⟩ : ∃ m, k = m + 1 := ⟨k - 1, by omega⟩
    obtain ⟨x, hx, h0, h1⟩ := T_row (rd_mem (i := i) (by omega))
    rw [rnamed_step a k i (by omega), h1, h0]
    by_cases h : nm x = a
    · rw [if_pos h, nm_inj hx ho (h.trans ha.symm)]
    · rw [if_neg h]
      refine ih (i + 1) (by omega) ?_ k (by omega)
      obtain ⟨r, hr, h2⟩ := hm
      rw [T_drop (by omega)] at hr
      rcases List.mem_cons.1 hr with e | hr
      · rw [e, h0] at h2
        have h3 : x = o := by omega
        exact absurd (h3 ▸ ha) h
      · exact ⟨r, hr, h2⟩
theorem rnamed_miss (a : ByteArray) (ha : ∀ o ∈ allN, nm o ≠ a) : ∀ (n i : Nat), i + n = T.length → ∀ k, n < k → jacquardref10_Named.l0 k a T (i : Int) = some (0, 11) := by
  intro n
  induction n with
  | zero =>
    intro i hi k hk
    obtain ⟨k, rfl⟩ : ∃ m, k = m + 1 := ⟨k - 1, by omega⟩
    simp only [jacquardref10_Named.l0]
    rw [if_neg (by omega)]
  | succ n ih =>
    intro i hi k hk
    obtain ⟨k, rfl⟩ : ∃ m, k = m + 1 := ⟨k - 1, by omega⟩
    obtain ⟨x, hx, h0, h1⟩ := T_row (rd_mem (i := i) (by omega))
    rw [rnamed_step a k i (by omega), h1, if_neg (ha x hx)]
    exact ih (i + 1) (by omega) k (by omega)
theorem Table_k (k : Nat) (hk : 2500 ≤ k) : jacquardref10_Table.f k = some T := up jacquardref10_Table.mono T_eq k hk
theorem rNamed_hit (a : ByteArray) (o : Nat) (ho : o ∈ allN) (ha : nm o = a) (k : Nat) (hk : 2500 ≤ k) : jacquardref10_Named.f k a = some ((o : Int), 0) := by
  have hl := T_len
  unfold jacquardref10_Named.f
  rw [Table_k k hk, Option.bind_some]
  exact rnamed_hit a o ho ha T.length 0 (by omega) (T_all ho) k (by omega)
theorem rNamed_miss (a : ByteArray) (ha : ∀ o ∈ allN, nm o ≠ a) (k : Nat) (hk : 2500 ≤ k) : jacquardref10_Named.f k a = some (0, 11) := by
  have hl := T_len
  unfold jacquardref10_Named.f
  rw [Table_k k hk, Option.bind_some]
  exact rnamed_miss a ha T.length 0 (by omega) k (by omega)
end Go.Proofs.YtfbdmgdbamjjhaaDoor.Ops
