import Derived.Test.YtfbdmgdbamjjhaaDoorPx17
import Derived.Test.YtfbdmgdbamjjhaaDoorOh
import Derived.Test.YtfbdmgdbamjjhaaDoorOi
import Derived.Test.YtfbdmgdbamjjhaaDoorOd
namespace Go.Proofs.YtfbdmgdbamjjhaaDoor.Pure
open Go Go.Proofs Go.RowKit Go.Proofs.YtfbdmgdbamjjhaaDoor.P Go.Proofs.YtfbdmgdbamjjhaaDoor.Ops Go.Proofs.YtfbdmgdbamjjhaaDoorW.PrintWords
theorem nextL {L i n : Nat} (hL : L < 100000) (h : i + (n + 1) = L) : wrap64 ((i : Int) + 1) = ((i + 1 : Nat) : Int) := by rw [w64 (by omega) (by omega)]; omega
theorem fresh_l2 (o : Nat) (ho : o < 65536) (K : Nat) (hK : ∀ k, K ≤ k → jacquardref10_Of.f k (o : Int) = some (ans (o : Int) (tbl o))) :
    ∀ (n i : Nat) (l : List Int), l.length < 100000 → i + n = l.length → ∀ k, n + 1501 + K ≤ k → jacquardlaw10_OpsFresh.l2 k (o : Int) l (i : Int) = some true := by
  intro n
  induction n with
  | zero =>
    intro i l hl hi k hk
    obtain ⟨k, rfl⟩ : ∃ m, k = m + 1 := ⟨k - 1, by omega⟩
    simp only [jacquardlaw10_OpsFresh.l2]
    rw [if_neg (by omega), Of_k o ho k (by omega), Option.bind_some, hK k (by omega), Option.bind_some, All_k k (by omega), Option.bind_some, info_self _ (ans_small o).1 (ans_small o).2 k (by omega), Option.bind_some, if_pos rfl, allI_len, if_pos (by rfl), if_pos (by decide)]
    have h1 : rd allI 1 = 1 := by
      have := rd_all 1 (by omega)
      rw [show allN.getD 1 0 = 1 by decide +kernel] at this
      exact this
    rw [if_pos h1, works_k k (by omega)]
    rfl
  | succ n ih =>
    intro i l hl hi k hk
    obtain ⟨k, rfl⟩ : ∃ m, k = m + 1 := ⟨k - 1, by omega⟩
    simp only [jacquardlaw10_OpsFresh.l2]
    rw [if_pos (by omega), if_pos (by omega), nextL hl hi]
    exact ih (i + 1) _ (by rw [List.length_set]; exact hl) (by rw [List.length_set]; omega) k (by omega)
theorem fresh_l1 (o : Nat) (ho : o < 65536) (K : Nat) (hK : ∀ k, K ≤ k → jacquardref10_Of.f k (o : Int) = some (ans (o : Int) (tbl o))) (x0 : Int) (x1 : ByteArray) (x2 : Int) (x3 : List Int) (x5 : Int) (x6 : Bool) :
    ∀ (n i : Nat) (l : List Int), l.length < 100000 → i + n = l.length → ∀ k, n + 2000 + K ≤ k → jacquardlaw10_OpsFresh.l1 k (o : Int) (i : Int) x0 x1 x2 x3 l x5 x6 = some true := by
  intro n
  induction n with
  | zero =>
    intro i l hl hi k hk
    obtain ⟨k, rfl⟩ : ∃ m, k = m + 1 := ⟨k - 1, by omega⟩
    simp only [jacquardlaw10_OpsFresh.l1]
    rw [if_neg (by omega), All_k k (by omega), Option.bind_some]
    exact fresh_l2 o ho K hK 435 0 allI (by rw [allI_len]; omega) (by rw [allI_len]) k (by omega)
  | succ n ih =>
    intro i l hl hi k hk
    obtain ⟨k, rfl⟩ : ∃ m, k = m + 1 := ⟨k - 1, by omega⟩
    simp only [jacquardlaw10_OpsFresh.l1]
    rw [if_pos (by omega), if_pos (by omega), nextL hl hi]
    exact ih (i + 1) _ (by rw [List.length_set]; exact hl) (by rw [List.length_set]; omega) k (by omega)
theorem fresh_l0 (o : Nat) (ho : o < 65536) (K : Nat) (hK : ∀ k, K ≤ k → jacquardref10_Of.f k (o : Int) = some (ans (o : Int) (tbl o))) (x0 : Int) (x1 : ByteArray) (x2 : Int) (x4 : List Int) (x5 : Int) (x6 : Bool) (h4 : x4.length < 100000) :
    ∀ (n i : Nat) (l : List Int), l.length < 100000 → i + n = l.length → ∀ k, n + 2001 + x4.length + K ≤ k → jacquardlaw10_OpsFresh.l0 k (o : Int) (i : Int) x0 x1 x2 l x4 x5 x6 = some true := by
  intro n
  induction n with
  | zero =>
    intro i l hl hi k hk
    obtain ⟨k, rfl⟩ : ∃ m, k = m + 1 := ⟨k - 1, by omega⟩
    simp only [jacquardlaw10_OpsFresh.l0]
    rw [if_neg (by omega)]
    exact fresh_l1 o ho K hK x0 x1 x2 l x5 x6 x4.length 0 x4 h4 (by omega) k (by omega)
  | succ n ih =>
    intro i l hl hi k hk
    obtain ⟨k, rfl⟩ : ∃ m, k = m + 1 := ⟨k - 1, by omega⟩
    simp only [jacquardlaw10_OpsFresh.l0]
    rw [if_pos (by omega), if_pos (by omega), nextL hl hi]
    exact ih (i + 1) _ (by rw [List.length_set]; exact hl) (by rw [List.length_set]; omega) k (by omega)
theorem OpsFresh : jacquardlaw10_OpsFresh.Pure := by
  intro a0 h0
  obtain ⟨o, ho, rfl⟩ := u16 h0
  obtain ⟨K, hK⟩ := rOf_at o ho
  obtain ⟨h1, h2⟩ := ans_small o
  refine ⟨K + 5000, ?_⟩
  unfold jacquardlaw10_OpsFresh.f
  rw [Of_k o ho _ (by omega), Option.bind_some]
  exact fresh_l0 o ho K hK _ _ _ _ _ _ (by omega) (ans (o : Int) (tbl o)).2.2.2.1.length 0 (ans (o : Int) (tbl o)).2.2.2.1 (by omega) (by omega) (K + 5000) (by omega)
end Go.Proofs.YtfbdmgdbamjjhaaDoor.Pure
