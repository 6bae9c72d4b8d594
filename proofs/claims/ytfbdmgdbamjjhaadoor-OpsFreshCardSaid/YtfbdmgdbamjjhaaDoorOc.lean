import Derived.Test.YtfbdmgdbamjjhaaDoorOb
/-! ops.Of at whatever number. -/
namespace Go.Proofs.YtfbdmgdbamjjhaaDoor.Ops
open Go Go.Proofs Go.RowKit Go.Proofs.YtfbdmgdbamjjhaaDoor.P Go.Proofs.YtfbdmgdbamjjhaaDoorW.PrintWords
theorem getD_out {α : Type} {l : List α} {i : Nat} {d : α} (h : l.length ≤ i) : l.getD i d = d := by simp [List.getD, List.getElem?_eq_none h]
theorem pc_len : pc.length = 18 := by decide +kernel
theorem pd_len : pd.length = 256 := by decide +kernel
theorem w64 {n : Int} (h0 : 0 ≤ n) (h : n < 9223372036854775808) : wrap64 n = n := by unfold wrap64; omega
theorem le_of {α : Type} {a b : Option α} {v : α} (h : LeO a b) (ha : a = some v) : b = some v := h v ha
theorem up {α : Type} {f : Nat → Option α} (hm : ∀ k, LeO (f k) (f (k + 1))) {K : Nat} {v : α} (h : f K = some v) : ∀ k, K ≤ k → f k = some v := by
  intro k hk
  obtain ⟨d, rfl⟩ := Nat.exists_eq_add_of_le hk
  induction d with
  | zero => exact h
  | succ d ih => exact le_of (hm (K + d)) (ih (by omega))
theorem look_out (o : Int) (h : 256 ≤ o ∧ o < 64512 ∨ 65024 ≤ o ∧ o < 65536) (k : Nat) : ops_look.f (k + 3) o = some (⟨#[]⟩, ⟨#[]⟩, 0, 0, false, false) := by
  have hw : wrap64 o = o := w64 (by omega) (by omega)
  unfold ops_look.f
  rw [hw]
  rcases h with h | h
  · rw [if_neg (by omega)]
    simp only [ops_look.j0]
    rw [if_neg (by decide), if_neg (by omega)]
    simp only [ops_look.j1]
    rw [if_neg (by decide), if_pos (by omega)]
  · have hd : decide (o ≤ 65023) = false := decide_eq_false (by omega)
    rw [if_pos (by omega), hd]
    simp only [ops_look.j0]
    have hd2 : decide (o ≤ 64767) = false := decide_eq_false (by omega)
    rw [if_neg (by decide), if_pos (by omega), hd2]
    simp only [ops_look.j1]
    rw [if_neg (by decide), if_pos (by omega)]
theorem Of_out (o : Int) (h : 256 ≤ o ∧ o < 64512 ∨ 65024 ≤ o ∧ o < 65536) : ops_Of.f 400 o = some bad := by
  unfold ops_Of.f
  rw [look_out o h 397]
  rfl
theorem all_range {p : Nat → Bool} {n : Nat} (h : (List.range n).all p = true) : ∀ i, i < n → p i = true := fun i hi => List.all_eq_true.1 h i (List.mem_range.2 hi)
theorem Of_at (o : Nat) (ho : o < 65536) : ops_Of.f 400 (o : Int) = some (ans (o : Int) (tbl o)) := by
  by_cases h1 : o < 128
  · exact of_decide_eq_true (all_range at0 o h1)
  by_cases h2 : o < 256
  · have := all_range at1 (o - 128) (by omega)
    rw [show o - 128 + 128 = o by omega] at this
    exact of_decide_eq_true this
  by_cases h3 : o < 64512
  · rw [Of_out _ (by omega)]
    have e : tbl o = none := by unfold tbl; rw [if_neg (by omega), if_pos h3]
    rw [e]; rfl
  by_cases h4 : o < 64768
  · have := all_range at2 (o - 64512) (by omega)
    rw [show o - 64512 + 64512 = o by omega] at this
    exact of_decide_eq_true this
  by_cases h5 : o < 64896
  · have := all_range at3 (o - 64768) (by omega)
    rw [show o - 64768 + 64768 = o by omega] at this
    exact of_decide_eq_true this
  by_cases h6 : o < 65024
  · have := all_range at4 (o - 64896) (by omega)
    rw [show o - 64896 + 64896 = o by omega] at this
    exact of_decide_eq_true this
  · rw [Of_out _ (by omega)]
    have e : tbl o = none := by
      unfold tbl
      rw [if_neg h2, if_neg h3, if_neg h4, getD_out (by rw [pd_len]; omega)]
    rw [e]; rfl
theorem Of_k (o : Nat) (ho : o < 65536) (k : Nat) (hk : 400 ≤ k) : ops_Of.f k (o : Int) = some (ans (o : Int) (tbl o)) := up (f := fun k => ops_Of.f k (o : Int)) (fun k => ops_Of.mono _ k) (Of_at o ho) k hk
theorem u16 {a : Int} (h : (Lit.int .u16 a).wf = true) : ∃ o : Nat, o < 65536 ∧ a = (o : Int) := by
  have h3 : 0 ≤ a ∧ a ≤ 65535 := by
    have h4 : decide (IntKind.u16.min ≤ a) = true ∧ decide (a ≤ IntKind.u16.max) = true := by simpa [Lit.wf] using h
    exact ⟨of_decide_eq_true h4.1, of_decide_eq_true h4.2⟩
  exact ⟨a.toNat, by omega, by omega⟩
theorem tbl_some {o : Nat} {r : Row} (h : tbl o = some r) : o < 256 ∨ (64512 ≤ o ∧ o ≤ 64529) ∨ (64768 ≤ o ∧ o ≤ 65023) := by
  unfold tbl at h
  split at h
  · omega
  · split at h
    · cases h
    · split at h
      · by_cases h4 : o - 64512 < 18
        · omega
        · rw [getD_out (by rw [pc_len]; omega)] at h; cases h
      · by_cases h4 : o - 64768 < 256
        · omega
        · rw [getD_out (by rw [pd_len]; omega)] at h; cases h
end Go.Proofs.YtfbdmgdbamjjhaaDoor.Ops
