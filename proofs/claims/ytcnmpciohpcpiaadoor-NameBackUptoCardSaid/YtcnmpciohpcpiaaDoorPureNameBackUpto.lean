/- Letters come back of their text, and a text of its letters. Condition: what comes in is of bulk at most 1048576. -/
import Derived.Test.YtcnmpciohpcpiaaDoorPx8
import Derived.Test.YtcnmpciohpcpiaaDoorUj
namespace Go.Proofs.YtcnmpciohpcpiaaDoor.Pure
set_option linter.unusedVariables false
set_option linter.unusedSimpArgs false
open Go.RowKit Go.Proofs.YtcnmpciohpcpiaaDoor.P Go.Proofs.YtcnmpciohpcpiaaDoorW.PrintWords Go.Proofs.YtcnmpciohpcpiaaDoorW.PrintLast Go.Proofs.YtcnmpciohpcpiaaDoorW.PrintMore Go.Proofs.YtcnmpciohpcpiaaDoor.LebM
theorem back_text {b : List Int} (hb : Bytes b) (hl : b.length ≤ 1048576) : Ev (fun k => jacquardlaw02_NameBack.j0 k b) true := by
  obtain ⟨K1, h1⟩ := Letters_ev hb (by omega)
  obtain ⟨K2, h2⟩ := Is_ev hb
  obtain ⟨K3, h3⟩ := works_ev
  cases hD : D b with
  | none =>
    have eL : Lt b = ([], 4) := by unfold Lt; rw [hD]
    refine ⟨K1 + K2 + K3 + 1, fun k hk => ?_⟩
    obtain ⟨k, rfl⟩ : ∃ m, k = m + 1 := ⟨k - 1, by omega⟩
    have e1 : name_Letters.f k b = some _ := h1 k (by omega)
    have e2 : name_Is.f k b = some _ := h2 k (by omega)
    have e3 : jacquardlaw02_works.f k = some true := h3 k (by omega)
    show jacquardlaw02_NameBack.j0 (k + 1) b = _
    simp [jacquardlaw02_NameBack.j0, e1, e2, e3, eL, hD]
  | some o =>
    have eL : Lt b = (o, 0) := by unfold Lt; rw [hD]
    have hP := put_D b.length (Nat.le_refl _) hb hD
    have ho := D_length b.length (Nat.le_refl _) hD
    have eP : Pa o = (b, 0) := by unfold Pa; rw [hP]
    obtain ⟨K4, h4⟩ := Put_ev (l := o) (by omega)
    obtain ⟨K5, h5⟩ := same_self (l := b) (by omega)
    refine ⟨K1 + K2 + K3 + K4 + K5 + 1, fun k hk => ?_⟩
    obtain ⟨k, rfl⟩ : ∃ m, k = m + 1 := ⟨k - 1, by omega⟩
    have e1 : name_Letters.f k b = some _ := h1 k (by omega)
    have e2 : name_Is.f k b = some _ := h2 k (by omega)
    have e3 : jacquardlaw02_works.f k = some true := h3 k (by omega)
    have e4 : name_Put.f k o = some _ := h4 k (by omega)
    have e5 : jacquardref00_Same.f k b b = some true := h5 k (by omega)
    show jacquardlaw02_NameBack.j0 (k + 1) b = _
    simp [jacquardlaw02_NameBack.j0, e1, e2, e3, eL, hD, e4, eP, e5]
theorem NameBackUpto : ∀ (l0 : List Int) (l1 : List Int), l0.length ≤ maxLen → l0.length * 4 ≤ 140737488351232 → (∀ x ∈ l0, (Lit.int .i32 x).wf = true) → l1.length ≤ maxLen → l1.length * 1 ≤ 140737488351232 → (∀ x ∈ l1, (Lit.int .u8 x).wf = true) → l0.length + l1.length ≤ 1048576 → ∃ k, jacquardlaw02_NameBack.f k l0 l1 = some true := by
  intro l b _ _ hl _ _ hb hlen
  obtain ⟨K1, h1⟩ := Put_ev (l := l) (by omega)
  obtain ⟨K2, h2⟩ := back_text (bytes_wf hb) (by omega)
  cases hP : Pt l with
  | none =>
    have eP : Pa l = ([], 2) := by unfold Pa; rw [hP]
    obtain ⟨k, hk⟩ : ∃ k, k = K1 + K2 := ⟨_, rfl⟩
    refine ⟨k, ?_⟩
    have e1 : name_Put.f k l = some _ := h1 k (by omega)
    have e2 : jacquardlaw02_NameBack.j0 k b = some true := h2 k (by omega)
    simp [jacquardlaw02_NameBack.f, e1, e2, eP]
  | some o =>
    have eP : Pa l = (o, 0) := by unfold Pa; rw [hP]
    have ho := Pt_length hP
    have hB := Pt_bytes hP
    have hD : D o = some l := by have := D_put [] hP; rw [List.append_nil, D_nil] at this; simpa using this
    have eL : Lt o = (l, 0) := by unfold Lt; rw [hD]
    obtain ⟨K3, h3⟩ := Letters_ev hB (by omega)
    obtain ⟨K4, h4⟩ := runes_self (l := l) (by omega)
    obtain ⟨K5, h5⟩ := Is_ev hB
    obtain ⟨k, hk⟩ : ∃ k, k = K1 + K2 + K3 + K4 + K5 := ⟨_, rfl⟩
    refine ⟨k, ?_⟩
    have e1 : name_Put.f k l = some _ := h1 k (by omega)
    have e2 : jacquardlaw02_NameBack.j0 k b = some true := h2 k (by omega)
    have e3 : name_Letters.f k o = some _ := h3 k (by omega)
    have e4 : jacquardref00_Runes.f k l l = some true := h4 k (by omega)
    have e5 : name_Is.f k o = some _ := h5 k (by omega)
    simp [jacquardlaw02_NameBack.f, e1, e2, eP, e3, eL, e4, e5, hD]
end Go.Proofs.YtcnmpciohpcpiaaDoor.Pure
