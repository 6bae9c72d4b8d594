/- Whether bytes are a text, and its letters, are the document's, or its error. Condition: what comes in is of bulk at most 1048576. -/
import Derived.Test.YtcnmpciohpcpiaaDoorPx5
import Derived.Test.YtcnmpciohpcpiaaDoorUg
namespace Go.Proofs.YtcnmpciohpcpiaaDoor.Pure
set_option linter.unusedVariables false
set_option linter.unusedSimpArgs false
open Go.RowKit Go.Proofs.YtcnmpciohpcpiaaDoor.P Go.Proofs.YtcnmpciohpcpiaaDoorW.PrintWords Go.Proofs.YtcnmpciohpcpiaaDoorW.PrintLast Go.Proofs.YtcnmpciohpcpiaaDoorW.PrintMore Go.Proofs.YtcnmpciohpcpiaaDoor.LebM
theorem NameLettersUpto : ∀ (l0 : List Int), l0.length ≤ maxLen → l0.length * 1 ≤ 140737488351232 → (∀ x ∈ l0, (Lit.int .u8 x).wf = true) → l0.length ≤ 1048576 → ∃ k, jacquardlaw02_NameLetters.f k l0 = some true := by
  intro l _ _ hw hl
  have hb := bytes_wf hw
  obtain ⟨K1, h1⟩ := Letters_ev hb (by omega)
  obtain ⟨K2, h2⟩ := refLetters_ev hb (by omega)
  have hlt : (Lt l).1.length ≤ 140737488351232 := by
    unfold Lt
    cases hD : D l with
    | none => simp
    | some o => have := D_length l.length (Nat.le_refl _) hD; simp only []; omega
  obtain ⟨K3, h3⟩ := runes_self hlt
  obtain ⟨K4, h4⟩ := Is_ev hb
  obtain ⟨K5, h5⟩ := refIs_ev hb (by omega)
  obtain ⟨K6, h6⟩ := works_ev
  refine ⟨K1 + K2 + K3 + K4 + K5 + K6, ?_⟩
  have e1 : name_Letters.f (K1 + K2 + K3 + K4 + K5 + K6) l = some _ := h1 _ (by omega)
  have e2 : jacquardref02_Letters.f (K1 + K2 + K3 + K4 + K5 + K6) l = some _ := h2 _ (by omega)
  have e3 : jacquardref00_Runes.f (K1 + K2 + K3 + K4 + K5 + K6) (Lt l).1 (Lt l).1 = some true := h3 _ (by omega)
  have e4 : name_Is.f (K1 + K2 + K3 + K4 + K5 + K6) l = some _ := h4 _ (by omega)
  have e5 : jacquardref02_Is.f (K1 + K2 + K3 + K4 + K5 + K6) l = some _ := h5 _ (by omega)
  have e6 : jacquardlaw02_works.f (K1 + K2 + K3 + K4 + K5 + K6) = some true := h6 _ (by omega)
  simp [jacquardlaw02_NameLetters.f, e1, e2, e3, e4, e5, e6]
end Go.Proofs.YtcnmpciohpcpiaaDoor.Pure
