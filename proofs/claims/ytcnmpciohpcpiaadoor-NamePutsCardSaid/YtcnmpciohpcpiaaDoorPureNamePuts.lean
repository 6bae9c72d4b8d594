/- The text of letters is the document's, or its error.. -/
import Derived.Test.YtcnmpciohpcpiaaDoorPx7
import Derived.Test.YtcnmpciohpcpiaaDoorUh
namespace Go.Proofs.YtcnmpciohpcpiaaDoor.Pure
open Go.RowKit Go.Proofs.YtcnmpciohpcpiaaDoor.P Go.Proofs.YtcnmpciohpcpiaaDoorW.PrintWords Go.Proofs.YtcnmpciohpcpiaaDoorW.PrintLast Go.Proofs.YtcnmpciohpcpiaaDoorW.PrintMore Go.Proofs.YtcnmpciohpcpiaaDoor.LebM
theorem NamePuts : ∀ (l0 : List Int), l0.length ≤ maxLen → l0.length * 4 ≤ 140737488351232 → (∀ x ∈ l0, (Lit.int .i32 x).wf = true) → ∃ k, jacquardlaw02_NamePuts.f k l0 = some true := by
  intro l _ hl hw
  obtain ⟨K1, h1⟩ := Put_ev (l := l) (by omega)
  obtain ⟨K2, h2⟩ := refPut_ev (l := l) (by omega)
  have hlt : (Pa l).1.length ≤ 140737488351232 := by
    unfold Pa
    cases hD : Pt l with
    | none => simp
    | some o => have := Pt_length hD; simp only []; omega
  obtain ⟨K3, h3⟩ := same_self hlt
  obtain ⟨K6, h6⟩ := works_ev
  refine ⟨K1 + K2 + K3 + K6, ?_⟩
  have e1 : name_Put.f (K1 + K2 + K3 + K6) l = some _ := h1 _ (by omega)
  have e2 : jacquardref02_Put.f (K1 + K2 + K3 + K6) l = some _ := h2 _ (by omega)
  have e3 : jacquardref00_Same.f (K1 + K2 + K3 + K6) (Pa l).1 (Pa l).1 = some true := h3 _ (by omega)
  have e6 : jacquardlaw02_works.f (K1 + K2 + K3 + K6) = some true := h6 _ (by omega)
  simp [jacquardlaw02_NamePuts.f, e1, e2, e3, e6]
end Go.Proofs.YtcnmpciohpcpiaaDoor.Pure
