/- Limits, a table's type, a global's type, at whatever place of whatever bytes, are the document's, or its error; for all inputs, no condition. -/
import Derived.Test.YthillgpbenjldaaPx8
import Derived.Test.YthillgpbenjldaaPx18
import Derived.Test.YthillgpbenjldaaPx19
import Derived.Test.YthillgpbenjldaaNd
namespace Go.Proofs.Ythillgpbenjldaa.Pure
open Go.RowKit Go.Proofs.Ythillgpbenjldaa.P Go.Proofs.YthillgpbenjldaaW.PrintWords Go.Proofs.YthillgpbenjldaaW.PrintLast Go.Proofs.Ythillgpbenjldaa.LebM

theorem TypesOthers : jacquardlaw09_TypesOthers.Pure := by
  intro l a _ hl hb _
  have hB := bytes_wf hb
  have hl' : l.length ≤ 140737488351232 := by omega
  obtain ⟨K1, h1⟩ := limits_ev hB hl' a
  obtain ⟨K2, h2⟩ := refLimits_ev hB hl' a
  obtain ⟨K3, h3⟩ := table_ev hB hl' a
  obtain ⟨K4, h4⟩ := refTable_ev hB hl' a
  obtain ⟨K5, h5⟩ := works_ev
  obtain ⟨K, hK⟩ : ∃ K, K = K1 + K2 + K3 + K4 + K5 := ⟨_, rfl⟩
  refine ⟨K + 1, ?_⟩
  have e1 : types_Limits.f (K + 1) l a = some _ := h1 _ (by omega)
  have e2 : jacquardref09_Limits.f (K + 1) l a = some _ := h2 _ (by omega)
  have e3 : types_Table.f (K + 1) l a = some _ := h3 _ (by omega)
  have e4 : jacquardref09_Table.f (K + 1) l a = some _ := h4 _ (by omega)
  have e5 : jacquardlaw09_works.f (K + 1) = some true := h5 _ (by omega)
  simp only [jacquardlaw09_TypesOthers.f, e1, e2, e3, e4, e5, global_eq hl', refGlobal_eq hl', Option.bind_some]
  simp

end Go.Proofs.Ythillgpbenjldaa.Pure
