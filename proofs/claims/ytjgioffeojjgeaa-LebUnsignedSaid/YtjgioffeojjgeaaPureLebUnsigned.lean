/- Of whatever bytes, place and width the unsigned number that leb.U reads, or its error, is that of the document's reading; for all inputs, no condition. -/
import Derived.Test.YtjgioffeojjgeaaPx2
import Derived.Test.YtjgioffeojjgeaaMc
import Derived.Test.YtjgioffeojjgeaaMd
namespace Go.Proofs.Ytjgioffeojjgeaa.Pure
open Go.RowKit Go.Proofs.Ytjgioffeojjgeaa.P Go.Proofs.YtjgioffeojjgeaaW.PrintWords Go.Proofs.YtjgioffeojjgeaaW.PrintLast Go.Proofs.Ytjgioffeojjgeaa.LebM

theorem LebUnsigned : jacquardlaw01_LebUnsigned.Pure := by
  intro l a w _ hl hb _ _
  have hB := bytes_wf hb
  obtain ⟨K1, h1⟩ := U_ev hB (by omega) a w
  obtain ⟨K2, h2⟩ := refU_ev hB (by omega) a w
  obtain ⟨K3, h3⟩ := works_ev
  refine ⟨K1 + K2 + K3, ?_⟩
  simp only [jacquardlaw01_LebUnsigned.f, h1 _ (show K1 ≤ K1 + K2 + K3 by omega), h2 _ (show K2 ≤ K1 + K2 + K3 by omega), h3 _ (show K3 ≤ K1 + K2 + K3 by omega), Option.bind_some]
  simp

end Go.Proofs.Ytjgioffeojjgeaa.Pure
