/- Of whatever bytes, place and width the signed number that leb.S reads, or its error, is that of the document's reading; for all inputs, no condition. -/
import Derived.Test.YtjgioffeojjgeaaPx3
import Derived.Test.YtjgioffeojjgeaaMe
import Derived.Test.YtjgioffeojjgeaaMd
namespace Go.Proofs.Ytjgioffeojjgeaa.Pure
open Go.RowKit Go.Proofs.Ytjgioffeojjgeaa.P Go.Proofs.YtjgioffeojjgeaaW.PrintWords Go.Proofs.YtjgioffeojjgeaaW.PrintLast Go.Proofs.Ytjgioffeojjgeaa.LebM

theorem LebSigned : jacquardlaw01_LebSigned.Pure := by
  intro l a w _ hl hb _ _
  have hB := bytes_wf hb
  obtain ⟨K1, h1⟩ := S_ev hB (by omega) a w
  obtain ⟨K2, h2⟩ := refS_ev hB (by omega) a w
  obtain ⟨K3, h3⟩ := works_ev
  refine ⟨K1 + K2 + K3, ?_⟩
  simp only [jacquardlaw01_LebSigned.f, h1 _ (show K1 ≤ K1 + K2 + K3 by omega), h2 _ (show K2 ≤ K1 + K2 + K3 by omega), h3 _ (show K3 ≤ K1 + K2 + K3 by omega), Option.bind_some]
  simp

end Go.Proofs.Ytjgioffeojjgeaa.Pure
