/- The short forms of a number, unsigned and signed, and the length of the unsigned one, are the document's; for all numbers, no condition. -/
import Derived.Test.YtjgioffeojjgeaaPx6
import Derived.Test.YtjgioffeojjgeaaMf
namespace Go.Proofs.Ytjgioffeojjgeaa.Pure
open Go.RowKit Go.Proofs.Ytjgioffeojjgeaa.P Go.Proofs.YtjgioffeojjgeaaW.PrintWords Go.Proofs.YtjgioffeojjgeaaW.PrintLast Go.Proofs.Ytjgioffeojjgeaa.LebM

theorem LebShort : jacquardlaw01_LebShort.Pure := by
  intro x y hx hy
  obtain ⟨x0, x1⟩ := u64_wf hx
  obtain ⟨y0, y1⟩ := i64_wf hy
  have lu := putU_len 9 x
  have ls := putS_len 9 y
  obtain ⟨K1, h1⟩ := PutU_ev x0 x1
  obtain ⟨K2, h2⟩ := PutS_ev y0 y1
  obtain ⟨K3, h3⟩ := refPutU_ev x0 x1
  obtain ⟨K4, h4⟩ := refPutS_ev y0 y1
  obtain ⟨K5, h5⟩ := Same_ev (l := putU 9 x) (r := putU 9 x) (by omega)
  obtain ⟨K6, h6⟩ := Same_ev (l := putS 9 y) (r := putS 9 y) (by omega)
  obtain ⟨K7, h7⟩ := LenU_ev x0 x1
  obtain ⟨K8, h8⟩ := works_ev
  obtain ⟨K, hK⟩ : ∃ K, K = K1 + K2 + K3 + K4 + K5 + K6 + K7 + K8 := ⟨_, rfl⟩
  refine ⟨K, ?_⟩
  simp only [jacquardlaw01_LebShort.f, h1 K (by omega), h2 K (by omega), h3 K (by omega), h4 K (by omega), h5 K (by omega), h6 K (by omega), h7 K (by omega), h8 K (by omega), Option.bind_some]
  simp

end Go.Proofs.Ytjgioffeojjgeaa.Pure
