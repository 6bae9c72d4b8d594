/- The walk of the law TypesPuts: out of its printed contract; the bytes of a function's type, and of limits, are the document's. Condition: what comes in is of bulk at most 1048576. -/
import Derived.Test.YthillgpbenjldaaPx8
import Derived.Test.YthillgpbenjldaaPx17
import Derived.Test.YthillgpbenjldaaPx18
import Derived.Test.YthillgpbenjldaaPx21
import Derived.Test.YthillgpbenjldaaPx22
import Derived.Test.YthillgpbenjldaaStmTypesPutsUpto
import Derived.Test.YthillgpbenjldaaNe
namespace Go.Proofs.Ythillgpbenjldaa.Wlk
set_option linter.unusedVariables false
set_option linter.unusedSimpArgs false
open Go.RowKit Go.Proofs.Ythillgpbenjldaa.P Go.Proofs.YthillgpbenjldaaW.PrintWords Go.Proofs.YthillgpbenjldaaW.PrintLast Go.Proofs.Ythillgpbenjldaa.LebM
theorem u32_wf {a : Int} (h : (Lit.int .u32 a).wf = true) : 0 ≤ a ∧ a ≤ 4294967295 := by
  simp [Lit.wf, IntKind.min, IntKind.max, IntKind.signed, IntKind.bits] at h
  omega
theorem TypesPutsUpto : Stm.TypesPutsUpto := by
  intro A0 c0 p A1 c1 r a b c w r0 q0 _ _ r1 q1 _ _ ha hb hlen
  have ha := u32_wf ha
  have hb := u32_wf hb
  have x1 := Pf_len p r
  have x2 := Pk_len p
  have x3 := Pk_len r
  have x4 := Pl_len a b c
  obtain ⟨K1, h1⟩ := Put_ev (p := p) (r := r) (by omega) (by omega)
  obtain ⟨K2, h2⟩ := refPut_ev (p := p) (r := r) (by omega) (by omega)
  obtain ⟨K3, h3⟩ := same_self (l := Pf p r) (by omega)
  obtain ⟨K4, h4⟩ := PutLimits_ev c ha hb
  obtain ⟨K5, h5⟩ := refPutLimits_ev c ha hb
  obtain ⟨K6, h6⟩ := same_self (l := Pl a b c) (by omega)
  obtain ⟨K7, h7⟩ := works_ev
  obtain ⟨K, hK⟩ : ∃ K, K = K1 + K2 + K3 + K4 + K5 + K6 + K7 := ⟨_, rfl⟩
  have e1 : types_Put.f K p r = some _ := h1 _ (by omega)
  have e2 : jacquardref09_Put.f K p r = some _ := h2 _ (by omega)
  have e3 : jacquardref00_Same.f K (Pf p r) (Pf p r) = some true := h3 _ (by omega)
  have e4 : types_PutLimits.f K a b c = some _ := h4 _ (by omega)
  have e5 : jacquardref09_PutLimits.f K a b c = some _ := h5 _ (by omega)
  have e6 : jacquardref00_Same.f K (Pl a b c) (Pl a b c) = some true := h6 _ (by omega)
  have e7 : jacquardlaw09_works.f K = some true := h7 _ (by omega)
  have h : jacquardlaw09_TypesPuts.f K p r a b c = some true := by
    simp only [jacquardlaw09_TypesPuts.f, e1, e2, e3, e4, e5, e6, e7, Option.bind_some, if_true]
  refine (jacquardlaw09_TypesPuts.calls K _ _ p _ _ r a b c w r0 q0 r1 q1 h).mono ?_
  rintro e w' ⟨rfl, hd⟩
  exact ⟨rfl, hd⟩
end Go.Proofs.Ythillgpbenjldaa.Wlk
