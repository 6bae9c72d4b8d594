/- The walk of the law TypesLimits: out of its printed contract; which limits and tables may be, which fit, which functions' types are the same, is the document's. -/
import Derived.Test.YthillgpbenjldaaPx7
import Derived.Test.YthillgpbenjldaaPx8
import Derived.Test.YthillgpbenjldaaPx13
import Derived.Test.YthillgpbenjldaaPx16
import Derived.Test.YthillgpbenjldaaStmTypesLimits
import Derived.Test.YthillgpbenjldaaNc
namespace Go.Proofs.Ythillgpbenjldaa.Wlk
open Go.RowKit Go.Proofs.Ythillgpbenjldaa.P Go.Proofs.YthillgpbenjldaaW.PrintWords Go.Proofs.YthillgpbenjldaaW.PrintLast Go.Proofs.Ythillgpbenjldaa.LebM

theorem u32_wf {a : Int} (h : (Lit.int .u32 a).wf = true) : 0 ≤ a ∧ a ≤ 4294967295 := by
  simp [Lit.wf, IntKind.min, IntKind.max, IntKind.signed, IntKind.bits] at h
  omega
theorem TypesLimits : Stm.TypesLimits := by
  intro e a b c e' a' b' c' n A0 c0 l0 A1 c1 l1 A2 c2 l2 A3 c3 l3 w _ ha hb _ ha' hb' _ r0 q0 m0 _ r1 q1 m1 _ r2 q2 m2 _ r3 q3 m3 _
  have ha := u32_wf ha
  have hb := u32_wf hb
  unfold maxLen at m0 m1
  obtain ⟨K4, h4⟩ := works_ev
  obtain ⟨K5, h5⟩ := same_ev (x := l0) (y := l1) (x' := l2) (y' := l3) m0 m1
  obtain ⟨K6, h6⟩ := funcSame_ev (x := l0) (y := l1) (x' := l2) (y' := l3) m0 m1
  obtain ⟨K, hK⟩ : ∃ K, K = K4 + K5 + K6 := ⟨_, rfl⟩
  have e4 : jacquardlaw09_works.f K = some true := h4 _ (by omega)
  have e5 : types_Same.f K l0 l1 l2 l3 = some _ := h5 _ (by omega)
  have e6 : jacquardref00_Func.f K l0 l1 l2 l3 = some _ := h6 _ (by omega)
  have h : jacquardlaw09_TypesLimits.f K e a b c e' a' b' c' n l0 l1 l2 l3 = some true := by
    simp only [jacquardlaw09_TypesLimits.f, may_lim c n ha hb, refMay_lim c n ha hb, mayTable_eq e c ha hb, refMayTable_eq e c ha hb, fit_eq, refFit_eq, fitTable_eq, refFitTable_eq, e4, e5, e6, Option.bind_some, beq_self_eq_true, if_true]
  refine (jacquardlaw09_TypesLimits.calls K e a b c e' a' b' c' n _ _ l0 _ _ l1 _ _ l2 _ _ l3 w r0 q0 r1 q1 r2 q2 r3 q3 h).mono ?_
  rintro e w' ⟨rfl, hd⟩
  exact ⟨rfl, hd⟩
end Go.Proofs.Ythillgpbenjldaa.Wlk
