/- The walk of the law TypesValues: out of its printed contract; which bytes are types, which values are of their types, is the document's. -/
import Derived.Test.YthillgpbenjldaaPx8
import Derived.Test.YthillgpbenjldaaPx10
import Derived.Test.YthillgpbenjldaaPx11
import Derived.Test.YthillgpbenjldaaStmTypesValues
import Derived.Test.YthillgpbenjldaaNc
namespace Go.Proofs.Ythillgpbenjldaa.Wlk
open Go.RowKit Go.Proofs.Ythillgpbenjldaa.P Go.Proofs.YthillgpbenjldaaW.PrintWords Go.Proofs.YthillgpbenjldaaW.PrintLast Go.Proofs.Ythillgpbenjldaa.LebM

theorem TypesValues : Stm.TypesValues := by
  intro t u lo hi w _ _ hlo _
  obtain ⟨l0, _⟩ := u64_wf hlo
  obtain ⟨K4, h4⟩ := works_ev
  have e4 : jacquardlaw09_works.f (K4 + 2) = some true := h4 _ (by omega)
  have h : jacquardlaw09_TypesValues.f (K4 + 2) t u lo hi = some true := by
    simp only [jacquardlaw09_TypesValues.f, is_eq, refIs_eq, isRef_eq, refIsRef_eq, types_Zero.f, has_eq K4 _ _ l0, refHas_eq, e4, Option.bind_some, beq_self_eq_true, if_true, Bool.and_self]
  refine (jacquardlaw09_TypesValues.calls (K4 + 2) t u lo hi w h).mono ?_
  rintro e w' ⟨rfl, hd⟩
  exact ⟨rfl, hd⟩
end Go.Proofs.Ythillgpbenjldaa.Wlk
