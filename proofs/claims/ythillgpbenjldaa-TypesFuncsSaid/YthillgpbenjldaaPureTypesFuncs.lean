/- The function's type, and the value's type, at whatever place of whatever bytes, are the document's, or its error; for all inputs, no condition. -/
import Derived.Test.YthillgpbenjldaaPx5
import Derived.Test.YthillgpbenjldaaNb
namespace Go.Proofs.Ythillgpbenjldaa.Pure
open Go.RowKit Go.Proofs.Ythillgpbenjldaa.P Go.Proofs.YthillgpbenjldaaW.PrintWords Go.Proofs.YthillgpbenjldaaW.PrintLast Go.Proofs.Ythillgpbenjldaa.LebM

theorem TypesFuncs : jacquardlaw09_TypesFuncs.Pure := by
  intro l a _ hl hb ha
  have hB := bytes_wf hb
  obtain ⟨a0, a1⟩ := i64_wf ha
  have hl' : l.length ≤ 140737488351232 := by omega
  obtain ⟨K1, h1⟩ := func_ev hB hl' a1
  obtain ⟨K2, h2⟩ := refFunc_ev hB hl' a1
  obtain ⟨f1, f2⟩ := Fs_len hl' (a := a)
  obtain ⟨K3, h3⟩ := funcSame_ev (x := (Fs l a).1) (y := (Fs l a).2.1) (x' := (Fs l a).1) (y' := (Fs l a).2.1) (by omega) (by omega)
  obtain ⟨K4, h4⟩ := works_ev
  obtain ⟨K, hK⟩ : ∃ K, K = K1 + K2 + K3 + K4 := ⟨_, rfl⟩
  refine ⟨K + 1, ?_⟩
  have e1 : types_Func.f (K + 1) l a = some (Fs l a) := h1 _ (by omega)
  have e2 : jacquardref09_Func.f (K + 1) l a = some (Fs l a) := h2 _ (by omega)
  have e3 : jacquardref00_Func.f (K + 1) (Fs l a).1 (Fs l a).2.1 (Fs l a).1 (Fs l a).2.1 = some _ := h3 _ (by omega)
  have e4 : jacquardlaw09_works.f (K + 1) = some true := h4 _ (by omega)
  simp only [jacquardlaw09_TypesFuncs.f, e1, e2, e3, e4, val_eq hl', refVal_eq hl', Option.bind_some]
  simp

end Go.Proofs.Ythillgpbenjldaa.Pure
