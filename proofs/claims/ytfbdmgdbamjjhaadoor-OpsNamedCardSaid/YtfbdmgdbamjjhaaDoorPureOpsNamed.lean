import Derived.Test.YtfbdmgdbamjjhaaDoorPx20
import Derived.Test.YtfbdmgdbamjjhaaDoorOg
namespace Go.Proofs.YtfbdmgdbamjjhaaDoor.Pure
open Go Go.Proofs Go.RowKit Go.Proofs.YtfbdmgdbamjjhaaDoor.P Go.Proofs.YtfbdmgdbamjjhaaDoor.Ops
theorem OpsNamed : jacquardlaw10_OpsNamed.Pure := by
  intro a0 h0
  refine ⟨2500, ?_⟩
  unfold jacquardlaw10_OpsNamed.f
  by_cases h : ∃ o ∈ allN, nm o = a0
  · obtain ⟨o, ho, ha⟩ := h
    rw [Named_hit a0 o ho ha 2500 (by omega), Option.bind_some, rNamed_hit a0 o ho ha 2500 (by omega), Option.bind_some, if_pos rfl, if_pos rfl, works_k 2500 (by omega)]
    rfl
  · have ha : ∀ o ∈ allN, nm o ≠ a0 := fun o ho e => h ⟨o, ho, e⟩
    rw [Named_miss a0 ha 2500 (by omega), Option.bind_some, rNamed_miss a0 ha 2500 (by omega), Option.bind_some, if_pos rfl, if_pos rfl, works_k 2500 (by omega)]
    rfl
end Go.Proofs.YtfbdmgdbamjjhaaDoor.Pure
