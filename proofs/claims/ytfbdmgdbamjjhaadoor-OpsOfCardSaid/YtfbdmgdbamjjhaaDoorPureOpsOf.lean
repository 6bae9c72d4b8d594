import Derived.Test.YtfbdmgdbamjjhaaDoorPx12
import Derived.Test.YtfbdmgdbamjjhaaDoorOh
import Derived.Test.YtfbdmgdbamjjhaaDoorOd
namespace Go.Proofs.YtfbdmgdbamjjhaaDoor.Pure
open Go Go.Proofs Go.RowKit Go.Proofs.YtfbdmgdbamjjhaaDoor.P Go.Proofs.YtfbdmgdbamjjhaaDoor.Ops
theorem OpsOf : jacquardlaw10_OpsOf.Pure := by
  intro a0 h0
  obtain ⟨o, ho, rfl⟩ := u16 h0
  obtain ⟨K, hK⟩ := rOf_at o ho
  refine ⟨K + 1000, ?_⟩
  unfold jacquardlaw10_OpsOf.f
  rw [Of_k o ho _ (by omega), Option.bind_some, hK _ (by omega), Option.bind_some, info_self _ (ans_small o).1 (ans_small o).2 _ (by omega), Option.bind_some, if_pos rfl, if_pos rfl, works_k _ (by omega)]
  rfl
end Go.Proofs.YtfbdmgdbamjjhaaDoor.Pure
