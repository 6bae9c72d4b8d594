import Derived.Test.YtfbdmgdbamjjhaaDoorPx15
import Derived.Test.YtfbdmgdbamjjhaaDoorOc
namespace Go.Proofs.YtfbdmgdbamjjhaaDoor.Pure
open Go Go.Proofs Go.RowKit Go.Proofs.YtfbdmgdbamjjhaaDoor.P Go.Proofs.YtfbdmgdbamjjhaaDoor.Ops
theorem OpsPages : jacquardlaw10_OpsPages.Pure := by
  intro a0 h0
  obtain ⟨o, ho, rfl⟩ := u16 h0
  refine ⟨400, ?_⟩
  unfold jacquardlaw10_OpsPages.f
  rw [Of_at o ho, Option.bind_some, works_at]
  cases ht : tbl o with
  | none =>
    show (if (11 : Int) = 0 then _ else _) = _
    rw [if_neg (by decide)]
    rfl
  | some r =>
    have h1 := tbl_some ht
    obtain ⟨n, m, f, t, b, p⟩ := r
    show (if (0 : Int) = 0 then _ else _) = _
    rw [if_pos rfl]
    by_cases h2 : (o : Int) < 256
    · rw [if_pos h2]; rfl
    rw [if_neg h2, if_pos (by omega)]
    by_cases h3 : (o : Int) ≤ 64529
    · rw [if_pos h3]; rfl
    rw [if_neg h3, if_pos (by omega), if_pos (by omega)]
    rfl
end Go.Proofs.YtfbdmgdbamjjhaaDoor.Pure
