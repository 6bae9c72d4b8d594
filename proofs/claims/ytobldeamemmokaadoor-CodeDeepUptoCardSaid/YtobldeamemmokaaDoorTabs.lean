import Derived.Test.YtobldeamemmokaaDoorWWords
import Derived.Test.YtobldeamemmokaaDoorWLast
import Derived.Laws.Slices
import Derived.Test.YtobldeamemmokaaDoorProg
import Derived.Lib.LaidTab
import Derived.Lib.Space
import Derived.Lib.SmallJoins
/-! What a world holds of the tables that the program reads. -/
namespace Go.Proofs.YtobldeamemmokaaDoorTabs
open Go Go.Proofs Go.RowKit
open Go.Proofs.YtobldeamemmokaaDoorW.PrintWords
structure Tab (w : World) : Prop where
  aS : Lib.TabIs Tryd.prog w "strings.asciiSpace" .u8 Lib.asciiSpaceTab
  mL : ∃ m, w.cell? ⟨0, 0, none⟩ = some (.int .i64 m)
theorem aS_at : Tryd.prog.globalNamed "strings.asciiSpace" = some 1 := by kernel_rfl
theorem Tab.below {w w' : World} (h : Tab w) (b : Below w.heap.size w w') : Tab w' :=
  ⟨Go.Joins.tab_stays aS_at h.aS b (Nat.le_refl _), by obtain ⟨m, hm⟩ := h.mL; exact ⟨m, (b.cell (World.block_lt_of_cell? w _ hm)).trans hm⟩⟩
theorem Tab.drawn {w w' : World} (h : Tab w) (b : Drawn0 w w') : Tab w' := by
  obtain ⟨m, rfl⟩ := b
  exact h.below (pw_below_drewN (Below.refl _ _) m)
end Go.Proofs.YtobldeamemmokaaDoorTabs

