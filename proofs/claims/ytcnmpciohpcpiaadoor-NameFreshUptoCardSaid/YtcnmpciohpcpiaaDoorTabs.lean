import Derived.Test.YtcnmpciohpcpiaaDoorCaps
import GoSem.PinnedTables
/-! What a world holds of the tables that the program reads. -/
namespace Go.Proofs.YtcnmpciohpcpiaaDoorTabs
open Go Go.Proofs Go.RowKit
open Go.Proofs.YtcnmpciohpcpiaaDoorW.PrintWords
def uFL : List Int := Go.Pinned.utf8FirstZ.map (fun n : Nat => (n : Int))
def aLL : List Int := [128, 160, 128, 144, 128, 0, 0, 0, 0, 0, 0, 0, 0, 0, 0, 0]
def aHL : List Int := [191, 191, 159, 191, 143, 0, 0, 0, 0, 0, 0, 0, 0, 0, 0, 0]
structure Tab (w : World) : Prop where
  uF : ∀ i : Int, 0 ≤ i → i < 256 → w.cell? ⟨0, i.toNat, none⟩ = some (.int .u8 (rd uFL i))
  aL : ∀ i : Int, 0 ≤ i → i < 16 → w.cell? ⟨1, i.toNat * 2, none⟩ = some (.int .u8 (rd aLL i))
  aH : ∀ i : Int, 0 ≤ i → i < 16 → w.cell? ⟨1, i.toNat * 2 + 1, none⟩ = some (.int .u8 (rd aHL i))
theorem Tab.below {w w' : World} (h : Tab w) (b : Below w.heap.size w w') : Tab w' :=
  ⟨fun i h0 h1 => (b.cell (World.block_lt_of_cell? w _ (h.uF i h0 h1))).trans (h.uF i h0 h1), fun i h0 h1 => (b.cell (World.block_lt_of_cell? w _ (h.aL i h0 h1))).trans (h.aL i h0 h1), fun i h0 h1 => (b.cell (World.block_lt_of_cell? w _ (h.aH i h0 h1))).trans (h.aH i h0 h1)⟩
theorem Tab.drawn {w w' : World} (h : Tab w) (b : Drawn0 w w') : Tab w' := by
  obtain ⟨m, rfl⟩ := b
  exact h.below (pw_below_drewN (Below.refl _ _) m)
end Go.Proofs.YtcnmpciohpcpiaaDoorTabs
