import Derived.Test.YtfbdmgdbamjjhaaDoorOc
import Derived.Test.YtfbdmgdbamjjhaaDoorGAll
/-! All numbers. -/
namespace Go.Proofs.YtfbdmgdbamjjhaaDoor.Ops
open Go Go.Proofs Go.RowKit Go.Proofs.YtfbdmgdbamjjhaaDoor.P Go.Proofs.YtfbdmgdbamjjhaaDoorW.PrintWords
set_option maxRecDepth 100000
def allN : List Nat := (List.range 256 ++ (List.range 256).map (· + 64512) ++ (List.range 256).map (· + 64768)).filter fun o => (tbl o).isSome
def allI : List Int := allN.map fun n : Nat => (n : Int)
theorem All_at : ops_All.f 1500 = some allI := by decide +kernel
theorem All_k (k : Nat) (hk : 1500 ≤ k) : ops_All.f k = some allI := up ops_All.mono All_at k hk
theorem allN_len : allN.length = 435 := by decide +kernel
theorem allI_len : allI.length = 435 := by unfold allI; rw [List.length_map]; exact allN_len
theorem rd_all (i : Nat) (hi : i < 435) : rd allI (i : Int) = ((allN.getD i 0 : Nat) : Int) := by
  unfold rd allI
  rw [Int.toNat_natCast]
  rw [List.getD_eq_getElem?_getD, List.getD_eq_getElem?_getD, List.getElem?_map, List.getElem?_eq_getElem (by rw [allN_len]; exact hi)]
  rfl
end Go.Proofs.YtfbdmgdbamjjhaaDoor.Ops
