/- That the document's reading of the unsigned number comes to the word 'Us' too. -/
import Derived.Test.YthillgpbenjldaaMb
namespace Go.Proofs.Ythillgpbenjldaa.LebM
open Go.RowKit Go.Proofs.YthillgpbenjldaaW.PrintWords Go.Proofs.YthillgpbenjldaaW.PrintLast Go.Proofs.YthillgpbenjldaaW.PrintMore Go.Proofs.Ythillgpbenjldaa.P

theorem ones {w : Int} (h1 : 1 ≤ w) (h2 : w ≤ 64) : shr .u64 18446744073709551615 (IntKind.u64.wrap (wrap64 (64 - w))) = 2 ^ w.toNat - 1 := by
  rw [w64 (x := 64 - w) (by omega) (by omega), u64w (by omega) (by omega)]
  unfold shr
  have e : min (64 - w).toNat IntKind.u64.bits = 64 - w.toNat := by simp only [IntKind.bits]; omega
  rw [e]
  have h : ∀ n : Fin 65, (18446744073709551615 : Int) / 2 ^ (64 - n.val) = 2 ^ n.val - 1 := by decide +kernel
  exact h ⟨w.toNat, by omega⟩
end Go.Proofs.Ythillgpbenjldaa.LebM
