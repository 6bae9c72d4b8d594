/- That the document's reading of the unsigned number comes to the word 'Us' too. -/
import Derived.Test.YthillgpbenjldaaMb
namespace Go.Proofs.Ythillgpbenjldaa.LebM
open Go.RowKit Go.Proofs.YthillgpbenjldaaW.PrintWords Go.Proofs.YthillgpbenjldaaW.PrintLast Go.Proofs.YthillgpbenjldaaW.PrintMore Go.Proofs.Ythillgpbenjldaa.P

theorem ones_bd {w : Nat} (h : w ≤ 64) : (2 : Int) ^ w ≤ 18446744073709551616 := by
  have := p2_le h
  have e : (2 : Int) ^ 64 = 18446744073709551616 := by decide
  omega

end Go.Proofs.Ythillgpbenjldaa.LebM
