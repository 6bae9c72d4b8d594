/- The walk that the row of TypesValues wants, over the parts of what comes in. -/
import Derived.Test.YthillgpbenjldaaPx0
namespace Go.Proofs.Ythillgpbenjldaa.Stm
open Go.RowKit Go.Proofs.YthillgpbenjldaaW.PrintWords Go.Proofs.YthillgpbenjldaaW.PrintLast Go.Proofs.YthillgpbenjldaaW.PrintMore
def TypesValues : Prop := ∀ (a0 : Int) (a1_0 : Int) (a1_1 : Int) (a1_2 : Int) (w : World), (Lit.int .u8 a0).wf = true → (Lit.int .u8 a1_0).wf = true → (Lit.int .u64 a1_1).wf = true → (Lit.int .u64 a1_2).wf = true → 
  Calls Try.prog 4 #[.int .u8 a0, .agg #[.int .u8 a1_0, .int .u64 a1_1, .int .u64 a1_2]] w fun e w' => e = .returned (.bool true) ∧ Below w.heap.size w w'
end Go.Proofs.Ythillgpbenjldaa.Stm
