/- The walk that the row of TypesFit wants, over the parts of what comes in. -/
import Derived.Test.YthillgpbenjldaaPx0
namespace Go.Proofs.Ythillgpbenjldaa.Stm
open Go.RowKit Go.Proofs.YthillgpbenjldaaW.PrintWords Go.Proofs.YthillgpbenjldaaW.PrintLast Go.Proofs.YthillgpbenjldaaW.PrintMore
def TypesFit : Prop := ∀ (a0_0 : Int) (a0_1_0 : Int) (a0_1_1 : Int) (a0_1_2 : Bool) (a1_0 : Int) (a1_1_0 : Int) (a1_1_1 : Int) (a1_1_2 : Bool) (a2_0 : Int) (a2_1_0 : Int) (a2_1_1 : Int) (a2_1_2 : Bool) (w : World), (Lit.int .u8 a0_0).wf = true → (Lit.int .u32 a0_1_0).wf = true → (Lit.int .u32 a0_1_1).wf = true → (Lit.int .u8 a1_0).wf = true → (Lit.int .u32 a1_1_0).wf = true → (Lit.int .u32 a1_1_1).wf = true → (Lit.int .u8 a2_0).wf = true → (Lit.int .u32 a2_1_0).wf = true → (Lit.int .u32 a2_1_1).wf = true → 
  Calls Try.prog 6 #[.agg #[.int .u8 a0_0, .int .u32 a0_1_0, .int .u32 a0_1_1, .bool a0_1_2], .agg #[.int .u8 a1_0, .int .u32 a1_1_0, .int .u32 a1_1_1, .bool a1_1_2], .agg #[.int .u8 a2_0, .int .u32 a2_1_0, .int .u32 a2_1_1, .bool a2_1_2]] w fun e w' => e = .returned (.bool true) ∧ Below w.heap.size w w'
end Go.Proofs.Ythillgpbenjldaa.Stm
