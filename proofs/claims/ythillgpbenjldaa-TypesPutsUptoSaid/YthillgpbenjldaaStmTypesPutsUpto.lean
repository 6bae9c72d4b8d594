/- The walk that the row of TypesPutsUpto wants, over the parts of what comes in. -/
import Derived.Test.YthillgpbenjldaaPx0
namespace Go.Proofs.Ythillgpbenjldaa.Stm
open Go.RowKit Go.Proofs.YthillgpbenjldaaW.PrintWords Go.Proofs.YthillgpbenjldaaW.PrintLast Go.Proofs.YthillgpbenjldaaW.PrintMore
def TypesPutsUpto : Prop := ∀ (A0_0 : Option Addr) (c0_0 : Nat) (l0_0 : List Int) (A0_1 : Option Addr) (c0_1 : Nat) (l0_1 : List Int) (a1_0 : Int) (a1_1 : Int) (a1_2 : Bool) (w : World), Kd.C (Kd.int .u8) w A0_0 l0_0.length l0_0 → l0_0.length ≤ c0_0 → l0_0.length ≤ maxLen → (∀ x ∈ l0_0, (Lit.int .u8 x).wf = true) → Kd.C (Kd.int .u8) w A0_1 l0_1.length l0_1 → l0_1.length ≤ c0_1 → l0_1.length ≤ maxLen → (∀ x ∈ l0_1, (Lit.int .u8 x).wf = true) → (Lit.int .u32 a1_0).wf = true → (Lit.int .u32 a1_1).wf = true → l0_0.length + l0_1.length ≤ 1048576 → 
  Calls Try.prog 10 #[.agg #[.slice A0_0 l0_0.length c0_0, .slice A0_1 l0_1.length c0_1], .agg #[.int .u32 a1_0, .int .u32 a1_1, .bool a1_2]] w fun e w' => e = .returned (.bool true) ∧ Below w.heap.size w w'
end Go.Proofs.Ythillgpbenjldaa.Stm
