/- The walk that the row of TypesFreshUpto wants, over the parts of what comes in. -/
import Derived.Test.YthillgpbenjldaaPx0
namespace Go.Proofs.Ythillgpbenjldaa.Stm
open Go.RowKit Go.Proofs.YthillgpbenjldaaW.PrintWords Go.Proofs.YthillgpbenjldaaW.PrintLast Go.Proofs.YthillgpbenjldaaW.PrintMore
def TypesFreshUpto : Prop := ∀ (A0 : Option Addr) (c0 : Nat) (l0 : List Int) (A1_0 : Option Addr) (c1_0 : Nat) (l1_0 : List Int) (A1_1 : Option Addr) (c1_1 : Nat) (l1_1 : List Int) (w : World), Kd.C (Kd.int .u8) w A0 l0.length l0 → l0.length ≤ c0 → l0.length ≤ maxLen → (∀ x ∈ l0, (Lit.int .u8 x).wf = true) → Kd.C (Kd.int .u8) w A1_0 l1_0.length l1_0 → l1_0.length ≤ c1_0 → l1_0.length ≤ maxLen → (∀ x ∈ l1_0, (Lit.int .u8 x).wf = true) → Kd.C (Kd.int .u8) w A1_1 l1_1.length l1_1 → l1_1.length ≤ c1_1 → l1_1.length ≤ maxLen → (∀ x ∈ l1_1, (Lit.int .u8 x).wf = true) → l0.length + l1_0.length + l1_1.length ≤ 1048576 → 
  Calls Try.prog 8 #[.slice A0 l0.length c0, .agg #[.slice A1_0 l1_0.length c1_0, .slice A1_1 l1_1.length c1_1]] w fun e w' => e = .returned (.bool true) ∧ Below w.heap.size w w'
end Go.Proofs.Ythillgpbenjldaa.Stm
