-- Printed by a program of this session (wip/patch-print.py over the kit's print): Lean checks it.
import Derived.Test.YthillgpbenjldaaPx0
import Derived.Test.YthillgpbenjldaaPx2
namespace Go.Proofs.Ythillgpbenjldaa.P
open Go.RowKit Go.Proofs.YthillgpbenjldaaW.PrintWords Go.Proofs.YthillgpbenjldaaW.PrintLast Go.Proofs.YthillgpbenjldaaW.PrintMore
attribute [local go_sem] max2_int min2_int max_two min_two max_three min_three max_four min_four   -- for this text's walks alone
set_option linter.unusedVariables false
set_option linter.unusedSimpArgs false

theorem eqA47 (d : Nat) (w : World) (x0 y0 : Int) (x1 y1 : Int) (x2 y2 : Int) (x3 y3 : Bool) :
    (Op.equalIn (d + 3) 47 (.agg #[.int .u8 x0, .int .u32 x1, .int .u32 x2, .bool x3]) (.agg #[.int .u8 y0, .int .u32 y1, .int .u32 y2, .bool y3])).run Try.prog w = .ok (x0 == y0 && ((x1 == y1 && (x2 == y2 && (x3 == y3))))) w := by
  refine eqA_of Try.underlying47 (by kernel_rfl) ?_
  refine eqf_cons (by rfl) (by go_simp; rfl) (by go_simp; rfl) (by go_simp) ?_
  exact eqf_last (by rfl) (by go_simp) (by go_simp) (eqA45 (d + 0) w _ _ _ _ _ _)
end Go.Proofs.Ythillgpbenjldaa.P
