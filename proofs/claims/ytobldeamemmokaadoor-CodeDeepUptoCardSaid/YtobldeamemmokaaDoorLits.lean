import Derived.Test.YtobldeamemmokaaDoorPx0
/-! Literal rows of structs, told short: an element's cells, and that they stand for the row. -/
namespace Go.Proofs.YtobldeamemmokaaDoor.P
open Go.RowKit Go.Proofs.YtobldeamemmokaaDoorW.PrintWords Go.Proofs.YtobldeamemmokaaDoorW.PrintLast Go.Proofs.YtobldeamemmokaaDoorW.PrintMore
set_option linter.unusedVariables false
def c134 (x : S134) : List Value := [.int .i64 x.f0, .string x.f1, .string x.f2, .string x.f3, .int .u8 x.f4, .string x.f5, .bool x.f6]
theorem reps134 (w : World) (base : Nat) (ok : Nat → Prop) : ∀ xs : List S134, Reps (Kd.M k134 w base ok) 7 xs (xs.flatMap c134)
  | [] => Reps.none _ _
  | x :: xs => Reps.c7 (k134_mkM w base ok x) (reps134 w base ok xs)
end Go.Proofs.YtobldeamemmokaaDoor.P

