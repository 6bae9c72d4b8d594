import Derived.Test.YtfbdmgdbamjjhaaDoorPx0
/-! Literal rows of structs, told short: an element's cells, and that they stand for the row. -/
namespace Go.Proofs.YtfbdmgdbamjjhaaDoor.P
open Go.RowKit Go.Proofs.YtfbdmgdbamjjhaaDoorW.PrintWords Go.Proofs.YtfbdmgdbamjjhaaDoorW.PrintLast Go.Proofs.YtfbdmgdbamjjhaaDoorW.PrintMore
set_option linter.unusedVariables false
def c70 (x : S70) : List Value := [.int .i64 x.f0, .string x.f1, .string x.f2, .string x.f3, .int .u8 x.f4, .string x.f5, .bool x.f6]
def c52 (x : S52) : List Value := [.int .u16 x.f0, .string x.f1, .string x.f2, .string x.f3, .int .u8 x.f4, .string x.f5, .bool x.f6]
theorem reps70 (w : World) (base : Nat) (ok : Nat → Prop) : ∀ xs : List S70, Reps (Kd.M k70 w base ok) 7 xs (xs.flatMap c70)
  | [] => Reps.none _ _
  | x :: xs => Reps.c7 (k70_mkM w base ok x) (reps70 w base ok xs)
theorem reps52 (w : World) (base : Nat) (ok : Nat → Prop) : ∀ xs : List S52, Reps (Kd.M k52 w base ok) 7 xs (xs.flatMap c52)
  | [] => Reps.none _ _
  | x :: xs => Reps.c7 (k52_mkM w base ok x) (reps52 w base ok xs)
end Go.Proofs.YtfbdmgdbamjjhaaDoor.P
