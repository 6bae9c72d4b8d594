import Derived.Test.YtfbdmgdbamjjhaaDoorOa
/-! ops.Of at each number of the three pages, by the kernel's reckoning. -/
namespace Go.Proofs.YtfbdmgdbamjjhaaDoor.Ops
open Go Go.Proofs Go.RowKit Go.Proofs.YtfbdmgdbamjjhaaDoor.P
set_option maxRecDepth 100000
def at_ (o : Nat) : Bool := decide (ops_Of.f 400 (o : Int) = some (ans (o : Int) (tbl o)))
theorem at0 : (List.range 128).all (fun n => at_ n) = true := by decide +kernel
theorem at1 : (List.range 128).all (fun n => at_ (n + 128)) = true := by decide +kernel
theorem at2 : (List.range 256).all (fun n => at_ (n + 64512)) = true := by decide +kernel
theorem at3 : (List.range 128).all (fun n => at_ (n + 64768)) = true := by decide +kernel
theorem at4 : (List.range 128).all (fun n => at_ (n + 64896)) = true := by decide +kernel
end Go.Proofs.YtfbdmgdbamjjhaaDoor.Ops
