import Derived.Test.YtobldeamemmokaaDoorZa43
set_option linter.unusedVariables false
set_option linter.unusedSimpArgs false
set_option maxHeartbeats 64000000
namespace Go.Proofs.YtobldeamemmokaaDoor.P
open Go.RowKit Go.Proofs.YtobldeamemmokaaDoorW.PrintWords Go.Proofs.YtobldeamemmokaaDoorW.PrintLast Go.Proofs.YtobldeamemmokaaDoorW.PrintMore
theorem qBm (A B:Option Addr)(c d:Nat)(l:List I)(w:World)(hc:l.length≤c)(hl:kI.C w A l.length l)(hd:l.length≤d)(hm:kI.C w B l.length l)(hn:cL l≤1000000000):
 Calls Tryd.prog 20 #[.slice A l.length c,.slice B l.length d] w fun e w'=>e = .returned (.bool true)∧Below w.heap.size w w':=by
 have h:=qFB l l hn
 rw[yG] at h
 exact qEk _ A B c d l l true w hc hl hd hm h
end Go.Proofs.YtobldeamemmokaaDoor.P
