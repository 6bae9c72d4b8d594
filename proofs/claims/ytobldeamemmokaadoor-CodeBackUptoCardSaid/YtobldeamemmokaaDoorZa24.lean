import Derived.Test.YtobldeamemmokaaDoorZa11
import Derived.Test.YtobldeamemmokaaDoorZa14
set_option linter.unusedVariables false
set_option linter.unusedSimpArgs false
set_option maxHeartbeats 64000000
namespace Go.Proofs.YtobldeamemmokaaDoor.P
open Go.RowKit Go.Proofs.YtobldeamemmokaaDoorW.PrintWords
mutual
def cI:I→Nat
 | ⟨_,_,_,_,_,_,_,_,_,_,b,e⟩=>1+cL b+cL e
def cL:List I→Nat
 | []=>0
 | x::l=>cI x+cL l
end
theorem qBc (x:I):cI x=1+cL x.body+cL x.els:=by cases x;rw[cI]
def mP:List P_→Nat
 | []=>0
 | p::rs=>3*cL (p.l.drop p.at_)+1+mP rs
def cP:List P_→Nat
 | []=>0
 | p::rs=>cL (p.l.drop p.at_)+cP rs
end Go.Proofs.YtobldeamemmokaaDoor.P
