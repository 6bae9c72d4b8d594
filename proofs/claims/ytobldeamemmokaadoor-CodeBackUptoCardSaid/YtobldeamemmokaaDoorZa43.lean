import Derived.Test.YtobldeamemmokaaDoorZa42
set_option linter.unusedVariables false
set_option linter.unusedSimpArgs false
set_option maxHeartbeats 64000000
namespace Go.Proofs.YtobldeamemmokaaDoor.P
open Go.RowKit Go.Proofs.YtobldeamemmokaaDoorW.PrintWords Go.Proofs.YtobldeamemmokaaDoorW.PrintLast Go.Proofs.YtobldeamemmokaaDoorW.PrintMore
theorem qEP {l:List I}(hr:alL xM l)(hw:wL l≤1048576)(hm:qB4 300 l=true):∃ bs kf,qF4 300 l bs kf∧bs.length≤62914561∧Bs bs:=by
 obtain⟨hd,hA⟩:=(qBK ofK hr).1 hm
 have hcl:=qCA l
 have hnl:=qEQ (k:=1999999) ofK rfl l hA
 obtain⟨bs,kf,hp⟩:=qEK (k:=1999999) ofK rfl hA mDj mDj
 have hl:=hp.len
 exact⟨bs,kf,hp,mDj,hp.by_,mDj⟩
end Go.Proofs.YtobldeamemmokaaDoor.P
