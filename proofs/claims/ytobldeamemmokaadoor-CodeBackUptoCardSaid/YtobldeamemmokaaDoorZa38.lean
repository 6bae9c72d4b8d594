import Derived.Test.YtobldeamemmokaaDoorZa28
set_option linter.unusedVariables false
set_option linter.unusedSimpArgs false
set_option maxHeartbeats 64000000
namespace Go.Proofs.YtobldeamemmokaaDoor.P
open Go.RowKit Go.Proofs.YtobldeamemmokaaDoorW.PrintWords Go.Proofs.YtobldeamemmokaaDoorW.PrintLast Go.Proofs.YtobldeamemmokaaDoorW.PrintMore
def qFs (o:Nat)(q:Int × ByteArray × Int × List Int × List Int × Int × Bool × Int):Bool:=
 if q.2.2.2.2.2.2.2=0 then q.1==(o:Int) && ((q.2.2.1==1)==qw (o:Int) && ((q.2.2.1==12 || q.2.2.1==13)==((o:Int)==64520 || (o:Int)==64521) && (o != 5 && (o != 11 && (o != 252 && o != 253)))))
 else q.2.2.1==0
def qD8 (o:Nat):Bool:=(qW.f 300 (o:Int)).any (qFs o)
set_option maxRecDepth 100000
theorem qIy:(List.range 128).all (fun n=>qD8 n)=true:=by decide +kernel
theorem qIS:(List.range 128).all (fun n=>qD8 (n+128))=true:=by decide +kernel
theorem qIM:(List.range 256).all (fun n=>qD8 (n+64512))=true:=by decide +kernel
theorem qIa:(List.range 128).all (fun n=>qD8 (n+64768))=true:=by decide +kernel
theorem qIN:(List.range 128).all (fun n=>qD8 (n+64896))=true:=by decide +kernel
theorem qHC {n:Int}(h0:0≤n)(h:n<9223372036854775808):wrap64 n=n:=by unfold wrap64;omega
theorem qGe (o:Int)(h:256≤o∧o<64512∨65024≤o∧o<65536)(k:Nat):qn.f (k+3) o=some (⟨#[]⟩,⟨#[]⟩,0,0,false,false):=by
 have hw:wrap64 o=o:=qHC mDj mDj
 unfold qn.f
 rw[hw]
 rcases h with h|h
 ·rw[if_neg mDj]
  simp only[qn.j0]
  rw[if_neg mDl,if_neg mDj]
  simp only[qn.j1]
  rw[if_neg mDl,if_pos mDj]
 ·have hd:decide (o≤65023)=false:=decide_eq_false mDj
  rw[if_pos mDj,hd]
  simp only[qn.j0]
  have hd2:decide (o≤64767)=false:=decide_eq_false mDj
  rw[if_neg mDl,if_pos mDj,hd2]
  simp only[qn.j1]
  rw[if_neg mDl,if_pos mDj]
theorem qD1 (o:Int)(h:256≤o∧o<64512∨65024≤o∧o<65536):qW.f 300 o=some (0,⟨#[]⟩,0,[],[],0,false,11):=by
 unfold qW.f
 rw[qGe o h 297]
 rfl
theorem yH {p:Nat→Bool}{n:Nat}(h:(List.range n).all p=true):∀ i,i<n→p i=true:=fun i hi=>List.all_eq_true.1 h i (List.mem_range.2 hi)
theorem qHU (o:Nat)(ho:o<65536):qD8 o=true∨(¬ o<256∧qW.f 300 (o:Int)=some (0,⟨#[]⟩,0,[],[],0,false,11)):=by
 by_cases h1:o<128
 ·exact .inl (yH qIy o h1)
 by_cases h2:o<256
 ·have:=yH qIS (o - 128) mDj
  rw[show o - 128+128=o by omega] at this
  exact .inl this
 by_cases h3:o<64512
 ·exact .inr ⟨mDj,qD1 _ mDj⟩
 by_cases h4:o<64768
 ·have:=yH qIM (o - 64512) mDj
  rw[show o - 64512+64512=o by omega] at this
  exact .inl this
 by_cases h5:o<64896
 ·have:=yH qIa (o - 64768) mDj
  rw[show o - 64768+64768=o by omega] at this
  exact .inl this
 by_cases h6:o<65024
 ·have:=yH qIN (o - 64896) mDj
  rw[show o - 64896+64896=o by omega] at this
  exact .inl this
 ·exact .inr ⟨mDj,qD1 _ mDj⟩
end Go.Proofs.YtobldeamemmokaaDoor.P
