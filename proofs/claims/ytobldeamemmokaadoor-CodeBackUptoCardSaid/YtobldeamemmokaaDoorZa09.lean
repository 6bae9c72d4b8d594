import Derived.Outline
import Derived.Test.YtobldeamemmokaaDoorZa05
set_option linter.unusedVariables false
set_option linter.unusedSimpArgs false
set_option maxHeartbeats 64000000
namespace Go.Proofs.YtobldeamemmokaaDoor.P
open Go.RowKit Go.Proofs.YtobldeamemmokaaDoorW.PrintWords Go.Proofs.YtobldeamemmokaaDoorW.PrintLast Go.Proofs.YtobldeamemmokaaDoorW.PrintMore
structure P_ where
 l:List I
 at_:Nat
 high:Int
def zP:P_:=⟨[],0,0⟩
def kP (w0:World):Kd P_:=Kd.iso (Kd.pair (Kd.fixed (Kd.slice 43 kI) w0) (Kd.pair (Kd.int .i64) (Kd.int .i64))) (fun x:P_=>(x.l,(x.at_:Int),x.high))
theorem qGt {w0 w:World}{base:Nat}{ok:Nat→Prop}{x:P_}{cs:List Value}(h:(kP w0).M w base ok x cs):∃ A c,cs = [.slice A x.l.length c,.int .i64 (x.at_:Int),.int .i64 x.high]∧x.l.length≤c∧kI.C w0 A x.l.length x.l:=by
 obtain⟨_,_,rfl,⟨A,c,rfl,hl,hc⟩,⟨_,_,rfl,rfl,rfl⟩⟩:=h
 exact⟨A,c,rfl,hl,hc⟩
theorem qA1 (w0 w:World)(base:Nat)(ok:Nat→Prop)(x:P_){A:Option Addr}{c:Nat}(hl:x.l.length≤c)(hc:kI.C w0 A x.l.length x.l):(kP w0).M w base ok x [.slice A x.l.length c,.int .i64 (x.at_:Int),.int .i64 x.high]:=
 ⟨[.slice A x.l.length c],[.int .i64 (x.at_:Int),.int .i64 x.high],rfl,⟨A,c,rfl,hl,hc⟩,⟨[.int .i64 (x.at_:Int)],[.int .i64 x.high],rfl,rfl,rfl⟩⟩
theorem qBs:(Tryd.prog.info? 100).map (fun i=>(i.zero,i.size,i.bytes))=some (some (.agg #[.slice none 0 0,.int .i64 0,.int .i64 0]),3,40):=mDh
section
variable {P:Program} {ops:Array Oper} {rest:List Oper} {Q:Exit→Act→World→Prop}
theorem qD9 {oi:Oper} {a:Act} {w:World} (N:Option Tmp) (hd:oi.dst=N) (hg:oi.guard=none) {f:FuncId} {fn:Func} {az:Array Operand} {ts:Array TypeId} (o:Operand) (cap:Array Value) (hf:P.funcs[f]? = some fn) (hname:(fn.name == "runtime.NumGoroutine")=false) (hb:fn.body.isSome=true) (args:Array Value)
 (hop:oi.op = .call {callee:=.value o,args:=az,argTypes:=ts})(hov:a.eval o = .func (.func f) #[] cap)(hargs:az.map a.eval=args)
 (h:Calls P f (args++cap) w fun e w'=>∃ v,e = .returned v∧wpList P ops Q rest (a.put N v) w'):wpList P ops Q (oi::rest) a w:=by
 refine wpList_plain hg fun K hK=>?_
 have he:=qBt hf hname hb (args++cap) w
 have hrun:(execOp a.eval oi).run P w = .ok (.enter f (args++cap)) w:=by
  unfold execOp
  simp[hop,resolve,Deferred.ofValue,invoke,hargs,hov,he]
 unfold Oper.wp
 rw[hrun,Oper.upon_enter]
 refine h.mono fun e w'' hh=>?_
 obtain⟨v,rfl,hk⟩:=hh
 subst hd
 exact hK _ _ hk
end
def qw (o:Int):Bool:=o==2 || o==3 || o==4
def xg {σ:Type}(step:σ→I→Int→σ × Bool):Nat→List P_→σ→Option σ
 | 0,_,_=>none
 | k+1,[],s=>some s
 | k+1,p::rs,s=>if p.at_=p.l.length then xg step k rs s else if p.at_<p.l.length then (if (step s (p.l.getD p.at_ zI) p.high).2=true then (if rs.length<1000000000000 then xg step k
   ((if 0<(p.l.getD p.at_ zI).body.length then [⟨(p.l.getD p.at_ zI).body,0,(if qw (p.l.getD p.at_ zI).op=true then wrap64 (p.high+1) else p.high)⟩] else []) ++
    ((if 0<(p.l.getD p.at_ zI).els.length then [⟨(p.l.getD p.at_ zI).els,0,(if qw (p.l.getD p.at_ zI).op=true then wrap64 (p.high+1) else p.high)⟩] else [])++⟨p.l,p.at_+1,p.high⟩::rs)) (step s (p.l.getD p.at_ zI) p.high).1 else none) else some (step s (p.l.getD p.at_ zI) p.high).1) else none
def xq {σ:Type}(step:σ→I→Int→Option (σ × Bool)):Nat→List P_→σ→Option σ
 | 0,_,_=>none
 | k+1,[],s=>some s
 | k+1,p::rs,s=>if p.at_=p.l.length then xq step k rs s else if p.at_<p.l.length then (step s (p.l.getD p.at_ zI) p.high).bind fun q=>(if q.2=true then (if rs.length<1000000000000 then xq step k
   ((if 0<(p.l.getD p.at_ zI).body.length then [⟨(p.l.getD p.at_ zI).body,0,(if qw (p.l.getD p.at_ zI).op=true then wrap64 (p.high+1) else p.high)⟩] else []) ++
    ((if 0<(p.l.getD p.at_ zI).els.length then [⟨(p.l.getD p.at_ zI).els,0,(if qw (p.l.getD p.at_ zI).op=true then wrap64 (p.high+1) else p.high)⟩] else [])++⟨p.l,p.at_+1,p.high⟩::rs)) q.1 else none) else some q.1) else none
theorem qBQ {σ:Type}(step:σ→I→Int→σ × Bool):∀(k:Nat) (ps:List P_) (s:σ),xq (fun s x d=>some (step s x d)) k ps s=xg step k ps s
 | 0,_,_=>rfl
 | k+1,[],s=>rfl
 | k+1,p::rs,s=>by
   rw[xq,xg]
   simp only[Option.bind_some,qBQ step k]
theorem zy (o:Int)(w:World):Calls Tryd.prog 30 #[.int .u16 o] w fun e w'=>e = .returned (.bool (qw o))∧w=w':=by
 unfold qw
 by_cases h2:o=2
 ·subst h2
  go_enter Tryd.func30,Tryd.ntmps30
  go_wp2
  go_ret
  exact⟨rfl,rfl⟩
 ·by_cases h3:o=3
  ·subst h3
   go_enter Tryd.func30,Tryd.ntmps30
   go_wp2
   go_ret
   exact⟨rfl,rfl⟩
  ·have e2:(o==2)=false:=by simpa using h2
   have e3:(o==3)=false:=by simpa using h3
   go_enter Tryd.func30,Tryd.ntmps30
   go_wp2
   go_ret
   exact⟨by simp[e2,e3],rfl⟩
end Go.Proofs.YtobldeamemmokaaDoor.P
