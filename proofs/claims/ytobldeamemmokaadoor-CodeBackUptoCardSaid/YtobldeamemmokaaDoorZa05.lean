import Derived.Test.YtobldeamemmokaaDoorProg
import Derived.Test.YtobldeamemmokaaDoorZa02
import Derived.Test.YtobldeamemmokaaDoorZa04
set_option linter.unusedVariables false
set_option linter.unusedSimpArgs false
set_option maxHeartbeats 64000000
namespace Go.Proofs.YtobldeamemmokaaDoor.P
open Go.Proofs.YtobldeamemmokaaDoorTabs
open Go.Proofs.YtobldeamemmokaaDoorCaps
open Go.RowKit Go.Proofs.YtobldeamemmokaaDoorW.PrintWords Go.Proofs.YtobldeamemmokaaDoorW.PrintLast Go.Proofs.YtobldeamemmokaaDoorW.PrintMore
section
attribute [local go_sem] jh jj xE xF jb jZ jv jt   -- for this text's walks alone
def qJy:Option Int→Value
 | none=>.nilIface
 | some c=>.iface 0 (.int .i64 c)
theorem qk:qJy none = .nilIface:=rfl
theorem qj (c:Int):qJy (some c) = .iface 0 (.int .i64 c):=rfl
structure ju where
 f0:Int
 f1:ByteArray
 f2:ByteArray
 f3:ByteArray
 f4:Int
 f5:ByteArray
 f6:Bool
def qJD:ju:=⟨(0:Int),(⟨#[]⟩:ByteArray),(⟨#[]⟩:ByteArray),(⟨#[]⟩:ByteArray),(0:Int),(⟨#[]⟩:ByteArray),false⟩
def qAg:Kd ju:=Kd.iso (Kd.pair (Kd.int .i64) (Kd.pair Kd.string (Kd.pair Kd.string (Kd.pair Kd.string (Kd.pair (Kd.int .u8) (Kd.pair Kd.string Kd.bool)))))) (fun x:ju=>(x.f0,x.f1,x.f2,x.f3,x.f4,x.f5,x.f6))
theorem qFh {w:World}{x:ju}{cs:List Value}(h:qAg.K w x cs):cs = [.int .i64 x.f0,.string x.f1,.string x.f2,.string x.f3,.int .u8 x.f4,.string x.f5,.bool x.f6]:=by
 obtain⟨_,_,rfl,rfl,⟨_,_,rfl,rfl,⟨_,_,rfl,rfl,⟨_,_,rfl,rfl,⟨_,_,rfl,rfl,⟨_,_,rfl,rfl,rfl⟩⟩⟩⟩⟩⟩:=h
 exact rfl
theorem qGl (w:World)(base:Nat)(ok:Nat→Prop)(x:ju): qAg.M w base ok x [.int .i64 x.f0,.string x.f1,.string x.f2,.string x.f3,.int .u8 x.f4,.string x.f5,.bool x.f6]:=⟨[.int .i64 x.f0],[.string x.f1,.string x.f2,.string x.f3,.int .u8 x.f4,.string x.f5,.bool x.f6],rfl,rfl,⟨[.string x.f1],[.string x.f2,.string x.f3,.int .u8 x.f4,.string x.f5,.bool x.f6],rfl,rfl,⟨[.string x.f2],[.string x.f3,.int .u8 x.f4,.string x.f5,.bool x.f6],rfl,rfl,⟨[.string x.f3],[.int .u8 x.f4,.string x.f5,.bool x.f6],rfl,rfl,⟨[.int .u8 x.f4],[.string x.f5,.bool x.f6],rfl,rfl,⟨[.string x.f5],[.bool x.f6],rfl,rfl,rfl⟩⟩⟩⟩⟩⟩
def qC (xs:List ju)(i:Int):ju:=xs.getD i.toNat qJD
theorem qG2 {w:World}{A:Option Addr}{n:Nat}{xs:List ju}(h:Kd.C qAg w A n xs)(i:Int)(h0:0≤i)(h1:i<n):∃ ad , A=some ad∧w.cell? (ad.add (i.toNat*7))=some (.int .i64 (qC xs i).f0)∧w.cell? ⟨(ad.add (i.toNat*7)).block,(ad.add (i.toNat*7)).off+1,none⟩=some (.string (qC xs i).f1)∧w.cell? ⟨(ad.add (i.toNat*7)).block,(ad.add (i.toNat*7)).off+2,none⟩=some (.string (qC xs i).f2)∧w.cell? ⟨(ad.add (i.toNat*7)).block,(ad.add (i.toNat*7)).off+3,none⟩=some (.string (qC xs i).f3)∧w.cell? ⟨(ad.add (i.toNat*7)).block,(ad.add (i.toNat*7)).off+4,none⟩=some (.int .u8 (qC xs i).f4)∧w.cell? ⟨(ad.add (i.toNat*7)).block,(ad.add (i.toNat*7)).off+5,none⟩=some (.string (qC xs i).f5)∧w.cell? ⟨(ad.add (i.toNat*7)).block,(ad.add (i.toNat*7)).off+6,none⟩=some (.bool (qC xs i).f6):=by
 obtain⟨ad,c,e,_,hK,hc0⟩:=Kd.C_get h qJD i h0 h1
 have hc:∀ j u,c[j]? = some u→w.cell? (ad.add (i.toNat*7+j))=some u:=hc0
 obtain rfl:=qFh hK
 exact⟨ad,e,hc 0 _ rfl,by rw[← xU _ _ 1 mDj];exact hc 1 _ rfl,by rw[← xU _ _ 2 mDj];exact hc 2 _ rfl,by rw[← xU _ _ 3 mDj];exact hc 3 _ rfl,by rw[← xU _ _ 4 mDj];exact hc 4 _ rfl,by rw[← xU _ _ 5 mDj];exact hc 5 _ rfl,by rw[← xU _ _ 6 mDj];exact hc 6 _ rfl⟩
abbrev bN:=@qJ
abbrev kN:=@z6
end
end Go.Proofs.YtobldeamemmokaaDoor.P
namespace Go.Proofs.YtobldeamemmokaaDoor.P
open Go.RowKit Go.Proofs.YtobldeamemmokaaDoorW.PrintWords Go.Proofs.YtobldeamemmokaaDoorW.PrintLast Go.Proofs.YtobldeamemmokaaDoorW.PrintMore
structure I where
 op:Int
 a:Int
 b:Int
 n:Int
 v:List Int
 l:List Int
 t:List Int
 bk:Int
 bv:Int
 bt:Int
 body:List I
 els:List I
def zI:I:=⟨0,0,0,0,List.replicate 16 0,[],[],0,0,0,[],[]⟩
instance:Inhabited I:=⟨zI⟩
def Kv:Kd (List Int):=Kd.arr 16 (Kd.int .u8) mDl
def FI (d:Kd I):Kd I:=Kd.iso (Kd.pair (Kd.int .u16) (Kd.pair (Kd.int .u32) (Kd.pair (Kd.int .u32) (Kd.pair (Kd.int .u64) (Kd.pair Kv (Kd.pair (Kd.slice 34 (Kd.int .u32)) (Kd.pair (Kd.slice 39 (Kd.int .u8)) (Kd.pair (Kd.int .u8) (Kd.pair (Kd.int .u8) (Kd.pair (Kd.int .u32) (Kd.pair (Kd.slice 43 d) (Kd.slice 43 d)))))))))))) (fun x:I=>(x.op,x.a,x.b,x.n,x.v,x.l,x.t,x.bk,x.bv,x.bt,x.body,x.els))
theorem qBd:Kd.Mono FI:=Kd.mono_iso _ (Kd.mono_pair (Kd.mono_const _) (Kd.mono_pair (Kd.mono_const _) (Kd.mono_pair (Kd.mono_const _) (Kd.mono_pair (Kd.mono_const _) (Kd.mono_pair (Kd.mono_const _) (Kd.mono_pair (Kd.mono_const _) (Kd.mono_pair (Kd.mono_const _) (Kd.mono_pair (Kd.mono_const _) (Kd.mono_pair (Kd.mono_const _) (Kd.mono_pair (Kd.mono_const _) (Kd.mono_pair (Kd.mono_slice 43 Kd.mono_id) (Kd.mono_slice 43 Kd.mono_id))))))))))))
theorem qJN:Kd.Sub FI [34,39,43]:=Kd.sub_iso _ (Kd.sub_pair (Kd.sub_const _ mDl) (Kd.sub_pair (Kd.sub_const _ mDl) (Kd.sub_pair (Kd.sub_const _ mDl) (Kd.sub_pair (Kd.sub_const _ mDl) (Kd.sub_pair (Kd.sub_const _ mDl) (Kd.sub_pair (Kd.sub_const _ mDl) (Kd.sub_pair (Kd.sub_const _ mDl) (Kd.sub_pair (Kd.sub_const _ mDl) (Kd.sub_pair (Kd.sub_const _ mDl) (Kd.sub_pair (Kd.sub_const _ mDl) (Kd.sub_pair (Kd.sub_slice 43 mDl Kd.sub_id) (Kd.sub_slice 43 mDl Kd.sub_id))))))))))))
theorem szI:∀ n,(Kd.upto FI 27 [34,39,43] n).sz=27:=Kd.upto_sz (fun _=>rfl)
def kI:Kd I:=Kd.fix FI 27 [34,39,43] szI (Kd.upto_E qJN)
def qH (x:I)(vl vt vb ve:Value):List Value:=.int .u16 x.op :: .int .u32 x.a :: .int .u32 x.b :: .int .u64 x.n::(zV (Value.int .u8) x.v ++ [vl,vt,.int .u8 x.bk,.int .u8 x.bv,.int .u32 x.bt,vb,ve])
theorem xk {w:World}{x:I}{cs:List Value}(h:kI.K w x cs):∃ Al cl At ct Ab cb Ae ce,cs=qH x (.slice Al x.l.length cl) (.slice At x.t.length ct) (.slice Ab x.body.length cb) (.slice Ae x.els.length ce)∧x.v.length=16∧(x.l.length≤cl∧(Kd.int .u32).C w Al x.l.length x.l)∧(x.t.length≤ct∧(Kd.int .u8).C w At x.t.length x.t)∧(x.body.length≤cb∧kI.C w Ab x.body.length x.body)∧x.els.length≤ce∧kI.C w Ae x.els.length x.els:=by
 obtain⟨n,h⟩:=h
 cases n with
 | zero=>exact h.elim
 | succ n =>
   obtain⟨_,_,rfl,rfl,⟨_,_,rfl,rfl,⟨_,_,rfl,rfl,⟨_,_,rfl,rfl,⟨_,_,rfl,s4,⟨_,_,rfl,⟨Al,cl,rfl,ll,gl⟩,⟨_,_,rfl,⟨At,ct,rfl,lt,gt⟩,⟨_,_,rfl,rfl,⟨_,_,rfl,rfl,⟨_,_,rfl,rfl,⟨_,_,rfl,⟨Ab,cb,rfl,lb,gb⟩,⟨Ae,ce,rfl,le,ge⟩⟩⟩⟩⟩⟩⟩⟩⟩⟩⟩⟩:=h
   obtain⟨h16,rfl⟩:=Kd.arr_cells s4
   exact⟨Al,cl,At,ct,Ab,cb,Ae,ce,rfl,h16,⟨ll,gl⟩,⟨lt,gt⟩,⟨lb,Kd.fix_C gb⟩,le,Kd.fix_C ge⟩
theorem qFX {w:World}{base:Nat}{ok:Nat→Prop}{x:I}{cs:List Value}(h:kI.M w base ok x cs):∃ vl vt vb ve,cs=qH x vl vt vb ve∧x.v.length=16∧(Kd.int .u32).R 34 w base ok vl x.l∧(Kd.int .u8).R 39 w base ok vt x.t∧kI.R 43 w base ok vb x.body∧kI.R 43 w base ok ve x.els:=by
 obtain⟨n,h⟩:=h
 cases n with
 | zero=>exact h.elim
 | succ n =>
   obtain⟨_,_,rfl,rfl,⟨_,_,rfl,rfl,⟨_,_,rfl,rfl,⟨_,_,rfl,rfl,⟨_,_,rfl,s4,⟨_,_,rfl,⟨vl,rfl,gl⟩,⟨_,_,rfl,⟨vt,rfl,gt⟩,⟨_,_,rfl,rfl,⟨_,_,rfl,rfl,⟨_,_,rfl,rfl,⟨_,_,rfl,⟨vb,rfl,gb⟩,⟨ve,rfl,ge⟩⟩⟩⟩⟩⟩⟩⟩⟩⟩⟩⟩:=h
   obtain⟨h16,rfl⟩:=Kd.arr_cells (w:=w) (Kd.K_of_M _ s4)
   exact⟨vl,vt,vb,ve,rfl,h16,gl,gt,Kd.fix_R gb,Kd.fix_R ge⟩
theorem qBa (w:World)(base:Nat)(ok:Nat→Prop)(x:I){vl vt vb ve:Value}(h16:x.v.length=16)(gl:(Kd.int .u32).R 34 w base ok vl x.l)(gt:(Kd.int .u8).R 39 w base ok vt x.t)(gb:kI.R 43 w base ok vb x.body)(ge:kI.R 43 w base ok ve x.els):kI.M w base ok x (qH x vl vt vb ve):=by
 obtain⟨n1,q1⟩:=Kd.fix_R_back qBd gb
 obtain⟨n2,q2⟩:=Kd.fix_R_back qBd ge
 have r1:=Kd.upto_R_le qBd szI (show n1≤max n1 n2 by omega) q1
 have r2:=Kd.upto_R_le qBd szI (show n2≤max n1 n2 by omega) q2
 exact⟨max n1 n2+1,⟨[_],_,rfl,rfl,⟨[_],_,rfl,rfl,⟨[_],_,rfl,rfl,⟨[_],_,rfl,rfl,⟨zV (Value.int .u8) x.v,_,rfl,Kd.arr_of_cells h16,⟨[_],_,rfl,⟨vl,rfl,gl⟩,⟨[_],_,rfl,⟨vt,rfl,gt⟩,⟨[_],_,rfl,rfl,⟨[_],_,rfl,rfl,⟨[_],_,rfl,rfl,⟨[_],_,rfl,⟨vb,rfl,r1⟩,⟨ve,rfl,r2⟩⟩⟩⟩⟩⟩⟩⟩⟩⟩⟩⟩⟩
theorem qL (x:I)(h:x.v.length=16)(vl vt vb ve:Value):(qH x vl vt vb ve).length=27:=by
 simp[qH,q9,h]
theorem qa (x:I)(h:x.v.length=16)(vl vt vb ve:Value):(qH x vl vt vb ve)[0]? = some (.int .u16 x.op)∧(qH x vl vt vb ve)[1]? = some (.int .u32 x.a)∧(qH x vl vt vb ve)[2]? = some (.int .u32 x.b)∧(qH x vl vt vb ve)[3]? = some (.int .u64 x.n)∧
 (qH x vl vt vb ve)[20]? = some vl∧(qH x vl vt vb ve)[21]? = some vt∧(qH x vl vt vb ve)[22]? = some (.int .u8 x.bk)∧(qH x vl vt vb ve)[23]? = some (.int .u8 x.bv)∧(qH x vl vt vb ve)[24]? = some (.int .u32 x.bt)∧(qH x vl vt vb ve)[25]? = some vb∧(qH x vl vt vb ve)[26]? = some ve:=by
 have hl:(zV (Value.int .u8) x.v).length=16:=by rw[q9];exact h
 have key:∀ j u,[vl,vt,Value.int .u8 x.bk,.int .u8 x.bv,.int .u32 x.bt,vb,ve][j]? = some u→(qH x vl vt vb ve)[20+j]? = some u:=by
  intro j u hj
  have e:(qH x vl vt vb ve)[20+j]? = (zV (Value.int .u8) x.v ++ [vl,vt,Value.int .u8 x.bk,.int .u8 x.bv,.int .u32 x.bt,vb,ve])[16+j]?:=by
   show(_::_::_::_::_)[20+j]? = _
   rw[show 20+j=(16+j)+1+1+1+1 by omega]
   rfl
  rw[e,List.getElem?_append_right mDj,hl,Nat.add_sub_cancel_left]
  exact hj
 exact⟨rfl,rfl,rfl,rfl,key 0 _ rfl,key 1 _ rfl,key 2 _ rfl,key 3 _ rfl,key 4 _ rfl,key 5 _ rfl,key 6 _ rfl⟩
abbrev L2 (w:World)(x:I)(Al:Option Addr)(cl:Nat):Prop:=x.l.length≤cl∧(Kd.int .u32).C w Al x.l.length x.l
abbrev T2 (w:World)(x:I)(At:Option Addr)(ct:Nat):Prop:=x.t.length≤ct∧(Kd.int .u8).C w At x.t.length x.t
end Go.Proofs.YtobldeamemmokaaDoor.P
