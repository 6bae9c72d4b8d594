import Derived.Great.BuildSlice
import Derived.Test.YtobldeamemmokaaDoorZa13
import Derived.Test.YtobldeamemmokaaDoorZa24
set_option linter.unusedVariables false
set_option linter.unusedSimpArgs false
set_option maxHeartbeats 64000000
namespace Go.Proofs.YtobldeamemmokaaDoor.P
open Go.RowKit Go.Proofs.YtobldeamemmokaaDoorW.PrintWords Go.Proofs.YtobldeamemmokaaDoorW.PrintLast Go.Proofs.YtobldeamemmokaaDoorW.PrintMore
theorem qCX:(Tryd.prog.info? 43).map (fun i=>(i.zero,i.size,i.bytes))=some (some (.agg (qH zI (.slice none 0 0) (.slice none 0 0) (.slice none 0 0) (.slice none 0 0)).toArray),27,144):=mDh
theorem yJ:(Tryd.prog.info? 22).map (·.size)=some 1:=mDh
theorem qEh:(Tryd.prog.info? 37).map (·.size)=some 1:=mDh
theorem qA8:(Tryd.prog.info? 38).map (·.size)=some 1:=mDh
theorem yk (w:World)(x:I){Al At Ab Ae:Option Addr}{cl ct cb ce:Nat}(h16:x.v.length=16)(h1:L2 w x Al cl)(h2:T2 w x At ct)(h3:x.body.length≤cb∧kI.C w Ab x.body.length x.body)(h4:x.els.length≤ce∧kI.C w Ae x.els.length x.els):
 kI.K w x (qH x (.slice Al x.l.length cl) (.slice At x.t.length ct) (.slice Ab x.body.length cb) (.slice Ae x.els.length ce)):=by
 obtain⟨n1,q1⟩:=Kd.fix_C_back qBd h3.2
 obtain⟨n2,q2⟩:=Kd.fix_C_back qBd h4.2
 have r1:=Kd.upto_C_le qBd szI (show n1≤max n1 n2 by omega) q1
 have r2:=Kd.upto_C_le qBd szI (show n2≤max n1 n2 by omega) q2
 exact⟨max n1 n2+1,⟨[_],_,rfl,rfl,⟨[_],_,rfl,rfl,⟨[_],_,rfl,rfl,⟨[_],_,rfl,rfl,⟨zV (Value.int .u8) x.v,_,rfl,Kd.K_of_M _ (Kd.arr_of_cells (w:=w) (base:=0) (ok:=fun _=>True) h16),⟨[_],_,rfl,⟨Al,cl,rfl,h1.1,h1.2⟩,⟨[_],_,rfl,⟨At,ct,rfl,h2.1,h2.2⟩,⟨[_],_,rfl,rfl,⟨[_],_,rfl,rfl,⟨[_],_,rfl,rfl,⟨[_],_,rfl,⟨Ab,cb,rfl,h3.1,r1⟩,⟨Ae,ce,rfl,h4.1,r2⟩⟩⟩⟩⟩⟩⟩⟩⟩⟩⟩⟩⟩
theorem qB0 (w:World)(ty:TypeId)(g j:Nat)(v:Value)(cs:Array Value)(t:TypeId)(hb:w.heap[g]? = some (.cells cs t (0,0)))(hj:j<cs.size)(hi:(Tryd.prog.info? ty).map (·.size)=some 1)(h1:v.oneCell'=true):
 (storeVar ty ⟨g,j,none⟩ v).run Tryd.prog w = .ok () (w.setCell ⟨g,j,none⟩ v):=by
 have hc:w.cell? ⟨g,j,none⟩=some cs[j]:=(qA hb j).trans (Array.getElem?_eq_getElem hj)
 have hf:w.frozen? ⟨g,j,none⟩=false:=qD hb j
 cases hq:Tryd.prog.info? ty with
 | none=>simp[hq] at hi
 | some i =>
   have hs:i.size=1:=by simpa [hq] using hi
   have hvc:v.cells = #[v]:=by cases v <;> first|rfl|cases h1
   simp[storeVar,sizeOf,typeInfo,hq,hs,hvc,storeCells,Addr.add_zero',run_store _ _ _ _ _ h1,stored,hc,hf]
section
variable {ops:Array Oper} {rest:List Oper} {o:Oper} {a:Act} {w:World} {Q:Exit→Act→World→Prop} {Kc:Act→World→Prop}
theorem qT (hg:o.guard=none)(ty:TypeId)(x y:Operand)(ho:o.op = .store ty x y)(g j:Nat)(v:Value)(hx:a.eval x = .pointer (some ⟨g,j,none⟩))(hy:a.eval y=v)
 (t:TypeId) (cs cs':Array Value) (hb:w.heap[g]? = some (.cells cs t (0,0))) (hj:j<cs.size) (hi:(Tryd.prog.info? ty).map (·.size)=some 1) (h1:v.oneCell'=true) (hcs:cs.setIfInBounds j v=cs')
 (h:∀ w1,w1.heap[g]? = some (.cells cs' t (0,0))→(∀ k,k≠g→w1.heap[k]? = w.heap[k]?)→w1.heap.size=w.heap.size→(∀ B (w0:World),B≤g→Below B w0 w→Below B w0 w1)→wpList Tryd.prog ops Q rest (a.put o.dst undef) w1):wpList Tryd.prog ops Q (o::rest) a w:=
 wpList_plain hg fun _ hK=>by
  unfold Oper.wp execOp
  simp only[ho,hx,hy,Instr.storeAt,Instr.sureAddr,Sem.run_bind,Sem.run_pure,Result.andThen_ok,qB0 w ty g j v cs t hb hj hi h1]
  exact hK _ _ (h _ (qK hb j v hcs) (fun k hk=>Below.heap_setCell w _ v k hk) (by simp[World.setCell]) (fun B w0 hB hb2=>hb2.setCell hB v))
theorem zB (hw:Region.wanted o (yielded ops a.tmps)=true)(ty:TypeId)(x y:Operand)(ho:o.op = .store ty x y)(g j:Nat)(v:Value)(hx:a.eval x = .pointer (some ⟨g,j,none⟩))(hy:a.eval y=v)
 (t:TypeId) (cs cs':Array Value) (hb:w.heap[g]? = some (.cells cs t (0,0))) (hj:j<cs.size) (hi:(Tryd.prog.info? ty).map (·.size)=some 1) (h1:v.oneCell'=true) (hcs:cs.setIfInBounds j v=cs')
 (h:∀ w1,w1.heap[g]? = some (.cells cs' t (0,0))→(∀ k,k≠g→w1.heap[k]? = w.heap[k]?)→w1.heap.size=w.heap.size→(∀ B (w0:World),B≤g→Below B w0 w→Below B w0 w1)→Kc (a.put o.dst undef) w1):if Region.wanted o (yielded ops a.tmps)=true then Oper.wp Tryd.prog o a w Kc Q else Kc (a.put o.dst undef) w:=by
 rw[if_pos hw]
 unfold Oper.wp execOp
 simp only[ho,hx,hy,Instr.storeAt,Instr.sureAddr,Sem.run_bind,Sem.run_pure,Result.andThen_ok,qB0 w ty g j v cs t hb hj hi h1]
 exact h _ (qK hb j v hcs) (fun k hk=>Below.heap_setCell w _ v k hk) (by simp[World.setCell]) (fun B w0 hB hb2=>hb2.setCell hB v)
end
theorem qBx {o:Oper}{a:Act}{w:World}(x:Operand)(ho:o.op = .buildSlice 22 1 #[(0,x)])(cs:List Value)(hcs:cs.length=27)(hx:a.eval x = .agg cs.toArray):
 (execOp a.eval o).run Tryd.prog w = .ok (.value (.slice (some ⟨w.heap.size,0,none⟩) 1 1)) (w.alloc (.cells cs.toArray 43)):=by
 obtain⟨ie,hie,hz⟩:=Option.map_eq_some_iff.1 (show(Tryd.prog.info? 43).map (fun i=>(i.zero,i.size))=some (some (.agg (qH zI (.slice none 0 0) (.slice none 0 0) (.slice none 0 0) (.slice none 0 0)).toArray),27) by kernel_rfl)
 simp only[Prod.mk.injEq] at hz
 obtain⟨hz,hsz⟩:=hz
 have hv:∀ v ∈ [Value.agg cs.toArray],v.cells.size=27:=by
  intro v hv
  rcases List.mem_singleton.1 hv with rfl
  simp[Value.cells,hcs]
 have hf:=Great.fill_whole (s:=27) mDl [Value.agg cs.toArray] ((Array.range (1*27)).map (((Value.agg (qH zI (.slice none 0 0) (.slice none 0 0) (.slice none 0 0) (.slice none 0 0)).toArray).cells)[· % (((Value.agg (qH zI (.slice none 0 0) (.slice none 0 0) (.slice none 0 0) (.slice none 0 0)).toArray).cells)).size]!)) hv mDp
 have hr:=run_buildSlice (P:=Tryd.prog) w 22 43 1 #[(0,Value.agg cs.toArray)] cs.toArray ie _ Tryd.underlying22 hie hz (by rw[hsz];decide) (by rw[hsz];decide) (by rw[hsz];exact hf.trans (by simp[Value.cells]))
 unfold execOp
 simp only[ho,List.map_toArray,List.map_cons,List.map_nil,hx,Sem.run_bind,hr,Result.andThen_ok]
 rfl
theorem qGH {W:World}{cs:List Value}(base:Nat){y:I}{ok:Nat→Prop}(hM:kI.M W base ok y cs)(hcs:cs.length=27)(hf:ok W.heap.size)(hbase:base≤W.heap.size):kI.R 43 (W.alloc (.cells cs.toArray 43)) base ok (.slice (some ⟨W.heap.size,0,none⟩) 1 1) [y]:=by
 have hrep:Reps (kI.M W base ok) 27 [y] cs:=Reps.front hM hcs (Reps.none _ _) (List.append_nil _)
 refine⟨fun k hk=>?_,cs,?_,?_⟩
 ·have:W.heap.size=k:=by simpa [Value.ownBlock] using hk
  subst this
  exact hf
 ·have h2:=World.ownsRow_lit (base:=base) (e:=43) (size:=27) W cs.toArray 1 hbase mDl (by simp[hcs])
  have h3:(W.alloc (.cells cs.toArray 43)).ownsRow base 43 27 (.slice (some ⟨W.heap.size,0,none⟩) 1 1) 1 cs:=by simpa using h2
  exact h3
 ·refine hrep.imp_ (fun p c hp=>kI.M_mono (fun k hk=>⟨hk.1,fun he=>?_⟩) (Kd.M_below (kI.M_bound hp) (qh (Below.refl _ _) _)))
  have h3:k=W.heap.size:=by simpa [Value.ownBlock] using he
  have:=hk.2.2.1
  omega
theorem qCG {ops:Array Oper}{rest:List Oper}{o:Oper}{a:Act}{w0 W:World}{Q:Exit→Act→World→Prop}(base:Nat)(hg:o.guard=none)(x:Operand)(ho:o.op = .buildSlice 22 1 #[(0,x)])(cs:List Value)(hx:a.eval x = .agg cs.toArray)(hcs:cs.length=27)(y:I)(ok:Nat→Prop)(hM:kI.M W base ok y cs)(hf:ok W.heap.size)(HB:Below base w0 W)(hbase:base≤W.heap.size)
 (h:∀ v1 w1,kI.R 43 w1 base ok v1 [y]→Below base w0 w1→Below W.heap.size W w1→wpList Tryd.prog ops Q rest (a.put o.dst v1) w1):wpList Tryd.prog ops Q (o::rest) a W:=by
 cases hd:o.dst with
 | none =>
   exact mB2
 | some N =>
   exact mB2
theorem qIO {W:World}{base:Nat}{ok:Nat→Prop}{A:Option Addr}{n c:Nat}{xs:List I}(h:kI.R 43 W base ok (.slice A n c) xs):zW (kI.M W base ok) kI.sz W A n xs:=by
 obtain⟨A',c',e,_,hr⟩:=jW.reads h.2
 injection e with e1 e2 e3
 subst e1
 have e4:=hr.1
 subst e2
 exact zW.imp_ hr (Below.refl _ _) (fun p c hp=>kI.M_mono (fun k hk=>hk.1) hp)
theorem ze (x:I)(h:x.v.length=16)(vl vt vb ve u:Value):
 (qH x vl vt vb ve).toArray.setIfInBounds 20 u=(qH x u vt vb ve).toArray∧(qH x vl vt vb ve).toArray.setIfInBounds 21 u=(qH x vl u vb ve).toArray ∧
 (qH x vl vt vb ve).toArray.setIfInBounds 25 u=(qH x vl vt u ve).toArray∧(qH x vl vt vb ve).toArray.setIfInBounds 26 u=(qH x vl vt vb u).toArray:=by
 have hl:(zV (Value.int .u8) x.v).length=16:=by rw[q9];exact h
 have key:∀(j:Nat) (tl:List Value),(Value.int .u16 x.op :: .int .u32 x.a :: .int .u32 x.b :: .int .u64 x.n::(zV (Value.int .u8) x.v++tl)).set (20+j) u=(Value.int .u16 x.op :: .int .u32 x.a :: .int .u32 x.b :: .int .u64 x.n::(zV (Value.int .u8) x.v++tl.set j u)):=by
  intro j tl
  exact mB6
 simp only[List.setIfInBounds_toArray]
 exact⟨congrArg _ (key 0 _),congrArg _ (key 1 _),congrArg _ (key 5 _),congrArg _ (key 6 _)⟩
theorem ye (x:I)(h:x.v.length=16)(vl vt vb ve:Value):(qH x vl vt vb ve).toArray.size=27:=by rw[List.size_toArray];exact qL x h vl vt vb ve
def Cst (w W:World)(g:Nat)(x:I)(v3:Value)(pre:List I)(vl vt vb ve:Value):Prop:=
 W.heap[g]? = some (.cells (qH x vl vt vb ve).toArray 43 (0,0))∧kI.R 43 W w.heap.size (fun k=>k≠g) v3 pre∧Below w.heap.size w W∧w.heap.size≤g
theorem Cst.below {w W W1:World}{g:Nat}{x:I}{v3:Value}{pre:List I}{vl vt vb ve:Value}(h:Cst w W g x v3 pre vl vt vb ve)(hb:Below W.heap.size W W1):Cst w W1 g x v3 pre vl vt vb ve:=
 ⟨qG h.1 hb,Kd.R_below h.2.1 hb,qB h.2.2.1 hb,h.2.2.2⟩
def Rw {α:Type}(d:Kd α)(e:Nat)(w W:World)(g:Nat)(v3 v:Value)(xs:List α):Prop:=d.R e W w.heap.size (fun k=>k≠g∧some k≠v3.ownBlock) v xs
theorem Rw.below {α:Type}{d:Kd α}{e:Nat}{w W W1:World}{g:Nat}{v3 v:Value}{xs:List α}(h:Rw d e w W g v3 v xs)(hb:Below W.heap.size W W1):Rw d e w W1 g v3 v xs:=Kd.R_below h hb
theorem Cst.cells {w W:World}{g:Nat}{x:I}{v3:Value}{pre:List I}{vl vt vb ve:Value}(h:Cst w W g x v3 pre vl vt vb ve)(h16:x.v.length=16):W.cell? ⟨g,20,none⟩=some vl∧W.cell? ⟨g,21,none⟩=some vt∧W.cell? ⟨g,25,none⟩=some vb∧W.cell? ⟨g,26,none⟩=some ve:=by
 obtain⟨_,_,_,_,z20,z21,_,_,_,z25,z26⟩:=qa x h16 vl vt vb ve
 exact⟨(qA h.1 20).trans (by rw[List.getElem?_toArray];exact z20),(qA h.1 21).trans (by rw[List.getElem?_toArray];exact z21),(qA h.1 25).trans (by rw[List.getElem?_toArray];exact z25),(qA h.1 26).trans (by rw[List.getElem?_toArray];exact z26)⟩
mutual
def wI:I→Nat
 | ⟨_,_,_,_,_,l,t,_,_,_,b,e⟩=>1+l.length+t.length+wL b+wL e
def wL:List I→Nat
 | []=>0
 | x::l=>wI x+wL l
end
mutual
theorem qJG:∀(x:I),cI x≤wI x
 | ⟨_,_,_,_,_,l,t,_,_,_,b,e⟩=>by
   have h1:=qCA b
   have h2:=qCA e
   rw[cI,wI]
   generalize wL b=B at *
   generalize wL e=E at *
   omega
theorem qCA:∀(l:List I),cL l≤wL l
 | []=>Nat.le_refl _
 | x::l=>by
   have h1:=qJG x
   have h2:=qCA l
   rw[cL,wL]
   omega
end
def isT (t:Int):Bool:=(zw.f t).getD false
theorem qIj (t:Int):zw.f t=some (isT t):=by
 unfold isT
 unfold zw.f
 repeat (split;· rfl)
 rfl
def yV (bk bv bt:Int):Bool:=if bk=0 then (0==(0:Int) && (bv==0 && bt==0)) else if bk=1 then isT bv && bt==0 else bk==2 && bv==0
theorem qA2 (bk bv bt:Int)(w:World):Calls Tryd.prog 53 #[.agg #[.int .u8 bk,.int .u8 bv,.int .u32 bt]] w fun e w'=>e = .returned (.bool (yV bk bv bt))∧Below w.heap.size w w':=by
 unfold yV
 by_cases h0:bk=0
 ·subst h0
  rw[if_pos rfl]
  go_enter Tryd.func53,Tryd.ntmps53
  go_wp2_with (first
   | ((with_reducible refine qE (N:=9) rfl ?_);refine qEX rfl (.tmp 7) (.tmp 8) 41 rfl 0 bv bt 0 0 0 rfl rfl ?_))
  exact mB
 ·rw[if_neg h0]
  have e0:(bk==0)=false:=by simpa using h0
  by_cases h1:bk=1
  ·subst h1
   rw[if_pos rfl]
   have ht:=qIj bv
   cases hb:isT bv
   ·rw[hb] at ht
    have HT:=am ht
    clear ht hb h0
    go_enter Tryd.func53,Tryd.ntmps53
    go_wp2_with (first
     | (go_at_call 57;refine(zw.calls bv false _ HT.out).mono ?_;rintro e w' ⟨rfl,hw⟩;obtain⟨nd,rfl⟩:=hw))
    exact mB
   ·rw[hb] at ht
    have HT:=am ht
    clear ht hb h0
    go_enter Tryd.func53,Tryd.ntmps53
    go_wp2_with (first
     | (go_at_call 57;refine(zw.calls bv true _ HT.out).mono ?_;rintro e w' ⟨rfl,hw⟩;obtain⟨nd,rfl⟩:=hw))
    exact mB
  ·rw[if_neg h1]
   have e1:(bk==1)=false:=by simpa using h1
   cases e2:(bk==2)
   ·go_enter Tryd.func53,Tryd.ntmps53
    go_wp2
    exact mB
   ·go_enter Tryd.func53,Tryd.ntmps53
    go_wp2
    exact mB
theorem qHG (o:Int):Tryd.prog.built 43 [(0,.int .u16 o)]=some (qH {zI with op:=o} (.slice none 0 0) (.slice none 0 0) (.slice none 0 0) (.slice none 0 0)).toArray:=mDh
def qEd (cs:Array Value):Nat→List Value→Array Value
 | _,[]=>cs
 | o,v::vs=>qEd (cs.setIfInBounds o v) (o+1) vs
theorem jr {g:Nat}{t:TypeId}:∀(vs:List Value) (o:Nat) (w:World) (cs:Array Value),w.heap[g]? = some (.cells cs t (0,0))→(w.setCells g o vs).heap[g]? = some (.cells (qEd cs o vs) t (0,0))∧(∀ k,k≠g→(w.setCells g o vs).heap[k]? = w.heap[k]?)∧(w.setCells g o vs).heap.size=w.heap.size∧∀ B (w0:World),B≤g→Below B w0 w→Below B w0 (w.setCells g o vs)
 | [],o,w,cs,h=>⟨h,fun _ _=>rfl,rfl,fun _ _ _ hb=>hb⟩
 | v::vs,o,w,cs,h=>by
   obtain⟨h1,h2,h3,h4⟩:=jr vs (o+1) (w.setCell ⟨g,o,none⟩ v) _ (xO h o v)
   refine⟨h1,fun k hk=>(h2 k hk).trans (Below.heap_setCell w _ v k hk),h3.trans (by simp[World.setCell]),fun B w0 hB hb=>h4 B w0 hB (hb.setCell hB v)⟩
theorem qCv {w:World}{g o n:Nat}{cs:Array Value}{t:TypeId}(hb:w.heap[g]? = some (.cells cs t (0,0)))(hn:o+n≤cs.size):w.there g o n:=fun i hi =>
 ⟨by rw[qA hb (o+i),Array.getElem?_eq_getElem mDj];rfl,qD hb (o+i)⟩
section
variable {ops:Array Oper} {rest:List Oper} {o:Oper} {a:Act} {w:World} {Q:Exit→Act→World→Prop} {Kc:Act→World→Prop}
theorem qCm (hg:o.guard=none)(ty:TypeId)(x y:Operand)(ho:o.op = .store ty x y)(g j:Nat)(vs:List Value)(hx:a.eval x = .pointer (some ⟨g,j,none⟩))(hy:a.eval y = .agg vs.toArray)
 (t:TypeId) (cs cs':Array Value) (hb:w.heap[g]? = some (.cells cs t (0,0))) (hj:j+vs.length≤cs.size) (hi:(Tryd.prog.info? ty).map (·.size)=some vs.length) (h1:∀ v ∈ vs,v.oneCell'=true) (hcs:qEd cs j vs=cs')
 (h:∀ w1,w1.heap[g]? = some (.cells cs' t (0,0))→(∀ k,k≠g→w1.heap[k]? = w.heap[k]?)→w1.heap.size=w.heap.size→(∀ B (w0:World),B≤g→Below B w0 w→Below B w0 w1)→wpList Tryd.prog ops Q rest (a.put o.dst undef) w1):wpList Tryd.prog ops Q (o::rest) a w:=by
 obtain⟨q1,q2,q3,q4⟩:=jr vs j w cs hb
 exact wpList_store_mid hg ty x y ho g j vs.toArray hx hy (qCv hb (by simpa using hj)) (by simpa using hi) (all_oneCell_toArray h1) (h _ (hcs ▸ q1) q2 q3 q4)
theorem qDj (hw:Region.wanted o (yielded ops a.tmps)=true)(ty:TypeId)(x y:Operand)(ho:o.op = .store ty x y)(g j:Nat)(vs:List Value)(hx:a.eval x = .pointer (some ⟨g,j,none⟩))(hy:a.eval y = .agg vs.toArray)
 (t:TypeId) (cs cs':Array Value) (hb:w.heap[g]? = some (.cells cs t (0,0))) (hj:j+vs.length≤cs.size) (hi:(Tryd.prog.info? ty).map (·.size)=some vs.length) (h1:∀ v ∈ vs,v.oneCell'=true) (hcs:qEd cs j vs=cs')
 (h:∀ w1,w1.heap[g]? = some (.cells cs' t (0,0))→(∀ k,k≠g→w1.heap[k]? = w.heap[k]?)→w1.heap.size=w.heap.size→(∀ B (w0:World),B≤g→Below B w0 w→Below B w0 w1)→Kc (a.put o.dst undef) w1):if Region.wanted o (yielded ops a.tmps)=true then Oper.wp Tryd.prog o a w Kc Q else Kc (a.put o.dst undef) w:=by
 obtain⟨q1,q2,q3,q4⟩:=jr vs j w cs hb
 rw[if_pos hw]
 exact wp_store_mid ty x y ho g j vs.toArray hx hy (qCv hb (by simpa using hj)) (by simpa using hi) (all_oneCell_toArray h1) (h _ (hcs ▸ q1) q2 q3 q4)
end
theorem qBk (x:I)(h:x.v.length=16)(vl vt vb ve:Value)(bk bv bt:Int):qEd (qH x vl vt vb ve).toArray 22 [.int .u8 bk,.int .u8 bv,.int .u32 bt]=(qH {x with bk:=bk,bv:=bv,bt:=bt} vl vt vb ve).toArray:=by
 have hl:(zV (Value.int .u8) x.v).length=16:=by rw[q9];exact h
 have key:∀(j:Nat) (tl:List Value) (u:Value),(Value.int .u16 x.op :: .int .u32 x.a :: .int .u32 x.b :: .int .u64 x.n::(zV (Value.int .u8) x.v++tl)).set (20+j) u=(Value.int .u16 x.op :: .int .u32 x.a :: .int .u32 x.b :: .int .u64 x.n::(zV (Value.int .u8) x.v++tl.set j u)):=by
  intro j tl u
  exact mB6
 unfold qH
 simp only[qEd,List.setIfInBounds_toArray]
 rw[show(22:Nat)=20+2 from rfl,key 2,show(20+2+1:Nat)=20+3 from rfl,key 3,show(20+3+1:Nat)=20+4 from rfl,key 4]
 rfl
end Go.Proofs.YtobldeamemmokaaDoor.P
