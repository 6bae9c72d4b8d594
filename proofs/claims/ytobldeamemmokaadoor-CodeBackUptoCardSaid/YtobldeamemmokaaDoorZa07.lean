import Derived.Test.YtobldeamemmokaaDoorZa05
import Derived.Test.YtobldeamemmokaaDoorZa06
set_option linter.unusedVariables false
set_option linter.unusedSimpArgs false
set_option maxHeartbeats 64000000
namespace Go.Proofs.YtobldeamemmokaaDoor.P
open Go.RowKit Go.Proofs.YtobldeamemmokaaDoorW.PrintWords Go.Proofs.YtobldeamemmokaaDoorW.PrintLast Go.Proofs.YtobldeamemmokaaDoorW.PrintMore
theorem qHV:(Tryd.prog.info? 5).map (·.size)=some 1:=mDh
theorem qHY (w:World)(xs:List Int)(i:Nat)(h:i<xs.length):(part 5 (zV (Value.int .u8) xs).toArray i).run Tryd.prog w = .ok (.int .u8 xs[i]) w:=by
 have hagg:(isAgg 5).run Tryd.prog w = .ok false w:=by
  unfold isAgg
  rw[Sem.run_bind,run_underlying Tryd.underlying5 w]
  rfl
 unfold part
 have e:(zV (Value.int .u8) xs).toArray[i]? = some (.int .u8 xs[i]):=by
  rw[List.getElem?_toArray]
  simp[zV,h]
 rw[Sem.run_bind,hagg,Result.andThen_ok,e]
 rfl
theorem qGi (d:Nat)(xs ys:List Int):∀(n i:Nat) (w:World),xs.length=i+n→ys.length=i+n→(Sem.run Tryd.prog (forIn (List.range' i n) (none,()) fun i (__s:Option Bool × Unit)=>do
 let __do_lift ← part 5 (zV (Value.int IntKind.u8) xs).toArray (i*1)
 let __do_lift_1 ← part 5 (zV (Value.int IntKind.u8) ys).toArray (i*1)
 let __do_lift ← Op.equalIn (d+1) 5 __do_lift __do_lift_1
 if (!__do_lift)=true then pure (ForInStep.done (some false,())) else pure (ForInStep.yield (none,())))
 w) = .ok (if xs.drop i=ys.drop i then (none,()) else (some false,())) w
 | 0,i,w,hx,hy=>by
   rw[if_pos (by rw[List.drop_eq_nil_of_le mDj,List.drop_eq_nil_of_le mDj])]
   rfl
 | n+1,i,w,hx,hy=>by
   have h1:i<xs.length:=mDj
   have h2:i<ys.length:=mDj
   have he:=run_equalIn_int (P:=Tryd.prog) w d 5 .u8 .u8 xs[i] ys[i] Tryd.underlying5
   simp only[List.range'_succ,List.forIn_cons,Sem.run_bind,Nat.mul_one,qHY w xs i h1,qHY w ys i h2,Result.andThen_ok,he]
   have ih:=qGi d xs ys n (i+1) w mDj mDj
   simp only[Nat.mul_one] at ih
   rw[List.drop_eq_getElem_cons h1,List.drop_eq_getElem_cons h2]
   by_cases e:xs[i]=ys[i]
   ·have e1:(xs[i]==ys[i])=true:=beq_iff_eq.mpr e
    simp only[e1,Bool.not_true,Bool.false_eq_true,if_false,Sem.run_pure,Result.andThen_ok]
    rw[ih,e]
    simp only[List.cons.injEq,true_and]
   ·have e1:(xs[i]==ys[i])=false:=beq_eq_false_iff_ne.mpr e
    simp only[e1,Bool.not_false,if_true,Sem.run_pure,Result.andThen_ok]
    rw[if_neg (by intro h;exact e (List.cons.inj h).1)]
theorem eqB (w:World)(d:Nat)(xs ys:List Int)(hx:xs.length=16)(hy:ys.length=16):
 (Op.equalIn (d+2) 36 (.agg (zV (Value.int .u8) xs).toArray) (.agg (zV (Value.int .u8) ys).toArray)).run Tryd.prog w = .ok (xs==ys) w:=by
 have hu:=Tryd.underlying36
 have hs:(sizeOf 5).run Tryd.prog w = .ok 1 w:=by
  have:=qHV
  cases hq:Tryd.prog.info? 5 with
  | none=>simp[hq] at this
  | some i =>
    have hi:i.size=1:=by simpa [hq] using this
    simp[sizeOf,typeInfo,hq,hi]
 have hl:=qGi d xs ys 16 0 w mDj mDj
 rw[Op.equalIn]
 simp only[Sem.run_bind,run_underlying hu,Result.andThen_ok,hs,Std.Legacy.Range.forIn_eq_forIn_range',Std.Legacy.Range.size]
 rw[show(16 - 0+1 - 1) / 1=16 from rfl,hl,Result.andThen_ok]
 simp only[List.drop_zero]
 by_cases e:xs=ys
 ·rw[if_pos e,show(xs==ys)=true from beq_iff_eq.mpr e]
  rfl
 ·rw[if_neg e,show(xs==ys)=false from beq_eq_false_iff_ne.mpr e]
  rfl
theorem qJS (d:Nat)(w:World)(x0 y0:Int)(x1 y1:Int)(x2 y2:Int):
 (Op.equalIn (d+2) 41 (.agg #[.int .u8 x0,.int .u8 x1,.int .u32 x2]) (.agg #[.int .u8 y0,.int .u8 y1,.int .u32 y2])).run Tryd.prog w = .ok (x0==y0 && (x1==y1 && (x2==y2))) w:=by
 refine qH6 Tryd.underlying41 mDh ?_
 refine qDg mD2 (by go_simp;rfl) (by go_simp;rfl) (by go_simp) ?_
 refine qDg mD2 (by go_simp;rfl) (by go_simp;rfl) (by go_simp) ?_
 exact qGW mD2 (by go_simp;rfl) (by go_simp;rfl) (by go_simp)
theorem qGz:(Tryd.prog.info? 36).map (·.size)=some 16:=mDh
theorem zC:(Tryd.prog.info? 43).map (·.size)=some 27:=mDh
theorem qGw:(Tryd.prog.info? 41).map (·.size)=some 3:=mDh
section
variable {ops:Array Oper} {rest:List Oper} {o:Oper} {a:Act} {w:World} {Q:Exit→Act→World→Prop}
theorem qIV (hg:o.guard=none)(x y:Operand)(t:TypeId)(ho:o.op = .binOp .eql 36 x y t)(xs ys:List Int)(hx:xs.length=16)(hy:ys.length=16)(h1:a.eval x = .agg (zV (Value.int .u8) xs).toArray)(h2:a.eval y = .agg (zV (Value.int .u8) ys).toArray)
 (h:wpList Tryd.prog ops Q rest (a.put o.dst (.bool (xs==ys))) w):wpList Tryd.prog ops Q (o::rest) a w:=by
 refine Kd.event_run hg ?_ h
 unfold execOp
 simp only[ho,h1,h2,Sem.run_bind,run_eqGuard_agg (P:=Tryd.prog) w .eql 36 x y _ _ mDh,Result.andThen_ok,run_eql_struct,eqB w 9998 xs ys hx hy]
 rfl
theorem qEX (hg:o.guard=none)(x y:Operand)(t:TypeId)(ho:o.op = .binOp .eql 41 x y t)(x0 x1 x2 y0 y1 y2:Int)(h1:a.eval x = .agg #[.int .u8 x0,.int .u8 x1,.int .u32 x2])(h2:a.eval y = .agg #[.int .u8 y0,.int .u8 y1,.int .u32 y2])
 (h:wpList Tryd.prog ops Q rest (a.put o.dst (.bool (x0==y0 && (x1==y1 && (x2==y2))))) w):wpList Tryd.prog ops Q (o::rest) a w:=by
 refine Kd.event_run hg ?_ h
 unfold execOp
 simp only[ho,h1,h2,Sem.run_bind,run_eqGuard_agg (P:=Tryd.prog) w .eql 41 x y _ _ mDh,Result.andThen_ok,run_eql_struct,qJS 9998 w]
 rfl
theorem jP (hg:o.guard=none)(x:Operand)(ho:o.op = .box 43 x)(cs:List Value)(hx:a.eval x = .agg cs.toArray)
 (h:∀ g,g=w.heap.size→∀ w1,w1.heap[g]? = some (.cells cs.toArray 43 (0,0))→Below w.heap.size w w1→wpList Tryd.prog ops Q rest (a.put o.dst (.pointer (some ⟨g,0,none⟩))) w1):wpList Tryd.prog ops Q (o::rest) a w:=by
 refine Kd.event_run hg ?_ (h _ rfl _ (ja w _) (qh (Below.refl _ _) _))
 unfold execOp
 simp only[ho,hx]
 rfl
theorem q7 (hg:o.guard=none)(ty:TypeId)(x:Operand)(ho:o.op = .load ty x)(g off n:Nat)(cs vs:List Value)(d:TypeDesc)(hx:a.eval x = .pointer (some ⟨g,off,none⟩))(hb:w.heap[g]? = some (.cells cs.toArray 43 (0,0)))
 (hvs:(cs.drop off).take n=vs)(hn:vs.length=n)(hu:Tryd.prog.underlying ty=some d)(hd:d.isRow=true)(hi:(Tryd.prog.info? ty).map (·.size)=some n)
 (h:wpList Tryd.prog ops Q rest (a.put o.dst (.agg vs.toArray)) w):wpList Tryd.prog ops Q (o::rest) a w:=by
 refine wpList_load_mid hg ty x ho g off hx vs d ?_ hu hd (by rw[hn];exact hi) h
 intro j v hj
 rw[qA hb]
 rw[List.getElem?_toArray]
 have hj2:j<n:=by rw[← hn];exact(List.getElem?_eq_some_iff.1 hj).1
 rw[← hvs,List.getElem?_take_of_lt hj2,List.getElem?_drop] at hj
 exact hj
theorem qd (hg:o.guard=none)(t:TypeId)(ho:o.op = .alloc t)(z:Value)(hz:(Tryd.prog.info? t).map (fun i=>i.zero)=some (some z))
 (h:∀ g,g=w.heap.size→∀ w1,w1.heap[g]? = some (.cells z.cells t (0,0))→Below w.heap.size w w1→wpList Tryd.prog ops Q rest (a.put o.dst (.pointer (some ⟨g,0,none⟩))) w1):wpList Tryd.prog ops Q (o::rest) a w:=by
 refine Kd.event_run hg ?_ (h _ rfl _ (ja w _) (qh (Below.refl _ _) _))
 unfold execOp
 cases hq:Tryd.prog.info? t with
 | none=>simp[hq] at hz
 | some i =>
   simp[hq] at hz
   simp[ho,Instr.alloc,zeroValue,typeInfo,hq,hz,newVar,newRow]
theorem qV (hg:o.guard=none)(ty:TypeId)(x y:Operand)(ho:o.op = .store ty x y)(g:Nat)(cells:Array Value)(hx:a.eval x = .pointer (some ⟨g,0,none⟩))(hy:a.eval y = .agg cells)
 (t:TypeId) (old:Array Value) (hb:w.heap[g]? = some (.cells old t (0,0))) (hi:(Tryd.prog.info? ty).map (·.size)=some cells.size) (hold:old.size=cells.size) (h1:cells.all (·.oneCell')=true)
 (h:∀ w1,w1.heap[g]? = some (.cells cells t (0,0))→(∀ k,k≠g→w1.heap[k]? = w.heap[k]?)→w1.heap.size=w.heap.size→(∀ B (w0:World),B≤g→Below B w0 w→Below B w0 w1)→wpList Tryd.prog ops Q rest (a.put o.dst undef) w1):wpList Tryd.prog ops Q (o::rest) a w:=
 wpList_store_row hg ty x y ho g cells hx hy t old hb hi hold h1 (h _ (setRow_heap w g old cells t (0,0) hb) (fun k hk=>setRow_other w g k cells hk) mDp (fun B w0 hB hb=>⟨hb.os,hb.tape,hb.output,by simpa using hb.size,fun k hk=>(setRow_other w g k cells mDj).trans (hb.block k hk)⟩))
end
section
variable {ops:Array Oper} {o:Oper} {a:Act} {w:World} {Q:Exit→Act→World→Prop} {Kc:Act→World→Prop}
theorem jJ (hw:Region.wanted o (yielded ops a.tmps)=true)(t:TypeId)(ho:o.op = .alloc t)(z:Value)(hz:(Tryd.prog.info? t).map (fun i=>i.zero)=some (some z))
 (h:∀ g,g=w.heap.size→∀ w1,w1.heap[g]? = some (.cells z.cells t (0,0))→Below w.heap.size w w1→Kc (a.put o.dst (.pointer (some ⟨g,0,none⟩))) w1):if Region.wanted o (yielded ops a.tmps)=true then Oper.wp Tryd.prog o a w Kc Q else Kc (a.put o.dst undef) w:=by
 refine qBW hw ?_ (h _ rfl _ (ja w _) (qh (Below.refl _ _) _))
 unfold execOp
 cases hq:Tryd.prog.info? t with
 | none=>simp[hq] at hz
 | some i =>
   simp[hq] at hz
   simp[ho,Instr.alloc,zeroValue,typeInfo,hq,hz,newVar,newRow]
theorem yM (hw:Region.wanted o (yielded ops a.tmps)=true)(ty:TypeId)(x y:Operand)(ho:o.op = .store ty x y)(g:Nat)(cells:Array Value)(hx:a.eval x = .pointer (some ⟨g,0,none⟩))(hy:a.eval y = .agg cells)
 (t:TypeId) (old:Array Value) (hb:w.heap[g]? = some (.cells old t (0,0))) (hi:(Tryd.prog.info? ty).map (·.size)=some cells.size) (hold:old.size=cells.size) (h1:cells.all (·.oneCell')=true)
 (h:∀ w1,w1.heap[g]? = some (.cells cells t (0,0))→(∀ k,k≠g→w1.heap[k]? = w.heap[k]?)→w1.heap.size=w.heap.size→(∀ B (w0:World),B≤g→Below B w0 w→Below B w0 w1)→Kc (a.put o.dst undef) w1):if Region.wanted o (yielded ops a.tmps)=true then Oper.wp Tryd.prog o a w Kc Q else Kc (a.put o.dst undef) w:=by
 rw[if_pos hw]
 exact wp_store_row ty x y ho g cells hx hy t old hb hi hold h1 (h _ (setRow_heap w g old cells t (0,0) hb) (fun k hk=>setRow_other w g k cells hk) mDp (fun B w0 hB hb=>⟨hb.os,hb.tape,hb.output,by simpa using hb.size,fun k hk=>(setRow_other w g k cells mDj).trans (hb.block k hk)⟩))
theorem qIn {P:Program}{c:Code}(Q':Act→Exit→Act→World→Prop)(h:c.wp P (Q' a) a w)(hm:∀ e a' w',Q' a e a' w'→Q e a' w'):c.wp P Q a w:=Code.wp_mono hm h
theorem xV {w w':World}{b o:Nat}{cs:List Value}(h:w.rangeAt b o cs)(hb:w'.heap[b]? = w.heap[b]?):w'.rangeAt b o cs:=fun j v hj=>(World.cell?_of_block (w:=w) hb).trans (h j v hj)
end
theorem qDo (x:I)(h:x.v.length=16)(vl vt vb ve:Value):((qH x vl vt vb ve).drop 4).take 16=zV (Value.int .u8) x.v:=by
 show(zV (Value.int .u8) x.v++_).take 16=_
 rw[List.take_append_of_le_length (by rw[q9,h];exact Nat.le_refl _),List.take_of_length_le (by rw[q9,h];exact Nat.le_refl _)]
theorem qBw (x:I)(h:x.v.length=16)(vl vt vb ve:Value):((qH x vl vt vb ve).drop 22).take 3 = [.int .u8 x.bk,.int .u8 x.bv,.int .u32 x.bt]:=by
 have e:(qH x vl vt vb ve).drop 22 = [.int .u8 x.bk,.int .u8 x.bv,.int .u32 x.bt,vb,ve]:=by
  show(zV (Value.int .u8) x.v ++ [vl,vt,.int .u8 x.bk,.int .u8 x.bv,.int .u32 x.bt,vb,ve]).drop 18=_
  rw[List.drop_append,List.drop_eq_nil_of_le (by rw[q9,h];decide),q9,h]
  rfl
 rw[e]
 rfl
section
attribute [local go_sem] jh jj xE xF jb jZ jv jt
def eq32.l0:Nat→List Int→List Int→Int→Int→Option (Bool)
 | 0,_,_,_,_=>none
 | k+1,x0,x1,x12,x13=>if x13<x12 then (if 0≤x13 then (if x13<(x0.length:Int) then (if x13<(x1.length:Int) then (if (rd x0 x13)=(rd x1 x13) then (eq32.l0 k x0 x1 x12 (wrap64 (x13+1))) else (some false)) else (none)) else (none)) else (none)) else (some true)
def eq32.f (k:Nat)(l0:List Int)(l1:List Int):Option (Bool):=if (l0.length:Int)=(l1.length:Int) then (eq32.l0 k l0 l1 (l0.length:Int) 0) else (some false)
set_option maxRecDepth 100000 in
theorem eq32.calls (k:Nat)(A0:Option Addr)(c0:Nat)(l0:List Int)(A1:Option Addr)(c1:Nat)(l1:List Int)(r:Bool)(w:World)(hr0:Kd.C (Kd.int .u32) w A0 l0.length l0)(hc0:l0.length≤c0)(hr1:Kd.C (Kd.int .u32) w A1 l1.length l1)(hc1:l1.length≤c1)(h:eq32.f k l0 l1=some r):
 Calls Tryd.prog 58 #[.slice A0 l0.length c0,.slice A1 l1.length c1] w fun e w'=>e = .returned (.bool r)∧qf w w':=by
 have HR0:=am hr0
 have HC0:=am hc0
 clear hr0 hc0
 have HR1:=am hr1
 have HC1:=am hc1
 clear hr1 hc1
 have H:(if (l0.length:Int)=(l1.length:Int) then (eq32.l0 k l0 l1 (l0.length:Int) 0) else (some false))=some r:=h
 clear h
 by_cases c3:(l0.length:Int)=(l1.length:Int)
 ·rw[if_pos c3] at H
  have c3b0:((l0.length:Int)==(l1.length:Int))=true:=beq_iff_eq.mpr c3
  have c3b1:((l0.length:Int) != (l1.length:Int))=false:=bne_eq_false_iff_eq.mpr c3
  have c3b2:(l0.length==l1.length)=true:=by first|simpa using c3|(simp at c3 ⊢;omega)
  clear c3
  have H':=am H
  clear H
  go_enter Tryd.func58,Tryd.ntmps58
  go_wp2
  repeat (go_quiet (fail);try go_wp2)
  go_loopg [13] k (fun kq v13 w'=>∃(x13_1:Int),v13 = .int .i64 x13_1∧Aside0 (eq32.l0 kq l0 l1 (l0.length:Int) x13_1=some r)∧Aside0 (kq≤k)∧qf w w')
  case atStart=>exact⟨(0),mDm,H',⟨Nat.le_refl _⟩,by repeat (first|exact qf.refl _|apply qf.step)⟩
  case round =>
   clear H'
   try clear c1
   try clear p2
   try clear c3
   try clear c3b0
   try clear c3b1
   try clear c3b2
   obtain⟨x13_1,rfl,HA,HK1,⟨m1,rfl⟩⟩:=hrel
   cases gk with
   | zero=>exact absurd HA.out (by simp[eq32.l0])
   | succ k1 =>
     have H:=HA.out
     clear HA
     simp only[eq32.l0] at H
     by_cases c4:x13_1<(l0.length:Int)
     ·rw[if_pos c4] at H
      have c4b0:decide (x13_1<(l0.length:Int))=true:=decide_eq_true c4
      clear c4
      by_cases c5:0≤x13_1
      ·rw[if_pos c5] at H
       have c5b0:decide (0≤x13_1)=true:=decide_eq_true c5
       clear c5
       by_cases c6:x13_1<(l0.length:Int)
       ·rw[if_pos c6] at H
        have c6b0:decide (x13_1<(l0.length:Int))=true:=decide_eq_true c6
        clear c6
        by_cases c7:x13_1<(l1.length:Int)
        ·rw[if_pos c7] at H
         have c7b0:decide (x13_1<(l1.length:Int))=true:=decide_eq_true c7
         clear c7
         by_cases c8:(rd l0 x13_1)=(rd l1 x13_1)
         ·rw[if_pos c8] at H
          have c8b0:((rd l0 x13_1)==(rd l1 x13_1))=true:=beq_iff_eq.mpr c8
          have c8b1:((rd l0 x13_1) != (rd l1 x13_1))=false:=bne_eq_false_iff_eq.mpr c8
          clear c8
          have H':=am H
          clear H
          have p230:0≤(x13_1:Int):=of_decide_eq_true mDk
          have q230:x13_1<(l0.length:Int):=of_decide_eq_true mDk
          obtain⟨ad230,e230,hx230_0⟩:=Kd.at_int HR0.out x13_1 p230 q230
          cases e230
          replace p230:=eq_true p230
          replace q230:=eq_true q230
          have p231:0≤(x13_1:Int):=of_decide_eq_true mDk
          have q231:x13_1<(l1.length:Int):=of_decide_eq_true mDk
          obtain⟨ad231,e231,hx231_0⟩:=Kd.at_int HR1.out x13_1 p231 q231
          cases e231
          replace p231:=eq_true p231
          replace q231:=eq_true q231
          exact mBn
         ·rw[if_neg c8] at H
          have c8b0:((rd l0 x13_1)==(rd l1 x13_1))=false:=beq_eq_false_iff_ne.mpr c8
          have c8b1:((rd l0 x13_1) != (rd l1 x13_1))=true:=bne_iff_ne.mpr c8
          obtain rfl:=Option.some.inj H
          have p230:0≤(x13_1:Int):=of_decide_eq_true mDk
          have q230:x13_1<(l0.length:Int):=of_decide_eq_true mDk
          obtain⟨ad230,e230,hx230_0⟩:=Kd.at_int HR0.out x13_1 p230 q230
          cases e230
          replace p230:=eq_true p230
          replace q230:=eq_true q230
          have p231:0≤(x13_1:Int):=of_decide_eq_true mDk
          have q231:x13_1<(l1.length:Int):=of_decide_eq_true mDk
          obtain⟨ad231,e231,hx231_0⟩:=Kd.at_int HR1.out x13_1 p231 q231
          cases e231
          replace p231:=eq_true p231
          replace q231:=eq_true q231
          exact mBc
        exact mCc
       exact mB4
      exact mB3
     exact mB5
 ·rw[if_neg c3] at H
  have c3b0:((l0.length:Int)==(l1.length:Int))=false:=beq_eq_false_iff_ne.mpr c3
  have c3b1:((l0.length:Int) != (l1.length:Int))=true:=bne_iff_ne.mpr c3
  have c3b2:(l0.length==l1.length)=false:=by first|simpa using c3|(simp at c3 ⊢;omega)
  obtain rfl:=Option.some.inj H
  go_enter Tryd.func58,Tryd.ntmps58
  exact mBc
def eq8.l0:Nat→List Int→List Int→Int→Int→Option (Bool)
 | 0,_,_,_,_=>none
 | k+1,x0,x1,x12,x13=>if x13<x12 then (if 0≤x13 then (if x13<(x0.length:Int) then (if x13<(x1.length:Int) then (if (rd x0 x13)=(rd x1 x13) then (eq8.l0 k x0 x1 x12 (wrap64 (x13+1))) else (some false)) else (none)) else (none)) else (none)) else (some true)
def eq8.f (k:Nat)(l0:List Int)(l1:List Int):Option (Bool):=if (l0.length:Int)=(l1.length:Int) then (eq8.l0 k l0 l1 (l0.length:Int) 0) else (some false)
set_option maxRecDepth 100000 in
theorem eq8.calls (k:Nat)(A0:Option Addr)(c0:Nat)(l0:List Int)(A1:Option Addr)(c1:Nat)(l1:List Int)(r:Bool)(w:World)(hr0:Kd.C (Kd.int .u8) w A0 l0.length l0)(hc0:l0.length≤c0)(hr1:Kd.C (Kd.int .u8) w A1 l1.length l1)(hc1:l1.length≤c1)(h:eq8.f k l0 l1=some r):
 Calls Tryd.prog 59 #[.slice A0 l0.length c0,.slice A1 l1.length c1] w fun e w'=>e = .returned (.bool r)∧qf w w':=by
 have HR0:=am hr0
 have HC0:=am hc0
 clear hr0 hc0
 have HR1:=am hr1
 have HC1:=am hc1
 clear hr1 hc1
 have H:(if (l0.length:Int)=(l1.length:Int) then (eq8.l0 k l0 l1 (l0.length:Int) 0) else (some false))=some r:=h
 clear h
 by_cases c3:(l0.length:Int)=(l1.length:Int)
 ·rw[if_pos c3] at H
  have c3b0:((l0.length:Int)==(l1.length:Int))=true:=beq_iff_eq.mpr c3
  have c3b1:((l0.length:Int) != (l1.length:Int))=false:=bne_eq_false_iff_eq.mpr c3
  have c3b2:(l0.length==l1.length)=true:=by first|simpa using c3|(simp at c3 ⊢;omega)
  clear c3
  have H':=am H
  clear H
  go_enter Tryd.func59,Tryd.ntmps59
  go_wp2
  repeat (go_quiet (fail);try go_wp2)
  go_loopg [13] k (fun kq v13 w'=>∃(x13_1:Int),v13 = .int .i64 x13_1∧Aside0 (eq8.l0 kq l0 l1 (l0.length:Int) x13_1=some r)∧Aside0 (kq≤k)∧qf w w')
  case atStart=>exact⟨(0),mDm,H',⟨Nat.le_refl _⟩,by repeat (first|exact qf.refl _|apply qf.step)⟩
  case round =>
   clear H'
   try clear c1
   try clear p2
   try clear c3
   try clear c3b0
   try clear c3b1
   try clear c3b2
   obtain⟨x13_1,rfl,HA,HK1,⟨m1,rfl⟩⟩:=hrel
   cases gk with
   | zero=>exact absurd HA.out (by simp[eq8.l0])
   | succ k1 =>
     have H:=HA.out
     clear HA
     simp only[eq8.l0] at H
     by_cases c4:x13_1<(l0.length:Int)
     ·rw[if_pos c4] at H
      have c4b0:decide (x13_1<(l0.length:Int))=true:=decide_eq_true c4
      clear c4
      by_cases c5:0≤x13_1
      ·rw[if_pos c5] at H
       have c5b0:decide (0≤x13_1)=true:=decide_eq_true c5
       clear c5
       by_cases c6:x13_1<(l0.length:Int)
       ·rw[if_pos c6] at H
        have c6b0:decide (x13_1<(l0.length:Int))=true:=decide_eq_true c6
        clear c6
        by_cases c7:x13_1<(l1.length:Int)
        ·rw[if_pos c7] at H
         have c7b0:decide (x13_1<(l1.length:Int))=true:=decide_eq_true c7
         clear c7
         by_cases c8:(rd l0 x13_1)=(rd l1 x13_1)
         ·rw[if_pos c8] at H
          have c8b0:((rd l0 x13_1)==(rd l1 x13_1))=true:=beq_iff_eq.mpr c8
          have c8b1:((rd l0 x13_1) != (rd l1 x13_1))=false:=bne_eq_false_iff_eq.mpr c8
          clear c8
          have H':=am H
          clear H
          have p232:0≤(x13_1:Int):=of_decide_eq_true mDk
          have q232:x13_1<(l0.length:Int):=of_decide_eq_true mDk
          obtain⟨ad232,e232,hx232_0⟩:=Kd.at_int HR0.out x13_1 p232 q232
          cases e232
          replace p232:=eq_true p232
          replace q232:=eq_true q232
          have p233:0≤(x13_1:Int):=of_decide_eq_true mDk
          have q233:x13_1<(l1.length:Int):=of_decide_eq_true mDk
          obtain⟨ad233,e233,hx233_0⟩:=Kd.at_int HR1.out x13_1 p233 q233
          cases e233
          replace p233:=eq_true p233
          replace q233:=eq_true q233
          exact mBn
         ·rw[if_neg c8] at H
          have c8b0:((rd l0 x13_1)==(rd l1 x13_1))=false:=beq_eq_false_iff_ne.mpr c8
          have c8b1:((rd l0 x13_1) != (rd l1 x13_1))=true:=bne_iff_ne.mpr c8
          obtain rfl:=Option.some.inj H
          have p232:0≤(x13_1:Int):=of_decide_eq_true mDk
          have q232:x13_1<(l0.length:Int):=of_decide_eq_true mDk
          obtain⟨ad232,e232,hx232_0⟩:=Kd.at_int HR0.out x13_1 p232 q232
          cases e232
          replace p232:=eq_true p232
          replace q232:=eq_true q232
          have p233:0≤(x13_1:Int):=of_decide_eq_true mDk
          have q233:x13_1<(l1.length:Int):=of_decide_eq_true mDk
          obtain⟨ad233,e233,hx233_0⟩:=Kd.at_int HR1.out x13_1 p233 q233
          cases e233
          replace p233:=eq_true p233
          replace q233:=eq_true q233
          exact mBc
        exact mCc
       exact mB4
      exact mB3
     exact mB5
 ·rw[if_neg c3] at H
  have c3b0:((l0.length:Int)==(l1.length:Int))=false:=beq_eq_false_iff_ne.mpr c3
  have c3b1:((l0.length:Int) != (l1.length:Int))=true:=bne_iff_ne.mpr c3
  have c3b2:(l0.length==l1.length)=false:=by first|simpa using c3|(simp at c3 ⊢;omega)
  obtain rfl:=Option.some.inj H
  go_enter Tryd.func59,Tryd.ntmps59
  exact mBc
theorem qCR (l:List Int)(i:Nat)(h:i<l.length):rd l (i:Int)=l[i]:=by
 simp[rd,List.getD_eq_getElem?_getD,h]
theorem qAA (l m:List Int)(i:Nat)(h1:i<l.length)(h2:i<m.length):(l.drop i==m.drop i)=((l[i]==m[i]) && (l.drop (i+1)==m.drop (i+1))):=by
 rw[List.drop_eq_getElem_cons h1,List.drop_eq_getElem_cons h2]
 rfl
theorem qGq (l m:List Int)(hl:l.length≤9223372036854775807)(he:l.length=m.length):∀(k i:Nat),i≤l.length→l.length<k+i→eq32.l0 k l m (l.length:Int) (i:Int)=some (l.drop i==m.drop i)
 | 0,i,h1,h2=>by omega
 | k+1,i,h1,h2=>by
   rw[eq32.l0]
   by_cases h:i<l.length
   ·have w1:wrap64 ((i:Int)+1)=((i+1:Nat):Int):=by unfold wrap64;omega
    rw[if_pos mDj,if_pos mDj,if_pos mDj,if_pos mDj,qCR l i h,qCR m i mDj,qAA l m i h mDj]
    by_cases e:l[i]=m[i]'mDj
    ·rw[if_pos e,w1,qGq l m hl he k (i+1) h mDj,beq_iff_eq.mpr e,Bool.true_and]
    ·rw[if_neg e,beq_eq_false_iff_ne.mpr e,Bool.false_and]
   ·rw[if_neg mDj,List.drop_eq_nil_of_le mDj,List.drop_eq_nil_of_le mDj]
    rfl
theorem qH0 (l m:List Int)(hl:l.length≤9223372036854775807)(he:l.length=m.length):∀(k i:Nat),i≤l.length→l.length<k+i→eq8.l0 k l m (l.length:Int) (i:Int)=some (l.drop i==m.drop i)
 | 0,i,h1,h2=>by omega
 | k+1,i,h1,h2=>by
   rw[eq8.l0]
   by_cases h:i<l.length
   ·have w1:wrap64 ((i:Int)+1)=((i+1:Nat):Int):=by unfold wrap64;omega
    rw[if_pos mDj,if_pos mDj,if_pos mDj,if_pos mDj,qCR l i h,qCR m i mDj,qAA l m i h mDj]
    by_cases e:l[i]=m[i]'mDj
    ·rw[if_pos e,w1,qH0 l m hl he k (i+1) h mDj,beq_iff_eq.mpr e,Bool.true_and]
    ·rw[if_neg e,beq_eq_false_iff_ne.mpr e,Bool.false_and]
   ·rw[if_neg mDj,List.drop_eq_nil_of_le mDj,List.drop_eq_nil_of_le mDj]
    rfl
theorem qER {l m:List Int}(h:l.length≠m.length):(l==m)=false:=beq_eq_false_iff_ne.mpr (fun e=>h (by rw[e]))
theorem qId (l m:List Int)(hl:l.length≤9223372036854775807):eq32.f (l.length+1) l m=some (l==m):=by
 unfold eq32.f
 by_cases e:l.length=m.length
 ·rw[if_pos mDj]
  have:=qGq l m hl e (l.length+1) 0 mDj mDj
  simpa using this
 ·rw[if_neg mDj,qER e]
theorem qJs (l m:List Int)(hl:l.length≤9223372036854775807):eq8.f (l.length+1) l m=some (l==m):=by
 unfold eq8.f
 by_cases e:l.length=m.length
 ·rw[if_pos mDj]
  have:=qH0 l m hl e (l.length+1) 0 mDj mDj
  simpa using this
 ·rw[if_neg mDj,qER e]
theorem qD3 {A0:Option Addr}{c0:Nat}{l0:List Int}{A1:Option Addr}{c1:Nat}{l1:List Int}{w:World}(hr0:Kd.C (Kd.int .u32) w A0 l0.length l0)(hc0:l0.length≤c0)(hr1:Kd.C (Kd.int .u32) w A1 l1.length l1)(hc1:l1.length≤c1):
 Calls Tryd.prog 58 #[.slice A0 l0.length c0,.slice A1 l1.length c1] w fun e w'=>e = .returned (.bool (l0==l1))∧qf w w':=
 eq32.calls _ A0 c0 l0 A1 c1 l1 _ w hr0 hc0 hr1 hc1 (qId l0 l1 (Kd.C_max hr0))
theorem qFm {A0:Option Addr}{c0:Nat}{l0:List Int}{A1:Option Addr}{c1:Nat}{l1:List Int}{w:World}(hr0:Kd.C (Kd.int .u8) w A0 l0.length l0)(hc0:l0.length≤c0)(hr1:Kd.C (Kd.int .u8) w A1 l1.length l1)(hc1:l1.length≤c1):
 Calls Tryd.prog 59 #[.slice A0 l0.length c0,.slice A1 l1.length c1] w fun e w'=>e = .returned (.bool (l0==l1))∧qf w w':=
 eq8.calls _ A0 c0 l0 A1 c1 l1 _ w hr0 hc0 hr1 hc1 (qJs l0 l1 (Kd.C_max hr0))
end
end Go.Proofs.YtobldeamemmokaaDoor.P
