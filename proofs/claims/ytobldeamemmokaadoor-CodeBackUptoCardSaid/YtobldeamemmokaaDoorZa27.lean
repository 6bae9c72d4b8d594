import Derived.Test.YtobldeamemmokaaDoorZa26
import Derived.Test.YtobldeamemmokaaDoorZa20
set_option linter.unusedVariables false
set_option linter.unusedSimpArgs false
set_option maxHeartbeats 64000000
namespace Go.Proofs.YtobldeamemmokaaDoor.P
open Go.RowKit Go.Proofs.YtobldeamemmokaaDoorW.PrintWords Go.Proofs.YtobldeamemmokaaDoorW.PrintLast Go.Proofs.YtobldeamemmokaaDoorW.PrintMore
theorem qAa:(Tryd.prog.info? 3).map (·.size)=some 1:=mDh
theorem z7:(Tryd.prog.info? 4).map (·.size)=some 1:=mDh
def oRd (A:Option Addr)(c:Nat)(b:List Int)(at_:Int)(bad:Bool):Obj:=.cells #[.slice A b.length c,.int .i64 at_,.bool bad] 87 (0,0)
theorem qFz (w0 W:World)(g:Nat)(A:Option Addr)(c:Nat)(b:List Int)(at_:Int)(hB:Below w0.heap.size w0 W)(hg:W.heap[g]? = some (oRd A c b at_ false))(hn:w0.heap.size≤g)(hC:(Kd.int .u8).C w0 A b.length b)(hc:b.length≤c)(h0:0≤at_)(h1:at_<b.length):
 Calls Tryd.prog 63 #[.pointer (some ⟨g,0,none⟩)] W fun e W'=>e = .returned (.int .u8 (rd b at_))∧W'.heap[g]? = some (oRd A c b (at_+1) false)∧qc W W' g none∧Below w0.heap.size w0 W':=by
 have c0:W.cell? ⟨g,0,none⟩=some (.slice A b.length c):=(qA hg 0).trans rfl
 have c1:W.cell? ⟨g,1,none⟩=some (.int .i64 at_):=(qA hg 1).trans rfl
 have c2:W.cell? ⟨g,2,none⟩=some (.bool false):=(qA hg 2).trans rfl
 have f1:=qD hg 1
 obtain⟨ad,rfl,hx⟩:=Kd.at_int hC at_ h0 h1
 have hx2:W.cell? (ad.add at_.toNat)=some (.int .u8 (rd b at_)):=(hB.cell (World.block_lt_of_cell? w0 _ hx)).trans hx
 have e1:decide ((b.length:Int)≤at_)=false:=decide_eq_false mDj
 have hm:=Kd.C_max hC
 have w1eq:wrap64 (at_+1)=at_+1:=by unfold wrap64;omega
 have w2eq:wrap64 (at_+1 - 1)=at_:=by unfold wrap64;omega
 have wq:IntKind.i64.wrap at_=at_:=by rw[zX];unfold wrap64;omega
 have HX:=am hx
 have HG:=am hg
 have HB:=am hB
 have HN:=am hn
 clear hg hB hn hC
 go_enter Tryd.func63,Tryd.ntmps63
 go_wp2
 go_quiet (fail)
 go_wp2_with (first
  | ((with_reducible refine qF (t:=3) (p:=28) (v:=.tmp 26) rfl ?_);refine qT rfl 3 (.tmp 28) (.tmp 26) rfl g 1 (.int .i64 (at_+1)) rfl mCy 87 #[.slice (some ad) b.length c,.int .i64 at_,.bool false] #[.slice (some ad) b.length c,.int .i64 (at_+1),.bool false] (by first|exact HG.out|exact z6 HG.out _) (show 1<3 by decide) qAa rfl rfl ?_;intro w1 hb hoth hsz hbel;have HG1:=am hb;have HK1:=am (show qc W w1 g none from⟨Nat.le_of_eq hsz.symm,fun i hi hg hr=>hoth i hg⟩);have HB1:=am (hbel _ _ HN.out mCh);have c0:w1.cell? ⟨g,0,none⟩=some (.slice (some ad) b.length c):=(qA hb 0).trans rfl;have c1:w1.cell? ⟨g,1,none⟩=some (.int .i64 (at_+1)):=(qA hb 1).trans rfl;have hx3:w1.cell? (ad.add at_.toNat)=some (.int .u8 (rd b at_)):=(HB1.out.cell (World.block_lt_of_cell? w0 _ HX.out)).trans HX.out;clear hb hoth hsz hbel))
 go_quiet (fail)
 go_wp2
 go_ret
 exact⟨rfl,by first|exact HG1.out|exact z6 HG1.out _,by first|exact HK1.out|exact xC HK1.out _,by repeat (first|exact HB1.out|apply qJ|apply qP)⟩
theorem qHN (k:Nat)(w0 W:World)(g:Nat)(A:Option Addr)(c:Nat)(b:List Int)(at_ wd:Int)(r1 r2:Int)(hB:Below w0.heap.size w0 W)(hg:W.heap[g]? = some (oRd A c b at_ false))(hn:w0.heap.size≤g)(hC:(Kd.int .u8).C w0 A b.length b)(hc:b.length≤c)(h:zR.f k b at_ wd=some (r1,r2,0)):
 Calls Tryd.prog 65 #[.pointer (some ⟨g,0,none⟩),.int .i64 wd] W fun e W'=>e = .returned (.int .i64 r1)∧W'.heap[g]? = some (oRd A c b r2 false)∧qc W W' g none∧Below w0.heap.size w0 W':=by
 have c0:W.cell? ⟨g,0,none⟩=some (.slice A b.length c):=(qA hg 0).trans rfl
 have c1:W.cell? ⟨g,1,none⟩=some (.int .i64 at_):=(qA hg 1).trans rfl
 have c2:W.cell? ⟨g,2,none⟩=some (.bool false):=(qA hg 2).trans rfl
 have f1:=qD hg 1
 have HG:=am hg
 have HB:=am hB
 have HN:=am hn
 have HC:=am hC
 have HCC:=am hc
 have H:=am h
 clear hg hB hn hC hc h
 go_enter Tryd.func65,Tryd.ntmps65
 go_wp2
 go_quiet (first
  | (go_at_call 79;with_reducible refine(zR.calls k A c b at_ wd r1 r2 0 _ (Kd.C_drewN (Kd.C_below HC.out HB.out) _) HCC.out H.out).mono ?_;rintro e w' ⟨rfl,⟨nd,rfl⟩⟩;first|exact⟨rfl,_,World.drewN_drewN _ _ _⟩|exact⟨rfl,_,Eq.trans (World.drewN_drewN _ _ _) (congrArg (World.drewN _) (Nat.add_assoc _ _ _))⟩))
 go_wp2_with (first
  | ((with_reducible refine qF (t:=3) (p:=34) (v:=.tmp 32) rfl ?_);refine qT rfl 3 (.tmp 34) (.tmp 32) rfl g 1 (.int .i64 r2) rfl rfl 87 #[.slice A b.length c,.int .i64 at_,.bool false] #[.slice A b.length c,.int .i64 r2,.bool false] (by first|exact HG.out|exact z6 HG.out _) (show 1<3 by decide) qAa rfl rfl ?_;intro w1 hb hoth hsz hbel;have HG1:=am hb;have HK1:=am (show qc W w1 g none from⟨Nat.le_of_eq hsz.symm,fun i hi hg hr=>hoth i hg⟩);have HB1:=am (hbel _ _ HN.out mCh);clear hb hoth hsz hbel))
 go_ret
 exact⟨rfl,by first|exact HG1.out|exact z6 HG1.out _,by first|exact HK1.out|exact xC HK1.out _,by repeat (first|exact HB1.out|apply qJ|apply qP)⟩
def KS_ (w0 W0 W:World)(g:Nat)(o:Obj):Prop:=W.heap[g]? = some o∧qc W0 W g none∧Below w0.heap.size w0 W∧g<W0.heap.size∧w0.heap.size≤g
theorem KS_.start {w0 W:World}{g:Nat}{o:Obj}(hg:W.heap[g]? = some o)(hB:Below w0.heap.size w0 W)(hn:w0.heap.size≤g):KS_ w0 W W g o:=⟨hg,qc.refl W g none,hB,(Array.getElem?_eq_some_iff.1 hg).1,hn⟩
theorem KS_.below {w0 W0 W W1:World}{g:Nat}{o:Obj}(h:KS_ w0 W0 W g o)(hb:Below W.heap.size W W1):KS_ w0 W0 W1 g o:=
 ⟨(hb.block g (Array.getElem?_eq_some_iff.1 h.1).1).trans h.1,h.2.1.trans (qc.of_below hb g none) (.inl rfl),h.2.2.1.trans (hb.mono h.2.2.1.size),h.2.2.2⟩
theorem KS_.drewN {w0 W0 W:World}{g:Nat}{o:Obj}(h:KS_ w0 W0 W g o)(m:Nat):KS_ w0 W0 (W.drewN m) g o:=h.below (qJ (Below.refl _ _) m)
theorem KS_.call {w0 W0 W W1:World}{g:Nat}{o o1:Obj}(h:KS_ w0 W0 W g o)(h1:W1.heap[g]? = some o1)(hk:qc W W1 g none)(hb:Below w0.heap.size w0 W1):KS_ w0 W0 W1 g o1:=⟨h1,h.2.1.trans hk (.inl rfl),hb,h.2.2.2⟩
theorem KS_.self {w0 W0 W W1:World}{g:Nat}{o o1:Obj}(h:KS_ w0 W0 W g o)(h1:W1.heap[g]? = some o1)(ho:∀ k,k≠g→W1.heap[k]? = W.heap[k]?)(hs:W1.heap.size=W.heap.size)(hbel:∀ B (w0:World),B≤g→Below B w0 W→Below B w0 W1):KS_ w0 W0 W1 g o1:=
 ⟨h1,h.2.1.trans ⟨Nat.le_of_eq hs.symm,fun i hi hg hr=>ho i hg⟩ (.inl rfl),hbel _ _ h.2.2.2.2 h.2.2.1,h.2.2.2⟩
theorem KS_.other {w0 W0 W W1:World}{g k:Nat}{o:Obj}(h:KS_ w0 W0 W g o)(hk:W0.heap.size≤k)(ho:∀ i,i≠k→W1.heap[i]? = W.heap[i]?)(hs:W1.heap.size=W.heap.size)(hbel:∀ B (w0:World),B≤k→Below B w0 W→Below B w0 W1):KS_ w0 W0 W1 g o:=
 ⟨(ho g (by have:=h.2.2.2.1;omega)).trans h.1,⟨by rw[hs];exact h.2.1.1,fun i hi hg hr=>(ho i mDj).trans (h.2.1.2 i hi hg hr)⟩,hbel _ _ (by have:=h.2.2.2;omega) h.2.2.1,h.2.2.2⟩
theorem KS_.size {w0 W0 W:World}{g:Nat}{o:Obj}(h:KS_ w0 W0 W g o):W0.heap.size≤W.heap.size:=h.2.1.1
theorem yQ {P:Program}{fn:Func}{p:Tmp}{ty:TypeId}(h:fn.results = #[.cell p ty])(tmps:Array Value)(w:World)(g:Nat)(t:TypeId)(cs:Array Value)(fr:Nat × Nat)(d:TypeDesc)
 (hp:tmps.getD p undef = .pointer (some ⟨g,0,none⟩))(hg:w.heap[g]? = some (.cells cs t fr))
 (hu:P.underlying ty=some d)(hd:(match d with | .struct _ | .array _ _=>true|_=>false)=true)(hi:(P.info? ty).map (·.size)=some cs.size):
 (results fn tmps).run P w = .ok (.agg cs) w:=by
 have hp':tmps[p]?.getD undef = .pointer (some ⟨g,0,none⟩):=by simpa using hp
 simp[results,h,hp',asAddr,run_loadVar_row w g t ty cs fr d hg hu hd hi]
def jF (r1:Int)(r2:ByteArray)(r3:Int)(v3 v4:Value)(r6:Int)(r7:Bool):List Value:=[.int .u16 r1,.string r2,.int .u8 r3,v3,v4,.int .i64 r6,.bool r7]
theorem yW:(Tryd.prog.info? 35).map (·.size)=some 1:=mDh
theorem zx (x:I)(vl vt vb ve:Value)(n:Int):(qH x vl vt vb ve).toArray.setIfInBounds 3 (.int .u64 n)=(qH {x with n:=n} vl vt vb ve).toArray:=by
 simp only[List.setIfInBounds_toArray]
 rfl
def qy (x:I)(vl vt vb ve v:Value)(e:Bool):List Value:=qH x vl vt vb ve ++ [v,.bool e]
theorem yC (x:I)(h:x.v.length=16)(vl vt vb ve v:Value)(e:Bool):(qy x vl vt vb ve v e).length=29:=by rw[qy,List.length_append,qL x h];rfl
theorem zz (x:I)(h:x.v.length=16)(vl vt vb ve v:Value)(e:Bool):(qy x vl vt vb ve v e)[27]? = some v∧(qy x vl vt vb ve v e)[28]? = some (.bool e)∧(qy x vl vt vb ve v e)[0]? = some (.int .u16 x.op):=by
 have hl:=qL x h vl vt vb ve
 refine⟨?_,?_,rfl⟩
 ·rw[qy,List.getElem?_append_right mDj,hl];rfl
 ·rw[qy,List.getElem?_append_right mDj,hl];rfl
theorem qGx:(Tryd.prog.info? 89).map (fun i=>i.zero)=some (some (.agg (qy zI (.slice none 0 0) (.slice none 0 0) (.slice none 0 0) (.slice none 0 0) (.slice none 0 0) false).toArray)):=mDh
theorem qDa:(Tryd.prog.info? 89).map (·.size)=some 29:=mDh
def qBO (v:Value)(next depth:Int)(datas:Bool):Obj:=.cells #[v,.int .i64 next,.int .i64 depth,.bool datas] 65 (0,0)
theorem qA9:(Tryd.prog.info? 65).map (fun i=>i.zero)=some (some (.agg #[.slice none 0 0,.int .i64 0,.int .i64 0,.bool false])):=mDh
theorem xy:(Tryd.prog.info? 65).map (·.size)=some 4:=mDh
theorem qHw:Tryd.prog.built 89 []=some (qy zI (.slice none 0 0) (.slice none 0 0) (.slice none 0 0) (.slice none 0 0) (.slice none 0 0) false).toArray:=mDh
theorem qIT:(Tryd.prog.info? 89).map (fun i=>(i.zero,i.size))=some (some (.agg (qy zI (.slice none 0 0) (.slice none 0 0) (.slice none 0 0) (.slice none 0 0) (.slice none 0 0) false).toArray),29):=mDh
section
variable {ops:Array Oper} {rest:List Oper} {o:Oper} {a:Act} {w:World} {Q:Exit→Act→World→Prop}
theorem qIe (hg:o.guard=none)(t:TypeId)(x:Operand)(ho:o.op = .box t x)(cs:List Value)(hx:a.eval x = .agg cs.toArray)
 (h:∀ g,g=w.heap.size→∀ w1,w1.heap[g]? = some (.cells cs.toArray t (0,0))→Below w.heap.size w w1→wpList Tryd.prog ops Q rest (a.put o.dst (.pointer (some ⟨g,0,none⟩))) w1):wpList Tryd.prog ops Q (o::rest) a w:=by
 refine Kd.event_run hg ?_ (h _ rfl _ (ja w _) (qh (Below.refl _ _) _))
 unfold execOp
 simp only[ho,hx]
 rfl
theorem qBA (hg:o.guard=none)(t:TypeId)(ho:o.op = .build t #[])(cs:Array Value)(hb:Tryd.prog.built t []=some cs)
 (h:wpList Tryd.prog ops Q rest (a.put o.dst (.agg cs)) w):wpList Tryd.prog ops Q (o::rest) a w:=by
 refine Kd.event_run hg ?_ h
 unfold execOp
 simp only[ho,List.map_toArray,List.map_nil,Sem.run_bind,run_build w t _ _ hb,Result.andThen_ok]
 rfl
theorem qGY (t e s:Nat)(x:Operand)(ho:o.op = .buildSlice t 1 #[(0,x)])(cs:List Value)(hcs:cs.length=s)(hx:a.eval x = .agg cs.toArray)(hu:Tryd.prog.underlying t=some (.slice e))(z:Value)(hinfo:(Tryd.prog.info? e).map (fun i=>(i.zero,i.size))=some (some z,s))(hs0:0<s)(hs1:s≤1000):
 (execOp a.eval o).run Tryd.prog w = .ok (.value (.slice (some ⟨w.heap.size,0,none⟩) 1 1)) (w.alloc (.cells cs.toArray e)):=by
 obtain⟨ie,hie,hz⟩:=Option.map_eq_some_iff.1 hinfo
 simp only[Prod.mk.injEq] at hz
 obtain⟨hz,hsz⟩:=hz
 have hv:∀ v ∈ [Value.agg cs.toArray],v.cells.size=s:=by
  intro v hv
  rcases List.mem_singleton.1 hv with rfl
  simp[Value.cells,hcs]
 have hf:=Great.fill_whole (s:=s) hs0 [Value.agg cs.toArray] ((Array.range (1*s)).map (z.cells[· % z.cells.size]!)) hv mDp
 have hr:=run_buildSlice (P:=Tryd.prog) w t e 1 #[(0,Value.agg cs.toArray)] cs.toArray ie _ hu hie hz (by rw[hsz];omega) (by rw[hsz];omega) (by rw[hsz];exact hf.trans (by simp[Value.cells]))
 unfold execOp
 simp only[ho,List.map_toArray,List.map_cons,List.map_nil,hx,Sem.run_bind,hr,Result.andThen_ok]
 rfl
end
theorem qE4 (x:I)(h:x.v.length=16)(vl vt vb ve v u:Value)(e:Bool):(qy x vl vt vb ve v e).toArray.setIfInBounds 27 u=(qy x vl vt vb ve u e).toArray:=by
 have hl:=qL x h vl vt vb ve
 simp only[List.setIfInBounds_toArray,qy]
 rw[List.set_append_right _ _ mDj,hl]
 rfl
def y8:Kd (List Value) where
 sz:=29
 E:=[]
 K:=fun _ x cs=>cs=x∧x.length=29∧∀ u ∈ x,u.oneCell'=true
 M:=fun _ _ _ x cs=>cs=x∧x.length=29∧∀ u ∈ x,u.oneCell'=true
 K_len:=fun h=>by rw[h.1];exact h.2.1
 K_one:=fun h u hu=>h.2.2 u (by rw[← h.1];exact hu)
 K_below:=fun _ h=>h
 K_of_M:=fun h=>h
 M_mono:=fun _ h=>h
 M_bound:=fun h=>h
 M_move:=fun _ h=>h
 M_lower:=fun _ h=>h
theorem ji {W W1:World}{base:Nat}{ok:Nat→Prop}{v:Value}{css:List (List Value)}(h:y8.R 89 W base ok v css)(hm:∀ k,v.ownBlock=some k→W1.heap[k]? = W.heap[k]?):y8.R 89 W1 base ok v css:=by
 obtain⟨h0,inner,ho,hr⟩:=h
 exact⟨h0,inner,qBv ho hm,hr.imp_ (fun _ _ hp=>hp)⟩
theorem qDD {W:World}{base:Nat}{ok:Nat→Prop}{v:Value}{css:List (List Value)}(h:y8.R 89 W base ok v css)(hp:0<css.length):∃ gs cap cells,v = .slice (some ⟨gs,0,none⟩) css.length cap∧css.length≤cap∧base≤gs∧W.heap[gs]? = some (.cells cells 89 (0,0))∧css.length≤9223372036854775807:=by
 obtain⟨gs,cap,rfl,hb,hlt,cells,hc⟩:=Kd.R_form h hp
 exact⟨gs,cap,cells,rfl,(Kd.R_reads' h).2.1,hb,hc,Kd.C_max (Kd.R_reads' h).2.2⟩
theorem zo {W:World}{base:Nat}{ok:Nat→Prop}{gs n cap:Nat}{css:List (List Value)}(h:y8.R 89 W base ok (.slice (some ⟨gs,0,none⟩) n cap) css){m:Nat}{c:List Value}(hm:css[m]? = some c):
 c.length=29∧(∀ u ∈ c,u.oneCell'=true)∧∀ j u,c[j]? = some u→W.cell? ⟨gs,m*29+j,none⟩=some u:=by
 have hn:=(Kd.R_reads' h).1
 have hlt:=(List.getElem?_eq_some_iff.1 hm).1
 obtain⟨c',hl,hM,hcc,_⟩:=Kd.R_elem h [] (m:Int) mDj mDj
 rw[Int.toNat_natCast] at hM hcc
 have e:css.getD m []=c:=by rw[List.getD_eq_getElem?_getD,hm];rfl
 rw[e] at hM
 obtain⟨rfl,h2,h3⟩:=hM
 exact⟨h2,h3,hcc⟩
theorem qC2 {W:World}{base:Nat}{ok:Nat→Prop}{gs n cap:Nat}{css:List (List Value)}(h:y8.R 89 W base ok (.slice (some ⟨gs,0,none⟩) n cap) css){m j:Nat}{c:List Value}(hm:css[m]? = some c)(hj:j<29){cells:Array Value}(hb:W.heap[gs]? = some (.cells cells 89 (0,0))):m*29+j<cells.size:=by
 obtain⟨h1,_,h3⟩:=zo h hm
 have h4:=h3 j _ (List.getElem?_eq_getElem mDj)
 rw[qA hb] at h4
 exact(Array.getElem?_eq_some_iff.1 h4).1
theorem qAw {W W1:World}{base:Nat}{ok:Nat→Prop}{gs n cap:Nat}{css:List (List Value)}(h:y8.R 89 W base ok (.slice (some ⟨gs,0,none⟩) n cap) css){m j:Nat}{c:List Value}(hm:css[m]? = some c)(hj:j<29){u:Value}(hu:u.oneCell'=true){cells:Array Value}(hb:W.heap[gs]? = some (.cells cells 89 (0,0)))
 (h1:W1.heap[gs]? = some (.cells (cells.setIfInBounds (m*29+j) u) 89 (0,0))):y8.R 89 W1 base ok (.slice (some ⟨gs,0,none⟩) n cap) (css.set m (c.set j u)):=by
 obtain⟨hl,h2,h3⟩:=zo h hm
 have hn:=(Kd.R_reads' h).1
 have hlt:=(List.getElem?_eq_some_iff.1 hm).1
 have e:c.take j ++ [u]++c.drop (j + [u].length)=c.set j u:=by
  rw[List.set_eq_take_append_cons_drop,if_pos mDj,List.append_assoc]
  rfl
 have hR:=(Kd.R_seg (i:=(m:Int)) (j:=j) (seg:=[u]) (x':=c.set j u) (c:=c) (okp:=fun _=>False) h mDj mDj hl (by rw[Int.toNat_natCast];exact h3) (show j+1≤29 by omega) (by
  rw[e]
  exact⟨rfl,by rw[List.length_set,hl],fun q hq=>by rcases List.mem_or_eq_of_mem_set hq with hq|rfl;exact h2 q hq;exact hu⟩) (fun _ hk=>hk.elim)).1
 rw[Int.toNat_natCast] at hR
 refine ji hR (fun k hk=>?_)
 obtain rfl:gs=k:=by simpa [Value.ownBlock] using hk
 rw[h1]
 exact(xO hb (m*29+j) u).symm
structure O_ where
 x:I
 l:List I
 e:Bool
def qFl (W:World)(base:Nat)(own:Nat→Nat)(j:Nat)(o:O_)(cs:List Value):Prop:=
 ∃ vb v,cs=qy o.x (.slice none 0 0) (.slice none 0 0) vb (.slice none 0 0) v o.e∧o.x.v.length=16∧o.x.l = []∧o.x.t = []∧o.x.els = []∧kI.R 43 W base (fun k=>own k=2*j) vb o.x.body∧kI.R 43 W base (fun k=>own k=2*j+1) v o.l
def qCb (W:World)(base:Nat)(own:Nat→Nat):List O_→List (List Value)→Prop
 | [],css=>css = []
 | o::os,css=>∃ cs0 c,css=cs0 ++ [c]∧qFl W base own os.length o c∧qCb W base own os cs0
theorem zS {W W1:World}{base:Nat}{v:Value}{l:List I}{ok ok':Nat→Prop}(h:kI.R 43 W base ok v l)
 (hm:∀ k,ok k→base≤k→k<W.heap.size→(∃ q,q ∈ 43::kI.E∧∃ cells,W.heap[k]? = some (.cells cells q (0,0)))→W1.heap[k]? = W.heap[k]?∧ok' k):kI.R 43 W1 base ok' v l:=
 Kd.R_mono (Kd.R_move (Kd.R_bound h) (fun k hk=>(hm k hk.1 hk.2.1 hk.2.2.1 hk.2.2.2).1)) (fun k hk=>(hm k hk.1 hk.2.1 hk.2.2.1 hk.2.2.2).2)
theorem qFl.move {W W1:World}{base:Nat}{own own':Nat→Nat}{j:Nat}{o:O_}{cs:List Value}(h:qFl W base own j o cs)
 (hm:∀ k,own k=2*j∨own k=2*j+1→base≤k→k<W.heap.size→(∃ q,q ∈ 43::kI.E∧∃ cells,W.heap[k]? = some (.cells cells q (0,0)))→W1.heap[k]? = W.heap[k]?∧own' k=own k):qFl W1 base own' j o cs:=by
 obtain⟨vb,v,rfl,h16,hl,ht,he,hb,hr⟩:=h
 refine⟨vb,v,rfl,h16,hl,ht,he,?_,?_⟩
 ·refine zS hb (fun k hk h1 h2 h3=>?_)
  obtain⟨q1,q2⟩:=hm k (.inl hk) h1 h2 h3
  exact⟨q1,by rw[q2];exact hk⟩
 ·refine zS hr (fun k hk h1 h2 h3=>?_)
  obtain⟨q1,q2⟩:=hm k (.inr hk) h1 h2 h3
  exact⟨q1,by rw[q2];exact hk⟩
theorem qCb.move {W W1:World}{base:Nat}{own own':Nat→Nat}:∀ {os:List O_} {css:List (List Value)},qCb W base own os css →
 (∀ k,own k<2*os.length→base≤k→k<W.heap.size→(∃ q,q ∈ 43::kI.E∧∃ cells,W.heap[k]? = some (.cells cells q (0,0)))→W1.heap[k]? = W.heap[k]?∧own' k=own k)→qCb W1 base own' os css
 | [],_,h,_=>h
 | o::os,_,⟨cs0,c,h1,h2,h3⟩,hm=>⟨cs0,c,h1,h2.move (fun k hk=>hm k (by rw[List.length_cons];omega)),h3.move (fun k hk=>hm k (by rw[List.length_cons];omega))⟩
theorem qCb.len {W:World}{base:Nat}{own:Nat→Nat}:∀ {os:List O_} {css:List (List Value)},qCb W base own os css→css.length=os.length
 | [],_,h=>by rw[show _ = [] from h];rfl
 | o::os,_,⟨cs0,c,h1,h2,h3⟩=>by rw[h1,List.length_append,h3.len];rfl
theorem yw {W:World}{o:O_}{vb v:Value}{base:Nat}{ok ok':Nat→Prop}(h16:o.x.v.length=16)(hb:kI.R 43 W base ok vb o.x.body)(hr:kI.R 43 W base ok' v o.l):∀ u ∈ qy o.x (.slice none 0 0) (.slice none 0 0) vb (.slice none 0 0) v o.e,u.oneCell'=true:=by
 obtain⟨A1,c1,rfl⟩:=Kd.R_slice hb
 obtain⟨A2,c2,rfl⟩:=Kd.R_slice hr
 intro u hu
 simp only[qy,qH,List.mem_append,List.mem_cons,List.not_mem_nil,or_false,zV,List.mem_map] at hu
 rcases hu with (rfl|rfl|rfl|rfl|⟨z,_,rfl⟩|rfl|rfl|rfl|rfl|rfl|rfl|rfl)|rfl|rfl <;> rfl
theorem qFl.raw {W:World}{base:Nat}{own:Nat→Nat}{j:Nat}{o:O_}{cs:List Value}(h:qFl W base own j o cs):cs.length=29∧∀ u ∈ cs,u.oneCell'=true:=by
 obtain⟨vb,v,rfl,h16,hl,ht,he,hb,hr⟩:=h
 exact⟨yC _ h16 _ _ _ _ _ _,yw h16 hb hr⟩
def PG (w W:World)(gg gr:Nat)(A:Option Addr)(c:Nat)(b:List Int)(vs:Value)(css:List (List Value))(at_:Int)(bad:Bool)(d:Int)(ds:Bool)(own:Nat→Nat)(os:List O_)(loc:List Nat):Prop:=
 W.heap[gg]? = some (qBO (.slice none 0 0) 0 d ds)∧W.heap[gr]? = some (oRd A c b at_ bad)∧y8.R 89 W w.heap.size (fun _=>True) vs css∧qCb W w.heap.size own os css∧Below w.heap.size w W ∧
 ∀ g,g ∈ loc→2*os.length≤own g∧g≠gg∧g≠gr∧some g≠vs.ownBlock∧w.heap.size≤g∧g<W.heap.size
section
variable {w W W1:World} {gg gr:Nat} {A:Option Addr} {c:Nat} {b:List Int} {vs:Value} {css:List (List Value)} {at_ d:Int} {bad ds:Bool} {own:Nat→Nat} {os:List O_} {loc:List Nat}
theorem PG.bel (h:PG w W gg gr A c b vs css at_ bad d ds own os loc):Below w.heap.size w W:=h.2.2.2.2.1
theorem PG.rd (h:PG w W gg gr A c b vs css at_ bad d ds own os loc):W.heap[gr]? = some (oRd A c b at_ bad):=h.2.1
theorem PG.got (h:PG w W gg gr A c b vs css at_ bad d ds own os loc):W.heap[gg]? = some (qBO (.slice none 0 0) 0 d ds):=h.1
theorem PG.raw (h:PG w W gg gr A c b vs css at_ bad d ds own os loc):y8.R 89 W w.heap.size (fun _=>True) vs css:=h.2.2.1
theorem PG.stk (h:PG w W gg gr A c b vs css at_ bad d ds own os loc):qCb W w.heap.size own os css:=h.2.2.2.1
theorem PG.below (h:PG w W gg gr A c b vs css at_ bad d ds own os loc)(hb:Below W.heap.size W W1):PG w W1 gg gr A c b vs css at_ bad d ds own os loc:=
 ⟨(hb.block _ (Array.getElem?_eq_some_iff.1 h.1).1).trans h.1,(hb.block _ (Array.getElem?_eq_some_iff.1 h.2.1).1).trans h.2.1,Kd.R_below h.2.2.1 hb,h.2.2.2.1.move (fun k _ _ hk _=>⟨hb.block k hk,rfl⟩),qB h.bel hb,fun g hg=>by have h1:=h.2.2.2.2.2 g hg;have h2:=hb.size;exact⟨h1.1,h1.2.1,h1.2.2.1,h1.2.2.2.1,h1.2.2.2.2.1,mDj⟩⟩
theorem PG.alloc (h:PG w W gg gr A c b vs css at_ bad d ds own os loc)(hb:Below W.heap.size W W1){g:Nat}(hg:g=W.heap.size)(hlt:g<W1.heap.size):∃ own',PG w W1 gg gr A c b vs css at_ bad d ds own' os (g::loc):=by
 have h2:=h.below hb
 have k1:=(Array.getElem?_eq_some_iff.1 h.1).1
 have k2:=(Array.getElem?_eq_some_iff.1 h.2.1).1
 have k3:∀ k,vs.ownBlock=some k→k<W.heap.size:=Kd.R_lt h.2.2.1
 refine⟨fun k=>if k=g then 2*os.length else own k,h2.1,h2.2.1,h2.2.2.1,?_,h2.bel,?_⟩
 ·refine h.2.2.2.1.move (fun k _ _ hk _=>⟨hb.block k hk,if_neg mDj⟩)
 ·intro k hk
  rcases List.mem_cons.1 hk with rfl|hk
  ·exact⟨mDp,mDj,mDj,fun e=>by have:=k3 _ e.symm;omega,by have:=h.bel.size;omega,hlt⟩
  ·have h3:=h2.2.2.2.2.2 k hk
   have h4:=h.2.2.2.2.2 k hk
   exact⟨by show 2*os.length≤(if _ then _ else _);rw[if_neg mDj];exact h3.1,h3.2⟩
theorem PG.store (h:PG w W gg gr A c b vs css at_ bad d ds own os loc){g:Nat}(hg:g ∈ loc)(ho:∀ k,k≠g→W1.heap[k]? = W.heap[k]?)(hs:W1.heap.size=W.heap.size)(hbel:∀ B (w0:World),B≤g→Below B w0 W→Below B w0 W1):PG w W1 gg gr A c b vs css at_ bad d ds own os loc:=by
 obtain⟨q1,q2,q3,q4,q5,q6⟩:=h.2.2.2.2.2 g hg
 refine⟨(ho _ (Ne.symm q2)).trans h.1,(ho _ (Ne.symm q3)).trans h.2.1,ji h.2.2.1 (fun k hk=>ho k (fun e=>q4 (by rw[← e];exact hk.symm))),h.2.2.2.1.move (fun k hk _ _ _=>⟨ho k (fun e=>by rw[e] at hk;omega),rfl⟩),hbel _ _ q5 h.bel,fun k hk=>by rw[hs];exact h.2.2.2.2.2 k hk⟩
theorem PG.forget (h:PG w W gg gr A c b vs css at_ bad d ds own os loc):PG w W gg gr A c b vs css at_ bad d ds own os []:=⟨h.1,h.2.1,h.2.2.1,h.2.2.2.1,h.2.2.2.2.1,fun g hg=>by cases hg⟩
theorem PG.call (h:PG w W gg gr A c b vs css at_ bad d ds own os loc){at1:Int}{bad1:Bool}(hne:gg≠gr)(h1:W1.heap[gr]? = some (oRd A c b at1 bad1)){row:Option Nat}(hrow:row=none∨∃ g,row=some g∧g ∈ loc)(hk:qc W W1 gr row)(hb:Below w.heap.size w W1):PG w W1 gg gr A c b vs css at1 bad1 d ds own os loc:=by
 have hr:∀ g,g ∈ loc→2*os.length≤own g∧g≠gg∧g≠gr∧some g≠vs.ownBlock∧w.heap.size≤g∧g<W.heap.size:=h.2.2.2.2.2
 refine⟨(hk.2 gg (Array.getElem?_eq_some_iff.1 h.1).1 hne ?_).trans h.1,h1,ji h.2.2.1 (fun k hv=>hk.2 k (Kd.R_lt h.2.2.1 k hv) ?_ ?_),h.2.2.2.1.move (fun k ho hk1 hk2 hk3=>⟨hk.2 k hk2 ?_ ?_,rfl⟩),hb,fun g hg=>?_⟩
 ·rcases hrow with rfl|⟨g,rfl,hg⟩
  ·simp
  ·intro e;exact(hr g hg).2.1 (Option.some.inj e).symm
 ·intro e
  obtain⟨inner,ho⟩:=Kd.R_own h.2.2.1
  obtain⟨cells,hc⟩:=zl ho k hv
  rw[e,h.2.1] at hc
  simp[oRd] at hc
 ·rcases hrow with rfl|⟨g,rfl,hg⟩
  ·simp
  ·intro e;exact(hr g hg).2.2.2.1 (by rw[← e,hv])
 ·intro e
  obtain⟨q,hq,cells,hc⟩:=hk3
  rw[e,h.2.1] at hc
  simp only[oRd,Option.some.injEq,Obj.cells.injEq] at hc
  obtain⟨_,rfl,_⟩:=hc
  revert hq
  decide
 ·rcases hrow with rfl|⟨g,rfl,hg⟩
  ·simp
  ·intro e
   have h9:=(hr g hg).1
   rw[← Option.some.inj e] at h9
   omega
 ·obtain⟨a1,a2,a3,a4,a5,a6⟩:=hr g hg
  exact⟨a1,a2,a3,a4,a5,by have:=hk.1;omega⟩
theorem PG.gotten (h:PG w W gg gr A c b vs css at_ bad d ds own os loc){d1:Int}{ds1:Bool}(hne:gg≠gr)(h1:W1.heap[gg]? = some (qBO (.slice none 0 0) 0 d1 ds1))(ho:∀ k,k≠gg→W1.heap[k]? = W.heap[k]?)(hs:W1.heap.size=W.heap.size)(hb:Below w.heap.size w W1):PG w W1 gg gr A c b vs css at_ bad d1 ds1 own os loc:=by
 refine⟨h1,(ho _ (Ne.symm hne)).trans h.2.1,ji h.2.2.1 (fun k hv=>ho k ?_),h.2.2.2.1.move (fun k _ hk1 hk2 hk3=>⟨ho k ?_,rfl⟩),hb,fun g hg=>by rw[hs];exact h.2.2.2.2.2 g hg⟩
 ·intro e
  obtain⟨inner,ho⟩:=Kd.R_own h.2.2.1
  obtain⟨cells,hc⟩:=zl ho k hv
  rw[e,h.1] at hc
  simp[qBO] at hc
 ·intro e
  obtain⟨q,hq,cells,hc⟩:=hk3
  rw[e,h.1] at hc
  simp only[qBO,Option.some.injEq,Obj.cells.injEq] at hc
  obtain⟨_,rfl,_⟩:=hc
  revert hq
  decide
end
def qv (o:O_):I:=if o.e=true then {o.x with els:=o.l} else {o.x with body:=o.l}
def zO:O_:=⟨zI,[],false⟩
section
variable {P:Program} {md:Region.Mode} {ops:Array Oper} {Q:Exit→Act→World→Prop} {S:World→Prop} {ds:List Nat}
theorem qJt {i j:Nat}{Ni Nj:Option Tmp}{oi oj:Oper}{fuel:Nat}{l:Array Bool}{a:Act}{w:World}(li lj:Array Bool)(hi:ops[i]? = some oi)(hj:ops[j]? = some oj)(hNi:oi.dst=Ni)(hNj:oj.dst=Nj)
 (hc:(Region.ready md ops l == [i,j] && l.setIfInBounds i true==li && l.setIfInBounds j true==lj)=true)(hdi:i ∈ ds)(hdj:j ∈ ds)
 (h1:∀ K:Act→World→Prop,Shut (∀ a' w',qb P md ops Q S ds fuel li a' w'→K a' w')→if Region.wanted oi (yielded ops a.tmps)=true then Oper.wp P oi a w K Q else K (a.put Ni undef) w)
 (h2:∀ K:Act→World→Prop,Shut (∀ a' w',qb P md ops Q S ds fuel lj a' w'→K a' w')→if Region.wanted oj (yielded ops a.tmps)=true then Oper.wp P oj a w K Q else K (a.put Nj undef) w):
 qb P md ops Q S ds (fuel+1) l a w:=by
 subst hNi
 subst hNj
 simp only[Bool.and_eq_true,beq_iff_eq] at hc
 obtain⟨⟨h3,h4⟩,h5⟩:=hc
 subst h4
 subst h5
 exact jl h3 mDp (zF.cons_last hi hdi (fun K hK=>h1 K hK) (zF.cons_last hj hdj (fun K hK=>h2 K hK) zF.nil))
end
theorem qAM (o:O_)(vl vt vb ve:Value):qH (qv o) vl vt vb ve=qH o.x vl vt vb ve:=by
 unfold qv
 split <;> rfl
theorem xf (x:I)(h:x.v.length=16)(vl vt vb ve v u:Value)(e:Bool):(qy x vl vt vb ve v e).toArray.setIfInBounds 25 u=(qy x vl vt u ve v e).toArray∧(qy x vl vt vb ve v e).toArray.setIfInBounds 26 u=(qy x vl vt vb u v e).toArray:=by
 have hl:=qL x h vl vt vb ve
 have h2:=ze x h vl vt vb ve u
 simp only[List.setIfInBounds_toArray] at h2
 have e1:=congrArg Array.toList h2.2.2.1
 have e2:=congrArg Array.toList h2.2.2.2
 simp only[List.setIfInBounds_toArray,qy]
 rw[List.set_append_left _ _ mDj,List.set_append_left _ _ mDj]
 have e1':(qH x vl vt vb ve).set 25 u=qH x vl vt u ve:=e1
 have e2':(qH x vl vt vb ve).set 26 u=qH x vl vt vb u:=e2
 rw[e1',e2']
 exact⟨rfl,rfl⟩
theorem qGK {W:World}{base gv n cv:Nat}{ok okp:Nat→Prop}{l:List I}{y x:I}{vl vt vb ve:Value}(h:kI.R 43 W base ok (.slice (some ⟨gv,0,none⟩) n cv) (l ++ [y]))(hM:kI.M W base okp x (qH x vl vt vb ve))(hokp:∀ k,okp k→ok k∧k≠gv)(h16:x.v.length=16):
 W.there gv (l.length*27) (qH x vl vt vb ve).toArray.size∧kI.R 43 (W.setCells gv (l.length*27) (qH x vl vt vb ve)) base ok (.slice (some ⟨gv,0,none⟩) n cv) (l ++ [x]):=by
 have hn:=(Kd.R_reads' h).1
 rw[List.length_append,List.length_singleton] at hn
 have hxl:=qL x h16 vl vt vb ve
 obtain⟨cs,hcl,_,hcc,hff⟩:=Kd.R_elem h zI (l.length:Int) mDj mDj
 rw[Int.toNat_natCast] at hcc hff
 have hcl2:cs.length=27:=hcl
 have hR:=(Kd.R_seg (i:=(l.length:Int)) (j:=0) (seg:=qH x vl vt vb ve) (x':=x) (okp:=okp) h mDj mDj hcl (by rw[Int.toNat_natCast];exact hcc) (by rw[hxl];exact(show 0+27≤27 by decide)) (by
  have e2:cs.drop (0+(qH x vl vt vb ve).length) = []:=List.drop_eq_nil_of_le (by rw[hcl2,hxl];exact Nat.le_refl _)
  rw[e2,List.take_zero,List.nil_append,List.append_nil]
  exact hM) hokp).1
 rw[Int.toNat_natCast] at hR
 have e3:(l ++ [y]).set l.length x=l ++ [x]:=by
  rw[List.set_append_right _ _ (Nat.le_refl _),Nat.sub_self]
  rfl
 rw[e3] at hR
 refine⟨fun j hj=>⟨?_,hff j⟩,hR⟩
 rw[List.size_toArray,hxl] at hj
 have h9:=hcc j _ (List.getElem?_eq_getElem (show j<cs.length by omega))
 have h8:W.cell? ⟨gv,l.length*27+j,none⟩=some cs[j]:=h9
 rw[h8]
 rfl
structure CQ (w W:World) (gg gr gs:Nat) (A:Option Addr) (c:Nat) (b:List Int) (at_:Int) (bad:Bool) (d:Int) (ds:Bool) (n cap:Nat) (css:List (List Value)) (own:Nat→Nat) (o p:O_) (ps:List O_) (cs0:List (List Value)) (vb v vbp vp:Value) (lp:List I) (loc:List Nat):Prop where
 got:W.heap[gg]? = some (qBO (.slice none 0 0) 0 d ds)
 rd:W.heap[gr]? = some (oRd A c b at_ bad)
 raw:y8.R 89 W w.heap.size (fun _=>True) (.slice (some ⟨gs,0,none⟩) n cap) css
 stk:qCb W w.heap.size own ps cs0
 rbp:kI.R 43 W w.heap.size (fun k=>own k=2*ps.length) vbp p.x.body
 rp:kI.R 43 W w.heap.size (fun k=>own k=2*ps.length+1∨own k=2*ps.length+2∨own k=2*ps.length+3) vp lp
 hp:∀ k,vp.ownBlock=some k→own k=2*ps.length+1
 rb:kI.R 43 W w.heap.size (fun k=>own k=2*ps.length+2) vb o.x.body
 rv:kI.R 43 W w.heap.size (fun k=>own k=2*ps.length+3) v o.l
 bel:Below w.heap.size w W
 loc:∀ g,g ∈ loc→2*ps.length+4≤own g∧g≠gg∧g≠gr∧g≠gs∧w.heap.size≤g∧g<W.heap.size
def TyI (W:World)(k:Nat):Prop:=∃ q,q ∈ 43::kI.E∧∃ cells,W.heap[k]? = some (.cells cells q (0,0))
theorem TyI.ne {W:World}{k g:Nat}{t:TypeId}{cs:Array Value}(h:TyI W k)(hg:W.heap[g]? = some (.cells cs t (0,0)))(ht:t ∉ 43::kI.E):k≠g:=by
 rintro rfl
 obtain⟨q,hq,cells,hc⟩:=h
 rw[hg] at hc
 simp only[Option.some.injEq,Obj.cells.injEq] at hc
 obtain⟨_,rfl,_⟩:=hc
 exact ht hq
section
variable {w W W1:World} {gg gr gs:Nat} {A:Option Addr} {c:Nat} {b:List Int} {at_:Int} {bad:Bool} {d:Int} {ds:Bool} {n cap:Nat} {css:List (List Value)} {own:Nat→Nat} {o p:O_} {ps:List O_} {cs0:List (List Value)} {vb v vbp vp:Value} {lp:List I} {loc:List Nat}
theorem CQ.gsb (h:CQ w W gg gr gs A c b at_ bad d ds n cap css own o p ps cs0 vb v vbp vp lp loc):∃ cells,W.heap[gs]? = some (.cells cells 89 (0,0)):=by
 obtain⟨inner,ho⟩:=Kd.R_own h.raw
 exact zl ho gs mEb
theorem CQ.step (h:CQ w W gg gr gs A c b at_ bad d ds n cap css own o p ps cs0 vb v vbp vp lp loc)(hm:∀ k,k<W.heap.size→(k=gg∨k=gr∨k=gs∨(own k<2*ps.length+4∧TyI W k))→W1.heap[k]? = W.heap[k]?)(hb:Below w.heap.size w W1)(hs:W.heap.size≤W1.heap.size):CQ w W1 gg gr gs A c b at_ bad d ds n cap css own o p ps cs0 vb v vbp vp lp loc:=by
 obtain⟨cells,hc⟩:=h.gsb
 exact⟨(hm gg (qN h.got) (.inl rfl)).trans h.got,(hm gr (qN h.rd) (.inr (.inl rfl))).trans h.rd,
  ji h.raw (fun k hk=>by (obtain rfl:gs=k:=by simpa [Value.ownBlock] using hk);exact hm gs (qN hc) (.inr (.inr (.inl rfl)))),
  h.stk.move (fun k h1 _ h3 h4=>⟨hm k h3 (.inr (.inr (.inr ⟨mDj,h4⟩))),rfl⟩),
  zS h.rbp (fun k h1 _ h3 h4=>⟨hm k h3 (.inr (.inr (.inr ⟨mDj,h4⟩))),h1⟩),
  zS h.rp (fun k h1 _ h3 h4=>⟨hm k h3 (.inr (.inr (.inr ⟨mDj,h4⟩))),h1⟩),h.hp,
  zS h.rb (fun k h1 _ h3 h4=>⟨hm k h3 (.inr (.inr (.inr ⟨mDj,h4⟩))),h1⟩),
  zS h.rv (fun k h1 _ h3 h4=>⟨hm k h3 (.inr (.inr (.inr ⟨mDj,h4⟩))),h1⟩),hb,
  fun g hg=>by have h1:=h.loc g hg;exact⟨h1.1,h1.2.1,h1.2.2.1,h1.2.2.2.1,h1.2.2.2.2.1,mDj⟩⟩
theorem CQ.below (h:CQ w W gg gr gs A c b at_ bad d ds n cap css own o p ps cs0 vb v vbp vp lp loc)(hb:Below W.heap.size W W1):CQ w W1 gg gr gs A c b at_ bad d ds n cap css own o p ps cs0 vb v vbp vp lp loc:=
 h.step (fun k hk _=>hb.block k hk) (qB h.bel hb) hb.size
theorem CQ.mark (h:CQ w W gg gr gs A c b at_ bad d ds n cap css own o p ps cs0 vb v vbp vp lp loc){own':Nat→Nat}{loc':List Nat}(hm:∀ k,k<W.heap.size→own' k=own k)(hl:∀ g,g ∈ loc'→2*ps.length+4≤own' g∧g≠gg∧g≠gr∧g≠gs∧w.heap.size≤g∧g<W.heap.size):CQ w W gg gr gs A c b at_ bad d ds n cap css own' o p ps cs0 vb v vbp vp lp loc':=
 ⟨h.got,h.rd,h.raw,h.stk.move (fun k h1 _ h3 h4=>⟨rfl,hm k h3⟩),
  zS h.rbp (fun k h1 _ h3 h4=>⟨rfl,by rw[hm k h3];exact h1⟩),zS h.rp (fun k h1 _ h3 h4=>⟨rfl,by rw[hm k h3];exact h1⟩),
  fun k hk=>by rw[hm k (Kd.R_lt h.rp k hk)];exact h.hp k hk,
  zS h.rb (fun k h1 _ h3 h4=>⟨rfl,by rw[hm k h3];exact h1⟩),zS h.rv (fun k h1 _ h3 h4=>⟨rfl,by rw[hm k h3];exact h1⟩),h.bel,hl⟩
theorem CQ.alloc (h:CQ w W gg gr gs A c b at_ bad d ds n cap css own o p ps cs0 vb v vbp vp lp loc)(hb:Below W.heap.size W W1){g:Nat}(hg:g=W.heap.size)(hlt:g<W1.heap.size):∃ own',CQ w W1 gg gr gs A c b at_ bad d ds n cap css own' o p ps cs0 vb v vbp vp lp (g::loc):=by
 obtain⟨cells,hc⟩:=h.gsb
 have k1:=qN h.got
 have k2:=qN h.rd
 have k3:=qN hc
 have h0:=h.mark (own':=fun k=>if W.heap.size≤k then 2*ps.length+4 else own k) (loc':=loc) (fun k hk=>if_neg mDj) (fun g' hg'=>by have h1:=h.loc g' hg';exact⟨by show 2*ps.length+4≤(if _ then _ else _);rw[if_neg mDj];exact h1.1,h1.2⟩)
 have h1:=h0.below hb
 refine⟨_,h1.got,h1.rd,h1.raw,h1.stk,h1.rbp,h1.rp,h1.hp,h1.rb,h1.rv,h1.bel,fun k hk=>?_⟩
 exact mBw
theorem CQ.store (h:CQ w W gg gr gs A c b at_ bad d ds n cap css own o p ps cs0 vb v vbp vp lp loc){g:Nat}(hg:g ∈ loc)(ho:∀ k,k≠g→W1.heap[k]? = W.heap[k]?)(hs:W1.heap.size=W.heap.size)(hbel:∀ B (w0:World),B≤g→Below B w0 W→Below B w0 W1):CQ w W1 gg gr gs A c b at_ bad d ds n cap css own o p ps cs0 vb v vbp vp lp loc:=by
 exact mBt
theorem CQ.fresh (h:CQ w W gg gr gs A c b at_ bad d ds n cap css own o p ps cs0 vb v vbp vp lp loc):∃ own',CQ w W gg gr gs A c b at_ bad d ds n cap css own' o p ps cs0 vb v vbp vp lp loc∧∀ k,W.heap.size≤k→own' k=2*ps.length+1:=
 ⟨fun k=>if W.heap.size≤k then 2*ps.length+1 else own k,h.mark (fun k hk=>if_neg mDj) (fun g hg=>by have h1:=h.loc g hg;exact⟨by show 2*ps.length+4≤(if _ then _ else _);rw[if_neg mDj];exact h1.1,h1.2⟩),fun k hk=>if_pos hk⟩
theorem CQ.grow (h:CQ w W gg gr gs A c b at_ bad d ds n cap css own o p ps cs0 vb v vbp vp lp loc)(hf:∀ k,W.heap.size≤k→own k=2*ps.length+1){v1:Value}{l1:List I}(hr:kI.R 43 W1 w.heap.size (fun k=>own k=2*ps.length+1∨own k=2*ps.length+2∨own k=2*ps.length+3) v1 l1)(hb:Below w.heap.size w W1)(hg:W.grownBy W1 vp.ownBlock)(hat:v1.ownBlock=vp.ownBlock∨∃ k,v1.ownBlock=some k∧W.heap.size≤k):CQ w W1 gg gr gs A c b at_ bad d ds n cap css own o p ps cs0 vb v vbp v1 l1 loc:=by
 obtain⟨cells,hc⟩:=h.gsb
 obtain⟨inner,ho⟩:=Kd.R_own h.rp
 have hne:∀(g:Nat) (cs:Array Value) (t:TypeId),W.heap[g]? = some (.cells cs t (0,0))→t≠43→some g≠vp.ownBlock:=by
  intro g cs t hg1 ht he
  exact mCa
 have hk:∀ k,own k≠2*ps.length+1→k<W.heap.size→W1.heap[k]? = W.heap[k]?:=fun k h1 h2=>hg.block k h2 (fun he=>h1 (h.hp k he.symm))
 refine⟨(hg.block gg (qN h.got) (hne gg _ 65 h.got mDl)).trans h.got,(hg.block gr (qN h.rd) (hne gr _ 87 h.rd mDl)).trans h.rd,
  ji h.raw (fun k hk1=>by (obtain rfl:gs=k:=by simpa [Value.ownBlock] using hk1);exact hg.block gs (qN hc) (hne gs _ 89 hc mDl)),
  h.stk.move (fun k h1 _ h3 h4=>⟨hk k mDj h3,rfl⟩),
  zS h.rbp (fun k h1 _ h3 h4=>⟨hk k mDj h3,h1⟩),hr,?_,
  zS h.rb (fun k h1 _ h3 h4=>⟨hk k mDj h3,h1⟩),zS h.rv (fun k h1 _ h3 h4=>⟨hk k mDj h3,h1⟩),hb,fun g hg1=>?_⟩
 ·exact mB8
 ·have h1:=h.loc g hg1
  exact⟨h1.1,h1.2.1,h1.2.2.1,h1.2.2.2.1,h1.2.2.2.2.1,by have:=hg.size;omega⟩
theorem qDE {base:Nat}{ok:Nat→Prop}{vb' ve':Value}(h16:o.x.v.length=16)(hl:o.x.l = [])(ht:o.x.t = [])(hb:kI.R 43 W base ok vb' (qv o).body)(he:kI.R 43 W base ok ve' (qv o).els):kI.M W base ok (qv o) (qH (qv o) (.slice none 0 0) (.slice none 0 0) vb' ve'):=by
 have e1:(qv o).v=o.x.v:=by unfold qv;split <;> rfl
 have e2:(qv o).l = []:=by rw[← hl];unfold qv;split <;> rfl
 have e3:(qv o).t = []:=by rw[← ht];unfold qv;split <;> rfl
 exact qBa W base ok (qv o) (by rw[e1];exact h16) (by rw[e2];exact Kd.R_nil _ _ _ _ _) (by rw[e3];exact Kd.R_nil _ _ _ _ _) hb he
theorem CQ.clM (h:CQ w W gg gr gs A c b at_ bad d ds n cap css own o p ps cs0 vb v vbp vp lp loc)(h16:o.x.v.length=16)(hl:o.x.l = [])(ht:o.x.t = [])(hels:o.x.els = []){vb' ve':Value}(hv:(o.e=true∧vb'=vb∧ve'=v)∨(o.e=false∧vb'=v∧ve' = .slice none 0 0)):kI.M W w.heap.size (fun k=>own k=2*ps.length+2∨own k=2*ps.length+3) (qv o) (qH (qv o) (.slice none 0 0) (.slice none 0 0) vb' ve'):=by
 rcases hv with ⟨e,rfl,rfl⟩|⟨e,rfl,rfl⟩
 ·refine qDE h16 hl ht ?_ ?_
  ·rw[qv,if_pos e];exact Kd.R_mono h.rb (fun k hk=>.inl hk)
  ·rw[qv,if_pos e];exact Kd.R_mono h.rv (fun k hk=>.inr hk)
 ·refine qDE h16 hl ht ?_ ?_
  ·rw[qv,if_neg (by rw[e];simp)];exact Kd.R_mono h.rv (fun k hk=>.inr hk)
  ·rw[qv,if_neg (by rw[e];simp)]
   show kI.R 43 W w.heap.size _ (.slice none 0 0) o.x.els
   rw[hels];exact Kd.R_nil _ _ _ _ _
theorem CQ.put {gv n2 cv:Nat}{l:List I}{y:I}(h:CQ w W gg gr gs A c b at_ bad d ds n cap css own o p ps cs0 vb v vbp (.slice (some ⟨gv,0,none⟩) n2 cv) (l ++ [y]) loc)(h16:(qv o).v.length=16){vb' ve':Value}(hM:kI.M W w.heap.size (fun k=>own k=2*ps.length+2∨own k=2*ps.length+3) (qv o) (qH (qv o) (.slice none 0 0) (.slice none 0 0) vb' ve')):
 W.there gv (l.length*27) (qH (qv o) (.slice none 0 0) (.slice none 0 0) vb' ve').toArray.size∧CQ w (W.setCells gv (l.length*27) (qH (qv o) (.slice none 0 0) (.slice none 0 0) vb' ve').toArray.toList) gg gr gs A c b at_ bad d ds n cap css own o p ps cs0 vb v vbp (.slice (some ⟨gv,0,none⟩) n2 cv) (l ++ [qv o]) loc:=by
 have hgv:own gv=2*ps.length+1:=h.hp gv mEb
 obtain⟨h1,h2⟩:=qGK h.rp hM (fun k hk=>⟨mDj,fun e=>by rw[e] at hk;omega⟩) h16
 obtain⟨inner,ho⟩:=Kd.R_own h.rp
 obtain⟨cv',hcv⟩:=zl ho gv mEb
 obtain⟨cells,hc⟩:=h.gsb
 obtain⟨q1,q2,q3,q4⟩:=jr (qH (qv o) (.slice none 0 0) (.slice none 0 0) vb' ve') (l.length*27) W cv' hcv
 have hbase:w.heap.size≤gv:=xY ho gv mEb
 have hne:∀(g:Nat) (cs:Array Value) (t:TypeId),W.heap[g]? = some (.cells cs t (0,0))→t≠43→g≠gv:=by
  rintro g cs t hg1 ht rfl
  rw[hg1] at hcv
  simp only[Option.some.injEq,Obj.cells.injEq] at hcv
  exact ht hcv.2.1
 refine⟨h1,(q2 gg (hne gg _ 65 h.got mDl)).trans h.got,(q2 gr (hne gr _ 87 h.rd mDl)).trans h.rd,
  ji h.raw (fun k hk1=>by (obtain rfl:gs=k:=by simpa [Value.ownBlock] using hk1);exact q2 gs (hne gs _ 89 hc mDl)),
  h.stk.move (fun k h1 _ h3 h4=>⟨q2 k mEh,rfl⟩),
  zS h.rbp (fun k h1 _ h3 h4=>⟨q2 k mEh,h1⟩),h2,h.hp,
  zS h.rb (fun k h1 _ h3 h4=>⟨q2 k mEh,h1⟩),zS h.rv (fun k h1 _ h3 h4=>⟨q2 k mEh,h1⟩),q4 _ _ hbase h.bel,fun g hg1=>by rw[q3];exact h.loc g hg1⟩
theorem CQ.top (h:CQ w W gg gr gs A c b at_ bad d ds n cap css own o p ps cs0 vb v vbp vp lp loc){m j:Nat}{co:List Value}(hm:css[m]? = some co)(hj:j<29){u:Value}(hu:u.oneCell'=true){cells:Array Value}(hb:W.heap[gs]? = some (.cells cells 89 (0,0)))
 (h1:W1.heap[gs]? = some (.cells (cells.setIfInBounds (m*29+j) u) 89 (0,0)))(ho:∀ k,k≠gs→W1.heap[k]? = W.heap[k]?)(hs:W1.heap.size=W.heap.size)(hbel:∀ B (w0:World),B≤gs→Below B w0 W→Below B w0 W1):CQ w W1 gg gr gs A c b at_ bad d ds n cap (css.set m (co.set j u)) own o p ps cs0 vb v vbp vp lp loc:=by
 have hbase:w.heap.size≤gs:=Kd.R_base h.raw gs mEb
 have hk:∀ k,TyI W k→W1.heap[k]? = W.heap[k]?:=fun k ht=>ho k (ht.ne hb mDl)
 refine⟨(ho gg ?_).trans h.got,(ho gr ?_).trans h.rd,qAw h.raw hm hj hu hb h1,h.stk.move (fun k _ _ _ h4=>⟨hk k h4,rfl⟩),zS h.rbp (fun k h1 _ h3 h4=>⟨hk k h4,h1⟩),zS h.rp (fun k h1 _ h3 h4=>⟨hk k h4,h1⟩),h.hp,
  zS h.rb (fun k h1 _ h3 h4=>⟨hk k h4,h1⟩),zS h.rv (fun k h1 _ h3 h4=>⟨hk k h4,h1⟩),hbel _ _ hbase h.bel,fun g hg=>by rw[hs];exact h.loc g hg⟩
 ·rintro rfl
  have h9:=h.got
  rw[hb] at h9
  simp[qBO] at h9
 ·rintro rfl
  have h9:=h.rd
  rw[hb] at h9
  simp[oRd] at h9
theorem CQ.cut {m:Nat}(h:CQ w W gg gr gs A c b at_ bad d ds n cap css own o p ps cs0 vb v vbp vp lp loc)(hm:m≤css.length):CQ w W gg gr gs A c b at_ bad d ds m cap (css.take m) own o p ps cs0 vb v vbp vp lp loc:=
 ⟨h.got,h.rd,Kd.R_take h.raw hm,h.stk,h.rbp,h.rp,h.hp,h.rb,h.rv,h.bel,h.loc⟩
theorem qHn {cs0:List (List Value)}{cp cp' co:List Value}{m:Nat}(e:cs0.length=m):(((cs0 ++ [cp]) ++ [co]).set m cp').take (m+1)=cs0 ++ [cp']:=by
 rw[List.append_assoc,List.set_append_right _ _ mDj,e,Nat.sub_self]
 show(cs0 ++ [cp',co]).take (m+1)=_
 rw[show cs0 ++ [cp',co]=(cs0 ++ [cp']) ++ [co] by simp]
 exact List.take_left' (by simp[e])
theorem qD4 (x:I)(h:x.v.length=16)(vl vt vb ve v:Value)(e:Bool):((qy x vl vt vb ve v e).drop 0).take 27=qH x vl vt vb ve:=by
 rw[List.drop_zero,qy]
 exact List.take_left' (qL x h vl vt vb ve)
theorem qAp (x:I)(h:x.v.length=16)(vl vt vb ve v u:Value)(e:Bool):(qy x vl vt vb ve v e).set 27 u=qy x vl vt vb ve u e:=by
 have h2:=congrArg Array.toList (qE4 x h vl vt vb ve v u e)
 simpa using h2
theorem qBI {x:I}(h:x.v.length=16){e:Bool}{a1 a2:Option Addr}{n1 n2 c1 c2:Nat}{vb' ve':Value}(hv:(e=true∧vb' = .slice a1 n1 c1∧ve' = .slice a2 n2 c2)∨(e=false∧vb' = .slice a2 n2 c2∧ve' = .slice none 0 0))(u:Value)(hu:u ∈ qH x (.slice none 0 0) (.slice none 0 0) vb' ve'):u.oneCell'=true:=by
 rcases hv with ⟨_,rfl,rfl⟩|⟨_,rfl,rfl⟩ <;>
 ·simp only[qH,List.mem_append,List.mem_cons,List.not_mem_nil,or_false,zV,List.mem_map] at hu
  rcases hu with rfl|rfl|rfl|rfl|⟨z,_,rfl⟩|rfl|rfl|rfl|rfl|rfl|rfl|rfl <;> rfl
theorem CQ.done (h:CQ w W gg gr gs A c b at_ bad d ds n cap css own o p ps cs0 vb v vbp vp lp loc)(h16:p.x.v.length=16)(hl:p.x.l = [])(ht:p.x.t = [])(hels:p.x.els = [])(hcss:css=cs0 ++ [qy p.x (.slice none 0 0) (.slice none 0 0) vbp (.slice none 0 0) vp p.e]):
 ∃ own',PG w W gg gr A c b (.slice (some ⟨gs,0,none⟩) n cap) css at_ bad d ds own' (⟨p.x,lp,p.e⟩::ps) []:=by
 refine⟨fun k=>if own k=2*ps.length+2∨own k=2*ps.length+3 then 2*ps.length+1 else own k,h.got,h.rd,h.raw,⟨cs0,_,hcss,⟨vbp,vp,rfl,h16,hl,ht,hels,?_,?_⟩,?_⟩,h.bel,fun g hg=>by cases hg⟩
 ·exact Kd.R_mono h.rbp (fun k hk=>by show(if _ then _ else _)=_;rw[if_neg mDj];exact hk)
 ·exact mB9
 ·refine h.stk.move (fun k hk _ _ _=>⟨rfl,if_neg mDj⟩)
end
def jU.T10:Bool × List (List Nat × List Nat):=(true,[([],[]),([0],[0]),([1],[1]),([2],[2]),([],[]),([4],[4]),([3],[3]),([],[]),([3,7,0,1,2,3,4,5,6,7],[3,7]),([8,6,0,1,2,3,4,5,6,7,8],[6,8]),([9,5,8,0,1,2,3,4,5,6,7,8],[5,9]),([0,0,1,2,3,4,5,6,7,8],[0]),([11,0,1,2,3,4,5,6,7,8],[11]),([12,8,8,0,1,2,3,4,5,6,7,8],[8,12])])
def jU.B10:List Nat:=[0,1,3,7,0,16,15,0,255,511,1023,511,2559,6655]
theorem jU.tab10:jO .any (xL Tryd.f47 10)=jU.T10:=mDh
theorem jU.bits10:zc jU.T10.2 jU.B10=true:=mDh
set_option maxRecDepth 100000 in
theorem qDf (w W:World)(gg gr gs:Nat)(A:Option Addr)(c:Nat)(b:List Int)(css:List (List Value))(at_ d:Int)(bad ds:Bool)(own:Nat→Nat)(o p:O_)(ps:List O_)(m cap:Nat)(hm:m=ps.length)(hlen:p.l.length<1000000000)
 (h:PG w W gg gr A c b (.slice (some ⟨gs,0,none⟩) (m+1+1) cap) css at_ bad d ds own (o::p::ps) []):
 Calls Tryd.prog 47 #[.pointer (some ⟨gg,0,none⟩),.slice (some ⟨gs,0,none⟩) (m+1+1) cap] W fun e W'=>∃ own' css',e = .returned (.tuple #[.slice (some ⟨gs,0,none⟩) (m+1) cap,.bool true])∧PG w W' gg gr A c b (.slice (some ⟨gs,0,none⟩) (m+1) cap) css' at_ bad d ds own' (⟨p.x,p.l ++ [qv o],p.e⟩::ps) []:=by
 obtain⟨cs1,co,hcss,hLo,cs0,cp,hcs1,hLp,hst⟩:=h.stk
 obtain⟨vb,v,hco,h16,hl,ht,hels,hrb,hrv⟩:=hLo
 obtain⟨vbp,vp,hcp,g16,gl,gt,gels,grb,grv⟩:=hLp
 have e0:cs0.length=m:=by rw[hst.len,hm]
 have hin0:css[m]? = some cp:=by rw[hcss,hcs1,List.append_assoc,List.getElem?_append_right mDj,e0,Nat.sub_self];rfl
 have hin1:css[m+1]? = some co:=by rw[hcss,hcs1,List.append_assoc,List.getElem?_append_right mDj,e0,Nat.add_sub_cancel_left];rfl
 obtain⟨hol,hoo,hoc⟩:=zo h.raw hin1
 obtain⟨hpl,hpo,hpc⟩:=zo h.raw hin0
 obtain⟨AV,cV,rfl⟩:=Kd.R_slice hrv
 obtain⟨AVB,cVB,rfl⟩:=Kd.R_slice hrb
 obtain⟨AP,cP,rfl⟩:=Kd.R_slice grv
 have hC0:CQ w W gg gr gs A c b at_ bad d ds (m+1+1) cap css own o p ps cs0 (.slice AVB o.x.body.length cVB) (.slice AV o.l.length cV) vbp (.slice AP p.l.length cP) p.l []:=
  ⟨h.got,h.rd,h.raw,hst,grb,Kd.R_mono grv (fun k hk=>.inl hk),fun k hk=>grv.1 k hk,Kd.R_mono hrb (fun k hk=>by rw[List.length_cons] at hk;omega),Kd.R_mono hrv (fun k hk=>by rw[List.length_cons] at hk;omega),h.bel,fun g hg=>by cases hg⟩
 have HC:=am hC0
 have hcap:m+1+1≤cap:=(Kd.R_reads' h.raw).2.1
 have hmx:m+1+1≤9223372036854775807:=by have h1:=Kd.C_max (Kd.R_reads' h.raw).2.2;have h2:=(Kd.R_reads' h.raw).1;omega
 have H16:=am h16
 have HOL:=am hol
 have HOO:=am hoo
 have HOC:=am (fun(W1:World) (h1:CQ w W1 gg gr gs A c b at_ bad d ds (m+1+1) cap css own o p ps cs0 (.slice AVB o.x.body.length cVB) (.slice AV o.l.length cV) vbp (.slice AP p.l.length cP) p.l [])=>(zo h1.raw hin1).2.2)
 have C27:=am (fun(W1:World) (own':Nat→Nat) (loc':List Nat) (h1:CQ w W1 gg gr gs A c b at_ bad d ds (m+1+1) cap css own' o p ps cs0 (.slice AVB o.x.body.length cVB) (.slice AV o.l.length cV) vbp (.slice AP p.l.length cP) p.l loc')=>(zo h1.raw hin0).2.2 27 (.slice AP p.l.length cP) (by rw[hcp];exact(zz p.x g16 _ _ _ _ _ _).1))
 have HPL:=am hlen
 have HE0:=am e0
 have HM:=am hm
 have HI:=am (And.intro hin0 hin1)
 have HF:=am (And.intro hl (And.intro ht hels))
 have HG:=am (And.intro g16 (And.intro gl (And.intro gt gels)))
 have HX:=am (And.intro hcss (And.intro hcs1 (And.intro hco hcp)))
 have hm2:m+1≤cap:=mDj
 clear hC0 h h16 hl ht hels hrb hrv g16 gl gt gels grb grv hst hcss hcs1 hol hoo hoc hpl hpo hpc hlen hm hin0 hin1 hco hcp e0
 have d0:((m:Int)+1==0)=false:=by rw[beq_eq_false_iff_ne];omega
 cases he:o.e
 all_goals
  go_enter Tryd.func47,Tryd.ntmps47
  go_wp2_with (first
   | ((with_reducible refine qE (N:=13) rfl ?_);refine wpList_load_mid rfl 89 (.tmp 12) rfl gs ((m+1)*29) rfl co _ (HOC.out _ (by first|exact HC.out|exact HC.out.below (qJ (Below.refl _ _) _))) Tryd.underlying89 rfl (by rw[HOL.out];exact qDa) ?_)
   | ((with_reducible refine qE (N:=6) rfl ?_);refine qd rfl 89 rfl _ qGx ?_;intro g6 hg6 w2 hb hbl;obtain⟨own1,hC1⟩:=HC.out.alloc hbl hg6 (qN hb);clear HC HOC hg6 hbl;have HC:=am hC1;have B6:=am hb;clear hC1 hb)
   | ((with_reducible refine qF (t:=89) (p:=6) (v:=.tmp 13) rfl ?_);refine qV rfl 89 (.tmp 6) (.tmp 13) rfl g6 co.toArray rfl rfl 89 _ B6.out (by rw[List.size_toArray,HOL.out];exact qDa) ((show(Value.agg (qy zI (.slice none 0 0) (.slice none 0 0) (.slice none 0 0) (.slice none 0 0) (.slice none 0 0) false).toArray).cells.size=29 from rfl).trans (List.size_toArray.trans HOL.out).symm) (all_oneCell_toArray HOO.out) ?_;intro w3 hb hoth hsz hbel;have n0_:=am (HC.out.store (List.mem_cons_self ..) hoth hsz hbel);have n1_:Aside0 (w3.heap[g6]? = some (.cells (qy o.x (.slice none 0 0) (.slice none 0 0) (.slice AVB o.x.body.length cVB) (.slice none 0 0) (.slice AV o.l.length cV) o.e).toArray 89 (0,0))):=⟨by rw[← HX.out.2.2.1];exact hb⟩;clear HC B6 hb hoth hsz hbel;have HC:=n0_;have B6:=n1_;clear n0_ n1_;have c27:w3.cell? ⟨g6,27,none⟩=some (.slice AV o.l.length cV):=(qA B6.out 27).trans (by rw[List.getElem?_toArray];exact(zz o.x H16.out _ _ _ _ _ _).1);have c28:w3.cell? ⟨g6,28,none⟩=some (.bool o.e):=(qA B6.out 28).trans (by rw[List.getElem?_toArray];exact(zz o.x H16.out _ _ _ _ _ _).2.1);rw[he] at c28)
   | ((with_reducible refine qF (t:=22) (p:=32) (v:=.tmp 30) rfl ?_);refine qT rfl 22 (.tmp 32) (.tmp 30) rfl g6 26 (.slice AV o.l.length cV) rfl rfl 89 _ _ B6.out (by rw[List.size_toArray,yC _ H16.out];exact mDl) yJ rfl (xf _ H16.out _ _ _ _ _ _ _).2 ?_;intro w4 hb hoth hsz hbel;have n0_:=am (HC.out.store (List.mem_cons_self ..) hoth hsz hbel);clear HC B6 hoth hsz hbel;have HC:=n0_;have B6:=am hb;clear n0_ hb)
   | ((with_reducible refine qF (t:=22) (p:=36) (v:=.tmp 34) rfl ?_);refine qT rfl 22 (.tmp 36) (.tmp 34) rfl g6 25 (.slice AV o.l.length cV) rfl rfl 89 _ _ B6.out (by rw[List.size_toArray,yC _ H16.out];exact mDl) yJ rfl (xf _ H16.out _ _ _ _ _ _ _).1 ?_;intro w4 hb hoth hsz hbel;have n0_:=am (HC.out.store (List.mem_cons_self ..) hoth hsz hbel);clear HC B6 hoth hsz hbel;have HC:=n0_;have B6:=am hb;clear n0_ hb))
  obtain⟨vb',ve',hv,hB6⟩:∃ vb' ve',((o.e=true∧vb'=(.slice AVB o.x.body.length cVB)∧ve' = .slice AV o.l.length cV)∨(o.e=false∧vb'=(.slice AV o.l.length cV)∧ve' = .slice none 0 0))∧w4.heap[g6]? = some (.cells (qy o.x (.slice none 0 0) (.slice none 0 0) vb' ve' (.slice AV o.l.length cV) o.e).toArray 89 (0,0)):=by
   first
    | exact⟨_,_,.inl ⟨he,rfl,rfl⟩,B6.out⟩
    | exact⟨_,_,.inr ⟨he,rfl,rfl⟩,B6.out⟩
  have HV:=am hv
  have n0_:=am (HC.out.below (qP (Below.refl _ _)))
  have n1_:=am (za hB6)
  clear HC B6 hB6 hv c27 c28
  have HC:=n0_
  have B6:=n1_
  clear n0_ n1_
  refine jQ (n:=14) (S:=fun w'=>w'.cell? ⟨gs,m*29+27,none⟩=some (.slice AP p.l.length cP)∧w'.heap[g6]? = some (.cells (qy o.x (.slice none 0 0) (.slice none 0 0) vb' ve' (.slice AV o.l.length cV) o.e).toArray 89 (0,0))) (ds:=[8,10,13]) #[false,false,false,false,false,false,false,false,false,false,false,false,false,false] mDh rfl rfl ⟨C27.out _ _ _ HC.out,B6.out⟩ (fun hHeld=>?_);refine zQ jU.tab10 jU.bits10 (fun HT_ HW_=>?_)
  generalize w4.drew=w5 at HC B6 hHeld ⊢
  refine qY (i:=0) (N:=some 42) (v:=?_) (a':=?_) #[true,false,false,false,false,false,false,false,false,false,false,false,false,false] rfl rfl (qS HT_.out mDh) (fun _ _ _ h=>h) (Or.inl ⟨mD2,?_⟩) ?_ ?_
  rotate_left
  ·intro w'
   go_simp
   with_reducible rfl
  rotate_left
  ·exact mAe
  refine qY (i:=1) (N:=some 43) (v:=?_) (a':=?_) #[true,true,false,false,false,false,false,false,false,false,false,false,false,false] rfl rfl (qS HT_.out mDh) (fun _ _ _ h=>h) (Or.inl ⟨mD2,?_⟩) ?_ ?_
  rotate_left
  ·intro w'
   go_simp
   with_reducible rfl
  rotate_left
  ·exact mAe
  refine qY (i:=2) (N:=some 44) (v:=?_) (a':=?_) #[true,true,true,false,false,false,false,false,false,false,false,false,false,false] rfl rfl (qS HT_.out mDh) (fun _ _ _ h=>h) (Or.inl ⟨mD2,?_⟩) ?_ ?_
  rotate_left
  ·intro w'
   go_simp
   with_reducible rfl
  rotate_left
  ·exact mAe
  refine qY (i:=4) (N:=some 46) (v:=?_) (a':=?_) #[true,true,true,false,true,false,false,false,false,false,false,false,false,false] rfl rfl (qS HT_.out mDh) (fun _ _ _ h=>h) (Or.inl ⟨mD2,?_⟩) ?_ ?_
  rotate_left
  ·intro w'
   go_simp
   with_reducible rfl
  rotate_left
  ·exact mAe
  refine take_ (i:=3) (N:=some 45) (v:=?_) (a':=?_) #[true,true,true,true,true,false,false,false,false,false,false,false,false,false] rfl rfl (qm HT_.out HW_.out mDh) (fun _ _ _ h=>h) (Or.inl ⟨mD2,?_⟩) hHeld ?_ ?_
  rotate_left
  ·intro w' s0
   have c0:w'.cell? ⟨gs,m*29+27,none⟩=some (.slice AP p.l.length cP):=s0.1
   go_simp
   with_reducible rfl
  rotate_left
  ·exact mAe
  refine qY (i:=6) (N:=some 48) (v:=?_) (a':=?_) #[true,true,true,true,true,false,true,false,false,false,false,false,false,false] rfl rfl (qS HT_.out mDh) (fun _ _ _ h=>h) (Or.inl ⟨mD2,?_⟩) ?_ ?_
  rotate_left
  ·intro w'
   go_simp
   with_reducible rfl
  rotate_left
  ·exact mAe
  refine take_ (i:=5) (N:=some 47) (v:=.agg (qH o.x (.slice none 0 0) (.slice none 0 0) vb' ve').toArray) (a':=?_) #[true,true,true,true,true,true,true,false,false,false,false,false,false,false] rfl rfl (qm HT_.out HW_.out mDh) (fun _ _ _ h=>h) (yieldsIf_load_mid mD2 43 _ rfl g6 0 rfl (qH o.x (.slice none 0 0) (.slice none 0 0) vb' ve') _ (fun W hW=>jw (n:=27) hW.2 (qD4 _ H16.out _ _ _ _ _ _) (qL _ H16.out _ _ _ _)) Tryd.underlying43 rfl (by rw[qL _ H16.out];exact zC)) hHeld ?_ ?_
  rotate_left
  ·exact mAe
  refine jC (i:=7) (N:=some 49) #[true,true,true,true,true,true,true,true,false,false,false,false,false,false] rfl rfl (qq HT_.out mDh) mDl (fun K hK=>?_)
  obtain⟨own2,hC2,hF2⟩:=HC.out.fresh
  have hne:some w5.heap.size≠(Value.slice AP p.l.length cP).ownBlock:=fun e=>Nat.lt_irrefl _ (Kd.R_lt hC2.rp _ e.symm)
  refine qEi mD2 rfl (qBx _ rfl (qH zI (.slice none 0 0) (.slice none 0 0) (.slice none 0 0) (.slice none 0 0)) rfl rfl) ?_
  have ho:=qGH (W:=w5) (ok:=(fun k=>own2 k=2*ps.length+1∧some k≠(Value.slice AP p.l.length cP).ownBlock)) w.heap.size (qBa w5 w.heap.size (fun k=>own2 k=2*ps.length+1∧some k≠(Value.slice AP p.l.length cP).ownBlock) zI rfl (Kd.R_nil _ _ _ _ _) (Kd.R_nil _ _ _ _ _) (Kd.R_nil _ _ _ _ _) (Kd.R_nil _ _ _ _ _)) rfl ⟨hF2 _ (Nat.le_refl _),hne⟩ hC2.bel.size
  have hb:=qh (Below.refl w5.heap.size w5) (.cells (qH zI (.slice none 0 0) (.slice none 0 0) (.slice none 0 0) (.slice none 0 0)).toArray 43 (0,0))
  have n0_:=am (hC2.below hb)
  have n1_:=am (qG B6.out hb)
  have HFR:=am (fun(k:Nat) (hk:(w5.alloc (.cells (qH zI (.slice none 0 0) (.slice none 0 0) (.slice none 0 0) (.slice none 0 0)).toArray 43 (0,0))).heap.size≤k)=>hF2 k (Nat.le_trans hb.size hk))
  have HO49:=am ho
  clear HC B6 ho hb hC2 hF2 hne
  have HC:=n0_
  have B6:=n1_
  clear n0_ n1_
  generalize (w5.alloc (.cells (qH zI (.slice none 0 0) (.slice none 0 0) (.slice none 0 0) (.slice none 0 0)).toArray 43 (0,0)))=w6 at HC B6 HO49 HFR ⊢
  generalize (some ⟨w5.heap.size,0,none⟩:Option Addr)=A49 at HO49 ⊢
  refine hK.out _ _ ⟨C27.out _ _ _ HC.out,B6.out⟩ (fun hHeld=>?_)
  clear hK K
  refine zJ (a':=?_) ?_ ?_
  rotate_left
  ·show Act.put _ (some 49) _=_
   exact mAe
  refine qAN (i:=8) (N:=some 50) #[true,true,true,true,true,true,true,true,true,false,false,false,false,false] rfl rfl (qq HT_.out mDh) mDl (fun K hK=>?_)
  refine Kd.R_append_rows_step kI (w0:=w) w.heap.size mD2 (.tmp 45) (.tmp 49) 22 43 (.agg (qH zI (.slice none 0 0) (.slice none 0 0) (.slice none 0 0) (.slice none 0 0)).toArray) 144 rfl Tryd.underlying22 qCX rfl (show 0<27 by decide) mDl (.slice AP p.l.length cP) p.l [zI] A49 1 1 (fun k=>own2 k=2*ps.length+1∨own2 k=2*ps.length+2∨own2 k=2*ps.length+3) (fun k=>own2 k=2*ps.length+1∧some k≠(Value.slice AP p.l.length cP).ownBlock) rfl rfl HC.out.rp (qIO HO49.out) (fun _ _ h=>h) (fun k hk=>⟨.inl hk.1,hk.2⟩) (fun k hk=>.inl (HFR.out k hk)) HC.out.bel HC.out.bel.size (by have:=HPL.out;show(p.l.length+1)*144≤_;omega) ?_
  intro v50 w7 ho hb hg hat
  have n0_:=am (HC.out.grow HFR.out ho hb hg hat)
  obtain⟨gv,cv,hvv,_,_,_⟩:=Kd.R_form ho mDp
  rw[List.length_append,List.length_singleton] at hvv
  subst hvv
  clear HC HO49 HFR B6 ho hb hg hat
  have HC:=n0_
  clear n0_
  refine hK.out _ _ ?_
  clear hK K
  refine zJ (a':=?_) ?_ ?_
  rotate_left
  ·show Act.put _ (some 50) _=_
   exact mAe
  refine qY (i:=9) (N:=some 51) (v:=?_) (a':=?_) #[true,true,true,true,true,true,true,true,true,true,false,false,false,false] rfl rfl (qS HT_.out mDh) (fun _ _ _ h=>h) (Or.inl ⟨mD2,?_⟩) ?_ ?_
  rotate_left
  ·intro w'
   have hq:(p.l.length:Int)<(p.l.length:Int)+1:=mDj
   go_simp
   with_reducible rfl
  rotate_left
  ·exact mAe
  refine qY (i:=11) (N:=some 52) (v:=?_) (a':=?_) #[true,true,true,true,true,true,true,true,true,true,false,true,false,false] rfl rfl (qS HT_.out mDh) (fun _ _ _ h=>h) (Or.inl ⟨mD2,?_⟩) ?_ ?_
  rotate_left
  ·intro w'
   go_simp
   with_reducible rfl
  rotate_left
  ·exact mAe
  refine qY (i:=12) (N:=some 53) (v:=?_) (a':=?_) #[true,true,true,true,true,true,true,true,true,true,false,true,true,false] rfl rfl (qS HT_.out mDh) (fun _ _ _ h=>h) (Or.inl ⟨mD2,?_⟩) ?_ ?_
  rotate_left
  ·intro w'
   go_simp
   with_reducible rfl
  rotate_left
  ·exact mAe
  refine qGg (σ:=Unit) 0 #[true,true,true,true,true,true,true,true,true,true,true,true,true,true] (fun _=>[]) (fun _ w'=>CQ w w' gg gr gs A c b at_ bad d ds (m+1+1) cap (css.set m (cp.set 27 (.slice (some ⟨gv,0,none⟩) (p.l.length+1) cv))) own2 o p ps cs0 (.slice AVB o.x.body.length cVB) (.slice AV o.l.length cV) vbp (.slice (some ⟨gv,0,none⟩) (p.l.length+1) cv) (p.l ++ [qv o]) [g6]) ?_ ?_
  rotate_left
  ·intro hCont
   refine qJt (i:=10) (j:=13) (Ni:=none) (Nj:=none) #[true,true,true,true,true,true,true,true,true,true,true,true,true,false] #[true,true,true,true,true,true,true,true,true,true,false,true,true,true] rfl rfl rfl rfl (qBR HT_.out mDh) mDl mDl (fun K hK=>?_) (fun K hK=>?_)
   ·have hp:=HC.out.put (by unfold qv;split <;> exact H16.out) (HC.out.clM H16.out HF.out.1 HF.out.2.1 HF.out.2.2 HV.out)
    rw[qAM] at hp
    rw[if_pos mD2]
    refine wp_store_mid 43 (.tmp 51) (.tmp 47) rfl gv (p.l.length*27) (qH o.x (.slice none 0 0) (.slice none 0 0) vb' ve').toArray rfl rfl hp.1 (by rw[List.size_toArray,qL _ H16.out];exact zC) (all_oneCell_toArray (fun u hu=>qBI H16.out HV.out u hu)) ?_
    have n0_:=am hp.2
    clear HC hp
    have HC:=n0_
    clear n0_
    refine hK.out _ _ ?_
    clear hK K
    refine qAN (i:=13) (N:=none) #[true,true,true,true,true,true,true,true,true,true,true,true,true,true] rfl rfl (qq HT_.out mDh) mDl (fun K hK=>?_)
    obtain⟨cells,hcl⟩:=HC.out.gsb
    refine zB mD2 22 (.tmp 53) (.tmp 50) rfl gs (m*29+27) (.slice (some ⟨gv,0,none⟩) (p.l.length+1) cv) rfl rfl 89 cells _ hcl (qC2 HC.out.raw HI.out.1 mDl hcl) yJ rfl rfl ?_
    intro wk hb hoth hsz hbel
    have n0_:=am (HC.out.top HI.out.1 (show 27<29 by decide) rfl hcl hb hoth hsz hbel)
    clear HC hcl hb hoth hsz hbel
    exact mC
   ·obtain⟨cells,hcl⟩:=HC.out.gsb
    refine zB mD2 22 (.tmp 53) (.tmp 50) rfl gs (m*29+27) (.slice (some ⟨gv,0,none⟩) (p.l.length+1) cv) rfl rfl 89 cells _ hcl (qC2 HC.out.raw HI.out.1 mDl hcl) yJ rfl rfl ?_
    intro wk hb hoth hsz hbel
    have n0_:=am (HC.out.top HI.out.1 (show 27<29 by decide) rfl hcl hb hoth hsz hbel)
    clear HC hcl hb hoth hsz hbel
    have HC:=n0_
    clear n0_
    refine hK.out _ _ ?_
    clear hK K
    refine qAN (i:=10) (N:=none) #[true,true,true,true,true,true,true,true,true,true,true,true,true,true] rfl rfl (qq HT_.out mDh) mDl (fun K hK=>?_)
    have hp:=HC.out.put (by unfold qv;split <;> exact H16.out) (HC.out.clM H16.out HF.out.1 HF.out.2.1 HF.out.2.2 HV.out)
    rw[qAM] at hp
    rw[if_pos mD2]
    refine wp_store_mid 43 (.tmp 51) (.tmp 47) rfl gv (p.l.length*27) (qH o.x (.slice none 0 0) (.slice none 0 0) vb' ve').toArray rfl rfl hp.1 (by rw[List.size_toArray,qL _ H16.out];exact zC) (all_oneCell_toArray (fun u hu=>qBI H16.out HV.out u hu)) ?_
    have n0_:=am hp.2
    clear HC hp
    exact mC
  rintro _ w9 hC9
  refine zJ (a':=?_) ?_ ?_
  rotate_left
  ·exact mB0
  clear HC
  have HC:=am hC9
  clear hC9
  refine xI (zu HT_.out mDh) ?_
  go_wp2
  go_ret2
  have h9:=HC.out.cut (m:=m+1) (by rw[List.length_set,HX.out.1,HX.out.2.1,List.length_append,List.length_append,HE0.out];simp)
  rw[HX.out.1,HX.out.2.1,qHn HE0.out] at h9
  obtain⟨own',hP⟩:=h9.done HG.out.1 HG.out.2.1 HG.out.2.2.1 HG.out.2.2.2 (by rw[HX.out.2.2.2,qAp _ HG.out.1])
  exact⟨own',_,rfl,hP⟩
theorem qBb:(Tryd.prog.info? 41).map (fun i=>i.zero)=some (some (.agg #[.int .u8 0,.int .u8 0,.int .u32 0])):=mDh
theorem qHh:Tryd.prog.built 41 []=some #[.int .u8 0,.int .u8 0,.int .u32 0]:=mDh
theorem qDU {ops:Array Oper}{rest:List Oper}{o:Oper}{a:Act}{w:World}{Q:Exit→Act→World→Prop}(hg:o.guard=none)(ho:o.op = .build 41 #[])
 (h:wpList Tryd.prog ops Q rest (a.put o.dst (.agg #[.int .u8 0,.int .u8 0,.int .u32 0])) w):wpList Tryd.prog ops Q (o::rest) a w:=qBA hg 41 ho _ qHh h
def bkI (o bk bv bt:Int):I:={zI with op:=o,bk:=bk,bv:=bv,bt:=bt}
theorem qGC (o bk bv bt:Int):Tryd.prog.built 89 [(0,.agg (qH (bkI o bk bv bt) (.slice none 0 0) (.slice none 0 0) (.slice none 0 0) (.slice none 0 0)).toArray)]=some (qy (bkI o bk bv bt) (.slice none 0 0) (.slice none 0 0) (.slice none 0 0) (.slice none 0 0) (.slice none 0 0) false).toArray:=mDh
theorem qHx:Tryd.prog.built 65 []=some #[.slice none 0 0,.int .i64 0,.int .i64 0,.bool false]:=mDh
theorem qHR:(Tryd.prog.info? 89).map (fun i=>(i.zero,i.size,i.bytes))=some (some (.agg (qy zI (.slice none 0 0) (.slice none 0 0) (.slice none 0 0) (.slice none 0 0) (.slice none 0 0) false).toArray),29,176):=mDh
theorem qHa {W:World}{cs:List Value}(base:Nat)(ok:Nat→Prop)(hcs:cs.length=29)(h1:∀ u ∈ cs,u.oneCell'=true)(hf:ok W.heap.size)(hbase:base≤W.heap.size):y8.R 89 (W.alloc (.cells cs.toArray 89)) base ok (.slice (some ⟨W.heap.size,0,none⟩) 1 1) [cs]:=by
 have hrep:Reps (y8.M W base ok) 29 [cs] cs:=Reps.front ⟨rfl,hcs,h1⟩ hcs (Reps.none _ _) (List.append_nil _)
 refine⟨fun k hk=>?_,cs,?_,?_⟩
 ·have:W.heap.size=k:=by simpa [Value.ownBlock] using hk
  subst this
  exact hf
 ·have h2:=World.ownsRow_lit (base:=base) (e:=89) (size:=29) W cs.toArray 1 hbase mDl (by simp[hcs])
  have h3:(W.alloc (.cells cs.toArray 89)).ownsRow base 89 29 (.slice (some ⟨W.heap.size,0,none⟩) 1 1) 1 cs:=by simpa using h2
  exact h3
 ·exact hrep.imp_ (fun _ _ hp=>hp)
section
variable {ops:Array Oper} {rest:List Oper} {o:Oper} {a:Act} {w W:World} {Q:Exit→Act→World→Prop}
set_option maxRecDepth 100000 in
theorem qDu (hg:o.guard=none)(x:Operand)(ho:o.op = .build 89 #[(0,x)])(i bk bv bt:Int)(hx:a.eval x = .agg (qH (bkI i bk bv bt) (.slice none 0 0) (.slice none 0 0) (.slice none 0 0) (.slice none 0 0)).toArray)
 (h:wpList Tryd.prog ops Q rest (a.put o.dst (.agg (qy (bkI i bk bv bt) (.slice none 0 0) (.slice none 0 0) (.slice none 0 0) (.slice none 0 0) (.slice none 0 0) false).toArray)) w):wpList Tryd.prog ops Q (o::rest) a w:=by
 refine Kd.event_run hg ?_ h
 unfold execOp
 simp only[ho,List.map_toArray,List.map_cons,List.map_nil,hx,Sem.run_bind,run_build w 89 _ _ (qGC i bk bv bt),Result.andThen_ok]
 rfl
theorem qDx (base:Nat)(hg:o.guard=none)(x:Operand)(ho:o.op = .buildSlice 90 1 #[(0,x)])(cs:List Value)(hx:a.eval x = .agg cs.toArray)(hcs:cs.length=29)(h1:∀ u ∈ cs,u.oneCell'=true)(hbase:base≤W.heap.size)
 (h:∀ A w1,y8.R 89 w1 base (fun _=>True) (.slice A 1 1) [cs]→Below W.heap.size W w1→wpList Tryd.prog ops Q rest (a.put o.dst (.slice A 1 1)) w1):wpList Tryd.prog ops Q (o::rest) a W:=by
 cases hd:o.dst with
 | none =>
   exact mBy
 | some N =>
   exact mBy
end
section
variable {w W W1:World} {gg gr:Nat} {A:Option Addr} {c:Nat} {b:List Int} {vs:Value} {css:List (List Value)} {at_ d:Int} {bad ds:Bool} {own:Nat→Nat} {os:List O_} {loc:List Nat}
theorem PG.push (h:PG w W gg gr A c b vs css at_ bad d ds own os loc){x:I}{v1:Value}(h16:x.v.length=16)(hl:x.l = [])(ht:x.t = [])(hbd:x.body = [])(he:x.els = [])
 (hr:y8.R 89 W1 w.heap.size (fun _=>True) v1 (css ++ [qy x (.slice none 0 0) (.slice none 0 0) (.slice none 0 0) (.slice none 0 0) (.slice none 0 0) false]))(hb:Below w.heap.size w W1)(hg:W.grownBy W1 vs.ownBlock):
 PG w W1 gg gr A c b v1 (css ++ [qy x (.slice none 0 0) (.slice none 0 0) (.slice none 0 0) (.slice none 0 0) (.slice none 0 0) false]) at_ bad d ds own (⟨x,[],false⟩::os) []:=by
 have hne:∀(g:Nat) (cs:Array Value) (t:TypeId),W.heap[g]? = some (.cells cs t (0,0))→t≠89→some g≠vs.ownBlock:=by
  intro g cs t hg1 ht1 e
  obtain⟨inner,ho⟩:=Kd.R_own h.raw
  obtain⟨cs',hc'⟩:=zl ho g e.symm
  rw[hg1] at hc'
  simp only[Option.some.injEq,Obj.cells.injEq] at hc'
  exact ht1 hc'.2.1
 refine⟨(hg.block gg (qN h.got) (hne gg _ 65 h.got mDl)).trans h.got,(hg.block gr (qN h.rd) (hne gr _ 87 h.rd mDl)).trans h.rd,hr,⟨css,_,rfl,⟨_,_,rfl,h16,hl,ht,he,by rw[hbd];exact Kd.R_nil _ _ _ _ _,Kd.R_nil _ _ _ _ _⟩,?_⟩,hb,fun g hg=>by cases hg⟩
 refine h.stk.move (fun k _ _ h3 h4=>⟨hg.block k h3 ?_,rfl⟩)
 obtain⟨q,hq,cells,hc⟩:=h4
 refine hne k cells q hc ?_
 rintro rfl
 revert hq
 decide
theorem PG.next (h:PG w W gg gr A c b vs css at_ bad d ds own os loc){at1:Int}{bad1:Bool}(hne:gg≠gr)(h1:W1.heap[gr]? = some (oRd A c b at1 bad1))(ho:∀ k,k≠gr→W1.heap[k]? = W.heap[k]?)(hs:W1.heap.size=W.heap.size)(hb:Below w.heap.size w W1):PG w W1 gg gr A c b vs css at1 bad1 d ds own os loc:=
 h.call hne h1 (row:=none) (.inl rfl) ⟨Nat.le_of_eq hs.symm,fun i _ hi _=>ho i hi⟩ hb
theorem PG.row {o:O_}(h:PG w W gg gr A c b vs css at_ bad d ds own (o::os) loc):∃ gs cap cells vb v,vs = .slice (some ⟨gs,0,none⟩) (os.length+1) cap∧os.length+1≤cap∧os.length+1≤9223372036854775807∧w.heap.size≤gs∧W.heap[gs]? = some (.cells cells 89 (0,0))∧css[os.length]? = some (qy o.x (.slice none 0 0) (.slice none 0 0) vb (.slice none 0 0) v o.e)∧o.x.v.length=16∧css.length=os.length+1∧kI.R 43 W w.heap.size (fun k=>own k=2*os.length+1) v o.l ∧
 (∀ u ∈ qy o.x (.slice none 0 0) (.slice none 0 0) vb (.slice none 0 0) v o.e,u.oneCell'=true):=by
 have hlen:=h.stk.len
 obtain⟨cs0,co,hcss,⟨vb,v,rfl,h16,hl,ht,hels,hrb,hrv⟩,hst⟩:=h.stk
 obtain⟨gs,cap,cells,hv,hcap,hb,hc,hmx⟩:=qDD h.raw (by rw[hlen];simp)
 rw[List.length_cons] at hlen
 rw[hlen] at hv hcap hmx
 refine⟨gs,cap,cells,vb,v,hv,hcap,hmx,hb,hc,?_,h16,hlen,hrv,yw h16 hrb hrv⟩
 rw[hcss,List.getElem?_append_right (by rw[hst.len];exact Nat.le_refl _),hst.len,Nat.sub_self]
 rfl
end
set_option maxRecDepth 100000 in
theorem qCL (w W:World)(gg gr gs:Nat)(A:Option Addr)(c:Nat)(b:List Int)(css:List (List Value))(at_ d:Int)(bad ds:Bool)(own:Nat→Nat)(o:O_)(cap:Nat)(hgg:w.heap.size≤gg)(hgr:gg≠gr)
 (h:PG w W gg gr A c b (.slice (some ⟨gs,0,none⟩) 1 cap) css at_ bad d ds own [o] []):
 Calls Tryd.prog 47 #[.pointer (some ⟨gg,0,none⟩),.slice (some ⟨gs,0,none⟩) 1 cap] W fun e W'=>∃ A1 c1,e = .returned (.tuple #[.slice none 0 0,.bool false])∧W'.heap[gg]? = some (qBO (.slice A1 o.l.length c1) 0 d ds)∧kI.R 43 W' w.heap.size (fun k=>k≠gg) (.slice A1 o.l.length c1) o.l∧W'.heap[gr]? = some (oRd A c b at_ bad)∧Below w.heap.size w W':=by
 obtain⟨gs',cap',cells,vb,v,hv,hcap,hmx,hgs,hcells,hrow,h16,hcl,hrv,hone⟩:=h.row
 have e1:gs=gs':=by injection hv with e1 e2 e3;injection e1 with e1;injection e1
 have e2:cap=cap':=by injection hv
 subst e1
 subst e2
 have hcap1:1≤cap:=hcap
 obtain⟨A1,c1,rfl⟩:=Kd.R_slice hrv
 obtain⟨co,hco⟩:=ex_ (qy o.x (.slice none 0 0) (.slice none 0 0) vb (.slice none 0 0) (.slice A1 o.l.length c1) o.e)
 obtain⟨hol,hoo,hoc⟩:=zo h.raw hrow
 have HL:=am (yC o.x h16 (.slice none 0 0) (.slice none 0 0) vb (.slice none 0 0) (.slice A1 o.l.length c1) o.e)
 have HA:=am (zz o.x h16 (.slice none 0 0) (.slice none 0 0) vb (.slice none 0 0) (.slice A1 o.l.length c1) o.e)
 have HR:=am (zS (ok':=fun k=>k≠gg∧own k=1) hrv (fun k hk _ _ ht=>⟨rfl,TyI.ne ht h.got mDl,hk⟩))
 have RN:=am (show W.rangeAt gs 0 co from fun j u hj=>by have h1:=hoc j u (by rw[← hco];exact hj);rw[List.length_nil,Nat.zero_mul] at h1;exact h1)
 rw[← hco] at hone HL HA
 have HO:=am hone
 have HG:=am h.got
 have HD:=am h.rd
 have HB:=am h.bel
 have HN:=am (And.intro hgg hgr)
 clear h hv hcap hgs hcells hrow h16 hcl hrv hone hol hoo hoc hco hgg hgr
 go_enter Tryd.func47,Tryd.ntmps47
 go_wp2_with (first
  | ((with_reducible refine qE (N:=13) rfl ?_);refine wpList_load_mid rfl 89 (.tmp 12) rfl gs 0 rfl co _ RN.out Tryd.underlying89 rfl (by rw[HL.out];exact qDa) ?_)
  | ((with_reducible refine qE (N:=6) rfl ?_);refine qd rfl 89 rfl _ qGx ?_;intro g6 hg6 w2 hb hbl;have n0_:=am (qB HB.out hbl);have n1_:=am (Kd.R_mono (Kd.R_below (Kd.R_bound HR.out) hbl) (fun k hk=>(⟨hk.1,hk.2.2.1⟩:(k≠gg∧own k=1)∧k<W.heap.size)));have n2_:=am (qG HG.out hbl);have n3_:=am (qG HD.out hbl);have N6:Aside0 (W.heap.size≤g6∧gg≠g6∧gr≠g6∧w.heap.size≤g6):=⟨by have h1:=qN HG.out;have h2:=qN HD.out;have h3:=HB.out.size;have h4:W.heap.size≤g6:=(by rw[hg6];exact Nat.le_refl _);exact⟨h4,mDj,mDj,mDj⟩⟩;clear HB HR HG HD hg6 hbl;have HB:=n0_;have HR:=n1_;have HG:=n2_;have HD:=n3_;have B6:=am hb;clear n0_ n1_ n2_ n3_ hb)
  | ((with_reducible refine qF (t:=89) (p:=6) (v:=.tmp 13) rfl ?_);refine qV rfl 89 (.tmp 6) (.tmp 13) rfl g6 co.toArray rfl rfl 89 _ B6.out (by rw[List.size_toArray,HL.out];exact qDa) ((show(Value.agg (qy zI (.slice none 0 0) (.slice none 0 0) (.slice none 0 0) (.slice none 0 0) (.slice none 0 0) false).toArray).cells.size=29 from rfl).trans (List.size_toArray.trans HL.out).symm) (all_oneCell_toArray HO.out) ?_;intro w3 hb hoth hsz hbel;have n0_:=am (hbel _ _ N6.out.2.2.2 HB.out);have n1_:=am (Kd.R_mono (Kd.R_move HR.out (fun k hk=>hoth k (by have:=hk.2;have:=N6.out.1;omega))) (fun k hk=>hk.1.1));have n2_:=am ((hoth _ N6.out.2.1).trans HG.out);have n3_:=am ((hoth _ N6.out.2.2.1).trans HD.out);clear HB HR HG HD B6 hoth hsz hbel;have HB:=n0_;have HR:=n1_;have HG:=n2_;have HD:=n3_;have c27:w3.cell? ⟨g6,27,none⟩=some (.slice A1 o.l.length c1):=(qA hb 27).trans (by rw[List.getElem?_toArray];exact HA.out.1);clear n0_ n1_ n2_ n3_ hb)
  | ((with_reducible refine qF (t:=22) (p:=26) (v:=.tmp 24) rfl ?_);refine qT rfl 22 (.tmp 26) (.tmp 24) rfl gg 0 (.slice A1 o.l.length c1) rfl rfl 65 #[.slice none 0 0,.int .i64 0,.int .i64 d,.bool ds] #[.slice A1 o.l.length c1,.int .i64 0,.int .i64 d,.bool ds] HG.out (show 0<4 by decide) yJ rfl rfl ?_;intro w4 hb hoth hsz hbel;have n0_:=am (hbel _ _ HN.out.1 HB.out);have n1_:=am (Kd.R_move HR.out (fun k hk=>hoth k hk));have n3_:=am ((hoth _ (Ne.symm HN.out.2)).trans HD.out);clear HB HR HG HD hoth hsz hbel;have HB:=n0_;have HR:=n1_;have HG:=am hb;have HD:=n3_;clear n0_ n1_ n3_ hb))
 go_ret2
 exact⟨A1,c1,rfl,HG.out,HR.out,HD.out,HB.out⟩
def qD6 (w:World)(r:Option (List I × Int × Int × Bool))(e:Ending)(w':World):Prop:=
 match r with
 | none=>e = .returned (.tuple #[.agg #[.slice none 0 0,.int .i64 0,.int .i64 0,.bool false],.bool false])
 | some q=>∃ A1 c1,e = .returned (.tuple #[.agg #[.slice A1 q.1.length c1,.int .i64 q.2.1,.int .i64 q.2.2.1,.bool q.2.2.2],.bool true])∧kI.R 43 w' w.heap.size (fun _=>True) (.slice A1 q.1.length c1) q.1
theorem qAI {fn:Func}{t u v x:Tmp}(h:fn.results = #[.tmp t,.tmp u,.tmp v,.tmp x])(tmps:Array Value)(P:Program)(w:World):
 (results fn tmps).run P w = .ok (.tuple #[tmps.getD t undef,tmps.getD u undef,tmps.getD v undef,tmps.getD x undef]) w:=by
 simp[results,h]
def qAR (w:World)(r:Option (List I × Int × Int × Bool))(e:Ending)(w':World):Prop:=
 match r with
 | none=>e = .returned (.tuple #[.slice none 0 0,.int .i64 0,.int .i64 4])
 | some q=>if 1000<q.2.2.1 then e = .returned (.tuple #[.slice none 0 0,.int .i64 0,.int .i64 3]) else ∃ A1 c1,e = .returned (.tuple #[.slice A1 q.1.length c1,.int .i64 q.2.1,.int .i64 0])∧kI.R 43 w' w.heap.size (fun _=>True) (.slice A1 q.1.length c1) q.1
def qFZ (r:Option (List I × Int × Int × Bool)):Value:=
 match r with
 | none=>.tuple #[.int .i64 0,.int .i64 0,.bool false,.int .i64 4]
 | some q=>.tuple #[.int .i64 q.2.1,.int .i64 q.2.2.1,.bool q.2.2.2,.int .i64 0]
theorem js:(Tryd.prog.info? 34).map (·.size)=some 1:=mDh
theorem qGG:(Tryd.prog.info? 36).map (·.size)=some 16:=mDh
def jD (n:Int):Int:=bits .and .u64 n 4294967295
def u8n (n:Int):Int:=bits .and .u32 n 255
theorem tst {im n:Int}(k:Int)(h:im=n):(im==k)=(n==k):=by rw[h]
theorem zH (n:Nat):((0:Int)==(n:Int))=(n==0):=by
 by_cases h:n=0
 ·subst h;rfl
 ·rw[beq_eq_false_iff_ne.2 h,beq_eq_false_iff_ne.2 mDj]
theorem qGN (n:Nat):((n:Int)==(0:Int)) = !(decide (0<n)):=by
 by_cases h:n=0
 ·subst h;rfl
 ·rw[beq_eq_false_iff_ne.2 mDj,decide_eq_true mDj];rfl
theorem jH (x:I)(vl vt vb ve:Value)(n:Int):(qH x vl vt vb ve).toArray.setIfInBounds 1 (.int .u32 n)=(qH {x with a:=n} vl vt vb ve).toArray:=by
 simp only[List.setIfInBounds_toArray]
 rfl
theorem jn (x:I)(vl vt vb ve:Value)(n:Int):(qH x vl vt vb ve).toArray.setIfInBounds 2 (.int .u32 n)=(qH {x with b:=n} vl vt vb ve).toArray:=by
 simp only[List.setIfInBounds_toArray]
 rfl
theorem qIQ:∀(v:List Int),v.length=16→∃ a0 a1 a2 a3 a4 a5 a6 a7 a8 a9 b0 b1 b2 b3 b4 b5,v = [a0,a1,a2,a3,a4,a5,a6,a7,a8,a9,b0,b1,b2,b3,b4,b5]
 | [a0,a1,a2,a3,a4,a5,a6,a7,a8,a9,b0,b1,b2,b3,b4,b5],_=>⟨_,_,_,_,_,_,_,_,_,_,_,_,_,_,_,_,rfl⟩
theorem qCf (x:I)(h:x.v.length=16)(vl vt vb ve:Value):((qH x vl vt vb ve).drop 4).take 16=zV (Value.int .u8) x.v:=by
 have hl:(zV (Value.int .u8) x.v).length=16:=by rw[q9];exact h
 show(zV (Value.int .u8) x.v ++ [vl,vt,.int .u8 x.bk,.int .u8 x.bv,.int .u32 x.bt,vb,ve]).take 16=_
 exact List.take_left' hl
theorem qDP (x:I)(v:List Int)(h:v.length=16)(vl vt vb ve:Value):qEd (qH {zI with op:=x.op} vl vt vb ve).toArray 4 (zV (Value.int .u8) v)=(qH {zI with op:=x.op,v:=v} vl vt vb ve).toArray:=by
 obtain⟨a0,a1,a2,a3,a4,a5,a6,a7,a8,a9,b0,b1,b2,b3,b4,b5,rfl⟩:=qIQ v h
 kernel_rfl
def qg.T24:Bool × List (List Nat × List Nat):=(true,[([],[]),([0],[0]),([],[]),([2],[2]),([0,1],[]),([4,1,0,1],[1,4]),([0,1,2,3,4,5],[]),([6,3,5,0,1,2,3,4,5],[3,6])])
def qg.B24:List Nat:=[0,1,0,4,3,19,63,127]
theorem qg.tab24:jO .any (xL Tryd.f35 24)=qg.T24:=mDh
theorem qg.bits24:zc qg.T24.2 qg.B24=true:=mDh
def qg.T30:Bool × List (List Nat × List Nat):=(true,[([],[]),([0],[0]),([],[]),([2],[2]),([3],[3]),([0,1],[]),([5,1,0,1],[1,5]),([0,1,2,3,4,5,6],[]),([7,4,6,0,1,2,3,4,5,6],[4,7])])
def qg.B30:List Nat:=[0,1,0,4,12,3,35,127,255]
theorem qg.tab30:jO .any (xL Tryd.f35 30)=qg.T30:=mDh
theorem qg.bits30:zc qg.T30.2 qg.B30=true:=mDh
def qg.T32:Bool × List (List Nat × List Nat):=(true,[([],[]),([0],[0]),([],[]),([2],[2]),([3],[3]),([],[]),([5],[5]),([6],[6]),([0,1],[]),([8,1,0,1],[1,8]),([0,1,2,3,4,8,9],[]),([10,4,9,0,1,2,3,4,8,9],[4,10]),([0,1,2,3,4,5,6,7,8,9,10,11],[]),([12,7,11,0,1,2,3,4,5,6,7,8,9,10,11],[7,12])])
def qg.B32:List Nat:=[0,1,0,4,12,0,32,96,3,259,799,1823,4095,8191]
theorem qg.tab32:jO .any (xL Tryd.f35 32)=qg.T32:=mDh
theorem qg.bits32:zc qg.T32.2 qg.B32=true:=mDh
def xK (x:I)(Al At Ab Ae:Option Addr)(cl ct cb ce:Nat)(w:World)(b:Bool):Prop:=Calls Tryd.prog 35 #[.agg (qH x (.slice Al x.l.length cl) (.slice At x.t.length ct) (.slice Ab x.body.length cb) (.slice Ae x.els.length ce)).toArray] w fun e w'=>e = .returned (.bool b)∧Below w.heap.size w w'
def tyB (a:Int):Bool:=(zw.f a).getD false
theorem qDX (a:Int):zw.f a=some (tyB a):=by
 unfold tyB zw.f
 split;rfl
 split;rfl
 split;rfl
 split;rfl
 split;rfl
 split;rfl
 split <;> rfl
def qAf (a:Int):Bool:=(jI.f a).getD false
theorem qEO (a:Int):jI.f a=some (qAf a):=by
 unfold qAf jI.f
 split <;> rfl
theorem qDm (a:Int)(w:World):Calls Tryd.prog 56 #[.int .u8 a] w fun e w'=>e = .returned (.bool (!tyB a))∧Below w.heap.size w w':=by
 have H:=zw.calls a (tyB a)
 have HH:=am (fun(W:World)=>H W (qDX a))
 clear H
 go_enter Tryd.func56,Tryd.ntmps56
 go_wp2_with (first
  | (go_at_call 57;refine(HH.out _).mono ?_;rintro e w1 ⟨rfl,hd⟩;have HB:=am hd.below;clear hd))
 go_ret
 exact⟨rfl,HB.out⟩
theorem qDh (A:Option Addr)(c:Nat)(t:List Int)(w:World)(hc:t.length≤c)(hC:(Kd.int .u8).C w A t.length t):
 Calls Tryd.prog 71 #[.slice A t.length c,.func (.func 56) #[] #[]] w fun e w'=>∃ i:Int,e = .returned (.int .i64 i)∧decide (0≤i) = !(t.all tyB)∧Below w.heap.size w w':=by
 have HC:=am hC
 have hmx:t.length≤9223372036854775807:=Kd.C_max hC
 have HB:=am (Below.refl w.heap.size w)
 clear hC
 go_enter Tryd.func71,Tryd.ntmps71
 go_wp2
 go_loopg [8] t.length (fun kq v8 w'=>∃ i:Nat,i+kq=t.length∧v8 = .int .i64 i∧Aside0 ((t.take i).all tyB=true)∧Aside0 (Below w.heap.size w w'))
 case atStart=>exact⟨0,mDj,rfl,⟨rfl⟩,HB⟩
 case round =>
  clear HB
  obtain⟨i,hi,rfl,HA,HB⟩:=hrel
  by_cases hlt:i<t.length
  ·obtain⟨k1,rfl⟩:∃ k1,gk=k1+1:=⟨gk - 1,mDj⟩
   have d1:decide ((i:Int)<(t.length:Int))=true:=decide_eq_true mDj
   obtain⟨ad,rfl,hx⟩:=Kd.at_int HC.out (i:Int) mDj mDj
   rw[Int.toNat_natCast] at hx
   have hx2:wr.cell? (ad.add i)=some (.int .u8 (rd t (i:Int))):=(HB.out.cell (World.block_lt_of_cell? w _ hx)).trans hx
   have z1:(0:Int)≤(i:Int):=mDj
   have z2:(i:Int)<(t.length:Int):=mDj
   have wi:wrap64 ((i:Int)+1)=((i+1:Nat):Int):=by unfold wrap64;omega
   have HX:=am hx
   have et:(t.take (i+1)).all tyB=tyB (rd t (i:Int)):=by
    have h9:rd t (i:Int)=t[i]:=by simp[rd,List.getD_eq_getElem?_getD,List.getElem?_eq_getElem hlt]
    rw[List.take_succ_eq_append_getElem hlt,List.all_append,HA.out,h9]
    simp
   have HT:=am et
   clear hx et
   obtain⟨q,hq⟩:=ey_ (tyB (rd t (i:Int)))
   have HF:=am (fun(W:World)=>qDm (rd t (i:Int)) W)
   rw[hq] at HF HT
   cases q
   ·go_wp2_with (first
     | (go_at_call 56;refine(HF.out _).mono ?_;rintro e w1 ⟨rfl,hb⟩;have n0_:=am (qB HB.out hb);clear HB hb;have HB:=n0_;clear n0_))
    go_ret
    refine⟨(i:Int),rfl,?_,HB.out⟩
    have h9:t.all tyB=false:=by
     rw[← List.take_append_drop (i+1) t,List.all_append,HT.out]
     rfl
    rw[h9,decide_eq_true z1]
    rfl
   ·go_wp2_with (first
     | (go_at_call 56;refine(HF.out _).mono ?_;rintro e w1 ⟨rfl,hb⟩;have n0_:=am (qB HB.out hb);clear HB hb;have HB:=n0_;clear n0_))
    go_roundg k1
    case measure=>omega
    case rel=>exact⟨i+1,mDj,by first|rfl|exact congrArg (Value.int .i64) wi|(rw[wi]),HT,HB⟩
  ·have d1:decide ((i:Int)<(t.length:Int))=false:=decide_eq_false mDj
   go_wp2
   go_ret
   refine⟨-1,rfl,?_,HB.out⟩
   have h9:=HA.out
   rw[List.take_of_length_le mDj] at h9
   rw[h9]
   rfl
theorem qBF (A:Option Addr)(c:Nat)(t:List Int)(w:World)(hc:t.length≤c)(hC:(Kd.int .u8).C w A t.length t):
 Calls Tryd.prog 55 #[.slice A t.length c,.func (.func 56) #[] #[]] w fun e w'=>e = .returned (.bool (!(t.all tyB)))∧Below w.heap.size w w':=by
 have HH:=am (qDh A c t w hc hC)
 clear hC
 go_enter Tryd.func55,Tryd.ntmps55
 go_wp2_with (first
  | (go_at_call 71;refine HH.out.mono ?_;rintro e w1 ⟨i,rfl,hi,hb⟩;have HI:=am hi;have HB:=am hb;clear hi hb))
 go_ret
 refine⟨?_,HB.out⟩
 rw[← HI.out]
 rfl
def q8 (b:List Int)(at_:Int)(bad:Bool):Int × Int × Bool:=if bad=false∧at_<b.length then (rd b at_,at_+1,false) else (0,at_,true)
theorem xP {b:List Int}{at_:Int}{bad:Bool}(h0:0≤at_):0≤(q8 b at_ bad).2.1:=by
 unfold q8
 split
 ·show 0≤at_+1;omega
 ·exact h0
theorem jT (w0 W:World)(g:Nat)(A:Option Addr)(c:Nat)(b:List Int)(at_:Int)(bad:Bool)(hB:Below w0.heap.size w0 W)(hg:W.heap[g]? = some (oRd A c b at_ bad))(hn:w0.heap.size≤g)(hC:(Kd.int .u8).C w0 A b.length b)(hc:b.length≤c)(h0:0≤at_):
 Calls Tryd.prog 63 #[.pointer (some ⟨g,0,none⟩)] W fun e W'=>e = .returned (.int .u8 (q8 b at_ bad).1)∧KS_ w0 W W' g (oRd A c b (q8 b at_ bad).2.1 (q8 b at_ bad).2.2):=by
 unfold q8
 by_cases hk:bad=false∧at_<b.length
 ·rw[if_pos hk]
  obtain⟨rfl,h1⟩:=hk
  exact(qFz w0 W g A c b at_ hB hg hn hC hc h0 h1).mono fun e W' ⟨h1,h2,h3,h4⟩=>⟨h1,KS_.call (KS_.start hg hB hn) h2 h3 h4⟩
 ·rw[if_neg hk]
  have c0:W.cell? ⟨g,0,none⟩=some (.slice A b.length c):=(qA hg 0).trans rfl
  have c1:W.cell? ⟨g,1,none⟩=some (.int .i64 at_):=(qA hg 1).trans rfl
  have c2:W.cell? ⟨g,2,none⟩=some (.bool bad):=(qA hg 2).trans rfl
  have f2:=qD hg 2
  have S0:=am (KS_.start hg hB hn)
  have hm:=Kd.C_max hC
  clear hg hB hn hC
  cases bad
  ·have e1:decide ((b.length:Int)≤at_)=true:=decide_eq_true (by have h9:¬ at_<b.length:=fun h=>hk ⟨rfl,h⟩;omega)
   clear hk
   go_enter Tryd.func63,Tryd.ntmps63
   go_wp2
   go_quiet (fail)
   go_wp2_with (first
    | ((with_reducible refine qF (t:=4) (p:=21) (v:=.const (.bool true)) rfl ?_);refine qT rfl 4 (.tmp 21) (.const (.bool true)) rfl g 2 (.bool true) rfl rfl 87 #[.slice A b.length c,.int .i64 at_,.bool false] #[.slice A b.length c,.int .i64 at_,.bool true] mDo (show 2<3 by decide) z7 rfl rfl ?_;intro w1 hb hoth hsz hbel;have n0_:=am (KS_.self mDi hb hoth hsz hbel);clear S0 hb hoth hsz hbel;have S0:=n0_;clear n0_))
   exact mBh
  ·clear hk
   go_enter Tryd.func63,Tryd.ntmps63
   go_wp2
   go_quiet (fail)
   go_wp2_with (first
    | ((with_reducible refine qF (t:=4) (p:=21) (v:=.const (.bool true)) rfl ?_);refine qT rfl 4 (.tmp 21) (.const (.bool true)) rfl g 2 (.bool true) rfl rfl 87 #[.slice A b.length c,.int .i64 at_,.bool true] #[.slice A b.length c,.int .i64 at_,.bool true] mDo (show 2<3 by decide) z7 rfl rfl ?_;intro w1 hb hoth hsz hbel;have n0_:=am (KS_.self mDi hb hoth hsz hbel);clear S0 hb hoth hsz hbel;have S0:=n0_;clear n0_))
   exact mBh
def uF (K:Nat)(b:List Int)(at_:Int)(bad:Bool):Option (Int × Int × Bool):=if bad=true then some (0,at_,true) else (zp.f K b at_ 32).map fun q=>if q.2.2=0 then (IntKind.u32.wrap q.1,q.2.1,false) else (0,at_,true)
theorem z8 (K:Nat)(w0 W:World)(g:Nat)(A:Option Addr)(c:Nat)(b:List Int)(at_:Int)(bad:Bool)(r:Int × Int × Bool)(hB:Below w0.heap.size w0 W)(hg:W.heap[g]? = some (oRd A c b at_ bad))(hn:w0.heap.size≤g)(hC:(Kd.int .u8).C w0 A b.length b)(hc:b.length≤c)(h:uF K b at_ bad=some r):
 Calls Tryd.prog 64 #[.pointer (some ⟨g,0,none⟩)] W fun e W'=>e = .returned (.int .u32 r.1)∧KS_ w0 W W' g (oRd A c b r.2.1 r.2.2):=by
 have c0:W.cell? ⟨g,0,none⟩=some (.slice A b.length c):=(qA hg 0).trans rfl
 have c1:W.cell? ⟨g,1,none⟩=some (.int .i64 at_):=(qA hg 1).trans rfl
 have c2:W.cell? ⟨g,2,none⟩=some (.bool bad):=(qA hg 2).trans rfl
 have f2:=qD hg 2
 have f1:=qD hg 1
 have HB:=am hB
 have S0:=am (KS_.start hg hB hn)
 have HC:=am hC
 have HCC:=am hc
 unfold uF at h
 cases bad
 ·rw[if_neg mDp] at h
  obtain⟨⟨n,next,er⟩,hu,h⟩:=Option.map_eq_some_iff.1 h
  have H:=am hu
  simp only at h
  by_cases he:er=0
  ·rw[if_pos he] at h
   subst h
   subst he
   clear hg hB hn hC hc hu
   go_enter Tryd.func64,Tryd.ntmps64
   go_wp2
   go_quiet (first
    | (go_at_call 78;with_reducible refine(zp.calls K A c b at_ 32 n next 0 _ (Kd.C_drewN (Kd.C_below HC.out HB.out) _) HCC.out H.out).mono ?_;rintro e w' ⟨rfl,⟨nd,rfl⟩⟩;first|exact⟨rfl,_,World.drewN_drewN _ _ _⟩|exact⟨rfl,_,Eq.trans (World.drewN_drewN _ _ _) (congrArg (World.drewN _) (Nat.add_assoc _ _ _))⟩))
   go_wp2_with (first
    | ((with_reducible refine qF (t:=3) (p:=31) (v:=.tmp 29) rfl ?_);refine qT rfl 3 (.tmp 31) (.tmp 29) rfl g 1 (.int .i64 next) rfl rfl 87 #[.slice A b.length c,.int .i64 at_,.bool false] #[.slice A b.length c,.int .i64 next,.bool false] mDo (show 1<3 by decide) qAa rfl rfl ?_;intro w1 hb hoth hsz hbel;have n0_:=am (KS_.self mDi hb hoth hsz hbel);clear S0 hb hoth hsz hbel;have S0:=n0_;clear n0_))
   exact mBh
  ·rw[if_neg he] at h
   subst h
   have e8:(er != 0)=true:=by rw[bne_iff_ne];exact he
   clear hg hB hn hC hc hu he
   go_enter Tryd.func64,Tryd.ntmps64
   go_wp2
   go_quiet (first
    | (go_at_call 78;with_reducible refine(zp.calls K A c b at_ 32 n next er _ (Kd.C_drewN (Kd.C_below HC.out HB.out) _) HCC.out H.out).mono ?_;rintro e w' ⟨rfl,⟨nd,rfl⟩⟩;first|exact⟨rfl,_,World.drewN_drewN _ _ _⟩|exact⟨rfl,_,Eq.trans (World.drewN_drewN _ _ _) (congrArg (World.drewN _) (Nat.add_assoc _ _ _))⟩))
   go_wp2_with (first
    | ((with_reducible refine qF (t:=4) (p:=27) (v:=.const (.bool true)) rfl ?_);refine qT rfl 4 (.tmp 27) (.const (.bool true)) rfl g 2 (.bool true) rfl rfl 87 #[.slice A b.length c,.int .i64 at_,.bool false] #[.slice A b.length c,.int .i64 at_,.bool true] mDo (show 2<3 by decide) z7 rfl rfl ?_;intro w1 hb hoth hsz hbel;have n0_:=am (KS_.self mDi hb hoth hsz hbel);clear S0 hb hoth hsz hbel;have S0:=n0_;clear n0_))
   exact mBh
 ·rw[if_pos rfl] at h
  obtain rfl:=Option.some.inj h
  clear hg hB hn hC hc h
  go_enter Tryd.func64,Tryd.ntmps64
  go_wp2
  go_ret
  exact⟨rfl,S0.out⟩
end Go.Proofs.YtobldeamemmokaaDoor.P
