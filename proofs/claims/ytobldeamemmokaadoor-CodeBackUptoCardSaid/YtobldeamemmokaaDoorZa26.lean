import Derived.Test.YtobldeamemmokaaDoorZa25
import Derived.Test.YtobldeamemmokaaDoorZa19
set_option linter.unusedVariables false
set_option linter.unusedSimpArgs false
set_option maxHeartbeats 64000000
namespace Go.Proofs.YtobldeamemmokaaDoor.P
open Go.RowKit Go.Proofs.YtobldeamemmokaaDoorW.PrintWords Go.Proofs.YtobldeamemmokaaDoorW.PrintLast Go.Proofs.YtobldeamemmokaaDoorW.PrintMore
theorem zh:(Tryd.prog.info? 79).map (fun i=>i.zero)=some (some (.agg #[.int .u16 0,.string (⟨#[]⟩:ByteArray),.int .u8 0,.slice none 0 0,.slice none 0 0,.int .i64 0,.bool false])):=mDh
theorem zK:(Tryd.prog.info? 79).map (·.size)=some 7:=mDh
theorem xB:(Tryd.prog.info? 41).map (·.size)=some 3:=mDh
theorem xG (r1:Int)(r2:ByteArray)(r3:Int)(A B:Option Addr)(a b c d:Nat)(r6:Int)(r7:Bool):(#[.int .u16 r1,.string r2,.int .u8 r3,.slice A a b,.slice B c d,.int .i64 r6,.bool r7]:Array Value).all (·.oneCell')=true:=all_oneCell_toArray (cs:=[.int .u16 r1,.string r2,.int .u8 r3,.slice A a b,.slice B c d,.int .i64 r6,.bool r7]) (by intro v hv;simp only[List.mem_cons,List.not_mem_nil,or_false] at hv;rcases hv with rfl|rfl|rfl|rfl|rfl|rfl|rfl <;> rfl)
theorem jV {ops:Array Oper}{rest:List Oper}{o:Oper}{a:Act}{w:World}{Q:Exit→Act→World→Prop}(hg:o.guard=none)(x:Operand)(ho:o.op = .build 43 #[(0,x)])(n:Int)(hx:a.eval x = .int .u16 n)
 (h:wpList Tryd.prog ops Q rest (a.put o.dst (.agg (qH {zI with op:=n} (.slice none 0 0) (.slice none 0 0) (.slice none 0 0) (.slice none 0 0)).toArray)) w):wpList Tryd.prog ops Q (o::rest) a w:=by
 refine Kd.event_run hg ?_ h
 unfold execOp
 simp only[ho,List.map_toArray,List.map_cons,List.map_nil,hx,Sem.run_bind,run_build w 43 _ _ (qHG n),Result.andThen_ok]
 rfl
theorem jw {W:World}{g off n:Nat}{t:TypeId}{cs vs:List Value}(hb:W.heap[g]? = some (.cells cs.toArray t (0,0)))(hvs:(cs.drop off).take n=vs)(hn:vs.length=n):W.rangeAt g off vs:=by
 intro j v hj
 rw[qA hb,List.getElem?_toArray]
 have hj2:j<n:=by rw[← hn];exact(List.getElem?_eq_some_iff.1 hj).1
 rw[← hvs,List.getElem?_take_of_lt hj2,List.getElem?_drop] at hj
 exact hj
def FS (w W:World)(g1 g3 g5:Nat)(cx:List Value)(ci:Array Value)(cw:List Value):Prop:=
 W.heap[g1]? = some (.cells cx.toArray 43 (0,0))∧W.heap[g3]? = some (.cells ci 79 (0,0))∧W.heap[g5]? = some (.cells cw.toArray 43 (0,0))∧Below w.heap.size w W∧w.heap.size≤g5∧g1≠g5∧g3≠g5
theorem FS.bel {w W:World}{g1 g3 g5:Nat}{cx:List Value}{ci:Array Value}{cw:List Value}(h:FS w W g1 g3 g5 cx ci cw):Below w.heap.size w W:=h.2.2.2.1
theorem FS.below {w W W1:World}{g1 g3 g5:Nat}{cx:List Value}{ci:Array Value}{cw:List Value}(h:FS w W g1 g3 g5 cx ci cw)(hb:Below W.heap.size W W1):FS w W1 g1 g3 g5 cx ci cw:=
 ⟨qG h.1 hb,qG h.2.1 hb,qG h.2.2.1 hb,qB h.bel hb,h.2.2.2.2⟩
theorem FS.drew {w W:World}{g1 g3 g5:Nat}{cx:List Value}{ci:Array Value}{cw:List Value}(h:FS w W g1 g3 g5 cx ci cw):FS w W.drew g1 g3 g5 cx ci cw:=h.below (qP (Below.refl _ _))
theorem FS.store {w W W1:World}{g1 g3 g5:Nat}{cx:List Value}{ci:Array Value}{cw cw':List Value}(h:FS w W g1 g3 g5 cx ci cw)(hb:W1.heap[g5]? = some (.cells cw'.toArray 43 (0,0)))(ho:∀ k,k≠g5→W1.heap[k]? = W.heap[k]?)(hbel:∀ B (w0:World),B≤g5→Below B w0 W→Below B w0 W1):FS w W1 g1 g3 g5 cx ci cw':=
 ⟨(ho _ h.2.2.2.2.2.1).trans h.1,(ho _ h.2.2.2.2.2.2).trans h.2.1,hb,hbel _ _ h.2.2.2.2.1 h.bel,h.2.2.2.2⟩
theorem qCc {W:World}{g:Nat}{y:I}{vl vt vb ve:Value}(hb:W.heap[g]? = some (.cells (qH y vl vt vb ve).toArray 43 (0,0)))(h16:y.v.length=16):W.cell? ⟨g,20,none⟩=some vl∧W.cell? ⟨g,21,none⟩=some vt∧W.cell? ⟨g,25,none⟩=some vb∧W.cell? ⟨g,26,none⟩=some ve:=by
 obtain⟨_,_,_,_,z20,z21,_,_,_,z25,z26⟩:=qa y h16 vl vt vb ve
 exact⟨(qA hb 20).trans (by rw[List.getElem?_toArray];exact z20),(qA hb 21).trans (by rw[List.getElem?_toArray];exact z21),(qA hb 25).trans (by rw[List.getElem?_toArray];exact z25),(qA hb 26).trans (by rw[List.getElem?_toArray];exact z26)⟩
def yA (x:I):I:={zI with op:=x.op,bk:=x.bk,bv:=x.bv,bt:=x.bt,body:=x.body,els:=if x.op=4 then x.els else []}
def qDV (x:I):Bool:=if yV x.bk x.bv x.bt=true then qz (yA x) x && (yA x).els.length==x.els.length else false
def qg.T7:Bool × List (List Nat × List Nat):=(true,[([],[]),([0],[0]),([],[]),([2],[2]),([0,1],[]),([4,1,0,1],[1,4]),([0,1,2,3,4,5],[]),([6,3,5,0,1,2,3,4,5],[3,6])])
def qg.B7:List Nat:=[0,1,0,4,3,19,63,127]
theorem qg.tab7:jO .any (xL Tryd.f35 7)=qg.T7:=mDh
theorem qg.bits7:zc qg.T7.2 qg.B7=true:=mDh
set_option maxRecDepth 100000 in
theorem qGE (K:Nat)(x:I)(w:World){Al At Ab Ae:Option Addr}{cl ct cb ce:Nat}{r1:Int}{r2:ByteArray}{r4 r5:List Int}{r6:Int}{r7:Bool}(hT:YtobldeamemmokaaDoorTabs.Tab w)(ho:qW.f K x.op=some (r1,r2,1,r4,r5,r6,r7,0))(h16:x.v.length=16)
 (h1:L2 w x Al cl)(h2:T2 w x At ct):
 Calls Tryd.prog 35 #[.agg (qH x (.slice Al x.l.length cl) (.slice At x.t.length ct) (.slice Ab x.body.length cb) (.slice Ae x.els.length ce)).toArray] w fun e w'=>e = .returned (.bool (qDV x))∧Below w.heap.size w w':=by
 obtain⟨cx,hcx⟩:=ex_ (qH x (.slice Al x.l.length cl) (.slice At x.t.length ct) (.slice Ab x.body.length cb) (.slice Ae x.els.length ce))
 have X:=qa x h16 (.slice Al x.l.length cl) (.slice At x.t.length ct) (.slice Ab x.body.length cb) (.slice Ae x.els.length ce)
 have XK:=qBw x h16 (.slice Al x.l.length cl) (.slice At x.t.length ct) (.slice Ab x.body.length cb) (.slice Ae x.els.length ce)
 have XL:=qL x h16 (.slice Al x.l.length cl) (.slice At x.t.length ct) (.slice Ab x.body.length cb) (.slice Ae x.els.length ce)
 have HF:=am (fun(W:World) (hW:Below w.heap.size w W) (ex:Nat) (Ax:Option Addr) (cx':Nat)=>zM (yA x) x W (Al:=none) (At:=none) (cl:=0) (ct:=0) (.slice Ab x.body.length cb) (.slice Ax ex cx') (.slice Ab x.body.length cb) (.slice Ae x.els.length ce) rfl h16 ⟨Nat.le_refl _,Kd.C_nil _ _⟩ ⟨Nat.le_refl _,Kd.C_nil _ _⟩ ⟨h1.1,Kd.C_below h1.2 hW⟩ ⟨h2.1,Kd.C_below h2.2 hW⟩)
 rw[← hcx] at X XK XL ⊢
 rw[← hcx] at HF
 have HX:=am X
 have HXK:=am XK
 have HXL:=am XL
 have HTB:=am hT
 have HO:=am ho
 clear X XK XL hT ho h1 h2 hcx
 unfold qDV
 have eb:((x.body.length:Int)==(x.body.length:Int))=true:=beq_self_eq_true _
 cases hr:yV x.bk x.bv x.bt <;> cases hfl:qz (yA x) x <;> cases hee:((yA x).els.length==x.els.length)
 all_goals
  rw[hfl] at HF
  cases e4:(x.op==4)
  all_goals
   have hels:(yA x).els=(if x.op=4 then x.els else []):=rfl
   first
    | rw[if_neg (by simpa using e4)] at hels
    | rw[if_pos (by simpa using e4)] at hels
   have ee:(((yA x).els.length:Int)==(x.els.length:Int))=((yA x).els.length==x.els.length):=by
    by_cases h:(yA x).els.length=x.els.length
    ·simp[h]
    ·rw[beq_eq_false_iff_ne.2 h,beq_eq_false_iff_ne.2 mDj]
   rw[hee,hels] at ee
   have HR:=am hr
   clear hr hfl hee hels
   go_enter Tryd.func35,Tryd.ntmps35
   go_wp2_with (first
    | ((with_reducible refine qE (N:=1) rfl ?_);refine jP rfl _ rfl cx rfl ?_;intro g1 hg1 w1 hb hbl;have B1:=am hb;have L1:=am (qB mCl hbl);have G1:=am (qN hb);have z0:w1.cell? ⟨g1,0,none⟩=some (.int .u16 x.op):=(qA hb 0).trans mDn;clear hg1 hb hbl)
    | (go_at_call 42;refine(qW.calls K x.op r1 r2 1 r4 r5 r6 r7 0 _ (HTB.out.below mCi) HO.out).mono ?_;rintro e w2 ⟨v3,v4,rfl,h3,h4,hb⟩;obtain⟨A3,c3,rfl⟩:=Kd.R_slice h3;obtain⟨A4,c4,rfl⟩:=Kd.R_slice h4;have n0_:=am (qG B1.out hb);have n1_:=am (qB L1.out hb);have n2_:=am (qN n0_.out);clear B1 L1 G1 h3 h4 hb;have B1:=n0_;have L1:=n1_;have G1:=n2_;clear n0_ n1_ n2_)
    | ((with_reducible refine qE (N:=3) rfl ?_);refine qd rfl 79 rfl _ zh ?_;intro g3 hg3 w3 hb hbl;have n0_:=am (qG B1.out hbl);have n1_:=am (qB L1.out hbl);have n2_:=am hb;have n3_:=am (mDu:g1≠g3∧w.heap.size≤g3);clear B1 L1 hg3 hb hbl;have B1:=n0_;have L1:=n1_;have B3:=n2_;have N13:=n3_;clear n0_ n1_ n2_ n3_)
    | ((with_reducible refine qF (t:=79) (p:=3) (v:=.tmp 10) rfl ?_);refine qV rfl 79 (.tmp 3) (.tmp 10) rfl g3 #[.int .u16 r1,.string r2,.int .u8 1,.slice A3 r4.length c3,.slice A4 r5.length c4,.int .i64 r6,.bool r7] rfl rfl 79 _ B3.out zK rfl (xG _ _ _ _ _ _ _ _ _ _ _) ?_;intro w4 hb hoth hsz hbel;have n0_:=am ((hoth _ N13.out.1).trans B1.out);have n1_:=am (hbel _ _ N13.out.2 L1.out);have n2_:=am hb;have c32:w4.cell? ⟨g3,2,none⟩=some (.int .u8 1):=(qA hb 2).trans rfl;have z0:w4.cell? ⟨g1,0,none⟩=some (.int .u16 x.op):=(qA n0_.out 0).trans mDn;clear B1 L1 B3 hb hoth hsz hbel;have B1:=n0_;have L1:=n1_;have B3:=n2_;clear n0_ n1_ n2_)
    | ((with_reducible refine qE (N:=16) rfl ?_);refine jV rfl (.tmp 15) rfl x.op rfl ?_)
    | ((with_reducible refine qE (N:=5) rfl ?_);refine qd rfl 43 rfl _ jd ?_;intro g5 hg5 w5 hb hbl;have n0_:=am (qG mD5 hbl);have n1_:=am (qG mEc hbl);have n2_:=am (qB mCi hbl);have n3_:=am hb;have n4_:Aside0 (w.heap.size≤g5∧g1≠g5∧g3≠g5):=⟨by have h1:=qN B1.out;have h2:=qN B3.out;have h3:=L1.out.size;have h4:w4.heap.size≤g5:=by {rw[hg5];exact Nat.le_refl _};omega⟩;clear B1 L1 B3 hg5 hb hbl;have B1:=n0_;have B3:=n1_;have L1:=n2_;have B5:=n3_;have N5:=n4_;clear n0_ n1_ n2_ n3_ n4_)
    | ((with_reducible refine qF (t:=43) (p:=5) (v:=.tmp 16) rfl ?_);refine qV rfl 43 (.tmp 5) (.tmp 16) rfl g5 _ rfl rfl 43 _ B5.out mD8 rfl (all_oneCell_toArray (kI.K_one (w:=w) (x:={zI with op:=x.op}) (yk w {zI with op:=x.op} (Al:=none) (At:=none) (Ab:=none) (Ae:=none) (cl:=0) (ct:=0) (cb:=0) (ce:=0) rfl ⟨Nat.le_refl _,Kd.C_nil _ _⟩ ⟨Nat.le_refl _,Kd.C_nil _ _⟩ ⟨Nat.le_refl _,Kd.C_nil _ _⟩ ⟨Nat.le_refl _,Kd.C_nil _ _⟩))) ?_;intro w6 hb hoth hsz hbel;have FSF:Aside0 (FS w w6 g1 g3 g5 cx _ _):=⟨⟨(hoth _ N5.out.2.1).trans B1.out,(hoth _ N5.out.2.2).trans B3.out,hb,hbel _ _ N5.out.1 L1.out,N5.out⟩⟩;have c32:w6.cell? ⟨g3,2,none⟩=some (.int .u8 1):=(qA FSF.out.2.1 2).trans rfl;clear B1 L1 B3 B5 hb hoth hsz hbel))
   have n0_:=am FSF.out.drew
   clear FSF
   have FSF:=n0_
   clear n0_
   refine jQ (n:=8) (S:=fun w'=>w'.heap[g1]? = some (.cells cx.toArray 43 (0,0))) (ds:=[]) #[false,false,false,false,false,false,false,false] mDh rfl rfl FSF.out.1 (fun hHeld=>?_);refine zQ qg.tab7 qg.bits7 (fun HT_ HW_=>?_)
   refine qY (i:=0) (N:=some 21) (v:=?_) (a':=?_) #[true,false,false,false,false,false,false,false] rfl rfl (qS HT_.out mDh) (fun _ _ _ h=>h) (Or.inl ⟨mD2,?_⟩) ?_ ?_
   rotate_left
   ·intro w'
    go_simp
    with_reducible rfl
   rotate_left
   ·exact mAe
   refine qY (i:=2) (N:=some 23) (v:=?_) (a':=?_) #[true,false,true,false,false,false,false,false] rfl rfl (qS HT_.out mDh) (fun _ _ _ h=>h) (Or.inl ⟨mD2,?_⟩) ?_ ?_
   rotate_left
   ·intro w'
    go_simp
    with_reducible rfl
   rotate_left
   ·exact mAe
   refine take_ (i:=1) (N:=some 22) (v:=.agg ([.int .u8 x.bk,.int .u8 x.bv,.int .u32 x.bt]:List Value).toArray) (a':=?_) #[true,true,true,false,false,false,false,false] rfl rfl (qm HT_.out HW_.out mDh) (fun _ _ _ h=>h) (yieldsIf_load_mid mD2 41 _ rfl g1 22 rfl [.int .u8 x.bk,.int .u8 x.bv,.int .u32 x.bt] _ (fun W hW=>jw hW HXK.out rfl) Tryd.underlying41 rfl xB) hHeld ?_ ?_
   rotate_left
   ·exact mAe
   refine qY (i:=4) (N:=some 25) (v:=?_) (a':=?_) #[true,true,true,false,true,false,false,false] rfl rfl (qS HT_.out mDh) (fun _ _ _ h=>h) (Or.inl ⟨mD2,?_⟩) ?_ ?_
   rotate_left
   ·intro w'
    go_simp
    with_reducible rfl
   rotate_left
   ·exact mAe
   refine take_ (i:=3) (N:=some 24) (v:=?_) (a':=?_) #[true,true,true,true,true,false,false,false] rfl rfl (qm HT_.out HW_.out mDh) (fun _ _ _ h=>h) (Or.inl ⟨mD2,?_⟩) hHeld ?_ ?_
   rotate_left
   ·intro w' s0
    have c0:w'.cell? ⟨g1,25,none⟩=some (.slice Ab x.body.length cb):=(qA s0 25).trans mDt
    go_simp
    with_reducible rfl
   rotate_left
   ·exact mAe
   refine jC (i:=5) (N:=none) #[true,true,true,true,true,true,false,false] rfl rfl (qq HT_.out mDh) mDl (fun K hK=>?_)
   refine qDj mD2 41 (.tmp 25) (.tmp 22) rfl g5 22 [.int .u8 x.bk,.int .u8 x.bv,.int .u32 x.bt] rfl rfl 43 _ _ FSF.out.2.2.1 (by rw[List.size_toArray,qL _ rfl];exact(mDl:22+3≤27)) xB mCr (qBk _ rfl _ _ _ _ _ _ _) ?_
   intro w7 hb hoth hsz hbel
   have n0_:=am (FSF.out.store hb hoth hbel)
   clear FSF hb hoth hsz hbel
   have FSF:=n0_
   clear n0_
   refine hK.out _ _ FSF.out.1 (fun hHeld=>?_)
   clear hK K
   refine qY (i:=6) (N:=some 26) (v:=?_) (a':=?_) #[true,true,true,true,true,true,true,false] rfl rfl (qS HT_.out mDh) (fun _ _ _ h=>h) (Or.inl ⟨mD2,?_⟩) ?_ ?_
   rotate_left
   ·intro w'
    go_simp
    with_reducible rfl
   rotate_left
   ·exact mAe
   refine jC (i:=7) (N:=none) #[true,true,true,true,true,true,true,true] rfl rfl (qq HT_.out mDh) mDl (fun K hK=>?_)
   refine zB mD2 22 (.tmp 26) (.tmp 24) rfl g5 25 (.slice Ab x.body.length cb) rfl rfl 43 _ _ FSF.out.2.2.1 (by rw[List.size_toArray,qL _ rfl];decide) yJ rfl (ze _ rfl _ _ _ _ _).2.2.1 ?_
   intro w8 hb hoth hsz hbel
   have n0_:=am (FSF.out.store hb hoth hbel)
   clear FSF hb hoth hsz hbel
   have FSF:=n0_
   clear n0_
   refine hK.out _ _ FSF.out.1 (fun hHeld=>?_)
   clear hK K
   refine xI (zu HT_.out mDh) ?_
   have z0:w8.cell? ⟨g1,0,none⟩=some (.int .u16 x.op):=(qA FSF.out.1 0).trans mDn
   have z25:w8.cell? ⟨g1,25,none⟩=some (.slice Ab x.body.length cb):=(qA FSF.out.1 25).trans mDt
   have z26:w8.cell? ⟨g1,26,none⟩=some (.slice Ae x.els.length ce):=(qA FSF.out.1 26).trans mDx
   go_wp2_with (first
    | ((with_reducible refine qF (t:=22) (p:=32) (v:=.tmp 31) rfl ?_);refine qT rfl 22 (.tmp 32) (.tmp 31) rfl g5 26 (.slice Ae x.els.length ce) rfl rfl 43 _ _ FSF.out.2.2.1 (by rw[List.size_toArray,qL _ rfl];decide) yJ rfl (ze _ rfl _ _ _ _ _).2.2.2 ?_;intro w9 hb hoth hsz hbel;have n0_:=am (FSF.out.store hb hoth hbel);clear FSF hb hoth hsz hbel;have FSF:=n0_;clear n0_)
    | ((with_reducible refine qE (N:=34) rfl ?_);refine q7 rfl 41 (.tmp 33) rfl g1 22 3 cx _ _ rfl mE HXK.out rfl Tryd.underlying41 rfl xB ?_)
    | (go_at_call 53;refine(qA2 x.bk x.bv x.bt _).mono ?_;rintro e w10 ⟨rfl,hb⟩;rw[HR.out];have n0_:=am (FS.below mD7 hb);clear FSF hb;have FSF:=n0_;clear n0_)
    | ((with_reducible refine qE (N:=140) rfl ?_);refine q7 rfl 43 (.tmp 5) rfl g5 0 27 _ _ _ rfl mDq (by rw[List.drop_zero];exact List.take_of_length_le (Nat.le_of_eq (qL _ rfl _ _ _ _))) (qL _ rfl _ _ _ _) Tryd.underlying43 rfl zC ?_)
    | ((with_reducible refine qE (N:=141) rfl ?_);refine q7 rfl 43 (.tmp 1) rfl g1 0 27 cx cx _ rfl mE mCw HXL.out Tryd.underlying43 rfl zC ?_)
    | (go_at_call 36;refine(HF.out _ mC0 _ _ _).mono ?_;rintro e w11 ⟨rfl,hb⟩;have n0_:=am (FS.below mD7 hb);clear FSF hb;have FSF:=n0_;clear n0_;
       have z25:w11.cell? ⟨g1,25,none⟩=some (.slice Ab x.body.length cb):=(qA FSF.out.1 25).trans mDt;
       have z26:w11.cell? ⟨g1,26,none⟩=some (.slice Ae x.els.length ce):=(qA FSF.out.1 26).trans mDx;
       have y25:=(qCc FSF.out.2.2.1 rfl).2.2.1;have y26:=(qCc FSF.out.2.2.1 rfl).2.2.2))
   first
    | (exfalso;simp at ee;done)
    | (go_ret;exact⟨by first|rfl|(simp;done)|(simpa using ee),by repeat (first|exact FSF.out.bel|exact FS.bel FSF.out|apply qJ|apply qP)⟩)
end Go.Proofs.YtobldeamemmokaaDoor.P
