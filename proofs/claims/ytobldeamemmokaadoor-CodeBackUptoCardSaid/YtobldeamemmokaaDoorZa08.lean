import Derived.Test.YtobldeamemmokaaDoorZa07
set_option linter.unusedVariables false
set_option linter.unusedSimpArgs false
set_option maxHeartbeats 64000000
namespace Go.Proofs.YtobldeamemmokaaDoor.P
open Go.RowKit Go.Proofs.YtobldeamemmokaaDoorW.PrintWords Go.Proofs.YtobldeamemmokaaDoorW.PrintLast Go.Proofs.YtobldeamemmokaaDoorW.PrintMore
def qz (x y:I):Bool:=x.op==y.op && (x.a==y.a && (x.b==y.b && (x.n==y.n && (x.v==y.v && ((x.bk==y.bk && (x.bv==y.bv && x.bt==y.bt)) && (x.l==y.l && x.t==y.t))))))
set_option maxRecDepth 100000 in
theorem zM (x y:I)(w:World){Al Bl At Bt:Option Addr}{cl dl ct dt:Nat}(vb ve ub ue:Value)(hx:x.v.length=16)(hy:y.v.length=16)
 (h1:x.l.length≤cl∧(Kd.int .u32).C w Al x.l.length x.l)(h2:x.t.length≤ct∧(Kd.int .u8).C w At x.t.length x.t)(h3:y.l.length≤dl∧(Kd.int .u32).C w Bl y.l.length y.l)(h4:y.t.length≤dt∧(Kd.int .u8).C w Bt y.t.length y.t):
 Calls Tryd.prog 36 #[.agg (qH x (.slice Al x.l.length cl) (.slice At x.t.length ct) vb ve).toArray,.agg (qH y (.slice Bl y.l.length dl) (.slice Bt y.t.length dt) ub ue).toArray] w fun e w'=>e = .returned (.bool (qz x y))∧Below w.heap.size w w':=by
 obtain⟨cx,hcx⟩:=ex_ (qH x (.slice Al x.l.length cl) (.slice At x.t.length ct) vb ve)
 obtain⟨cy,hcy⟩:=ex_ (qH y (.slice Bl y.l.length dl) (.slice Bt y.t.length dt) ub ue)
 have X:=qa x hx (.slice Al x.l.length cl) (.slice At x.t.length ct) vb ve
 have Y:=qa y hy (.slice Bl y.l.length dl) (.slice Bt y.t.length dt) ub ue
 have XV:=qDo x hx (.slice Al x.l.length cl) (.slice At x.t.length ct) vb ve
 have YV:=qDo y hy (.slice Bl y.l.length dl) (.slice Bt y.t.length dt) ub ue
 have XK:=qBw x hx (.slice Al x.l.length cl) (.slice At x.t.length ct) vb ve
 have YK:=qBw y hy (.slice Bl y.l.length dl) (.slice Bt y.t.length dt) ub ue
 rw[← hcx] at X XV XK ⊢
 rw[← hcy] at Y YV YK ⊢
 have HX:=am X
 have HY:=am Y
 have HXV:=am XV
 have HYV:=am YV
 have HXK:=am XK
 have HYK:=am YK
 have H16:=am hx
 have K16:=am hy
 have H1:=am h1
 have H2:=am h2
 have H3:=am h3
 have H4:=am h4
 clear X Y XV YV XK YK hx hy h1 h2 h3 h4 hcx hcy
 unfold qz
 obtain⟨b5,e5⟩:=ey_ ((x.v==y.v))
 obtain⟨b6,e6⟩:=ey_ ((x.bk==y.bk && (x.bv==y.bv && x.bt==y.bt)))
 rw[e5,e6]
 have E5:=am e5
 have E6:=am e6
 clear e5 e6
 cases e1:(x.op==y.op)
 rotate_left
 cases e2:(x.a==y.a)
 rotate_left
 cases e3:(x.b==y.b)
 rotate_left
 cases e4:(x.n==y.n)
 rotate_left
 cases b5
 rotate_left
 cases b6
 rotate_left
 cases e7:(x.l==y.l)
 rotate_left
 all_goals
  simp only[Bool.true_and,Bool.false_and]
  go_enter Tryd.func36,Tryd.ntmps36
  go_wp2_with (first
   | ((with_reducible refine qE (N:=2) rfl ?_);refine jP rfl _ rfl cx rfl ?_;intro g hg w1 hb hbl;have HG:=am hg;have HB:=am hb;have HBL:=am hbl;clear hg hb hbl)
   | ((with_reducible refine qE (N:=3) rfl ?_);refine jP rfl _ rfl cy rfl ?_;intro g' hg' w2 hb' hbl';have n0_:=am (qG HB.out hbl');have n1_:=am (qB HBL.out hbl');have HB2:=am hb';clear HB HBL hg' hb' hbl';have HB:=n0_;have HBL:=n1_;clear n0_ n1_;
      have z0:w2.cell? ⟨g,0,none⟩=some (.int .u16 x.op):=(qA HB.out 0).trans mDn;
      have z1:w2.cell? ⟨g,1,none⟩=some (.int .u32 x.a):=(qA HB.out 1).trans mD0;
      have z2:w2.cell? ⟨g,2,none⟩=some (.int .u32 x.b):=(qA HB.out 2).trans mDz;
      have z3:w2.cell? ⟨g,3,none⟩=some (.int .u64 x.n):=(qA HB.out 3).trans mDy;
      have z20:w2.cell? ⟨g,20,none⟩=some (.slice Al x.l.length cl):=(qA HB.out 20).trans mDs;
      have z21:w2.cell? ⟨g,21,none⟩=some (.slice At x.t.length ct):=(qA HB.out 21).trans mDr;
      have y0:w2.cell? ⟨g',0,none⟩=some (.int .u16 y.op):=(qA HB2.out 0).trans (by rw[List.getElem?_toArray];exact HY.out.1);
      have y1:w2.cell? ⟨g',1,none⟩=some (.int .u32 y.a):=(qA HB2.out 1).trans (by rw[List.getElem?_toArray];exact HY.out.2.1);
      have y2:w2.cell? ⟨g',2,none⟩=some (.int .u32 y.b):=(qA HB2.out 2).trans (by rw[List.getElem?_toArray];exact HY.out.2.2.1);
      have y3:w2.cell? ⟨g',3,none⟩=some (.int .u64 y.n):=(qA HB2.out 3).trans (by rw[List.getElem?_toArray];exact HY.out.2.2.2.1);
      have y20:w2.cell? ⟨g',20,none⟩=some (.slice Bl y.l.length dl):=(qA HB2.out 20).trans (by rw[List.getElem?_toArray];exact HY.out.2.2.2.2.1);
      have y21:w2.cell? ⟨g',21,none⟩=some (.slice Bt y.t.length dt):=(qA HB2.out 21).trans (by rw[List.getElem?_toArray];exact HY.out.2.2.2.2.2.1))
   | ((with_reducible refine qE (N:=33) rfl ?_);refine jS mD2 ?_;refine q7 rfl 36 (.tmp 32) rfl g 4 16 cx _ _ rfl HB.out HXV.out (by rw[q9];exact H16.out) Tryd.underlying36 rfl qGz ?_)
   | ((with_reducible refine qE (N:=35) rfl ?_);refine jS mD2 ?_;refine q7 rfl 36 (.tmp 34) rfl g' 4 16 cy _ _ rfl HB2.out HYV.out (by rw[q9];exact K16.out) Tryd.underlying36 rfl qGz ?_)
   | ((with_reducible refine qE (N:=36) rfl ?_);refine jS mD2 ?_;refine qIV rfl (.tmp 33) (.tmp 35) 36 rfl x.v y.v H16.out K16.out rfl rfl ?_;rw[E5.out])
   | ((with_reducible refine qE (N:=40) rfl ?_);refine jS mD2 ?_;refine q7 rfl 41 (.tmp 39) rfl g 22 3 cx _ _ rfl HB.out HXK.out rfl Tryd.underlying41 rfl qGw ?_)
   | ((with_reducible refine qE (N:=42) rfl ?_);refine jS mD2 ?_;refine q7 rfl 41 (.tmp 41) rfl g' 22 3 cy _ _ rfl HB2.out HYK.out rfl Tryd.underlying41 rfl qGw ?_)
   | ((with_reducible refine qE (N:=43) rfl ?_);refine jS mD2 ?_;refine qEX rfl (.tmp 40) (.tmp 42) 41 rfl x.bk x.bv x.bt y.bk y.bv y.bt rfl rfl ?_;rw[E6.out])
   | (go_at_call 58;refine(qD3 (Kd.C_below H1.out.2 HBL.out) H1.out.1 (Kd.C_below H3.out.2 HBL.out) H3.out.1).mono ?_;rintro e w' ⟨rfl,⟨nd,rfl⟩⟩;rw[e7])
   | (go_at_call 59;refine(qFm (Kd.C_below H2.out.2 (qJ HBL.out _)) H2.out.1 (Kd.C_below H4.out.2 (qJ HBL.out _)) H4.out.1).mono ?_;rintro e w' ⟨rfl,⟨nd,rfl⟩⟩))
  go_ret
  exact⟨rfl,by repeat (first|exact HBL.out|apply qJ)⟩
end Go.Proofs.YtobldeamemmokaaDoor.P
