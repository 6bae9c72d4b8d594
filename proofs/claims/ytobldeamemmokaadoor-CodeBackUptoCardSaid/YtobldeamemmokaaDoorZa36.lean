import Derived.Test.YtobldeamemmokaaDoorZa35
set_option linter.unusedVariables false
set_option linter.unusedSimpArgs false
set_option maxHeartbeats 64000000
namespace Go.Proofs.YtobldeamemmokaaDoor.P
open Go.RowKit Go.Proofs.YtobldeamemmokaaDoorW.PrintWords Go.Proofs.YtobldeamemmokaaDoorW.PrintLast Go.Proofs.YtobldeamemmokaaDoorW.PrintMore
theorem qDk {α β:Type}{d:Kd α}{d':Kd β}{e e':Nat}{W W':World}{base:Nat}{ok ok':Nat→Prop}{v v':Value}{xs:List α}{ys:List β}(h:d.R e W base ok v xs)(h':d'.R e' W' W.heap.size ok' v' ys):∀ k,v.ownBlock=some k→some k≠v'.ownBlock:=fun k hk e=>by
 have h1:=Kd.R_lt h k hk
 have h2:=Kd.R_base h' k e.symm
 omega
theorem qCt {α:Type}{d:Kd α}{e:Nat}{W:World}{base:Nat}{ok:Nat→Prop}{v v':Value}{xs:List α}(h:d.R e W base ok v xs)(hn:∃ b,v'.ownBlock=some b∧W.heap.size≤b):∀ k,v'.ownBlock=some k→some k≠v.ownBlock:=fun k hk e=>by
 obtain⟨b,hb,hl⟩:=hn
 have h1:=Kd.R_lt h k e.symm
 rw[hb] at hk
 have h2:=Option.some.inj hk
 omega
theorem qHP {k:IntKind}{e:Nat}{W w1:World}{base:Nat}{ok:Nat→Prop}{v v':Value}{xs:List Int}(h:(Kd.int k).R e W base ok v xs)(hg:W.grownBy w1 v'.ownBlock)(hd:∀ q,v.ownBlock=some q→some q≠v'.ownBlock):(Kd.int k).R e w1 base ok v xs:=by
 have hlt:=Kd.R_lt h
 obtain⟨h0,inner,ho,hr⟩:=h
 exact⟨h0,inner,qBv ho (fun q hq=>hg.block q (hlt q hq) (hd q hq)),hr.imp_ (fun _ _ hp=>hp)⟩
set_option maxRecDepth 100000 in
theorem qID (K:Nat)(x:I)(bs r r2b:List Int)(w:World){Al At:Option Addr}{cl ct:Nat}(vb ve:Value){r1 im:Int}{r2:ByteArray}{r4 r5:List Int}{r6 r8:Int}{r7:Bool}(hT:YtobldeamemmokaaDoorTabs.Tab w)(him:im=17)(ho:qW.f K x.op=some (r1,r2,im,r4,r5,r6,r7,r8))(h16:x.v.length=16)(hu:qX.f K (IntKind.u64.wrap x.a)=some r)(hu2:qX.f K x.n=some r2b)(hr:r.length<1000000∧r2b.length<1000000)(h:(r++r2b) ++ [x.b % 256]=bs):
 jB x Al At cl ct vb ve w bs:=by
 unfold jB
 obtain⟨cx,hcx⟩:=ex_ (qH x (.slice Al x.l.length cl) (.slice At x.t.length ct) vb ve)
 have X:=qa x h16 (.slice Al x.l.length cl) (.slice At x.t.length ct) vb ve
 rw[← hcx] at X ⊢
 have HX:=am X
 have HTB:=am hT
 have HO:=am ho
 have HR_:=am hr
 have HU:=am (fun(W:World)=>jY K x.a r W hu)
 have HU2:=am (fun(W:World)=>qX.calls K x.n r2b W hu2)
 subst h
 clear X hT ho hcx hu hu2 hr
 have t1:=tst 1 him;have t2:=tst 2 him;have t4:=tst 4 him;have t6:=tst 6 him;have t7:=tst 7 him;have t8:=tst 8 him;have t10:=tst 10 him;have t12:=tst 12 him;have t13:=tst 13 him;have t5:=tst 5 him;have t9:=tst 9 him;have t11:=tst 11 him;have t3:=tst 3 him;have t14:=tst 14 him;have t15:=tst 15 him;have t16:=tst 16 him;have t17:=tst 17 him;have t18:=tst 18 him;have t19:=tst 19 him;have t24:=tst 24 him;have t20:=tst 20 him;have t22:=tst 22 him;have t21:=tst 21 him;have t23:=tst 23 him;have t25:=tst 25 him;have t26:=tst 26 him;clear him
 go_enter Tryd.func29,Tryd.ntmps29
 go_wp2_with (first
  | ((with_reducible refine qE (N:=1) rfl ?_);refine jP rfl _ rfl cx rfl ?_;intro g1 hg1 w1 hb hbl;have B1:=am hb;have L1:=am (qB mCl hbl);have G1:=am (qN hb);have z0:w1.cell? ⟨g1,0,none⟩=some (.int .u16 x.op):=(qA hb 0).trans mDn;clear hg1 hb hbl)
  | (go_at_call 42;refine(qW.calls K x.op r1 r2 im r4 r5 r6 r7 r8 _ (HTB.out.below mCi) HO.out).mono ?_;rintro e w2 ⟨v3,v4,rfl,h3,h4,hb⟩;obtain⟨A3,c3,rfl⟩:=Kd.R_slice h3;obtain⟨A4,c4,rfl⟩:=Kd.R_slice h4;have n0_:=am (qG B1.out hb);have n1_:=am (qB L1.out hb);have n2_:=am (qN n0_.out);clear B1 L1 G1 h3 h4 hb;have B1:=n0_;have L1:=n1_;have G1:=n2_;clear n0_ n1_ n2_)
  | ((with_reducible refine qE (N:=3) rfl ?_);refine qd rfl 79 rfl _ zh ?_;intro g3 hg3 w3 hb hbl;have n0_:=am (qG B1.out hbl);have n1_:=am (qB L1.out hbl);have n2_:=am hb;have n3_:=am (mDu:g1≠g3∧w.heap.size≤g3);clear B1 L1 hg3 hb hbl;have B1:=n0_;have L1:=n1_;have B3:=n2_;have N13:=n3_;clear n0_ n1_ n2_ n3_)
  | ((with_reducible refine qF (t:=79) (p:=3) (v:=.tmp 16) rfl ?_);refine qV rfl 79 (.tmp 3) (.tmp 16) rfl g3 #[.int .u16 r1,.string r2,.int .u8 im,.slice A3 r4.length c3,.slice A4 r5.length c4,.int .i64 r6,.bool r7] rfl rfl 79 _ B3.out zK rfl (xG _ _ _ _ _ _ _ _ _ _ _) ?_;intro w4 hb hoth hsz hbel;have n0_:=am ((hoth _ N13.out.1).trans B1.out);have n1_:=am (hbel _ _ N13.out.2 L1.out);have n2_:=am hb;have c32:w4.cell? ⟨g3,2,none⟩=some (.int .u8 im):=(qA hb 2).trans rfl;have z0:w4.cell? ⟨g1,0,none⟩=some (.int .u16 x.op):=(qA n0_.out 0).trans mDn;have z1:w4.cell? ⟨g1,1,none⟩=some (.int .u32 x.a):=(qA n0_.out 1).trans mD0;have z2:w4.cell? ⟨g1,2,none⟩=some (.int .u32 x.b):=(qA n0_.out 2).trans mDz;have z3:w4.cell? ⟨g1,3,none⟩=some (.int .u64 x.n):=(qA n0_.out 3).trans mDy;have z20:w4.cell? ⟨g1,20,none⟩=some (.slice Al x.l.length cl):=(qA n0_.out 20).trans mDs;have z21:w4.cell? ⟨g1,21,none⟩=some (.slice At x.t.length ct):=(qA n0_.out 21).trans mDr;have z22:w4.cell? ⟨g1,22,none⟩=some (.int .u8 x.bk):=(qA n0_.out 22).trans mD6;have z23:w4.cell? ⟨g1,23,none⟩=some (.int .u8 x.bv):=(qA n0_.out 23).trans mD4;have z24:w4.cell? ⟨g1,24,none⟩=some (.int .u32 x.bt):=(qA n0_.out 24).trans mD3;clear B1 L1 B3 hb hoth hsz hbel;have B1:=n0_;have L1:=n1_;have B3:=n2_;clear n0_ n1_ n2_))
 have n0_:=am (qP L1.out)
 have n1_:=am (za B1.out)
 clear L1 B1
 have L1:=n0_
 have B1:=n1_
 clear n0_ n1_
 refine jQ (n:=14) (S:=fun w'=>w'.heap[g1]? = some (.cells cx.toArray 43 (0,0))) (ds:=[]) #[false,false,false,false,false,false,false,false,false,false,false,false,false,false] mDh rfl rfl B1.out (fun hHeld=>?_);refine zQ qi.tab40 qi.bits40 (fun HT_ HW_=>?_)
 generalize w4.drew=w4d at L1 B1 hHeld ⊢
 refine qY (i:=0) (N:=some 113) (v:=?_) (a':=?_) #[true,false,false,false,false,false,false,false,false,false,false,false,false,false] rfl rfl (qS HT_.out mDh) (fun _ _ _ h=>h) (Or.inl ⟨mD2,?_⟩) ?_ ?_
 rotate_left
 ·intro w'
  go_simp
  with_reducible rfl
 rotate_left
 ·exact mAe
 refine qY (i:=1) (N:=some 114) (v:=?_) (a':=?_) #[true,true,false,false,false,false,false,false,false,false,false,false,false,false] rfl rfl (qS HT_.out mDh) (fun _ _ _ h=>h) (Or.inl ⟨mD2,?_⟩) ?_ ?_
 rotate_left
 ·intro w'
  go_simp
  with_reducible rfl
 rotate_left
 ·exact mAe
 refine qY (i:=4) (N:=some 117) (v:=?_) (a':=?_) #[true,true,false,false,true,false,false,false,false,false,false,false,false,false] rfl rfl (qS HT_.out mDh) (fun _ _ _ h=>h) (Or.inl ⟨mD2,?_⟩) ?_ ?_
 rotate_left
 ·intro w'
  go_simp
  with_reducible rfl
 rotate_left
 ·exact mAe
 refine qY (i:=8) (N:=some 121) (v:=?_) (a':=?_) #[true,true,false,false,true,false,false,false,true,false,false,false,false,false] rfl rfl (qS HT_.out mDh) (fun _ _ _ h=>h) (Or.inl ⟨mD2,?_⟩) ?_ ?_
 rotate_left
 ·intro w'
  go_simp
  with_reducible rfl
 rotate_left
 ·exact mAe
 refine take_ (i:=2) (N:=some 115) (v:=?_) (a':=?_) #[true,true,true,false,true,false,false,false,true,false,false,false,false,false] rfl rfl (qm HT_.out HW_.out mDh) (fun _ _ _ h=>h) (Or.inl ⟨mD2,?_⟩) hHeld ?_ ?_
 rotate_left
 ·exact mAx
 rotate_left
 ·exact mAe
 refine take_ (i:=5) (N:=some 118) (v:=?_) (a':=?_) #[true,true,true,false,true,true,false,false,true,false,false,false,false,false] rfl rfl (qm HT_.out HW_.out mDh) (fun _ _ _ h=>h) (Or.inl ⟨mD2,?_⟩) hHeld ?_ ?_
 rotate_left
 ·exact mA8
 rotate_left
 ·exact mAe
 refine take_ (i:=9) (N:=some 122) (v:=?_) (a':=?_) #[true,true,true,false,true,true,false,false,true,true,false,false,false,false] rfl rfl (qm HT_.out HW_.out mDh) (fun _ _ _ h=>h) (Or.inl ⟨mD2,?_⟩) hHeld ?_ ?_
 rotate_left
 ·exact mA9
 rotate_left
 ·exact mAe
 refine qY (i:=10) (N:=some 123) (v:=?_) (a':=?_) #[true,true,true,false,true,true,false,false,true,true,true,false,false,false] rfl rfl (qS HT_.out mDh) (fun _ _ _ h=>h) (Or.inl ⟨mD2,?_⟩) ?_ ?_
 rotate_left
 ·intro w'
  go_simp
  with_reducible rfl
 rotate_left
 ·exact mAe
 refine qGg (σ:=Value × Value × Value × Value) 2 #[true,true,true,true,true,true,true,true,true,true,true,true,false,false] (fun s=>[(116,s.1),(119,s.2.1),(120,s.2.2.1),(124,s.2.2.2)]) (fun s w'=>(Kd.int .u8).R 5 w' w.heap.size (fun _=>True) s.2.2.1 (r++r2b)∧(Kd.int .u8).R 5 w' w.heap.size (fun _=>True) s.2.2.2 [x.b % 256]∧Below w.heap.size w w'∧w'.heap[g1]? = some (.cells cx.toArray 43 (0,0))) ?_ ?_
 rotate_left
 ·intro hCont
  refine qHQ (i:=3) (j:=11) (Ni:=some 116) (Nj:=some 124) #[true,true,true,true,true,true,false,false,true,true,true,false,false,false] #[true,true,true,false,true,true,false,false,true,true,true,true,false,false] rfl rfl rfl rfl (qBR HT_.out mDh) mDl mDl (fun K hK=>?_) (fun K hK=>?_)
  ·refine qAx (.tmp 113) Tryd.func43 mDh rfl #[.int .u32 x.a] mD2 rfl rfl rfl mCs ?_
   refine(HU.out _).mono ?_
   rintro e w5_ ⟨v116,rfl,ho4,hb⟩
   refine⟨_,rfl,?_⟩
   have n0_:=am (qG B1.out hb)
   have n1_:=am (qB L1.out hb)
   have n2_:=am (Kd.R_lower ho4 L1.out.size)
   clear B1 L1 ho4 hb
   have B1:=n0_
   have L1:=n1_
   have RA:=n2_
   clear n0_ n1_ n2_
   refine hK.out _ _ B1.out (fun hHeld=>?_)
   clear hK K
   refine zJ (a':=?_) ?_ ?_
   rotate_left
   ·show Act.put _ (some 116) _=_
    exact mAe
   refine qHQ (i:=6) (j:=11) (Ni:=some 119) (Nj:=some 124) #[true,true,true,true,true,true,true,false,true,true,true,false,false,false] #[true,true,true,true,true,true,false,false,true,true,true,true,false,false] rfl rfl rfl rfl (qBR HT_.out mDh) mDl mDl (fun K hK=>?_) (fun K hK=>?_)
   ·refine yD Tryd.func41 mDh rfl #[.int .u64 x.n] mD2 rfl rfl mCs ?_
    refine(HU2.out _).mono ?_
    rintro e w6_ ⟨v119,rfl,ho4,hb⟩
    refine⟨_,rfl,?_⟩
    have n0_:=am (qG B1.out hb)
    have n1_:=am (qB L1.out hb)
    have n2_:=am (Kd.R_lower ho4 L1.out.size)
    have m0_:=am (Kd.R_below RA.out hb)
    clear B1 L1 ho4 hb RA
    have B1:=n0_
    have L1:=n1_
    have RB:=n2_
    have RA:=m0_
    clear n0_ n1_ n2_ m0_
    refine hK.out _ _ B1.out (fun hHeld=>?_)
    clear hK K
    refine zJ (a':=?_) ?_ ?_
    rotate_left
    ·show Act.put _ (some 119) _=_
     exact mAe
    refine qHQ (i:=7) (j:=11) (Ni:=some 120) (Nj:=some 124) #[true,true,true,true,true,true,true,true,true,true,true,false,false,false] #[true,true,true,true,true,true,true,false,true,true,true,true,false,false] rfl rfl rfl rfl (qBR HT_.out mDh) mDl mDl (fun K hK=>?_) (fun K hK=>?_)
    ·obtain⟨A6,c6,rfl⟩:=Kd.R_slice RA.out
     obtain⟨A9,c9,rfl⟩:=Kd.R_slice RB.out
     refine Kd.R_append_rows_step (Kd.int .u8) (w0:=w) w.heap.size mD2 (.tmp 116) (.tmp 119) 24 5 (.int .u8 0) 1 rfl Tryd.underlying24 jM rfl mDl mDl (.slice A6 r.length c6) r (r2b:List Int) A9 r2b.length c9 (fun _=>True) (fun _=>False) rfl rfl RA.out (Kd.R_reads' RB.out).2.2 (fun _ _ h=>h) (fun _ h=>h.elim) (fun _ _=>trivial) L1.out L1.out.size mEf ?_
     intro v120 w7_ ho4 hb hg hat
     have n0_:=am (jz (d':=Kd.int .u8) hg (show 43≠5 by decide) B1.out RA.out)
     have n2_:=am ho4
     clear B1 L1 RB ho4 hg hat
     have B1:=n0_
     have L1:=am hb
     have RC:=n2_
     clear hb RA n0_ n2_
     refine hK.out _ _ B1.out (fun hHeld=>?_)
     clear hK K
     refine zJ (a':=?_) ?_ ?_
     rotate_left
     ·show Act.put _ (some 120) _=_
      exact mAe
     refine jC (i:=11) (N:=some 124) #[true,true,true,true,true,true,true,true,true,true,true,true,false,false] rfl rfl (qq HT_.out mDh) mDl (fun K hK=>?_)
     refine Kd.R_lit_step (Kd.int .u8) (w0:=w) w.heap.size 5 mD2 (N:=124) rfl (xs:=([x.b % 256]:List Int)) (inner:=[.int .u8 (x.b % 256)]) (ok:=fun _=>True) (okp:=fun _=>True) mEd (Reps.one (show Kd.M (Kd.int .u8) _ _ _ (x.b % 256) [.int .u8 (x.b % 256)] from rfl) (Reps.none _ _)) (fun _ hk=>hk) trivial L1.out L1.out.size mDp ?_
     intro v124 w8_ ho4 hb hg_ hnew_
     have n0_:=am ((hg_.block g1 (qN B1.out) mDp).trans B1.out)
     have n2_:=am ho4
     have m0_:=am (yt RC.out hg_)
     clear B1 L1 ho4 hg_ hnew_ RC
     have B1:=n0_
     have L1:=am hb
     have RL:=n2_
     have RC:=m0_
     clear hb n0_ n2_ m0_
     refine hK.out _ _ B1.out (fun hHeld=>?_)
     clear hK K
     refine zJ (a':=?_) ?_ ?_
     rotate_left
     ·show Act.put _ (some 124) _=_
      exact mAe
     exact zJ mDe (hCont (.slice A6 r.length c6,.slice A9 r2b.length c9,v120,v124) _ ⟨RC.out,RL.out,L1.out,B1.out⟩)
    ·refine Kd.R_lit_step (Kd.int .u8) (w0:=w) w.heap.size 5 mD2 (N:=124) rfl (xs:=([x.b % 256]:List Int)) (inner:=[.int .u8 (x.b % 256)]) (ok:=fun _=>True) (okp:=fun _=>True) mEd (Reps.one (show Kd.M (Kd.int .u8) _ _ _ (x.b % 256) [.int .u8 (x.b % 256)] from rfl) (Reps.none _ _)) (fun _ hk=>hk) trivial L1.out L1.out.size mDp ?_
     intro v124 w7_ ho4 hb hg_ hnew_
     have HD:=am (qCt RA.out hnew_)
     have n0_:=am ((hg_.block g1 (qN B1.out) mDp).trans B1.out)
     have n2_:=am ho4
     have m0_:=am (yt RA.out hg_)
     have m1_:=am (yt RB.out hg_)
     clear B1 L1 ho4 hg_ hnew_ RA RB
     have B1:=n0_
     have L1:=am hb
     have RL:=n2_
     have RA:=m0_
     have RB:=m1_
     clear hb n0_ n2_ m0_ m1_
     refine hK.out _ _ B1.out (fun hHeld=>?_)
     clear hK K
     refine zJ (a':=?_) ?_ ?_
     rotate_left
     ·show Act.put _ (some 124) _=_
      exact mAe
     exact mAq
   ·refine Kd.R_lit_step (Kd.int .u8) (w0:=w) w.heap.size 5 mD2 (N:=124) rfl (xs:=([x.b % 256]:List Int)) (inner:=[.int .u8 (x.b % 256)]) (ok:=fun _=>True) (okp:=fun _=>True) mEd (Reps.one (show Kd.M (Kd.int .u8) _ _ _ (x.b % 256) [.int .u8 (x.b % 256)] from rfl) (Reps.none _ _)) (fun _ hk=>hk) trivial L1.out L1.out.size mDp ?_
    intro v124 w6_ ho4 hb hg_ hnew_
    have HD:=am (qCt RA.out hnew_)
    have n0_:=am ((hg_.block g1 (qN B1.out) mDp).trans B1.out)
    have n2_:=am ho4
    have m0_:=am (yt RA.out hg_)
    clear B1 L1 ho4 hg_ hnew_ RA
    have B1:=n0_
    have L1:=am hb
    have RL:=n2_
    have RA:=m0_
    clear hb n0_ n2_ m0_
    refine hK.out _ _ B1.out (fun hHeld=>?_)
    clear hK K
    refine zJ (a':=?_) ?_ ?_
    rotate_left
    ·show Act.put _ (some 124) _=_
     exact mAe
    refine jC (i:=6) (N:=some 119) #[true,true,true,true,true,true,true,false,true,true,true,true,false,false] rfl rfl (qq HT_.out mDh) mDl (fun K hK=>?_)
    refine yD Tryd.func41 mDh rfl #[.int .u64 x.n] mD2 rfl rfl mCs ?_
    refine(HU2.out _).mono ?_
    rintro e w7_ ⟨v119,rfl,ho4,hb⟩
    refine⟨_,rfl,?_⟩
    have n0_:=am (qG B1.out hb)
    have n1_:=am (qB L1.out hb)
    have n2_:=am (Kd.R_lower ho4 L1.out.size)
    have m0_:=am (Kd.R_below RA.out hb)
    have m1_:=am (Kd.R_below RL.out hb)
    clear B1 L1 ho4 hb RA RL
    have B1:=n0_
    have L1:=n1_
    have RB:=n2_
    have RA:=m0_
    have RL:=m1_
    exact mB1
  ·refine Kd.R_lit_step (Kd.int .u8) (w0:=w) w.heap.size 5 mD2 (N:=124) rfl (xs:=([x.b % 256]:List Int)) (inner:=[.int .u8 (x.b % 256)]) (ok:=fun _=>True) (okp:=fun _=>True) mEd (Reps.one (show Kd.M (Kd.int .u8) _ _ _ (x.b % 256) [.int .u8 (x.b % 256)] from rfl) (Reps.none _ _)) (fun _ hk=>hk) trivial L1.out L1.out.size mDp ?_
   intro v124 w5_ ho4 hb hg_ hnew_
   have n0_:=am ((hg_.block g1 (qN B1.out) mDp).trans B1.out)
   have n2_:=am ho4
   clear B1 L1 ho4 hg_ hnew_
   have B1:=n0_
   have L1:=am hb
   have RL:=n2_
   clear hb n0_ n2_
   refine hK.out _ _ B1.out (fun hHeld=>?_)
   clear hK K
   refine zJ (a':=?_) ?_ ?_
   rotate_left
   ·show Act.put _ (some 124) _=_
    exact mAe
   refine jC (i:=3) (N:=some 116) #[true,true,true,true,true,true,false,false,true,true,true,true,false,false] rfl rfl (qq HT_.out mDh) mDl (fun K hK=>?_)
   refine qAx (.tmp 113) Tryd.func43 mDh rfl #[.int .u32 x.a] mD2 rfl rfl rfl mCs ?_
   refine(HU.out _).mono ?_
   rintro e w6_ ⟨v116,rfl,ho4,hb⟩
   have HD:=am (qDk RL.out ho4)
   refine⟨_,rfl,?_⟩
   have n0_:=am (qG B1.out hb)
   have n1_:=am (qB L1.out hb)
   have n2_:=am (Kd.R_lower ho4 L1.out.size)
   have m0_:=am (Kd.R_below RL.out hb)
   clear B1 L1 ho4 hb RL
   have B1:=n0_
   have L1:=n1_
   have RA:=n2_
   have RL:=m0_
   clear n0_ n1_ n2_ m0_
   refine hK.out _ _ B1.out (fun hHeld=>?_)
   clear hK K
   refine zJ (a':=?_) ?_ ?_
   rotate_left
   ·show Act.put _ (some 116) _=_
    exact mAe
   refine jC (i:=6) (N:=some 119) #[true,true,true,true,true,true,true,false,true,true,true,true,false,false] rfl rfl (qq HT_.out mDh) mDl (fun K hK=>?_)
   refine yD Tryd.func41 mDh rfl #[.int .u64 x.n] mD2 rfl rfl mCs ?_
   refine(HU2.out _).mono ?_
   rintro e w7_ ⟨v119,rfl,ho4,hb⟩
   refine⟨_,rfl,?_⟩
   have n0_:=am (qG B1.out hb)
   have n1_:=am (qB L1.out hb)
   have n2_:=am (Kd.R_lower ho4 L1.out.size)
   have m0_:=am (Kd.R_below RL.out hb)
   have m1_:=am (Kd.R_below RA.out hb)
   clear B1 L1 ho4 hb RL RA
   have B1:=n0_
   have L1:=n1_
   have RB:=n2_
   have RL:=m0_
   have RA:=m1_
   exact mB1
 rintro⟨v116,v119,v120,v124⟩ w9 ⟨hv,hl,hb,hg⟩
 refine zJ (a':=?_) ?_ ?_
 rotate_left
 ·exact mB0
 clear L1 B1
 obtain⟨A20,c20,rfl⟩:=Kd.R_slice hv
 obtain⟨A24,c24,rfl⟩:=Kd.R_slice hl
 have RV:=am hv
 have RN:=am hl
 have L1:=am hb
 have B1:=am hg
 clear hv hl hb hg
 refine jC (i:=12) (N:=some 125) #[true,true,true,true,true,true,true,true,true,true,true,true,true,false] rfl rfl (qq HT_.out mDh) mDl (fun K hK=>?_)
 refine Kd.R_append_rows_step (Kd.int .u8) (w0:=w) w.heap.size mD2 (.tmp 120) (.tmp 124) 24 5 (.int .u8 0) 1 rfl Tryd.underlying24 jM rfl mDl mDl (.slice A20 (r++r2b).length c20) (r++r2b) ([x.b % 256]:List Int) A24 1 c24 (fun _=>True) (fun _=>False) rfl rfl RV.out (Kd.R_reads' RN.out).2.2 (fun _ _ h=>h) (fun _ h=>h.elim) (fun _ _=>trivial) L1.out L1.out.size (by have h8:=HR_.out.1;have h9:=HR_.out.2;rw[List.length_append];omega) ?_
 intro v125 w10 ho4 hb hg hat
 have n0_:=am ho4
 have n1_:=am hb
 have n3_:=am (jz (d':=Kd.int .u8) hg (show 43≠5 by decide) B1.out RV.out)
 clear RV RN L1 B1 ho4 hb hg hat
 have RV:=n0_
 have L1:=n1_
 have B1:=n3_
 clear n0_ n1_ n3_
 refine hK.out _ _ B1.out (fun hHeld=>?_)
 clear hK K
 refine zJ (a':=?_) ?_ ?_
 rotate_left
 ·show Act.put _ (some 125) _=_
  exact mAe
 refine qY (i:=13) (N:=some 2) (v:=?_) (a':=?_) #[true,true,true,true,true,true,true,true,true,true,true,true,true,true] rfl rfl (qS HT_.out mDh) (fun _ _ _ h=>h) (Or.inl ⟨mD2,?_⟩) ?_ ?_
 rotate_left
 ·intro w'
  go_simp
  with_reducible rfl
 rotate_left
 ·exact mAe
 refine xI (zu HT_.out mDh) ?_
 try go_wp2
 go_ret
 exact⟨_,rfl,RV.out,L1.out⟩
def xz (K:Nat):List Int→List Int→Option (List Int)
 | b,[]=>some b
 | b,a::l=>(qX.f K (IntKind.u64.wrap a)).bind fun q=>if b.length<1000000000000∧q.length<1000000 then xz K (b++q) l else none
set_option maxRecDepth 100000 in
theorem qJw (K:Nat)(x:I)(bs r:List Int)(w:World){Al At:Option Addr}{cl ct:Nat}(vb ve:Value){r1 im:Int}{r2:ByteArray}{r4 r5:List Int}{r6 r8:Int}{r7:Bool}(hT:YtobldeamemmokaaDoorTabs.Tab w)(him:im=3)(ho:qW.f K x.op=some (r1,r2,im,r4,r5,r6,r7,r8))(h16:x.v.length=16)(hu:qX.f K (IntKind.u64.wrap (IntKind.u32.wrap ((x.l.length:Int) - 1)))=some r)(h:xz K r x.l=some bs)
 (h1:L2 w x Al cl)(h2:T2 w x At ct):
 jB x Al At cl ct vb ve w bs:=by
 unfold jB
 obtain⟨cx,hcx⟩:=ex_ (qH x (.slice Al x.l.length cl) (.slice At x.t.length ct) vb ve)
 have X:=qa x h16 (.slice Al x.l.length cl) (.slice At x.t.length ct) vb ve
 rw[← hcx] at X ⊢
 have HX:=am X
 have HTB:=am hT
 have HO:=am ho
 have HU:=am (fun(W:World)=>jY K _ r W hu)
 have H:=am h
 have HC:=am h1
 have hmx:x.l.length≤9223372036854775807:=Kd.C_max h1.2
 clear hu h h1 h2
 clear X hT ho hcx
 have t1:=tst 1 him;have t2:=tst 2 him;have t4:=tst 4 him;have t6:=tst 6 him;have t7:=tst 7 him;have t8:=tst 8 him;have t10:=tst 10 him;have t12:=tst 12 him;have t13:=tst 13 him;have t5:=tst 5 him;have t9:=tst 9 him;have t11:=tst 11 him;have t3:=tst 3 him;have t14:=tst 14 him;have t15:=tst 15 him;have t16:=tst 16 him;have t17:=tst 17 him;have t18:=tst 18 him;have t19:=tst 19 him;have t24:=tst 24 him;have t20:=tst 20 him;have t22:=tst 22 him;have t21:=tst 21 him;have t23:=tst 23 him;have t25:=tst 25 him;have t26:=tst 26 him;clear him
 go_enter Tryd.func29,Tryd.ntmps29
 go_wp2_with (first
  | ((with_reducible refine qE (N:=1) rfl ?_);refine jP rfl _ rfl cx rfl ?_;intro g1 hg1 w1 hb hbl;have B1:=am hb;have L1:=am (qB mCl hbl);have G1:=am (qN hb);have z0:w1.cell? ⟨g1,0,none⟩=some (.int .u16 x.op):=(qA hb 0).trans mDn;clear hg1 hb hbl)
  | (go_at_call 42;refine(qW.calls K x.op r1 r2 im r4 r5 r6 r7 r8 _ (HTB.out.below mCi) HO.out).mono ?_;rintro e w2 ⟨v3,v4,rfl,h3,h4,hb⟩;obtain⟨A3,c3,rfl⟩:=Kd.R_slice h3;obtain⟨A4,c4,rfl⟩:=Kd.R_slice h4;have n0_:=am (qG B1.out hb);have n1_:=am (qB L1.out hb);have n2_:=am (qN n0_.out);clear B1 L1 G1 h3 h4 hb;have B1:=n0_;have L1:=n1_;have G1:=n2_;clear n0_ n1_ n2_)
  | ((with_reducible refine qE (N:=3) rfl ?_);refine qd rfl 79 rfl _ zh ?_;intro g3 hg3 w3 hb hbl;have n0_:=am (qG B1.out hbl);have n1_:=am (qB L1.out hbl);have n2_:=am hb;have n3_:=am (mDu:g1≠g3∧w.heap.size≤g3);clear B1 L1 hg3 hb hbl;have B1:=n0_;have L1:=n1_;have B3:=n2_;have N13:=n3_;clear n0_ n1_ n2_ n3_)
  | ((with_reducible refine qF (t:=79) (p:=3) (v:=.tmp 16) rfl ?_);refine qV rfl 79 (.tmp 3) (.tmp 16) rfl g3 #[.int .u16 r1,.string r2,.int .u8 im,.slice A3 r4.length c3,.slice A4 r5.length c4,.int .i64 r6,.bool r7] rfl rfl 79 _ B3.out zK rfl (xG _ _ _ _ _ _ _ _ _ _ _) ?_;intro w4 hb hoth hsz hbel;have n0_:=am ((hoth _ N13.out.1).trans B1.out);have n1_:=am (hbel _ _ N13.out.2 L1.out);have n2_:=am hb;have c32:w4.cell? ⟨g3,2,none⟩=some (.int .u8 im):=(qA hb 2).trans rfl;have z0:w4.cell? ⟨g1,0,none⟩=some (.int .u16 x.op):=(qA n0_.out 0).trans mDn;have z1:w4.cell? ⟨g1,1,none⟩=some (.int .u32 x.a):=(qA n0_.out 1).trans mD0;have z2:w4.cell? ⟨g1,2,none⟩=some (.int .u32 x.b):=(qA n0_.out 2).trans mDz;have z3:w4.cell? ⟨g1,3,none⟩=some (.int .u64 x.n):=(qA n0_.out 3).trans mDy;have z20:w4.cell? ⟨g1,20,none⟩=some (.slice Al x.l.length cl):=(qA n0_.out 20).trans mDs;have z21:w4.cell? ⟨g1,21,none⟩=some (.slice At x.t.length ct):=(qA n0_.out 21).trans mDr;have z22:w4.cell? ⟨g1,22,none⟩=some (.int .u8 x.bk):=(qA n0_.out 22).trans mD6;have z23:w4.cell? ⟨g1,23,none⟩=some (.int .u8 x.bv):=(qA n0_.out 23).trans mD4;have z24:w4.cell? ⟨g1,24,none⟩=some (.int .u32 x.bt):=(qA n0_.out 24).trans mD3;clear B1 L1 B3 hb hoth hsz hbel;have B1:=n0_;have L1:=n1_;have B3:=n2_;clear n0_ n1_ n2_)
  | (go_at_call 43;refine(HU.out _).mono ?_;rintro e w5 ⟨v72,rfl,ho4,hb⟩;have RV:=am (Kd.R_lower ho4 (qM mCi));have n1_:=am (qB mCi hb);have n0_:=am (qG mD5 hb);clear B1 L1 ho4 hb;have L1:=n1_;have B1:=n0_;clear n1_ n0_;have z20:w5.cell? ⟨g1,20,none⟩=some (.slice Al x.l.length cl):=(qA B1.out 20).trans mDs))
 go_loopg [6,76] x.l.length (fun kq v6 v76 w'=>∃(i:Nat) (b:List Int),i+kq=x.l.length∧v76 = .int .i64 i∧Aside0 (xz K b (x.l.drop i)=some bs)∧Aside0 ((Kd.int .u8).R 5 w' w.heap.size (fun _=>True) v6 b)∧Aside0 (Below w.heap.size w w'))
 case atStart=>exact⟨0,r,mDj,rfl,⟨by rw[List.drop_zero];exact H.out⟩,RV,L1⟩
 case round =>
  clear RV L1 B1 H
  obtain⟨i,b,hi,rfl,HA,RV,L1⟩:=hrel
  by_cases hlt:i<x.l.length
  ·obtain⟨k1,rfl⟩:∃ k1,gk=k1+1:=⟨gk - 1,mDj⟩
   have d1:decide ((i:Int)<(x.l.length:Int))=true:=decide_eq_true mDj
   obtain⟨ad,rfl,hx⟩:=Kd.at_int HC.out.2 (i:Int) mDj mDj
   rw[Int.toNat_natCast] at hx
   have hx2:wr.cell? (ad.add i)=some (.int .u32 (rd x.l (i:Int))):=(L1.out.cell (World.block_lt_of_cell? w _ hx)).trans hx
   have z1:(0:Int)≤(i:Int):=mDj
   have z2:(i:Int)<(x.l.length:Int):=mDj
   have wi:wrap64 ((i:Int)+1)=((i+1:Nat):Int):=by unfold wrap64;omega
   have ed:x.l.drop i=rd x.l (i:Int)::x.l.drop (i+1):=by rw[List.drop_eq_getElem_cons hlt];congr 1;simp[rd,List.getD_eq_getElem?_getD,List.getElem?_eq_getElem hlt]
   have hA:=HA.out
   rw[ed,xz] at hA
   obtain⟨q,hq,hA⟩:=Option.bind_eq_some_iff.1 hA
   have hb2:b.length<1000000000000∧q.length<1000000:=by
    by_cases h9:b.length<1000000000000∧q.length<1000000
    ·exact h9
    ·rw[if_neg h9] at hA;cases hA
   rw[if_pos hb2] at hA
   have HA2:=am hA
   have HB2:=am hb2
   have HQ:=am (fun(W:World)=>jY K (rd x.l (i:Int)) q W hq)
   clear hx ed hA hq hb2 HA
   go_wp2_with (first
    | (go_at_call 43;refine(HQ.out _).mono ?_;rintro e w6 ⟨v83,rfl,ho4,hb⟩;obtain⟨A_83,c_83,rfl⟩:=Kd.R_slice ho4;have n0_:=am (Kd.R_below RV.out hb);have RL:=am (Kd.R_lower ho4 L1.out.size);have n1_:=am (qB L1.out hb);clear RV L1 ho4 hb;have RV:=n0_;have L1:=n1_;clear n0_ n1_)
    | ((with_reducible refine qZ (b:=.append) (xs:=#[.tmp 80,.tmp 83]) rfl ?_);at_builtin;refine Kd.R_append_rows (Kd.int .u8) (w0:=w) w.heap.size rfl (.tmp 80) (.tmp 83) 24 5 (.int .u8 0) 1 rfl Tryd.underlying24 jM rfl mDl mDl u6 b q A_83 q.length c_83 (fun _=>True) (fun _=>False) rfl rfl RV.out (Kd.R_reads' RL.out).2.2 (fun _ _ h=>h) (fun _ h=>h.elim) (fun _ _=>trivial) L1.out L1.out.size ?aL ?_;(case aL=>have h8:=HB2.out.1;have h9:=HB2.out.2;omega);intro v84 w7 ho4 hb hg hat;have n0_:=am ho4;clear RV RL L1 ho4 hg hat;have RV:=n0_;have L1:=am hb;clear n0_ hb))
   go_roundg k1
   case measure=>omega
   case rel=>exact⟨i+1,b++q,mDj,by first|rfl|exact congrArg (Value.int .i64) wi|(rw[wi]),HA2,RV,L1⟩
  ·have d1:decide ((i:Int)<(x.l.length:Int))=false:=decide_eq_false mDj
   have hA:=HA.out
   rw[List.drop_eq_nil_of_le mDj,xz] at hA
   obtain rfl:=Option.some.inj hA
   clear hA HA
   go_wp2
   go_ret
   exact⟨_,rfl,RV.out,L1.out⟩
set_option maxRecDepth 100000 in
theorem qJH (K:Nat)(x:I)(bs r:List Int)(w:World){Al At:Option Addr}{cl ct:Nat}(vb ve:Value){r1 im:Int}{r2:ByteArray}{r4 r5:List Int}{r6 r8:Int}{r7:Bool}(hT:YtobldeamemmokaaDoorTabs.Tab w)(him:im=26)(ho:qW.f K x.op=some (r1,r2,im,r4,r5,r6,r7,r8))(h16:x.v.length=16)(hu:qX.f K (IntKind.u64.wrap (IntKind.u32.wrap (x.t.length:Int)))=some r)(hr:r.length<1000000∧x.t.length<1000000000000)(h:r++x.t=bs)
 (h1:L2 w x Al cl)(h2:T2 w x At ct):
 jB x Al At cl ct vb ve w bs:=by
 unfold jB
 obtain⟨cx,hcx⟩:=ex_ (qH x (.slice Al x.l.length cl) (.slice At x.t.length ct) vb ve)
 have X:=qa x h16 (.slice Al x.l.length cl) (.slice At x.t.length ct) vb ve
 rw[← hcx] at X ⊢
 have HX:=am X
 have HTB:=am hT
 have HO:=am ho
 have HU:=am (fun(W:World)=>jY K _ r W hu)
 have HR_:=am hr
 have HC:=am h2
 have hmx:x.t.length≤9223372036854775807:=Kd.C_max h2.2
 subst h
 clear hu hr h1 h2
 clear X hT ho hcx
 have t1:=tst 1 him;have t2:=tst 2 him;have t4:=tst 4 him;have t6:=tst 6 him;have t7:=tst 7 him;have t8:=tst 8 him;have t10:=tst 10 him;have t12:=tst 12 him;have t13:=tst 13 him;have t5:=tst 5 him;have t9:=tst 9 him;have t11:=tst 11 him;have t3:=tst 3 him;have t14:=tst 14 him;have t15:=tst 15 him;have t16:=tst 16 him;have t17:=tst 17 him;have t18:=tst 18 him;have t19:=tst 19 him;have t24:=tst 24 him;have t20:=tst 20 him;have t22:=tst 22 him;have t21:=tst 21 him;have t23:=tst 23 him;have t25:=tst 25 him;have t26:=tst 26 him;clear him
 go_enter Tryd.func29,Tryd.ntmps29
 go_wp2_with (first
  | ((with_reducible refine qE (N:=1) rfl ?_);refine jP rfl _ rfl cx rfl ?_;intro g1 hg1 w1 hb hbl;have B1:=am hb;have L1:=am (qB mCl hbl);have G1:=am (qN hb);have z0:w1.cell? ⟨g1,0,none⟩=some (.int .u16 x.op):=(qA hb 0).trans mDn;clear hg1 hb hbl)
  | (go_at_call 42;refine(qW.calls K x.op r1 r2 im r4 r5 r6 r7 r8 _ (HTB.out.below mCi) HO.out).mono ?_;rintro e w2 ⟨v3,v4,rfl,h3,h4,hb⟩;obtain⟨A3,c3,rfl⟩:=Kd.R_slice h3;obtain⟨A4,c4,rfl⟩:=Kd.R_slice h4;have n0_:=am (qG B1.out hb);have n1_:=am (qB L1.out hb);have n2_:=am (qN n0_.out);clear B1 L1 G1 h3 h4 hb;have B1:=n0_;have L1:=n1_;have G1:=n2_;clear n0_ n1_ n2_)
  | ((with_reducible refine qE (N:=3) rfl ?_);refine qd rfl 79 rfl _ zh ?_;intro g3 hg3 w3 hb hbl;have n0_:=am (qG B1.out hbl);have n1_:=am (qB L1.out hbl);have n2_:=am hb;have n3_:=am (mDu:g1≠g3∧w.heap.size≤g3);clear B1 L1 hg3 hb hbl;have B1:=n0_;have L1:=n1_;have B3:=n2_;have N13:=n3_;clear n0_ n1_ n2_ n3_)
  | ((with_reducible refine qF (t:=79) (p:=3) (v:=.tmp 16) rfl ?_);refine qV rfl 79 (.tmp 3) (.tmp 16) rfl g3 #[.int .u16 r1,.string r2,.int .u8 im,.slice A3 r4.length c3,.slice A4 r5.length c4,.int .i64 r6,.bool r7] rfl rfl 79 _ B3.out zK rfl (xG _ _ _ _ _ _ _ _ _ _ _) ?_;intro w4 hb hoth hsz hbel;have n0_:=am ((hoth _ N13.out.1).trans B1.out);have n1_:=am (hbel _ _ N13.out.2 L1.out);have n2_:=am hb;have c32:w4.cell? ⟨g3,2,none⟩=some (.int .u8 im):=(qA hb 2).trans rfl;have z0:w4.cell? ⟨g1,0,none⟩=some (.int .u16 x.op):=(qA n0_.out 0).trans mDn;have z1:w4.cell? ⟨g1,1,none⟩=some (.int .u32 x.a):=(qA n0_.out 1).trans mD0;have z2:w4.cell? ⟨g1,2,none⟩=some (.int .u32 x.b):=(qA n0_.out 2).trans mDz;have z3:w4.cell? ⟨g1,3,none⟩=some (.int .u64 x.n):=(qA n0_.out 3).trans mDy;have z20:w4.cell? ⟨g1,20,none⟩=some (.slice Al x.l.length cl):=(qA n0_.out 20).trans mDs;have z21:w4.cell? ⟨g1,21,none⟩=some (.slice At x.t.length ct):=(qA n0_.out 21).trans mDr;have z22:w4.cell? ⟨g1,22,none⟩=some (.int .u8 x.bk):=(qA n0_.out 22).trans mD6;have z23:w4.cell? ⟨g1,23,none⟩=some (.int .u8 x.bv):=(qA n0_.out 23).trans mD4;have z24:w4.cell? ⟨g1,24,none⟩=some (.int .u32 x.bt):=(qA n0_.out 24).trans mD3;clear B1 L1 B3 hb hoth hsz hbel;have B1:=n0_;have L1:=n1_;have B3:=n2_;clear n0_ n1_ n2_)
  | (go_at_call 43;refine(HU.out _).mono ?_;rintro e w5 ⟨v175,rfl,ho4,hb⟩;have RV:=am (Kd.R_lower ho4 (qM mCi));have n1_:=am (qB mCi hb);have n0_:=am (qG mD5 hb);clear B1 L1 ho4 hb;have L1:=n1_;have B1:=n0_;clear n1_ n0_;have z21:w5.cell? ⟨g1,21,none⟩=some (.slice At x.t.length ct):=(qA B1.out 21).trans mDr))
 go_loopg [9,179] x.t.length (fun kq v9 v179 w'=>∃(i:Nat),i+kq=x.t.length∧v179 = .int .i64 i∧Aside0 ((Kd.int .u8).R 5 w' w.heap.size (fun _=>True) v9 (r++x.t.take i))∧Aside0 (Below w.heap.size w w'))
 case atStart=>exact⟨0,mDj,rfl,by rw[List.take_zero,List.append_nil];exact RV,L1⟩
 case round =>
  clear RV L1 B1
  obtain⟨i,hi,rfl,RV,L1⟩:=hrel
  by_cases hlt:i<x.t.length
  ·obtain⟨k1,rfl⟩:∃ k1,gk=k1+1:=⟨gk - 1,mDj⟩
   have d1:decide ((i:Int)<(x.t.length:Int))=true:=decide_eq_true mDj
   obtain⟨ad,rfl,hx⟩:=Kd.at_int HC.out.2 (i:Int) mDj mDj
   rw[Int.toNat_natCast] at hx
   have hx2:wr.cell? (ad.add i)=some (.int .u8 (rd x.t (i:Int))):=(L1.out.cell (World.block_lt_of_cell? w _ hx)).trans hx
   have z1:(0:Int)≤(i:Int):=mDj
   have z2:(i:Int)<(x.t.length:Int):=mDj
   have wi:wrap64 ((i:Int)+1)=((i+1:Nat):Int):=by unfold wrap64;omega
   have ed:(r++x.t.take i) ++ [rd x.t (i:Int)]=r++x.t.take (i+1):=by rw[List.take_succ_eq_append_getElem hlt,List.append_assoc];congr 2;simp[rd,List.getD_eq_getElem?_getD,List.getElem?_eq_getElem hlt]
   have HED:=am ed
   clear hx ed
   go_wp2_with (first
    | ((with_reducible refine qE (N:=185) rfl ?_);refine Kd.R_lit (Kd.int .u8) (w0:=w) w.heap.size 5 ?hgq185 (N:=185) ?hdq185 (xs:=([rd x.t (i:Int)]:List Int)) (inner:=[.int .u8 (rd x.t (i:Int))]) (ok:=fun _=>True) (okp:=fun _=>True) ?hrq185 ?hpq185 (fun _ hk=>hk) trivial ?hbq185 ?hsq185 mDp ?_;(case hdq185=>rfl);(case hgq185=>rfl);(case hbq185=>repeat (first|exact L1.out|apply qJ|apply qP));(case hsq185=>exact qM mCi);(case hrq185=>first|(go_simp;done)|(go_simp;rfl));(case hpq185=>exact(Reps.one (show Kd.M (Kd.int .u8) _ _ _ (rd x.t (i:Int)) [.int .u8 (rd x.t (i:Int))] from rfl) (Reps.none _ _)));intro v185 w6 ho4 hb hg_ hnew_;obtain⟨Al_,cl_,rfl⟩:=Kd.R_slice ho4;have n2_:=am (yt RV.out hg_);clear RV;have RV:=n2_;clear n2_;have RL:=am ho4;clear L1 ho4 hg_ hnew_;have L1:=am hb;clear hb)
    | ((with_reducible refine qZ (b:=.append) (xs:=#[.tmp 183,.tmp 185]) rfl ?_);at_builtin;refine Kd.R_append_rows (Kd.int .u8) (w0:=w) w.heap.size rfl (.tmp 183) (.tmp 185) 24 5 (.int .u8 0) 1 rfl Tryd.underlying24 jM rfl mDl mDl u9 (r++x.t.take i) [rd x.t (i:Int)] Al_ 1 cl_ (fun _=>True) (fun _=>False) rfl rfl RV.out (Kd.R_reads' RL.out).2.2 (fun _ _ h=>h) (fun _ h=>h.elim) (fun _ _=>trivial) L1.out L1.out.size ?aL ?_;(case aL=>have h8:=HR_.out.1;have h9:=HR_.out.2;rw[List.length_append,List.length_take];omega);intro v186 w7 ho4 hb hg hat;have n0_:=am ho4;clear RV RL L1 ho4 hg hat;have RV:=n0_;have L1:=am hb;clear n0_ hb))
   rw[HED.out] at RV
   go_roundg k1
   case measure=>omega
   case rel=>exact⟨i+1,mDj,by first|rfl|exact congrArg (Value.int .i64) wi|(rw[wi]),RV,L1⟩
  ·have d1:decide ((i:Int)<(x.t.length:Int))=false:=decide_eq_false mDj
   rw[List.take_of_length_le mDj] at RV
   go_wp2
   go_ret
   exact⟨_,rfl,RV.out,L1.out⟩
def yd (K:Nat)(im:Int)(x:I):Option (List Int):=
 if im=1 then (if x.bk=0 then some [64] else if x.bk=1 then some [x.bv] else qu.f K (wrap64 x.bt))
 else if im=2∨im=4∨im=6∨im=7∨im=8∨im=10∨im=12 then qX.f K (IntKind.u64.wrap x.a)
 else if im=13 then (qX.f K (IntKind.u64.wrap x.a)).bind fun r=>if r.length<1000000 then some (r ++ [0]) else none
 else if im=5∨im=9∨im=11 then (qX.f K (IntKind.u64.wrap x.a)).bind fun r=>(qX.f K (IntKind.u64.wrap x.b)).bind fun q=>if r.length<1000000∧q.length<1000000 then some (r++q) else none
 else if im=3 then (qX.f K (IntKind.u64.wrap (IntKind.u32.wrap ((x.l.length:Int) - 1)))).bind fun r=>xz K r x.l
 else if im=14 then some [0]
 else if im=15 then some [0,0]
 else if im=16 then (qX.f K (IntKind.u64.wrap x.a)).bind fun r=>(qX.f K x.n).bind fun q=>if r.length<1000000∧q.length<1000000 then some (r++q) else none
 else if im=17 then (qX.f K (IntKind.u64.wrap x.a)).bind fun r=>(qX.f K x.n).bind fun q=>if r.length<1000000∧q.length<1000000 then some ((r++q) ++ [x.b % 256]) else none
 else if im=18 then some [x.b % 256]
 else if im=19∨im=24 then some x.v
 else if im=20 then qu.f K (wrap64 (wrap32 x.n))
 else if im=21 then qu.f K (wrap64 x.n)
 else if im=22 then zD.f K x.n 4
 else if im=23 then zD.f K x.n 8
 else if im=25 then (if 0<x.t.length then some [rd x.t 0] else none)
 else if im=26 then (qX.f K (IntKind.u64.wrap (IntKind.u32.wrap (x.t.length:Int)))).bind fun r=>if r.length<1000000∧x.t.length<1000000000000 then some (r++x.t) else none
 else some []
def qAh (K:Nat)(x:I):Option (List Int):=(qW.f K x.op).bind fun q=>yd K q.2.2.1 x
theorem qEq (K:Nat)(x:I)(bs:List Int)(w:World){Al At:Option Addr}{cl ct:Nat}(vb ve:Value)(hT:YtobldeamemmokaaDoorTabs.Tab w)(h:qAh K x=some bs)(h16:x.v.length=16)
 (h1:L2 w x Al cl)(h2:T2 w x At ct):
 jB x Al At cl ct vb ve w bs:=by
 unfold jB
 obtain⟨⟨r1,r2,im,r4,r5,r6,r7,r8⟩,ho,h⟩:=Option.bind_eq_some_iff.1 h
 simp only at h
 by_cases c1:im=1
 ·by_cases b0:x.bk=0
  ·refine qC1 K x bs w _ _ vb ve hT ?_ h16
   rw[yd,if_pos c1,if_pos b0] at h
   rw[qI4,ho,Option.bind_some]
   simp only
   rw[if_pos ⟨c1,b0⟩]
   exact h
  ·rw[yd,if_pos c1,if_neg b0] at h
   by_cases b1:x.bk=1
   ·rw[if_pos b1] at h
    exact qIx K x bs w vb ve hT c1 ho h16 b1 h h1 h2
   ·rw[if_neg b1] at h
    exact qIU K x bs w vb ve hT c1 ho h16 b0 b1 h h1 h2
 rw[yd,if_neg c1] at h
 by_cases c_U:im=2∨im=4∨im=6∨im=7∨im=8∨im=10∨im=12
 ·rw[if_pos c_U] at h
  exact qJe K x bs w vb ve hT c_U ho h16 h h1 h2
 rw[if_neg c_U] at h
 by_cases c_DM:im=13
 ·rw[if_pos c_DM] at h
  obtain⟨r,hr,h⟩:=Option.bind_eq_some_iff.1 h
  by_cases hl:r.length<1000000
  ·rw[if_pos hl] at h
   exact qH9 K x bs r w vb ve hT c_DM ho h16 hr hl (Option.some.inj h) h1 h2
  ·rw[if_neg hl] at h
   cases h
 rw[if_neg c_DM] at h
 by_cases c_UU:im=5∨im=9∨im=11
 ·rw[if_pos c_UU] at h
  obtain⟨r,hr,h⟩:=Option.bind_eq_some_iff.1 h
  obtain⟨q,hq,h⟩:=Option.bind_eq_some_iff.1 h
  by_cases hl:r.length<1000000∧q.length<1000000
  ·rw[if_pos hl] at h
   exact qIY K x bs r q w vb ve hT c_UU ho h16 hr hq hl (Option.some.inj h)
  ·rw[if_neg hl] at h
   cases h
 rw[if_neg c_UU] at h
 by_cases c_L:im=3
 ·rw[if_pos c_L] at h
  obtain⟨r,hr,h⟩:=Option.bind_eq_some_iff.1 h
  exact qJw K x bs r w vb ve hT c_L ho h16 hr h h1 h2
 rw[if_neg c_L] at h
 by_cases c_Z1:im=14
 ·rw[if_pos c_Z1] at h
  exact qIL K x bs w vb ve hT c_Z1 ho h16 h h1 h2
 rw[if_neg c_Z1] at h
 by_cases c_Z2:im=15
 ·rw[if_pos c_Z2] at h
  exact qH4 K x bs w vb ve hT c_Z2 ho h16 h h1 h2
 rw[if_neg c_Z2] at h
 by_cases c_P:im=16
 ·rw[if_pos c_P] at h
  obtain⟨r,hr,h⟩:=Option.bind_eq_some_iff.1 h
  obtain⟨q,hq,h⟩:=Option.bind_eq_some_iff.1 h
  by_cases hl:r.length<1000000∧q.length<1000000
  ·rw[if_pos hl] at h
   exact qJA K x bs r q w vb ve hT c_P ho h16 hr hq hl (Option.some.inj h)
  ·rw[if_neg hl] at h
   cases h
 rw[if_neg c_P] at h
 by_cases c_PL:im=17
 ·rw[if_pos c_PL] at h
  obtain⟨r,hr,h⟩:=Option.bind_eq_some_iff.1 h
  obtain⟨q,hq,h⟩:=Option.bind_eq_some_iff.1 h
  by_cases hl:r.length<1000000∧q.length<1000000
  ·rw[if_pos hl] at h
   exact qID K x bs r q w vb ve hT c_PL ho h16 hr hq hl (Option.some.inj h)
  ·rw[if_neg hl] at h
   cases h
 rw[if_neg c_PL] at h
 by_cases c_B:im=18
 ·rw[if_pos c_B] at h
  exact qJB K x bs w vb ve hT c_B ho h16 h h1 h2
 rw[if_neg c_B] at h
 by_cases c_V:im=19∨im=24
 ·rw[if_pos c_V] at h
  exact qJF K x bs w vb ve hT c_V ho h16 h h1 h2
 rw[if_neg c_V] at h
 by_cases c_I32:im=20
 ·rw[if_pos c_I32] at h
  exact qHz K x bs w vb ve hT c_I32 ho h16 h h1 h2
 rw[if_neg c_I32] at h
 by_cases c_I64:im=21
 ·rw[if_pos c_I64] at h
  exact qHK K x bs w vb ve hT c_I64 ho h16 h h1 h2
 rw[if_neg c_I64] at h
 by_cases c_F32:im=22
 ·rw[if_pos c_F32] at h
  exact qHq K x bs w vb ve hT c_F32 ho h16 h h1 h2
 rw[if_neg c_F32] at h
 by_cases c_F64:im=23
 ·rw[if_pos c_F64] at h
  exact qHl K x bs w vb ve hT c_F64 ho h16 h h1 h2
 rw[if_neg c_F64] at h
 by_cases c_R:im=25
 ·rw[if_pos c_R] at h
  by_cases hl:0<x.t.length
  ·rw[if_pos hl] at h
   exact qJp K x bs w vb ve hT c_R ho h16 hl h h1 h2
  ·rw[if_neg hl] at h
   cases h
 rw[if_neg c_R] at h
 by_cases c_T:im=26
 ·rw[if_pos c_T] at h
  obtain⟨r,hr,h⟩:=Option.bind_eq_some_iff.1 h
  by_cases hl:r.length<1000000∧x.t.length<1000000000000
  ·rw[if_pos hl] at h
   exact qJH K x bs r w vb ve hT c_T ho h16 hr hl (Option.some.inj h) h1 h2
  ·rw[if_neg hl] at h
   cases h
 rw[if_neg c_T] at h
 refine qJx K x bs w vb ve hT ?_ ho h16 h h1 h2
 intro k hk
 simp only[List.mem_cons,List.not_mem_nil,or_false] at hk
 rcases hk with rfl|rfl|rfl|rfl|rfl|rfl|rfl|rfl|rfl|rfl|rfl|rfl|rfl|rfl|rfl|rfl|rfl|rfl|rfl|rfl|rfl|rfl|rfl|rfl|rfl|rfl <;> omega
def y7 (K:Nat):Nat→List Pr→List Int→Option (List Int)
 | 0,_,_=>none
 | k+1,[],b=>some b
 | k+1,p::rs,b=>if b.length<1000000000000 then (if rs.length<1000000000000 then (if 0<p.a.length then (jE.f K (p.a.getD 0 zI).op).bind fun n=>(qAh K (p.a.getD 0 zI)).bind fun h=>(if n.length+h.length<1000000000000 then
   y7 K k ((if qw (p.a.getD 0 zI).op=true then [⟨(p.a.getD 0 zI).body,(p.a.getD 0 zI).els⟩] else [])++⟨p.a.drop 1,p.b⟩::rs) ((b++n)++h) else none)
   else if 0<p.b.length then y7 K k (⟨p.b,[]⟩::rs) (b ++ [5]) else y7 K k rs (b ++ [11])) else none) else none
def jp.T12:Bool × List (List Nat × List Nat):=(true,[([],[]),([],[]),([1],[1]),([2],[2]),([0,3,3],[0,3]),([],[]),([5,4],[5]),([4,6,6],[4,6]),([7,7,0,1,2,3,4,5,6,7],[0,7])])
def jp.B12:List Nat:=[0,0,2,6,15,0,63,127,255]
theorem jp.tab12:jO .any (xL Tryd.f10 12)=jp.T12:=mDh
theorem jp.bits12:zc jp.T12.2 jp.B12=true:=mDh
set_option maxRecDepth 100000 in
theorem qBJ (K0 k:Nat)(A:Option Addr)(c:Nat)(l:List I)(bs:List Int)(w:World)(hT:YtobldeamemmokaaDoorTabs.Tab w)(hc:l.length≤c)(hl:kI.C w A l.length l)
 (hM:∀ W,Below w.heap.size w W→Calls Tryd.prog 19 #[.slice A l.length c] W fun e w'=>e = .returned (.bool true)∧Below W.heap.size W w')(h:y7 K0 k [⟨l,[]⟩] []=some bs):
 Calls Tryd.prog 10 #[.slice A l.length c] w fun e w'=>∃ v,e = .returned (.tuple #[v,.int .i64 0])∧(Kd.int .u8).R 5 w' w.heap.size (fun _=>True) v bs∧Below w.heap.size w w':=by
 have HL:=am hl
 have HC:=am hc
 have HT:=am hT
 have HM:=am hM
 have H':=am h
 clear hl hc hT hM h
 go_enter Tryd.func10,Tryd.ntmps10
 go_wp2_with (first
  | (go_at_call 19;refine(HM.out _ mCl).mono ?_;rintro e w1 ⟨rfl,hb⟩;have HB0:=am (show Below w.heap.size w w1 from qB mCl hb);clear hb)
  | ((with_reducible refine qE (N:=13) rfl ?_);refine Kd.R_lit (kPr w) w.heap.size 58 ?hg (N:=13) ?hd (xs:=[(⟨l,[]⟩:Pr)]) (inner:=[.slice A l.length c,.slice none 0 0]) (ok:=fun _=>True) (okp:=fun _=>True) ?hr ?hp (fun _ hk=>hk) trivial HB0.out HB0.out.size mDp ?_;(case hd=>rfl);(case hg=>rfl);(case hr=>first|(go_simp;done)|(go_simp;rfl));(case hp=>exact Reps.c2 (yT w _ _ _ ⟨l,[]⟩ HC.out HL.out (Nat.le_refl _) (Kd.C_nil _ _)) (Reps.none _ _));intro v13 w2 ho hb hg_ hnew_;clear hg_ hnew_;have HO:=am ho;have n1_:=am hb;clear HB0;have HB0:=n1_;clear n1_ ho hb))
 go_loopg [4,5] k (fun kq v4 v5 w'=>∃(rs:List Pr) (b:List Int),Aside0 (y7 K0 kq rs b=some bs)∧Aside0 ((Kd.int .u8).R 5 w' w.heap.size (fun _=>True) v4 b)∧Aside0 ((kPr w).R 58 w' w.heap.size (fun _=>True) v5 rs.reverse)∧Aside0 (Below w.heap.size w w')∧Aside0 (kq≤k))
 case atStart=>exact⟨[⟨l,[]⟩],[],H',⟨Kd.R_nil _ _ _ _ _⟩,HO,HB0,⟨Nat.le_refl _⟩⟩
 case round =>
  clear H' HO HB0 HM
  obtain⟨rs,b,HA,HV,HR,HB0,HK1⟩:=hrel
  cases gk with
  | zero=>exact absurd HA.out (by simp[y7])
  | succ k1 =>
    cases rs with
    | nil =>
      have HR':=HR.out
      obtain⟨A5,c5,rfl⟩:=Kd.R_slice HR'
      obtain rfl:b=bs:=Option.some.inj HA.out
      clear HR' HA
      go_wp2
      go_ret2
      exact⟨_,rfl,ky_ HV.out,by repeat (first|exact HB0.out|apply qJ|apply qP)⟩
    | cons p rs =>
      have HR':=HR.out
      rw[List.reverse_cons] at HR'
      have hlen:(rs.reverse ++ [p]).length=rs.length+1:=mDp
      obtain⟨g,cap,rfl,hbg,hlt,hty⟩:=Kd.R_form HR' mDj
      rw[hlen] at HR' ⊢
      obtain⟨n,hn⟩:=ex_ (rs.length)
      rw[← hn] at HR' ⊢
      obtain⟨cs,hcl,hM,hcc,hff⟩:=Kd.R_elem HR' zPr (n:Int) mDj mDj
      have hgp:(rs.reverse ++ [p]).getD ((n:Int)).toNat zPr=p:=by rw[Int.toNat_natCast,List.getD_eq_getElem?_getD,List.getElem?_append_right (by simp[hn]),List.length_reverse,hn];simp
      rw[hgp] at hM
      obtain⟨Ap,cp,Bp,dp,rfl,hlp,hcp,hlp',hcp'⟩:=qCq hM
      have hn2:n<9223372036854775807:=by have:=Kd.C_max (Kd.R_reads' HR').2.2;have:=(Kd.R_reads' HR').1;omega
      have q0:wr.cell? ⟨g,n*2,none⟩=some (.slice Ap p.a.length cp):=hcc 0 _ rfl
      have q1:wr.cell? ⟨g,n*2+1,none⟩=some (.slice Bp p.b.length dp):=hcc 1 _ rfl
      have f0:wr.frozen? ⟨g,n*2,none⟩=false:=hff 0
      have f1:wr.frozen? ⟨g,n*2+1,none⟩=false:=hff 1
      have hcap:n+1≤cap:=(Kd.R_reads' HR').2.1
      have hcap2:n≤cap:=mDj
      obtain⟨scells,hscells⟩:=hty
      have HTY:=am hscells
      have HHR:=am HR'
      have HHN:=am hn
      have HCP:=am (And.intro hlp hcp)
      have HCP':=am (And.intro hlp' hcp')
      have SQ:=am (And.intro ((qA hscells (n*2)).symm.trans q0) ((qA hscells (n*2+1)).symm.trans q1))
      have HBG:=am hbg
      clear HR' hcc hcl hM hff hlp hcp hlp' hcp' hn hgp hlen hbg hlt HR hscells
      have d0:decide (0<(n:Int)+1)=true:=decide_eq_true mDj
      have hA:=HA.out
      rw[y7] at hA
      have hb1:b.length<1000000000000:=by
       by_cases h:b.length<1000000000000
       ·exact h
       ·rw[if_neg h] at hA;cases hA
      rw[if_pos hb1] at hA
      have hr1:rs.length<1000000000000:=by
       by_cases h:rs.length<1000000000000
       ·exact h
       ·rw[if_neg h] at hA;cases hA
      rw[if_pos hr1] at hA
      have HBL:=am hb1
      have HRL:=am hr1
      clear hb1 hr1 HA
      by_cases ha:0<p.a.length
      rotate_left
      ·rw[if_neg ha] at hA
       have e1:decide (0<(p.a.length:Int))=false:=decide_eq_false mDj
       have ha0:p.a = []:=List.eq_nil_of_length_eq_zero mDj
       by_cases hb:0<p.b.length
       ·rw[if_pos hb] at hA
        have e2:decide (0<(p.b.length:Int))=true:=decide_eq_true mDj
        have HHA:=am hA
        clear hA
        go_wp2_with (first
         | ((with_reducible refine qZ (b:=.append) (xs:=#[.tmp 77,.tmp 78]) rfl ?_);at_builtin;refine Kd.R_append (Kd.int .u8) (w0:=w) w.heap.size rfl (.tmp 77) (.tmp 78) 24 5 (.int .u8 0) 1 rfl Tryd.underlying24 jM rfl mDl mDj u4 b 5 [.int .u8 5] (fun _=>True) (fun _=>False) rfl rfl ?aP (fun _ hk=>hk.elim) ?aF ?aO ?aB ?aS ?aL ?_;(case aP=>exact rfl);(case aB=>exact mC3);(case aF=>exact(fun _ _=>trivial));(case aO=>exact(ky_ HV.out));(case aS=>exact(qM mC3));(case aL=>have:=HBL.out;omega);intro v_ w7 ho hb hg hat;have n0_:=am (qAF (d:=kPr w) (d':=Kd.int .u8) (base:=w.heap.size) (xs:=rs.reverse ++ [p]) (v:=.slice (some ⟨g,0,none⟩) (n+1) cap) hg rfl (show 58≠5 by decide) (ky_ HHR.out) (ky_ HV.out));have n1_:=am ho;have n2_:=am hb;have n3_:=am (jz (d':=Kd.int .u8) (g:=g) (cs:=scells) hg (show 58≠5 by decide) mDd (ky_ HV.out));clear HHR HV HB0 HTY ho hb hg hat;have HHR:=n0_;have HV:=n1_;have HB0:=n2_;have HTY:=n3_;clear n0_ n1_ n2_ n3_;have q0:w7.cell? ⟨g,n*2,none⟩=some (.slice Ap p.a.length cp):=(qA HTY.out _).trans SQ.out.1;have q1:w7.cell? ⟨g,n*2+1,none⟩=some (.slice Bp p.b.length dp):=(qA HTY.out _).trans SQ.out.2;have f0:=qD HTY.out (n*2);have f1:=qD HTY.out (n*2+1)))
        go_roundg k1
        case measure=>have:=HK1.out;omega
        case rel=>exact⟨⟨p.b,[]⟩::rs,b ++ [5],HHA,⟨qGF rfl (show 5≠58 by decide) (qGF rfl (show 5≠58 by decide) HV.out HTY.out) (xO HTY.out _ _)⟩,⟨by rw[List.reverse_cons];exact qE6 HHR.out (by rw[HHN.out,List.length_reverse]) HTY.out q0 q1 HCP'.out⟩,⟨(HB0.out.setCell HBG.out _).setCell HBG.out _⟩,⟨by have:=HK1.out;omega⟩⟩
       ·rw[if_neg hb] at hA
        have e2:decide (0<(p.b.length:Int))=false:=decide_eq_false mDj
        have HHA:=am hA
        clear hA
        go_wp2_with (first
         | ((with_reducible refine qZ (b:=.append) (xs:=#[.tmp 22,.tmp 23]) rfl ?_);at_builtin;refine Kd.R_append (Kd.int .u8) (w0:=w) w.heap.size rfl (.tmp 22) (.tmp 23) 24 5 (.int .u8 0) 1 rfl Tryd.underlying24 jM rfl mDl mDj u4 b 11 [.int .u8 11] (fun _=>True) (fun _=>False) rfl rfl ?aP (fun _ hk=>hk.elim) ?aF ?aO ?aB ?aS ?aL ?_;(case aP=>exact rfl);(case aB=>exact mC3);(case aF=>exact(fun _ _=>trivial));(case aO=>exact(ky_ HV.out));(case aS=>exact(qM mC3));(case aL=>have:=HBL.out;omega);intro v_ w7 ho hb hg hat;have n0_:=am (qAF (d:=kPr w) (d':=Kd.int .u8) (base:=w.heap.size) (xs:=rs.reverse ++ [p]) (v:=.slice (some ⟨g,0,none⟩) (n+1) cap) hg rfl (show 58≠5 by decide) (ky_ HHR.out) (ky_ HV.out));have n1_:=am ho;have n2_:=am hb;have n3_:=am (jz (d':=Kd.int .u8) (g:=g) (cs:=scells) hg (show 58≠5 by decide) mDd (ky_ HV.out));clear HHR HV HB0 HTY ho hb hg hat;have HHR:=n0_;have HV:=n1_;have HB0:=n2_;have HTY:=n3_;clear n0_ n1_ n2_ n3_;have q0:w7.cell? ⟨g,n*2,none⟩=some (.slice Ap p.a.length cp):=(qA HTY.out _).trans SQ.out.1;have q1:w7.cell? ⟨g,n*2+1,none⟩=some (.slice Bp p.b.length dp):=(qA HTY.out _).trans SQ.out.2;have f0:=qD HTY.out (n*2);have f1:=qD HTY.out (n*2+1)))
        go_roundg k1
        case measure=>have:=HK1.out;omega
        case rel =>
         have h2:=Kd.R_take (m:=n) HHR.out (by rw[List.length_append,List.length_reverse,← HHN.out];omega)
         have e3:(rs.reverse ++ [p]).take n=rs.reverse:=by rw[HHN.out,← List.length_reverse,List.take_left]
         rw[e3] at h2
         exact⟨rs,b ++ [11],HHA,HV,⟨h2⟩,HB0,⟨by have:=HK1.out;omega⟩⟩
      ·rw[if_pos ha] at hA
       have e1:decide (0<(p.a.length:Int))=true:=decide_eq_true mDj
       obtain⟨xb,xo,Axl,cxl,Axt,cxt,Axb,cxb,Axe,cxe,rfl,rx,x16,xl,xt,xbd,xe⟩:=qJV HCP.out.2 ha
       obtain⟨x,hx⟩:=ey_ (p.a.getD 0 zI)
       rw[hx] at rx x16 xl xt xbd xe hA
       obtain⟨nb,hnb,hA⟩:=Option.bind_eq_some_iff.1 hA
       obtain⟨hh,hhh,hA⟩:=Option.bind_eq_some_iff.1 hA
       have hsz:nb.length+hh.length<1000000000000:=by
        by_cases h:nb.length+hh.length<1000000000000
        ·exact h
        ·rw[if_neg h] at hA;cases hA
       rw[if_pos hsz] at hA
       have HHA:=am hA
       have HSZ:=am hsz
       have HNB:=am hnb
       have HHH:=am hhh
       have H16:=am x16
       have HXB:=am xbd
       have HXE:=am xe
       obtain⟨cx,hcx⟩:=ex_ (qH x (.slice Axl x.l.length cxl) (.slice Axt x.t.length cxt) (.slice Axb x.body.length cxb) (.slice Axe x.els.length cxe))
       have HBH:=am (fun(W:World) (hW:Below w.heap.size w W)=>qEq K0 x hh W (.slice Axb x.body.length cxb) (.slice Axe x.els.length cxe) (HT.out.below hW) hhh x16 ⟨xl.1,Kd.C_below xl.2 hW⟩ ⟨xt.1,Kd.C_below xt.2 hW⟩)
       have X:=qa x x16 (.slice Axl x.l.length cxl) (.slice Axt x.t.length cxt) (.slice Axb x.body.length cxb) (.slice Axe x.els.length cxe)
       have XL:=qL x x16 (.slice Axl x.l.length cxl) (.slice Axt x.t.length cxt) (.slice Axb x.body.length cxb) (.slice Axe x.els.length cxe)
       have XO:cx.toArray.all (·.oneCell')=true:=by rw[hcx];exact all_oneCell_toArray (kI.K_one (w:=w) (x:=x) (yk w x x16 xl xt xbd xe))
       unfold jB at HBH;rw[← hcx] at rx HBH X XL
       have rx':w.rangeAt xb xo cx:=by simpa using rx
       have HX:=am X
       have HXL:=am XL
       have HXO:=am XO
       have RX:=am (fun(W:World) (hW:Below w.heap.size w W)=>(fun j u hj=>(hW.cell (World.block_lt_of_cell? w _ (rx' j u hj))).trans (rx' j u hj):W.rangeAt xb xo cx))
       have hi43:(Tryd.prog.info? 43).map (·.size)=some cx.length:=by rw[zC];exact congrArg some XL.symm
       have HI43:=am hi43
       have CA:=Kd.C_drop (c:=cp) (m:=1) HCP.out.2 mDj HCP.out.1
       have HCA:=am CA
       clear hA hsz hnb hhh x16 xl xt xbd xe X XL XO rx rx' hcx hi43 CA
       go_wp2_with (first
        | ((with_reducible refine qE (N:=42) rfl ?_);refine wpList_load_mid rfl 43 (.tmp 41) rfl xb xo rfl cx _ (RX.out _ (by repeat (first|exact HB0.out|apply qJ|apply qP))) Tryd.underlying43 rfl HI43.out ?_)
        | ((with_reducible refine qE (N:=7) rfl ?_);refine qd rfl 43 rfl _ jd ?_;intro g7 hg7 w2 hb hbl;have n0_:=am (Kd.R_below HHR.out hbl);have n1_:=am (Kd.R_below HV.out hbl);have n2_:=am (qB HB0.out hbl);have n3_:=am (qG HTY.out hbl);have n4_:=am hb;have n5_:Aside0 (w.heap.size≤g7∧g≠g7):=⟨by have:=HB0.out.size;have:=qN HTY.out;have h9:wr.heap.size≤g7:=by {rw[hg7];exact Nat.le_refl _};omega⟩;clear HHR HV HB0 HTY hg7 hb hbl;have HHR:=n0_;have HV:=n1_;have HB0:=n2_;have HTY:=n3_;have B7:=n4_;have N7:=n5_;clear n0_ n1_ n2_ n3_ n4_ n5_)
        | ((with_reducible refine qF (t:=43) (p:=7) (v:=.tmp 42) rfl ?_);refine qV rfl 43 (.tmp 7) (.tmp 42) rfl g7 cx.toArray rfl rfl 43 _ B7.out (by rw[List.size_toArray];exact HI43.out) ((show(Value.agg (qH zI (.slice none 0 0) (.slice none 0 0) (.slice none 0 0) (.slice none 0 0)).toArray).cells.size=27 from rfl).trans (List.size_toArray.trans HXL.out).symm) HXO.out ?_;intro w3 hb hoth hsz hbel;have n0_:=am (Kd.R_mono (Kd.R_step (Kd.R_bound HHR.out) (fun k hk hlt=>hoth k (fun e=>by obtain⟨_,_,_,q,hq,cells,hc⟩:=hk;rcases List.mem_singleton.1 hq with rfl;rw[e,B7.out] at hc;simp at hc))) (fun _ _=>trivial));have n1_:=am (Kd.R_mono (Kd.R_step (Kd.R_bound HV.out) (fun k hk hlt=>hoth k (fun e=>by obtain⟨_,_,_,q,hq,cells,hc⟩:=hk;rcases List.mem_singleton.1 hq with rfl;rw[e,B7.out] at hc;simp at hc))) (fun _ _=>trivial));have n2_:=am (hbel _ _ N7.out.1 HB0.out);have n3_:=am ((hoth _ N7.out.2).trans HTY.out);have n4_:=am hb;clear HHR HV HB0 HTY B7 hb hoth hsz hbel;have HHR:=n0_;have HV:=n1_;have HB0:=n2_;have HTY:=n3_;have B7:=n4_;clear n0_ n1_ n2_ n3_ n4_;have q0:w3.cell? ⟨g,n*2,none⟩=some (.slice (some ⟨xb,xo,none⟩) p.a.length cp):=(qA HTY.out _).trans SQ.out.1;have q1:w3.cell? ⟨g,n*2+1,none⟩=some (.slice Bp p.b.length dp):=(qA HTY.out _).trans SQ.out.2;have f0:=qD HTY.out (n*2);have f1:=qD HTY.out (n*2+1))
        | ((with_reducible refine qE (N:=48) rfl ?_);refine qGB rfl (.tmp 47) rfl (some ⟨xb,xo,none⟩) p.a.length cp rfl ha HCP.out.1 ?_;intro A1 hA1;have HA1:=am hA1;clear hA1))
       have hca:(p.a.drop 1).length≤cp - 1∧kI.C w A1 (p.a.drop 1).length (p.a.drop 1):=⟨by rw[List.length_drop];have:=HCP.out.1;omega,by rw[HA1.out];exact HCA.out⟩
       have hHR4:(kPr w).R 58 (w3.setCell ⟨g,n*2,none⟩ (.slice A1 (p.a.length - 1) (cp - 1))) w.heap.size (fun _=>True) (.slice (some ⟨g,0,none⟩) (n+1) cap) (rs.reverse ++ [⟨p.a.drop 1,p.b⟩]):=
        qCO (p':=⟨p.a.drop 1,p.b⟩) (A':=A1) (c':=cp - 1) (B':=Bp) (d':=dp) HHR.out (by rw[HHN.out,List.length_reverse]) q0 q1 0 (.slice A1 (p.a.length - 1) (cp - 1)) (.inl ⟨rfl,by rw[List.length_drop],rfl,rfl,rfl⟩) hca HCP'.out
       have n0_:=am hHR4
       have n1_:Aside0 ((Kd.int .u8).R 5 (w3.setCell ⟨g,n*2,none⟩ (.slice A1 (p.a.length - 1) (cp - 1))) w.heap.size (fun _=>True) u4 b):=⟨qGF rfl (show 5≠58 by decide) HV.out HTY.out⟩
       have n2_:Aside0 (Below w.heap.size w (w3.setCell ⟨g,n*2,none⟩ (.slice A1 (p.a.length - 1) (cp - 1)))):=⟨HB0.out.setCell HBG.out _⟩
       have n3_:Aside0 ((w3.setCell ⟨g,n*2,none⟩ (.slice A1 (p.a.length - 1) (cp - 1))).heap[g7]? = some (.cells cx.toArray 43 (0,0))):=⟨qp B7.out (Ne.symm N7.out.2) _⟩
       clear HHR HV HB0 B7 HTY q0 q1 f0 f1 hHR4 hca SQ
       generalize (w3.setCell ⟨g,n*2,none⟩ (.slice A1 (p.a.length - 1) (cp - 1)))=w4 at n0_ n1_ n2_ n3_ ⊢
       have HHR:=am (Kd.R_drew n0_.out)
       have HV:=am (Kd.R_drew n1_.out)
       have HB0:=am (qP n2_.out)
       have B7:=am (za n3_.out)
       clear n0_ n1_ n2_ n3_
       refine jQ (n:=9) (S:=fun w'=>w'.heap[g7]? = some (.cells cx.toArray 43 (0,0))) (ds:=[]) #[false,false,false,false,false,false,false,false,false] mDh rfl rfl B7.out (fun hHeld=>?_);refine zQ jp.tab12 jp.bits12 (fun HT_ HW_=>?_)
       refine qY (i:=0) (N:=some 51) (v:=?_) (a':=?_) #[true,false,false,false,false,false,false,false,false] rfl rfl (qS HT_.out mDh) (fun _ _ _ h=>h) (Or.inl ⟨mD2,?_⟩) ?_ ?_
       rotate_left
       ·intro w'
        go_simp
        with_reducible rfl
       rotate_left
       ·exact mAe
       refine qY (i:=1) (N:=some 52) (v:=?_) (a':=?_) #[true,true,false,false,false,false,false,false,false] rfl rfl (qS HT_.out mDh) (fun _ _ _ h=>h) (Or.inl ⟨mD2,?_⟩) ?_ ?_
       rotate_left
       ·intro w'
        go_simp
        with_reducible rfl
       rotate_left
       ·exact mAe
       refine take_ (i:=2) (N:=some 53) (v:=?_) (a':=?_) #[true,true,true,false,false,false,false,false,false] rfl rfl (qm HT_.out HW_.out mDh) (fun _ _ _ h=>h) (Or.inl ⟨mD2,?_⟩) hHeld ?_ ?_
       rotate_left
       ·intro w' s0
        have c0:w'.cell? ⟨g7,0,none⟩=some (.int .u16 x.op):=(qA s0 0).trans mDn
        go_simp
        with_reducible rfl
       rotate_left
       ·exact mAe
       refine take_ (i:=5) (N:=some 56) (v:=.agg cx.toArray) (a':=?_) #[true,true,true,false,false,true,false,false,false] rfl rfl (qm HT_.out HW_.out mDh) (fun _ _ _ h=>h) (yieldsIf_load_mid mD2 43 _ rfl g7 0 rfl cx _ (fun W hW=>jw hW mCw HXL.out) Tryd.underlying43 rfl HI43.out) hHeld ?_ ?_
       rotate_left
       ·exact mAe
       refine jC (i:=3) (N:=some 54) #[true,true,true,true,false,true,false,false,false] rfl rfl (qq HT_.out mDh) mDl (fun K hK=>?_)
       refine yD Tryd.func28 mDh rfl #[.int .u16 x.op] mD2 rfl rfl mCs ?_
       with_reducible refine(jE.calls K0 x.op nb _ HNB.out).mono ?_
       rintro e w5 ⟨vn,rfl,ho,hb⟩
       obtain⟨An,cn,rfl⟩:=Kd.R_slice ho
       refine⟨_,rfl,?_⟩
       have n0_:=am (Kd.R_below HHR.out hb)
       have n1_:=am (Kd.R_below HV.out hb)
       have n2_:=am (qB HB0.out hb)
       have n3_:=am (qG B7.out hb)
       have RN:=am ho
       clear HHR HV HB0 B7 ho hb
       have HHR:=n0_
       have HV:=n1_
       have HB0:=n2_
       have B7:=n3_
       clear n0_ n1_ n2_ n3_
       refine hK.out _ _ B7.out (fun hHeld=>?_)
       clear hK K
       refine zJ (a':=?_) ?_ ?_
       rotate_left
       ·show Act.put _ (some 54) _=_
        exact mAe
       refine jC (i:=4) (N:=some 55) #[true,true,true,true,true,true,false,false,false] rfl rfl (qq HT_.out mDh) mDl (fun K hK=>?_)
       refine Kd.R_append_rows_step (Kd.int .u8) (w0:=w) w.heap.size mD2 (.tmp 51) (.tmp 54) 24 5 (.int .u8 0) 1 rfl Tryd.underlying24 jM rfl mDl mDl u4 (b) nb An nb.length cn (fun _=>True) (fun _=>False) rfl rfl HV.out (Kd.R_reads' RN.out).2.2 (fun _ _ h=>h) (fun _ h=>h.elim) (fun _ _=>trivial) HB0.out HB0.out.size mDg ?_
       intro v55 w6 ho hb hg hat
       have n0_:=am (qAF (d:=kPr w) (d':=Kd.int .u8) hg rfl (show 58≠5 by decide) HHR.out HV.out)
       have n1_:=am ho
       have n2_:=am hb
       have n3_:=am (jz (d':=Kd.int .u8) hg (show 43≠5 by decide) B7.out HV.out)
       clear HHR HV HB0 B7 RN ho hb hg hat
       have HHR:=n0_
       have HV:=n1_
       have HB0:=n2_
       have B7:=n3_
       clear n0_ n1_ n2_ n3_
       refine hK.out _ _ B7.out (fun hHeld=>?_)
       clear hK K
       refine zJ (a':=?_) ?_ ?_
       rotate_left
       ·show Act.put _ (some 55) _=_
        exact mAe
       refine jC (i:=6) (N:=some 57) #[true,true,true,true,true,true,true,false,false] rfl rfl (qq HT_.out mDh) mDl (fun K hK=>?_)
       refine yD Tryd.func29 mDh rfl #[.agg cx.toArray] mD2 rfl rfl mCs ?_
       with_reducible refine(HBH.out _ HB0.out).mono ?_
       rintro e w7 ⟨vh,rfl,ho,hb⟩
       obtain⟨Ah,ch,rfl⟩:=Kd.R_slice ho
       refine⟨_,rfl,?_⟩
       have n0_:=am (Kd.R_below HHR.out hb)
       have n1_:=am (Kd.R_below HV.out hb)
       have n2_:=am (qB HB0.out hb)
       have n3_:=am (qG B7.out hb)
       have RN:=am ho
       clear HHR HV HB0 B7 ho hb
       have HHR:=n0_
       have HV:=n1_
       have HB0:=n2_
       have B7:=n3_
       clear n0_ n1_ n2_ n3_
       refine hK.out _ _ B7.out (fun hHeld=>?_)
       clear hK K
       refine zJ (a':=?_) ?_ ?_
       rotate_left
       ·show Act.put _ (some 57) _=_
        exact mAe
       refine jC (i:=7) (N:=some 58) #[true,true,true,true,true,true,true,true,false] rfl rfl (qq HT_.out mDh) mDl (fun K hK=>?_)
       refine Kd.R_append_rows_step (Kd.int .u8) (w0:=w) w.heap.size mD2 (.tmp 55) (.tmp 57) 24 5 (.int .u8 0) 1 rfl Tryd.underlying24 jM rfl mDl mDl v55 (b++nb) hh Ah hh.length ch (fun _=>True) (fun _=>False) rfl rfl HV.out (Kd.R_reads' RN.out).2.2 (fun _ _ h=>h) (fun _ h=>h.elim) (fun _ _=>trivial) HB0.out HB0.out.size mDg ?_
       intro v58 w8 ho hb hg hat
       have n0_:=am (qAF (d:=kPr w) (d':=Kd.int .u8) hg rfl (show 58≠5 by decide) HHR.out HV.out)
       have n1_:=am ho
       have n2_:=am hb
       have n3_:=am (jz (d':=Kd.int .u8) hg (show 43≠5 by decide) B7.out HV.out)
       clear HHR HV HB0 B7 RN ho hb hg hat
       have HHR:=n0_
       have HV:=n1_
       have HB0:=n2_
       have B7:=n3_
       clear n0_ n1_ n2_ n3_
       refine hK.out _ _ B7.out (fun hHeld=>?_)
       clear hK K
       refine zJ (a':=?_) ?_ ?_
       rotate_left
       ·show Act.put _ (some 58) _=_
        exact mAe
       refine qY (i:=8) (N:=some 4) (v:=?_) (a':=?_) #[true,true,true,true,true,true,true,true,true] rfl rfl (qS HT_.out mDh) (fun _ _ _ h=>h) (Or.inl ⟨mD2,?_⟩) ?_ ?_
       rotate_left
       ·intro w'
        go_simp
        with_reducible rfl
       rotate_left
       ·exact mAe
       refine xI (zu HT_.out mDh) ?_
       have z0:w8.cell? ⟨g7,0,none⟩=some (.int .u16 x.op):=(qA B7.out 0).trans mDn
       have z25:w8.cell? ⟨g7,25,none⟩=some (.slice Axb x.body.length cxb):=(qA B7.out 25).trans mDt
       have z26:w8.cell? ⟨g7,26,none⟩=some (.slice Axe x.els.length cxe):=(qA B7.out 26).trans mDx
       have hA:=HHA.out
       clear HHA
       cases hbk:qw x.op
       ·rw[hbk,if_neg mDp] at hA
        have HHA:=am hA
        clear hA
        go_wp2_with (first
         | (go_at_call 30;refine(zy _ _).mono ?_;rintro e w' ⟨rfl,rfl⟩;rw[hbk]))
        go_roundg k1
        case measure=>have:=HK1.out;omega
        case rel=>exact⟨⟨p.a.drop 1,p.b⟩::rs,b++nb++hh,HHA,⟨by (with_reducible repeat (first|apply Kd.R_alloc|apply Kd.R_drewN|apply Kd.R_drew));exact HV.out⟩,⟨by rw[List.reverse_cons];(with_reducible repeat (first|apply Kd.R_alloc|apply Kd.R_drewN|apply Kd.R_drew));exact HHR.out⟩,⟨by repeat (first|exact HB0.out|apply qJ|apply qP)⟩,⟨by have:=HK1.out;omega⟩⟩
       ·rw[hbk,if_pos rfl] at hA
        have HHA:=am hA
        clear hA
        go_wp2_with (first
         | (go_at_call 30;refine(zy _ _).mono ?_;rintro e w' ⟨rfl,rfl⟩;rw[hbk])
         | ((with_reducible refine qE (N:=68) rfl ?_);refine Kd.R_lit (kPr w) (w0:=w) w.heap.size 58 ?hg2 (N:=68) ?hd2 (xs:=[(⟨x.body,x.els⟩:Pr)]) (inner:=[.slice Axb x.body.length cxb,.slice Axe x.els.length cxe]) (ok:=fun _=>True) (okp:=fun _=>True) ?hr2 ?hp2 (fun _ hk=>hk) trivial ?hb2 ?hs2 mDp ?_;(case hd2=>rfl);(case hg2=>rfl);(case hb2=>repeat (first|exact HB0.out|apply qJ|apply qP));(case hs2=>exact HB0.out.size);(case hr2=>first|(go_simp;done)|(go_simp;rfl));(case hp2=>exact Reps.c2 (yT w _ _ _ ⟨x.body,x.els⟩ HXB.out.1 HXB.out.2 HXE.out.1 HXE.out.2) (Reps.none _ _));intro v68 w10 ho hb hg_ hnew_;obtain⟨A68,c68,rfl⟩:=Kd.R_slice ho;have HO:=am ho;have n0_:=am hb;have n1_:=am (qDZ HHR.out hg_);have n2_:=am (qDZ HV.out hg_);clear HB0 HHR HV ho hb hg_ hnew_;have HB0:=n0_;have HHR:=n1_;have HV:=n2_;clear n0_ n1_ n2_)
         | ((with_reducible refine qZ (b:=.append) (xs:=#[.tmp 62,.tmp 68]) rfl ?_);at_builtin;refine Kd.R_append_rows (kPr w) (w0:=w) w.heap.size rfl (.tmp 62) (.tmp 68) 59 58 (.agg #[.slice none 0 0,.slice none 0 0]) 48 rfl Tryd.underlying59 qIP rfl (show 0<2 by decide) mDl (.slice (some ⟨g,0,none⟩) (n+1) cap) (rs.reverse ++ [⟨p.a.drop 1,p.b⟩]) [(⟨x.body,x.els⟩:Pr)] A68 1 c68 (fun _=>True) (fun _=>False) rfl rfl HHR.out (Kd.R_reads' HO.out).2.2 (fun x cs h=>qFF h) (fun _ hk=>hk.elim) (fun _ _=>trivial) HB0.out HB0.out.size ?aL ?_;(case aL=>simp only[List.length_append,List.length_reverse,List.length_singleton];have:=HRL.out;omega);intro v69 w11 ho hb hg hat;have n0_:=am ho;have n1_:=am hb;have n2_:=am (qAF (d:=Kd.int .u8) (d':=kPr w) hg rfl (show 5≠58 by decide) HV.out HHR.out);clear HB0 HHR HV HO ho hb hg hat;have HHR:=n0_;have HB0:=n1_;have HV:=n2_;clear n0_ n1_ n2_))
        go_roundg k1
        case measure=>have:=HK1.out;omega
        case rel=>exact⟨⟨x.body,x.els⟩::⟨p.a.drop 1,p.b⟩::rs,b++nb++hh,HHA,⟨by (with_reducible repeat (first|apply Kd.R_alloc|apply Kd.R_drewN|apply Kd.R_drew));exact HV.out⟩,⟨by rw[List.reverse_cons,List.reverse_cons];(with_reducible repeat (first|apply Kd.R_alloc|apply Kd.R_drewN|apply Kd.R_drew));exact HHR.out⟩,⟨by repeat (first|exact HB0.out|apply qJ|apply qP)⟩,⟨by have:=HK1.out;omega⟩⟩
def qEV (K:Nat)(ok:Bool)(x:I)(_:Int):Option (Bool × Bool):=if ok=true then (xi K x).map (fun b=>(b,b)) else some (false,false)
theorem qDr (K:Nat)(W w0:World)(gn:Nat)(ok:Bool)(x:I)(deep:Int)(q:Bool × Bool)(ad:Addr)(cs:List Value)(hT:YtobldeamemmokaaDoorTabs.Tab w0)(hq:qEV K ok x deep=some q)(hB:Below w0.heap.size w0 W)(hg:W.heap[gn]? = some (qCx ok))(hn:w0.heap.size≤gn)(hK:kI.K W x cs)(hc:∀ j u,cs[j]? = some u→W.cell? (ad.add j)=some u):
 Calls Tryd.prog 34 #[.pointer (some ad),.int .i64 deep,.pointer (some ⟨gn,0,none⟩)] W fun e W'=>e = .returned (.bool q.2)∧W'.heap[gn]? = some (qCx q.1)∧qc W W' gn none∧Below w0.heap.size w0 W':=by
 have c0:W.cell? ⟨gn,0,none⟩=some (.bool ok):=(qA hg 0).trans rfl
 have f0:=qD hg 0
 obtain⟨Al,cl,At,ct,Ab,cb,Ae,ce,rfl,h16,h1,h2,_,_⟩:=xk hK
 have hl:=qL x h16 (.slice Al x.l.length cl) (.slice At x.t.length ct) (.slice Ab x.body.length cb) (.slice Ae x.els.length ce)
 obtain⟨b,o,s⟩:=ad
 cases s with
 | some s =>
   have y0:W.cell? ((⟨b,o,some s⟩:Addr).add 0)=some (.int .u16 x.op):=hc 0 _ rfl
   rw[Addr.add_zero'] at y0
   unfold World.cell? at y0
   split at y0
   ·simp at y0
   ·cases y0
 | none =>
 have hr:W.rangeAt b o (qH x (.slice Al x.l.length cl) (.slice At x.t.length ct) (.slice Ab x.body.length cb) (.slice Ae x.els.length ce)):=fun j u hj=>by
  have:=hc j u hj
  rwa [Addr.add_mid] at this
 have hi43:(Tryd.prog.info? 43).map (·.size)=some (qH x (.slice Al x.l.length cl) (.slice At x.t.length ct) (.slice Ab x.body.length cb) (.slice Ae x.els.length ce)).length:=by rw[zC];exact congrArg some hl.symm
 have HG:=am hg
 have HB:=am hB
 have HN:=am hn
 have RX:=am hr
 have HI:=am hi43
 cases ok
 ·obtain rfl:(false,false)=q:=Option.some.inj hq
  clear hg hB hn hK hc hr h16 hi43 hl hq
  go_enter Tryd.func34,Tryd.ntmps34
  go_wp2
  exact mEn
 ·obtain⟨b2,hf,hq⟩:=Option.map_eq_some_iff.1 (show(xi K x).map (fun b=>(b,b))=some q from hq)
  subst hq
  have HF:=am (fun(W1:World) (hW:Below w0.heap.size w0 W1) (hW2:Below W.heap.size W W1)=>qDp K x b2 W1 (Ab:=Ab) (Ae:=Ae) (cb:=cb) (ce:=ce) (hT.below hW) hf h16 ⟨h1.1,Kd.C_below h1.2 hW2⟩ ⟨h2.1,Kd.C_below h2.2 hW2⟩)
  clear hg hB hn hK hc hr h16 hi43 hl h1 h2 hf
  go_enter Tryd.func34,Tryd.ntmps34
  go_wp2_with (first
   | ((with_reducible refine qE (N:=10) rfl ?_);refine jS mD2 ?_;refine wpList_load_mid rfl 43 (.tmp 9) rfl b o rfl _ _ RX.out Tryd.underlying43 rfl HI.out ?_)
   | (go_at_call 35;refine(HF.out _ mCh mCl).mono ?_;rintro e w1 ⟨rfl,hb⟩;have HG1:=am (qG HG.out hb);have HBW:=am hb;have c0:w1.cell? ⟨gn,0,none⟩=some (.bool true):=(qA HG1.out 0).trans rfl;have f0:=qD HG1.out 0;clear hb))
  go_ret
  exact⟨rfl,qK HG1.out 0 _ rfl,(qc.of_below HBW.out gn none).set_ 0 _,(HB.out.trans (HBW.out.mono HB.out.size)).setCell HN.out _⟩
def qGp (K k:Nat)(l:List I)(d:Int):Option Bool:=if min d 1001≤1000 then xq (qEV K) k [⟨l,0,0⟩] true else some false
theorem qBS (K k k2:Nat)(A:Option Addr)(c:Nat)(l:List I)(d:Int)(r:Bool)(w:World)(hT:YtobldeamemmokaaDoorTabs.Tab w)(hc:l.length≤c)(hl:kI.C w A l.length l)(hd:xg zU k [⟨l,0,0⟩] 0=some d)(h:qGp K k2 l d=some r):
 Calls Tryd.prog 19 #[.slice A l.length c] w fun e w'=>e = .returned (.bool r)∧Below w.heap.size w w':=by
 have HT:=am hT
 have HC:=am hc
 have HL:=am hl
 have HD:=am hd
 unfold qGp at h
 clear hT hc hl hd
 by_cases hm:min d 1001≤1000
 ·rw[if_pos hm] at h
  have e1:decide (min d 1001≤1000)=true:=decide_eq_true hm
  have H:=am h
  clear h hm
  go_enter Tryd.func19,Tryd.ntmps19
  go_wp2_with (first
   | (go_at_call 21;refine(yg k A c l w HC.out HL.out HD.out).mono ?_;rintro e w1 ⟨rfl,hb⟩;have HB:=am hb;clear hb)
   | (go_at_call 33;refine(qBi 34 Tryd.f34 Tryd.func34 rfl rfl (qEV K) w1.heap.size qCx w (fun W s x deep q ad cs hq h1 h2 h3 h4=>qDr K W w _ s x deep q ad cs HT.out hq h1 h2 HB.out.size h3 h4) k2 A c l true r _ ?b ?g HC.out HL.out H.out).mono ?_;(case b=>repeat (first|exact HB.out|refine qh ?_ _|exact(HB.out.alloc HB.out.size _).setCell HB.out.size _|apply qJ|apply qP));(case g=>first|exact qK (ja _ _) 0 _ rfl|exact ja _ _);rintro e w' ⟨rfl,hg,hk,hb⟩;have c0:w'.cell? ⟨w1.heap.size,0,none⟩=some (.bool r):=(qA hg 0).trans rfl;have HB2:=am hb;clear hg hk hb))
  go_ret
  exact⟨rfl,HB2.out⟩
 ·rw[if_neg hm] at h
  obtain rfl:=Option.some.inj h
  have e1:decide (min d 1001≤1000)=false:=decide_eq_false hm
  clear h hm
  go_enter Tryd.func19,Tryd.ntmps19
  go_wp2_with (first
   | (go_at_call 21;refine(yg k A c l w HC.out HL.out HD.out).mono ?_;rintro e w1 ⟨rfl,hb⟩;have HB:=am hb;clear hb))
  go_ret
  exact⟨rfl,by repeat (first|exact HB.out|refine qh ?_ _|exact(HB.out.alloc HB.out.size _).setCell HB.out.size _|apply qJ|apply qP)⟩
end Go.Proofs.YtobldeamemmokaaDoor.P
