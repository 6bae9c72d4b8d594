import Derived.Test.YtobldeamemmokaaDoorZa32
import Derived.Test.YtobldeamemmokaaDoorZa33
import Derived.Test.YtobldeamemmokaaDoorZa34
set_option linter.unusedVariables false
set_option linter.unusedSimpArgs false
set_option maxHeartbeats 64000000
namespace Go.Proofs.YtobldeamemmokaaDoor
set_option maxRecDepth 100000 in
theorem mEx {p:Prop} (h:p:=by
 go_enter Tryd.func29,Tryd.ntmps29
 go_wp2_with (first
  | ((with_reducible refine qE (N:=1) rfl ?_);refine jP rfl _ rfl cx rfl ?_;intro g1 hg1 w1 hb hbl;have B1:=am hb;have L1:=am (qB mCl hbl);have G1:=am (qN hb);have z0:w1.cell? ⟨g1,0,none⟩=some (.int .u16 x.op):=(qA hb 0).trans mDn;clear hg1 hb hbl)
  | (go_at_call 42;refine(qW.calls K x.op r1 r2 im r4 r5 r6 r7 r8 _ (HTB.out.below mCi) HO.out).mono ?_;rintro e w2 ⟨v3,v4,rfl,h3,h4,hb⟩;obtain⟨A3,c3,rfl⟩:=Kd.R_slice h3;obtain⟨A4,c4,rfl⟩:=Kd.R_slice h4;have n0_:=am (qG B1.out hb);have n1_:=am (qB L1.out hb);have n2_:=am (qN n0_.out);clear B1 L1 G1 h3 h4 hb;have B1:=n0_;have L1:=n1_;have G1:=n2_;clear n0_ n1_ n2_)
  | ((with_reducible refine qE (N:=3) rfl ?_);refine qd rfl 79 rfl _ zh ?_;intro g3 hg3 w3 hb hbl;have n0_:=am (qG B1.out hbl);have n1_:=am (qB L1.out hbl);have n2_:=am hb;have n3_:=am (mDu:g1≠g3∧w.heap.size≤g3);clear B1 L1 hg3 hb hbl;have B1:=n0_;have L1:=n1_;have B3:=n2_;have N13:=n3_;clear n0_ n1_ n2_ n3_)
  | ((with_reducible refine qF (t:=79) (p:=3) (v:=.tmp 16) rfl ?_);refine qV rfl 79 (.tmp 3) (.tmp 16) rfl g3 #[.int .u16 r1,.string r2,.int .u8 im,.slice A3 r4.length c3,.slice A4 r5.length c4,.int .i64 r6,.bool r7] rfl rfl 79 _ B3.out zK rfl (xG _ _ _ _ _ _ _ _ _ _ _) ?_;intro w4 hb hoth hsz hbel;have n0_:=am ((hoth _ N13.out.1).trans B1.out);have n1_:=am (hbel _ _ N13.out.2 L1.out);have n2_:=am hb;have c32:w4.cell? ⟨g3,2,none⟩=some (.int .u8 im):=(qA hb 2).trans rfl;have z0:w4.cell? ⟨g1,0,none⟩=some (.int .u16 x.op):=(qA n0_.out 0).trans mDn;have z1:w4.cell? ⟨g1,1,none⟩=some (.int .u32 x.a):=(qA n0_.out 1).trans mD0;have z2:w4.cell? ⟨g1,2,none⟩=some (.int .u32 x.b):=(qA n0_.out 2).trans mDz;have z3:w4.cell? ⟨g1,3,none⟩=some (.int .u64 x.n):=(qA n0_.out 3).trans mDy;have z20:w4.cell? ⟨g1,20,none⟩=some (.slice Al x.l.length cl):=(qA n0_.out 20).trans mDs;have z21:w4.cell? ⟨g1,21,none⟩=some (.slice At x.t.length ct):=(qA n0_.out 21).trans mDr;have z22:w4.cell? ⟨g1,22,none⟩=some (.int .u8 x.bk):=(qA n0_.out 22).trans mD6;have z23:w4.cell? ⟨g1,23,none⟩=some (.int .u8 x.bv):=(qA n0_.out 23).trans mD4;have z24:w4.cell? ⟨g1,24,none⟩=some (.int .u32 x.bt):=(qA n0_.out 24).trans mD3;clear B1 L1 B3 hb hoth hsz hbel;have B1:=n0_;have L1:=n1_;have B3:=n2_;clear n0_ n1_ n2_)
  | (go_at_call 43;refine(HU.out _).mono ?_;rintro e w5 ⟨v50,rfl,ho4,hb⟩;obtain⟨A_v50,c_v50,rfl⟩:=Kd.R_slice ho4;have RV:=am (Kd.R_lower ho4 (qM mCi));have n1_:=am (qB mCi hb);clear L1 ho4 hb;have L1:=n1_;clear n1_)
  | ((with_reducible refine qE (N:=33) rfl ?_);refine Kd.R_lit (Kd.int .u8) (w0:=w) w.heap.size 5 ?hgq33 (N:=33) ?hdq33 (xs:=([x.bv]:List Int)) (inner:=[.int .u8 (x.bv)]) (ok:=fun _=>True) (okp:=fun _=>True) ?hrq33 ?hpq33 (fun _ hk=>hk) trivial ?hbq33 ?hsq33 mDp ?_;(case hdq33=>rfl);(case hgq33=>rfl);(case hbq33=>repeat (first|exact L1.out|apply qJ|apply qP));(case hsq33=>exact qM mCi);(case hrq33=>first|(go_simp;done)|(go_simp;rfl));(case hpq33=>exact(Reps.one (show Kd.M (Kd.int .u8) _ _ _ (x.bv) [.int .u8 (x.bv)] from rfl) (Reps.none _ _)));intro v33 w5 ho4 hb hg_ hnew_;obtain⟨Al_,cl_,rfl⟩:=Kd.R_slice ho4;have RL:=am ho4;clear L1 ho4 hg_ hnew_;have L1:=am hb;clear hb)
  | (go_at_call 44;refine(HU.out _).mono ?_;rintro e w5 ⟨v38,rfl,ho4,hb⟩;obtain⟨A_v38,c_v38,rfl⟩:=Kd.R_slice ho4;have RV:=am (Kd.R_lower ho4 (qM mCi));have n1_:=am (qB mCi hb);clear L1 ho4 hb;have L1:=n1_;clear n1_)
  | ((with_reducible refine qE (N:=89) rfl ?_);refine Kd.R_lit (Kd.int .u8) (w0:=w) w.heap.size 5 ?hgq89 (N:=89) ?hdq89 (xs:=([0]:List Int)) (inner:=[.int .u8 (0)]) (ok:=fun _=>True) (okp:=fun _=>True) ?hrq89 ?hpq89 (fun _ hk=>hk) trivial ?hbq89 ?hsq89 mDp ?_;(case hdq89=>rfl);(case hgq89=>rfl);(case hbq89=>repeat (first|exact L1.out|apply qJ|apply qP));(case hsq89=>exact qM mCi);(case hrq89=>first|(go_simp;done)|(go_simp;rfl));(case hpq89=>exact(Reps.one (show Kd.M (Kd.int .u8) _ _ _ (0) [.int .u8 (0)] from rfl) (Reps.none _ _)));intro v89 w5 ho4 hb hg_ hnew_;obtain⟨Al_,cl_,rfl⟩:=Kd.R_slice ho4;have RL:=am ho4;clear L1 ho4 hg_ hnew_;have L1:=am hb;clear hb)
  | ((with_reducible refine qE (N:=92) rfl ?_);refine Kd.R_lit (Kd.int .u8) (w0:=w) w.heap.size 5 ?hgq92 (N:=92) ?hdq92 (xs:=([0,0]:List Int)) (inner:=[.int .u8 (0),.int .u8 (0)]) (ok:=fun _=>True) (okp:=fun _=>True) ?hrq92 ?hpq92 (fun _ hk=>hk) trivial ?hbq92 ?hsq92 mDp ?_;(case hdq92=>rfl);(case hgq92=>rfl);(case hbq92=>repeat (first|exact L1.out|apply qJ|apply qP));(case hsq92=>exact qM mCi);(case hrq92=>first|(go_simp;done)|(go_simp;rfl));(case hpq92=>exact(Reps.one (show Kd.M (Kd.int .u8) _ _ _ (0) [.int .u8 (0)] from rfl) (Reps.one (show Kd.M (Kd.int .u8) _ _ _ (0) [.int .u8 (0)] from rfl) (Reps.none _ _))));intro v92 w5 ho4 hb hg_ hnew_;obtain⟨Al_,cl_,rfl⟩:=Kd.R_slice ho4;have RL:=am ho4;clear L1 ho4 hg_ hnew_;have L1:=am hb;clear hb)
  | ((with_reducible refine qE (N:=131) rfl ?_);refine Kd.R_lit (Kd.int .u8) (w0:=w) w.heap.size 5 ?hgq131 (N:=131) ?hdq131 (xs:=([x.b % 256]:List Int)) (inner:=[.int .u8 (x.b % 256)]) (ok:=fun _=>True) (okp:=fun _=>True) ?hrq131 ?hpq131 (fun _ hk=>hk) trivial ?hbq131 ?hsq131 mDp ?_;(case hdq131=>rfl);(case hgq131=>rfl);(case hbq131=>repeat (first|exact L1.out|apply qJ|apply qP));(case hsq131=>exact qM mCi);(case hrq131=>first|(go_simp;done)|(go_simp;rfl));(case hpq131=>exact(Reps.one (show Kd.M (Kd.int .u8) _ _ _ (x.b % 256) [.int .u8 (x.b % 256)] from rfl) (Reps.none _ _)));intro v131 w5 ho4 hb hg_ hnew_;obtain⟨Al_,cl_,rfl⟩:=Kd.R_slice ho4;have RL:=am ho4;clear L1 ho4 hg_ hnew_;have L1:=am hb;clear hb)
  | (go_at_call 44;refine(HU.out _).mono ?_;rintro e w5 ⟨v144,rfl,ho4,hb⟩;obtain⟨A_v144,c_v144,rfl⟩:=Kd.R_slice ho4;have RV:=am (Kd.R_lower ho4 (qM mCi));have n1_:=am (qB mCi hb);clear L1 ho4 hb;have L1:=n1_;clear n1_)
  | (go_at_call 46;refine(HU.out _).mono ?_;rintro e w5 ⟨v155,rfl,ho4,hb⟩;obtain⟨A_v155,c_v155,rfl⟩:=Kd.R_slice ho4;have RV:=am (Kd.R_lower ho4 (qM mCi));have n1_:=am (qB mCi hb);clear L1 ho4 hb;have L1:=n1_;clear n1_)
  | (go_at_call 46;refine(HU.out _).mono ?_;rintro e w5 ⟨v160,rfl,ho4,hb⟩;obtain⟨A_v160,c_v160,rfl⟩:=Kd.R_slice ho4;have RV:=am (Kd.R_lower ho4 (qM mCi));have n1_:=am (qB mCi hb);clear L1 ho4 hb;have L1:=n1_;clear n1_)
  | (go_at_call 44;refine(HU.out _).mono ?_;rintro e w5 ⟨v150,rfl,ho4,hb⟩;obtain⟨A_v150,c_v150,rfl⟩:=Kd.R_slice ho4;have RV:=am (Kd.R_lower ho4 (qM mCi));have n1_:=am (qB mCi hb);clear L1 ho4 hb;have L1:=n1_;clear n1_)
  | (go_at_call 45;refine(qDd ⟨g1,4,none⟩ 16 x.v _ H16.out (by first|exact qJ5 mD5 HX4.out H16.out)).mono ?_;rintro e w5 ⟨v137,rfl,ho4,hb⟩;have RV:=am (Kd.R_lower ho4 (qM mCi));have n1_:=am (qB mCi hb);clear L1 ho4 hb;have L1:=n1_;clear n1_)
  | (go_at_call 42;refine(qW.calls K x.op r1 r2 1 r4 r5 r6 r7 r8 _ (HTB.out.below mCi) HO.out).mono ?_;rintro e w2 ⟨v3,v4,rfl,h3,h4,hb⟩;obtain⟨A3,c3,rfl⟩:=Kd.R_slice h3;obtain⟨A4,c4,rfl⟩:=Kd.R_slice h4;have n0_:=am (qG B1.out hb);have n1_:=am (qB L1.out hb);have n2_:=am (qN n0_.out);clear B1 L1 G1 h3 h4 hb;have B1:=n0_;have L1:=n1_;have G1:=n2_;clear n0_ n1_ n2_)
  | ((with_reducible refine qF (t:=79) (p:=3) (v:=.tmp 16) rfl ?_);refine qV rfl 79 (.tmp 3) (.tmp 16) rfl g3 #[.int .u16 r1,.string r2,.int .u8 1,.slice A3 r4.length c3,.slice A4 r5.length c4,.int .i64 r6,.bool r7] rfl rfl 79 _ B3.out zK rfl (xG _ _ _ _ _ _ _ _ _ _ _) ?_;intro w4 hb hoth hsz hbel;have n0_:=am ((hoth _ N13.out.1).trans B1.out);have n1_:=am (hbel _ _ N13.out.2 L1.out);have n2_:=am hb;have c32:w4.cell? ⟨g3,2,none⟩=some (.int .u8 1):=(qA hb 2).trans rfl;have z22:w4.cell? ⟨g1,22,none⟩=some (.int .u8 0):=(qA n0_.out 22).trans (by rw[List.getElem?_toArray,← hbk];exact HX.out.2.2.2.2.2.2.1);clear B1 L1 B3 hb hoth hsz hbel;have B1:=n0_;have L1:=n1_;have B3:=n2_;clear n0_ n1_ n2_)
  | ((with_reducible refine qE (N:=27) rfl ?_);refine Kd.R_lit (Kd.int .u8) _ 5 ?hg (N:=27) ?hd (xs:=([64]:List Int)) (inner:=[.int .u8 64]) (ok:=fun _=>True) (okp:=fun _=>True) ?hr ?hp (fun _ hk=>hk) trivial (Below.refl _ _) (Nat.le_refl _) mDp ?_;(case hd=>rfl);(case hg=>rfl);(case hr=>first|(go_simp;done)|(go_simp;rfl));(case hp=>exact(Reps.one (show Kd.M (Kd.int .u8) _ _ _ 64 [.int .u8 64] from rfl) (Reps.none _ _)));intro v27 w5 ho4 hb hg_ hnew_;clear hg_ hnew_;have RV:=am (Kd.R_lower ho4 (qM mCi));have n1_:=am (qB mCi hb);clear L1 ho4 hb;have L1:=n1_;clear n1_))
 first
  | (go_ret;exact⟨_,rfl,ky_ RV.out,mCi⟩)
  | (go_ret;exact⟨_,rfl,ky_ RL.out,mCi⟩)
  | (go_ret;exact⟨_,rfl,Kd.R_nil _ _ _ _ _,mCi⟩)):p:=h
set_option maxRecDepth 100000 in
theorem mEy {p:Prop} (h:p:=by
 go_enter Tryd.func29,Tryd.ntmps29
 go_wp2_with (first
  | ((with_reducible refine qE (N:=1) rfl ?_);refine jP rfl _ rfl cx rfl ?_;intro g1 hg1 w1 hb hbl;have B1:=am hb;have L1:=am (qB mCl hbl);have G1:=am (qN hb);have z0:w1.cell? ⟨g1,0,none⟩=some (.int .u16 x.op):=(qA hb 0).trans mDn;clear hg1 hb hbl)
  | (go_at_call 42;refine(qW.calls K x.op r1 r2 im r4 r5 r6 r7 r8 _ (HTB.out.below mCi) HO.out).mono ?_;rintro e w2 ⟨v3,v4,rfl,h3,h4,hb⟩;obtain⟨A3,c3,rfl⟩:=Kd.R_slice h3;obtain⟨A4,c4,rfl⟩:=Kd.R_slice h4;have n0_:=am (qG B1.out hb);have n1_:=am (qB L1.out hb);have n2_:=am (qN n0_.out);clear B1 L1 G1 h3 h4 hb;have B1:=n0_;have L1:=n1_;have G1:=n2_;clear n0_ n1_ n2_)
  | ((with_reducible refine qE (N:=3) rfl ?_);refine qd rfl 79 rfl _ zh ?_;intro g3 hg3 w3 hb hbl;have n0_:=am (qG B1.out hbl);have n1_:=am (qB L1.out hbl);have n2_:=am hb;have n3_:=am (mDu:g1≠g3∧w.heap.size≤g3);clear B1 L1 hg3 hb hbl;have B1:=n0_;have L1:=n1_;have B3:=n2_;have N13:=n3_;clear n0_ n1_ n2_ n3_)
  | ((with_reducible refine qF (t:=79) (p:=3) (v:=.tmp 16) rfl ?_);refine qV rfl 79 (.tmp 3) (.tmp 16) rfl g3 #[.int .u16 r1,.string r2,.int .u8 im,.slice A3 r4.length c3,.slice A4 r5.length c4,.int .i64 r6,.bool r7] rfl rfl 79 _ B3.out zK rfl (xG _ _ _ _ _ _ _ _ _ _ _) ?_;intro w4 hb hoth hsz hbel;have n0_:=am ((hoth _ N13.out.1).trans B1.out);have n1_:=am (hbel _ _ N13.out.2 L1.out);have n2_:=am hb;have c32:w4.cell? ⟨g3,2,none⟩=some (.int .u8 im):=(qA hb 2).trans rfl;have z0:w4.cell? ⟨g1,0,none⟩=some (.int .u16 x.op):=(qA n0_.out 0).trans mDn;have z1:w4.cell? ⟨g1,1,none⟩=some (.int .u32 x.a):=(qA n0_.out 1).trans mD0;have z2:w4.cell? ⟨g1,2,none⟩=some (.int .u32 x.b):=(qA n0_.out 2).trans mDz;have z3:w4.cell? ⟨g1,3,none⟩=some (.int .u64 x.n):=(qA n0_.out 3).trans mDy;have z20:w4.cell? ⟨g1,20,none⟩=some (.slice Al x.l.length cl):=(qA n0_.out 20).trans mDs;have z21:w4.cell? ⟨g1,21,none⟩=some (.slice (some ad) x.t.length ct):=(qA n0_.out 21).trans mDr;have z22:w4.cell? ⟨g1,22,none⟩=some (.int .u8 x.bk):=(qA n0_.out 22).trans mD6;have z23:w4.cell? ⟨g1,23,none⟩=some (.int .u8 x.bv):=(qA n0_.out 23).trans mD4;have z24:w4.cell? ⟨g1,24,none⟩=some (.int .u32 x.bt):=(qA n0_.out 24).trans mD3;have y0:w4.cell? ad=some (.int .u8 (rd x.t 0)):=(n1_.out.cell (World.block_lt_of_cell? w _ HY.out)).trans HY.out;clear B1 L1 B3 hb hoth hsz hbel;have B1:=n0_;have L1:=n1_;have B3:=n2_;clear n0_ n1_ n2_)
  | ((with_reducible refine qE (N:=167) rfl ?_);refine Kd.R_lit (Kd.int .u8) (w0:=w) w.heap.size 5 ?hgq167 (N:=167) ?hdq167 (xs:=([rd x.t 0]:List Int)) (inner:=[.int .u8 (rd x.t 0)]) (ok:=fun _=>True) (okp:=fun _=>True) ?hrq167 ?hpq167 (fun _ hk=>hk) trivial ?hbq167 ?hsq167 mDp ?_;(case hdq167=>rfl);(case hgq167=>rfl);(case hbq167=>repeat (first|exact L1.out|apply qJ|apply qP));(case hsq167=>exact qM mCi);(case hrq167=>first|(go_simp;done)|(go_simp;rfl));(case hpq167=>exact(Reps.one (show Kd.M (Kd.int .u8) _ _ _ (rd x.t 0) [.int .u8 (rd x.t 0)] from rfl) (Reps.none _ _)));intro v167 w5 ho4 hb hg_ hnew_;obtain⟨Al_,cl_,rfl⟩:=Kd.R_slice ho4;have RL:=am ho4;clear L1 ho4 hg_ hnew_;have L1:=am hb;clear hb)
  | ((with_reducible refine qF (t:=79) (p:=3) (v:=.tmp 16) rfl ?_);refine qV rfl 79 (.tmp 3) (.tmp 16) rfl g3 #[.int .u16 r1,.string r2,.int .u8 im,.slice A3 r4.length c3,.slice A4 r5.length c4,.int .i64 r6,.bool r7] rfl rfl 79 _ B3.out zK rfl (xG _ _ _ _ _ _ _ _ _ _ _) ?_;intro w4 hb hoth hsz hbel;have n0_:=am ((hoth _ N13.out.1).trans B1.out);have n1_:=am (hbel _ _ N13.out.2 L1.out);have n2_:=am hb;have c32:w4.cell? ⟨g3,2,none⟩=some (.int .u8 im):=(qA hb 2).trans rfl;have z0:w4.cell? ⟨g1,0,none⟩=some (.int .u16 x.op):=(qA n0_.out 0).trans mDn;have z1:w4.cell? ⟨g1,1,none⟩=some (.int .u32 x.a):=(qA n0_.out 1).trans mD0;have z2:w4.cell? ⟨g1,2,none⟩=some (.int .u32 x.b):=(qA n0_.out 2).trans mDz;have z3:w4.cell? ⟨g1,3,none⟩=some (.int .u64 x.n):=(qA n0_.out 3).trans mDy;have z20:w4.cell? ⟨g1,20,none⟩=some (.slice Al x.l.length cl):=(qA n0_.out 20).trans mDs;have z21:w4.cell? ⟨g1,21,none⟩=some (.slice At x.t.length ct):=(qA n0_.out 21).trans mDr;have z22:w4.cell? ⟨g1,22,none⟩=some (.int .u8 x.bk):=(qA n0_.out 22).trans mD6;have z23:w4.cell? ⟨g1,23,none⟩=some (.int .u8 x.bv):=(qA n0_.out 23).trans mD4;have z24:w4.cell? ⟨g1,24,none⟩=some (.int .u32 x.bt):=(qA n0_.out 24).trans mD3;clear B1 L1 B3 hb hoth hsz hbel;have B1:=n0_;have L1:=n1_;have B3:=n2_;clear n0_ n1_ n2_)
  | (go_at_call 43;refine(HU.out _).mono ?_;rintro e w5 ⟨v98,rfl,ho4,hb⟩;obtain⟨A_v98,c_v98,rfl⟩:=Kd.R_slice ho4;have RV:=am (Kd.R_lower ho4 (qM mCi));have n1_:=am (qB mCi hb);clear L1 ho4 hb;have L1:=n1_;clear n1_)
  | ((with_reducible refine qE (N:=99) rfl ?_);refine Kd.R_lit (Kd.int .u8) (w0:=w) w.heap.size 5 ?hgq99 (N:=99) ?hdq99 (xs:=([0]:List Int)) (inner:=[.int .u8 (0)]) (ok:=fun _=>True) (okp:=fun _=>True) ?hrq99 ?hpq99 (fun _ hk=>hk) trivial ?hbq99 ?hsq99 mDp ?_;(case hdq99=>rfl);(case hgq99=>rfl);(case hbq99=>repeat (first|exact L1.out|apply qJ|apply qP));(case hsq99=>exact qM mCi);(case hrq99=>first|(go_simp;done)|(go_simp;rfl));(case hpq99=>exact(Reps.one (show Kd.M (Kd.int .u8) _ _ _ (0) [.int .u8 (0)] from rfl) (Reps.none _ _)));intro v99 w6 ho4 hb hg_ hnew_;obtain⟨Al_,cl_,rfl⟩:=Kd.R_slice ho4;have n2_:=am (yt RV.out hg_);clear RV;have RV:=n2_;clear n2_;have RL:=am ho4;clear L1 ho4 hg_ hnew_;have L1:=am hb;clear hb)
  | ((with_reducible refine qZ (b:=.append) (xs:=#[.tmp 98,.tmp 99]) rfl ?_);at_builtin;refine Kd.R_append_rows (Kd.int .u8) (w0:=w) w.heap.size rfl (.tmp 98) (.tmp 99) 24 5 (.int .u8 0) 1 rfl Tryd.underlying24 jM rfl mDl mDl (.slice A_v98 r.length c_v98) (r) ([0]:List Int) Al_ 1 cl_ (fun _=>True) (fun _=>False) rfl rfl RV.out (Kd.R_reads' RL.out).2.2 (fun _ _ h=>h) (fun _ h=>h.elim) (fun _ _=>trivial) L1.out (qM L1.out) ?aL100 ?_;(case aL100=>omega);intro v100 w7 ho4 hb hg hat;have n1_:=am ho4;clear RV L1 RL ho4 hg hat;have RV:=n1_;have L1:=am hb;clear n1_ hb))
 first
  | (go_ret;exact⟨_,rfl,ky_ RL.out,mCi⟩)
  | (go_ret;exact⟨_,rfl,ky_ RV.out,mCi⟩)):p:=h
set_option maxRecDepth 100000 in
theorem mEz {p:Prop} (h:p:=by
 go_enter Tryd.func35,Tryd.ntmps35
 go_wp2_with (first
  | ((with_reducible refine qE (N:=1) rfl ?_);refine jP rfl _ rfl cx rfl ?_;intro g1 hg1 w1 hb hbl;have B1:=am hb;have L1:=am (qB mCl hbl);have G1:=am (qN hb);have z0:w1.cell? ⟨g1,0,none⟩=some (.int .u16 x.op):=(qA hb 0).trans mDn;clear hg1 hb hbl)
  | (go_at_call 42;refine(qW.calls K x.op r1 r2 im r4 r5 r6 r7 0 _ (HTB.out.below mCi) HO.out).mono ?_;rintro e w2 ⟨v3,v4,rfl,h3,h4,hb⟩;obtain⟨A3,c3,rfl⟩:=Kd.R_slice h3;obtain⟨A4,c4,rfl⟩:=Kd.R_slice h4;have n0_:=am (qG B1.out hb);have n1_:=am (qB L1.out hb);have n2_:=am (qN n0_.out);clear B1 L1 G1 h3 h4 hb;have B1:=n0_;have L1:=n1_;have G1:=n2_;clear n0_ n1_ n2_)
  | ((with_reducible refine qE (N:=3) rfl ?_);refine qd rfl 79 rfl _ zh ?_;intro g3 hg3 w3 hb hbl;have n0_:=am (qG B1.out hbl);have n1_:=am (qB L1.out hbl);have n2_:=am hb;have n3_:=am (mDu:g1≠g3∧w.heap.size≤g3);clear B1 L1 hg3 hb hbl;have B1:=n0_;have L1:=n1_;have B3:=n2_;have N13:=n3_;clear n0_ n1_ n2_ n3_)
  | ((with_reducible refine qF (t:=79) (p:=3) (v:=.tmp 10) rfl ?_);refine qV rfl 79 (.tmp 3) (.tmp 10) rfl g3 #[.int .u16 r1,.string r2,.int .u8 im,.slice A3 r4.length c3,.slice A4 r5.length c4,.int .i64 r6,.bool r7] rfl rfl 79 _ B3.out zK rfl (xG _ _ _ _ _ _ _ _ _ _ _) ?_;intro w4 hb hoth hsz hbel;have n0_:=am ((hoth _ N13.out.1).trans B1.out);have n1_:=am (hbel _ _ N13.out.2 L1.out);have n2_:=am hb;have c32:w4.cell? ⟨g3,2,none⟩=some (.int .u8 im):=(qA hb 2).trans rfl;have z0:w4.cell? ⟨g1,0,none⟩=some (.int .u16 x.op):=(qA n0_.out 0).trans mDn;clear B1 L1 B3 hb hoth hsz hbel;have B1:=n0_;have L1:=n1_;have B3:=n2_;clear n0_ n1_ n2_)
  | ((with_reducible refine qE (N:=16) rfl ?_);refine jV rfl (.tmp 15) rfl x.op rfl ?_)
  | ((with_reducible refine qE (N:=5) rfl ?_);refine qd rfl 43 rfl _ jd ?_;intro g5 hg5 w5 hb hbl;have n0_:=am (qG mD5 hbl);have n1_:=am (qG mEc hbl);have n2_:=am (qB mCi hbl);have n3_:=am hb;have n4_:Aside0 (w.heap.size≤g5∧g1≠g5∧g3≠g5):=⟨by have h1:=qN B1.out;have h2:=qN B3.out;have h3:=L1.out.size;have h4:w4.heap.size≤g5:=by {rw[hg5];exact Nat.le_refl _};omega⟩;clear B1 L1 B3 hg5 hb hbl;have B1:=n0_;have B3:=n1_;have L1:=n2_;have B5:=n3_;have N5:=n4_;clear n0_ n1_ n2_ n3_ n4_)
  | ((with_reducible refine qF (t:=43) (p:=5) (v:=.tmp 16) rfl ?_);refine qV rfl 43 (.tmp 5) (.tmp 16) rfl g5 _ rfl rfl 43 _ B5.out mD8 rfl (all_oneCell_toArray (kI.K_one (w:=w) (x:={zI with op:=x.op}) (yk w {zI with op:=x.op} (Al:=none) (At:=none) (Ab:=none) (Ae:=none) (cl:=0) (ct:=0) (cb:=0) (ce:=0) rfl ⟨Nat.le_refl _,Kd.C_nil _ _⟩ ⟨Nat.le_refl _,Kd.C_nil _ _⟩ ⟨Nat.le_refl _,Kd.C_nil _ _⟩ ⟨Nat.le_refl _,Kd.C_nil _ _⟩))) ?_;intro w6 hb hoth hsz hbel;have FSF:Aside0 (FS w w6 g1 g3 g5 cx _ _):=⟨⟨(hoth _ N5.out.2.1).trans B1.out,(hoth _ N5.out.2.2).trans B3.out,hb,hbel _ _ N5.out.1 L1.out,N5.out⟩⟩;have c32:w6.cell? ⟨g3,2,none⟩=some (.int .u8 im):=(qA FSF.out.2.1 2).trans rfl;have z0:w6.cell? ⟨g1,0,none⟩=some (.int .u16 x.op):=(qA FSF.out.1 0).trans mDn;have z1:w6.cell? ⟨g1,1,none⟩=some (.int .u32 x.a):=(qA FSF.out.1 1).trans mD0;have z2:w6.cell? ⟨g1,2,none⟩=some (.int .u32 x.b):=(qA FSF.out.1 2).trans mDz;have z3:w6.cell? ⟨g1,3,none⟩=some (.int .u64 x.n):=(qA FSF.out.1 3).trans mDy;have z20:w6.cell? ⟨g1,20,none⟩=some (.slice Al x.l.length cl):=(qA FSF.out.1 20).trans mDs;have z21:w6.cell? ⟨g1,21,none⟩=some (.slice At x.t.length ct):=(qA FSF.out.1 21).trans mDr;have z25:w6.cell? ⟨g1,25,none⟩=some (.slice Ab x.body.length cb):=(qA FSF.out.1 25).trans mDt;have z26:w6.cell? ⟨g1,26,none⟩=some (.slice Ae x.els.length ce):=(qA FSF.out.1 26).trans mDx;clear B1 L1 B3 B5 hb hoth hsz hbel)
  | ((with_reducible refine qF (t:=38) (p:=119) (v:=.tmp 118) rfl ?_);refine qT rfl 38 (.tmp 119) (.tmp 118) rfl g5 21 (.slice At x.t.length ct) rfl mDv 43 _ _ FSF.out.2.2.1 mEk qA8 rfl (ze _ rfl _ _ _ _ _).2.1 ?_;intro w9 hb hoth hsz hbel;have n0_:=am (FSF.out.store hb hoth hbel);clear FSF hb hoth hsz hbel;have FSF:=n0_;clear n0_;have z21:w9.cell? ⟨g1,21,none⟩=some (.slice At x.t.length ct):=(qA FSF.out.1 21).trans mDr)
  | ((with_reducible refine qE (N:=140) rfl ?_);refine q7 rfl 43 (.tmp 5) rfl g5 0 27 (qH {zI with op:=x.op,t:=x.t} (.slice none 0 0) (.slice At x.t.length ct) (.slice none 0 0) (.slice none 0 0)) (qH {zI with op:=x.op,t:=x.t} (.slice none 0 0) (.slice At x.t.length ct) (.slice none 0 0) (.slice none 0 0)) _ rfl mDq mDc (qL {zI with op:=x.op,t:=x.t} HWW.out _ _ _ _) Tryd.underlying43 rfl zC ?_)
  | ((with_reducible refine qE (N:=141) rfl ?_);refine q7 rfl 43 (.tmp 1) rfl g1 0 27 cx cx _ rfl mE mCw HXL.out Tryd.underlying43 rfl zC ?_)
  | (go_at_call 36;refine(HF.out _ mC0).mono ?_;rintro e w11 ⟨rfl,hb⟩;have n0_:=am (FS.below mD7 hb);clear FSF hb;have FSF:=n0_;clear n0_;have z25:w11.cell? ⟨g1,25,none⟩=some (.slice Ab x.body.length cb):=(qA FSF.out.1 25).trans mDt;have z26:w11.cell? ⟨g1,26,none⟩=some (.slice Ae x.els.length ce):=(qA FSF.out.1 26).trans mDx;have y25:=(qCc FSF.out.2.2.1 HWW.out).2.2.1;have y26:=(qCc FSF.out.2.2.1 HWW.out).2.2.2)
  | ((with_reducible refine qF (t:=43) (p:=5) (v:=.tmp 16) rfl ?_);refine qV rfl 43 (.tmp 5) (.tmp 16) rfl g5 _ rfl rfl 43 _ B5.out mD8 rfl (all_oneCell_toArray (kI.K_one (w:=w) (x:={zI with op:=x.op}) (yk w {zI with op:=x.op} (Al:=none) (At:=none) (Ab:=none) (Ae:=none) (cl:=0) (ct:=0) (cb:=0) (ce:=0) rfl ⟨Nat.le_refl _,Kd.C_nil _ _⟩ ⟨Nat.le_refl _,Kd.C_nil _ _⟩ ⟨Nat.le_refl _,Kd.C_nil _ _⟩ ⟨Nat.le_refl _,Kd.C_nil _ _⟩))) ?_;intro w6 hb hoth hsz hbel;have FSF:Aside0 (FS w w6 g1 g3 g5 cx _ _):=⟨⟨(hoth _ N5.out.2.1).trans B1.out,(hoth _ N5.out.2.2).trans B3.out,hb,hbel _ _ N5.out.1 L1.out,N5.out⟩⟩;have c32:w6.cell? ⟨g3,2,none⟩=some (.int .u8 im):=(qA FSF.out.2.1 2).trans rfl;have z0:w6.cell? ⟨g1,0,none⟩=some (.int .u16 x.op):=(qA FSF.out.1 0).trans mDn;have z1:w6.cell? ⟨g1,1,none⟩=some (.int .u32 x.a):=(qA FSF.out.1 1).trans mD0;have z2:w6.cell? ⟨g1,2,none⟩=some (.int .u32 x.b):=(qA FSF.out.1 2).trans mDz;have z3:w6.cell? ⟨g1,3,none⟩=some (.int .u64 x.n):=(qA FSF.out.1 3).trans mDy;have z20:w6.cell? ⟨g1,20,none⟩=some (.slice Al x.l.length cl):=(qA FSF.out.1 20).trans mDs;have z21:w6.cell? ⟨g1,21,none⟩=some (.slice (some ad) x.t.length ct):=(qA FSF.out.1 21).trans mDr;have z25:w6.cell? ⟨g1,25,none⟩=some (.slice Ab x.body.length cb):=(qA FSF.out.1 25).trans mDt;have z26:w6.cell? ⟨g1,26,none⟩=some (.slice Ae x.els.length ce):=(qA FSF.out.1 26).trans mDx;clear B1 L1 B3 B5 hb hoth hsz hbel)
  | ((with_reducible refine qF (t:=38) (p:=119) (v:=.tmp 118) rfl ?_);refine qT rfl 38 (.tmp 119) (.tmp 118) rfl g5 21 (.slice (some ad) x.t.length ct) rfl mDv 43 _ _ FSF.out.2.2.1 mEk qA8 rfl (ze _ rfl _ _ _ _ _).2.1 ?_;intro w9 hb hoth hsz hbel;have n0_:=am (FSF.out.store hb hoth hbel);clear FSF hb hoth hsz hbel;have FSF:=n0_;clear n0_;have z21:w9.cell? ⟨g1,21,none⟩=some (.slice (some ad) x.t.length ct):=(qA FSF.out.1 21).trans mDr;have y0:w9.cell? ad=some (.int .u8 (rd x.t 0)):=(FSF.out.bel.cell (World.block_lt_of_cell? w _ HY.out)).trans HY.out)
  | (go_at_call 54;refine(HRF.out _).mono ?_;rintro e w10 ⟨rfl,hd⟩;have n0_:=am (FS.below mD7 hd.below);clear FSF hd;have FSF:=n0_;clear n0_)
  | ((with_reducible refine qE (N:=140) rfl ?_);refine q7 rfl 43 (.tmp 5) rfl g5 0 27 (qH {zI with op:=x.op,t:=x.t} (.slice none 0 0) (.slice (some ad) x.t.length ct) (.slice none 0 0) (.slice none 0 0)) (qH {zI with op:=x.op,t:=x.t} (.slice none 0 0) (.slice (some ad) x.t.length ct) (.slice none 0 0) (.slice none 0 0)) _ rfl mDq mDc (qL {zI with op:=x.op,t:=x.t} HWW.out _ _ _ _) Tryd.underlying43 rfl zC ?_)
  | ((with_reducible refine qF (t:=38) (p:=136) (v:=.tmp 135) rfl ?_);refine qT rfl 38 (.tmp 136) (.tmp 135) rfl g5 21 (.slice At x.t.length ct) rfl mDv 43 _ _ FSF.out.2.2.1 mEk qA8 rfl (ze _ rfl _ _ _ _ _).2.1 ?_;intro w9 hb hoth hsz hbel;have n0_:=am (FSF.out.store hb hoth hbel);clear FSF hb hoth hsz hbel;have FSF:=n0_;clear n0_;have z21:w9.cell? ⟨g1,21,none⟩=some (.slice At x.t.length ct):=(qA FSF.out.1 21).trans mDr)
  | (go_at_call 55;refine(HCF.out _ mC0).mono ?_;rintro e w10 ⟨rfl,hb⟩;have n0_:=am (FS.below mD7 hb);clear FSF hb;have FSF:=n0_;clear n0_)
  | ((with_reducible refine qE (N:=140) rfl ?_);refine q7 rfl 43 (.tmp 5) rfl g5 0 27 (qH {zI with op:=x.op} (.slice none 0 0) (.slice none 0 0) (.slice none 0 0) (.slice none 0 0)) (qH {zI with op:=x.op} (.slice none 0 0) (.slice none 0 0) (.slice none 0 0) (.slice none 0 0)) _ rfl mDq (by rw[List.drop_zero];exact List.take_of_length_le (Nat.le_of_eq (qL {zI with op:=x.op} HWW.out _ _ _ _))) (qL {zI with op:=x.op} HWW.out _ _ _ _) Tryd.underlying43 rfl zC ?_))
 first
  | (all_goals go_ret;all_goals exact⟨by cases fl <;> cases bb <;> cases ee <;> (first|cases ll|skip) <;> first|rfl|contradiction,by repeat (first|exact FSF.out.bel|exact FS.bel FSF.out|apply qJ|apply qP)⟩)):p:=h
end Go.Proofs.YtobldeamemmokaaDoor
namespace Go.Proofs.YtobldeamemmokaaDoor.P
open Go.RowKit Go.Proofs.YtobldeamemmokaaDoorW.PrintWords Go.Proofs.YtobldeamemmokaaDoorW.PrintLast Go.Proofs.YtobldeamemmokaaDoorW.PrintMore
set_option maxRecDepth 100000 in
theorem qF8 (K:Nat)(x:I)(w:World){Al At Ab Ae:Option Addr}{cl ct cb ce:Nat}{r1 im:Int}{r2:ByteArray}{r4 r5:List Int}{r6:Int}{r7:Bool}(hT:YtobldeamemmokaaDoorTabs.Tab w)(him:im=20∨im=22)(ho:qW.f K x.op=some (r1,r2,im,r4,r5,r6,r7,0))(h16:x.v.length=16)
 (h1:L2 w x Al cl)(h2:T2 w x At ct):
 xK x Al At Ab Ae cl ct cb ce w ((qz {zI with op:=x.op,n:=jD x.n} x && (x.body.length==0 && x.els.length==0))):=by
 unfold xK
 obtain⟨cx,hcx⟩:=ex_ (qH x (.slice Al x.l.length cl) (.slice At x.t.length ct) (.slice Ab x.body.length cb) (.slice Ae x.els.length ce))
 have X:=qa x h16 (.slice Al x.l.length cl) (.slice At x.t.length ct) (.slice Ab x.body.length cb) (.slice Ae x.els.length ce)
 have XL:=qL x h16 (.slice Al x.l.length cl) (.slice At x.t.length ct) (.slice Ab x.body.length cb) (.slice Ae x.els.length ce)
 have hW16:({zI with op:=x.op,n:=jD x.n}:I).v.length=16:=rfl
 have HF:=am (fun(W:World) (hW:Below w.heap.size w W)=>zM {zI with op:=x.op,n:=jD x.n} x W (Al:=none) (At:=none) (cl:=0) (ct:=0) (.slice none 0 0) (.slice none 0 0) (.slice Ab x.body.length cb) (.slice Ae x.els.length ce) hW16 h16 ⟨Nat.le_refl _,Kd.C_nil _ _⟩ ⟨Nat.le_refl _,Kd.C_nil _ _⟩ ⟨h1.1,Kd.C_below h1.2 hW⟩ ⟨h2.1,Kd.C_below h2.2 hW⟩)
 rw[← hcx] at X XL ⊢
 rw[← hcx] at HF
 have HX:=am X
 have HXL:=am XL
 have H16:=am h16
 have HW16:=am (rfl:zI.v.length=16)
 have HWW:=am hW16
 have HTB:=am hT
 have HO:=am ho
 clear X XL hT ho h1 h2 hcx hW16 h16
 obtain⟨fl,hfl⟩:=ey_ (qz {zI with op:=x.op,n:=jD x.n} x)
 obtain⟨bb,hbb⟩:=ey_ ((x.body.length==0))
 obtain⟨ee,hee⟩:=ey_ ((x.els.length==0))
 rw[hfl,hbb,hee]
 rw[hfl] at HF
 have ebb:((0:Int)==(x.body.length:Int))=(x.body.length==0):=zH _
 have eee:((0:Int)==(x.els.length:Int))=(x.els.length==0):=zH _
 rw[hbb] at ebb
 rw[hee] at eee
 clear hfl hbb hee
 rcases him with him|him
 all_goals
  have t1:=tst 1 him;have t2:=tst 2 him;have t4:=tst 4 him;have t6:=tst 6 him;have t7:=tst 7 him;have t8:=tst 8 him;have t10:=tst 10 him;have t12:=tst 12 him;have t13:=tst 13 him;have t5:=tst 5 him;have t9:=tst 9 him;have t11:=tst 11 him;have t3:=tst 3 him;have t16:=tst 16 him;have t17:=tst 17 him;have t18:=tst 18 him;have t19:=tst 19 him;have t24:=tst 24 him;have t20:=tst 20 him;have t22:=tst 22 him;have t21:=tst 21 him;have t23:=tst 23 him;have t25:=tst 25 him;have t26:=tst 26 him;clear him
  exact mEr
set_option maxRecDepth 100000 in
theorem qGJ (K:Nat)(x:I)(w:World){Al At Ab Ae:Option Addr}{cl ct cb ce:Nat}{r1 im:Int}{r2:ByteArray}{r4 r5:List Int}{r6:Int}{r7:Bool}(hT:YtobldeamemmokaaDoorTabs.Tab w)(him:im=21∨im=23)(ho:qW.f K x.op=some (r1,r2,im,r4,r5,r6,r7,0))(h16:x.v.length=16)
 (h1:L2 w x Al cl)(h2:T2 w x At ct):
 xK x Al At Ab Ae cl ct cb ce w ((qz {zI with op:=x.op,n:=x.n} x && (x.body.length==0 && x.els.length==0))):=by
 unfold xK
 obtain⟨cx,hcx⟩:=ex_ (qH x (.slice Al x.l.length cl) (.slice At x.t.length ct) (.slice Ab x.body.length cb) (.slice Ae x.els.length ce))
 have X:=qa x h16 (.slice Al x.l.length cl) (.slice At x.t.length ct) (.slice Ab x.body.length cb) (.slice Ae x.els.length ce)
 have XL:=qL x h16 (.slice Al x.l.length cl) (.slice At x.t.length ct) (.slice Ab x.body.length cb) (.slice Ae x.els.length ce)
 have hW16:({zI with op:=x.op,n:=x.n}:I).v.length=16:=rfl
 have HF:=am (fun(W:World) (hW:Below w.heap.size w W)=>zM {zI with op:=x.op,n:=x.n} x W (Al:=none) (At:=none) (cl:=0) (ct:=0) (.slice none 0 0) (.slice none 0 0) (.slice Ab x.body.length cb) (.slice Ae x.els.length ce) hW16 h16 ⟨Nat.le_refl _,Kd.C_nil _ _⟩ ⟨Nat.le_refl _,Kd.C_nil _ _⟩ ⟨h1.1,Kd.C_below h1.2 hW⟩ ⟨h2.1,Kd.C_below h2.2 hW⟩)
 rw[← hcx] at X XL ⊢
 rw[← hcx] at HF
 have HX:=am X
 have HXL:=am XL
 have H16:=am h16
 have HW16:=am (rfl:zI.v.length=16)
 have HWW:=am hW16
 have HTB:=am hT
 have HO:=am ho
 clear X XL hT ho h1 h2 hcx hW16 h16
 obtain⟨fl,hfl⟩:=ey_ (qz {zI with op:=x.op,n:=x.n} x)
 obtain⟨bb,hbb⟩:=ey_ ((x.body.length==0))
 obtain⟨ee,hee⟩:=ey_ ((x.els.length==0))
 rw[hfl,hbb,hee]
 rw[hfl] at HF
 have ebb:((0:Int)==(x.body.length:Int))=(x.body.length==0):=zH _
 have eee:((0:Int)==(x.els.length:Int))=(x.els.length==0):=zH _
 rw[hbb] at ebb
 rw[hee] at eee
 clear hfl hbb hee
 rcases him with him|him
 all_goals
  have t1:=tst 1 him;have t2:=tst 2 him;have t4:=tst 4 him;have t6:=tst 6 him;have t7:=tst 7 him;have t8:=tst 8 him;have t10:=tst 10 him;have t12:=tst 12 him;have t13:=tst 13 him;have t5:=tst 5 him;have t9:=tst 9 him;have t11:=tst 11 him;have t3:=tst 3 him;have t16:=tst 16 him;have t17:=tst 17 him;have t18:=tst 18 him;have t19:=tst 19 him;have t24:=tst 24 him;have t20:=tst 20 him;have t22:=tst 22 him;have t21:=tst 21 him;have t23:=tst 23 him;have t25:=tst 25 him;have t26:=tst 26 him;clear him
  exact mEr
set_option maxRecDepth 100000 in
theorem qHs (K:Nat)(x:I)(w:World){Al At Ab Ae:Option Addr}{cl ct cb ce:Nat}{r1 im:Int}{r2:ByteArray}{r4 r5:List Int}{r6:Int}{r7:Bool}(hT:YtobldeamemmokaaDoorTabs.Tab w)(him:im=25)(ho:qW.f K x.op=some (r1,r2,im,r4,r5,r6,r7,0))(h16:x.v.length=16)(hl:x.t.length≠1)
 (h1:L2 w x Al cl)(h2:T2 w x At ct):
 xK x Al At Ab Ae cl ct cb ce w (false && (qz {zI with op:=x.op,t:=x.t} x && (x.body.length==0 && x.els.length==0))):=by
 unfold xK
 obtain⟨cx,hcx⟩:=ex_ (qH x (.slice Al x.l.length cl) (.slice At x.t.length ct) (.slice Ab x.body.length cb) (.slice Ae x.els.length ce))
 have X:=qa x h16 (.slice Al x.l.length cl) (.slice At x.t.length ct) (.slice Ab x.body.length cb) (.slice Ae x.els.length ce)
 have XL:=qL x h16 (.slice Al x.l.length cl) (.slice At x.t.length ct) (.slice Ab x.body.length cb) (.slice Ae x.els.length ce)
 have hW16:({zI with op:=x.op,t:=x.t}:I).v.length=16:=rfl
 have HF:=am (fun(W:World) (hW:Below w.heap.size w W)=>zM {zI with op:=x.op,t:=x.t} x W (Al:=none) (At:=At) (cl:=0) (ct:=ct) (.slice none 0 0) (.slice none 0 0) (.slice Ab x.body.length cb) (.slice Ae x.els.length ce) hW16 h16 ⟨Nat.le_refl _,Kd.C_nil _ _⟩ ⟨h2.1,Kd.C_below h2.2 hW⟩ ⟨h1.1,Kd.C_below h1.2 hW⟩ ⟨h2.1,Kd.C_below h2.2 hW⟩)
 rw[← hcx] at X XL ⊢
 rw[← hcx] at HF
 have HX:=am X
 have HXL:=am XL
 have H16:=am h16
 have HW16:=am (rfl:zI.v.length=16)
 have HWW:=am hW16
 have HTB:=am hT
 have HO:=am ho
 clear X XL hT ho h1 h2 hcx hW16 h16
 obtain⟨fl,hfl⟩:=ey_ (qz {zI with op:=x.op,t:=x.t} x)
 obtain⟨bb,hbb⟩:=ey_ ((x.body.length==0))
 obtain⟨ee,hee⟩:=ey_ ((x.els.length==0))
 rw[hfl,hbb,hee]
 rw[hfl] at HF
 have ebb:((0:Int)==(x.body.length:Int))=(x.body.length==0):=zH _
 have eee:((0:Int)==(x.els.length:Int))=(x.els.length==0):=zH _
 rw[hbb] at ebb
 rw[hee] at eee
 clear hfl hbb hee
 have ell:((x.t.length:Int) != 1)=true:=by rw[bne_iff_ne];omega
 clear hl
 all_goals
  have t1:=tst 1 him;have t2:=tst 2 him;have t4:=tst 4 him;have t6:=tst 6 him;have t7:=tst 7 him;have t8:=tst 8 him;have t10:=tst 10 him;have t12:=tst 12 him;have t13:=tst 13 him;have t5:=tst 5 him;have t9:=tst 9 him;have t11:=tst 11 him;have t3:=tst 3 him;have t16:=tst 16 him;have t17:=tst 17 him;have t18:=tst 18 him;have t19:=tst 19 him;have t24:=tst 24 him;have t20:=tst 20 him;have t22:=tst 22 him;have t21:=tst 21 him;have t23:=tst 23 him;have t25:=tst 25 him;have t26:=tst 26 him;clear him
  exact mEz
set_option maxRecDepth 100000 in
theorem qG0 (K:Nat)(x:I)(w:World){Al At Ab Ae:Option Addr}{cl ct cb ce:Nat}{r1 im:Int}{r2:ByteArray}{r4 r5:List Int}{r6:Int}{r7:Bool}(hT:YtobldeamemmokaaDoorTabs.Tab w)(him:im=25)(ho:qW.f K x.op=some (r1,r2,im,r4,r5,r6,r7,0))(h16:x.v.length=16)(hl:x.t.length=1)
 (h1:L2 w x Al cl)(h2:T2 w x At ct):
 xK x Al At Ab Ae cl ct cb ce w (qAf (rd x.t 0) && (qz {zI with op:=x.op,t:=x.t} x && (x.body.length==0 && x.els.length==0))):=by
 unfold xK
 obtain⟨cx,hcx⟩:=ex_ (qH x (.slice Al x.l.length cl) (.slice At x.t.length ct) (.slice Ab x.body.length cb) (.slice Ae x.els.length ce))
 have X:=qa x h16 (.slice Al x.l.length cl) (.slice At x.t.length ct) (.slice Ab x.body.length cb) (.slice Ae x.els.length ce)
 have XL:=qL x h16 (.slice Al x.l.length cl) (.slice At x.t.length ct) (.slice Ab x.body.length cb) (.slice Ae x.els.length ce)
 have hW16:({zI with op:=x.op,t:=x.t}:I).v.length=16:=rfl
 have HF:=am (fun(W:World) (hW:Below w.heap.size w W)=>zM {zI with op:=x.op,t:=x.t} x W (Al:=none) (At:=At) (cl:=0) (ct:=ct) (.slice none 0 0) (.slice none 0 0) (.slice Ab x.body.length cb) (.slice Ae x.els.length ce) hW16 h16 ⟨Nat.le_refl _,Kd.C_nil _ _⟩ ⟨h2.1,Kd.C_below h2.2 hW⟩ ⟨h1.1,Kd.C_below h1.2 hW⟩ ⟨h2.1,Kd.C_below h2.2 hW⟩)
 rw[← hcx] at X XL ⊢
 rw[← hcx] at HF
 have HX:=am X
 have HXL:=am XL
 have H16:=am h16
 have HW16:=am (rfl:zI.v.length=16)
 have HWW:=am hW16
 have HTB:=am hT
 have HO:=am ho
 obtain⟨ad,rfl,hy⟩:=Kd.at_int h2.2 0 mDj mDj
 have hy':w.cell? ad=some (.int .u8 (rd x.t 0)):=by rw[show(0:Int).toNat=0 from rfl,Addr.add_zero'] at hy;exact hy
 have HY:=am hy'
 clear hy hy'
 clear X XL hT ho h1 h2 hcx hW16 h16
 obtain⟨fl,hfl⟩:=ey_ (qz {zI with op:=x.op,t:=x.t} x)
 obtain⟨bb,hbb⟩:=ey_ ((x.body.length==0))
 obtain⟨ee,hee⟩:=ey_ ((x.els.length==0))
 rw[hfl,hbb,hee]
 rw[hfl] at HF
 have ebb:((0:Int)==(x.body.length:Int))=(x.body.length==0):=zH _
 have eee:((0:Int)==(x.els.length:Int))=(x.els.length==0):=zH _
 rw[hbb] at ebb
 rw[hee] at eee
 clear hfl hbb hee
 have ell:((x.t.length:Int) != 1)=false:=by rw[hl];rfl
 have eln:(0:Int)<(x.t.length:Int):=mDj
 obtain⟨ll,hll⟩:=ey_ (qAf (rd x.t 0))
 rw[hll]
 have HRF:=am (fun(W:World)=>jI.calls (rd x.t 0) (qAf (rd x.t 0)) W (qEO _))
 rw[hll] at HRF
 clear hll hl
 all_goals
  have t1:=tst 1 him;have t2:=tst 2 him;have t4:=tst 4 him;have t6:=tst 6 him;have t7:=tst 7 him;have t8:=tst 8 him;have t10:=tst 10 him;have t12:=tst 12 him;have t13:=tst 13 him;have t5:=tst 5 him;have t9:=tst 9 him;have t11:=tst 11 him;have t3:=tst 3 him;have t16:=tst 16 him;have t17:=tst 17 him;have t18:=tst 18 him;have t19:=tst 19 him;have t24:=tst 24 him;have t20:=tst 20 him;have t22:=tst 22 him;have t21:=tst 21 him;have t23:=tst 23 him;have t25:=tst 25 him;have t26:=tst 26 him;clear him
  go_enter Tryd.func35,Tryd.ntmps35
  go_wp2_with (first
    | ((with_reducible refine qE (N:=1) rfl ?_);refine jP rfl _ rfl cx rfl ?_;intro g1 hg1 w1 hb hbl;have B1:=am hb;have L1:=am (qB mCl hbl);have G1:=am (qN hb);have z0:w1.cell? ⟨g1,0,none⟩=some (.int .u16 x.op):=(qA hb 0).trans mDn;clear hg1 hb hbl)
    | (go_at_call 42;refine(qW.calls K x.op r1 r2 im r4 r5 r6 r7 0 _ (HTB.out.below mCi) HO.out).mono ?_;rintro e w2 ⟨v3,v4,rfl,h3,h4,hb⟩;obtain⟨A3,c3,rfl⟩:=Kd.R_slice h3;obtain⟨A4,c4,rfl⟩:=Kd.R_slice h4;have n0_:=am (qG B1.out hb);have n1_:=am (qB L1.out hb);have n2_:=am (qN n0_.out);clear B1 L1 G1 h3 h4 hb;have B1:=n0_;have L1:=n1_;have G1:=n2_;clear n0_ n1_ n2_)
    | ((with_reducible refine qE (N:=3) rfl ?_);refine qd rfl 79 rfl _ zh ?_;intro g3 hg3 w3 hb hbl;have n0_:=am (qG B1.out hbl);have n1_:=am (qB L1.out hbl);have n2_:=am hb;have n3_:=am (by have:=G1.out;have:=L1.out.size;rw[hg3];omega:g1≠g3∧w.heap.size≤g3);clear B1 L1 hg3 hb hbl;have B1:=n0_;have L1:=n1_;have B3:=n2_;have N13:=n3_;clear n0_ n1_ n2_ n3_)
    | ((with_reducible refine qF (t:=79) (p:=3) (v:=.tmp 10) rfl ?_);refine qV rfl 79 (.tmp 3) (.tmp 10) rfl g3 #[.int .u16 r1,.string r2,.int .u8 im,.slice A3 r4.length c3,.slice A4 r5.length c4,.int .i64 r6,.bool r7] rfl rfl 79 _ B3.out zK rfl (xG _ _ _ _ _ _ _ _ _ _ _) ?_;intro w4 hb hoth hsz hbel;have n0_:=am ((hoth _ N13.out.1).trans B1.out);have n1_:=am (hbel _ _ N13.out.2 L1.out);have n2_:=am hb;have c32:w4.cell? ⟨g3,2,none⟩=some (.int .u8 im):=(qA hb 2).trans rfl;have z0:w4.cell? ⟨g1,0,none⟩=some (.int .u16 x.op):=(qA n0_.out 0).trans mDn;clear B1 L1 B3 hb hoth hsz hbel;have B1:=n0_;have L1:=n1_;have B3:=n2_;clear n0_ n1_ n2_)
    | ((with_reducible refine qE (N:=16) rfl ?_);refine jV rfl (.tmp 15) rfl x.op rfl ?_)
    | ((with_reducible refine qE (N:=5) rfl ?_);refine qd rfl 43 rfl _ jd ?_;intro g5 hg5 w5 hb hbl;have n0_:=am (qG mD5 hbl);have n1_:=am (qG mEc hbl);have n2_:=am (qB mCi hbl);have n3_:=am hb;have n4_:Aside0 (w.heap.size≤g5∧g1≠g5∧g3≠g5):=⟨by have h1:=qN B1.out;have h2:=qN B3.out;have h3:=L1.out.size;have h4:w4.heap.size≤g5:=by {rw[hg5];exact Nat.le_refl _};omega⟩;clear B1 L1 B3 hg5 hb hbl;have B1:=n0_;have B3:=n1_;have L1:=n2_;have B5:=n3_;have N5:=n4_;clear n0_ n1_ n2_ n3_ n4_)
    | ((with_reducible refine qF (t:=43) (p:=5) (v:=.tmp 16) rfl ?_);refine qV rfl 43 (.tmp 5) (.tmp 16) rfl g5 _ rfl rfl 43 _ B5.out mD8 rfl (all_oneCell_toArray (kI.K_one (w:=w) (x:={zI with op:=x.op}) (yk w {zI with op:=x.op} (Al:=none) (At:=none) (Ab:=none) (Ae:=none) (cl:=0) (ct:=0) (cb:=0) (ce:=0) rfl ⟨Nat.le_refl _,Kd.C_nil _ _⟩ ⟨Nat.le_refl _,Kd.C_nil _ _⟩ ⟨Nat.le_refl _,Kd.C_nil _ _⟩ ⟨Nat.le_refl _,Kd.C_nil _ _⟩))) ?_;intro w6 hb hoth hsz hbel;have FSF:Aside0 (FS w w6 g1 g3 g5 cx _ _):=⟨⟨(hoth _ N5.out.2.1).trans B1.out,(hoth _ N5.out.2.2).trans B3.out,hb,hbel _ _ N5.out.1 L1.out,N5.out⟩⟩;have c32:w6.cell? ⟨g3,2,none⟩=some (.int .u8 im):=(qA FSF.out.2.1 2).trans rfl;have z0:w6.cell? ⟨g1,0,none⟩=some (.int .u16 x.op):=(qA FSF.out.1 0).trans mDn;have z1:w6.cell? ⟨g1,1,none⟩=some (.int .u32 x.a):=(qA FSF.out.1 1).trans mD0;have z2:w6.cell? ⟨g1,2,none⟩=some (.int .u32 x.b):=(qA FSF.out.1 2).trans mDz;have z3:w6.cell? ⟨g1,3,none⟩=some (.int .u64 x.n):=(qA FSF.out.1 3).trans mDy;have z20:w6.cell? ⟨g1,20,none⟩=some (.slice Al x.l.length cl):=(qA FSF.out.1 20).trans mDs;have z21:w6.cell? ⟨g1,21,none⟩=some (.slice (some ad) x.t.length ct):=(qA FSF.out.1 21).trans mDr;have z25:w6.cell? ⟨g1,25,none⟩=some (.slice Ab x.body.length cb):=(qA FSF.out.1 25).trans mDt;have z26:w6.cell? ⟨g1,26,none⟩=some (.slice Ae x.els.length ce):=(qA FSF.out.1 26).trans mDx;clear B1 L1 B3 B5 hb hoth hsz hbel)
    | ((with_reducible refine qF (t:=38) (p:=119) (v:=.tmp 118) rfl ?_);refine qT rfl 38 (.tmp 119) (.tmp 118) rfl g5 21 (.slice (some ad) x.t.length ct) rfl mDv 43 _ _ FSF.out.2.2.1 (by rw[List.size_toArray,qL _ rfl];exact mDl) qA8 rfl (ze _ rfl _ _ _ _ _).2.1 ?_;intro w9 hb hoth hsz hbel;have n0_:=am (FSF.out.store hb hoth hbel);clear FSF hb hoth hsz hbel;have FSF:=n0_;clear n0_;have z21:w9.cell? ⟨g1,21,none⟩=some (.slice (some ad) x.t.length ct):=(qA FSF.out.1 21).trans mDr;have y0:w9.cell? ad=some (.int .u8 (rd x.t 0)):=(FSF.out.bel.cell (World.block_lt_of_cell? w _ HY.out)).trans HY.out)
    | (go_at_call 54;refine(HRF.out _).mono ?_;rintro e w10 ⟨rfl,hd⟩;have n0_:=am (FS.below mD7 hd.below);clear FSF hd;have FSF:=n0_;clear n0_)
    | ((with_reducible refine qE (N:=140) rfl ?_);refine q7 rfl 43 (.tmp 5) rfl g5 0 27 (qH {zI with op:=x.op,t:=x.t} (.slice none 0 0) (.slice (some ad) x.t.length ct) (.slice none 0 0) (.slice none 0 0)) (qH {zI with op:=x.op,t:=x.t} (.slice none 0 0) (.slice (some ad) x.t.length ct) (.slice none 0 0) (.slice none 0 0)) _ rfl mDq mDc (qL {zI with op:=x.op,t:=x.t} HWW.out _ _ _ _) Tryd.underlying43 rfl zC ?_)
    | ((with_reducible refine qE (N:=141) rfl ?_);refine q7 rfl 43 (.tmp 1) rfl g1 0 27 cx cx _ rfl mE mCw HXL.out Tryd.underlying43 rfl zC ?_)
    | (go_at_call 36;refine(HF.out _ mC0).mono ?_;rintro e w11 ⟨rfl,hb⟩;have n0_:=am (FS.below mD7 hb);clear FSF hb;have FSF:=n0_;clear n0_;have z25:w11.cell? ⟨g1,25,none⟩=some (.slice Ab x.body.length cb):=(qA FSF.out.1 25).trans mDt;have z26:w11.cell? ⟨g1,26,none⟩=some (.slice Ae x.els.length ce):=(qA FSF.out.1 26).trans mDx;have y25:=(qCc FSF.out.2.2.1 HWW.out).2.2.1;have y26:=(qCc FSF.out.2.2.1 HWW.out).2.2.2))
  all_goals go_ret
  all_goals exact⟨by cases fl <;> cases bb <;> cases ee <;> cases ll <;> first|rfl|contradiction,by repeat (first|exact FSF.out.bel|exact FS.bel FSF.out|apply qJ|apply qP)⟩
set_option maxRecDepth 100000 in
theorem qIl (K:Nat)(x:I)(w:World){Al At Ab Ae:Option Addr}{cl ct cb ce:Nat}{r1 im:Int}{r2:ByteArray}{r4 r5:List Int}{r6:Int}{r7:Bool}(hT:YtobldeamemmokaaDoorTabs.Tab w)(him:im=26)(ho:qW.f K x.op=some (r1,r2,im,r4,r5,r6,r7,0))(h16:x.v.length=16)
 (h1:L2 w x Al cl)(h2:T2 w x At ct):
 xK x Al At Ab Ae cl ct cb ce w (x.t.all tyB && (qz {zI with op:=x.op,t:=x.t} x && (x.body.length==0 && x.els.length==0))):=by
 unfold xK
 obtain⟨cx,hcx⟩:=ex_ (qH x (.slice Al x.l.length cl) (.slice At x.t.length ct) (.slice Ab x.body.length cb) (.slice Ae x.els.length ce))
 have X:=qa x h16 (.slice Al x.l.length cl) (.slice At x.t.length ct) (.slice Ab x.body.length cb) (.slice Ae x.els.length ce)
 have XL:=qL x h16 (.slice Al x.l.length cl) (.slice At x.t.length ct) (.slice Ab x.body.length cb) (.slice Ae x.els.length ce)
 have hW16:({zI with op:=x.op,t:=x.t}:I).v.length=16:=rfl
 have HF:=am (fun(W:World) (hW:Below w.heap.size w W)=>zM {zI with op:=x.op,t:=x.t} x W (Al:=none) (At:=At) (cl:=0) (ct:=ct) (.slice none 0 0) (.slice none 0 0) (.slice Ab x.body.length cb) (.slice Ae x.els.length ce) hW16 h16 ⟨Nat.le_refl _,Kd.C_nil _ _⟩ ⟨h2.1,Kd.C_below h2.2 hW⟩ ⟨h1.1,Kd.C_below h1.2 hW⟩ ⟨h2.1,Kd.C_below h2.2 hW⟩)
 rw[← hcx] at X XL ⊢
 rw[← hcx] at HF
 have HX:=am X
 have HXL:=am XL
 have H16:=am h16
 have HW16:=am (rfl:zI.v.length=16)
 have HWW:=am hW16
 have HTB:=am hT
 have HO:=am ho
 have HCF:=am (fun(W:World) (hW:Below w.heap.size w W)=>qBF At ct x.t W h2.1 (Kd.C_below h2.2 hW))
 clear X XL hT ho h1 h2 hcx hW16 h16
 obtain⟨fl,hfl⟩:=ey_ (qz {zI with op:=x.op,t:=x.t} x)
 obtain⟨bb,hbb⟩:=ey_ ((x.body.length==0))
 obtain⟨ee,hee⟩:=ey_ ((x.els.length==0))
 rw[hfl,hbb,hee]
 rw[hfl] at HF
 have ebb:((0:Int)==(x.body.length:Int))=(x.body.length==0):=zH _
 have eee:((0:Int)==(x.els.length:Int))=(x.els.length==0):=zH _
 rw[hbb] at ebb
 rw[hee] at eee
 clear hfl hbb hee
 obtain⟨ll,hll⟩:=ey_ (x.t.all tyB)
 rw[hll]
 rw[hll] at HCF
 clear hll
 all_goals
  have t1:=tst 1 him;have t2:=tst 2 him;have t4:=tst 4 him;have t6:=tst 6 him;have t7:=tst 7 him;have t8:=tst 8 him;have t10:=tst 10 him;have t12:=tst 12 him;have t13:=tst 13 him;have t5:=tst 5 him;have t9:=tst 9 him;have t11:=tst 11 him;have t3:=tst 3 him;have t16:=tst 16 him;have t17:=tst 17 him;have t18:=tst 18 him;have t19:=tst 19 him;have t24:=tst 24 him;have t20:=tst 20 him;have t22:=tst 22 him;have t21:=tst 21 him;have t23:=tst 23 him;have t25:=tst 25 him;have t26:=tst 26 him;clear him
  exact mEz
set_option maxRecDepth 100000 in
theorem qI2 (K:Nat)(x:I)(w:World){Al At Ab Ae:Option Addr}{cl ct cb ce:Nat}{r1 im:Int}{r2:ByteArray}{r4 r5:List Int}{r6:Int}{r7:Bool}(hT:YtobldeamemmokaaDoorTabs.Tab w)(him:∀ k,k ∈ ([1,2,3,4,5,6,7,8,9,10,11,12,13,16,17,18,19,20,21,22,23,24,25,26]:List Int)→im≠k)(ho:qW.f K x.op=some (r1,r2,im,r4,r5,r6,r7,0))(h16:x.v.length=16)
 (h1:L2 w x Al cl)(h2:T2 w x At ct):
 xK x Al At Ab Ae cl ct cb ce w ((qz {zI with op:=x.op} x && (x.body.length==0 && x.els.length==0))):=by
 unfold xK
 obtain⟨cx,hcx⟩:=ex_ (qH x (.slice Al x.l.length cl) (.slice At x.t.length ct) (.slice Ab x.body.length cb) (.slice Ae x.els.length ce))
 have X:=qa x h16 (.slice Al x.l.length cl) (.slice At x.t.length ct) (.slice Ab x.body.length cb) (.slice Ae x.els.length ce)
 have XL:=qL x h16 (.slice Al x.l.length cl) (.slice At x.t.length ct) (.slice Ab x.body.length cb) (.slice Ae x.els.length ce)
 have hW16:({zI with op:=x.op}:I).v.length=16:=rfl
 have HF:=am (fun(W:World) (hW:Below w.heap.size w W)=>zM {zI with op:=x.op} x W (Al:=none) (At:=none) (cl:=0) (ct:=0) (.slice none 0 0) (.slice none 0 0) (.slice Ab x.body.length cb) (.slice Ae x.els.length ce) hW16 h16 ⟨Nat.le_refl _,Kd.C_nil _ _⟩ ⟨Nat.le_refl _,Kd.C_nil _ _⟩ ⟨h1.1,Kd.C_below h1.2 hW⟩ ⟨h2.1,Kd.C_below h2.2 hW⟩)
 rw[← hcx] at X XL ⊢
 rw[← hcx] at HF
 have HX:=am X
 have HXL:=am XL
 have H16:=am h16
 have HW16:=am (rfl:zI.v.length=16)
 have HWW:=am hW16
 have HTB:=am hT
 have HO:=am ho
 clear X XL hT ho h1 h2 hcx hW16 h16
 obtain⟨fl,hfl⟩:=ey_ (qz {zI with op:=x.op} x)
 obtain⟨bb,hbb⟩:=ey_ ((x.body.length==0))
 obtain⟨ee,hee⟩:=ey_ ((x.els.length==0))
 rw[hfl,hbb,hee]
 rw[hfl] at HF
 have ebb:((0:Int)==(x.body.length:Int))=(x.body.length==0):=zH _
 have eee:((0:Int)==(x.els.length:Int))=(x.els.length==0):=zH _
 rw[hbb] at ebb
 rw[hee] at eee
 clear hfl hbb hee
 all_goals
  have t1:(im==1)=false:=beq_eq_false_iff_ne.2 (him 1 mDl);have t2:(im==2)=false:=beq_eq_false_iff_ne.2 (him 2 mDl);have t4:(im==4)=false:=beq_eq_false_iff_ne.2 (him 4 mDl);have t6:(im==6)=false:=beq_eq_false_iff_ne.2 (him 6 mDl);have t7:(im==7)=false:=beq_eq_false_iff_ne.2 (him 7 mDl);have t8:(im==8)=false:=beq_eq_false_iff_ne.2 (him 8 mDl);have t10:(im==10)=false:=beq_eq_false_iff_ne.2 (him 10 mDl);have t12:(im==12)=false:=beq_eq_false_iff_ne.2 (him 12 mDl);have t13:(im==13)=false:=beq_eq_false_iff_ne.2 (him 13 mDl);have t5:(im==5)=false:=beq_eq_false_iff_ne.2 (him 5 mDl);have t9:(im==9)=false:=beq_eq_false_iff_ne.2 (him 9 mDl);have t11:(im==11)=false:=beq_eq_false_iff_ne.2 (him 11 mDl);have t3:(im==3)=false:=beq_eq_false_iff_ne.2 (him 3 mDl);have t16:(im==16)=false:=beq_eq_false_iff_ne.2 (him 16 mDl);have t17:(im==17)=false:=beq_eq_false_iff_ne.2 (him 17 mDl);have t18:(im==18)=false:=beq_eq_false_iff_ne.2 (him 18 mDl);have t19:(im==19)=false:=beq_eq_false_iff_ne.2 (him 19 mDl);have t24:(im==24)=false:=beq_eq_false_iff_ne.2 (him 24 mDl);have t20:(im==20)=false:=beq_eq_false_iff_ne.2 (him 20 mDl);have t22:(im==22)=false:=beq_eq_false_iff_ne.2 (him 22 mDl);have t21:(im==21)=false:=beq_eq_false_iff_ne.2 (him 21 mDl);have t23:(im==23)=false:=beq_eq_false_iff_ne.2 (him 23 mDl);have t25:(im==25)=false:=beq_eq_false_iff_ne.2 (him 25 mDl);have t26:(im==26)=false:=beq_eq_false_iff_ne.2 (him 26 mDl);clear him
  exact mEz
set_option maxRecDepth 100000 in
theorem qFS (K:Nat)(x:I)(w:World){vl vt vb ve:Value}{r1 r3:Int}{r2:ByteArray}{r4 r5:List Int}{r6 r8:Int}{r7:Bool}(hT:YtobldeamemmokaaDoorTabs.Tab w)(ho:qW.f K x.op=some (r1,r2,r3,r4,r5,r6,r7,r8))(h8:r8≠0)(h16:x.v.length=16):
 Calls Tryd.prog 35 #[.agg (qH x vl vt vb ve).toArray] w fun e w'=>e = .returned (.bool false)∧Below w.heap.size w w':=by
 obtain⟨cx,hcx⟩:=ex_ (qH x vl vt vb ve)
 have X:=qa x h16 vl vt vb ve
 rw[← hcx] at X ⊢
 have HX:=am X
 have HTB:=am hT
 have HO:=am ho
 have e8:(r8 != 0)=true:=by rw[bne_iff_ne];exact h8
 clear X hT ho h16 hcx h8
 go_enter Tryd.func35,Tryd.ntmps35
 go_wp2_with (first
  | ((with_reducible refine qE (N:=1) rfl ?_);refine jP rfl _ rfl cx rfl ?_;intro g1 hg1 w1 hb hbl;have B1:=am hb;have L1:=am (qB mCl hbl);have G1:=am (qN hb);have z0:w1.cell? ⟨g1,0,none⟩=some (.int .u16 x.op):=(qA hb 0).trans mDn;clear hg1 hb hbl)
  | (go_at_call 42;refine(qW.calls K x.op r1 r2 r3 r4 r5 r6 r7 r8 _ (HTB.out.below mCi) HO.out).mono ?_;rintro e w2 ⟨v3,v4,rfl,h3,h4,hb⟩;obtain⟨A3,c3,rfl⟩:=Kd.R_slice h3;obtain⟨A4,c4,rfl⟩:=Kd.R_slice h4;have n0_:=am (qG B1.out hb);have n1_:=am (qB L1.out hb);have n2_:=am (qN n0_.out);clear B1 L1 G1 h3 h4 hb;have B1:=n0_;have L1:=n1_;have G1:=n2_;clear n0_ n1_ n2_)
  | ((with_reducible refine qE (N:=3) rfl ?_);refine qd rfl 79 rfl _ zh ?_;intro g3 hg3 w3 hb hbl;have n0_:=am (qG B1.out hbl);have n1_:=am (qB L1.out hbl);have n2_:=am hb;have n3_:=am (mDu:g1≠g3∧w.heap.size≤g3);clear B1 L1 hg3 hb hbl;have B1:=n0_;have L1:=n1_;have B3:=n2_;have N13:=n3_;clear n0_ n1_ n2_ n3_)
  | ((with_reducible refine qF (t:=79) (p:=3) (v:=.tmp 10) rfl ?_);refine qV rfl 79 (.tmp 3) (.tmp 10) rfl g3 #[.int .u16 r1,.string r2,.int .u8 r3,.slice A3 r4.length c3,.slice A4 r5.length c4,.int .i64 r6,.bool r7] rfl rfl 79 _ B3.out zK rfl (xG _ _ _ _ _ _ _ _ _ _ _) ?_;intro w4 hb hoth hsz hbel;have n1_:=am (hbel _ _ N13.out.2 L1.out);clear B1 L1 B3 hb hoth hsz hbel;have L1:=n1_;clear n1_))
 go_ret
 exact⟨rfl,mCi⟩
def yj (im:Int)(x:I):Bool:=
 if im=1 then qDV x
 else if im=3 then (decide (0<x.l.length) && (qz {zI with op:=x.op,l:=x.l} x && (x.body.length==0 && x.els.length==0)))
 else if im=2∨im=4∨im=6∨im=7∨im=8∨im=10∨im=12∨im=13 then ((qz {zI with op:=x.op,a:=x.a} x && (x.body.length==0 && x.els.length==0)))
 else if im=5∨im=9∨im=11 then ((qz {zI with op:=x.op,a:=x.a,b:=x.b} x && (x.body.length==0 && x.els.length==0)))
 else if im=16 then ((qz {zI with op:=x.op,a:=x.a,n:=jD x.n} x && (x.body.length==0 && x.els.length==0)))
 else if im=17 then ((qz {zI with op:=x.op,a:=x.a,b:=u8n x.b,n:=jD x.n} x && (x.body.length==0 && x.els.length==0)))
 else if im=18 then ((qz {zI with op:=x.op,b:=u8n x.b} x && (x.body.length==0 && x.els.length==0)))
 else if im=19∨im=24 then ((qz {zI with op:=x.op,v:=x.v} x && (x.body.length==0 && x.els.length==0)))
 else if im=20∨im=22 then ((qz {zI with op:=x.op,n:=jD x.n} x && (x.body.length==0 && x.els.length==0)))
 else if im=21∨im=23 then ((qz {zI with op:=x.op,n:=x.n} x && (x.body.length==0 && x.els.length==0)))
 else if im=25 then (if x.t.length=1 then (qAf (rd x.t 0) && (qz {zI with op:=x.op,t:=x.t} x && (x.body.length==0 && x.els.length==0))) else false)
 else if im=26 then (x.t.all tyB && (qz {zI with op:=x.op,t:=x.t} x && (x.body.length==0 && x.els.length==0)))
 else (qz {zI with op:=x.op} x && (x.body.length==0 && x.els.length==0))
theorem qEl (K:Nat)(x:I)(w:World){Al At Ab Ae:Option Addr}{cl ct cb ce:Nat}{r1 im:Int}{r2:ByteArray}{r4 r5:List Int}{r6:Int}{r7:Bool}(hT:YtobldeamemmokaaDoorTabs.Tab w)(ho:qW.f K x.op=some (r1,r2,im,r4,r5,r6,r7,0))(h16:x.v.length=16)
 (h1:L2 w x Al cl)(h2:T2 w x At ct):
 Calls Tryd.prog 35 #[.agg (qH x (.slice Al x.l.length cl) (.slice At x.t.length ct) (.slice Ab x.body.length cb) (.slice Ae x.els.length ce)).toArray] w fun e w'=>e = .returned (.bool (yj im x))∧Below w.heap.size w w':=by
 unfold yj
 by_cases c1:im=1
 ·rw[if_pos c1]
  subst c1
  exact qGE K x w hT ho h16 h1 h2
 rw[if_neg c1]
 by_cases c_L:im=3
 ·rw[if_pos c_L]
  exact qIt K x w hT c_L ho h16 h1 h2
 rw[if_neg c_L]
 by_cases c_A:im=2∨im=4∨im=6∨im=7∨im=8∨im=10∨im=12∨im=13
 ·rw[if_pos c_A]
  exact qIW K x w hT c_A ho h16 h1 h2
 rw[if_neg c_A]
 by_cases c_AB:im=5∨im=9∨im=11
 ·rw[if_pos c_AB]
  exact qG3 K x w hT c_AB ho h16 h1 h2
 rw[if_neg c_AB]
 by_cases c_P:im=16
 ·rw[if_pos c_P]
  exact qIp K x w hT c_P ho h16 h1 h2
 rw[if_neg c_P]
 by_cases c_PL:im=17
 ·rw[if_pos c_PL]
  exact qHM K x w hT c_PL ho h16 h1 h2
 rw[if_neg c_PL]
 by_cases c_B:im=18
 ·rw[if_pos c_B]
  exact qIc K x w hT c_B ho h16 h1 h2
 rw[if_neg c_B]
 by_cases c_V:im=19∨im=24
 ·rw[if_pos c_V]
  exact qIJ K x w hT c_V ho h16 h1 h2
 rw[if_neg c_V]
 by_cases c_N32:im=20∨im=22
 ·rw[if_pos c_N32]
  exact qF8 K x w hT c_N32 ho h16 h1 h2
 rw[if_neg c_N32]
 by_cases c_N64:im=21∨im=23
 ·rw[if_pos c_N64]
  exact qGJ K x w hT c_N64 ho h16 h1 h2
 rw[if_neg c_N64]
 by_cases c25:im=25
 ·rw[if_pos c25]
  by_cases hl:x.t.length=1
  ·rw[if_pos hl]
   exact qG0 K x w hT c25 ho h16 hl h1 h2
  ·rw[if_neg hl]
   refine(qHs K x w hT c25 ho h16 hl h1 h2).mono fun e w' h=>?_
   rw[Bool.false_and] at h
   exact h
 rw[if_neg c25]
 by_cases c26:im=26
 ·rw[if_pos c26]
  exact qIl K x w hT c26 ho h16 h1 h2
 rw[if_neg c26]
 refine qI2 K x w hT ?_ ho h16 h1 h2
 intro k hk
 simp only[List.mem_cons,List.not_mem_nil,or_false] at hk
 rcases hk with rfl|rfl|rfl|rfl|rfl|rfl|rfl|rfl|rfl|rfl|rfl|rfl|rfl|rfl|rfl|rfl|rfl|rfl|rfl|rfl|rfl|rfl|rfl|rfl <;> omega
def xi (K:Nat)(x:I):Option Bool:=(qW.f K x.op).map fun q=>if q.2.2.2.2.2.2.2=0 then yj q.2.2.1 x else false
theorem qDp (K:Nat)(x:I)(b:Bool)(w:World){Al At Ab Ae:Option Addr}{cl ct cb ce:Nat}(hT:YtobldeamemmokaaDoorTabs.Tab w)(h:xi K x=some b)(h16:x.v.length=16)
 (h1:L2 w x Al cl)(h2:T2 w x At ct):
 Calls Tryd.prog 35 #[.agg (qH x (.slice Al x.l.length cl) (.slice At x.t.length ct) (.slice Ab x.body.length cb) (.slice Ae x.els.length ce)).toArray] w fun e w'=>e = .returned (.bool b)∧Below w.heap.size w w':=by
 obtain⟨⟨r1,r2,r3,r4,r5,r6,r7,r8⟩,ho,h⟩:=Option.map_eq_some_iff.1 h
 simp only at h
 by_cases h8:r8=0
 ·rw[if_pos h8] at h
  subst h8
  subst h
  exact qEl K x w hT ho h16 h1 h2
 ·rw[if_neg h8] at h
  subst h
  exact qFS K x w hT ho h8 h16
def qI4 (K:Nat)(x:I):Option (List Int):=(qW.f K x.op).bind fun q=>if q.2.2.1=1∧x.bk=0 then some [64] else none
set_option maxRecDepth 100000 in
theorem qC1 (K:Nat)(x:I)(bs:List Int)(w:World)(vl vt vb ve:Value)(hT:YtobldeamemmokaaDoorTabs.Tab w)(h:qI4 K x=some bs)(h16:x.v.length=16):
 Calls Tryd.prog 29 #[.agg (qH x vl vt vb ve).toArray] w fun e w'=>∃ v,e = .returned v∧(Kd.int .u8).R 5 w' w.heap.size (fun _=>True) v bs∧Below w.heap.size w w':=by
 obtain⟨⟨r1,r2,r3,r4,r5,r6,r7,r8⟩,ho,h⟩:=Option.bind_eq_some_iff.1 h
 have h':(if r3=1∧x.bk=0 then some [64] else none)=some bs:=h
 by_cases hc:r3=1∧x.bk=0
 rotate_left
 ·rw[if_neg hc] at h'
  cases h'
 rw[if_pos hc] at h'
 obtain rfl:=Option.some.inj h'
 obtain⟨rfl,hbk⟩:=hc
 clear h h'
 obtain⟨cx,hcx⟩:=ex_ (qH x vl vt vb ve)
 have X:=qa x h16 vl vt vb ve
 rw[← hcx] at X ⊢
 have HX:=am X
 have HTB:=am hT
 have HO:=am ho
 clear X hT ho hcx
 exact mEx
theorem yt {α:Type}{d:Kd α}{e:Nat}{W w1:World}{base:Nat}{ok:Nat→Prop}{v:Value}{xs:List α}(h:d.R e W base ok v xs)(hg:W.grownBy w1 none):d.R e w1 base ok v xs:=Kd.R_step h (fun k _ hlt=>hg.block k hlt mDp)
theorem jY (K:Nat)(a:Int)(r:List Int)(w:World)(h:qX.f K (IntKind.u64.wrap a)=some r):
 Calls Tryd.prog 43 #[.int .u32 a] w fun e w'=>∃ v,e = .returned v∧(Kd.int .u8).R 5 w' w.heap.size (fun _=>True) v r∧Below w.heap.size w w':=by
 have HH:=am (fun(W:World)=>qX.calls K _ r W h)
 clear h
 go_enter Tryd.func43,Tryd.ntmps43
 go_wp2_with (first
  | (go_at_call 41;refine(HH.out _).mono ?_;rintro e w1 ⟨v,rfl,hr,hb⟩;have HR:=am hr;have HB:=am hb;clear hr hb))
 go_ret
 exact⟨_,rfl,HR.out,HB.out⟩
def jB (x:I)(Al At:Option Addr)(cl ct:Nat)(vb ve:Value)(w:World)(bs:List Int):Prop:=Calls Tryd.prog 29 #[.agg (qH x (.slice Al x.l.length cl) (.slice At x.t.length ct) vb ve).toArray] w fun e w'=>∃ v,e = .returned v∧(Kd.int .u8).R 5 w' w.heap.size (fun _=>True) v bs∧Below w.heap.size w w'
set_option maxRecDepth 100000 in
theorem qJe (K:Nat)(x:I)(bs:List Int)(w:World){Al At:Option Addr}{cl ct:Nat}(vb ve:Value){r1 im:Int}{r2:ByteArray}{r4 r5:List Int}{r6 r8:Int}{r7:Bool}(hT:YtobldeamemmokaaDoorTabs.Tab w)(him:im=2∨im=4∨im=6∨im=7∨im=8∨im=10∨im=12)(ho:qW.f K x.op=some (r1,r2,im,r4,r5,r6,r7,r8))(h16:x.v.length=16)(h:qX.f K (IntKind.u64.wrap x.a)=some bs)
 (h1:L2 w x Al cl)(h2:T2 w x At ct):
 jB x Al At cl ct vb ve w bs:=by
 unfold jB
 obtain⟨cx,hcx⟩:=ex_ (qH x (.slice Al x.l.length cl) (.slice At x.t.length ct) vb ve)
 have X:=qa x h16 (.slice Al x.l.length cl) (.slice At x.t.length ct) vb ve
 rw[← hcx] at X ⊢
 have HX:=am X
 have HTB:=am hT
 have HO:=am ho
 have HU:=am (fun(W:World)=>jY K x.a bs W h)
 clear X hT ho hcx h1 h2 h
 rcases him with him|him|him|him|him|him|him
 all_goals
  have t1:=tst 1 him;have t2:=tst 2 him;have t4:=tst 4 him;have t6:=tst 6 him;have t7:=tst 7 him;have t8:=tst 8 him;have t10:=tst 10 him;have t12:=tst 12 him;have t13:=tst 13 him;have t5:=tst 5 him;have t9:=tst 9 him;have t11:=tst 11 him;have t3:=tst 3 him;have t14:=tst 14 him;have t15:=tst 15 him;have t16:=tst 16 him;have t17:=tst 17 him;have t18:=tst 18 him;have t19:=tst 19 him;have t24:=tst 24 him;have t20:=tst 20 him;have t22:=tst 22 him;have t21:=tst 21 him;have t23:=tst 23 him;have t25:=tst 25 him;have t26:=tst 26 him;clear him
  exact mEx
set_option maxRecDepth 100000 in
theorem qIx (K:Nat)(x:I)(bs:List Int)(w:World){Al At:Option Addr}{cl ct:Nat}(vb ve:Value){r1 im:Int}{r2:ByteArray}{r4 r5:List Int}{r6 r8:Int}{r7:Bool}(hT:YtobldeamemmokaaDoorTabs.Tab w)(him:im=1)(ho:qW.f K x.op=some (r1,r2,im,r4,r5,r6,r7,r8))(h16:x.v.length=16)(hbk:x.bk=1)(h:some [x.bv]=some bs)
 (h1:L2 w x Al cl)(h2:T2 w x At ct):
 jB x Al At cl ct vb ve w bs:=by
 unfold jB
 obtain⟨cx,hcx⟩:=ex_ (qH x (.slice Al x.l.length cl) (.slice At x.t.length ct) vb ve)
 have X:=qa x h16 (.slice Al x.l.length cl) (.slice At x.t.length ct) vb ve
 rw[← hcx] at X ⊢
 have HX:=am X
 have HTB:=am hT
 have HO:=am ho
 obtain rfl:=Option.some.inj h
 have eb0:(x.bk==0)=false:=by rw[hbk];rfl
 have eb1:(x.bk==1)=true:=by rw[hbk];rfl
 clear hbk
 clear X hT ho hcx h1 h2 h
 have t1:=tst 1 him;have t2:=tst 2 him;have t4:=tst 4 him;have t6:=tst 6 him;have t7:=tst 7 him;have t8:=tst 8 him;have t10:=tst 10 him;have t12:=tst 12 him;have t13:=tst 13 him;have t5:=tst 5 him;have t9:=tst 9 him;have t11:=tst 11 him;have t3:=tst 3 him;have t14:=tst 14 him;have t15:=tst 15 him;have t16:=tst 16 him;have t17:=tst 17 him;have t18:=tst 18 him;have t19:=tst 19 him;have t24:=tst 24 him;have t20:=tst 20 him;have t22:=tst 22 him;have t21:=tst 21 him;have t23:=tst 23 him;have t25:=tst 25 him;have t26:=tst 26 him;clear him
 exact mEx
set_option maxRecDepth 100000 in
theorem qIU (K:Nat)(x:I)(bs:List Int)(w:World){Al At:Option Addr}{cl ct:Nat}(vb ve:Value){r1 im:Int}{r2:ByteArray}{r4 r5:List Int}{r6 r8:Int}{r7:Bool}(hT:YtobldeamemmokaaDoorTabs.Tab w)(him:im=1)(ho:qW.f K x.op=some (r1,r2,im,r4,r5,r6,r7,r8))(h16:x.v.length=16)(hbk:x.bk≠0)(hbk1:x.bk≠1)(h:qu.f K (wrap64 x.bt)=some bs)
 (h1:L2 w x Al cl)(h2:T2 w x At ct):
 jB x Al At cl ct vb ve w bs:=by
 unfold jB
 obtain⟨cx,hcx⟩:=ex_ (qH x (.slice Al x.l.length cl) (.slice At x.t.length ct) vb ve)
 have X:=qa x h16 (.slice Al x.l.length cl) (.slice At x.t.length ct) vb ve
 rw[← hcx] at X ⊢
 have HX:=am X
 have HTB:=am hT
 have HO:=am ho
 have HU:=am (fun(W:World)=>qu.calls K (wrap64 x.bt) bs W h)
 have eb0:(x.bk==0)=false:=beq_eq_false_iff_ne.2 hbk
 have eb1:(x.bk==1)=false:=beq_eq_false_iff_ne.2 hbk1
 clear hbk hbk1
 clear X hT ho hcx h1 h2 h
 have t1:=tst 1 him;have t2:=tst 2 him;have t4:=tst 4 him;have t6:=tst 6 him;have t7:=tst 7 him;have t8:=tst 8 him;have t10:=tst 10 him;have t12:=tst 12 him;have t13:=tst 13 him;have t5:=tst 5 him;have t9:=tst 9 him;have t11:=tst 11 him;have t3:=tst 3 him;have t14:=tst 14 him;have t15:=tst 15 him;have t16:=tst 16 him;have t17:=tst 17 him;have t18:=tst 18 him;have t19:=tst 19 him;have t24:=tst 24 him;have t20:=tst 20 him;have t22:=tst 22 him;have t21:=tst 21 him;have t23:=tst 23 him;have t25:=tst 25 him;have t26:=tst 26 him;clear him
 exact mEx
set_option maxRecDepth 100000 in
theorem qIL (K:Nat)(x:I)(bs:List Int)(w:World){Al At:Option Addr}{cl ct:Nat}(vb ve:Value){r1 im:Int}{r2:ByteArray}{r4 r5:List Int}{r6 r8:Int}{r7:Bool}(hT:YtobldeamemmokaaDoorTabs.Tab w)(him:im=14)(ho:qW.f K x.op=some (r1,r2,im,r4,r5,r6,r7,r8))(h16:x.v.length=16)(h:some [0]=some bs)
 (h1:L2 w x Al cl)(h2:T2 w x At ct):
 jB x Al At cl ct vb ve w bs:=by
 unfold jB
 obtain⟨cx,hcx⟩:=ex_ (qH x (.slice Al x.l.length cl) (.slice At x.t.length ct) vb ve)
 have X:=qa x h16 (.slice Al x.l.length cl) (.slice At x.t.length ct) vb ve
 rw[← hcx] at X ⊢
 have HX:=am X
 have HTB:=am hT
 have HO:=am ho
 obtain rfl:=Option.some.inj h
 clear X hT ho hcx h1 h2 h
 have t1:=tst 1 him;have t2:=tst 2 him;have t4:=tst 4 him;have t6:=tst 6 him;have t7:=tst 7 him;have t8:=tst 8 him;have t10:=tst 10 him;have t12:=tst 12 him;have t13:=tst 13 him;have t5:=tst 5 him;have t9:=tst 9 him;have t11:=tst 11 him;have t3:=tst 3 him;have t14:=tst 14 him;have t15:=tst 15 him;have t16:=tst 16 him;have t17:=tst 17 him;have t18:=tst 18 him;have t19:=tst 19 him;have t24:=tst 24 him;have t20:=tst 20 him;have t22:=tst 22 him;have t21:=tst 21 him;have t23:=tst 23 him;have t25:=tst 25 him;have t26:=tst 26 him;clear him
 exact mEx
set_option maxRecDepth 100000 in
theorem qH4 (K:Nat)(x:I)(bs:List Int)(w:World){Al At:Option Addr}{cl ct:Nat}(vb ve:Value){r1 im:Int}{r2:ByteArray}{r4 r5:List Int}{r6 r8:Int}{r7:Bool}(hT:YtobldeamemmokaaDoorTabs.Tab w)(him:im=15)(ho:qW.f K x.op=some (r1,r2,im,r4,r5,r6,r7,r8))(h16:x.v.length=16)(h:some [0,0]=some bs)
 (h1:L2 w x Al cl)(h2:T2 w x At ct):
 jB x Al At cl ct vb ve w bs:=by
 unfold jB
 obtain⟨cx,hcx⟩:=ex_ (qH x (.slice Al x.l.length cl) (.slice At x.t.length ct) vb ve)
 have X:=qa x h16 (.slice Al x.l.length cl) (.slice At x.t.length ct) vb ve
 rw[← hcx] at X ⊢
 have HX:=am X
 have HTB:=am hT
 have HO:=am ho
 obtain rfl:=Option.some.inj h
 clear X hT ho hcx h1 h2 h
 have t1:=tst 1 him;have t2:=tst 2 him;have t4:=tst 4 him;have t6:=tst 6 him;have t7:=tst 7 him;have t8:=tst 8 him;have t10:=tst 10 him;have t12:=tst 12 him;have t13:=tst 13 him;have t5:=tst 5 him;have t9:=tst 9 him;have t11:=tst 11 him;have t3:=tst 3 him;have t14:=tst 14 him;have t15:=tst 15 him;have t16:=tst 16 him;have t17:=tst 17 him;have t18:=tst 18 him;have t19:=tst 19 him;have t24:=tst 24 him;have t20:=tst 20 him;have t22:=tst 22 him;have t21:=tst 21 him;have t23:=tst 23 him;have t25:=tst 25 him;have t26:=tst 26 him;clear him
 exact mEx
set_option maxRecDepth 100000 in
theorem qJB (K:Nat)(x:I)(bs:List Int)(w:World){Al At:Option Addr}{cl ct:Nat}(vb ve:Value){r1 im:Int}{r2:ByteArray}{r4 r5:List Int}{r6 r8:Int}{r7:Bool}(hT:YtobldeamemmokaaDoorTabs.Tab w)(him:im=18)(ho:qW.f K x.op=some (r1,r2,im,r4,r5,r6,r7,r8))(h16:x.v.length=16)(h:some [x.b % 256]=some bs)
 (h1:L2 w x Al cl)(h2:T2 w x At ct):
 jB x Al At cl ct vb ve w bs:=by
 unfold jB
 obtain⟨cx,hcx⟩:=ex_ (qH x (.slice Al x.l.length cl) (.slice At x.t.length ct) vb ve)
 have X:=qa x h16 (.slice Al x.l.length cl) (.slice At x.t.length ct) vb ve
 rw[← hcx] at X ⊢
 have HX:=am X
 have HTB:=am hT
 have HO:=am ho
 obtain rfl:=Option.some.inj h
 clear X hT ho hcx h1 h2 h
 have t1:=tst 1 him;have t2:=tst 2 him;have t4:=tst 4 him;have t6:=tst 6 him;have t7:=tst 7 him;have t8:=tst 8 him;have t10:=tst 10 him;have t12:=tst 12 him;have t13:=tst 13 him;have t5:=tst 5 him;have t9:=tst 9 him;have t11:=tst 11 him;have t3:=tst 3 him;have t14:=tst 14 him;have t15:=tst 15 him;have t16:=tst 16 him;have t17:=tst 17 him;have t18:=tst 18 him;have t19:=tst 19 him;have t24:=tst 24 him;have t20:=tst 20 him;have t22:=tst 22 him;have t21:=tst 21 him;have t23:=tst 23 him;have t25:=tst 25 him;have t26:=tst 26 him;clear him
 exact mEx
set_option maxRecDepth 100000 in
theorem qHz (K:Nat)(x:I)(bs:List Int)(w:World){Al At:Option Addr}{cl ct:Nat}(vb ve:Value){r1 im:Int}{r2:ByteArray}{r4 r5:List Int}{r6 r8:Int}{r7:Bool}(hT:YtobldeamemmokaaDoorTabs.Tab w)(him:im=20)(ho:qW.f K x.op=some (r1,r2,im,r4,r5,r6,r7,r8))(h16:x.v.length=16)(h:qu.f K (wrap64 (wrap32 x.n))=some bs)
 (h1:L2 w x Al cl)(h2:T2 w x At ct):
 jB x Al At cl ct vb ve w bs:=by
 unfold jB
 obtain⟨cx,hcx⟩:=ex_ (qH x (.slice Al x.l.length cl) (.slice At x.t.length ct) vb ve)
 have X:=qa x h16 (.slice Al x.l.length cl) (.slice At x.t.length ct) vb ve
 rw[← hcx] at X ⊢
 have HX:=am X
 have HTB:=am hT
 have HO:=am ho
 have HU:=am (fun(W:World)=>qu.calls K (wrap64 (wrap32 x.n)) bs W h)
 clear X hT ho hcx h1 h2 h
 have t1:=tst 1 him;have t2:=tst 2 him;have t4:=tst 4 him;have t6:=tst 6 him;have t7:=tst 7 him;have t8:=tst 8 him;have t10:=tst 10 him;have t12:=tst 12 him;have t13:=tst 13 him;have t5:=tst 5 him;have t9:=tst 9 him;have t11:=tst 11 him;have t3:=tst 3 him;have t14:=tst 14 him;have t15:=tst 15 him;have t16:=tst 16 him;have t17:=tst 17 him;have t18:=tst 18 him;have t19:=tst 19 him;have t24:=tst 24 him;have t20:=tst 20 him;have t22:=tst 22 him;have t21:=tst 21 him;have t23:=tst 23 him;have t25:=tst 25 him;have t26:=tst 26 him;clear him
 exact mEx
set_option maxRecDepth 100000 in
theorem qHq (K:Nat)(x:I)(bs:List Int)(w:World){Al At:Option Addr}{cl ct:Nat}(vb ve:Value){r1 im:Int}{r2:ByteArray}{r4 r5:List Int}{r6 r8:Int}{r7:Bool}(hT:YtobldeamemmokaaDoorTabs.Tab w)(him:im=22)(ho:qW.f K x.op=some (r1,r2,im,r4,r5,r6,r7,r8))(h16:x.v.length=16)(h:zD.f K x.n 4=some bs)
 (h1:L2 w x Al cl)(h2:T2 w x At ct):
 jB x Al At cl ct vb ve w bs:=by
 unfold jB
 obtain⟨cx,hcx⟩:=ex_ (qH x (.slice Al x.l.length cl) (.slice At x.t.length ct) vb ve)
 have X:=qa x h16 (.slice Al x.l.length cl) (.slice At x.t.length ct) vb ve
 rw[← hcx] at X ⊢
 have HX:=am X
 have HTB:=am hT
 have HO:=am ho
 have HU:=am (fun(W:World)=>zD.calls K x.n 4 bs W h)
 clear X hT ho hcx h1 h2 h
 have t1:=tst 1 him;have t2:=tst 2 him;have t4:=tst 4 him;have t6:=tst 6 him;have t7:=tst 7 him;have t8:=tst 8 him;have t10:=tst 10 him;have t12:=tst 12 him;have t13:=tst 13 him;have t5:=tst 5 him;have t9:=tst 9 him;have t11:=tst 11 him;have t3:=tst 3 him;have t14:=tst 14 him;have t15:=tst 15 him;have t16:=tst 16 him;have t17:=tst 17 him;have t18:=tst 18 him;have t19:=tst 19 him;have t24:=tst 24 him;have t20:=tst 20 him;have t22:=tst 22 him;have t21:=tst 21 him;have t23:=tst 23 him;have t25:=tst 25 him;have t26:=tst 26 him;clear him
 exact mEx
set_option maxRecDepth 100000 in
theorem qHl (K:Nat)(x:I)(bs:List Int)(w:World){Al At:Option Addr}{cl ct:Nat}(vb ve:Value){r1 im:Int}{r2:ByteArray}{r4 r5:List Int}{r6 r8:Int}{r7:Bool}(hT:YtobldeamemmokaaDoorTabs.Tab w)(him:im=23)(ho:qW.f K x.op=some (r1,r2,im,r4,r5,r6,r7,r8))(h16:x.v.length=16)(h:zD.f K x.n 8=some bs)
 (h1:L2 w x Al cl)(h2:T2 w x At ct):
 jB x Al At cl ct vb ve w bs:=by
 unfold jB
 obtain⟨cx,hcx⟩:=ex_ (qH x (.slice Al x.l.length cl) (.slice At x.t.length ct) vb ve)
 have X:=qa x h16 (.slice Al x.l.length cl) (.slice At x.t.length ct) vb ve
 rw[← hcx] at X ⊢
 have HX:=am X
 have HTB:=am hT
 have HO:=am ho
 have HU:=am (fun(W:World)=>zD.calls K x.n 8 bs W h)
 clear X hT ho hcx h1 h2 h
 have t1:=tst 1 him;have t2:=tst 2 him;have t4:=tst 4 him;have t6:=tst 6 him;have t7:=tst 7 him;have t8:=tst 8 him;have t10:=tst 10 him;have t12:=tst 12 him;have t13:=tst 13 him;have t5:=tst 5 him;have t9:=tst 9 him;have t11:=tst 11 him;have t3:=tst 3 him;have t14:=tst 14 him;have t15:=tst 15 him;have t16:=tst 16 him;have t17:=tst 17 him;have t18:=tst 18 him;have t19:=tst 19 him;have t24:=tst 24 him;have t20:=tst 20 him;have t22:=tst 22 him;have t21:=tst 21 him;have t23:=tst 23 him;have t25:=tst 25 him;have t26:=tst 26 him;clear him
 exact mEx
set_option maxRecDepth 100000 in
theorem qJp (K:Nat)(x:I)(bs:List Int)(w:World){Al At:Option Addr}{cl ct:Nat}(vb ve:Value){r1 im:Int}{r2:ByteArray}{r4 r5:List Int}{r6 r8:Int}{r7:Bool}(hT:YtobldeamemmokaaDoorTabs.Tab w)(him:im=25)(ho:qW.f K x.op=some (r1,r2,im,r4,r5,r6,r7,r8))(h16:x.v.length=16)(hl:0<x.t.length)(h:some [rd x.t 0]=some bs)
 (h1:L2 w x Al cl)(h2:T2 w x At ct):
 jB x Al At cl ct vb ve w bs:=by
 unfold jB
 obtain⟨ad,rfl,hy⟩:=Kd.at_int h2.2 0 mDj mDj
 have hy':w.cell? ad=some (.int .u8 (rd x.t 0)):=by rw[show(0:Int).toNat=0 from rfl,Addr.add_zero'] at hy;exact hy
 have HY:=am hy'
 have eln:(0:Int)<(x.t.length:Int):=mDj
 clear hy hy'
 obtain⟨cx,hcx⟩:=ex_ (qH x (.slice Al x.l.length cl) (.slice (some ad) x.t.length ct) vb ve)
 have X:=qa x h16 (.slice Al x.l.length cl) (.slice (some ad) x.t.length ct) vb ve
 rw[← hcx] at X ⊢
 have HX:=am X
 have HTB:=am hT
 have HO:=am ho
 obtain rfl:=Option.some.inj h
 clear X hT ho hcx h1 h2 h
 have t1:=tst 1 him;have t2:=tst 2 him;have t4:=tst 4 him;have t6:=tst 6 him;have t7:=tst 7 him;have t8:=tst 8 him;have t10:=tst 10 him;have t12:=tst 12 him;have t13:=tst 13 him;have t5:=tst 5 him;have t9:=tst 9 him;have t11:=tst 11 him;have t3:=tst 3 him;have t14:=tst 14 him;have t15:=tst 15 him;have t16:=tst 16 him;have t17:=tst 17 him;have t18:=tst 18 him;have t19:=tst 19 him;have t24:=tst 24 him;have t20:=tst 20 him;have t22:=tst 22 him;have t21:=tst 21 him;have t23:=tst 23 him;have t25:=tst 25 him;have t26:=tst 26 him;clear him
 exact mEy
set_option maxRecDepth 100000 in
theorem qJx (K:Nat)(x:I)(bs:List Int)(w:World){Al At:Option Addr}{cl ct:Nat}(vb ve:Value){r1 im:Int}{r2:ByteArray}{r4 r5:List Int}{r6 r8:Int}{r7:Bool}(hT:YtobldeamemmokaaDoorTabs.Tab w)(him:∀ k,k ∈ ([1,2,3,4,5,6,7,8,9,10,11,12,13,14,15,16,17,18,19,20,21,22,23,24,25,26]:List Int)→im≠k)(ho:qW.f K x.op=some (r1,r2,im,r4,r5,r6,r7,r8))(h16:x.v.length=16)(h:some []=some bs)
 (h1:L2 w x Al cl)(h2:T2 w x At ct):
 jB x Al At cl ct vb ve w bs:=by
 unfold jB
 obtain⟨cx,hcx⟩:=ex_ (qH x (.slice Al x.l.length cl) (.slice At x.t.length ct) vb ve)
 have X:=qa x h16 (.slice Al x.l.length cl) (.slice At x.t.length ct) vb ve
 rw[← hcx] at X ⊢
 have HX:=am X
 have HTB:=am hT
 have HO:=am ho
 obtain rfl:=Option.some.inj h
 clear X hT ho hcx h1 h2 h
 have t1:(im==1)=false:=beq_eq_false_iff_ne.2 (him 1 mDl);have t2:(im==2)=false:=beq_eq_false_iff_ne.2 (him 2 mDl);have t4:(im==4)=false:=beq_eq_false_iff_ne.2 (him 4 mDl);have t6:(im==6)=false:=beq_eq_false_iff_ne.2 (him 6 mDl);have t7:(im==7)=false:=beq_eq_false_iff_ne.2 (him 7 mDl);have t8:(im==8)=false:=beq_eq_false_iff_ne.2 (him 8 mDl);have t10:(im==10)=false:=beq_eq_false_iff_ne.2 (him 10 mDl);have t12:(im==12)=false:=beq_eq_false_iff_ne.2 (him 12 mDl);have t13:(im==13)=false:=beq_eq_false_iff_ne.2 (him 13 mDl);have t5:(im==5)=false:=beq_eq_false_iff_ne.2 (him 5 mDl);have t9:(im==9)=false:=beq_eq_false_iff_ne.2 (him 9 mDl);have t11:(im==11)=false:=beq_eq_false_iff_ne.2 (him 11 mDl);have t3:(im==3)=false:=beq_eq_false_iff_ne.2 (him 3 mDl);have t14:(im==14)=false:=beq_eq_false_iff_ne.2 (him 14 mDl);have t15:(im==15)=false:=beq_eq_false_iff_ne.2 (him 15 mDl);have t16:(im==16)=false:=beq_eq_false_iff_ne.2 (him 16 mDl);have t17:(im==17)=false:=beq_eq_false_iff_ne.2 (him 17 mDl);have t18:(im==18)=false:=beq_eq_false_iff_ne.2 (him 18 mDl);have t19:(im==19)=false:=beq_eq_false_iff_ne.2 (him 19 mDl);have t24:(im==24)=false:=beq_eq_false_iff_ne.2 (him 24 mDl);have t20:(im==20)=false:=beq_eq_false_iff_ne.2 (him 20 mDl);have t22:(im==22)=false:=beq_eq_false_iff_ne.2 (him 22 mDl);have t21:(im==21)=false:=beq_eq_false_iff_ne.2 (him 21 mDl);have t23:(im==23)=false:=beq_eq_false_iff_ne.2 (him 23 mDl);have t25:(im==25)=false:=beq_eq_false_iff_ne.2 (him 25 mDl);have t26:(im==26)=false:=beq_eq_false_iff_ne.2 (him 26 mDl);clear him
 exact mEx
set_option maxRecDepth 100000 in
theorem qHK (K:Nat)(x:I)(bs:List Int)(w:World){Al At:Option Addr}{cl ct:Nat}(vb ve:Value){r1 im:Int}{r2:ByteArray}{r4 r5:List Int}{r6 r8:Int}{r7:Bool}(hT:YtobldeamemmokaaDoorTabs.Tab w)(him:im=21)(ho:qW.f K x.op=some (r1,r2,im,r4,r5,r6,r7,r8))(h16:x.v.length=16)(h:qu.f K (wrap64 x.n)=some bs)
 (h1:L2 w x Al cl)(h2:T2 w x At ct):
 jB x Al At cl ct vb ve w bs:=by
 unfold jB
 obtain⟨cx,hcx⟩:=ex_ (qH x (.slice Al x.l.length cl) (.slice At x.t.length ct) vb ve)
 have X:=qa x h16 (.slice Al x.l.length cl) (.slice At x.t.length ct) vb ve
 rw[← hcx] at X ⊢
 have HX:=am X
 have HTB:=am hT
 have HO:=am ho
 have HU:=am (fun(W:World)=>qu.calls K (wrap64 x.n) bs W h)
 clear X hT ho hcx h1 h2 h
 have t1:=tst 1 him;have t2:=tst 2 him;have t4:=tst 4 him;have t6:=tst 6 him;have t7:=tst 7 him;have t8:=tst 8 him;have t10:=tst 10 him;have t12:=tst 12 him;have t13:=tst 13 him;have t5:=tst 5 him;have t9:=tst 9 him;have t11:=tst 11 him;have t3:=tst 3 him;have t14:=tst 14 him;have t15:=tst 15 him;have t16:=tst 16 him;have t17:=tst 17 him;have t18:=tst 18 him;have t19:=tst 19 him;have t24:=tst 24 him;have t20:=tst 20 him;have t22:=tst 22 him;have t21:=tst 21 him;have t23:=tst 23 him;have t25:=tst 25 him;have t26:=tst 26 him;clear him
 exact mEx
set_option maxRecDepth 100000 in
theorem qH9 (K:Nat)(x:I)(bs r:List Int)(w:World){Al At:Option Addr}{cl ct:Nat}(vb ve:Value){r1 im:Int}{r2:ByteArray}{r4 r5:List Int}{r6 r8:Int}{r7:Bool}(hT:YtobldeamemmokaaDoorTabs.Tab w)(him:im=13)(ho:qW.f K x.op=some (r1,r2,im,r4,r5,r6,r7,r8))(h16:x.v.length=16)(hu:qX.f K (IntKind.u64.wrap x.a)=some r)(hr:r.length<1000000)(h:r ++ [0]=bs)
 (h1:L2 w x Al cl)(h2:T2 w x At ct):
 jB x Al At cl ct vb ve w bs:=by
 unfold jB
 obtain⟨cx,hcx⟩:=ex_ (qH x (.slice Al x.l.length cl) (.slice At x.t.length ct) vb ve)
 have X:=qa x h16 (.slice Al x.l.length cl) (.slice At x.t.length ct) vb ve
 rw[← hcx] at X ⊢
 have HX:=am X
 have HTB:=am hT
 have HO:=am ho
 have HU:=am (fun(W:World)=>jY K x.a r W hu)
 subst h
 clear X hT ho hcx h1 h2 hu
 have t1:=tst 1 him;have t2:=tst 2 him;have t4:=tst 4 him;have t6:=tst 6 him;have t7:=tst 7 him;have t8:=tst 8 him;have t10:=tst 10 him;have t12:=tst 12 him;have t13:=tst 13 him;have t5:=tst 5 him;have t9:=tst 9 him;have t11:=tst 11 him;have t3:=tst 3 him;have t14:=tst 14 him;have t15:=tst 15 him;have t16:=tst 16 him;have t17:=tst 17 him;have t18:=tst 18 him;have t19:=tst 19 him;have t24:=tst 24 him;have t20:=tst 20 him;have t22:=tst 22 him;have t21:=tst 21 him;have t23:=tst 23 him;have t25:=tst 25 him;have t26:=tst 26 him;clear him
 exact mEy
theorem qJ5 {W:World}{g:Nat}{cx:List Value}{v:List Int}(hb:W.heap[g]? = some (.cells cx.toArray 43 (0,0)))(hx:(cx.drop 4).take 16=zV (Value.int .u8) v)(h16:v.length=16):(Kd.int .u8).C W (some ⟨g,4,none⟩) v.length v:=by
 have hr:=jw (n:=16) hb hx (by rw[q9];exact h16)
 refine⟨rfl,mDj,fun _=>⟨_,rfl,fun j p hj=>⟨[.int .u8 p],rfl,rfl,fun i u hi=>?_⟩⟩⟩
 have hl:=(List.getElem?_eq_some_iff.1 hi).1
 obtain rfl:i=0:=by simpa using hl
 obtain rfl:=Option.some.inj hi
 have h9:=hr j (.int .u8 p) (by rw[zV,List.getElem?_map,hj];rfl)
 rw[show((⟨g,4,none⟩:Addr).add (j*(Kd.int .u8).sz+0))=⟨g,4+j,none⟩ by rw[Addr.add_mid];simp[Kd.int,Kd.scalar]]
 exact h9
theorem qIR {ops:Array Oper}{rest:List Oper}{o:Oper}{a:Act}{w:World}{Q:Exit→Act→World→Prop}(hg:o.guard=none)(x y:Operand)(t:TypeId)(ho:o.op = .binOp .eql 24 x y t)(ad:Addr)(n c:Nat)(h1:a.eval x = .slice (some ad) n c)(h2:a.eval y = .slice none 0 0)
 (h:wpList Tryd.prog ops Q rest (a.put o.dst (.bool false)) w):wpList Tryd.prog ops Q (o::rest) a w:=by
 refine Kd.event_run hg ?_ h
 unfold execOp
 simp only[ho,h1,h2]
 kernel_rfl
set_option maxRecDepth 100000 in
theorem qDd (ad:Addr)(c:Nat)(v:List Int)(w:World)(h16:v.length=16)(hC:(Kd.int .u8).C w (some ad) v.length v):
 Calls Tryd.prog 45 #[.slice (some ad) 16 c] w fun e w'=>∃ r,e = .returned r∧(Kd.int .u8).R 5 w' w.heap.size (fun _=>True) r v∧Below w.heap.size w w':=by
 have HC:=am hC
 have H16:=am h16
 have L1:=am (Below.refl w.heap.size w)
 clear hC h16
 go_enter Tryd.func45,Tryd.ntmps45
 go_wp2_with (first
  | ((with_reducible refine qE (N:=4) rfl ?_);refine qIR rfl (.tmp 3) (.const (.slice none 0 0)) 24 rfl ad 16 c rfl rfl ?_)
  | ((with_reducible refine qE (N:=5) rfl ?_);refine Kd.R_lit (Kd.int .u8) (w0:=w) w.heap.size 5 ?hg (N:=5) ?hd (xs:=([]:List Int)) (inner:=[]) (ok:=fun _=>True) (okp:=fun _=>True) ?hr ?hp (fun _ hk=>hk) trivial L1.out (Nat.le_refl _) mDp ?_;(case hd=>rfl);(case hg=>rfl);(case hr=>first|(go_simp;done)|(go_simp;rfl));(case hp=>exact Reps.none _ _);intro v5 w1 ho4 hb hg_ hnew_;obtain⟨Al_,cl_,rfl⟩:=Kd.R_slice ho4;have RV:=am ho4;clear L1 ho4 hg_ hnew_;have L1:=am hb;clear hb)
  | ((with_reducible refine qZ (b:=.append) (xs:=#[.tmp 5,.tmp 6]) rfl ?_);at_builtin;refine Kd.R_append_rows (Kd.int .u8) (w0:=w) w.heap.size rfl (.tmp 5) (.tmp 6) 24 5 (.int .u8 0) 1 rfl Tryd.underlying24 jM rfl mDl mDl (.slice Al_ 0 cl_) [] v (some ad) 16 c (fun _=>True) (fun _=>False) rfl rfl RV.out (by have h9:=Kd.C_below HC.out L1.out;rw[H16.out] at h9;exact h9) (fun _ _ h=>h) (fun _ h=>h.elim) (fun _ _=>trivial) L1.out (qM L1.out) ?aL ?_;(case aL=>exact mDl);intro v7 w2 ho4 hb hg hat;have n1_:=am ho4;clear RV L1 ho4 hg hat;have RV:=n1_;have L1:=am hb;clear n1_ hb))
 go_ret
 exact⟨_,rfl,RV.out,L1.out⟩
set_option maxRecDepth 100000 in
theorem qJF (K:Nat)(x:I)(bs:List Int)(w:World){Al At:Option Addr}{cl ct:Nat}(vb ve:Value){r1 im:Int}{r2:ByteArray}{r4 r5:List Int}{r6 r8:Int}{r7:Bool}(hT:YtobldeamemmokaaDoorTabs.Tab w)(him:im=19∨im=24)(ho:qW.f K x.op=some (r1,r2,im,r4,r5,r6,r7,r8))(h16:x.v.length=16)(h:some x.v=some bs)
 (h1:L2 w x Al cl)(h2:T2 w x At ct):
 jB x Al At cl ct vb ve w bs:=by
 unfold jB
 obtain⟨cx,hcx⟩:=ex_ (qH x (.slice Al x.l.length cl) (.slice At x.t.length ct) vb ve)
 have X:=qa x h16 (.slice Al x.l.length cl) (.slice At x.t.length ct) vb ve
 rw[← hcx] at X ⊢
 have XV:=qCf x h16 (.slice Al x.l.length cl) (.slice At x.t.length ct) vb ve
 rw[← hcx] at XV
 have HX4:=am XV
 have H16:=am h16
 clear XV
 have HX:=am X
 have HTB:=am hT
 have HO:=am ho
 obtain rfl:=Option.some.inj h
 clear X hT ho hcx h1 h2 h
 rcases him with him|him
 all_goals
  have t1:=tst 1 him;have t2:=tst 2 him;have t4:=tst 4 him;have t6:=tst 6 him;have t7:=tst 7 him;have t8:=tst 8 him;have t10:=tst 10 him;have t12:=tst 12 him;have t13:=tst 13 him;have t5:=tst 5 him;have t9:=tst 9 him;have t11:=tst 11 him;have t3:=tst 3 him;have t14:=tst 14 him;have t15:=tst 15 him;have t16:=tst 16 him;have t17:=tst 17 him;have t18:=tst 18 him;have t19:=tst 19 him;have t24:=tst 24 him;have t20:=tst 20 him;have t22:=tst 22 him;have t21:=tst 21 him;have t23:=tst 23 him;have t25:=tst 25 him;have t26:=tst 26 him;clear him
  exact mEx
theorem qAx {P:Program} {ops:Array Oper} {Q:Exit→Act→World→Prop} {oi:Oper} {N:Option Tmp} {a:Act} {w:World} {K:Act→World→Prop} {f:FuncId} {fn:Func} {az:Array Operand} {ts:Array TypeId} (o:Operand) (hf:P.funcs[f]? = some fn) (hname:(fn.name == "runtime.NumGoroutine")=false) (hb:fn.body.isSome=true) (args:Array Value)
 (hw:Region.wanted oi (yielded ops a.tmps)=true)(hN:oi.dst=N)(hop:oi.op = .call {callee:=.value o,args:=az,argTypes:=ts})(hov:a.eval o = .func (.func f) #[] #[])(hargs:az.map a.eval=args)
 (h:Calls P f args w fun e w'=>∃ v,e = .returned v∧K (a.put N v) w'):if Region.wanted oi (yielded ops a.tmps)=true then Oper.wp P oi a w K Q else K (a.put N undef) w:=by
 refine qHX f args hw hN ?_ h
 have he:=qBt hf hname hb args w
 unfold execOp
 simp[hop,resolve,Deferred.ofValue,invoke,hargs,hov,he]
def qi.T22:Bool × List (List Nat × List Nat):=(true,[([],[]),([],[]),([1],[1]),([0,2],[0,2]),([],[]),([],[]),([5],[5]),([4,6,3],[4,6]),([3,7,7],[3,7]),([8,8,0,1,2,3,4,5,6,7,8],[8])])
def qi.B22:List Nat:=[0,0,2,7,0,0,32,127,255,511]
theorem qi.tab22:jO .any (xL Tryd.f29 22)=qi.T22:=mDh
theorem qi.bits22:zc qi.T22.2 qi.B22=true:=mDh
def qi.T38:Bool × List (List Nat × List Nat):=(true,[([],[]),([],[]),([1],[1]),([0,2],[0,2]),([],[]),([4],[4]),([5,3],[5]),([3,6,6],[3,6]),([7,7,0,1,2,3,4,5,6,7],[7])])
def qi.B38:List Nat:=[0,0,2,7,0,16,63,127,255]
theorem qi.tab38:jO .any (xL Tryd.f29 38)=qi.T38:=mDh
theorem qi.bits38:zc qi.T38.2 qi.B38=true:=mDh
def qi.T40:Bool × List (List Nat × List Nat):=(true,[([],[]),([],[]),([1],[1]),([0,2],[0,2]),([],[]),([4],[4]),([5,3],[5]),([3,6,6],[3,6]),([],[]),([8],[8]),([9],[9]),([10],[10]),([7,11,7],[7,11]),([12,12,0,1,2,3,4,5,6,7,8,9,10,11,12],[12])])
def qi.B40:List Nat:=[0,0,2,7,0,16,63,127,0,256,768,1792,4095,8191]
theorem qi.tab40:jO .any (xL Tryd.f29 40)=qi.T40:=mDh
theorem qi.bits40:zc qi.T40.2 qi.B40=true:=mDh
set_option maxRecDepth 100000 in
theorem qIY (K:Nat)(x:I)(bs r r2b:List Int)(w:World){Al At:Option Addr}{cl ct:Nat}(vb ve:Value){r1 im:Int}{r2:ByteArray}{r4 r5:List Int}{r6 r8:Int}{r7:Bool}(hT:YtobldeamemmokaaDoorTabs.Tab w)(him:im=5∨im=9∨im=11)(ho:qW.f K x.op=some (r1,r2,im,r4,r5,r6,r7,r8))(h16:x.v.length=16)(hu:qX.f K (IntKind.u64.wrap x.a)=some r)(hu2:qX.f K (IntKind.u64.wrap x.b)=some r2b)(hr:r.length<1000000∧r2b.length<1000000)(h:r++r2b=bs):
 jB x Al At cl ct vb ve w bs:=by
 unfold jB
 obtain⟨cx,hcx⟩:=ex_ (qH x (.slice Al x.l.length cl) (.slice At x.t.length ct) vb ve)
 have X:=qa x h16 (.slice Al x.l.length cl) (.slice At x.t.length ct) vb ve
 rw[← hcx] at X ⊢
 have HX:=am X
 have HTB:=am hT
 have HO:=am ho
 have HR_:=am hr
 have HU:=am (fun(W:World)=>jY K x.a r W hu)
 have HU2:=am (fun(W:World)=>jY K x.b r2b W hu2)
 subst h
 clear X hT ho hcx hu hu2 hr
 rcases him with him|him|him
 all_goals
  have t1:=tst 1 him;have t2:=tst 2 him;have t4:=tst 4 him;have t6:=tst 6 him;have t7:=tst 7 him;have t8:=tst 8 him;have t10:=tst 10 him;have t12:=tst 12 him;have t13:=tst 13 him;have t5:=tst 5 him;have t9:=tst 9 him;have t11:=tst 11 him;have t3:=tst 3 him;have t14:=tst 14 him;have t15:=tst 15 him;have t16:=tst 16 him;have t17:=tst 17 him;have t18:=tst 18 him;have t19:=tst 19 him;have t24:=tst 24 him;have t20:=tst 20 him;have t22:=tst 22 him;have t21:=tst 21 him;have t23:=tst 23 him;have t25:=tst 25 him;have t26:=tst 26 him;clear him
  go_enter Tryd.func29,Tryd.ntmps29
  go_wp2_with (first
   | ((with_reducible refine qE (N:=1) rfl ?_);refine jP rfl _ rfl cx rfl ?_;intro g1 hg1 w1 hb hbl;have B1:=am hb;have L1:=am (qB mCl hbl);have G1:=am (qN hb);have z0:w1.cell? ⟨g1,0,none⟩=some (.int .u16 x.op):=(qA hb 0).trans mDn;clear hg1 hb hbl)
   | (go_at_call 42;refine(qW.calls K x.op r1 r2 im r4 r5 r6 r7 r8 _ (HTB.out.below mCi) HO.out).mono ?_;rintro e w2 ⟨v3,v4,rfl,h3,h4,hb⟩;obtain⟨A3,c3,rfl⟩:=Kd.R_slice h3;obtain⟨A4,c4,rfl⟩:=Kd.R_slice h4;have n0_:=am (qG B1.out hb);have n1_:=am (qB L1.out hb);have n2_:=am (qN n0_.out);clear B1 L1 G1 h3 h4 hb;have B1:=n0_;have L1:=n1_;have G1:=n2_;clear n0_ n1_ n2_)
   | ((with_reducible refine qE (N:=3) rfl ?_);refine qd rfl 79 rfl _ zh ?_;intro g3 hg3 w3 hb hbl;have n0_:=am (qG B1.out hbl);have n1_:=am (qB L1.out hbl);have n2_:=am hb;have n3_:=am (mDu:g1≠g3∧w.heap.size≤g3);clear B1 L1 hg3 hb hbl;have B1:=n0_;have L1:=n1_;have B3:=n2_;have N13:=n3_;clear n0_ n1_ n2_ n3_)
   | ((with_reducible refine qF (t:=79) (p:=3) (v:=.tmp 16) rfl ?_);refine qV rfl 79 (.tmp 3) (.tmp 16) rfl g3 #[.int .u16 r1,.string r2,.int .u8 im,.slice A3 r4.length c3,.slice A4 r5.length c4,.int .i64 r6,.bool r7] rfl rfl 79 _ B3.out zK rfl (xG _ _ _ _ _ _ _ _ _ _ _) ?_;intro w4 hb hoth hsz hbel;have n0_:=am ((hoth _ N13.out.1).trans B1.out);have n1_:=am (hbel _ _ N13.out.2 L1.out);have n2_:=am hb;have c32:w4.cell? ⟨g3,2,none⟩=some (.int .u8 im):=(qA hb 2).trans rfl;have z0:w4.cell? ⟨g1,0,none⟩=some (.int .u16 x.op):=(qA n0_.out 0).trans mDn;have z1:w4.cell? ⟨g1,1,none⟩=some (.int .u32 x.a):=(qA n0_.out 1).trans mD0;have z2:w4.cell? ⟨g1,2,none⟩=some (.int .u32 x.b):=(qA n0_.out 2).trans mDz;have z3:w4.cell? ⟨g1,3,none⟩=some (.int .u64 x.n):=(qA n0_.out 3).trans mDy;have z20:w4.cell? ⟨g1,20,none⟩=some (.slice Al x.l.length cl):=(qA n0_.out 20).trans mDs;have z21:w4.cell? ⟨g1,21,none⟩=some (.slice At x.t.length ct):=(qA n0_.out 21).trans mDr;have z22:w4.cell? ⟨g1,22,none⟩=some (.int .u8 x.bk):=(qA n0_.out 22).trans mD6;have z23:w4.cell? ⟨g1,23,none⟩=some (.int .u8 x.bv):=(qA n0_.out 23).trans mD4;have z24:w4.cell? ⟨g1,24,none⟩=some (.int .u32 x.bt):=(qA n0_.out 24).trans mD3;clear B1 L1 B3 hb hoth hsz hbel;have B1:=n0_;have L1:=n1_;have B3:=n2_;clear n0_ n1_ n2_))
  have n0_:=am (qP L1.out)
  have n1_:=am (za B1.out)
  clear L1 B1
  have L1:=n0_
  have B1:=n1_
  clear n0_ n1_
  refine jQ (n:=10) (S:=fun w'=>w'.heap[g1]? = some (.cells cx.toArray 43 (0,0))) (ds:=[8]) #[false,false,false,false,false,false,false,false,false,false] mDh rfl rfl B1.out (fun hHeld=>?_);refine zQ qi.tab22 qi.bits22 (fun HT_ HW_=>?_)
  generalize w4.drew=w4d at L1 B1 hHeld ⊢
  refine qY (i:=0) (N:=some 55) (v:=?_) (a':=?_) #[true,false,false,false,false,false,false,false,false,false] rfl rfl (qS HT_.out mDh) (fun _ _ _ h=>h) (Or.inl ⟨mD2,?_⟩) ?_ ?_
  rotate_left
  ·intro w'
   go_simp
   with_reducible rfl
  rotate_left
  ·exact mAe
  refine qY (i:=1) (N:=some 56) (v:=?_) (a':=?_) #[true,true,false,false,false,false,false,false,false,false] rfl rfl (qS HT_.out mDh) (fun _ _ _ h=>h) (Or.inl ⟨mD2,?_⟩) ?_ ?_
  rotate_left
  ·intro w'
   go_simp
   with_reducible rfl
  rotate_left
  ·exact mAe
  refine qY (i:=4) (N:=some 59) (v:=?_) (a':=?_) #[true,true,false,false,true,false,false,false,false,false] rfl rfl (qS HT_.out mDh) (fun _ _ _ h=>h) (Or.inl ⟨mD2,?_⟩) ?_ ?_
  rotate_left
  ·intro w'
   go_simp
   with_reducible rfl
  rotate_left
  ·exact mAe
  refine qY (i:=5) (N:=some 60) (v:=?_) (a':=?_) #[true,true,false,false,true,true,false,false,false,false] rfl rfl (qS HT_.out mDh) (fun _ _ _ h=>h) (Or.inl ⟨mD2,?_⟩) ?_ ?_
  rotate_left
  ·intro w'
   go_simp
   with_reducible rfl
  rotate_left
  ·exact mAe
  refine take_ (i:=2) (N:=some 57) (v:=?_) (a':=?_) #[true,true,true,false,true,true,false,false,false,false] rfl rfl (qm HT_.out HW_.out mDh) (fun _ _ _ h=>h) (Or.inl ⟨mD2,?_⟩) hHeld ?_ ?_
  rotate_left
  ·exact mAx
  rotate_left
  ·exact mAe
  refine take_ (i:=6) (N:=some 61) (v:=?_) (a':=?_) #[true,true,true,false,true,true,true,false,false,false] rfl rfl (qm HT_.out HW_.out mDh) (fun _ _ _ h=>h) (Or.inl ⟨mD2,?_⟩) hHeld ?_ ?_
  rotate_left
  ·exact mA9
  rotate_left
  ·exact mAe
  refine jC (i:=3) (N:=some 58) #[true,true,true,true,true,true,true,false,false,false] rfl rfl (qq HT_.out mDh) mDl (fun K hK=>?_)
  refine qAx (.tmp 55) Tryd.func43 mDh rfl #[.int .u32 x.a] mD2 rfl rfl rfl mCs ?_
  refine(HU.out _).mono ?_
  rintro e w5 ⟨v58,rfl,ho4,hb⟩
  obtain⟨A_v58,c_v58,rfl⟩:=Kd.R_slice ho4
  refine⟨_,rfl,?_⟩
  have n0_:=am (qG B1.out hb)
  have n1_:=am (qB L1.out hb)
  have RX:=am (Kd.R_lower ho4 L1.out.size)
  clear B1 L1 ho4 hb
  have B1:=n0_
  have L1:=n1_
  have RV:=RX
  clear n0_ n1_ RX
  refine hK.out _ _ B1.out (fun hHeld=>?_)
  clear hK K
  refine zJ (a':=?_) ?_ ?_
  rotate_left
  ·show Act.put _ (some 58) _=_
   exact mAe
  refine jC (i:=7) (N:=some 62) #[true,true,true,true,true,true,true,true,false,false] rfl rfl (qq HT_.out mDh) mDl (fun K hK=>?_)
  refine qAx (.tmp 59) Tryd.func43 mDh rfl #[.int .u32 x.b] mD2 rfl rfl rfl mCs ?_
  refine(HU2.out _).mono ?_
  rintro e w6 ⟨v62,rfl,ho4,hb⟩
  obtain⟨A_v62,c_v62,rfl⟩:=Kd.R_slice ho4
  refine⟨_,rfl,?_⟩
  have n0_:=am (qG B1.out hb)
  have n1_:=am (qB L1.out hb)
  have n2_:=am (Kd.R_below RV.out hb)
  have RN:=am (Kd.R_lower ho4 L1.out.size)
  clear B1 L1 ho4 hb RV
  have B1:=n0_
  have L1:=n1_
  have RV:=n2_
  clear n0_ n1_ n2_
  refine hK.out _ _ B1.out (fun hHeld=>?_)
  clear hK K
  refine zJ (a':=?_) ?_ ?_
  rotate_left
  ·show Act.put _ (some 62) _=_
   exact mAe
  refine qAN (i:=8) (N:=some 63) #[true,true,true,true,true,true,true,true,true,false] rfl rfl (qq HT_.out mDh) mDl (fun K hK=>?_)
  refine Kd.R_append_rows_step (Kd.int .u8) (w0:=w) w.heap.size mD2 (.tmp 58) (.tmp 62) 24 5 (.int .u8 0) 1 rfl Tryd.underlying24 jM rfl mDl mDl (.slice A_v58 r.length c_v58) (r) (r2b:List Int) A_v62 r2b.length c_v62 (fun _=>True) (fun _=>False) rfl rfl RV.out (Kd.R_reads' RN.out).2.2 (fun _ _ h=>h) (fun _ h=>h.elim) (fun _ _=>trivial) L1.out L1.out.size mEf ?_
  intro v63 w7 ho4 hb hg hat
  have n0_:=am ho4
  have n1_:=am hb
  clear RV RN L1 B1 ho4 hb hg hat
  have RV:=n0_
  have L1:=n1_
  clear n0_ n1_
  refine hK.out _ _ ?_
  clear hK K
  refine zJ (a':=?_) ?_ ?_
  rotate_left
  ·show Act.put _ (some 63) _=_
   exact mAe
  refine qY (i:=9) (N:=some 2) (v:=?_) (a':=?_) #[true,true,true,true,true,true,true,true,true,true] rfl rfl (qS HT_.out mDh) (fun _ _ _ h=>h) (Or.inl ⟨mD2,?_⟩) ?_ ?_
  rotate_left
  ·intro w'
   go_simp
   with_reducible rfl
  rotate_left
  ·exact mAe
  refine xI (zu HT_.out mDh) ?_
  try go_wp2
  go_ret
  exact⟨_,rfl,RV.out,L1.out⟩
set_option maxRecDepth 100000 in
theorem qJA (K:Nat)(x:I)(bs r r2b:List Int)(w:World){Al At:Option Addr}{cl ct:Nat}(vb ve:Value){r1 im:Int}{r2:ByteArray}{r4 r5:List Int}{r6 r8:Int}{r7:Bool}(hT:YtobldeamemmokaaDoorTabs.Tab w)(him:im=16)(ho:qW.f K x.op=some (r1,r2,im,r4,r5,r6,r7,r8))(h16:x.v.length=16)(hu:qX.f K (IntKind.u64.wrap x.a)=some r)(hu2:qX.f K x.n=some r2b)(hr:r.length<1000000∧r2b.length<1000000)(h:r++r2b=bs):
 jB x Al At cl ct vb ve w bs:=by
 unfold jB
 obtain⟨cx,hcx⟩:=ex_ (qH x (.slice Al x.l.length cl) (.slice At x.t.length ct) vb ve)
 have X:=qa x h16 (.slice Al x.l.length cl) (.slice At x.t.length ct) vb ve
 rw[← hcx] at X ⊢
 have HX:=am X
 have HTB:=am hT
 have HO:=am ho
 have HR_:=am hr
 have HU:=am (fun(W:World)=>jY K x.a r W hu)
 have HU2:=am (fun(W:World)=>qX.calls K x.n r2b W hu2)
 subst h
 clear X hT ho hcx hu hu2 hr
 have t1:=tst 1 him;have t2:=tst 2 him;have t4:=tst 4 him;have t6:=tst 6 him;have t7:=tst 7 him;have t8:=tst 8 him;have t10:=tst 10 him;have t12:=tst 12 him;have t13:=tst 13 him;have t5:=tst 5 him;have t9:=tst 9 him;have t11:=tst 11 him;have t3:=tst 3 him;have t14:=tst 14 him;have t15:=tst 15 him;have t16:=tst 16 him;have t17:=tst 17 him;have t18:=tst 18 him;have t19:=tst 19 him;have t24:=tst 24 him;have t20:=tst 20 him;have t22:=tst 22 him;have t21:=tst 21 him;have t23:=tst 23 him;have t25:=tst 25 him;have t26:=tst 26 him;clear him
 go_enter Tryd.func29,Tryd.ntmps29
 go_wp2_with (first
  | ((with_reducible refine qE (N:=1) rfl ?_);refine jP rfl _ rfl cx rfl ?_;intro g1 hg1 w1 hb hbl;have B1:=am hb;have L1:=am (qB mCl hbl);have G1:=am (qN hb);have z0:w1.cell? ⟨g1,0,none⟩=some (.int .u16 x.op):=(qA hb 0).trans mDn;clear hg1 hb hbl)
  | (go_at_call 42;refine(qW.calls K x.op r1 r2 im r4 r5 r6 r7 r8 _ (HTB.out.below mCi) HO.out).mono ?_;rintro e w2 ⟨v3,v4,rfl,h3,h4,hb⟩;obtain⟨A3,c3,rfl⟩:=Kd.R_slice h3;obtain⟨A4,c4,rfl⟩:=Kd.R_slice h4;have n0_:=am (qG B1.out hb);have n1_:=am (qB L1.out hb);have n2_:=am (qN n0_.out);clear B1 L1 G1 h3 h4 hb;have B1:=n0_;have L1:=n1_;have G1:=n2_;clear n0_ n1_ n2_)
  | ((with_reducible refine qE (N:=3) rfl ?_);refine qd rfl 79 rfl _ zh ?_;intro g3 hg3 w3 hb hbl;have n0_:=am (qG B1.out hbl);have n1_:=am (qB L1.out hbl);have n2_:=am hb;have n3_:=am (mDu:g1≠g3∧w.heap.size≤g3);clear B1 L1 hg3 hb hbl;have B1:=n0_;have L1:=n1_;have B3:=n2_;have N13:=n3_;clear n0_ n1_ n2_ n3_)
  | ((with_reducible refine qF (t:=79) (p:=3) (v:=.tmp 16) rfl ?_);refine qV rfl 79 (.tmp 3) (.tmp 16) rfl g3 #[.int .u16 r1,.string r2,.int .u8 im,.slice A3 r4.length c3,.slice A4 r5.length c4,.int .i64 r6,.bool r7] rfl rfl 79 _ B3.out zK rfl (xG _ _ _ _ _ _ _ _ _ _ _) ?_;intro w4 hb hoth hsz hbel;have n0_:=am ((hoth _ N13.out.1).trans B1.out);have n1_:=am (hbel _ _ N13.out.2 L1.out);have n2_:=am hb;have c32:w4.cell? ⟨g3,2,none⟩=some (.int .u8 im):=(qA hb 2).trans rfl;have z0:w4.cell? ⟨g1,0,none⟩=some (.int .u16 x.op):=(qA n0_.out 0).trans mDn;have z1:w4.cell? ⟨g1,1,none⟩=some (.int .u32 x.a):=(qA n0_.out 1).trans mD0;have z2:w4.cell? ⟨g1,2,none⟩=some (.int .u32 x.b):=(qA n0_.out 2).trans mDz;have z3:w4.cell? ⟨g1,3,none⟩=some (.int .u64 x.n):=(qA n0_.out 3).trans mDy;have z20:w4.cell? ⟨g1,20,none⟩=some (.slice Al x.l.length cl):=(qA n0_.out 20).trans mDs;have z21:w4.cell? ⟨g1,21,none⟩=some (.slice At x.t.length ct):=(qA n0_.out 21).trans mDr;have z22:w4.cell? ⟨g1,22,none⟩=some (.int .u8 x.bk):=(qA n0_.out 22).trans mD6;have z23:w4.cell? ⟨g1,23,none⟩=some (.int .u8 x.bv):=(qA n0_.out 23).trans mD4;have z24:w4.cell? ⟨g1,24,none⟩=some (.int .u32 x.bt):=(qA n0_.out 24).trans mD3;clear B1 L1 B3 hb hoth hsz hbel;have B1:=n0_;have L1:=n1_;have B3:=n2_;clear n0_ n1_ n2_))
 have n0_:=am (qP L1.out)
 have n1_:=am (za B1.out)
 clear L1 B1
 have L1:=n0_
 have B1:=n1_
 clear n0_ n1_
 refine jQ (n:=9) (S:=fun w'=>w'.heap[g1]? = some (.cells cx.toArray 43 (0,0))) (ds:=[7]) #[false,false,false,false,false,false,false,false,false] mDh rfl rfl B1.out (fun hHeld=>?_);refine zQ qi.tab38 qi.bits38 (fun HT_ HW_=>?_)
 generalize w4.drew=w4d at L1 B1 hHeld ⊢
 refine qY (i:=0) (N:=some 103) (v:=?_) (a':=?_) #[true,false,false,false,false,false,false,false,false] rfl rfl (qS HT_.out mDh) (fun _ _ _ h=>h) (Or.inl ⟨mD2,?_⟩) ?_ ?_
 rotate_left
 ·intro w'
  go_simp
  with_reducible rfl
 rotate_left
 ·exact mAe
 refine qY (i:=1) (N:=some 104) (v:=?_) (a':=?_) #[true,true,false,false,false,false,false,false,false] rfl rfl (qS HT_.out mDh) (fun _ _ _ h=>h) (Or.inl ⟨mD2,?_⟩) ?_ ?_
 rotate_left
 ·intro w'
  go_simp
  with_reducible rfl
 rotate_left
 ·exact mAe
 refine qY (i:=4) (N:=some 107) (v:=?_) (a':=?_) #[true,true,false,false,true,false,false,false,false] rfl rfl (qS HT_.out mDh) (fun _ _ _ h=>h) (Or.inl ⟨mD2,?_⟩) ?_ ?_
 rotate_left
 ·intro w'
  go_simp
  with_reducible rfl
 rotate_left
 ·exact mAe
 refine take_ (i:=2) (N:=some 105) (v:=?_) (a':=?_) #[true,true,true,false,true,false,false,false,false] rfl rfl (qm HT_.out HW_.out mDh) (fun _ _ _ h=>h) (Or.inl ⟨mD2,?_⟩) hHeld ?_ ?_
 rotate_left
 ·exact mAx
 rotate_left
 ·exact mAe
 refine take_ (i:=5) (N:=some 108) (v:=?_) (a':=?_) #[true,true,true,false,true,true,false,false,false] rfl rfl (qm HT_.out HW_.out mDh) (fun _ _ _ h=>h) (Or.inl ⟨mD2,?_⟩) hHeld ?_ ?_
 rotate_left
 ·exact mA8
 rotate_left
 ·exact mAe
 refine jC (i:=3) (N:=some 106) #[true,true,true,true,true,true,false,false,false] rfl rfl (qq HT_.out mDh) mDl (fun K hK=>?_)
 refine qAx (.tmp 103) Tryd.func43 mDh rfl #[.int .u32 x.a] mD2 rfl rfl rfl mCs ?_
 refine(HU.out _).mono ?_
 rintro e w5 ⟨v106,rfl,ho4,hb⟩
 obtain⟨A_v106,c_v106,rfl⟩:=Kd.R_slice ho4
 refine⟨_,rfl,?_⟩
 have n0_:=am (qG B1.out hb)
 have n1_:=am (qB L1.out hb)
 have RX:=am (Kd.R_lower ho4 L1.out.size)
 clear B1 L1 ho4 hb
 have B1:=n0_
 have L1:=n1_
 have RV:=RX
 clear n0_ n1_ RX
 refine hK.out _ _ B1.out (fun hHeld=>?_)
 clear hK K
 refine zJ (a':=?_) ?_ ?_
 rotate_left
 ·show Act.put _ (some 106) _=_
  exact mAe
 refine jC (i:=6) (N:=some 109) #[true,true,true,true,true,true,true,false,false] rfl rfl (qq HT_.out mDh) mDl (fun K hK=>?_)
 refine yD Tryd.func41 mDh rfl #[.int .u64 x.n] mD2 rfl rfl mCs ?_
 refine(HU2.out _).mono ?_
 rintro e w6 ⟨v109,rfl,ho4,hb⟩
 obtain⟨A_v109,c_v109,rfl⟩:=Kd.R_slice ho4
 refine⟨_,rfl,?_⟩
 have n0_:=am (qG B1.out hb)
 have n1_:=am (qB L1.out hb)
 have n2_:=am (Kd.R_below RV.out hb)
 have RN:=am (Kd.R_lower ho4 L1.out.size)
 clear B1 L1 ho4 hb RV
 have B1:=n0_
 have L1:=n1_
 have RV:=n2_
 clear n0_ n1_ n2_
 refine hK.out _ _ B1.out (fun hHeld=>?_)
 clear hK K
 refine zJ (a':=?_) ?_ ?_
 rotate_left
 ·show Act.put _ (some 109) _=_
  exact mAe
 refine qAN (i:=7) (N:=some 110) #[true,true,true,true,true,true,true,true,false] rfl rfl (qq HT_.out mDh) mDl (fun K hK=>?_)
 refine Kd.R_append_rows_step (Kd.int .u8) (w0:=w) w.heap.size mD2 (.tmp 106) (.tmp 109) 24 5 (.int .u8 0) 1 rfl Tryd.underlying24 jM rfl mDl mDl (.slice A_v106 r.length c_v106) (r) (r2b:List Int) A_v109 r2b.length c_v109 (fun _=>True) (fun _=>False) rfl rfl RV.out (Kd.R_reads' RN.out).2.2 (fun _ _ h=>h) (fun _ h=>h.elim) (fun _ _=>trivial) L1.out L1.out.size mEf ?_
 intro v110 w7 ho4 hb hg hat
 have n0_:=am ho4
 have n1_:=am hb
 clear RV RN L1 B1 ho4 hb hg hat
 have RV:=n0_
 have L1:=n1_
 clear n0_ n1_
 refine hK.out _ _ ?_
 clear hK K
 refine zJ (a':=?_) ?_ ?_
 rotate_left
 ·show Act.put _ (some 110) _=_
  exact mAe
 refine qY (i:=8) (N:=some 2) (v:=?_) (a':=?_) #[true,true,true,true,true,true,true,true,true] rfl rfl (qS HT_.out mDh) (fun _ _ _ h=>h) (Or.inl ⟨mD2,?_⟩) ?_ ?_
 rotate_left
 ·intro w'
  go_simp
  with_reducible rfl
 rotate_left
 ·exact mAe
 refine xI (zu HT_.out mDh) ?_
 try go_wp2
 go_ret
 exact⟨_,rfl,RV.out,L1.out⟩
theorem qHk {ops:Array Oper}{rest:List Oper}{o:Oper}{a:Act}{w:World}{Q:Exit→Act→World→Prop}(hg:o.guard=none)(x:Operand)(ho:o.op = .slice 22 x (some (.const (.int .i64 1))) none none)(A:Option Addr)(n c:Nat)(hx:a.eval x = .slice A n c)(hn:1≤n)(hc:n≤c)
 (h:wpList Tryd.prog ops Q rest (a.put o.dst (.slice (if c=1 then A else A.map (·.add 27)) (n - 1) (c - 1))) w):wpList Tryd.prog ops Q (o::rest) a w:=by
 refine Kd.event_run hg ?_ h
 have hel:Tryd.prog.elem 22=43:=by simp[Program.elem,Tryd.underlying22]
 have hu:Tryd.prog.underlying 22=some (.slice (Tryd.prog.elem 22)):=by rw[hel];exact Tryd.underlying22
 have hr:=run_slice_l w 22 A n c hu .i64 1 mDj mDj
 have hs:(sizeOf (Tryd.prog.elem 22)).run Tryd.prog w = .ok 27 w:=by
  rw[hel]
  cases hq:Tryd.prog.info? 43 with
  | none=>have:=zC;simp[hq] at this
  | some i =>
    have hi:i.size=27:=by have:=zC;simpa [hq] using this
    simp[sizeOf,typeInfo,hq,hi]
 have hr2:(Instr.slice 22 (.slice A n c) (some (.int .i64 1)) none none).run Tryd.prog w = .ok (.slice (if c=1 then A else A.map (·.add 27)) (n - 1) (c - 1)) w:=by
  rw[hr,hs,Result.andThen_ok]
  rfl
 unfold execOp
 have hk:a.eval (.const (.int .i64 1)) = .int .i64 1:=rfl
 simp only[ho,hx,hk,Option.map_some,Option.map_none,Sem.run_bind]
 rw[run_sliceAt_slice (P:=Tryd.prog) (w:=w) 22 _ _ _ _ hu,hr2]
 rfl
theorem qGB {ops:Array Oper}{rest:List Oper}{o:Oper}{a:Act}{w:World}{Q:Exit→Act→World→Prop}(hg:o.guard=none)(x:Operand)(ho:o.op = .slice 22 x (some (.const (.int .i64 1))) none none)(A:Option Addr)(n c:Nat)(hx:a.eval x = .slice A n c)(hn:1≤n)(hc:n≤c)
 (h:∀ A',A'=(if c=1 then A else A.map (·.add 27))→wpList Tryd.prog ops Q rest (a.put o.dst (.slice A' (n - 1) (c - 1))) w):wpList Tryd.prog ops Q (o::rest) a w:=qHk hg x ho A n c hx hn hc (h _ rfl)
theorem qDZ {α:Type}{d:Kd α}{e:Nat}{W w1:World}{base:Nat}{ok:Nat→Prop}{v:Value}{xs:List α}(h:d.R e W base ok v xs)(hg:W.grownBy w1 none):d.R e w1 base ok v xs:=Kd.R_step h (fun k _ hlt=>hg.block k hlt mDp)
theorem qAF {α β:Type}{d:Kd α}{d':Kd β}{e e':Nat}{W w1:World}{base base':Nat}{ok':Nat→Prop}{v v':Value}{xs:List α}{ys:List β}(hg:W.grownBy w1 v'.ownBlock)(hE:d.E = [])(hne:e≠e')(h:d.R e W base (fun _=>True) v xs)(h':d'.R e' W base' ok' v' ys):d.R e w1 base (fun _=>True) v xs:=by
 refine Kd.R_mono (Kd.R_step (Kd.R_bound h) (fun k hk hlt=>hg.block k hlt (fun e2=>?_))) (fun _ _=>trivial)
 obtain⟨_,_,_,q,hq,cells,hc⟩:=hk
 rw[hE] at hq
 rcases List.mem_singleton.1 hq with rfl
 obtain⟨_,inner,ho,_⟩:=h'
 obtain⟨cells',hc'⟩:=zl ho k e2.symm
 rw[hc] at hc'
 simp only[Option.some.injEq,Obj.cells.injEq] at hc'
 exact hne hc'.2.1
theorem jz {β:Type}{d':Kd β}{e e':Nat}{W w1:World}{base':Nat}{ok':Nat→Prop}{v':Value}{ys:List β}{g:Nat}{cs:Array Value}(hg:W.grownBy w1 v'.ownBlock)(hne:e≠e')(h:W.heap[g]? = some (.cells cs e (0,0)))(h':d'.R e' W base' ok' v' ys):w1.heap[g]? = some (.cells cs e (0,0)):=by
 refine(hg.block g (qN h) (fun e2=>?_)).trans h
 obtain⟨_,inner,ho,_⟩:=h'
 obtain⟨cells',hc'⟩:=zl ho g e2.symm
 rw[h] at hc'
 simp only[Option.some.injEq,Obj.cells.injEq] at hc'
 exact hne hc'.2.1
theorem qGF {α:Type}{d:Kd α}{e e':Nat}{W:World}{base g j:Nat}{v u:Value}{xs:List α}{cs:Array Value}(hE:d.E = [])(hne:e≠e')(h:d.R e W base (fun _=>True) v xs)(hb:W.heap[g]? = some (.cells cs e' (0,0))):d.R e (W.setCell ⟨g,j,none⟩ u) base (fun _=>True) v xs:=by
 refine Kd.R_mono (Kd.R_step (Kd.R_bound h) (fun k hk hlt=>Below.heap_setCell W _ u k (fun e2=>?_))) (fun _ _=>trivial)
 obtain⟨_,_,_,q,hq,cells,hc⟩:=hk
 rw[hE] at hq
 rcases List.mem_singleton.1 hq with rfl
 subst e2
 rw[hb] at hc
 simp only[Option.some.injEq,Obj.cells.injEq] at hc
 exact hne hc.2.1.symm
theorem qCO {w0 W:World}{base g m cap:Nat}{qs:List Pr}{p p':Pr}{A B A' B':Option Addr}{c d c' d':Nat}(HR:(kPr w0).R 58 W base (fun _=>True) (.slice (some ⟨g,0,none⟩) (m+1) cap) (qs ++ [p]))(hm:m=qs.length)
 (q0:W.cell? ⟨g,m*2,none⟩=some (.slice A p.a.length c)) (q1:W.cell? ⟨g,m*2+1,none⟩=some (.slice B p.b.length d)) (j:Nat) (u:Value)
 (hu:(j=0∧u = .slice A' p'.a.length c'∧B'=B∧d'=d∧p'.b=p.b)∨(j=1∧u = .slice B' p'.b.length d'∧A'=A∧c'=c∧p'.a=p.a))
 (ha:p'.a.length≤c'∧kI.C w0 A' p'.a.length p'.a)(hb:p'.b.length≤d'∧kI.C w0 B' p'.b.length p'.b):
 (kPr w0).R 58 (W.setCell ⟨g,m*2+j,none⟩ u) base (fun _=>True) (.slice (some ⟨g,0,none⟩) (m+1) cap) (qs ++ [p']):=by
 have hcc:∀ i v,([.slice A p.a.length c,.slice B p.b.length d]:List Value)[i]? = some v→W.cell? ⟨g,((m:Int)).toNat*(kPr w0).sz+i,none⟩=some v:=by
  intro i v hi
  rw[Int.toNat_natCast]
  match i,hi with
  | 0,hi=>obtain rfl:=Option.some.inj hi;exact q0
  | 1,hi=>obtain rfl:=Option.some.inj hi;exact q1
 have e:(qs ++ [p]).set ((m:Int)).toNat p'=qs ++ [p']:=by
  rw[Int.toNat_natCast,hm,List.set_append_right _ _ (Nat.le_refl _),Nat.sub_self]
  rfl
 have hM:=yT w0 W base (fun _=>False) p' ha.1 ha.2 hb.1 hb.2
 rcases hu with ⟨rfl,rfl,rfl,rfl,hpb⟩|⟨rfl,rfl,rfl,rfl,hpa⟩
 ·have h:=(Kd.R_seg (i:=(m:Int)) (j:=0) (seg:=[.slice A' p'.a.length c']) (x':=p') (okp:=fun _=>False) HR mDj mDj rfl hcc (show 0+1≤2 by decide) (by rw[hpb] at hM;exact hM) (fun _ hk=>hk.elim)).1
  rw[e] at h
  exact h
 ·have h:=(Kd.R_seg (i:=(m:Int)) (j:=1) (seg:=[.slice B' p'.b.length d']) (x':=p') (okp:=fun _=>False) HR mDj mDj rfl hcc (show 1+1≤2 by decide) (by rw[hpa] at hM;exact hM) (fun _ hk=>hk.elim)).1
  rw[e] at h
  exact h
theorem qE6 {w0 W:World}{base g m cap:Nat}{qs:List Pr}{p:Pr}{A B:Option Addr}{c d:Nat}{cs:Array Value}(HR:(kPr w0).R 58 W base (fun _=>True) (.slice (some ⟨g,0,none⟩) (m+1) cap) (qs ++ [p]))(hm:m=qs.length)(hg:W.heap[g]? = some (.cells cs 58 (0,0)))
 (q0:W.cell? ⟨g,m*2,none⟩=some (.slice A p.a.length c)) (q1:W.cell? ⟨g,m*2+1,none⟩=some (.slice B p.b.length d)) (hb:p.b.length≤d∧kI.C w0 B p.b.length p.b) :
 (kPr w0).R 58 ((W.setCell ⟨g,m*2,none⟩ (.slice B p.b.length d)).setCell ⟨g,m*2+1,none⟩ (.slice none 0 0)) base (fun _=>True) (.slice (some ⟨g,0,none⟩) (m+1) cap) (qs ++ [⟨p.b,[]⟩]):=by
 have h1:=qCO (p':=⟨p.b,p.b⟩) (A':=B) (c':=d) (B':=B) (d':=d) HR hm q0 q1 0 (.slice B p.b.length d) (.inl ⟨rfl,rfl,rfl,rfl,rfl⟩) hb hb
 have e0:=(qA hg (m*2)).symm.trans q0
 have e1:=(qA hg (m*2+1)).symm.trans q1
 have hs:=xO hg (m*2) (.slice B p.b.length d)
 have r0:(W.setCell ⟨g,m*2,none⟩ (.slice B p.b.length d)).cell? ⟨g,m*2,none⟩=some (.slice B p.b.length d):=by
  rw[qA hs]
  have:=(Array.getElem?_eq_some_iff.1 e0).1
  simp[Array.getElem?_setIfInBounds,this]
 have r1:(W.setCell ⟨g,m*2,none⟩ (.slice B p.b.length d)).cell? ⟨g,m*2+1,none⟩=some (.slice B p.b.length d):=by
  rw[qA hs]
  rw[Array.getElem?_setIfInBounds,if_neg mDj]
  exact e1
 exact qCO (p:=⟨p.b,p.b⟩) (p':=⟨p.b,[]⟩) (A':=B) (c':=d) (B':=none) (d':=0) h1 hm r0 r1 1 (.slice none 0 0) (.inr ⟨rfl,rfl,rfl,rfl,rfl⟩) hb ⟨Nat.le_refl _,Kd.C_nil _ _⟩
theorem qIP:(Tryd.prog.info? 58).map (fun i=>(i.zero,i.size,i.bytes))=some (some (.agg #[.slice none 0 0,.slice none 0 0]),2,48):=mDh
end Go.Proofs.YtobldeamemmokaaDoor.P
