import Derived.Test.YtobldeamemmokaaDoorZa00
import Derived.Test.YtobldeamemmokaaDoorZa01
set_option linter.unusedVariables false
set_option linter.unusedSimpArgs false
set_option maxHeartbeats 64000000
namespace Go.Proofs.YtobldeamemmokaaDoor
theorem am {p:Prop}(h:p):Go.Proofs.YtobldeamemmokaaDoorW.PrintWords.Aside0 p:=⟨h⟩
theorem kx_ {p q:Prop}(hq:q)(h:q→p:=by intro hz_;(with_reducible repeat (first|apply kN|apply kD|apply kA));exact hz_):p:=h hq
theorem kr_ {p q:Prop}(hq:q)(h:q→p:=by intro hz_;(with_reducible repeat (first|apply rA|apply rN|apply rD));exact hz_):p:=h hq
theorem ky_ {p q:Prop}(hq:q)(h:q→p:=by intro hz_;(with_reducible repeat (first|apply Kd.R_alloc|apply Kd.R_drewN|apply Kd.R_drew));exact hz_):p:=h hq
theorem ex_ {α:Type}(a:α):∃ b,b=a:=⟨a,rfl⟩
theorem ey_ {α:Type}(a:α):∃ b,a=b:=⟨a,rfl⟩
set_option maxRecDepth 100000 in
theorem mA {p:Prop} (h:p:=by
 go_enter Tryd.func5,Tryd.ntmps5
 go_wp2_with (first
  | (go_at_call 18;refine(HL.out _ mCh).mono ?_;rintro e wn ⟨rfl,hb⟩;have n0_:=am (show Below w.heap.size w wn from qB mCh hb);clear HB hb;have HB:=n0_;clear n0_)
  | (go_at_call 11;refine(HQ.out _ mCh).mono ?_;rintro e wn ⟨rfl,hb⟩;have n0_:=am (show Below w.heap.size w wn from qB mCh hb);clear HB hb;have HB:=n0_;clear n0_)
  | (go_at_call 12;refine(HX.out _ mCh).mono ?_;rintro e wn ⟨h9,hb⟩;have h9:=HBAD.out _ _ _ h9;subst h9;have n0_:=am (show Below w.heap.size w wn from qB mCh hb);clear HB hb;have HB:=n0_;clear n0_)
  | (go_at_call 18;refine(HL.out _ mCh).mono ?_;rintro e wn ⟨rfl,hb⟩;have n0_:=am (show Below w.heap.size w wn from qB mCh hb);clear HB hb HL;have HB:=n0_;clear n0_)
  | (go_at_call 12;refine(HX.out _ mCh).mono ?_;rintro e wn ⟨h9,hb⟩;simp only[qAR,if_neg (show ¬ 1000<dd by have h8:=HD.out.1;omega)] at h9;obtain⟨A1,c1,rfl,h9⟩:=h9;have RL:=am (Kd.R_lower h9 (show w.heap.size≤_ from by have h8:=HB.out.size;exact h8));have n0_:=am (show Below w.heap.size w wn from qB mCh hb);clear HB hb h9 HX;have HB:=n0_;clear n0_)
  | (go_at_call 10;refine(HP.out _ mCh A1 c1 (ky_ RL.out)).mono ?_;rintro e wn ⟨v,rfl,hv,hb⟩;obtain⟨A8,c8,rfl⟩:=Kd.R_slice hv;rw[HT3.out] at hv ⊢;have RB:=am (Kd.R_lower hv (show w.heap.size≤_ from by have h9:=HB.out.size;exact h9));have n0_:=am (show Below w.heap.size w wn from qB mCh hb);have n1_:=am (Kd.R_below (show kI.R 43 _ w.heap.size (fun _=>True) (.slice A1 l.length c1) l by (with_reducible repeat (first|apply Kd.R_drewN|apply Kd.R_drew));exact RL.out) hb);clear HB RL hb hv HP;have HB:=n0_;have RL:=n1_;clear n0_ n1_)
  | (go_at_call 12;refine(HX2.out _ mCh A8 c8 (ky_ RB.out)).mono ?_;rintro e wn ⟨h9,hb⟩;simp only[qAR,if_neg (show ¬ 1000<(pL 0 l:Int) by have h8:=HD.out.2;omega)] at h9;obtain⟨A2,c2,rfl,h9⟩:=h9;have RM:=am (Kd.R_lower h9 (show w.heap.size≤_ from by have h8:=HB.out.size;exact h8));have n0_:=am (show Below w.heap.size w wn from qB mCh hb);have n1_:=am (Kd.R_below (show kI.R 43 _ w.heap.size (fun _=>True) (.slice A1 l.length c1) l by (with_reducible repeat (first|apply Kd.R_drewN|apply Kd.R_drew));exact RL.out) hb);clear HB RL RB hb h9 HX2;have HB:=n0_;have RL:=n1_;clear n0_ n1_)
  | (go_at_call 19;refine(HM.out _ mCh A1 c1 (ky_ RL.out)).mono ?_;rintro e wn ⟨rfl,hb⟩;have n0_:=am (show Below w.heap.size w wn from qB mCh hb);have n1_:=am (Kd.R_below (show kI.R 43 _ w.heap.size (fun _=>True) (.slice A1 l.length c1) l by (with_reducible repeat (first|apply Kd.R_drewN|apply Kd.R_drew));exact RL.out) hb);have n2_:=am (Kd.R_below (show kI.R 43 _ w.heap.size (fun _=>True) (.slice A2 l.length c2) l by (with_reducible repeat (first|apply Kd.R_drewN|apply Kd.R_drew));exact RM.out) hb);clear HB RL RM hb HM;have HB:=n0_;have RL:=n1_;have RM:=n2_;clear n0_ n1_ n2_)
  | (go_at_call 20;refine(HSM.out _ A1 A2 c1 c2 (ky_ RL.out) (ky_ RM.out)).mono ?_;rintro e wn ⟨rfl,hb⟩;have n0_:=am (show Below w.heap.size w wn from qB mCh hb);clear HB RL RM hb HSM;have HB:=n0_;clear n0_))
 first
  | (go_ret;exact⟨rfl,mCh⟩)):p:=h
set_option maxRecDepth 100000 in
theorem mAa {p:Prop} (h:p:=by
 go_enter Tryd.func8,Tryd.ntmps8
 go_wp2_with (first
  | (go_at_call 18;refine(HLA.out _ mCh).mono ?_;rintro e wn ⟨rfl,hb⟩;have n0_:=am (show Below w.heap.size w wn from qB mCh hb);clear HB hb HLA;have HB:=n0_;clear n0_)
  | (go_at_call 11;refine(HQ.out _ mCh).mono ?_;rintro e wn ⟨rfl,hb⟩;have n0_:=am (show Below w.heap.size w wn from qB mCh hb);clear HB hb;have HB:=n0_;clear n0_)
  | (go_at_call 18;refine(HLB.out _ mCh).mono ?_;rintro e wn ⟨rfl,hb⟩;have n0_:=am (show Below w.heap.size w wn from qB mCh hb);clear HB hb HLB;have HB:=n0_;clear n0_)
  | (go_at_call 10;refine(HF.out _ mCh).mono ?_;rintro e wn ⟨rfl,hb⟩;have n0_:=am (show Below w.heap.size w wn from qB mCh hb);clear HB hb;have HB:=n0_;clear n0_)
  | (go_at_call 19;refine(HM.out _ mCh).mono ?_;rintro e wn ⟨rfl,hb⟩;have n0_:=am (show Below w.heap.size w wn from qB mCh hb);clear HB hb;have HB:=n0_;clear n0_)
  | (go_at_call 10;refine(HP.out _ mCh).mono ?_;rintro e wn ⟨v,rfl,hv,hb⟩;obtain⟨A8,c8,rfl⟩:=Kd.R_slice hv;rw[HT3.out] at hv ⊢;have RB:=am (Kd.R_lower hv (show w.heap.size≤_ from by have h9:=HB.out.size;exact h9));have n0_:=am (show Below w.heap.size w wn from qB mCh hb);clear HB hb hv;have HB:=n0_;clear n0_)
  | (go_at_call 13;refine(HCP.out _ mCh).mono ?_;rintro e wn ⟨v,rfl,hv,hb⟩;obtain⟨A9,c9,rfl⟩:=Kd.R_slice hv;rw[HNA.out] at hv ⊢;have HV:=am (Kd.R_lower hv (show w.heap.size≤_ from by have h9:=HB.out.size;exact h9));have n0_:=am (show Below w.heap.size w wn from qB mCh hb);have n1_:=am (Kd.R_below (show(Kd.int .u8).R 5 _ w.heap.size (fun _=>True) (.slice A8 T c8) bs by (with_reducible repeat (first|apply Kd.R_drewN|apply Kd.R_drew));exact RB.out) hb);clear HB RB hb hv;have HB:=n0_;have RB:=n1_;clear n0_ n1_)
  | ((with_reducible refine qZ (b:=.append) (xs:=#[.tmp 39,.tmp 40]) rfl ?_);at_builtin;refine Kd.R_append_rows (Kd.int .u8) (w0:=w) w.heap.size rfl (.tmp 39) (.tmp 40) 24 5 (.int .u8 0) 1 rfl Tryd.underlying24 jM rfl mDl mDl (.slice A9 NA c9) a bs A8 T c8 (fun _=>True) (fun _=>False) rfl rfl HV.out (show(Kd.int .u8).C _ A8 T bs from by have h8:=(Kd.R_reads' RB.out).2.2;rw[HT3.out] at h8;exact h8) (fun _ _ h=>h) (fun _ h=>h.elim) (fun _ _=>trivial) HB.out HB.out.size ?aM1 ?_;(case aM1=>have h1:=HSZ.out.1;have h2:=HNA.out;have h3:=HT3.out;omega);intro v1 wb ho hb hg hat;rw[← HAB.out.1] at ho;obtain⟨AB,cB,rfl⟩:=Kd.R_slice ho;rw[HAB.out.2] at ho ⊢;have n0_:=am ho;have n1_:=am hb;clear HV HB RB ho hb hg hat;have HV:=n0_;have HB:=n1_;clear n0_ n1_)
  | ((with_reducible refine qZ (b:=.append) (xs:=#[.tmp 42,.tmp 43]) rfl ?_);at_builtin;refine Kd.R_append_rows (Kd.int .u8) (w0:=w) w.heap.size rfl (.tmp 42) (.tmp 43) 24 5 (.int .u8 0) 1 rfl Tryd.underlying24 jM rfl mDl mDl (.slice AB NB cB) ab b Ab b.length cb (fun _=>True) (fun _=>False) rfl rfl HV.out (HBC.out _ HB.out) (fun _ _ h=>h) (fun _ h=>h.elim) (fun _ _=>trivial) HB.out HB.out.size ?aM2 ?_;(case aM2=>have h1:=HSZ.out.2;have h2:=HAB.out.2;omega);intro v1 wb ho hb hg hat;rw[← HALL.out.1] at ho;obtain⟨AL,cL_,rfl⟩:=Kd.R_slice ho;rw[HALL.out.2] at ho ⊢;have n0_:=am ho;have n1_:=am hb;clear HV HB ho hb hg hat;have HV:=n0_;have HB:=n1_;clear n0_ n1_)
  | (go_at_call 12;refine(HX.out _ mCh AL cL_ (ky_ HV.out)).mono ?_;rintro e wn ⟨h9,hb⟩;simp only[qAR,if_neg (show ¬ 1000<(pL 0 l:Int) by have h8:=HD.out;omega)] at h9;obtain⟨A1,c1,rfl,h9⟩:=h9;have RM:=am (Kd.R_lower h9 (show w.heap.size≤_ from by have h8:=HB.out.size;exact h8));have n0_:=am (show Below w.heap.size w wn from qB mCh hb);have n1_:=am (Kd.R_below (show(Kd.int .u8).R 5 _ w.heap.size (fun _=>True) (.slice AL NL cL_) all by (with_reducible repeat (first|apply Kd.R_drewN|apply Kd.R_drew));exact HV.out) hb);clear HB HV hb h9;have HB:=n0_;have HV:=n1_;clear n0_ n1_)
  | (go_at_call 17;refine(HS.out _ mCh AL cL_ (ky_ HV.out)).mono ?_;rintro e wn ⟨h9,hb⟩;simp only[qFZ] at h9;subst h9;have n0_:=am (show Below w.heap.size w wn from qB mCh hb);have n1_:=am (Kd.R_below (show kI.R 43 _ w.heap.size (fun _=>True) (.slice A1 l.length c1) l by (with_reducible repeat (first|apply Kd.R_drewN|apply Kd.R_drew));exact RM.out) hb);clear HB HV RM hb;have HB:=n0_;have RM:=n1_;clear n0_ n1_)
  | (go_at_call 20;refine(HSM.out _ mCh A1 c1 (ky_ RM.out)).mono ?_;rintro e wn ⟨rfl,hb⟩;have n0_:=am (show Below w.heap.size w wn from qB mCh hb);clear HB RM hb;have HB:=n0_;clear n0_)
  | (go_at_call 21;refine(HDP.out _ mCh).mono ?_;rintro e wn ⟨rfl,hb⟩;have n0_:=am (show Below w.heap.size w wn from qB mCh hb);clear HB hb;have HB:=n0_;clear n0_)
  | (go_at_call 25;refine(HDT.out _ mCh).mono ?_;rintro e wn ⟨rfl,hb⟩;have n0_:=am (show Below w.heap.size w wn from qB mCh hb);clear HB hb;have HB:=n0_;clear n0_))
 first
  | (go_ret;exact⟨rfl,mCh⟩)):p:=h
set_option maxRecDepth 100000 in
theorem mEq {p:Prop} (h:p:=by
 go_enter Tryd.func29,Tryd.ntmps29
 go_wp2_with (first
  | ((with_reducible refine qE (N:=1) rfl ?_);refine jP rfl _ rfl cx rfl ?_;intro g1 hg1 w1 hb hbl;have B1:=am hb;have L1:=am (qB mCl hbl);have G1:=am (qN hb);have z0:w1.cell? ⟨g1,0,none⟩=some (.int .u16 x.op):=(qA hb 0).trans mDn;clear hg1 hb hbl)
  | (go_at_call 42;refine(qW.calls K x.op r1 r2 im r4 r5 r6 r7 r8 _ (HTB.out.below mCi) HO.out).mono ?_;rintro e w2 ⟨v3,v4,rfl,h3,h4,hb⟩;obtain⟨A3,c3,rfl⟩:=Kd.R_slice h3;obtain⟨A4,c4,rfl⟩:=Kd.R_slice h4;have n0_:=am (qG B1.out hb);have n1_:=am (qB L1.out hb);have n2_:=am (qN n0_.out);clear B1 L1 G1 h3 h4 hb;have B1:=n0_;have L1:=n1_;have G1:=n2_;clear n0_ n1_ n2_)
  | ((with_reducible refine qE (N:=3) rfl ?_);refine qd rfl 79 rfl _ zh ?_;intro g3 hg3 w3 hb hbl;have n0_:=am (qG B1.out hbl);have n1_:=am (qB L1.out hbl);have n2_:=am hb;have n3_:=am (mDu:g1≠g3∧w.heap.size≤g3);clear B1 L1 hg3 hb hbl;have B1:=n0_;have L1:=n1_;have B3:=n2_;have N13:=n3_;clear n0_ n1_ n2_ n3_)
  | ((with_reducible refine qF (t:=79) (p:=3) (v:=.tmp 16) rfl ?_);refine qV rfl 79 (.tmp 3) (.tmp 16) rfl g3 #[.int .u16 r1,.string r2,.int .u8 im,.slice A3 r4.length c3,.slice A4 r5.length c4,.int .i64 r6,.bool r7] rfl rfl 79 _ B3.out zK rfl (xG _ _ _ _ _ _ _ _ _ _ _) ?_;intro w4 hb hoth hsz hbel;have n0_:=am ((hoth _ N13.out.1).trans B1.out);have n1_:=am (hbel _ _ N13.out.2 L1.out);have n2_:=am hb;have c32:w4.cell? ⟨g3,2,none⟩=some (.int .u8 im):=(qA hb 2).trans rfl;have z0:w4.cell? ⟨g1,0,none⟩=some (.int .u16 x.op):=(qA n0_.out 0).trans mDn;have z1:w4.cell? ⟨g1,1,none⟩=some (.int .u32 x.a):=(qA n0_.out 1).trans mD0;have z2:w4.cell? ⟨g1,2,none⟩=some (.int .u32 x.b):=(qA n0_.out 2).trans mDz;have z3:w4.cell? ⟨g1,3,none⟩=some (.int .u64 x.n):=(qA n0_.out 3).trans mDy;have z20:w4.cell? ⟨g1,20,none⟩=some (.slice Al x.l.length cl):=(qA n0_.out 20).trans mDs;have z21:w4.cell? ⟨g1,21,none⟩=some (.slice At x.t.length ct):=(qA n0_.out 21).trans mDr;have z22:w4.cell? ⟨g1,22,none⟩=some (.int .u8 x.bk):=(qA n0_.out 22).trans mD6;have z23:w4.cell? ⟨g1,23,none⟩=some (.int .u8 x.bv):=(qA n0_.out 23).trans mD4;have z24:w4.cell? ⟨g1,24,none⟩=some (.int .u32 x.bt):=(qA n0_.out 24).trans mD3;clear B1 L1 B3 hb hoth hsz hbel;have B1:=n0_;have L1:=n1_;have B3:=n2_;clear n0_ n1_ n2_)
  | (go_at_call 43;refine(HU.out _).mono ?_;rintro e w5 ⟨v50,rfl,ho4,hb⟩;obtain⟨A_v50,c_v50,rfl⟩:=Kd.R_slice ho4;have RV:=am (Kd.R_lower ho4 (qM mCi));have n1_:=am (qB mCi hb);clear L1 ho4 hb;have L1:=n1_;clear n1_)
  | ((with_reducible refine qE (N:=33) rfl ?_);refine Kd.R_lit (Kd.int .u8) (w0:=w) w.heap.size 5 ?hgq33 (N:=33) ?hdq33 (xs:=([x.bv]:List Int)) (inner:=[.int .u8 (x.bv)]) (ok:=fun _=>True) (okp:=fun _=>True) ?hrq33 ?hpq33 (fun _ hk=>hk) trivial ?hbq33 ?hsq33 mDp ?_;(case hdq33=>rfl);(case hgq33=>rfl);(case hbq33=>repeat (first|exact L1.out|apply qJ|apply qP));(case hsq33=>exact qM mCi);(case hrq33=>first|(go_simp;done)|(go_simp;rfl));(case hpq33=>exact(Reps.one (show Kd.M (Kd.int .u8) _ _ _ (x.bv) [.int .u8 (x.bv)] from rfl) (Reps.none _ _)));intro v33 w5 ho4 hb hg_ hnew_;obtain⟨Al_,cl_,rfl⟩:=Kd.R_slice ho4;have RL:=am ho4;clear L1 ho4 hg_ hnew_;have L1:=am hb;clear hb)
  | (go_at_call 44;refine(HU.out _).mono ?_;rintro e w5 ⟨v38,rfl,ho4,hb⟩;obtain⟨A_v38,c_v38,rfl⟩:=Kd.R_slice ho4;have RV:=am (Kd.R_lower ho4 (qM mCi));have n1_:=am (qB mCi hb);clear L1 ho4 hb;have L1:=n1_;clear n1_)
  | ((with_reducible refine qE (N:=89) rfl ?_);refine Kd.R_lit (Kd.int .u8) (w0:=w) w.heap.size 5 ?hgq89 (N:=89) ?hdq89 (xs:=([0]:List Int)) (inner:=[.int .u8 (0)]) (ok:=fun _=>True) (okp:=fun _=>True) ?hrq89 ?hpq89 (fun _ hk=>hk) trivial ?hbq89 ?hsq89 mDp ?_;(case hdq89=>rfl);(case hgq89=>rfl);(case hbq89=>repeat (first|exact L1.out|apply qJ|apply qP));(case hsq89=>exact qM mCi);(case hrq89=>first|(go_simp;done)|(go_simp;rfl));(case hpq89=>exact(Reps.one (show Kd.M (Kd.int .u8) _ _ _ (0) [.int .u8 (0)] from rfl) (Reps.none _ _)));intro v89 w5 ho4 hb hg_ hnew_;obtain⟨Al_,cl_,rfl⟩:=Kd.R_slice ho4;have RL:=am ho4;clear L1 ho4 hg_ hnew_;have L1:=am hb;clear hb)
  | ((with_reducible refine qE (N:=92) rfl ?_);refine Kd.R_lit (Kd.int .u8) (w0:=w) w.heap.size 5 ?hgq92 (N:=92) ?hdq92 (xs:=([0,0]:List Int)) (inner:=[.int .u8 (0),.int .u8 (0)]) (ok:=fun _=>True) (okp:=fun _=>True) ?hrq92 ?hpq92 (fun _ hk=>hk) trivial ?hbq92 ?hsq92 mDp ?_;(case hdq92=>rfl);(case hgq92=>rfl);(case hbq92=>repeat (first|exact L1.out|apply qJ|apply qP));(case hsq92=>exact qM mCi);(case hrq92=>first|(go_simp;done)|(go_simp;rfl));(case hpq92=>exact(Reps.one (show Kd.M (Kd.int .u8) _ _ _ (0) [.int .u8 (0)] from rfl) (Reps.one (show Kd.M (Kd.int .u8) _ _ _ (0) [.int .u8 (0)] from rfl) (Reps.none _ _))));intro v92 w5 ho4 hb hg_ hnew_;obtain⟨Al_,cl_,rfl⟩:=Kd.R_slice ho4;have RL:=am ho4;clear L1 ho4 hg_ hnew_;have L1:=am hb;clear hb)
  | ((with_reducible refine qE (N:=131) rfl ?_);refine Kd.R_lit (Kd.int .u8) (w0:=w) w.heap.size 5 ?hgq131 (N:=131) ?hdq131 (xs:=([x.b % 256]:List Int)) (inner:=[.int .u8 (x.b % 256)]) (ok:=fun _=>True) (okp:=fun _=>True) ?hrq131 ?hpq131 (fun _ hk=>hk) trivial ?hbq131 ?hsq131 mDp ?_;(case hdq131=>rfl);(case hgq131=>rfl);(case hbq131=>repeat (first|exact L1.out|apply qJ|apply qP));(case hsq131=>exact qM mCi);(case hrq131=>first|(go_simp;done)|(go_simp;rfl));(case hpq131=>exact(Reps.one (show Kd.M (Kd.int .u8) _ _ _ (x.b % 256) [.int .u8 (x.b % 256)] from rfl) (Reps.none _ _)));intro v131 w5 ho4 hb hg_ hnew_;obtain⟨Al_,cl_,rfl⟩:=Kd.R_slice ho4;have RL:=am ho4;clear L1 ho4 hg_ hnew_;have L1:=am hb;clear hb)
  | (go_at_call 44;refine(HU.out _).mono ?_;rintro e w5 ⟨v144,rfl,ho4,hb⟩;obtain⟨A_v144,c_v144,rfl⟩:=Kd.R_slice ho4;have RV:=am (Kd.R_lower ho4 (qM mCi));have n1_:=am (qB mCi hb);clear L1 ho4 hb;have L1:=n1_;clear n1_)
  | (go_at_call 46;refine(HU.out _).mono ?_;rintro e w5 ⟨v155,rfl,ho4,hb⟩;obtain⟨A_v155,c_v155,rfl⟩:=Kd.R_slice ho4;have RV:=am (Kd.R_lower ho4 (qM mCi));have n1_:=am (qB mCi hb);clear L1 ho4 hb;have L1:=n1_;clear n1_)
  | (go_at_call 46;refine(HU.out _).mono ?_;rintro e w5 ⟨v160,rfl,ho4,hb⟩;obtain⟨A_v160,c_v160,rfl⟩:=Kd.R_slice ho4;have RV:=am (Kd.R_lower ho4 (qM mCi));have n1_:=am (qB mCi hb);clear L1 ho4 hb;have L1:=n1_;clear n1_)
  | (go_at_call 44;refine(HU.out _).mono ?_;rintro e w5 ⟨v150,rfl,ho4,hb⟩;obtain⟨A_v150,c_v150,rfl⟩:=Kd.R_slice ho4;have RV:=am (Kd.R_lower ho4 (qM mCi));have n1_:=am (qB mCi hb);clear L1 ho4 hb;have L1:=n1_;clear n1_)
  | (go_at_call 43;refine(HU.out _).mono ?_;rintro e w5 ⟨v98,rfl,ho4,hb⟩;obtain⟨A_v98,c_v98,rfl⟩:=Kd.R_slice ho4;have RV:=am (Kd.R_lower ho4 (qM mCi));have n1_:=am (qB mCi hb);clear L1 ho4 hb;have L1:=n1_;clear n1_)
  | ((with_reducible refine qE (N:=99) rfl ?_);refine Kd.R_lit (Kd.int .u8) (w0:=w) w.heap.size 5 ?hgq99 (N:=99) ?hdq99 (xs:=([0]:List Int)) (inner:=[.int .u8 (0)]) (ok:=fun _=>True) (okp:=fun _=>True) ?hrq99 ?hpq99 (fun _ hk=>hk) trivial ?hbq99 ?hsq99 mDp ?_;(case hdq99=>rfl);(case hgq99=>rfl);(case hbq99=>repeat (first|exact L1.out|apply qJ|apply qP));(case hsq99=>exact qM mCi);(case hrq99=>first|(go_simp;done)|(go_simp;rfl));(case hpq99=>exact(Reps.one (show Kd.M (Kd.int .u8) _ _ _ (0) [.int .u8 (0)] from rfl) (Reps.none _ _)));intro v99 w6 ho4 hb hg_ hnew_;obtain⟨Al_,cl_,rfl⟩:=Kd.R_slice ho4;have n2_:=am (yt RV.out hg_);clear RV;have RV:=n2_;clear n2_;have RL:=am ho4;clear L1 ho4 hg_ hnew_;have L1:=am hb;clear hb)
  | ((with_reducible refine qZ (b:=.append) (xs:=#[.tmp 98,.tmp 99]) rfl ?_);at_builtin;refine Kd.R_append_rows (Kd.int .u8) (w0:=w) w.heap.size rfl (.tmp 98) (.tmp 99) 24 5 (.int .u8 0) 1 rfl Tryd.underlying24 jM rfl mDl mDl (.slice A_v98 r.length c_v98) (r) ([0]:List Int) Al_ 1 cl_ (fun _=>True) (fun _=>False) rfl rfl RV.out (Kd.R_reads' RL.out).2.2 (fun _ _ h=>h) (fun _ h=>h.elim) (fun _ _=>trivial) L1.out (qM L1.out) ?aL100 ?_;(case aL100=>omega);intro v100 w7 ho4 hb hg hat;have n1_:=am ho4;clear RV L1 RL ho4 hg hat;have RV:=n1_;have L1:=am hb;clear n1_ hb)
  | (go_at_call 45;refine(qDd ⟨g1,4,none⟩ 16 x.v _ H16.out (by first|exact qJ5 mD5 HX4.out H16.out)).mono ?_;rintro e w5 ⟨v137,rfl,ho4,hb⟩;have RV:=am (Kd.R_lower ho4 (qM mCi));have n1_:=am (qB mCi hb);clear L1 ho4 hb;have L1:=n1_;clear n1_)
  | (go_at_call 42;refine(qW.calls K x.op r1 r2 1 r4 r5 r6 r7 r8 _ (HTB.out.below mCi) HO.out).mono ?_;rintro e w2 ⟨v3,v4,rfl,h3,h4,hb⟩;obtain⟨A3,c3,rfl⟩:=Kd.R_slice h3;obtain⟨A4,c4,rfl⟩:=Kd.R_slice h4;have n0_:=am (qG B1.out hb);have n1_:=am (qB L1.out hb);have n2_:=am (qN n0_.out);clear B1 L1 G1 h3 h4 hb;have B1:=n0_;have L1:=n1_;have G1:=n2_;clear n0_ n1_ n2_)
  | ((with_reducible refine qF (t:=79) (p:=3) (v:=.tmp 16) rfl ?_);refine qV rfl 79 (.tmp 3) (.tmp 16) rfl g3 #[.int .u16 r1,.string r2,.int .u8 1,.slice A3 r4.length c3,.slice A4 r5.length c4,.int .i64 r6,.bool r7] rfl rfl 79 _ B3.out zK rfl (xG _ _ _ _ _ _ _ _ _ _ _) ?_;intro w4 hb hoth hsz hbel;have n0_:=am ((hoth _ N13.out.1).trans B1.out);have n1_:=am (hbel _ _ N13.out.2 L1.out);have n2_:=am hb;have c32:w4.cell? ⟨g3,2,none⟩=some (.int .u8 1):=(qA hb 2).trans rfl;have z22:w4.cell? ⟨g1,22,none⟩=some (.int .u8 0):=(qA n0_.out 22).trans (by rw[List.getElem?_toArray,← hbk];exact HX.out.2.2.2.2.2.2.1);clear B1 L1 B3 hb hoth hsz hbel;have B1:=n0_;have L1:=n1_;have B3:=n2_;clear n0_ n1_ n2_)
  | ((with_reducible refine qE (N:=27) rfl ?_);refine Kd.R_lit (Kd.int .u8) _ 5 ?hg (N:=27) ?hd (xs:=([64]:List Int)) (inner:=[.int .u8 64]) (ok:=fun _=>True) (okp:=fun _=>True) ?hr ?hp (fun _ hk=>hk) trivial (Below.refl _ _) (Nat.le_refl _) mDp ?_;(case hd=>rfl);(case hg=>rfl);(case hr=>first|(go_simp;done)|(go_simp;rfl));(case hp=>exact(Reps.one (show Kd.M (Kd.int .u8) _ _ _ 64 [.int .u8 64] from rfl) (Reps.none _ _)));intro v27 w5 ho4 hb hg_ hnew_;clear hg_ hnew_;have RV:=am (Kd.R_lower ho4 (qM mCi));have n1_:=am (qB mCi hb);clear L1 ho4 hb;have L1:=n1_;clear n1_))
 first
  | (go_ret;exact⟨_,rfl,ky_ RV.out,mCi⟩)
  | (go_ret;exact⟨_,rfl,ky_ RL.out,mCi⟩)
  | (go_ret;exact⟨_,rfl,Kd.R_nil _ _ _ _ _,mCi⟩)):p:=h
set_option maxRecDepth 100000 in
theorem mEr {p:Prop} (h:p:=by
 go_enter Tryd.func35,Tryd.ntmps35
 go_wp2_with (first
  | ((with_reducible refine qE (N:=1) rfl ?_);refine jP rfl _ rfl cx rfl ?_;intro g1 hg1 w1 hb hbl;have B1:=am hb;have L1:=am (qB mCl hbl);have G1:=am (qN hb);have z0:w1.cell? ⟨g1,0,none⟩=some (.int .u16 x.op):=(qA hb 0).trans mDn;clear hg1 hb hbl)
  | (go_at_call 42;refine(qW.calls K x.op r1 r2 im r4 r5 r6 r7 0 _ (HTB.out.below mCi) HO.out).mono ?_;rintro e w2 ⟨v3,v4,rfl,h3,h4,hb⟩;obtain⟨A3,c3,rfl⟩:=Kd.R_slice h3;obtain⟨A4,c4,rfl⟩:=Kd.R_slice h4;have n0_:=am (qG B1.out hb);have n1_:=am (qB L1.out hb);have n2_:=am (qN n0_.out);clear B1 L1 G1 h3 h4 hb;have B1:=n0_;have L1:=n1_;have G1:=n2_;clear n0_ n1_ n2_)
  | ((with_reducible refine qE (N:=3) rfl ?_);refine qd rfl 79 rfl _ zh ?_;intro g3 hg3 w3 hb hbl;have n0_:=am (qG B1.out hbl);have n1_:=am (qB L1.out hbl);have n2_:=am hb;have n3_:=am (mDu:g1≠g3∧w.heap.size≤g3);clear B1 L1 hg3 hb hbl;have B1:=n0_;have L1:=n1_;have B3:=n2_;have N13:=n3_;clear n0_ n1_ n2_ n3_)
  | ((with_reducible refine qF (t:=79) (p:=3) (v:=.tmp 10) rfl ?_);refine qV rfl 79 (.tmp 3) (.tmp 10) rfl g3 #[.int .u16 r1,.string r2,.int .u8 im,.slice A3 r4.length c3,.slice A4 r5.length c4,.int .i64 r6,.bool r7] rfl rfl 79 _ B3.out zK rfl (xG _ _ _ _ _ _ _ _ _ _ _) ?_;intro w4 hb hoth hsz hbel;have n0_:=am ((hoth _ N13.out.1).trans B1.out);have n1_:=am (hbel _ _ N13.out.2 L1.out);have n2_:=am hb;have c32:w4.cell? ⟨g3,2,none⟩=some (.int .u8 im):=(qA hb 2).trans rfl;have z0:w4.cell? ⟨g1,0,none⟩=some (.int .u16 x.op):=(qA n0_.out 0).trans mDn;clear B1 L1 B3 hb hoth hsz hbel;have B1:=n0_;have L1:=n1_;have B3:=n2_;clear n0_ n1_ n2_)
  | ((with_reducible refine qE (N:=16) rfl ?_);refine jV rfl (.tmp 15) rfl x.op rfl ?_)
  | ((with_reducible refine qE (N:=5) rfl ?_);refine qd rfl 43 rfl _ jd ?_;intro g5 hg5 w5 hb hbl;have n0_:=am (qG mD5 hbl);have n1_:=am (qG mEc hbl);have n2_:=am (qB mCi hbl);have n3_:=am hb;have n4_:Aside0 (w.heap.size≤g5∧g1≠g5∧g3≠g5):=⟨by have h1:=qN B1.out;have h2:=qN B3.out;have h3:=L1.out.size;have h4:w4.heap.size≤g5:=by {rw[hg5];exact Nat.le_refl _};omega⟩;clear B1 L1 B3 hg5 hb hbl;have B1:=n0_;have B3:=n1_;have L1:=n2_;have B5:=n3_;have N5:=n4_;clear n0_ n1_ n2_ n3_ n4_)
  | ((with_reducible refine qF (t:=43) (p:=5) (v:=.tmp 16) rfl ?_);refine qV rfl 43 (.tmp 5) (.tmp 16) rfl g5 _ rfl rfl 43 _ B5.out mD8 rfl (all_oneCell_toArray (kI.K_one (w:=w) (x:={zI with op:=x.op}) (yk w {zI with op:=x.op} (Al:=none) (At:=none) (Ab:=none) (Ae:=none) (cl:=0) (ct:=0) (cb:=0) (ce:=0) rfl ⟨Nat.le_refl _,Kd.C_nil _ _⟩ ⟨Nat.le_refl _,Kd.C_nil _ _⟩ ⟨Nat.le_refl _,Kd.C_nil _ _⟩ ⟨Nat.le_refl _,Kd.C_nil _ _⟩))) ?_;intro w6 hb hoth hsz hbel;have FSF:Aside0 (FS w w6 g1 g3 g5 cx _ _):=⟨⟨(hoth _ N5.out.2.1).trans B1.out,(hoth _ N5.out.2.2).trans B3.out,hb,hbel _ _ N5.out.1 L1.out,N5.out⟩⟩;have c32:w6.cell? ⟨g3,2,none⟩=some (.int .u8 im):=(qA FSF.out.2.1 2).trans rfl;have z0:w6.cell? ⟨g1,0,none⟩=some (.int .u16 x.op):=(qA FSF.out.1 0).trans mDn;have z1:w6.cell? ⟨g1,1,none⟩=some (.int .u32 x.a):=(qA FSF.out.1 1).trans mD0;have z2:w6.cell? ⟨g1,2,none⟩=some (.int .u32 x.b):=(qA FSF.out.1 2).trans mDz;have z3:w6.cell? ⟨g1,3,none⟩=some (.int .u64 x.n):=(qA FSF.out.1 3).trans mDy;have z20:w6.cell? ⟨g1,20,none⟩=some (.slice Al x.l.length cl):=(qA FSF.out.1 20).trans mDs;have z25:w6.cell? ⟨g1,25,none⟩=some (.slice Ab x.body.length cb):=(qA FSF.out.1 25).trans mDt;have z26:w6.cell? ⟨g1,26,none⟩=some (.slice Ae x.els.length ce):=(qA FSF.out.1 26).trans mDx;clear B1 L1 B3 B5 hb hoth hsz hbel)
  | ((with_reducible refine qF (t:=34) (p:=48) (v:=.tmp 47) rfl ?_);refine qT rfl 34 (.tmp 48) (.tmp 47) rfl g5 1 (.int .u32 x.a) rfl mDv 43 _ _ FSF.out.2.2.1 mEk js rfl (jH _ _ _ _ _ _) ?_;intro w9 hb hoth hsz hbel;have n0_:=am (FSF.out.store hb hoth hbel);clear FSF hb hoth hsz hbel;have FSF:=n0_;clear n0_)
  | ((with_reducible refine qE (N:=140) rfl ?_);refine q7 rfl 43 (.tmp 5) rfl g5 0 27 (qH {zI with op:=x.op,a:=x.a} (.slice none 0 0) (.slice none 0 0) (.slice none 0 0) (.slice none 0 0)) (qH {zI with op:=x.op,a:=x.a} (.slice none 0 0) (.slice none 0 0) (.slice none 0 0) (.slice none 0 0)) _ rfl mDq (by rw[List.drop_zero];exact List.take_of_length_le (Nat.le_of_eq (qL {zI with op:=x.op,a:=x.a} HWW.out _ _ _ _))) (qL {zI with op:=x.op,a:=x.a} HWW.out _ _ _ _) Tryd.underlying43 rfl zC ?_)
  | ((with_reducible refine qE (N:=141) rfl ?_);refine q7 rfl 43 (.tmp 1) rfl g1 0 27 cx cx _ rfl mE mCw HXL.out Tryd.underlying43 rfl zC ?_)
  | (go_at_call 36;refine(HF.out _ mC0).mono ?_;rintro e w11 ⟨rfl,hb⟩;have n0_:=am (FS.below mD7 hb);clear FSF hb;have FSF:=n0_;clear n0_;have z25:w11.cell? ⟨g1,25,none⟩=some (.slice Ab x.body.length cb):=(qA FSF.out.1 25).trans mDt;have z26:w11.cell? ⟨g1,26,none⟩=some (.slice Ae x.els.length ce):=(qA FSF.out.1 26).trans mDx;have y25:=(qCc FSF.out.2.2.1 HWW.out).2.2.1;have y26:=(qCc FSF.out.2.2.1 HWW.out).2.2.2)
  | ((with_reducible refine qF (t:=37) (p:=63) (v:=.tmp 62) rfl ?_);refine qT rfl 37 (.tmp 63) (.tmp 62) rfl g5 20 (.slice Al x.l.length cl) rfl mDv 43 _ _ FSF.out.2.2.1 mEk qEh rfl (ze _ rfl _ _ _ _ _).1 ?_;intro w9 hb hoth hsz hbel;have n0_:=am (FSF.out.store hb hoth hbel);clear FSF hb hoth hsz hbel;have FSF:=n0_;clear n0_;have z20:w9.cell? ⟨g1,20,none⟩=some (.slice Al x.l.length cl):=(qA FSF.out.1 20).trans mDs)
  | ((with_reducible refine qE (N:=140) rfl ?_);refine q7 rfl 43 (.tmp 5) rfl g5 0 27 (qH {zI with op:=x.op,l:=x.l} (.slice Al x.l.length cl) (.slice none 0 0) (.slice none 0 0) (.slice none 0 0)) (qH {zI with op:=x.op,l:=x.l} (.slice Al x.l.length cl) (.slice none 0 0) (.slice none 0 0) (.slice none 0 0)) _ rfl mDq (by rw[List.drop_zero];exact List.take_of_length_le (Nat.le_of_eq (qL {zI with op:=x.op,l:=x.l} HWW.out _ _ _ _))) (qL {zI with op:=x.op,l:=x.l} HWW.out _ _ _ _) Tryd.underlying43 rfl zC ?_)
  | ((with_reducible refine qF (t:=34) (p:=95) (v:=.tmp 94) rfl ?_);refine qT rfl 34 (.tmp 95) (.tmp 94) rfl g5 2 (.int .u32 (u8n x.b)) rfl mDv 43 _ _ FSF.out.2.2.1 mEk js rfl (jn _ _ _ _ _ _) ?_;intro w9 hb hoth hsz hbel;have n0_:=am (FSF.out.store hb hoth hbel);clear FSF hb hoth hsz hbel;have FSF:=n0_;clear n0_)
  | ((with_reducible refine qE (N:=140) rfl ?_);refine q7 rfl 43 (.tmp 5) rfl g5 0 27 (qH {zI with op:=x.op,b:=u8n x.b} (.slice none 0 0) (.slice none 0 0) (.slice none 0 0) (.slice none 0 0)) (qH {zI with op:=x.op,b:=u8n x.b} (.slice none 0 0) (.slice none 0 0) (.slice none 0 0) (.slice none 0 0)) _ rfl mDq (by rw[List.drop_zero];exact List.take_of_length_le (Nat.le_of_eq (qL {zI with op:=x.op,b:=u8n x.b} HWW.out _ _ _ _))) (qL {zI with op:=x.op,b:=u8n x.b} HWW.out _ _ _ _) Tryd.underlying43 rfl zC ?_)
  | ((with_reducible refine qE (N:=100) rfl ?_);refine q7 rfl 36 (.tmp 99) rfl g1 4 16 cx (zV (Value.int .u8) x.v) _ rfl FSF.out.1 HV.out (by rw[q9];exact H16.out) Tryd.underlying36 rfl qGG ?_)
  | ((with_reducible refine qF (t:=36) (p:=101) (v:=.tmp 100) rfl ?_);refine qCm rfl 36 (.tmp 101) (.tmp 100) rfl g5 4 (zV (Value.int .u8) x.v) rfl rfl 43 _ _ FSF.out.2.2.1 (by rw[q9,H16.out];exact(show 4+16≤27 by decide)) (by rw[q9,H16.out];exact qGG) (by intro v hv;obtain⟨z,_,rfl⟩:=List.mem_map.1 hv;rfl) (qDP _ _ H16.out _ _ _ _) ?_;intro w9 hb hoth hsz hbel;have n0_:=am (FSF.out.store hb hoth hbel);clear FSF hb hoth hsz hbel;have FSF:=n0_;clear n0_)
  | ((with_reducible refine qE (N:=140) rfl ?_);refine q7 rfl 43 (.tmp 5) rfl g5 0 27 (qH {zI with op:=x.op,v:=x.v} (.slice none 0 0) (.slice none 0 0) (.slice none 0 0) (.slice none 0 0)) (qH {zI with op:=x.op,v:=x.v} (.slice none 0 0) (.slice none 0 0) (.slice none 0 0) (.slice none 0 0)) _ rfl mDq (by rw[List.drop_zero];exact List.take_of_length_le (Nat.le_of_eq (qL {zI with op:=x.op,v:=x.v} HWW.out _ _ _ _))) (qL {zI with op:=x.op,v:=x.v} HWW.out _ _ _ _) Tryd.underlying43 rfl zC ?_)
  | ((with_reducible refine qF (t:=35) (p:=108) (v:=.tmp 107) rfl ?_);refine qT rfl 35 (.tmp 108) (.tmp 107) rfl g5 3 (.int .u64 (jD x.n)) rfl mDv 43 _ _ FSF.out.2.2.1 mEk yW rfl (zx _ _ _ _ _ _) ?_;intro w9 hb hoth hsz hbel;have n0_:=am (FSF.out.store hb hoth hbel);clear FSF hb hoth hsz hbel;have FSF:=n0_;clear n0_)
  | ((with_reducible refine qE (N:=140) rfl ?_);refine q7 rfl 43 (.tmp 5) rfl g5 0 27 (qH {zI with op:=x.op,n:=jD x.n} (.slice none 0 0) (.slice none 0 0) (.slice none 0 0) (.slice none 0 0)) (qH {zI with op:=x.op,n:=jD x.n} (.slice none 0 0) (.slice none 0 0) (.slice none 0 0) (.slice none 0 0)) _ rfl mDq (by rw[List.drop_zero];exact List.take_of_length_le (Nat.le_of_eq (qL {zI with op:=x.op,n:=jD x.n} HWW.out _ _ _ _))) (qL {zI with op:=x.op,n:=jD x.n} HWW.out _ _ _ _) Tryd.underlying43 rfl zC ?_)
  | ((with_reducible refine qF (t:=35) (p:=114) (v:=.tmp 113) rfl ?_);refine qT rfl 35 (.tmp 114) (.tmp 113) rfl g5 3 (.int .u64 x.n) rfl mDv 43 _ _ FSF.out.2.2.1 mEk yW rfl (zx _ _ _ _ _ _) ?_;intro w9 hb hoth hsz hbel;have n0_:=am (FSF.out.store hb hoth hbel);clear FSF hb hoth hsz hbel;have FSF:=n0_;clear n0_)
  | ((with_reducible refine qE (N:=140) rfl ?_);refine q7 rfl 43 (.tmp 5) rfl g5 0 27 (qH {zI with op:=x.op,n:=x.n} (.slice none 0 0) (.slice none 0 0) (.slice none 0 0) (.slice none 0 0)) (qH {zI with op:=x.op,n:=x.n} (.slice none 0 0) (.slice none 0 0) (.slice none 0 0) (.slice none 0 0)) _ rfl mDq (by rw[List.drop_zero];exact List.take_of_length_le (Nat.le_of_eq (qL {zI with op:=x.op,n:=x.n} HWW.out _ _ _ _))) (qL {zI with op:=x.op,n:=x.n} HWW.out _ _ _ _) Tryd.underlying43 rfl zC ?_))
 first
  | (all_goals go_ret;all_goals exact⟨by cases fl <;> cases bb <;> cases ee <;> (first|cases ll|skip) <;> first|rfl|contradiction,by repeat (first|exact FSF.out.bel|exact FS.bel FSF.out|apply qJ|apply qP)⟩)):p:=h
set_option maxRecDepth 100000 in
theorem mEs {p:Prop} (h:p:=by
 go_enter Tryd.func35,Tryd.ntmps35
 go_wp2_with (first
  | ((with_reducible refine qE (N:=1) rfl ?_);refine jP rfl _ rfl cx rfl ?_;intro g1 hg1 w1 hb hbl;have B1:=am hb;have L1:=am (qB mCl hbl);have G1:=am (qN hb);have z0:w1.cell? ⟨g1,0,none⟩=some (.int .u16 x.op):=(qA hb 0).trans mDn;clear hg1 hb hbl)
  | (go_at_call 42;refine(qW.calls K x.op r1 r2 im r4 r5 r6 r7 0 _ (HTB.out.below mCi) HO.out).mono ?_;rintro e w2 ⟨v3,v4,rfl,h3,h4,hb⟩;obtain⟨A3,c3,rfl⟩:=Kd.R_slice h3;obtain⟨A4,c4,rfl⟩:=Kd.R_slice h4;have n0_:=am (qG B1.out hb);have n1_:=am (qB L1.out hb);have n2_:=am (qN n0_.out);clear B1 L1 G1 h3 h4 hb;have B1:=n0_;have L1:=n1_;have G1:=n2_;clear n0_ n1_ n2_)
  | ((with_reducible refine qE (N:=3) rfl ?_);refine qd rfl 79 rfl _ zh ?_;intro g3 hg3 w3 hb hbl;have n0_:=am (qG B1.out hbl);have n1_:=am (qB L1.out hbl);have n2_:=am hb;have n3_:=am (mDu:g1≠g3∧w.heap.size≤g3);clear B1 L1 hg3 hb hbl;have B1:=n0_;have L1:=n1_;have B3:=n2_;have N13:=n3_;clear n0_ n1_ n2_ n3_)
  | ((with_reducible refine qF (t:=79) (p:=3) (v:=.tmp 10) rfl ?_);refine qV rfl 79 (.tmp 3) (.tmp 10) rfl g3 #[.int .u16 r1,.string r2,.int .u8 im,.slice A3 r4.length c3,.slice A4 r5.length c4,.int .i64 r6,.bool r7] rfl rfl 79 _ B3.out zK rfl (xG _ _ _ _ _ _ _ _ _ _ _) ?_;intro w4 hb hoth hsz hbel;have n0_:=am ((hoth _ N13.out.1).trans B1.out);have n1_:=am (hbel _ _ N13.out.2 L1.out);have n2_:=am hb;have c32:w4.cell? ⟨g3,2,none⟩=some (.int .u8 im):=(qA hb 2).trans rfl;have z0:w4.cell? ⟨g1,0,none⟩=some (.int .u16 x.op):=(qA n0_.out 0).trans mDn;clear B1 L1 B3 hb hoth hsz hbel;have B1:=n0_;have L1:=n1_;have B3:=n2_;clear n0_ n1_ n2_)
  | ((with_reducible refine qE (N:=16) rfl ?_);refine jV rfl (.tmp 15) rfl x.op rfl ?_)
  | ((with_reducible refine qE (N:=5) rfl ?_);refine qd rfl 43 rfl _ jd ?_;intro g5 hg5 w5 hb hbl;have n0_:=am (qG mD5 hbl);have n1_:=am (qG mEc hbl);have n2_:=am (qB mCi hbl);have n3_:=am hb;have n4_:Aside0 (w.heap.size≤g5∧g1≠g5∧g3≠g5):=⟨by have h1:=qN B1.out;have h2:=qN B3.out;have h3:=L1.out.size;have h4:w4.heap.size≤g5:=by {rw[hg5];exact Nat.le_refl _};omega⟩;clear B1 L1 B3 hg5 hb hbl;have B1:=n0_;have B3:=n1_;have L1:=n2_;have B5:=n3_;have N5:=n4_;clear n0_ n1_ n2_ n3_ n4_)
  | ((with_reducible refine qF (t:=43) (p:=5) (v:=.tmp 16) rfl ?_);refine qV rfl 43 (.tmp 5) (.tmp 16) rfl g5 _ rfl rfl 43 _ B5.out mD8 rfl (all_oneCell_toArray (kI.K_one (w:=w) (x:={zI with op:=x.op}) (yk w {zI with op:=x.op} (Al:=none) (At:=none) (Ab:=none) (Ae:=none) (cl:=0) (ct:=0) (cb:=0) (ce:=0) rfl ⟨Nat.le_refl _,Kd.C_nil _ _⟩ ⟨Nat.le_refl _,Kd.C_nil _ _⟩ ⟨Nat.le_refl _,Kd.C_nil _ _⟩ ⟨Nat.le_refl _,Kd.C_nil _ _⟩))) ?_;intro w6 hb hoth hsz hbel;have FSF:Aside0 (FS w w6 g1 g3 g5 cx _ _):=⟨⟨(hoth _ N5.out.2.1).trans B1.out,(hoth _ N5.out.2.2).trans B3.out,hb,hbel _ _ N5.out.1 L1.out,N5.out⟩⟩;have c32:w6.cell? ⟨g3,2,none⟩=some (.int .u8 im):=(qA FSF.out.2.1 2).trans rfl;have z0:w6.cell? ⟨g1,0,none⟩=some (.int .u16 x.op):=(qA FSF.out.1 0).trans mDn;have z1:w6.cell? ⟨g1,1,none⟩=some (.int .u32 x.a):=(qA FSF.out.1 1).trans mD0;have z2:w6.cell? ⟨g1,2,none⟩=some (.int .u32 x.b):=(qA FSF.out.1 2).trans mDz;have z3:w6.cell? ⟨g1,3,none⟩=some (.int .u64 x.n):=(qA FSF.out.1 3).trans mDy;have z20:w6.cell? ⟨g1,20,none⟩=some (.slice Al x.l.length cl):=(qA FSF.out.1 20).trans mDs;have z21:w6.cell? ⟨g1,21,none⟩=some (.slice At x.t.length ct):=(qA FSF.out.1 21).trans mDr;have z25:w6.cell? ⟨g1,25,none⟩=some (.slice Ab x.body.length cb):=(qA FSF.out.1 25).trans mDt;have z26:w6.cell? ⟨g1,26,none⟩=some (.slice Ae x.els.length ce):=(qA FSF.out.1 26).trans mDx;clear B1 L1 B3 B5 hb hoth hsz hbel)
  | ((with_reducible refine qF (t:=38) (p:=119) (v:=.tmp 118) rfl ?_);refine qT rfl 38 (.tmp 119) (.tmp 118) rfl g5 21 (.slice At x.t.length ct) rfl mDv 43 _ _ FSF.out.2.2.1 mEk qA8 rfl (ze _ rfl _ _ _ _ _).2.1 ?_;intro w9 hb hoth hsz hbel;have n0_:=am (FSF.out.store hb hoth hbel);clear FSF hb hoth hsz hbel;have FSF:=n0_;clear n0_;have z21:w9.cell? ⟨g1,21,none⟩=some (.slice At x.t.length ct):=(qA FSF.out.1 21).trans mDr)
  | ((with_reducible refine qE (N:=140) rfl ?_);refine q7 rfl 43 (.tmp 5) rfl g5 0 27 (qH {zI with op:=x.op,t:=x.t} (.slice none 0 0) (.slice At x.t.length ct) (.slice none 0 0) (.slice none 0 0)) (qH {zI with op:=x.op,t:=x.t} (.slice none 0 0) (.slice At x.t.length ct) (.slice none 0 0) (.slice none 0 0)) _ rfl mDq mDc (qL {zI with op:=x.op,t:=x.t} HWW.out _ _ _ _) Tryd.underlying43 rfl zC ?_)
  | ((with_reducible refine qE (N:=141) rfl ?_);refine q7 rfl 43 (.tmp 1) rfl g1 0 27 cx cx _ rfl mE mCw HXL.out Tryd.underlying43 rfl zC ?_)
  | (go_at_call 36;refine(HF.out _ mC0).mono ?_;rintro e w11 ⟨rfl,hb⟩;have n0_:=am (FS.below mD7 hb);clear FSF hb;have FSF:=n0_;clear n0_;have z25:w11.cell? ⟨g1,25,none⟩=some (.slice Ab x.body.length cb):=(qA FSF.out.1 25).trans mDt;have z26:w11.cell? ⟨g1,26,none⟩=some (.slice Ae x.els.length ce):=(qA FSF.out.1 26).trans mDx;have y25:=(qCc FSF.out.2.2.1 HWW.out).2.2.1;have y26:=(qCc FSF.out.2.2.1 HWW.out).2.2.2)
  | ((with_reducible refine qF (t:=38) (p:=136) (v:=.tmp 135) rfl ?_);refine qT rfl 38 (.tmp 136) (.tmp 135) rfl g5 21 (.slice At x.t.length ct) rfl mDv 43 _ _ FSF.out.2.2.1 mEk qA8 rfl (ze _ rfl _ _ _ _ _).2.1 ?_;intro w9 hb hoth hsz hbel;have n0_:=am (FSF.out.store hb hoth hbel);clear FSF hb hoth hsz hbel;have FSF:=n0_;clear n0_;have z21:w9.cell? ⟨g1,21,none⟩=some (.slice At x.t.length ct):=(qA FSF.out.1 21).trans mDr)
  | (go_at_call 55;refine(HCF.out _ mC0).mono ?_;rintro e w10 ⟨rfl,hb⟩;have n0_:=am (FS.below mD7 hb);clear FSF hb;have FSF:=n0_;clear n0_)
  | ((with_reducible refine qE (N:=140) rfl ?_);refine q7 rfl 43 (.tmp 5) rfl g5 0 27 (qH {zI with op:=x.op} (.slice none 0 0) (.slice none 0 0) (.slice none 0 0) (.slice none 0 0)) (qH {zI with op:=x.op} (.slice none 0 0) (.slice none 0 0) (.slice none 0 0) (.slice none 0 0)) _ rfl mDq (by rw[List.drop_zero];exact List.take_of_length_le (Nat.le_of_eq (qL {zI with op:=x.op} HWW.out _ _ _ _))) (qL {zI with op:=x.op} HWW.out _ _ _ _) Tryd.underlying43 rfl zC ?_))
 first
  | (all_goals go_ret;all_goals exact⟨by cases fl <;> cases bb <;> cases ee <;> (first|cases ll|skip) <;> first|rfl|contradiction,by repeat (first|exact FSF.out.bel|exact FS.bel FSF.out|apply qJ|apply qP)⟩)):p:=h
set_option maxRecDepth 100000 in
theorem mAd {p:Prop} (h:p:=by
 go_enter Tryd.func50,Tryd.ntmps50
 go_wp2_with (first
  | (go_at_call 64;first|(refine(U1.out _ _ mDi).mono ?_;rintro e w1 ⟨rfl,hS⟩;have n0_:=am (KX_.call mDi hS.1 hS.2.1 hS.2.2.1);clear S0 hS;have S0:=n0_;clear n0_))
  | ((with_reducible refine qF (t:=34) (p:=21) (v:=.tmp 19) rfl ?_);refine qT rfl 34 (.tmp 21) (.tmp 19) rfl gx 1 (.int .u32 r1) rfl mDv 43 _ (qH {zI with op:=o,a:=r1} (.slice none 0 0) (.slice none 0 0) (.slice none 0 0) (.slice none 0 0)).toArray (show _=some (oX (zop o) (.slice none 0 0) (.slice none 0 0)) by first|exact S0.out.2.1|exact(S0.out.drewN _).2.1) mCq js rfl (jH _ _ _ _ _ _) ?_;intro w9 hb hoth hsz hbel;have n0_:Aside0 (KX_ w0 W w9 g gx _ (oX {zI with op:=o,a:=r1} (.slice none 0 0) (.slice none 0 0))):=⟨KX_.put mDi hb hoth hsz hbel⟩;clear S0 hb hoth hsz hbel;have S0:=n0_;clear n0_)
  | (go_at_call 64;first|(refine(U1.out _ _ mDi).mono ?_;rintro e w1 ⟨rfl,hS⟩;have n0_:=am (KX_.call mDi hS.1 hS.2.1 hS.2.2.1);clear S0 hS;have S0:=n0_;clear n0_)|(refine(U2.out _ _ mDi).mono ?_;rintro e w1 ⟨rfl,hS⟩;have n0_:=am (KX_.call mDi hS.1 hS.2.1 hS.2.2.1);clear S0 hS;have S0:=n0_;clear n0_))
  | ((with_reducible refine qF (t:=34) (p:=30) (v:=.tmp 28) rfl ?_);refine qT rfl 34 (.tmp 30) (.tmp 28) rfl gx 1 (.int .u32 r1) rfl mDv 43 _ (qH {zI with op:=o,a:=r1} (.slice none 0 0) (.slice none 0 0) (.slice none 0 0) (.slice none 0 0)).toArray (show _=some (oX (zop o) (.slice none 0 0) (.slice none 0 0)) by first|exact S0.out.2.1|exact(S0.out.drewN _).2.1) mCq js rfl (jH _ _ _ _ _ _) ?_;intro w9 hb hoth hsz hbel;have n0_:Aside0 (KX_ w0 W w9 g gx _ (oX {zI with op:=o,a:=r1} (.slice none 0 0) (.slice none 0 0))):=⟨KX_.put mDi hb hoth hsz hbel⟩;clear S0 hb hoth hsz hbel;have S0:=n0_;clear n0_)
  | ((with_reducible refine qF (t:=34) (p:=35) (v:=.tmp 33) rfl ?_);refine qT rfl 34 (.tmp 35) (.tmp 33) rfl gx 2 (.int .u32 q1) rfl mDv 43 _ (qH {zI with op:=o,a:=r1,b:=q1} (.slice none 0 0) (.slice none 0 0) (.slice none 0 0) (.slice none 0 0)).toArray (show _=some (oX {zI with op:=o,a:=r1} (.slice none 0 0) (.slice none 0 0)) by first|exact S0.out.2.1|exact(S0.out.drewN _).2.1) mCq js rfl (jn _ _ _ _ _ _) ?_;intro w9 hb hoth hsz hbel;have n0_:Aside0 (KX_ w0 W w9 g gx _ (oX {zI with op:=o,a:=r1,b:=q1} (.slice none 0 0) (.slice none 0 0))):=⟨KX_.put mDi hb hoth hsz hbel⟩;clear S0 hb hoth hsz hbel;have S0:=n0_;clear n0_)
  | (go_at_call 67;first|(refine(Z1.out _ _ mDi).mono ?_;rintro e w1 ⟨rfl,hS⟩;have n0_:=am (KX_.call mDi hS.1 hS.2.1 hS.2.2.1);clear S0 hS;have S0:=n0_;clear n0_)|(refine(Z2.out _ _ mDi).mono ?_;rintro e w1 ⟨rfl,hS⟩;have n0_:=am (KX_.call mDi hS.1 hS.2.1 hS.2.2.1);clear S0 hS;have S0:=n0_;clear n0_))
  | (go_at_call 67;first|(refine(Z1.out _ _ mDi).mono ?_;rintro e w1 ⟨rfl,hS⟩;have n0_:=am (KX_.call mDi hS.1 hS.2.1 hS.2.2.1);clear S0 hS;have S0:=n0_;clear n0_))
  | ((with_reducible refine qF (t:=34) (p:=72) (v:=.tmp 70) rfl ?_);refine qT rfl 34 (.tmp 72) (.tmp 70) rfl gx 1 (.int .u32 r1) rfl mDv 43 _ (qH {zI with op:=o,a:=r1} (.slice none 0 0) (.slice none 0 0) (.slice none 0 0) (.slice none 0 0)).toArray (show _=some (oX (zop o) (.slice none 0 0) (.slice none 0 0)) by first|exact S0.out.2.1|exact(S0.out.drewN _).2.1) mCq js rfl (jH _ _ _ _ _ _) ?_;intro w9 hb hoth hsz hbel;have n0_:Aside0 (KX_ w0 W w9 g gx _ (oX {zI with op:=o,a:=r1} (.slice none 0 0) (.slice none 0 0))):=⟨KX_.put mDi hb hoth hsz hbel⟩;clear S0 hb hoth hsz hbel;have S0:=n0_;clear n0_)
  | (go_at_call 67;first|(refine(Z1.out _ _ mDi).mono ?_;rintro e w2 ⟨rfl,hS⟩;have n0_:=am (KX_.call mDi hS.1 hS.2.1 hS.2.2.1);clear S0 hS;have S0:=n0_;clear n0_))
  | ((with_reducible refine qF (t:=34) (p:=82) (v:=.tmp 80) rfl ?_);refine qT rfl 34 (.tmp 82) (.tmp 80) rfl gx 1 (.int .u32 r1) rfl mDv 43 _ (qH {zI with op:=o,a:=r1} (.slice none 0 0) (.slice none 0 0) (.slice none 0 0) (.slice none 0 0)).toArray (show _=some (oX (zop o) (.slice none 0 0) (.slice none 0 0)) by first|exact S0.out.2.1|exact(S0.out.drewN _).2.1) mCq js rfl (jH _ _ _ _ _ _) ?_;intro w9 hb hoth hsz hbel;have n0_:Aside0 (KX_ w0 W w9 g gx _ (oX {zI with op:=o,a:=r1} (.slice none 0 0) (.slice none 0 0))):=⟨KX_.put mDi hb hoth hsz hbel⟩;clear S0 hb hoth hsz hbel;have S0:=n0_;clear n0_)
  | ((with_reducible refine qF (t:=35) (p:=88) (v:=.tmp 86) rfl ?_);refine qT rfl 35 (.tmp 88) (.tmp 86) rfl gx 3 (.int .u64 (IntKind.u64.wrap q1)) rfl mDv 43 _ (qH {zI with op:=o,a:=r1,n:=IntKind.u64.wrap q1} (.slice none 0 0) (.slice none 0 0) (.slice none 0 0) (.slice none 0 0)).toArray (show _=some (oX {zI with op:=o,a:=r1} (.slice none 0 0) (.slice none 0 0)) by first|exact S0.out.2.1|exact(S0.out.drewN _).2.1) mCq yW rfl (zx _ _ _ _ _ _) ?_;intro w9 hb hoth hsz hbel;have n0_:Aside0 (KX_ w0 W w9 g gx _ (oX {zI with op:=o,a:=r1,n:=IntKind.u64.wrap q1} (.slice none 0 0) (.slice none 0 0))):=⟨KX_.put mDi hb hoth hsz hbel⟩;clear S0 hb hoth hsz hbel;have S0:=n0_;clear n0_)
  | (go_at_call 63;first|(refine(O1.out _ _ mDi).mono ?_;rintro e w2 ⟨rfl,hS⟩;have n0_:=am (KX_.call mDi hS.1 hS.2.1 hS.2.2.1);clear S0 hS;have S0:=n0_;clear n0_))
  | ((with_reducible refine qF (t:=34) (p:=96) (v:=.tmp 94) rfl ?_);refine qT rfl 34 (.tmp 96) (.tmp 94) rfl gx 2 (.int .u32 (IntKind.u32.wrap p1)) rfl mDv 43 _ (qH {zI with op:=o,a:=r1,b:=IntKind.u32.wrap p1,n:=IntKind.u64.wrap q1} (.slice none 0 0) (.slice none 0 0) (.slice none 0 0) (.slice none 0 0)).toArray (show _=some (oX {zI with op:=o,a:=r1,n:=IntKind.u64.wrap q1} (.slice none 0 0) (.slice none 0 0)) by first|exact S0.out.2.1|exact(S0.out.drewN _).2.1) mCq js rfl (jn _ _ _ _ _ _) ?_;intro w9 hb hoth hsz hbel;have n0_:Aside0 (KX_ w0 W w9 g gx _ (oX {zI with op:=o,a:=r1,b:=IntKind.u32.wrap p1,n:=IntKind.u64.wrap q1} (.slice none 0 0) (.slice none 0 0))):=⟨KX_.put mDi hb hoth hsz hbel⟩;clear S0 hb hoth hsz hbel;have S0:=n0_;clear n0_)
  | ((with_reducible refine qF (t:=34) (p:=104) (v:=.tmp 102) rfl ?_);refine qT rfl 34 (.tmp 104) (.tmp 102) rfl gx 2 (.int .u32 (IntKind.u32.wrap p1)) rfl mDv 43 _ (qH {zI with op:=o,b:=IntKind.u32.wrap p1} (.slice none 0 0) (.slice none 0 0) (.slice none 0 0) (.slice none 0 0)).toArray (show _=some (oX (zop o) (.slice none 0 0) (.slice none 0 0)) by first|exact S0.out.2.1|exact(S0.out.drewN _).2.1) mCq js rfl (jn _ _ _ _ _ _) ?_;intro w9 hb hoth hsz hbel;have n0_:Aside0 (KX_ w0 W w9 g gx _ (oX {zI with op:=o,b:=IntKind.u32.wrap p1} (.slice none 0 0) (.slice none 0 0))):=⟨KX_.put mDi hb hoth hsz hbel⟩;clear S0 hb hoth hsz hbel;have S0:=n0_;clear n0_)
  | (go_at_call 65;first|(refine(S1.out _ _ mDi).mono ?_;rintro e w1 ⟨rfl,hS⟩;have n0_:=am (KX_.call mDi hS.1 hS.2.1 hS.2.2.1);clear S0 hS;have S0:=n0_;clear n0_))
  | ((with_reducible refine qF (t:=35) (p:=127) (v:=.tmp 125) rfl ?_);refine qT rfl 35 (.tmp 127) (.tmp 125) rfl gx 3 (.int .u64 (r1 % 4294967296)) rfl mDv 43 _ (qH {zI with op:=o,n:=r1 % 4294967296} (.slice none 0 0) (.slice none 0 0) (.slice none 0 0) (.slice none 0 0)).toArray (show _=some (oX (zop o) (.slice none 0 0) (.slice none 0 0)) by first|exact S0.out.2.1|exact(S0.out.drewN _).2.1) mCq yW rfl (zx _ _ _ _ _ _) ?_;intro w9 hb hoth hsz hbel;have n0_:Aside0 (KX_ w0 W w9 g gx _ (oX {zI with op:=o,n:=r1 % 4294967296} (.slice none 0 0) (.slice none 0 0))):=⟨KX_.put mDi hb hoth hsz hbel⟩;clear S0 hb hoth hsz hbel;have S0:=n0_;clear n0_)
  | ((with_reducible refine qF (t:=35) (p:=135) (v:=.tmp 133) rfl ?_);refine qT rfl 35 (.tmp 135) (.tmp 133) rfl gx 3 (.int .u64 (IntKind.u64.wrap r1)) rfl mDv 43 _ (qH {zI with op:=o,n:=IntKind.u64.wrap r1} (.slice none 0 0) (.slice none 0 0) (.slice none 0 0) (.slice none 0 0)).toArray (show _=some (oX (zop o) (.slice none 0 0) (.slice none 0 0)) by first|exact S0.out.2.1|exact(S0.out.drewN _).2.1) mCq yW rfl (zx _ _ _ _ _ _) ?_;intro w9 hb hoth hsz hbel;have n0_:Aside0 (KX_ w0 W w9 g gx _ (oX {zI with op:=o,n:=IntKind.u64.wrap r1} (.slice none 0 0) (.slice none 0 0))):=⟨KX_.put mDi hb hoth hsz hbel⟩;clear S0 hb hoth hsz hbel;have S0:=n0_;clear n0_)
  | (go_at_call 68;first|(refine(L1.out _ _ mDi).mono ?_;rintro e w1 ⟨rfl,hS⟩;have n0_:=am (KX_.call mDi hS.1 hS.2.1 hS.2.2.1);clear S0 hS;have S0:=n0_;clear n0_))
  | ((with_reducible refine qF (t:=35) (p:=142) (v:=.tmp 140) rfl ?_);refine qT rfl 35 (.tmp 142) (.tmp 140) rfl gx 3 (.int .u64 lw.1) rfl mDv 43 _ (qH {zI with op:=o,n:=lw.1} (.slice none 0 0) (.slice none 0 0) (.slice none 0 0) (.slice none 0 0)).toArray (show _=some (oX (zop o) (.slice none 0 0) (.slice none 0 0)) by first|exact S0.out.2.1|exact(S0.out.drewN _).2.1) mCq yW rfl (zx _ _ _ _ _ _) ?_;intro w9 hb hoth hsz hbel;have n0_:Aside0 (KX_ w0 W w9 g gx _ (oX {zI with op:=o,n:=lw.1} (.slice none 0 0) (.slice none 0 0))):=⟨KX_.put mDi hb hoth hsz hbel⟩;clear S0 hb hoth hsz hbel;have S0:=n0_;clear n0_)
  | ((with_reducible refine qF (t:=35) (p:=149) (v:=.tmp 147) rfl ?_);refine qT rfl 35 (.tmp 149) (.tmp 147) rfl gx 3 (.int .u64 lw.1) rfl mDv 43 _ (qH {zI with op:=o,n:=lw.1} (.slice none 0 0) (.slice none 0 0) (.slice none 0 0) (.slice none 0 0)).toArray (show _=some (oX (zop o) (.slice none 0 0) (.slice none 0 0)) by first|exact S0.out.2.1|exact(S0.out.drewN _).2.1) mCq yW rfl (zx _ _ _ _ _ _) ?_;intro w9 hb hoth hsz hbel;have n0_:Aside0 (KX_ w0 W w9 g gx _ (oX {zI with op:=o,n:=lw.1} (.slice none 0 0) (.slice none 0 0))):=⟨KX_.put mDi hb hoth hsz hbel⟩;clear S0 hb hoth hsz hbel;have S0:=n0_;clear n0_)
  | (go_at_call 70;refine(LV.out _ _ mDi).mono ?_;rintro e w1 ⟨v1,rfl,hr1,hS⟩;obtain⟨A1,c1,rfl⟩:=Kd.R_slice hr1;have RV:=am (Kd.R_mono hr1 (fun q hq=>(Nat.le_trans S0.out.2.2.1.1 hq:W.heap.size≤q)));clear hr1;have n0_:=am (KX_.call mDi hS.1 hS.2.1 hS.2.2.1);clear S0 hS;have S0:=n0_;clear n0_)
  | ((with_reducible refine qF (t:=38) (p:=179) (v:=.tmp 177) rfl ?_);refine qT rfl 38 (.tmp 179) (.tmp 177) rfl gx 21 (.slice A1 r.1.length c1) rfl rfl 43 _ (qH {zI with op:=o,t:=r.1} (.slice none 0 0) (.slice A1 r.1.length c1) (.slice none 0 0) (.slice none 0 0)).toArray (show _=some (oX (zop o) (.slice none 0 0) (.slice none 0 0)) by first|exact S0.out.2.1|exact(S0.out.drewN _).2.1) mEl qA8 mD2 (ze _ rfl _ _ _ _ _).2.1 ?_;intro w9 hb hoth hsz hbel;have n1_:=am (Kd.R_move RV.out (fun q hq=>hoth q mEg));have n0_:Aside0 (KX_ w0 W w9 g gx _ (oX {zI with op:=o,t:=r.1} (.slice none 0 0) (.slice A1 r.1.length c1))):=⟨KX_.put mDi hb hoth hsz hbel⟩;clear S0 RV hb hoth hsz hbel;have S0:=n0_;have RV:=n1_;clear n0_ n1_))
 first
  | (exact⟨rfl,.tuple #[],by first|rfl|simp[results,Tryd.f50],_,_,rfl,S0.out,Kd.R_nil _ _ _ _ _,Kd.R_nil _ _ _ _ _⟩)
  | (exact⟨rfl,.tuple #[],by first|rfl|simp[results,Tryd.f50],_,_,rfl,S0.out,Kd.R_nil _ _ _ _ _,RV.out⟩)):p:=h
theorem mAe {p:Prop} (h:p:=by
 simp only[Act.put,List.setIfInBounds_toArray,List.set_cons_zero,List.set_cons_succ,zX,zn]
 rfl):p:=h
set_option maxRecDepth 100000 in
theorem mAf {p:Prop} (h:p:=by
 have HHA:=am hA2
 clear hA2
 go_wp2
 go_quiet (fail)
 go_wp2
 go_quiet (fail)
 go_wp2_with (first
  | ((with_reducible refine qE (N:=57) rfl ?_);refine qD9 (some 57) rfl rfl (.tmp 54) #[.pointer (some ⟨gn,0,none⟩)] hfn hname hbody #[.pointer (some (ad.add (p.at_*27))),.int .i64 p.high] rfl rfl mD ?_;refine(HSX.out _ ?b0 ?g0).mono ?_;(case b0=>repeat (first|exact HB0.out|apply qJ|apply qP|refine zN ?_ (Nat.le_trans HW0.out HBG.out)));(case g0=>exact(Below.heap_setCell _ _ _ gn HNE.out).trans HG.out);rintro e w5 ⟨rfl,hg5,hk5,hb5⟩;refine⟨_,rfl,?_⟩;have HR5:=am (Kd.R_mono (Kd.R_keep (Kd.R_mono (ok':=fun k_=>k_≠gn) (Kd.R_bound (qEW (Kd.R_drewN HHR.out _) (by rw[List.length_reverse];exact HHM.out) (fun j u h=>HCC.out j u h) HLP.out HCP.out)) (fun k_ hk=>by have:=hk.2.1;have:=HGN.out;omega)) hk5 (fun _ h=>h)) (ok':=fun _=>True) (fun _ _=>trivial));have x0:w5.cell? (ad.add (p.at_*27))=some (.int .u16 x.op):=(hb5.cell (World.block_lt_of_cell? w0 _ HY0.out)).trans HY0.out;have x25:w5.cell? ⟨(ad.add (p.at_*27)).block,(ad.add (p.at_*27)).off+25,none⟩=some (.slice Ab x.body.length cb):=(hb5.cell (World.block_lt_of_cell? w0 _ HY25.out)).trans HY25.out;have x26:w5.cell? ⟨(ad.add (p.at_*27)).block,(ad.add (p.at_*27)).off+26,none⟩=some (.slice Ae x.els.length ce):=(hb5.cell (World.block_lt_of_cell? w0 _ HY26.out)).trans HY26.out;have HG5:=am hg5;have HB5:=am hb5;have HK5:=am (qc.trans (qBU (xC HK.out _) (p:=⟨g,m*3+1,none⟩) HBG.out _) hk5 (.inl rfl));clear hg5 hk5 hb5)
  | (go_at_call 30;refine(zy _ _).mono ?_;rintro e w' ⟨rfl,rfl⟩)
  | ((with_reducible refine qZ (b:=.append) (xs:=#[.tmp 72,.tmp 79]) rfl ?_);at_builtin;refine Kd.R_append (kP w0) w.heap.size rfl (.tmp 72) (.tmp 79) 101 100 (.agg #[.slice none 0 0,.int .i64 0,.int .i64 0]) 40 rfl Tryd.underlying101 qBs rfl (show 0<3 by decide) mDl _ _ ⟨x.els,0,(wrap64 (p.high+1))⟩ [.slice Ae x.els.length ce,.int .i64 0,.int .i64 (wrap64 (p.high+1))] (fun _=>True) (fun _=>False) rfl rfl (qA1 w0 _ _ _ ⟨x.els,0,(wrap64 (p.high+1))⟩ HEL.out.1 HEL.out.2) (fun _ hk=>hk.elim) (fun _ _=>trivial) (ky_ HR5.out) (Below.refl _ _) (HK5.out.1) ?aL ?_;(case aL=>simp only[List.length_append,List.length_reverse,List.length_singleton];have:=HRL.out;omega);intro v5 w6 ho hb hg hat;have n0_:=am ho;have n1_:=am ((hb.block gn HGN.out).trans HG5.out);have n2_:=am (HB5.out.trans (hb.mono HW0.out));have n3_:=am (qBp HK5.out hb);have x25':w6.cell? ⟨(ad.add (p.at_*27)).block,(ad.add (p.at_*27)).off+25,none⟩=some (.slice Ab x.body.length cb):=(n2_.out.cell (World.block_lt_of_cell? w0 _ HY25.out)).trans HY25.out;clear HR5 HG5 HB5 HK5;have HR5:=n0_;have HG5:=n1_;have HB5:=n2_;have HK5:=n3_;clear n0_ n1_ n2_ n3_;clear ho hb hg hat)
  | ((with_reducible refine qZ (b:=.append) (xs:=#[.tmp 87,.tmp 94]) rfl ?_);at_builtin;refine Kd.R_append (kP w0) w.heap.size rfl (.tmp 87) (.tmp 94) 101 100 (.agg #[.slice none 0 0,.int .i64 0,.int .i64 0]) 40 rfl Tryd.underlying101 qBs rfl (show 0<3 by decide) mDl _ _ ⟨x.body,0,(wrap64 (p.high+1))⟩ [.slice Ab x.body.length cb,.int .i64 0,.int .i64 (wrap64 (p.high+1))] (fun _=>True) (fun _=>False) rfl rfl (qA1 w0 _ _ _ ⟨x.body,0,(wrap64 (p.high+1))⟩ HBD.out.1 HBD.out.2) (fun _ hk=>hk.elim) (fun _ _=>trivial) (ky_ HR5.out) (Below.refl _ _) (HK5.out.1) ?aL ?_;(case aL=>simp only[List.length_append,List.length_reverse,List.length_singleton];have:=HRL.out;omega);intro v5 w6 ho hb hg hat;have n0_:=am ho;have n1_:=am ((hb.block gn HGN.out).trans HG5.out);have n2_:=am (HB5.out.trans (hb.mono HW0.out));have n3_:=am (qBp HK5.out hb);have x25':w6.cell? ⟨(ad.add (p.at_*27)).block,(ad.add (p.at_*27)).off+25,none⟩=some (.slice Ab x.body.length cb):=(n2_.out.cell (World.block_lt_of_cell? w0 _ HY25.out)).trans HY25.out;clear HR5 HG5 HB5 HK5;have HR5:=n0_;have HG5:=n1_;have HB5:=n2_;have HK5:=n3_;clear n0_ n1_ n2_ n3_;clear ho hb hg hat))
 go_roundg k1
 case measure=>have:=HK1.out;omega
 case rel=>exact⟨_,s2.1,HHA,⟨by have h9:=HR5.out;simpa [List.append_assoc] using h9⟩,HG5,HK5,HB5,⟨by have:=HK1.out;omega⟩⟩):p:=h
set_option maxRecDepth 100000 in
theorem mAg {p:Prop} (h:p:=by
 have HHA:=am hA2
 clear hA2
 go_wp2
 go_quiet (fail)
 go_wp2
 go_quiet (fail)
 go_wp2_with (first
  | ((with_reducible refine qE (N:=57) rfl ?_);refine qD9 (some 57) rfl rfl (.tmp 54) #[.pointer (some ⟨gn,0,none⟩)] hfn hname hbody #[.pointer (some (ad.add (p.at_*27))),.int .i64 p.high] rfl rfl mD ?_;refine(HSX.out _ ?b0 ?g0).mono ?_;(case b0=>repeat (first|exact HB0.out|apply qJ|apply qP|refine zN ?_ (Nat.le_trans HW0.out HBG.out)));(case g0=>exact(Below.heap_setCell _ _ _ gn HNE.out).trans HG.out);rintro e w5 ⟨rfl,hg5,hk5,hb5⟩;refine⟨_,rfl,?_⟩;have HR5:=am (Kd.R_mono (Kd.R_keep (Kd.R_mono (ok':=fun k_=>k_≠gn) (Kd.R_bound (qEW (Kd.R_drewN HHR.out _) (by rw[List.length_reverse];exact HHM.out) (fun j u h=>HCC.out j u h) HLP.out HCP.out)) (fun k_ hk=>by have:=hk.2.1;have:=HGN.out;omega)) hk5 (fun _ h=>h)) (ok':=fun _=>True) (fun _ _=>trivial));have x0:w5.cell? (ad.add (p.at_*27))=some (.int .u16 x.op):=(hb5.cell (World.block_lt_of_cell? w0 _ HY0.out)).trans HY0.out;have x25:w5.cell? ⟨(ad.add (p.at_*27)).block,(ad.add (p.at_*27)).off+25,none⟩=some (.slice Ab x.body.length cb):=(hb5.cell (World.block_lt_of_cell? w0 _ HY25.out)).trans HY25.out;have x26:w5.cell? ⟨(ad.add (p.at_*27)).block,(ad.add (p.at_*27)).off+26,none⟩=some (.slice Ae x.els.length ce):=(hb5.cell (World.block_lt_of_cell? w0 _ HY26.out)).trans HY26.out;have HG5:=am hg5;have HB5:=am hb5;have HK5:=am (qc.trans (qBU (xC HK.out _) (p:=⟨g,m*3+1,none⟩) HBG.out _) hk5 (.inl rfl));clear hg5 hk5 hb5)
  | (go_at_call 30;refine(zy _ _).mono ?_;rintro e w' ⟨rfl,rfl⟩)
  | ((with_reducible refine qZ (b:=.append) (xs:=#[.tmp 72,.tmp 79]) rfl ?_);at_builtin;refine Kd.R_append (kP w0) w.heap.size rfl (.tmp 72) (.tmp 79) 101 100 (.agg #[.slice none 0 0,.int .i64 0,.int .i64 0]) 40 rfl Tryd.underlying101 qBs rfl (show 0<3 by decide) mDl _ _ ⟨x.els,0,p.high⟩ [.slice Ae x.els.length ce,.int .i64 0,.int .i64 p.high] (fun _=>True) (fun _=>False) rfl rfl (qA1 w0 _ _ _ ⟨x.els,0,p.high⟩ HEL.out.1 HEL.out.2) (fun _ hk=>hk.elim) (fun _ _=>trivial) (ky_ HR5.out) (Below.refl _ _) (HK5.out.1) ?aL ?_;(case aL=>simp only[List.length_append,List.length_reverse,List.length_singleton];have:=HRL.out;omega);intro v5 w6 ho hb hg hat;have n0_:=am ho;have n1_:=am ((hb.block gn HGN.out).trans HG5.out);have n2_:=am (HB5.out.trans (hb.mono HW0.out));have n3_:=am (qBp HK5.out hb);have x25':w6.cell? ⟨(ad.add (p.at_*27)).block,(ad.add (p.at_*27)).off+25,none⟩=some (.slice Ab x.body.length cb):=(n2_.out.cell (World.block_lt_of_cell? w0 _ HY25.out)).trans HY25.out;clear HR5 HG5 HB5 HK5;have HR5:=n0_;have HG5:=n1_;have HB5:=n2_;have HK5:=n3_;clear n0_ n1_ n2_ n3_;clear ho hb hg hat)
  | ((with_reducible refine qZ (b:=.append) (xs:=#[.tmp 87,.tmp 94]) rfl ?_);at_builtin;refine Kd.R_append (kP w0) w.heap.size rfl (.tmp 87) (.tmp 94) 101 100 (.agg #[.slice none 0 0,.int .i64 0,.int .i64 0]) 40 rfl Tryd.underlying101 qBs rfl (show 0<3 by decide) mDl _ _ ⟨x.body,0,p.high⟩ [.slice Ab x.body.length cb,.int .i64 0,.int .i64 p.high] (fun _=>True) (fun _=>False) rfl rfl (qA1 w0 _ _ _ ⟨x.body,0,p.high⟩ HBD.out.1 HBD.out.2) (fun _ hk=>hk.elim) (fun _ _=>trivial) (ky_ HR5.out) (Below.refl _ _) (HK5.out.1) ?aL ?_;(case aL=>simp only[List.length_append,List.length_reverse,List.length_singleton];have:=HRL.out;omega);intro v5 w6 ho hb hg hat;have n0_:=am ho;have n1_:=am ((hb.block gn HGN.out).trans HG5.out);have n2_:=am (HB5.out.trans (hb.mono HW0.out));have n3_:=am (qBp HK5.out hb);have x25':w6.cell? ⟨(ad.add (p.at_*27)).block,(ad.add (p.at_*27)).off+25,none⟩=some (.slice Ab x.body.length cb):=(n2_.out.cell (World.block_lt_of_cell? w0 _ HY25.out)).trans HY25.out;clear HR5 HG5 HB5 HK5;have HR5:=n0_;have HG5:=n1_;have HB5:=n2_;have HK5:=n3_;clear n0_ n1_ n2_ n3_;clear ho hb hg hat))
 go_roundg k1
 case measure=>have:=HK1.out;omega
 case rel=>exact⟨_,s2.1,HHA,⟨by have h9:=HR5.out;simpa [List.append_assoc] using h9⟩,HG5,HK5,HB5,⟨by have:=HK1.out;omega⟩⟩):p:=h
theorem mAh {p:Prop} (h:p:=by
 clear hK K
 refine wpAnyH_ready (rs:=[12]) mDh mDp ?_
 refine AllReadyH.cons (o:={dst:=none,op:=Op.store 43 (Operand.tmp 8) (Operand.tmp 45),type:=0,pos:= "code.go:359", after:=#[{on:=10,ground:=Ground.data},{on:=4,ground:=Ground.data},{on:=0,ground:=Ground.phase},{on:=1,ground:=Ground.phase},{on:=2,ground:=Ground.phase},{on:=3,ground:=Ground.phase},{on:=4,ground:=Ground.phase},{on:=5,ground:=Ground.textOnly Departure.lateStores},{on:=6,ground:=Ground.textOnly Departure.lateStores},{on:=7,ground:=Ground.textOnly Departure.lateStores},{on:=8,ground:=Ground.textOnly Departure.lateStores},{on:=9,ground:=Ground.textOnly Departure.lateStores},{on:=10,ground:=Ground.phase},{on:=11,ground:=Ground.phase}],guard:=none}) rfl (fun K hK=>?_) ?_
 ·refine yM mD2 43 _ _ rfl g8 cx.toArray rfl rfl 43 _ F8 hz1 (hold27.trans hl1.symm) ho1 ?_
  intro V12 f8 o8 s8 b8
  replace F9:=(o8 g9 mEj).trans F9
  refine hK.out _ _ (b8 _ _ G8 hS) (fun hS=>?_)
  replace F8:=f8
  clear hK K
  refine wpAnyH_ready (rs:=[13]) mDh mDp ?_
  refine AllReadyH.cons (o:={dst:=none,op:=Op.store 43 (Operand.tmp 9) (Operand.tmp 50),type:=0,pos:= "code.go:359", after:=#[{on:=11,ground:=Ground.data},{on:=9,ground:=Ground.data},{on:=12,ground:=Ground.chain},{on:=0,ground:=Ground.phase},{on:=1,ground:=Ground.phase},{on:=2,ground:=Ground.phase},{on:=3,ground:=Ground.phase},{on:=4,ground:=Ground.phase},{on:=5,ground:=Ground.phase},{on:=6,ground:=Ground.phase},{on:=7,ground:=Ground.phase},{on:=8,ground:=Ground.phase},{on:=9,ground:=Ground.phase},{on:=10,ground:=Ground.phase},{on:=11,ground:=Ground.phase},{on:=12,ground:=Ground.phase}],guard:=none}) rfl (fun K hK=>?_) ?_
  ·refine yM mD2 43 _ _ rfl g9 cy.toArray rfl rfl 43 _ F9 hz2 (hold27.trans hl2.symm) ho2 ?_
   intro V13 f9 o9 s9 b9
   replace F8:=(o9 g8 mEj).trans F8
   refine hK.out _ _ (b9 _ _ G9 hS) (fun hS=>?_)
   replace F9:=f9
   clear hK K
   refine wpAnyH_done mDh ?_ _
   exact⟨g8,g9,rfl,rfl,F8,F9,hS⟩
  exact AllReadyH.nil
 exact AllReadyH.nil):p:=h
theorem mAi {p:Prop} (h:p:=by
 clear hK K
 refine wpAnyH_ready (rs:=[13]) mDh mDp ?_
 refine AllReadyH.cons (o:={dst:=none,op:=Op.store 43 (Operand.tmp 9) (Operand.tmp 50),type:=0,pos:= "code.go:359", after:=#[{on:=11,ground:=Ground.data},{on:=9,ground:=Ground.data},{on:=12,ground:=Ground.chain},{on:=0,ground:=Ground.phase},{on:=1,ground:=Ground.phase},{on:=2,ground:=Ground.phase},{on:=3,ground:=Ground.phase},{on:=4,ground:=Ground.phase},{on:=5,ground:=Ground.phase},{on:=6,ground:=Ground.phase},{on:=7,ground:=Ground.phase},{on:=8,ground:=Ground.phase},{on:=9,ground:=Ground.phase},{on:=10,ground:=Ground.phase},{on:=11,ground:=Ground.phase},{on:=12,ground:=Ground.phase}],guard:=none}) rfl (fun K hK=>?_) ?_
 ·refine yM mD2 43 _ _ rfl g9 cy.toArray rfl rfl 43 _ F9 hz2 (hold27.trans hl2.symm) ho2 ?_
  intro V13 f9 o9 s9 b9
  replace F8:=(o9 g8 mEj).trans F8
  refine hK.out _ _ (b9 _ _ G9 hS) (fun hS=>?_)
  replace F9:=f9
  clear hK K
  refine wpAnyH_done mDh ?_ _
  exact⟨g8,g9,rfl,rfl,F8,F9,hS⟩
 exact AllReadyH.nil):p:=h
theorem mAm {p:Prop} (h:p:=by
 exact⟨mDm,by repeat (first|exact qf.refl _|apply qf.step)⟩):p:=h
theorem mAo {p:Prop} (h:p:=by
 exact⟨by first|rfl|(simp[qk,qj] <;> rfl)|(simp[*,qk,qj] <;> rfl),mCf⟩):p:=h
theorem mAq {p:Prop} (h:p:=by
 refine jC (i:=7) (N:=some 120) #[true,true,true,true,true,true,true,true,true,true,true,true,false,false] rfl rfl (qq HT_.out mDh) mDl (fun K hK=>?_)
 obtain⟨A6,c6,rfl⟩:=Kd.R_slice RA.out
 obtain⟨A9,c9,rfl⟩:=Kd.R_slice RB.out
 refine Kd.R_append_rows_step (Kd.int .u8) (w0:=w) w.heap.size mD2 (.tmp 116) (.tmp 119) 24 5 (.int .u8 0) 1 rfl Tryd.underlying24 jM rfl mDl mDl (.slice A6 r.length c6) r (r2b:List Int) A9 r2b.length c9 (fun _=>True) (fun _=>False) rfl rfl RA.out (Kd.R_reads' RB.out).2.2 (fun _ _ h=>h) (fun _ h=>h.elim) (fun _ _=>trivial) L1.out L1.out.size mEf ?_
 intro v120 w8_ ho4 hb hg hat
 have n0_:=am (jz (d':=Kd.int .u8) hg (show 43≠5 by decide) B1.out RA.out)
 have n2_:=am ho4
 have m0_:=am (qHP RL.out hg HD.out)
 clear B1 L1 RB ho4 hg hat RL HD
 have B1:=n0_
 have L1:=am hb
 have RC:=n2_
 have RL:=m0_
 clear hb RA n0_ n2_ m0_
 refine hK.out _ _ B1.out (fun hHeld=>?_)
 clear hK K
 refine zJ (a':=?_) ?_ ?_
 rotate_left
 ·show Act.put _ (some 120) _=_
  exact mAe
 exact zJ mDe (hCont (.slice A6 r.length c6,.slice A9 r2b.length c9,v120,v124) _ ⟨RC.out,RL.out,L1.out,B1.out⟩)):p:=h
theorem mAr {p:Prop} (h:p:=by
 clear hK K
 refine wpAnyH_ready (rs:=[9,12]) mDh mDp ?_
 refine AllReadyH.cons (o:={dst:=some 50,op:=Op.load 43 (Operand.tmp 49),type:=43,pos:= "code.go:359", after:=#[{on:=8,ground:=Ground.data},{on:=12,ground:=Ground.gcOnly Departure.lateStores}],guard:=none}) rfl (fun K hK=>?_) ?_
 ·rw[if_pos mD2]
  refine wp_load_mid 43 _ rfl yb (yo+i*27) rfl cy _ (xV ry2 (Below.block hS _ ry2_lt)) Tryd.underlying43 rfl hi43' ?_
  simp only[Act.put,List.setIfInBounds_toArray,List.set_cons_zero,List.set_cons_succ]
  refine hK.out _ _ hS (fun hS=>?_)
  exact mAh
 refine AllReadyH.cons (o:={dst:=none,op:=Op.store 43 (Operand.tmp 8) (Operand.tmp 45),type:=0,pos:= "code.go:359", after:=#[{on:=10,ground:=Ground.data},{on:=4,ground:=Ground.data},{on:=0,ground:=Ground.phase},{on:=1,ground:=Ground.phase},{on:=2,ground:=Ground.phase},{on:=3,ground:=Ground.phase},{on:=4,ground:=Ground.phase},{on:=5,ground:=Ground.textOnly Departure.lateStores},{on:=6,ground:=Ground.textOnly Departure.lateStores},{on:=7,ground:=Ground.textOnly Departure.lateStores},{on:=8,ground:=Ground.textOnly Departure.lateStores},{on:=9,ground:=Ground.textOnly Departure.lateStores},{on:=10,ground:=Ground.phase},{on:=11,ground:=Ground.phase}],guard:=none}) rfl (fun K hK=>?_) ?_
 ·refine yM mD2 43 _ _ rfl g8 cx.toArray rfl rfl 43 _ F8 hz1 (hold27.trans hl1.symm) ho1 ?_
  intro V12 f8 o8 s8 b8
  replace F9:=(o8 g9 mEj).trans F9
  refine hK.out _ _ (b8 _ _ G8 hS) (fun hS=>?_)
  replace F8:=f8
  clear hK K
  refine wpAnyH_ready (rs:=[9]) mDh mDp ?_
  refine AllReadyH.cons (o:={dst:=some 50,op:=Op.load 43 (Operand.tmp 49),type:=43,pos:= "code.go:359", after:=#[{on:=8,ground:=Ground.data},{on:=12,ground:=Ground.gcOnly Departure.lateStores}],guard:=none}) rfl (fun K hK=>?_) ?_
  ·rw[if_pos mD2]
   refine wp_load_mid 43 _ rfl yb (yo+i*27) rfl cy _ (xV ry2 (Below.block hS _ ry2_lt)) Tryd.underlying43 rfl hi43' ?_
   simp only[Act.put,List.setIfInBounds_toArray,List.set_cons_zero,List.set_cons_succ]
   refine hK.out _ _ hS (fun hS=>?_)
   exact mAi
  exact AllReadyH.nil
 exact AllReadyH.nil):p:=h
theorem mAs {p:Prop} (h:p:=by
 exact⟨by first|rfl|(simp[qk,qj] <;> rfl)|(simp[*,qk,qj] <;> rfl),mCn⟩):p:=h
theorem mAt {p:Prop} (h:p:=by
 have H':=am H
 clear H
 have p258:0≤(x29_1:Int):=of_decide_eq_true mDk
 have q258:x29_1<(((l0.take (t256:Int).toNat).drop (a1:Int).toNat).length:Int):=of_decide_eq_true mDk
 obtain⟨ad258,e258,hx258_0⟩:=Kd.at_int HR257.out x29_1 p258 q258
 cases e258
 replace p258:=eq_true p258
 replace q258:=eq_true q258
 (try (have q258s0:=q258;rw[HLn11.out] at q258s0))
 go_wp2
 go_roundg k1
 case measure=>have:=HK1.out;omega
 case rel=>exact⟨(Go.bits .or .u64 x6_1 (ji17)),(x7_1),(wrap64 (x29_1+1)),(by first|rfl|(simp;done)|(simp only[← hji17] <;> (first|rfl|simp))|(simp[*];done)),mDm,mDm,H',⟨by have:=HK1.out;omega⟩,by repeat (first|exact qf.refl _|apply qf.step)⟩):p:=h
theorem mAv {p:Prop} (h:p:=by
 refine bodyPost_ret (yQ rfl _ _ g2 79 (jF r1 r2 r3 (.slice A3 r4.length c3) (.slice A4 r5.length c4) r6 r7).toArray (0,0) _ rfl B2.out Tryd.underlying79 rfl zK) rfl ?_
 exact⟨⟨A3,_,c3,A4,_,c4,rfl⟩,S0.out⟩):p:=h
theorem mAw {p:Prop} (h:p:=by
 go_wp2_with (first
  | ((with_reducible refine qE (N:=173) rfl ?_);refine qBA rfl 65 rfl _ qHx ?_)
  | ((with_reducible refine qF (t:=65) (p:=4) (v:=.tmp 173) rfl ?_);refine qV rfl 65 (.tmp 4) (.tmp 173) rfl gg #[.slice none 0 0,.int .i64 0,.int .i64 0,.bool false] rfl rfl 65 _ HP.out.got xy rfl (all_oneCell_toArray (cs:=[.slice none 0 0,.int .i64 0,.int .i64 0,.bool false]) mCt) ?_;intro w7 hb hoth hsz hbel;have GG:=am hb;have HB:=am (hbel _ _ N1.out HP.out.bel);clear HP hb hoth hsz hbel))
 refine bodyPost_ret (zL rfl _ _ gg 65 #[.slice none 0 0,.int .i64 0,.int .i64 0,.bool false] (0,0) _ rfl GG.out Tryd.underlying65 rfl xy) rfl ?_
 exact⟨rfl,HB.out⟩):p:=h
theorem mAx {p:Prop} (h:p:=by
 intro w' s0
 have c0:w'.cell? ⟨g1,1,none⟩=some (.int .u32 x.a):=(qA s0 1).trans mD0
 go_simp
 with_reducible rfl):p:=h
theorem mAy {p:Prop} (h:p:=by
 have q1:=qGT x.body (if qw x.op=true then wrap64 (p.high+1) else p.high) ((if 0<x.els.length then [⟨x.els,0,(if qw x.op=true then wrap64 (p.high+1) else p.high)⟩] else [])++⟨p.l,p.at_+1,p.high⟩::rs)
 have q2:=qGT x.els (if qw x.op=true then wrap64 (p.high+1) else p.high) (⟨p.l,p.at_+1,p.high⟩::rs)
 rw[List.length_cons] at q2
 refine Nat.lt_of_le_of_lt (Nat.add_le_add_right (Nat.le_trans q1 (Nat.add_le_add_left q2 _)) _) ?_
 clear q1 q2
 show 1+(1+(rs.length+1))+2*(cL x.body+(cL x.els+(cL (p.l.drop (p.at_+1))+cP rs)))<_
 generalize cP rs=C at hs ⊢
 generalize cL x.body=B at hs ⊢
 generalize cL x.els=E at hs ⊢
 generalize cL (p.l.drop (p.at_+1))=R at hs ⊢
 omega):p:=h
theorem mAz {p:Prop} (h:p:=by
 rcases open_ints Tryd.underlying24 Tryd.underlying5 mDh hf with ⟨hcs,_⟩|⟨x,l,c,zs,hcs,_,hl,hm,hz,_,hcell,hwz⟩
 ·simp[Value.cells] at hcs
  obtain⟨rfl,rfl,rfl⟩:=hcs
  exact⟨[],.inl ⟨rfl,rfl,rfl,rfl⟩⟩
 ·simp[Value.cells] at hcs
  obtain⟨rfl,rfl,rfl⟩:=hcs
  exact⟨zs,.inr ⟨_,rfl,hl,hm,by simpa using hz,hcell,hwz⟩⟩):p:=h
theorem mEm {p:Prop} (h:p:=by
 go_enter Tryd.func21,Tryd.ntmps21
 go_wp2_with (first
  | (go_at_call 33;refine(qAn 37 Tryd.f37 Tryd.func37 rfl rfl zU w.heap.size qHe w (fun W s x deep ad cs h1 h2 h3 h4=>qAt W w _ s x deep _ _ h1 h2 (Nat.le_refl _) h3 h4) k A c l 0 r _ ?b ?g HC.out HL.out H.out).mono ?_;(case b=>repeat (first|exact Below.refl _ _|apply qh|refine zN ?_ (Nat.le_refl _)));(case g=>first|exact qK (ja _ _) 0 _ rfl|exact ja _ _);rintro e w' ⟨rfl,hg,hk,hb⟩;have c0:w'.cell? ⟨w.heap.size,0,none⟩=some (.int .i64 r):=(qA hg 0).trans rfl;have HB:=am hb;clear hg hk hb))
 go_ret
 exact⟨rfl,HB.out⟩):p:=h
theorem mA0 {p:Prop} (h:p:=by
 obtain⟨rfl,_⟩:=Prod.mk.inj (Option.some.inj h)
 exact⟨rfl,rfl,rfl,rfl,rfl,rfl,rfl⟩):p:=h
theorem mA1 {p:Prop} (h:p:=by
 clear hK K
 refine wpAnyH_ready (rs:=[11]) mDh mDp ?_
 refine AllReadyH.cons (o:={dst:=some 9,op:=Op.alloc 43,type:=0,pos:= "code.go:359", after:=#[],guard:=none}) rfl (fun K hK=>?_) ?_
 ·refine jJ mD2 43 rfl _ jd ?_
  intro g9 e9 W11 F9 l9
  simp only[Act.put,List.setIfInBounds_toArray,List.set_cons_zero,List.set_cons_succ]
  have G9:wr.heap.size≤g9:=by rw[e9];exact Below.size hS
  have N:g8≠g9:=by rw[e9];exact Nat.ne_of_lt (qN F8)
  replace F8:=qG F8 l9
  refine hK.out _ _ (zG hS (Below.size hS) l9) (fun hS=>?_)
  exact mAh
 exact AllReadyH.nil):p:=h
theorem mA2 {p:Prop} (h:p:=by
 clear hK K
 refine wpAnyH_ready (rs:=[10]) mDh mDp ?_
 refine AllReadyH.cons (o:={dst:=some 8,op:=Op.alloc 43,type:=0,pos:= "code.go:359", after:=#[],guard:=none}) rfl (fun K hK=>?_) ?_
 ·refine jJ mD2 43 rfl _ jd ?_
  intro g8 e8 W10 F8 l8
  simp only[Act.put,List.setIfInBounds_toArray,List.set_cons_zero,List.set_cons_succ]
  have G8:wr.heap.size≤g8:=by rw[e8];exact Below.size hS
  have N:g9≠g8:=by rw[e8];exact Nat.ne_of_lt (qN F9)
  replace F9:=qG F9 l8
  refine hK.out _ _ (zG hS (Below.size hS) l8) (fun hS=>?_)
  exact mAh
 exact AllReadyH.nil):p:=h
theorem mA3 {p:Prop} (h:p:=by
 have q1:=qHW x.body (if qw x.op=true then wrap64 (p.high+1) else p.high) ((if 0<x.els.length then [⟨x.els,0,(if qw x.op=true then wrap64 (p.high+1) else p.high)⟩] else [])++⟨p.l,p.at_+1,p.high⟩::rs)
 have q2:=qHW x.els (if qw x.op=true then wrap64 (p.high+1) else p.high) (⟨p.l,p.at_+1,p.high⟩::rs)
 simp only[mP] at q2
 refine Nat.lt_of_le_of_lt q1 (Nat.lt_of_le_of_lt (Nat.add_le_add_left q2 _) ?_)
 clear q1 q2
 generalize mP rs=M at h ⊢
 generalize cL x.body=B at h ⊢
 generalize cL x.els=E at h ⊢
 generalize cL (p.l.drop (p.at_+1))=R at h ⊢
 omega):p:=h
theorem mA4 {p:Prop} (h:p:=by
 obtain rfl:=Option.some.inj H
 go_enter Tryd.func57,Tryd.ntmps57
 go_wp2
 go_ret
 exact mAm):p:=h
theorem mEn {p:Prop} (h:p:=by
 go_ret
 exact⟨rfl,qK HG.out 0 _ rfl,(qc.refl W gn none).set_ 0 _,HB.out.setCell HN.out _⟩):p:=h
theorem mA5 {p:Prop} (h:p:=by
 exact⟨rfl,mCh⟩):p:=h
theorem mA6 {p:Prop} (h:p:=by
 refine bodyPost_ret (yQ rfl _ _ g2 41 #[.int .u8 2,.int .u8 0,.int .u32 (IntKind.u32.wrap s1)] (0,0) _ rfl B2.out Tryd.underlying41 rfl xB) rfl ?_
 exact⟨rfl,S0.out⟩):p:=h
theorem mA7 {p:Prop} (h:p:=by
 ·rw[if_neg hlt] at hH
  obtain rfl:=Option.some.inj hH
  clear hH HH
  cases bad1
  ·have d1:decide (i<n)=false:=decide_eq_false (fun h9=>hlt ⟨h9,rfl⟩)
   clear hlt
   go_wp2
   go_ret
   exact⟨_,rfl,RV.out,S0.out⟩
  ·clear hlt
   by_cases h9:i<n
   ·have d1:decide (i<n)=true:=decide_eq_true h9
    go_wp2
    go_ret
    exact⟨_,rfl,RV.out,S0.out⟩
   ·have d1:decide (i<n)=false:=decide_eq_false h9
    go_wp2
    go_ret
    exact⟨_,rfl,RV.out,S0.out⟩):p:=h
theorem mA8 {p:Prop} (h:p:=by
 intro w' s0
 have c0:w'.cell? ⟨g1,3,none⟩=some (.int .u64 x.n):=(qA s0 3).trans mDy
 go_simp
 with_reducible rfl):p:=h
theorem mA9 {p:Prop} (h:p:=by
 intro w' s0
 have c0:w'.cell? ⟨g1,2,none⟩=some (.int .u32 x.b):=(qA s0 2).trans mDz
 go_simp
 with_reducible rfl):p:=h
theorem mB {p:Prop} (h:p:=by
 go_ret
 exact⟨rfl,by repeat (first|exact Below.refl _ _|apply qJ|apply qP|apply qh)⟩):p:=h
theorem mBb {p:Prop} (h:p:=by
 rintro w' ⟨s0,s1,s2,s3,s4,s5,s6⟩
 go_simp
 with_reducible rfl):p:=h
theorem mBc {p:Prop} (h:p:=by
 go_wp2
 repeat (go_quiet (fail);try go_wp2)
 go_ret
 exact mAm):p:=h
theorem mBd {p:Prop} (h:p:=by
 have H':=am H
 clear H
 go_wp2
 go_meet
 case rel=>exact⟨_,(false),mDm,H',⟨by have:=HJ11.out;have:=HJ19.out;have:=HJ28.out;have:=HJ40.out;have:=HJ45.out;have:=HJ50.out;have:=HJ59.out;first|omega|exact Nat.le_refl _⟩,⟨mCf⟩⟩):p:=h
theorem mBe {p:Prop} (h:p:=by
 have n0_:=am (HX.out.store (List.mem_cons_self ..) hoth hsz hbel)
 have n1_:=am ((hoth _ (Nat.ne_of_lt NB.out)).trans B10.out)
 clear HX B10 FB
 have HX:=n0_
 have B10:=n1_
 have FB:=am hb
 clear n0_ n1_ hb hoth hsz hbel
 refine hK.out _ _ trivial (fun hHeld=>?_)
 clear hK K
 exact zJ (by first|rfl|simp only[qAl,Act.put]) (hCont () _ ⟨_,FB.out,HX.out,B10.out⟩)):p:=h
theorem mBf {p:Prop} (h:p:=by
 intro q hq
 rcases List.mem_append.1 hq with hq|hq
 ·split at hq
  ·rcases List.mem_singleton.1 hq with rfl
   exact Nat.zero_le _
  ·cases hq
 ·rcases List.mem_append.1 hq with hq|hq
  ·split at hq
   ·rcases List.mem_singleton.1 hq with rfl
    exact Nat.zero_le _
   ·cases hq
  ·rcases List.mem_cons.1 hq with rfl|hq
   ·exact hlt
   ·exact hrs q hq):p:=h
theorem mBg {p:Prop} (h:p:=by
 have H':=am H
 clear H
 go_wp2
 go_meet
 case rel=>exact⟨_,(false),mDm,H',⟨by have:=HJ11.out;have:=HJ19.out;have:=HJ28.out;have:=HJ40.out;have:=HJ45.out;first|omega|exact Nat.le_refl _⟩,⟨mCf⟩⟩):p:=h
theorem mBh {p:Prop} (h:p:=by
 go_ret
 exact⟨rfl,mDi⟩):p:=h
theorem mBi {p:Prop} (h:p:=by
 have h9:=HX.out.done HQ.out.1 HQ.out.2.1 HQ.out.2.2.1 HQ.out.2.2.2.1 (by rw[HQ.out.2.2.2.2.1,qHr HQ.out.2.2.2.2.2,qAp _ HQ.out.1])
 obtain⟨own',hP9⟩:=h9
 have HP9:=am hP9
 clear HX hP9 C27
 go_roundg k1
 case measure=>omega
 case rel=>exact⟨_,a2,d,b2,dsx,own',_,HP9,⟨by have:=HK.out;omega⟩,⟨HA.out⟩⟩):p:=h
theorem mBj {p:Prop} (h:p:=by
 obtain⟨rfl,_⟩:=Prod.mk.inj h
 exact⟨rfl,rfl,rfl,rfl,rfl,rfl,rfl⟩):p:=h
theorem mBk {p:Prop} (h:p:=by
 have H':=am H
 clear H
 go_wp2
 go_meet
 case rel=>exact⟨_,(false),mDm,H',⟨by have:=HJ11.out;have:=HJ19.out;first|omega|exact Nat.le_refl _⟩,⟨mCf⟩⟩):p:=h
theorem mBl {p:Prop} (h:p:=by
 have H':=am H
 clear H
 go_wp2
 go_meet
 case rel=>exact⟨_,(decide (a0<2)),mDm,H',⟨by have:=HJ11.out;first|omega|exact Nat.le_refl _⟩,⟨mCf⟩⟩):p:=h
theorem mBm {p:Prop} (h:p:=by
 have h5:(d*2 ^ (7*i)) % 18446744073709551616<18446744073709551616:=Int.emod_lt_of_pos _ mDl
 have h6:(d*2 ^ (7*i)) % 18446744073709551616 / 2 ^ (7*i)*2 ^ (7*i)≤(d*2 ^ (7*i)) % 18446744073709551616:=Int.ediv_mul_le _ mDj
 rw[h] at h6
 omega):p:=h
theorem mBn {p:Prop} (h:p:=by
 go_wp2
 repeat (go_quiet (fail);try go_wp2)
 go_roundg k1
 case measure=>have:=HK1.out;omega
 case rel=>exact⟨(wrap64 (x13_1+1)),mDm,H',⟨by have:=HK1.out;omega⟩,by repeat (first|exact qf.refl _|apply qf.step)⟩):p:=h
theorem mBo {p:Prop} (h:p:=by
 exact⟨by first|rfl|(simp[qk,qj] <;> rfl)|(simp[*,qk,qj] <;> rfl),mDa⟩):p:=h
theorem mBp {p:Prop} (h:p:=by
 clear c32
 simp only[Option.some.injEq,Prod.mk.injEq] at H
 obtain⟨rfl,rfl,rfl⟩:=H
 go_wp2
 go_ret3
 exact⟨by first|rfl|(simp;done)|(simp only[← hji8] <;> (first|rfl|simp))|(simp[*];done),by repeat (first|exact qf.refl _|apply qf.step)⟩):p:=h
theorem mBq {p:Prop} (h:p:=by
 have:=h ⟨x.toNat,mDj⟩
 simpa [Int.toNat_of_nonneg h0] using this):p:=h
theorem mBr {p:Prop} (h:p:=by
 obtain⟨fuel,hf⟩:=h
 obtain⟨A,c,l,hcs,hl,hC,hb,hw⟩:=P.open_L hf
 have e:[Value.slice a0 len0 cap0] = [Value.slice A l.length c]:=hcs
 have e2:=(List.cons.inj e).1
 injection e2 with e3 e4 e5
 subst e3
 subst e5
 exact⟨l,e4,hl,hC,hb,hw⟩):p:=h
theorem mBs {p:Prop} (h:p:=by
 obtain rfl:=Option.some.inj H
 go_enter Tryd.func87,Tryd.ntmps87
 go_wp2
 go_ret
 exact mAm):p:=h
theorem mBt {p:Prop} (h:p:=by
 obtain⟨q1,q2,q3,q4,q5,q6⟩:=h.loc g hg
 refine h.step (fun k hk hc=>ho k ?_) (hbel _ _ q5 h.bel) (Nat.le_of_eq hs.symm)
 rcases hc with rfl|rfl|rfl|⟨hc,_⟩
 ·exact Ne.symm q2
 ·exact Ne.symm q3
 ·exact Ne.symm q4
 ·rintro rfl
  omega):p:=h
theorem mBv {p:Prop} (h:p:=by
 ·rw[xD (by rw[xN hlt];show ¬((0:Int)=252∨(0:Int)=253);decide) (by rw[xN hlt];show 0≤(0:Int)∧(0:Int)<256;decide),xN hlt] at h
  obtain⟨q,k2,h⟩:=Option.map_eq_some_iff.1 h
  simp at h):p:=h
theorem mBw {p:Prop} (h:p:=by
 rcases List.mem_cons.1 hk with rfl|hk
 ·exact⟨by show 2*ps.length+4≤(if _ then _ else _);rw[if_pos mDj];exact Nat.le_refl _,mDj,mDj,mDj,by have:=h.bel.size;omega,hlt⟩
 ·exact h1.loc k hk):p:=h
theorem mEt {p:Prop} (h:p:=by
 try dsimp only at H
 simp only[Option.some.injEq,Prod.mk.injEq] at H
 obtain⟨rfl,rfl⟩:=H
 go_wp2
 go_ret2
 exact mAo):p:=h
theorem mBx {p:Prop} (h:p:=by
 cases b2
 ·rw[if_neg mDp] at h
  by_cases h2:0≤a2
  ·rw[if_pos h2] at h
   exact .inr ⟨rfl,h2,h⟩
  ·rw[if_neg h2] at h
   cases h
 ·rw[if_pos rfl] at h
  exact .inl ⟨rfl,(Option.some.inj h).symm⟩):p:=h
theorem mBy {p:Prop} (h:p:=by
 refine Kd.event_run hg (qGY 90 89 29 x ho cs hcs hx Tryd.underlying90 _ qIT mDl mDl) ?_
 rw[hd]
 rw[hd] at h
 exact h _ _ (qHa base _ hcs h1 trivial hbase) (qh (Below.refl _ _) _)):p:=h
theorem mBz {p:Prop} (h:p:=by
 ·rw[if_neg c6] at H
  exact absurd H mDp):p:=h
theorem mB0 {p:Prop} (h:p:=by
 simp only[qAl,Act.put,List.setIfInBounds_toArray,List.set_cons_zero,List.set_cons_succ]
 rfl):p:=h
theorem mB1 {p:Prop} (h:p:=by
 clear n0_ n1_ n2_ m0_ m1_
 refine hK.out _ _ B1.out (fun hHeld=>?_)
 clear hK K
 refine zJ (a':=?_) ?_ ?_
 rotate_left
 ·show Act.put _ (some 119) _=_
  exact mAe
 exact mAq):p:=h
theorem mB2 {p:Prop} (h:p:=by
 refine Kd.event_run hg (qBx x ho cs hcs hx) ?_
 rw[hd]
 rw[hd] at h
 refine h _ _ ?_ (HB.alloc hbase _) (qh (Below.refl _ _) _)
 exact qGH base hM hcs hf hbase):p:=h
theorem mB3 {p:Prop} (h:p:=by
 ·rw[if_neg c5] at H
  exact absurd H mDp):p:=h
theorem mB4 {p:Prop} (h:p:=by
 ·rw[if_neg c6] at H
  exact absurd H mDp):p:=h
theorem mEo {p:Prop} (h:p:=by
 rw[ev]
 go_enter Tryd.func37,Tryd.ntmps37
 go_wp2_with (first
  | (go_at_call 30;refine(zy _ _).mono ?_;rintro e w' ⟨rfl,rfl⟩;rw[e1]))
 exact mEn):p:=h
theorem mEp {p:Prop} (h:p:=by
 rw[ev]
 go_enter Tryd.func40,Tryd.ntmps40
 go_wp2
 exact mEn):p:=h
theorem mB5 {p:Prop} (h:p:=by
 ·rw[if_neg c4] at H
  have c4b0:decide (x13_1<(l0.length:Int))=false:=decide_eq_false c4
  clear c4
  obtain rfl:=Option.some.inj H
  exact mBc):p:=h
theorem mB6 {p:Prop} (h:p:=by
 rw[show 20+j=(16+j)+1+1+1+1 by omega]
 simp only[List.set_cons_succ]
 rw[List.set_append_right _ _ mDj,hl,Nat.add_sub_cancel_left]):p:=h
theorem mB7 {p:Prop} (h:p:=by
 rintro w' ⟨s0,s1,s2,s3,s4⟩
 go_simp
 with_reducible rfl):p:=h
theorem mB8 {p:Prop} (h:p:=by
 intro k hk1
 rcases hat with e|⟨j,e,hj⟩
 ·exact h.hp k (by rw[← e];exact hk1)
 ·rw[e] at hk1
  obtain rfl:=Option.some.inj hk1
  exact hf _ hj):p:=h
theorem mB9 {p:Prop} (h:p:=by
 refine Kd.R_mono h.rp (fun k hk=>?_)
 show(if _ then _ else _)=_
 rcases hk with hk|hk
 ·rw[if_neg mDj];exact hk
 ·rw[if_pos hk]):p:=h
theorem mC {p:Prop} (h:p:=by
 have HC:=n0_
 clear n0_
 refine hK.out _ _ ?_
 clear hK K
 exact zJ (by first|rfl|simp only[qAl,Act.put]) (hCont () _ HC.out)):p:=h
theorem mCa {p:Prop} (h:p:=by
 obtain⟨cs',hc'⟩:=zl ho g he.symm
 rw[hg1] at hc'
 simp only[Option.some.injEq,Obj.cells.injEq] at hc'
 exact ht hc'.2.1):p:=h
theorem mCc {p:Prop} (h:p:=by
 ·rw[if_neg c7] at H
  exact absurd H mDp):p:=h
theorem mCd {p:Prop}(h:p:=by first|exact HT.out|exact YtobldeamemmokaaDoorTabs.Tab.below HT.out mCg|exact YtobldeamemmokaaDoorTabs.Tab.drawn HT.out (by repeat (first|exact qf.refl _|apply qf.step))):p:=h
theorem mCe {p:Prop}(h:p:=by (try simp only[List.map_toArray,List.map_cons,List.map_nil]);first|done|rfl|(simp only[List.length_drop,List.length_take];rfl)):p:=h
theorem mCf {p:Prop}(h:p:=by repeat (first|(with_reducible first|exact HB.out|apply bA|apply bN|apply bD)|exact HB.out)):p:=h
theorem mCg {p:Prop}(h:p:=by repeat (first|(with_reducible first|exact HB.out|apply bA|apply bN|apply bD|refine zN ?_ (Aside0.out (by assumption)))|exact HB.out)):p:=h
theorem mCh {p:Prop}(h:p:=by repeat (first|exact HB.out|apply qJ|apply qP)):p:=h
theorem mCi {p:Prop}(h:p:=by repeat (first|exact L1.out|apply qJ|apply qP)):p:=h
theorem mCj {p:Prop}(h:p:=by repeat (first|(with_reducible first|exact HB.out|apply bA|apply bN|apply bD|refine zN ?_ GE137.out)|exact HB.out)):p:=h
theorem mCk {p:Prop}(h:p:=by repeat (first|(with_reducible first|exact HB.out|apply qh|apply qJ|apply qP)|exact HB.out)):p:=h
theorem mCl {p:Prop}(h:p:=by repeat (first|exact Below.refl _ _|apply qJ|apply qP)):p:=h
theorem mCm {p:Prop}(h:p:=by first|exact Kd.own_blk (Kd.R_ne HO123.out BK116.out mDl)|(rw[qCB];exact Kd.own_blk (Kd.R_ne HO123.out BK116.out mDl))|(show(Addr.add _ _).block≠_;rw[qCB];exact Kd.own_blk (Kd.R_ne HO123.out BK116.out mDl))|(dsimp only;exact Kd.own_blk (Kd.R_ne HO123.out BK116.out mDl))):p:=h
theorem mCn {p:Prop}(h:p:=by repeat (first|(with_reducible first|exact HB.out|apply bA|apply bN|apply bD|refine zN ?_ GE169.out)|exact HB.out)):p:=h
theorem mCo {p:Prop}(h:p:=by repeat (first|exact HB.out|apply bA|apply bN|apply bD|refine Lib.below_iterAt ?_ (Nat.le_refl _) _ _)):p:=h
theorem mCp {p:Prop}(h:p:=by repeat (first|(with_reducible first|exact HB.out|apply bA|apply bN|apply bD|refine zN ?_ GE203.out)|exact HB.out)):p:=h
theorem mCq {p:Prop}(h:p:=by rw[ye _ (by first|rfl|exact HV16.out)];exact mDl):p:=h
theorem mCr {p:Prop}(h:p:=by intro v hv;simp only[List.mem_cons,List.not_mem_nil,or_false] at hv;rcases hv with rfl|rfl|rfl <;> rfl):p:=h
theorem mCs {p:Prop}(h:p:=by simp only[List.map_toArray,List.map_cons,List.map_nil];rfl):p:=h
theorem mCt {p:Prop}(h:p:=by intro v hv;simp only[List.mem_cons,List.not_mem_nil,or_false] at hv;rcases hv with rfl|rfl|rfl|rfl <;> rfl):p:=h
theorem mCw {p:Prop}(h:p:=by rw[List.drop_zero];exact List.take_of_length_le (Nat.le_of_eq HXL.out)):p:=h
theorem mCu {p:Prop}(h:p:=by repeat (first|(with_reducible first|exact HB.out|apply bA|apply bN|apply bD|refine zN ?_ GE203.out|refine zN ?_ GE210.out)|exact HB.out)):p:=h
theorem mC0 {p:Prop}(h:p:=by repeat (first|exact FSF.out.bel|apply qJ|apply qP)):p:=h
theorem mCv {p:Prop}(h:p:=by (with_reducible repeat (first|apply rA|apply rN|apply rD));exact Kd.R_step HO_3.out (fun j hj _=>Lib.iterAt_other _ _ _ _ _ hj)):p:=h
theorem mCx {p:Prop}(h:p:=by repeat (first|(with_reducible first|exact HB.out|apply bA|apply bN|apply bD|refine zN ?_ GE116.out|refine zN ?_ GE118.out)|exact HB.out)):p:=h
theorem mCy {p:Prop}(h:p:=by first|rfl|(go_simp;done)|(go_simp;rw[w1eq])|exact congrArg (Value.int .i64) w1eq):p:=h
theorem mCz {p:Prop}(h:p:=by repeat (first|exact Below.refl _ _|refine Below.alloc ?_ (Nat.zero_le _) _|apply Below.drew)):p:=h
theorem mC1 {p:Prop}(h:p:=by rw[hg];exact Nat.ne_of_lt (qN (g:=gb137) (o:=.cells #[.string (⟨#[]⟩:ByteArray),.string (⟨#[]⟩:ByteArray),.int .u8 0,.int .i64 0,.bool false] 107 (0,0)) (kx_ BK137.out))):p:=h
theorem mC2 {p:Prop}(h:p:=by rw[hg];exact Nat.ne_of_gt (qN (g:=gb137) (o:=.cells #[.string (⟨#[]⟩:ByteArray),.string (⟨#[]⟩:ByteArray),.int .u8 0,.int .i64 0,.bool false] 107 (0,0)) (kx_ BK137.out))):p:=h
theorem mC3 {p:Prop}(h:p:=by repeat (first|exact HB0.out|apply qh|apply qJ|apply qP)):p:=h
theorem mC4 {p:Prop}(h:p:=by repeat (first|exact Below.refl _ _|apply bA|apply bN|apply bD)):p:=h
theorem mC5 {p:Prop}(h:p:=by unfold Func.isWrapper;first|(rw[if_pos (by decide +kernel)];kernel_rfl)|(rw[if_neg (by decide +kernel)];exact⟨rfl,rfl⟩)):p:=h
theorem mC6 {p:Prop}(h:p:=by repeat (first|(with_reducible first|exact HB.out|apply bA|apply bN|apply bD|refine zN ?_ GE116.out)|exact HB.out)):p:=h
theorem mC7 {p:Prop}(h:p:=by rw[hg];exact Nat.ne_of_lt (qN (g:=gb203) (o:=.cells #[.int .u16 0,.string (⟨#[]⟩:ByteArray),.int .u8 0,.slice none 0 0,.slice none 0 0,.int .i64 0,.bool false] 79 (0,0)) (kx_ BK203.out))):p:=h
theorem mC8 {p:Prop}(h:p:=by rw[hg];exact Nat.ne_of_gt (qN (g:=gb203) (o:=.cells #[.int .u16 0,.string (⟨#[]⟩:ByteArray),.int .u8 0,.slice none 0 0,.slice none 0 0,.int .i64 0,.bool false] 79 (0,0)) (kx_ BK203.out))):p:=h
theorem mC9 {p:Prop}(h:p:=by first|exact qN B2.out|exact qN (z6 B2.out _)):p:=h
theorem mD {p:Prop}(h:p:=by (try simp only[List.map_toArray,List.map_cons,List.map_nil]);first|done|rfl):p:=h
theorem mDa {p:Prop}(h:p:=by repeat (first|(with_reducible first|exact HB.out|apply bA|apply bN|apply bD|refine zN ?_ GE137.out|refine zN ?_ GE156.out)|exact HB.out)):p:=h
theorem mDb {p:Prop}(h:p:=by generalize cP rs=C at hs;generalize cL x.body=B at hs;generalize cL x.els=E at hs;generalize cL (p.l.drop (p.at_+1))=R at hs;omega):p:=h
theorem mDc {p:Prop}(h:p:=by rw[List.drop_zero];exact List.take_of_length_le (Nat.le_of_eq (qL {zI with op:=x.op,t:=x.t} HWW.out _ _ _ _))):p:=h
theorem mDd {p:Prop}(h:p:=by (with_reducible repeat (first|refine z6 ?_ _|refine za ?_|refine yq ?_ _));exact HTY.out):p:=h
theorem mDe {p:Prop}(h:p:=by simp only[qAl,Act.put,List.setIfInBounds_toArray,List.set_cons_zero,List.set_cons_succ]):p:=h
theorem mDf {p:Prop}(h:p:=by first|omega|exact of_decide_eq_true mDk):p:=h
theorem mDg {p:Prop}(h:p:=by have:=HBL.out;have:=HSZ.out;first|omega|(simp only[List.length_append];omega)):p:=h
theorem mDh {p:Prop}(h:p:=by kernel_rfl):p:=h
theorem mDi {p:Prop}(h:p:=by first|exact S0.out|exact S0.out.drewN _):p:=h
theorem mDj {p:Prop}(h:p:=by omega):p:=h
theorem mDk {p:Prop}(h:p:=by first|(with_reducible assumption)|assumption):p:=h
theorem mDl {p:Prop}(h:p:=by decide):p:=h
theorem mDm {p:Prop}(h:p:=by first|rfl|(simp;done)|(simp[*];done)):p:=h
theorem mDn {p:Prop}(h:p:=by rw[List.getElem?_toArray];exact HX.out.1):p:=h
theorem mDo {p:Prop}(h:p:=by first|exact S0.out.1|exact(S0.out.drewN _).1):p:=h
theorem mDp {p:Prop}(h:p:=by simp):p:=h
theorem mDu {p:Prop}(h:p:=by have:=G1.out;have:=L1.out.size;rw[hg3];omega):p:=h
theorem mDt {p:Prop}(h:p:=by rw[List.getElem?_toArray];exact HX.out.2.2.2.2.2.2.2.2.2.1):p:=h
theorem mDq {p:Prop}(h:p:=by first|exact FSF.out.2.2.1|exact(FSF.out.drewN _).2.2.1):p:=h
theorem mDr {p:Prop}(h:p:=by rw[List.getElem?_toArray];exact HX.out.2.2.2.2.2.1):p:=h
theorem mDx {p:Prop}(h:p:=by rw[List.getElem?_toArray];exact HX.out.2.2.2.2.2.2.2.2.2.2):p:=h
theorem mDs {p:Prop}(h:p:=by rw[List.getElem?_toArray];exact HX.out.2.2.2.2.1):p:=h
theorem mDv {p:Prop}(h:p:=by first|rfl|(go_simp;done)):p:=h
theorem mDw {p:Prop}(h:p:=by first|exact B2.out|exact z6 B2.out _):p:=h
theorem mDy {p:Prop}(h:p:=by rw[List.getElem?_toArray];exact HX.out.2.2.2.1):p:=h
theorem mDz {p:Prop}(h:p:=by rw[List.getElem?_toArray];exact HX.out.2.2.1):p:=h
theorem mD0 {p:Prop}(h:p:=by rw[List.getElem?_toArray];exact HX.out.2.1):p:=h
theorem mD1 {p:Prop}(h:p:=by rw[hg];exact(qM mCf)):p:=h
theorem mD2 {p:Prop}(h:p:=by rfl):p:=h
theorem mD5 {p:Prop}(h:p:=by first|exact B1.out|exact z6 B1.out _):p:=h
theorem mD7 {p:Prop}(h:p:=by first|exact FSF.out|exact FSF.out.drewN _):p:=h
theorem mE {p:Prop}(h:p:=by first|exact FSF.out.1|exact(FSF.out.drewN _).1):p:=h
theorem mD3 {p:Prop}(h:p:=by rw[List.getElem?_toArray];exact HX.out.2.2.2.2.2.2.2.2.1):p:=h
theorem mD4 {p:Prop}(h:p:=by rw[List.getElem?_toArray];exact HX.out.2.2.2.2.2.2.2.1):p:=h
theorem mD6 {p:Prop}(h:p:=by rw[List.getElem?_toArray];exact HX.out.2.2.2.2.2.2.1):p:=h
theorem mD8 {p:Prop}(h:p:=by rw[List.size_toArray];exact zC):p:=h
theorem mEc {p:Prop}(h:p:=by first|exact B3.out|exact z6 B3.out _):p:=h
theorem mD9 {p:Prop}(h:p:=by rw[hg2];exact S0.out.size):p:=h
theorem mEa {p:Prop}(h:p:=by first|exact S0.out.2.2.1|exact(S0.out.drewN _).2.2.1):p:=h
theorem mEb {p:Prop}(h:p:=by simp[Value.ownBlock]):p:=h
theorem mEd {p:Prop}(h:p:=by first|(go_simp;done)|(go_simp;rfl)):p:=h
theorem mEe {p:Prop}(h:p:=by rw[hg];exact(qM mCj)):p:=h
theorem mEf {p:Prop}(h:p:=by have h8:=HR_.out.1;have h9:=HR_.out.2;omega):p:=h
theorem mEg {p:Prop}(h:p:=by have:=S0.out.2.2.2.2.2.1;omega):p:=h
theorem mEh {p:Prop}(h:p:=by rintro rfl;omega):p:=h
theorem mEi {p:Prop}(h:p:=by rw[hg];exact(qM mCp)):p:=h
theorem mEj {p:Prop}(h:p:=by first|exact N|exact N.symm):p:=h
theorem mEk {p:Prop}(h:p:=by rw[List.size_toArray,qL _ rfl];exact mDl):p:=h
theorem mEl {p:Prop}(h:p:=by rw[ye _ rfl];exact mDl):p:=h
end Go.Proofs.YtobldeamemmokaaDoor
