import Derived.Test.YtobldeamemmokaaDoorZa27
set_option linter.unusedVariables false
set_option linter.unusedSimpArgs false
set_option maxHeartbeats 64000000
namespace Go.Proofs.YtobldeamemmokaaDoor.P
open Go.RowKit Go.Proofs.YtobldeamemmokaaDoorW.PrintWords Go.Proofs.YtobldeamemmokaaDoorW.PrintLast Go.Proofs.YtobldeamemmokaaDoorW.PrintMore
set_option maxRecDepth 100000 in
theorem qIp (K:Nat)(x:I)(w:World){Al At Ab Ae:Option Addr}{cl ct cb ce:Nat}{r1 im:Int}{r2:ByteArray}{r4 r5:List Int}{r6:Int}{r7:Bool}(hT:YtobldeamemmokaaDoorTabs.Tab w)(him:im=16)(ho:qW.f K x.op=some (r1,r2,im,r4,r5,r6,r7,0))(h16:x.v.length=16)
 (h1:L2 w x Al cl)(h2:T2 w x At ct):
 xK x Al At Ab Ae cl ct cb ce w ((qz {zI with op:=x.op,a:=x.a,n:=jD x.n} x && (x.body.length==0 && x.els.length==0))):=by
 unfold xK
 obtain⟨cx,hcx⟩:=ex_ (qH x (.slice Al x.l.length cl) (.slice At x.t.length ct) (.slice Ab x.body.length cb) (.slice Ae x.els.length ce))
 have X:=qa x h16 (.slice Al x.l.length cl) (.slice At x.t.length ct) (.slice Ab x.body.length cb) (.slice Ae x.els.length ce)
 have XL:=qL x h16 (.slice Al x.l.length cl) (.slice At x.t.length ct) (.slice Ab x.body.length cb) (.slice Ae x.els.length ce)
 have hW16:({zI with op:=x.op,a:=x.a,n:=jD x.n}:I).v.length=16:=rfl
 have HF:=am (fun(W:World) (hW:Below w.heap.size w W)=>zM {zI with op:=x.op,a:=x.a,n:=jD x.n} x W (Al:=none) (At:=none) (cl:=0) (ct:=0) (.slice none 0 0) (.slice none 0 0) (.slice Ab x.body.length cb) (.slice Ae x.els.length ce) hW16 h16 ⟨Nat.le_refl _,Kd.C_nil _ _⟩ ⟨Nat.le_refl _,Kd.C_nil _ _⟩ ⟨h1.1,Kd.C_below h1.2 hW⟩ ⟨h2.1,Kd.C_below h2.2 hW⟩)
 rw[← hcx] at X XL ⊢
 rw[← hcx] at HF
 have HX:=am X
 have HXL:=am XL
 have H16:=am h16
 have HW16:=am (rfl:zI.v.length=16)
 have HWW:=am hW16
 have HTB:=am hT
 have HO:=am ho
 clear X XL hT ho h1 h2 hcx hW16 h16
 obtain⟨fl,hfl⟩:=ey_ (qz {zI with op:=x.op,a:=x.a,n:=jD x.n} x)
 obtain⟨bb,hbb⟩:=ey_ ((x.body.length==0))
 obtain⟨ee,hee⟩:=ey_ ((x.els.length==0))
 rw[hfl,hbb,hee]
 rw[hfl] at HF
 have ebb:((0:Int)==(x.body.length:Int))=(x.body.length==0):=zH _
 have eee:((0:Int)==(x.els.length:Int))=(x.els.length==0):=zH _
 rw[hbb] at ebb
 rw[hee] at eee
 clear hfl hbb hee
 all_goals
  have t1:=tst 1 him;have t2:=tst 2 him;have t4:=tst 4 him;have t6:=tst 6 him;have t7:=tst 7 him;have t8:=tst 8 him;have t10:=tst 10 him;have t12:=tst 12 him;have t13:=tst 13 him;have t5:=tst 5 him;have t9:=tst 9 him;have t11:=tst 11 him;have t3:=tst 3 him;have t16:=tst 16 him;have t17:=tst 17 him;have t18:=tst 18 him;have t19:=tst 19 him;have t24:=tst 24 him;have t20:=tst 20 him;have t22:=tst 22 him;have t21:=tst 21 him;have t23:=tst 23 him;have t25:=tst 25 him;have t26:=tst 26 him;clear him
  go_enter Tryd.func35,Tryd.ntmps35
  go_wp2_with (first
   | ((with_reducible refine qE (N:=1) rfl ?_);refine jP rfl _ rfl cx rfl ?_;intro g1 hg1 w1 hb hbl;have B1:=am hb;have L1:=am (qB mCl hbl);have G1:=am (qN hb);have z0:w1.cell? ⟨g1,0,none⟩=some (.int .u16 x.op):=(qA hb 0).trans mDn;clear hg1 hb hbl)
   | (go_at_call 42;refine(qW.calls K x.op r1 r2 im r4 r5 r6 r7 0 _ (HTB.out.below mCi) HO.out).mono ?_;rintro e w2 ⟨v3,v4,rfl,h3,h4,hb⟩;obtain⟨A3,c3,rfl⟩:=Kd.R_slice h3;obtain⟨A4,c4,rfl⟩:=Kd.R_slice h4;have n0_:=am (qG B1.out hb);have n1_:=am (qB L1.out hb);have n2_:=am (qN n0_.out);clear B1 L1 G1 h3 h4 hb;have B1:=n0_;have L1:=n1_;have G1:=n2_;clear n0_ n1_ n2_)
   | ((with_reducible refine qE (N:=3) rfl ?_);refine qd rfl 79 rfl _ zh ?_;intro g3 hg3 w3 hb hbl;have n0_:=am (qG B1.out hbl);have n1_:=am (qB L1.out hbl);have n2_:=am hb;have n3_:=am (mDu:g1≠g3∧w.heap.size≤g3);clear B1 L1 hg3 hb hbl;have B1:=n0_;have L1:=n1_;have B3:=n2_;have N13:=n3_;clear n0_ n1_ n2_ n3_)
   | ((with_reducible refine qF (t:=79) (p:=3) (v:=.tmp 10) rfl ?_);refine qV rfl 79 (.tmp 3) (.tmp 10) rfl g3 #[.int .u16 r1,.string r2,.int .u8 im,.slice A3 r4.length c3,.slice A4 r5.length c4,.int .i64 r6,.bool r7] rfl rfl 79 _ B3.out zK rfl (xG _ _ _ _ _ _ _ _ _ _ _) ?_;intro w4 hb hoth hsz hbel;have n0_:=am ((hoth _ N13.out.1).trans B1.out);have n1_:=am (hbel _ _ N13.out.2 L1.out);have n2_:=am hb;have c32:w4.cell? ⟨g3,2,none⟩=some (.int .u8 im):=(qA hb 2).trans rfl;have z0:w4.cell? ⟨g1,0,none⟩=some (.int .u16 x.op):=(qA n0_.out 0).trans mDn;clear B1 L1 B3 hb hoth hsz hbel;have B1:=n0_;have L1:=n1_;have B3:=n2_;clear n0_ n1_ n2_)
   | ((with_reducible refine qE (N:=16) rfl ?_);refine jV rfl (.tmp 15) rfl x.op rfl ?_)
   | ((with_reducible refine qE (N:=5) rfl ?_);refine qd rfl 43 rfl _ jd ?_;intro g5 hg5 w5 hb hbl;have n0_:=am (qG mD5 hbl);have n1_:=am (qG mEc hbl);have n2_:=am (qB mCi hbl);have n3_:=am hb;have n4_:Aside0 (w.heap.size≤g5∧g1≠g5∧g3≠g5):=⟨by have h1:=qN B1.out;have h2:=qN B3.out;have h3:=L1.out.size;have h4:w4.heap.size≤g5:=by {rw[hg5];exact Nat.le_refl _};omega⟩;clear B1 L1 B3 hg5 hb hbl;have B1:=n0_;have B3:=n1_;have L1:=n2_;have B5:=n3_;have N5:=n4_;clear n0_ n1_ n2_ n3_ n4_)
   | ((with_reducible refine qF (t:=43) (p:=5) (v:=.tmp 16) rfl ?_);refine qV rfl 43 (.tmp 5) (.tmp 16) rfl g5 _ rfl rfl 43 _ B5.out mD8 rfl (all_oneCell_toArray (kI.K_one (w:=w) (x:={zI with op:=x.op}) (yk w {zI with op:=x.op} (Al:=none) (At:=none) (Ab:=none) (Ae:=none) (cl:=0) (ct:=0) (cb:=0) (ce:=0) rfl ⟨Nat.le_refl _,Kd.C_nil _ _⟩ ⟨Nat.le_refl _,Kd.C_nil _ _⟩ ⟨Nat.le_refl _,Kd.C_nil _ _⟩ ⟨Nat.le_refl _,Kd.C_nil _ _⟩))) ?_;intro w6 hb hoth hsz hbel;have FSF:Aside0 (FS w w6 g1 g3 g5 cx _ _):=⟨⟨(hoth _ N5.out.2.1).trans B1.out,(hoth _ N5.out.2.2).trans B3.out,hb,hbel _ _ N5.out.1 L1.out,N5.out⟩⟩;have c32:w6.cell? ⟨g3,2,none⟩=some (.int .u8 im):=(qA FSF.out.2.1 2).trans rfl;clear B1 L1 B3 B5 hb hoth hsz hbel))
  have n0_:=am FSF.out.drew
  clear FSF
  have FSF:=n0_
  clear n0_
  refine jQ (n:=9) (S:=fun w'=>w'.heap[g1]? = some (.cells cx.toArray 43 (0,0))) (ds:=[]) #[false,false,false,false,false,false,false,false,false] mDh rfl rfl FSF.out.1 (fun hHeld=>?_);refine zQ qg.tab30 qg.bits30 (fun HT_ HW_=>?_)
  refine qY (i:=0) (N:=some 70) (v:=?_) (a':=?_) #[true,false,false,false,false,false,false,false,false] rfl rfl (qS HT_.out mDh) (fun _ _ _ h=>h) (Or.inl ⟨mD2,?_⟩) ?_ ?_
  rotate_left
  ·intro w'
   go_simp
   with_reducible rfl
  rotate_left
  ·exact mAe
  refine qY (i:=2) (N:=some 72) (v:=?_) (a':=?_) #[true,false,true,false,false,false,false,false,false] rfl rfl (qS HT_.out mDh) (fun _ _ _ h=>h) (Or.inl ⟨mD2,?_⟩) ?_ ?_
  rotate_left
  ·intro w'
   go_simp
   with_reducible rfl
  rotate_left
  ·exact mAe
  refine take_ (i:=1) (N:=some 71) (v:=?_) (a':=?_) #[true,true,true,false,false,false,false,false,false] rfl rfl (qm HT_.out HW_.out mDh) (fun _ _ _ h=>h) (Or.inl ⟨mD2,?_⟩) hHeld ?_ ?_
  rotate_left
  ·exact mAx
  rotate_left
  ·exact mAe
  refine qY (i:=5) (N:=some 75) (v:=?_) (a':=?_) #[true,true,true,false,false,true,false,false,false] rfl rfl (qS HT_.out mDh) (fun _ _ _ h=>h) (Or.inl ⟨mD2,?_⟩) ?_ ?_
  rotate_left
  ·intro w'
   go_simp
   with_reducible rfl
  rotate_left
  ·exact mAe
  refine take_ (i:=3) (N:=some 73) (v:=?_) (a':=?_) #[true,true,true,true,false,true,false,false,false] rfl rfl (qm HT_.out HW_.out mDh) (fun _ _ _ h=>h) (Or.inl ⟨mD2,?_⟩) hHeld ?_ ?_
  rotate_left
  ·exact mA8
  rotate_left
  ·exact mAe
  refine qY (i:=4) (N:=some 74) (v:=?_) (a':=?_) #[true,true,true,true,true,true,false,false,false] rfl rfl (qS HT_.out mDh) (fun _ _ _ h=>h) (Or.inl ⟨mD2,?_⟩) ?_ ?_
  rotate_left
  ·intro w'
   go_simp
   with_reducible rfl
  rotate_left
  ·exact mAe
  refine jC (i:=6) (N:=none) #[true,true,true,true,true,true,true,false,false] rfl rfl (qq HT_.out mDh) mDl (fun K hK=>?_)
  refine zB mD2 34 (.tmp 75) (.tmp 71) rfl g5 1 (.int .u32 x.a) rfl rfl 43 _ _ FSF.out.2.2.1 mEk js rfl (jH _ _ _ _ _ _) ?_
  intro w7 hb hoth hsz hbel
  have n0_:=am (FSF.out.store hb hoth hbel)
  clear FSF hb hoth hsz hbel
  have FSF:=n0_
  clear n0_
  refine hK.out _ _ FSF.out.1 (fun hHeld=>?_)
  clear hK K
  refine qY (i:=7) (N:=some 76) (v:=?_) (a':=?_) #[true,true,true,true,true,true,true,true,false] rfl rfl (qS HT_.out mDh) (fun _ _ _ h=>h) (Or.inl ⟨mD2,?_⟩) ?_ ?_
  rotate_left
  ·intro w'
   go_simp
   with_reducible rfl
  rotate_left
  ·exact mAe
  refine jC (i:=8) (N:=none) #[true,true,true,true,true,true,true,true,true] rfl rfl (qq HT_.out mDh) mDl (fun K hK=>?_)
  refine zB mD2 35 (.tmp 76) (.tmp 74) rfl g5 3 (.int .u64 (jD x.n)) rfl rfl 43 _ _ FSF.out.2.2.1 mEk yW rfl (zx _ _ _ _ _ _) ?_
  intro w8 hb hoth hsz hbel
  have n0_:=am (FSF.out.store hb hoth hbel)
  clear FSF hb hoth hsz hbel
  have FSF:=n0_
  clear n0_
  refine hK.out _ _ FSF.out.1 (fun hHeld=>?_)
  clear hK K
  refine xI (zu HT_.out mDh) ?_
  go_wp2_with (first
   | ((with_reducible refine qE (N:=140) rfl ?_);refine q7 rfl 43 (.tmp 5) rfl g5 0 27 (qH {zI with op:=x.op,a:=x.a,n:=jD x.n} (.slice none 0 0) (.slice none 0 0) (.slice none 0 0) (.slice none 0 0)) (qH {zI with op:=x.op,a:=x.a,n:=jD x.n} (.slice none 0 0) (.slice none 0 0) (.slice none 0 0) (.slice none 0 0)) _ rfl mDq (by rw[List.drop_zero];exact List.take_of_length_le (Nat.le_of_eq (qL {zI with op:=x.op,a:=x.a,n:=jD x.n} HWW.out _ _ _ _))) (qL {zI with op:=x.op,a:=x.a,n:=jD x.n} HWW.out _ _ _ _) Tryd.underlying43 rfl zC ?_)
   | ((with_reducible refine qE (N:=141) rfl ?_);refine q7 rfl 43 (.tmp 1) rfl g1 0 27 cx cx _ rfl mE mCw HXL.out Tryd.underlying43 rfl zC ?_)
   | (go_at_call 36;refine(HF.out _ mC0).mono ?_;rintro e w11 ⟨rfl,hb⟩;have n0_:=am (FS.below mD7 hb);clear FSF hb;have FSF:=n0_;clear n0_;have z25:w11.cell? ⟨g1,25,none⟩=some (.slice Ab x.body.length cb):=(qA FSF.out.1 25).trans mDt;have z26:w11.cell? ⟨g1,26,none⟩=some (.slice Ae x.els.length ce):=(qA FSF.out.1 26).trans mDx;have y25:=(qCc FSF.out.2.2.1 HWW.out).2.2.1;have y26:=(qCc FSF.out.2.2.1 HWW.out).2.2.2))
  all_goals go_ret
  all_goals exact⟨by cases fl <;> cases bb <;> cases ee <;> first|rfl|contradiction,by repeat (first|exact FSF.out.bel|exact FS.bel FSF.out|apply qJ|apply qP)⟩
set_option maxRecDepth 100000 in
theorem qHM (K:Nat)(x:I)(w:World){Al At Ab Ae:Option Addr}{cl ct cb ce:Nat}{r1 im:Int}{r2:ByteArray}{r4 r5:List Int}{r6:Int}{r7:Bool}(hT:YtobldeamemmokaaDoorTabs.Tab w)(him:im=17)(ho:qW.f K x.op=some (r1,r2,im,r4,r5,r6,r7,0))(h16:x.v.length=16)
 (h1:L2 w x Al cl)(h2:T2 w x At ct):
 xK x Al At Ab Ae cl ct cb ce w ((qz {zI with op:=x.op,a:=x.a,b:=u8n x.b,n:=jD x.n} x && (x.body.length==0 && x.els.length==0))):=by
 unfold xK
 obtain⟨cx,hcx⟩:=ex_ (qH x (.slice Al x.l.length cl) (.slice At x.t.length ct) (.slice Ab x.body.length cb) (.slice Ae x.els.length ce))
 have X:=qa x h16 (.slice Al x.l.length cl) (.slice At x.t.length ct) (.slice Ab x.body.length cb) (.slice Ae x.els.length ce)
 have XL:=qL x h16 (.slice Al x.l.length cl) (.slice At x.t.length ct) (.slice Ab x.body.length cb) (.slice Ae x.els.length ce)
 have hW16:({zI with op:=x.op,a:=x.a,b:=u8n x.b,n:=jD x.n}:I).v.length=16:=rfl
 have HF:=am (fun(W:World) (hW:Below w.heap.size w W)=>zM {zI with op:=x.op,a:=x.a,b:=u8n x.b,n:=jD x.n} x W (Al:=none) (At:=none) (cl:=0) (ct:=0) (.slice none 0 0) (.slice none 0 0) (.slice Ab x.body.length cb) (.slice Ae x.els.length ce) hW16 h16 ⟨Nat.le_refl _,Kd.C_nil _ _⟩ ⟨Nat.le_refl _,Kd.C_nil _ _⟩ ⟨h1.1,Kd.C_below h1.2 hW⟩ ⟨h2.1,Kd.C_below h2.2 hW⟩)
 rw[← hcx] at X XL ⊢
 rw[← hcx] at HF
 have HX:=am X
 have HXL:=am XL
 have H16:=am h16
 have HW16:=am (rfl:zI.v.length=16)
 have HWW:=am hW16
 have HTB:=am hT
 have HO:=am ho
 clear X XL hT ho h1 h2 hcx hW16 h16
 obtain⟨fl,hfl⟩:=ey_ (qz {zI with op:=x.op,a:=x.a,b:=u8n x.b,n:=jD x.n} x)
 obtain⟨bb,hbb⟩:=ey_ ((x.body.length==0))
 obtain⟨ee,hee⟩:=ey_ ((x.els.length==0))
 rw[hfl,hbb,hee]
 rw[hfl] at HF
 have ebb:((0:Int)==(x.body.length:Int))=(x.body.length==0):=zH _
 have eee:((0:Int)==(x.els.length:Int))=(x.els.length==0):=zH _
 rw[hbb] at ebb
 rw[hee] at eee
 clear hfl hbb hee
 all_goals
  have t1:=tst 1 him;have t2:=tst 2 him;have t4:=tst 4 him;have t6:=tst 6 him;have t7:=tst 7 him;have t8:=tst 8 him;have t10:=tst 10 him;have t12:=tst 12 him;have t13:=tst 13 him;have t5:=tst 5 him;have t9:=tst 9 him;have t11:=tst 11 him;have t3:=tst 3 him;have t16:=tst 16 him;have t17:=tst 17 him;have t18:=tst 18 him;have t19:=tst 19 him;have t24:=tst 24 him;have t20:=tst 20 him;have t22:=tst 22 him;have t21:=tst 21 him;have t23:=tst 23 him;have t25:=tst 25 him;have t26:=tst 26 him;clear him
  go_enter Tryd.func35,Tryd.ntmps35
  go_wp2_with (first
   | ((with_reducible refine qE (N:=1) rfl ?_);refine jP rfl _ rfl cx rfl ?_;intro g1 hg1 w1 hb hbl;have B1:=am hb;have L1:=am (qB mCl hbl);have G1:=am (qN hb);have z0:w1.cell? ⟨g1,0,none⟩=some (.int .u16 x.op):=(qA hb 0).trans mDn;clear hg1 hb hbl)
   | (go_at_call 42;refine(qW.calls K x.op r1 r2 im r4 r5 r6 r7 0 _ (HTB.out.below mCi) HO.out).mono ?_;rintro e w2 ⟨v3,v4,rfl,h3,h4,hb⟩;obtain⟨A3,c3,rfl⟩:=Kd.R_slice h3;obtain⟨A4,c4,rfl⟩:=Kd.R_slice h4;have n0_:=am (qG B1.out hb);have n1_:=am (qB L1.out hb);have n2_:=am (qN n0_.out);clear B1 L1 G1 h3 h4 hb;have B1:=n0_;have L1:=n1_;have G1:=n2_;clear n0_ n1_ n2_)
   | ((with_reducible refine qE (N:=3) rfl ?_);refine qd rfl 79 rfl _ zh ?_;intro g3 hg3 w3 hb hbl;have n0_:=am (qG B1.out hbl);have n1_:=am (qB L1.out hbl);have n2_:=am hb;have n3_:=am (mDu:g1≠g3∧w.heap.size≤g3);clear B1 L1 hg3 hb hbl;have B1:=n0_;have L1:=n1_;have B3:=n2_;have N13:=n3_;clear n0_ n1_ n2_ n3_)
   | ((with_reducible refine qF (t:=79) (p:=3) (v:=.tmp 10) rfl ?_);refine qV rfl 79 (.tmp 3) (.tmp 10) rfl g3 #[.int .u16 r1,.string r2,.int .u8 im,.slice A3 r4.length c3,.slice A4 r5.length c4,.int .i64 r6,.bool r7] rfl rfl 79 _ B3.out zK rfl (xG _ _ _ _ _ _ _ _ _ _ _) ?_;intro w4 hb hoth hsz hbel;have n0_:=am ((hoth _ N13.out.1).trans B1.out);have n1_:=am (hbel _ _ N13.out.2 L1.out);have n2_:=am hb;have c32:w4.cell? ⟨g3,2,none⟩=some (.int .u8 im):=(qA hb 2).trans rfl;have z0:w4.cell? ⟨g1,0,none⟩=some (.int .u16 x.op):=(qA n0_.out 0).trans mDn;clear B1 L1 B3 hb hoth hsz hbel;have B1:=n0_;have L1:=n1_;have B3:=n2_;clear n0_ n1_ n2_)
   | ((with_reducible refine qE (N:=16) rfl ?_);refine jV rfl (.tmp 15) rfl x.op rfl ?_)
   | ((with_reducible refine qE (N:=5) rfl ?_);refine qd rfl 43 rfl _ jd ?_;intro g5 hg5 w5 hb hbl;have n0_:=am (qG mD5 hbl);have n1_:=am (qG mEc hbl);have n2_:=am (qB mCi hbl);have n3_:=am hb;have n4_:Aside0 (w.heap.size≤g5∧g1≠g5∧g3≠g5):=⟨by have h1:=qN B1.out;have h2:=qN B3.out;have h3:=L1.out.size;have h4:w4.heap.size≤g5:=by {rw[hg5];exact Nat.le_refl _};omega⟩;clear B1 L1 B3 hg5 hb hbl;have B1:=n0_;have B3:=n1_;have L1:=n2_;have B5:=n3_;have N5:=n4_;clear n0_ n1_ n2_ n3_ n4_)
   | ((with_reducible refine qF (t:=43) (p:=5) (v:=.tmp 16) rfl ?_);refine qV rfl 43 (.tmp 5) (.tmp 16) rfl g5 _ rfl rfl 43 _ B5.out mD8 rfl (all_oneCell_toArray (kI.K_one (w:=w) (x:={zI with op:=x.op}) (yk w {zI with op:=x.op} (Al:=none) (At:=none) (Ab:=none) (Ae:=none) (cl:=0) (ct:=0) (cb:=0) (ce:=0) rfl ⟨Nat.le_refl _,Kd.C_nil _ _⟩ ⟨Nat.le_refl _,Kd.C_nil _ _⟩ ⟨Nat.le_refl _,Kd.C_nil _ _⟩ ⟨Nat.le_refl _,Kd.C_nil _ _⟩))) ?_;intro w6 hb hoth hsz hbel;have FSF:Aside0 (FS w w6 g1 g3 g5 cx _ _):=⟨⟨(hoth _ N5.out.2.1).trans B1.out,(hoth _ N5.out.2.2).trans B3.out,hb,hbel _ _ N5.out.1 L1.out,N5.out⟩⟩;have c32:w6.cell? ⟨g3,2,none⟩=some (.int .u8 im):=(qA FSF.out.2.1 2).trans rfl;clear B1 L1 B3 B5 hb hoth hsz hbel))
  have n0_:=am FSF.out.drew
  clear FSF
  have FSF:=n0_
  clear n0_
  refine jQ (n:=14) (S:=fun w'=>w'.heap[g1]? = some (.cells cx.toArray 43 (0,0))) (ds:=[]) #[false,false,false,false,false,false,false,false,false,false,false,false,false,false] mDh rfl rfl FSF.out.1 (fun hHeld=>?_);refine zQ qg.tab32 qg.bits32 (fun HT_ HW_=>?_)
  refine qY (i:=0) (N:=some 79) (v:=?_) (a':=?_) #[true,false,false,false,false,false,false,false,false,false,false,false,false,false] rfl rfl (qS HT_.out mDh) (fun _ _ _ h=>h) (Or.inl ⟨mD2,?_⟩) ?_ ?_
  rotate_left
  ·intro w'
   go_simp
   with_reducible rfl
  rotate_left
  ·exact mAe
  refine qY (i:=2) (N:=some 81) (v:=?_) (a':=?_) #[true,false,true,false,false,false,false,false,false,false,false,false,false,false] rfl rfl (qS HT_.out mDh) (fun _ _ _ h=>h) (Or.inl ⟨mD2,?_⟩) ?_ ?_
  rotate_left
  ·intro w'
   go_simp
   with_reducible rfl
  rotate_left
  ·exact mAe
  refine qY (i:=5) (N:=some 84) (v:=?_) (a':=?_) #[true,false,true,false,false,true,false,false,false,false,false,false,false,false] rfl rfl (qS HT_.out mDh) (fun _ _ _ h=>h) (Or.inl ⟨mD2,?_⟩) ?_ ?_
  rotate_left
  ·intro w'
   go_simp
   with_reducible rfl
  rotate_left
  ·exact mAe
  refine take_ (i:=1) (N:=some 80) (v:=?_) (a':=?_) #[true,true,true,false,false,true,false,false,false,false,false,false,false,false] rfl rfl (qm HT_.out HW_.out mDh) (fun _ _ _ h=>h) (Or.inl ⟨mD2,?_⟩) hHeld ?_ ?_
  rotate_left
  ·exact mAx
  rotate_left
  ·exact mAe
  refine qY (i:=8) (N:=some 87) (v:=?_) (a':=?_) #[true,true,true,false,false,true,false,false,true,false,false,false,false,false] rfl rfl (qS HT_.out mDh) (fun _ _ _ h=>h) (Or.inl ⟨mD2,?_⟩) ?_ ?_
  rotate_left
  ·intro w'
   go_simp
   with_reducible rfl
  rotate_left
  ·exact mAe
  refine take_ (i:=3) (N:=some 82) (v:=?_) (a':=?_) #[true,true,true,true,false,true,false,false,true,false,false,false,false,false] rfl rfl (qm HT_.out HW_.out mDh) (fun _ _ _ h=>h) (Or.inl ⟨mD2,?_⟩) hHeld ?_ ?_
  rotate_left
  ·exact mA8
  rotate_left
  ·exact mAe
  refine qY (i:=4) (N:=some 83) (v:=?_) (a':=?_) #[true,true,true,true,true,true,false,false,true,false,false,false,false,false] rfl rfl (qS HT_.out mDh) (fun _ _ _ h=>h) (Or.inl ⟨mD2,?_⟩) ?_ ?_
  rotate_left
  ·intro w'
   go_simp
   with_reducible rfl
  rotate_left
  ·exact mAe
  refine take_ (i:=6) (N:=some 85) (v:=?_) (a':=?_) #[true,true,true,true,true,true,true,false,true,false,false,false,false,false] rfl rfl (qm HT_.out HW_.out mDh) (fun _ _ _ h=>h) (Or.inl ⟨mD2,?_⟩) hHeld ?_ ?_
  rotate_left
  ·exact mA9
  rotate_left
  ·exact mAe
  refine qY (i:=7) (N:=some 86) (v:=?_) (a':=?_) #[true,true,true,true,true,true,true,true,true,false,false,false,false,false] rfl rfl (qS HT_.out mDh) (fun _ _ _ h=>h) (Or.inl ⟨mD2,?_⟩) ?_ ?_
  rotate_left
  ·intro w'
   go_simp
   with_reducible rfl
  rotate_left
  ·exact mAe
  refine jC (i:=9) (N:=none) #[true,true,true,true,true,true,true,true,true,true,false,false,false,false] rfl rfl (qq HT_.out mDh) mDl (fun K hK=>?_)
  refine zB mD2 34 (.tmp 87) (.tmp 80) rfl g5 1 (.int .u32 x.a) rfl rfl 43 _ _ FSF.out.2.2.1 mEk js rfl (jH _ _ _ _ _ _) ?_
  intro w7 hb hoth hsz hbel
  have n0_:=am (FSF.out.store hb hoth hbel)
  clear FSF hb hoth hsz hbel
  have FSF:=n0_
  clear n0_
  refine hK.out _ _ FSF.out.1 (fun hHeld=>?_)
  clear hK K
  refine qY (i:=10) (N:=some 88) (v:=?_) (a':=?_) #[true,true,true,true,true,true,true,true,true,true,true,false,false,false] rfl rfl (qS HT_.out mDh) (fun _ _ _ h=>h) (Or.inl ⟨mD2,?_⟩) ?_ ?_
  rotate_left
  ·intro w'
   go_simp
   with_reducible rfl
  rotate_left
  ·exact mAe
  refine jC (i:=11) (N:=none) #[true,true,true,true,true,true,true,true,true,true,true,true,false,false] rfl rfl (qq HT_.out mDh) mDl (fun K hK=>?_)
  refine zB mD2 35 (.tmp 88) (.tmp 83) rfl g5 3 (.int .u64 (jD x.n)) rfl rfl 43 _ _ FSF.out.2.2.1 mEk yW rfl (zx _ _ _ _ _ _) ?_
  intro w8 hb hoth hsz hbel
  have n0_:=am (FSF.out.store hb hoth hbel)
  clear FSF hb hoth hsz hbel
  have FSF:=n0_
  clear n0_
  refine hK.out _ _ FSF.out.1 (fun hHeld=>?_)
  clear hK K
  refine qY (i:=12) (N:=some 89) (v:=?_) (a':=?_) #[true,true,true,true,true,true,true,true,true,true,true,true,true,false] rfl rfl (qS HT_.out mDh) (fun _ _ _ h=>h) (Or.inl ⟨mD2,?_⟩) ?_ ?_
  rotate_left
  ·intro w'
   go_simp
   with_reducible rfl
  rotate_left
  ·exact mAe
  refine jC (i:=13) (N:=none) #[true,true,true,true,true,true,true,true,true,true,true,true,true,true] rfl rfl (qq HT_.out mDh) mDl (fun K hK=>?_)
  refine zB mD2 34 (.tmp 89) (.tmp 86) rfl g5 2 (.int .u32 (u8n x.b)) rfl rfl 43 _ _ FSF.out.2.2.1 mEk js rfl (jn _ _ _ _ _ _) ?_
  intro w8 hb hoth hsz hbel
  have n0_:=am (FSF.out.store hb hoth hbel)
  clear FSF hb hoth hsz hbel
  have FSF:=n0_
  clear n0_
  refine hK.out _ _ FSF.out.1 (fun hHeld=>?_)
  clear hK K
  refine xI (zu HT_.out mDh) ?_
  go_wp2_with (first
   | ((with_reducible refine qE (N:=140) rfl ?_);refine q7 rfl 43 (.tmp 5) rfl g5 0 27 (qH {zI with op:=x.op,a:=x.a,b:=u8n x.b,n:=jD x.n} (.slice none 0 0) (.slice none 0 0) (.slice none 0 0) (.slice none 0 0)) (qH {zI with op:=x.op,a:=x.a,b:=u8n x.b,n:=jD x.n} (.slice none 0 0) (.slice none 0 0) (.slice none 0 0) (.slice none 0 0)) _ rfl mDq (by rw[List.drop_zero];exact List.take_of_length_le (Nat.le_of_eq (qL {zI with op:=x.op,a:=x.a,b:=u8n x.b,n:=jD x.n} HWW.out _ _ _ _))) (qL {zI with op:=x.op,a:=x.a,b:=u8n x.b,n:=jD x.n} HWW.out _ _ _ _) Tryd.underlying43 rfl zC ?_)
   | ((with_reducible refine qE (N:=141) rfl ?_);refine q7 rfl 43 (.tmp 1) rfl g1 0 27 cx cx _ rfl mE mCw HXL.out Tryd.underlying43 rfl zC ?_)
   | (go_at_call 36;refine(HF.out _ mC0).mono ?_;rintro e w11 ⟨rfl,hb⟩;have n0_:=am (FS.below mD7 hb);clear FSF hb;have FSF:=n0_;clear n0_;have z25:w11.cell? ⟨g1,25,none⟩=some (.slice Ab x.body.length cb):=(qA FSF.out.1 25).trans mDt;have z26:w11.cell? ⟨g1,26,none⟩=some (.slice Ae x.els.length ce):=(qA FSF.out.1 26).trans mDx;have y25:=(qCc FSF.out.2.2.1 HWW.out).2.2.1;have y26:=(qCc FSF.out.2.2.1 HWW.out).2.2.2))
  all_goals go_ret
  all_goals exact⟨by cases fl <;> cases bb <;> cases ee <;> first|rfl|contradiction,by repeat (first|exact FSF.out.bel|exact FS.bel FSF.out|apply qJ|apply qP)⟩
set_option maxRecDepth 100000 in
theorem qIJ (K:Nat)(x:I)(w:World){Al At Ab Ae:Option Addr}{cl ct cb ce:Nat}{r1 im:Int}{r2:ByteArray}{r4 r5:List Int}{r6:Int}{r7:Bool}(hT:YtobldeamemmokaaDoorTabs.Tab w)(him:im=19∨im=24)(ho:qW.f K x.op=some (r1,r2,im,r4,r5,r6,r7,0))(h16:x.v.length=16)
 (h1:L2 w x Al cl)(h2:T2 w x At ct):
 xK x Al At Ab Ae cl ct cb ce w ((qz {zI with op:=x.op,v:=x.v} x && (x.body.length==0 && x.els.length==0))):=by
 unfold xK
 obtain⟨cx,hcx⟩:=ex_ (qH x (.slice Al x.l.length cl) (.slice At x.t.length ct) (.slice Ab x.body.length cb) (.slice Ae x.els.length ce))
 have X:=qa x h16 (.slice Al x.l.length cl) (.slice At x.t.length ct) (.slice Ab x.body.length cb) (.slice Ae x.els.length ce)
 have XL:=qL x h16 (.slice Al x.l.length cl) (.slice At x.t.length ct) (.slice Ab x.body.length cb) (.slice Ae x.els.length ce)
 have XV:=qCf x h16 (.slice Al x.l.length cl) (.slice At x.t.length ct) (.slice Ab x.body.length cb) (.slice Ae x.els.length ce)
 have hW16:({zI with op:=x.op,v:=x.v}:I).v.length=16:=h16
 have HF:=am (fun(W:World) (hW:Below w.heap.size w W)=>zM {zI with op:=x.op,v:=x.v} x W (Al:=none) (At:=none) (cl:=0) (ct:=0) (.slice none 0 0) (.slice none 0 0) (.slice Ab x.body.length cb) (.slice Ae x.els.length ce) hW16 h16 ⟨Nat.le_refl _,Kd.C_nil _ _⟩ ⟨Nat.le_refl _,Kd.C_nil _ _⟩ ⟨h1.1,Kd.C_below h1.2 hW⟩ ⟨h2.1,Kd.C_below h2.2 hW⟩)
 rw[← hcx] at X XL XV ⊢
 rw[← hcx] at HF
 have HX:=am X
 have HXL:=am XL
 have HV:=am XV
 clear XV
 have H16:=am h16
 have HW16:=am (rfl:zI.v.length=16)
 have HWW:=am hW16
 have HTB:=am hT
 have HO:=am ho
 clear X XL hT ho h1 h2 hcx hW16 h16
 obtain⟨fl,hfl⟩:=ey_ (qz {zI with op:=x.op,v:=x.v} x)
 obtain⟨bb,hbb⟩:=ey_ ((x.body.length==0))
 obtain⟨ee,hee⟩:=ey_ ((x.els.length==0))
 rw[hfl,hbb,hee]
 rw[hfl] at HF
 have ebb:((0:Int)==(x.body.length:Int))=(x.body.length==0):=zH _
 have eee:((0:Int)==(x.els.length:Int))=(x.els.length==0):=zH _
 rw[hbb] at ebb
 rw[hee] at eee
 clear hfl hbb hee
 rcases him with him|him
 all_goals
  have t1:=tst 1 him;have t2:=tst 2 him;have t4:=tst 4 him;have t6:=tst 6 him;have t7:=tst 7 him;have t8:=tst 8 him;have t10:=tst 10 him;have t12:=tst 12 him;have t13:=tst 13 him;have t5:=tst 5 him;have t9:=tst 9 him;have t11:=tst 11 him;have t3:=tst 3 him;have t16:=tst 16 him;have t17:=tst 17 him;have t18:=tst 18 him;have t19:=tst 19 him;have t24:=tst 24 him;have t20:=tst 20 him;have t22:=tst 22 him;have t21:=tst 21 him;have t23:=tst 23 him;have t25:=tst 25 him;have t26:=tst 26 him;clear him
  exact mEr
end Go.Proofs.YtobldeamemmokaaDoor.P
