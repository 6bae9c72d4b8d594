import Derived.Test.YtobldeamemmokaaDoorZa28
set_option linter.unusedVariables false
set_option linter.unusedSimpArgs false
set_option maxHeartbeats 64000000
namespace Go.Proofs.YtobldeamemmokaaDoor.P
open Go.RowKit Go.Proofs.YtobldeamemmokaaDoorW.PrintWords Go.Proofs.YtobldeamemmokaaDoorW.PrintLast Go.Proofs.YtobldeamemmokaaDoorW.PrintMore
set_option maxRecDepth 100000 in
theorem qJC (K k:Nat)(w0 W:World)(g gx:Nat)(A:Option Addr)(c:Nat)(b:List Int)(at_:Int)(bad:Bool)(o im:Int)(hh:HR w0 W g gx A c b at_ bad o)(him:im=26)(r0:Int × Int × Bool)(r:List Int × Int × Bool)(hu:uF K b at_ bad=some r0)(hz:0≤r0.2.1)(hr:xw K b k r0.1 0 [] r0.2.1 r0.2.2=some r):
 Calls Tryd.prog 50 #[.pointer (some ⟨g,0,none⟩),.int .u8 im,.pointer (some ⟨gx,0,none⟩)] W (yZ w0 W g gx A c b ({zI with op:=o,t:=r.1},r.2.1,r.2.2)):=by
 obtain⟨hB,hg,hn,hC,hc,h0,hx,hnx,hne⟩:=hh
 have S0:=KX_.st hg hx hB hn hnx hne
 have LV:=am (fun(W1:World) (ox:Obj) (h9:KX_ w0 W W1 g gx (oRd A c b at_ bad) ox)=>qDc K k w0 W1 g A c b at_ bad r0 r h9.bel h9.1 hn hC hc hu hr hz)
 clear hg hx hB hn hnx hne hC hc h0 hu hr hz
 have t2:=tst 2 him;have t4:=tst 4 him;have t6:=tst 6 him;have t7:=tst 7 him;have t8:=tst 8 him;have t10:=tst 10 him;have t12:=tst 12 him;have t13:=tst 13 him;have t5:=tst 5 him;have t9:=tst 9 him;have t11:=tst 11 him;have t3:=tst 3 him;have t14:=tst 14 him;have t15:=tst 15 him;have t16:=tst 16 him;have t17:=tst 17 him;have t18:=tst 18 him;have t19:=tst 19 him;have t24:=tst 24 him;have t20:=tst 20 him;have t22:=tst 22 him;have t21:=tst 21 him;have t23:=tst 23 him;have t25:=tst 25 him;have t26:=tst 26 him;clear him
 exact mAd
set_option maxRecDepth 100000 in
theorem qJc (K k:Nat)(w0 W:World)(g gx:Nat)(A:Option Addr)(c:Nat)(b:List Int)(at_:Int)(bad:Bool)(o im:Int)(hh:HR w0 W g gx A c b at_ bad o)(him:im=25)(p1 p2:Int)(p3:Bool)(hp:qAE b at_ bad=(p1,p2,p3)):
 Calls Tryd.prog 50 #[.pointer (some ⟨g,0,none⟩),.int .u8 im,.pointer (some ⟨gx,0,none⟩)] W (yZ w0 W g gx A c b ({zI with op:=o,t:=[p1]},p2,p3 || !qAf p1)):=by
 obtain⟨hB,hg,hn,hC,hc,h0,hx,hnx,hne⟩:=hh
 have S0:=KX_.st hg hx hB hn hnx hne
 have V1:=am (fun(W1:World) (ox:Obj) (h9:KX_ w0 W W1 g gx (oRd A c b at_ bad) ox)=>qBM w0 W1 g A c b at_ bad h9.bel h9.1 hn hC hc h0)
 rw[hp] at V1
 clear hg hx hB hn hnx hne hC hc h0 hp
 obtain⟨rf,hrf⟩:=ey_ (qAf p1)
 have IR:=am (fun(W1:World)=>jI.calls p1 (qAf p1) W1 (qEO p1))
 rw[hrf] at IR ⊢
 clear hrf
 have t2:=tst 2 him;have t4:=tst 4 him;have t6:=tst 6 him;have t7:=tst 7 him;have t8:=tst 8 him;have t10:=tst 10 him;have t12:=tst 12 him;have t13:=tst 13 him;have t5:=tst 5 him;have t9:=tst 9 him;have t11:=tst 11 him;have t3:=tst 3 him;have t14:=tst 14 him;have t15:=tst 15 him;have t16:=tst 16 him;have t17:=tst 17 him;have t18:=tst 18 him;have t19:=tst 19 him;have t24:=tst 24 him;have t20:=tst 20 him;have t22:=tst 22 him;have t21:=tst 21 him;have t23:=tst 23 him;have t25:=tst 25 him;have t26:=tst 26 him;clear him
 cases p3
 ·go_enter Tryd.func50,Tryd.ntmps50
  go_wp2_with (first
   | (go_at_call 69;refine(V1.out _ _ mDi).mono ?_;rintro e w1 ⟨rfl,hS⟩;have n0_:=am (KX_.call mDi hS.1 hS.2.1 hS.2.2.1);clear S0 hS;have S0:=n0_;clear n0_;have c2:w1.cell? ⟨g,2,none⟩=some (.bool false):=(qA S0.out.1 2).trans rfl;have f2:=qD S0.out.1 2)
   | (go_at_call 54;refine(IR.out _).mono ?_;rintro e w2 ⟨rfl,hd⟩;have n0_:=am (KX_.below mDi hd.below);clear S0 hd;have S0:=n0_;clear n0_)
   | ((with_reducible refine qF (t:=4) (p:=165) (v:=.tmp 163) rfl ?_);refine qT rfl 4 (.tmp 165) (.tmp 163) rfl g 2 (.bool (!rf)) rfl rfl 87 #[.slice A b.length c,.int .i64 p2,.bool false] #[.slice A b.length c,.int .i64 p2,.bool (!rf)] mDo (show 2<3 by decide) z7 rfl rfl ?_;intro w5 hb hoth hsz hbel;have n0_:=am (KX_.self mDi hb hoth hsz hbel);clear S0 hb hoth hsz hbel;have S0:=n0_;clear n0_)
   | ((with_reducible refine qE (N:=168) rfl ?_);refine Kd.R_lit (Kd.int .u8) (w0:=w0) w0.heap.size 39 ?hg (N:=168) ?hd (xs:=([p1]:List Int)) (inner:=[.int .u8 p1]) (ok:=fun q=>W.heap.size≤q) (okp:=fun _=>False) ?hr ?hp (fun _ hk=>hk.elim) S0.out.2.2.1.1 S0.out.bel S0.out.bel.size mDp ?_;(case hd=>rfl);(case hg=>rfl);(case hr=>first|(go_simp;done)|(go_simp;rfl));(case hp=>exact Reps.one (show Kd.M (Kd.int .u8) _ _ _ p1 [.int .u8 p1] from rfl) (Reps.none _ _));intro v1 w6 ho4 hb hg_ hnew_;obtain⟨A1,c1,rfl⟩:=Kd.R_slice ho4;have n0_:=am (KX_.grown mDi hg_ (fun q hq=>by cases hq) hb);have RV:=am ho4;clear S0 ho4 hb hg_ hnew_;have S0:=n0_;clear n0_)
   | ((with_reducible refine qF (t:=38) (p:=170) (v:=.tmp 168) rfl ?_);refine qT rfl 38 (.tmp 170) (.tmp 168) rfl gx 21 (.slice A1 1 c1) rfl rfl 43 _ (qH {zI with op:=o,t:=[p1]} (.slice none 0 0) (.slice A1 1 c1) (.slice none 0 0) (.slice none 0 0)).toArray (show _=some (oX (zop o) (.slice none 0 0) (.slice none 0 0)) by first|exact S0.out.2.1|exact(S0.out.drewN _).2.1) mEl qA8 mD2 (ze _ rfl _ _ _ _ _).2.1 ?_;intro w9 hb hoth hsz hbel;have n1_:=am (Kd.R_move RV.out (fun q hq=>hoth q mEg));have n0_:Aside0 (KX_ w0 W w9 g gx _ (oX {zI with op:=o,t:=[p1]} (.slice none 0 0) (.slice A1 1 c1))):=⟨KX_.put mDi hb hoth hsz hbel⟩;clear S0 RV hb hoth hsz hbel;have S0:=n0_;have RV:=n1_;clear n0_ n1_))
  exact⟨rfl,.tuple #[],by first|rfl|simp[results,Tryd.f50],_,_,rfl,S0.out,Kd.R_nil _ _ _ _ _,RV.out⟩
 ·go_enter Tryd.func50,Tryd.ntmps50
  go_wp2_with (first
   | (go_at_call 69;refine(V1.out _ _ mDi).mono ?_;rintro e w1 ⟨rfl,hS⟩;have n0_:=am (KX_.call mDi hS.1 hS.2.1 hS.2.2.1);clear S0 hS;have S0:=n0_;clear n0_;have c2:w1.cell? ⟨g,2,none⟩=some (.bool true):=(qA S0.out.1 2).trans rfl;have f2:=qD S0.out.1 2)
   | (go_at_call 54;refine(IR.out _).mono ?_;rintro e w2 ⟨rfl,hd⟩;have n0_:=am (KX_.below mDi hd.below);clear S0 hd;have S0:=n0_;clear n0_)
   | ((with_reducible refine qF (t:=4) (p:=165) (v:=.tmp 163) rfl ?_);refine qT rfl 4 (.tmp 165) (.tmp 163) rfl g 2 (.bool true) rfl rfl 87 #[.slice A b.length c,.int .i64 p2,.bool true] #[.slice A b.length c,.int .i64 p2,.bool true] mDo (show 2<3 by decide) z7 rfl rfl ?_;intro w5 hb hoth hsz hbel;have n0_:=am (KX_.self mDi hb hoth hsz hbel);clear S0 hb hoth hsz hbel;have S0:=n0_;clear n0_)
   | ((with_reducible refine qE (N:=168) rfl ?_);refine Kd.R_lit (Kd.int .u8) (w0:=w0) w0.heap.size 39 ?hg (N:=168) ?hd (xs:=([p1]:List Int)) (inner:=[.int .u8 p1]) (ok:=fun q=>W.heap.size≤q) (okp:=fun _=>False) ?hr ?hp (fun _ hk=>hk.elim) S0.out.2.2.1.1 S0.out.bel S0.out.bel.size mDp ?_;(case hd=>rfl);(case hg=>rfl);(case hr=>first|(go_simp;done)|(go_simp;rfl));(case hp=>exact Reps.one (show Kd.M (Kd.int .u8) _ _ _ p1 [.int .u8 p1] from rfl) (Reps.none _ _));intro v1 w6 ho4 hb hg_ hnew_;obtain⟨A1,c1,rfl⟩:=Kd.R_slice ho4;have n0_:=am (KX_.grown mDi hg_ (fun q hq=>by cases hq) hb);have RV:=am ho4;clear S0 ho4 hb hg_ hnew_;have S0:=n0_;clear n0_)
   | ((with_reducible refine qF (t:=38) (p:=170) (v:=.tmp 168) rfl ?_);refine qT rfl 38 (.tmp 170) (.tmp 168) rfl gx 21 (.slice A1 1 c1) rfl rfl 43 _ (qH {zI with op:=o,t:=[p1]} (.slice none 0 0) (.slice A1 1 c1) (.slice none 0 0) (.slice none 0 0)).toArray (show _=some (oX (zop o) (.slice none 0 0) (.slice none 0 0)) by first|exact S0.out.2.1|exact(S0.out.drewN _).2.1) mEl qA8 mD2 (ze _ rfl _ _ _ _ _).2.1 ?_;intro w9 hb hoth hsz hbel;have n1_:=am (Kd.R_move RV.out (fun q hq=>hoth q mEg));have n0_:Aside0 (KX_ w0 W w9 g gx _ (oX {zI with op:=o,t:=[p1]} (.slice none 0 0) (.slice A1 1 c1))):=⟨KX_.put mDi hb hoth hsz hbel⟩;clear S0 RV hb hoth hsz hbel;have S0:=n0_;have RV:=n1_;clear n0_ n1_))
  exact⟨rfl,.tuple #[],by first|rfl|simp[results,Tryd.f50],_,_,rfl,S0.out,Kd.R_nil _ _ _ _ _,RV.out⟩
def zZ.T16:Bool × List (List Nat × List Nat):=(true,[([],[]),([],[]),([1],[1]),([2],[2]),([3],[3]),([],[]),([5],[5]),([6],[6]),([4,7,6],[4,7]),([0,0,1,2,3,4,5,6,7,8],[0]),([9,0,1,2,3,4,5,6,7,8],[9]),([10,8,8,0,1,2,3,4,5,6,7,8],[8,10])])
def zZ.B16:List Nat:=[0,0,2,6,14,0,32,96,254,511,1023,2047]
theorem zZ.tab16:jO .any (xL Tryd.f50 16)=zZ.T16:=mDh
theorem zZ.bits16:zc zZ.T16.2 zZ.B16=true:=mDh
def zZ.T38:Bool × List (List Nat × List Nat):=(true,[([],[]),([],[]),([],[]),([2],[2]),([0],[0]),([4],[4]),([5,1,0,1,2,3],[1,5]),([6,3,3,0,1,2,3],[3,6])])
def zZ.B38:List Nat:=[0,0,0,4,1,17,63,127]
theorem zZ.tab38:jO .any (xL Tryd.f50 38)=zZ.T38:=mDh
theorem zZ.bits38:zc zZ.T38.2 zZ.B38=true:=mDh
set_option maxRecDepth 100000 in
theorem qJh (K k:Nat)(w0 W:World)(g gx:Nat)(A:Option Addr)(c:Nat)(b:List Int)(at_:Int)(bad:Bool)(o im:Int)(hh:HR w0 W g gx A c b at_ bad o)(him:im=3)(r0:Int × Int × Bool)(l1:List Int)(l2:Int)(l3:Bool)(q1 q2:Int)(q3:Bool)(hu:uF K b at_ bad=some r0)(hr:xx K b k r0.1 0 [] r0.2.1 r0.2.2=some (l1,l2,l3))(hq:uF K b l2 l3=some (q1,q2,q3))(hl:l1.length<1000000000000):
 Calls Tryd.prog 50 #[.pointer (some ⟨g,0,none⟩),.int .u8 im,.pointer (some ⟨gx,0,none⟩)] W (yZ w0 W g gx A c b ({zI with op:=o,l:=l1 ++ [q1]},q2,q3)):=by
 obtain⟨hB,hg,hn,hC,hc,h0,hx,hnx,hne⟩:=hh
 have S0:=KX_.st hg hx hB hn hnx hne
 have LU:=am (fun(W1:World) (ox:Obj) (h9:KX_ w0 W W1 g gx (oRd A c b at_ bad) ox)=>qCV K k w0 W1 g A c b at_ bad r0 (l1,l2,l3) h9.bel h9.1 hn hC hc hu hr)
 have U2:=am (fun(W1:World) (ox:Obj) (h9:KX_ w0 W W1 g gx (oRd A c b l2 l3) ox)=>z8 K w0 W1 g A c b l2 l3 (q1,q2,q3) h9.bel h9.1 hn hC hc hq)
 have HL_:=am hl
 clear hg hx hB hn hnx hne hC hc h0 hu hr hq hl
 have t2:=tst 2 him;have t4:=tst 4 him;have t6:=tst 6 him;have t7:=tst 7 him;have t8:=tst 8 him;have t10:=tst 10 him;have t12:=tst 12 him;have t13:=tst 13 him;have t5:=tst 5 him;have t9:=tst 9 him;have t11:=tst 11 him;have t3:=tst 3 him;have t14:=tst 14 him;have t15:=tst 15 him;have t16:=tst 16 him;have t17:=tst 17 him;have t18:=tst 18 him;have t19:=tst 19 him;have t24:=tst 24 him;have t20:=tst 20 him;have t22:=tst 22 him;have t21:=tst 21 him;have t23:=tst 23 him;have t25:=tst 25 him;have t26:=tst 26 him;clear him
 go_enter Tryd.func50,Tryd.ntmps50
 go_wp2_with (first
  | (go_at_call 66;refine(LU.out _ _ mDi).mono ?_;rintro e w1 ⟨v1,rfl,hr1,hS⟩;obtain⟨A1,c1,rfl⟩:=Kd.R_slice hr1;have RV:=am (Kd.R_mono hr1 (fun q hq=>(Nat.le_trans S0.out.2.2.1.1 hq:W.heap.size≤q)));clear hr1;have n0_:=am (KX_.call mDi hS.1 hS.2.1 hS.2.2.1);clear S0 hS;have S0:=n0_;clear n0_)
  | ((with_reducible refine qF (t:=37) (p:=44) (v:=.tmp 42) rfl ?_);refine qT rfl 37 (.tmp 44) (.tmp 42) rfl gx 20 (.slice A1 l1.length c1) rfl rfl 43 _ (qH {zI with op:=o,l:=l1} (.slice A1 l1.length c1) (.slice none 0 0) (.slice none 0 0) (.slice none 0 0)).toArray (show _=some (oX (zop o) (.slice none 0 0) (.slice none 0 0)) by first|exact S0.out.2.1|exact(S0.out.drewN _).2.1) mEl qEh mD2 (ze _ rfl _ _ _ _ _).1 ?_;intro w9 hb hoth hsz hbel;have n1_:=am (Kd.R_move RV.out (fun q hq=>hoth q mEg));have n0_:Aside0 (KX_ w0 W w9 g gx _ (oX {zI with op:=o,l:=l1} (.slice A1 l1.length c1) (.slice none 0 0))):=⟨KX_.put mDi hb hoth hsz hbel⟩;clear S0 RV hb hoth hsz hbel;have S0:=n0_;have RV:=n1_;clear n0_ n1_))
 have n0_:=am (S0.out.below (qP (Below.refl _ _)))
 have n1_:=am (Kd.R_drew RV.out)
 clear S0 RV
 have S0:=n0_
 have RV:=n1_
 clear n0_ n1_
 refine jQ (n:=12) (S:=fun w'=>w'.heap[gx]? = some (oX {zI with op:=o,l:=l1} (.slice A1 l1.length c1) (.slice none 0 0))) (ds:=[11]) #[false,false,false,false,false,false,false,false,false,false,false,false] mDh rfl rfl S0.out.2.1 (fun hHeld=>?_);refine zQ zZ.tab16 zZ.bits16 (fun HT_ HW_=>?_)
 generalize World.drew _=w2d at S0 RV hHeld ⊢
 refine qY (i:=0) (N:=some 45) (v:=?_) (a':=?_) #[true,false,false,false,false,false,false,false,false,false,false,false] rfl rfl (qS HT_.out mDh) (fun _ _ _ h=>h) (Or.inl ⟨mD2,?_⟩) ?_ ?_
 rotate_left
 ·intro w'
  go_simp
  with_reducible rfl
 rotate_left
 ·exact mAe
 refine qY (i:=1) (N:=some 46) (v:=?_) (a':=?_) #[true,true,false,false,false,false,false,false,false,false,false,false] rfl rfl (qS HT_.out mDh) (fun _ _ _ h=>h) (Or.inl ⟨mD2,?_⟩) ?_ ?_
 rotate_left
 ·intro w'
  go_simp
  with_reducible rfl
 rotate_left
 ·exact mAe
 refine qY (i:=2) (N:=some 47) (v:=?_) (a':=?_) #[true,true,true,false,false,false,false,false,false,false,false,false] rfl rfl (qS HT_.out mDh) (fun _ _ _ h=>h) (Or.inl ⟨mD2,?_⟩) ?_ ?_
 rotate_left
 ·intro w'
  go_simp
  with_reducible rfl
 rotate_left
 ·exact mAe
 refine qY (i:=3) (N:=some 48) (v:=?_) (a':=?_) #[true,true,true,true,false,false,false,false,false,false,false,false] rfl rfl (qS HT_.out mDh) (fun _ _ _ h=>h) (Or.inl ⟨mD2,?_⟩) ?_ ?_
 rotate_left
 ·intro w'
  go_simp
  with_reducible rfl
 rotate_left
 ·exact mAe
 refine qY (i:=5) (N:=some 50) (v:=?_) (a':=?_) #[true,true,true,true,false,true,false,false,false,false,false,false] rfl rfl (qS HT_.out mDh) (fun _ _ _ h=>h) (Or.inl ⟨mD2,?_⟩) ?_ ?_
 rotate_left
 ·intro w'
  go_simp
  with_reducible rfl
 rotate_left
 ·exact mAe
 refine take_ (i:=4) (N:=some 49) (v:=?_) (a':=?_) #[true,true,true,true,true,true,false,false,false,false,false,false] rfl rfl (qm HT_.out HW_.out mDh) (fun _ _ _ h=>h) (Or.inl ⟨mD2,?_⟩) hHeld ?_ ?_
 rotate_left
 ·intro w' s0
  have c0:w'.cell? ⟨gx,20,none⟩=some (.slice A1 l1.length c1):=(qA s0 20).trans (by rw[List.getElem?_toArray];exact(qa _ rfl _ _ _ _).2.2.2.2.1)
  go_simp
  with_reducible rfl
 rotate_left
 ·exact mAe
 refine jC (i:=6) (N:=some 51) #[true,true,true,true,true,true,true,false,false,false,false,false] rfl rfl (qq HT_.out mDh) mDl (fun K hK=>?_)
 refine yD Tryd.func64 mDh rfl #[.pointer (some ⟨g,0,none⟩)] mD2 rfl rfl mCs ?_
 refine(U2.out _ _ S0.out).mono ?_
 rintro e w3 ⟨rfl,hS⟩
 refine⟨_,rfl,?_⟩
 have n1_:=am (Kd.R_keep RV.out hS.2.1 (fun q hq=>by have:=S0.out.2.2.2.2.1;omega))
 have n0_:=am (KX_.call S0.out hS.1 hS.2.1 hS.2.2.1)
 clear S0 RV hS
 have S0:=n0_
 have RV:=n1_
 clear n0_ n1_
 refine hK.out _ _ S0.out.2.1 (fun hHeld=>?_)
 clear hK K
 refine zJ (a':=?_) ?_ ?_
 rotate_left
 ·show Act.put _ (some 51) _=_
  exact mAe
 refine jC (i:=7) (N:=some 52) #[true,true,true,true,true,true,true,true,false,false,false,false] rfl rfl (qq HT_.out mDh) mDl (fun K hK=>?_)
 refine Kd.R_lit_step (Kd.int .u32) (w0:=w0) w0.heap.size 34 mD2 (N:=52) rfl (xs:=([q1]:List Int)) (inner:=[.int .u32 q1]) (ok:=fun _=>True) (okp:=fun _=>True) mEd (Reps.one (show Kd.M (Kd.int .u32) _ _ _ q1 [.int .u32 q1] from rfl) (Reps.none _ _)) (fun _ hk=>hk) trivial S0.out.bel S0.out.bel.size mDp ?_
 intro v52 w4 ho4 hb hg_ hnew_
 obtain⟨Al_,cl_,rfl⟩:=Kd.R_slice ho4
 have n0_:=am (KX_.grown S0.out hg_ (fun q hq=>by cases hq) hb)
 have n1_:=am (qBz RV.out hg_)
 have RL:=am ho4
 clear S0 RV ho4 hb hg_ hnew_
 have S0:=n0_
 have RV:=n1_
 clear n0_ n1_
 refine hK.out _ _ S0.out.2.1 (fun hHeld=>?_)
 clear hK K
 refine zJ (a':=?_) ?_ ?_
 rotate_left
 ·show Act.put _ (some 52) _=_
  exact mAe
 refine jC (i:=8) (N:=some 53) #[true,true,true,true,true,true,true,true,true,false,false,false] rfl rfl (qq HT_.out mDh) mDl (fun K hK=>?_)
 refine Kd.R_append_rows_step (Kd.int .u32) (w0:=w0) w0.heap.size mD2 (.tmp 49) (.tmp 52) 37 34 (.int .u32 0) 4 rfl Tryd.underlying37 qEG rfl mDl mDl (.slice A1 l1.length c1) l1 [q1] Al_ 1 cl_ (fun q=>W.heap.size≤q) (fun _=>False) rfl rfl RV.out (Kd.R_reads' RL.out).2.2 (fun _ _ h=>h) (fun _ h=>h.elim) (fun q hq=>Nat.le_trans S0.out.2.2.1.1 hq) S0.out.bel S0.out.bel.size (by have:=HL_.out;omega) ?_
 intro v53 w5 ho4 hb hg hat
 obtain⟨A3,c3,rfl⟩:=Kd.R_slice ho4
 have n0_:=am (KX_.grown S0.out hg (fun q hq=>RV.out.1 q hq) hb)
 have n1_:=am ho4
 clear S0 RV RL ho4 hb hg hat
 have S0:=n0_
 have RV:=n1_
 clear n0_ n1_
 refine hK.out _ _ S0.out.2.1 (fun hHeld=>?_)
 clear hK K
 refine zJ (a':=?_) ?_ ?_
 rotate_left
 ·show Act.put _ (some 53) _=_
  exact mAe
 refine qY (i:=9) (N:=some 54) (v:=?_) (a':=?_) #[true,true,true,true,true,true,true,true,true,true,false,false] rfl rfl (qS HT_.out mDh) (fun _ _ _ h=>h) (Or.inl ⟨mD2,?_⟩) ?_ ?_
 rotate_left
 ·intro w'
  go_simp
  with_reducible rfl
 rotate_left
 ·exact mAe
 refine qY (i:=10) (N:=some 55) (v:=?_) (a':=?_) #[true,true,true,true,true,true,true,true,true,true,true,false] rfl rfl (qS HT_.out mDh) (fun _ _ _ h=>h) (Or.inl ⟨mD2,?_⟩) ?_ ?_
 rotate_left
 ·intro w'
  go_simp
  with_reducible rfl
 rotate_left
 ·exact mAe
 refine qAN (i:=11) (N:=none) #[true,true,true,true,true,true,true,true,true,true,true,true] rfl rfl (qq HT_.out mDh) mDl (fun K hK=>?_)
 refine zB mD2 37 (.tmp 55) (.tmp 53) rfl gx 20 (.slice A3 (l1 ++ [q1]).length c3) rfl rfl 43 _ (qH {zI with op:=o,l:=l1 ++ [q1]} (.slice A3 (l1 ++ [q1]).length c3) (.slice none 0 0) (.slice none 0 0) (.slice none 0 0)).toArray (show _=some (oX {zI with op:=o,l:=l1} (.slice A1 l1.length c1) (.slice none 0 0)) from S0.out.2.1) mEl qEh rfl (ze _ rfl _ _ _ _ _).1 ?_
 intro w6 hb hoth hsz hbel
 have n1_:=am (Kd.R_move RV.out (fun q hq=>hoth q mEg))
 have n0_:Aside0 (KX_ w0 W w6 g gx _ (oX {zI with op:=o,l:=l1 ++ [q1]} (.slice A3 (l1 ++ [q1]).length c3) (.slice none 0 0))):=⟨KX_.put S0.out hb hoth hsz hbel⟩
 clear S0 RV hb hoth hsz hbel
 have S0:=n0_
 have RV:=n1_
 clear n0_ n1_
 refine hK.out _ _ ?_
 clear hK K
 refine xI (zu HT_.out mDh) ?_
 try go_wp2
 exact⟨rfl,.tuple #[],by first|rfl|simp[results,Tryd.f50],_,_,rfl,S0.out,RV.out,Kd.R_nil _ _ _ _ _⟩
def yY (b:List Int):Nat→Nat→Int→Bool→List Int→List Int × Int × Bool
 | 0,_,at_,bad,v=>(v,at_,bad)
 | m+1,i,at_,bad,v=>yY b m (i+1) (q8 b at_ bad).2.1 (q8 b at_ bad).2.2 (v.set i (q8 b at_ bad).1)
theorem qCS (x:I)(i:Nat)(h:x.v.length=16)(hi:i<16)(q:Int)(vl vt vb ve:Value):(qH x vl vt vb ve).toArray.setIfInBounds (4+i) (.int .u8 q)=(qH {x with v:=x.v.set i q} vl vt vb ve).toArray:=by
 have hl:(zV (Value.int .u8) x.v).length=16:=by rw[q9];exact h
 have key:∀ tl:List Value,(Value.int .u16 x.op :: .int .u32 x.a :: .int .u32 x.b :: .int .u64 x.n::(zV (Value.int .u8) x.v++tl)).set (4+i) (.int .u8 q)=(Value.int .u16 x.op :: .int .u32 x.a :: .int .u32 x.b :: .int .u64 x.n::(zV (Value.int .u8) (x.v.set i q)++tl)):=by
  intro tl
  rw[show 4+i=i+1+1+1+1 by omega]
  simp only[List.set_cons_succ]
  rw[List.set_append_left _ _ mDj]
  have e:(zV (Value.int .u8) x.v).set i (.int .u8 q)=zV (Value.int .u8) (x.v.set i q):=by simp[zV,List.map_set]
  rw[e]
 simp only[List.setIfInBounds_toArray]
 exact congrArg _ (key _)
set_option maxRecDepth 100000 in
theorem qI8 (K k:Nat)(w0 W:World)(g gx:Nat)(A:Option Addr)(c:Nat)(b:List Int)(at_:Int)(bad:Bool)(o im:Int)(hh:HR w0 W g gx A c b at_ bad o)(him:im=19∨im=24):
 Calls Tryd.prog 50 #[.pointer (some ⟨g,0,none⟩),.int .u8 im,.pointer (some ⟨gx,0,none⟩)] W (yZ w0 W g gx A c b ({zI with op:=o,v:=(yY b 16 0 at_ bad zI.v).1},(yY b 16 0 at_ bad zI.v).2.1,(yY b 16 0 at_ bad zI.v).2.2)):=by
 obtain⟨hB,hg,hn,hC,hc,h0,hx,hnx,hne⟩:=hh
 have S0:Aside0 (KX_ w0 W W g gx (oRd A c b at_ bad) (oX {zI with op:=o,v:=zI.v} (.slice none 0 0) (.slice none 0 0))):=⟨hg,hx,⟨Nat.le_refl _,fun _ _ _ _=>rfl⟩,hB,qN hg,qN hx,hn,hnx,hne⟩
 obtain⟨r,hr⟩:=ey_ (yY b 16 0 at_ bad zI.v)
 have HC:=am (And.intro hC (And.intro hc hn))
 have H0:=am h0
 rw[hr]
 have HH:=am hr
 have H16:Aside0 (zI.v.length=16):=⟨rfl⟩
 clear hg hx hB hn hnx hne hC hc h0 hr
 rcases him with him|him
 all_goals
  have t2:=tst 2 him;have t4:=tst 4 him;have t6:=tst 6 him;have t7:=tst 7 him;have t8:=tst 8 him;have t10:=tst 10 him;have t12:=tst 12 him;have t13:=tst 13 him;have t5:=tst 5 him;have t9:=tst 9 him;have t11:=tst 11 him;have t3:=tst 3 him;have t14:=tst 14 him;have t15:=tst 15 him;have t16:=tst 16 him;have t17:=tst 17 him;have t18:=tst 18 him;have t19:=tst 19 him;have t24:=tst 24 him;have t20:=tst 20 him;have t22:=tst 22 him;have t21:=tst 21 him;have t23:=tst 23 him;have t25:=tst 25 him;have t26:=tst 26 him;clear him
  go_enter Tryd.func50,Tryd.ntmps50
  go_wp2
  go_loopg [108] 16 (fun kq v108 w'=>∃(i:Nat) (v:List Int) (at1:Int) (bad1:Bool),i+kq=16∧v108 = .int .i64 i∧Aside0 (yY b kq i at1 bad1 v=r)∧Aside0 (v.length=16)∧Aside0 (KX_ w0 W w' g gx (oRd A c b at1 bad1) (oX {zI with op:=o,v:=v} (.slice none 0 0) (.slice none 0 0)))∧Aside0 (0≤at1))
  case atStart=>exact⟨0,zI.v,at_,bad,rfl,rfl,HH,H16,S0,H0⟩
  case round =>
   clear S0 HH H0 H16
   obtain⟨i,v,at1,bad1,hi,rfl,HH,H16,S0,H0⟩:=hrel
   by_cases hlt:i<16
   ·obtain⟨k1,rfl⟩:∃ k1,gk=k1+1:=⟨gk - 1,mDj⟩
    have d1:decide ((i:Int)<16)=true:=decide_eq_true mDj
    have wi:wrap64 ((i:Int)+1)=((i+1:Nat):Int):=by unfold wrap64;omega
    have z1:(0:Int)≤(i:Int):=mDj
    have z2:(i:Int)<16:=mDj
    have hH:=HH.out
    rw[yY] at hH
    obtain⟨⟨q1,q2,q3⟩,hq⟩:∃ q,q8 b at1 bad1=q:=⟨_,rfl⟩
    have ON:=am (fun(W1:World) (ox:Obj) (h9:KX_ w0 W W1 g gx (oRd A c b at1 bad1) ox)=>jT w0 W1 g A c b at1 bad1 h9.bel h9.1 HC.out.2.2 HC.out.1 HC.out.2.1 H0.out)
    have hz:=xP (b:=b) (bad:=bad1) H0.out
    rw[hq] at ON hH hz
    have HH2:=am hH
    have HZ:=am hz
    have HI_:=am hlt
    clear hH HH hz hq H0 hlt
    go_wp2
    have n0_:=am (S0.out.below (qP (Below.refl _ _)))
    clear S0
    have S0:=n0_
    clear n0_
    refine jQ (n:=8) (S:=fun w'=>True) (ds:=[7]) #[false,false,false,false,false,false,false,false] mDh rfl rfl trivial (fun hHeld=>?_);refine zQ zZ.tab38 zZ.bits38 (fun HT_ HW_=>?_)
    generalize World.drew _=w2d at S0 hHeld ⊢
    refine qY (i:=0) (N:=some 111) (v:=?_) (a':=?_) #[true,false,false,false,false,false,false,false] rfl rfl (qS HT_.out mDh) (fun _ _ _ h=>h) (Or.inl ⟨mD2,?_⟩) ?_ ?_
    rotate_left
    ·intro w'
     go_simp
     with_reducible rfl
    rotate_left
    ·exact mAe
    refine qY (i:=1) (N:=some 112) (v:=?_) (a':=?_) #[true,true,false,false,false,false,false,false] rfl rfl (qS HT_.out mDh) (fun _ _ _ h=>h) (Or.inl ⟨mD2,?_⟩) ?_ ?_
    rotate_left
    ·intro w'
     go_simp
     with_reducible rfl
    rotate_left
    ·exact mAe
    refine qY (i:=2) (N:=some 113) (v:=?_) (a':=?_) #[true,true,true,false,false,false,false,false] rfl rfl (qS HT_.out mDh) (fun _ _ _ h=>h) (Or.inl ⟨mD2,?_⟩) ?_ ?_
    rotate_left
    ·intro w'
     go_simp
     with_reducible rfl
    rotate_left
    ·exact mAe
    refine qY (i:=4) (N:=some 115) (v:=?_) (a':=?_) #[true,true,true,false,true,false,false,false] rfl rfl (qS HT_.out mDh) (fun _ _ _ h=>h) (Or.inl ⟨mD2,?_⟩) ?_ ?_
    rotate_left
    ·intro w'
     go_simp
     with_reducible rfl
    rotate_left
    ·exact mAe
    refine qY (i:=5) (N:=some 116) (v:=?_) (a':=?_) #[true,true,true,false,true,true,false,false] rfl rfl (qS HT_.out mDh) (fun _ _ _ h=>h) (Or.inl ⟨mD2,?_⟩) ?_ ?_
    rotate_left
    ·intro w'
     go_simp
     with_reducible rfl
    rotate_left
    ·exact mAe
    refine jC (i:=3) (N:=some 114) #[true,true,true,true,true,true,false,false] rfl rfl (qq HT_.out mDh) mDl (fun K hK=>?_)
    refine yD Tryd.func63 mDh rfl #[.pointer (some ⟨g,0,none⟩)] mD2 rfl rfl mCs ?_
    refine(ON.out _ _ S0.out).mono ?_
    rintro e w3 ⟨rfl,hS⟩
    refine⟨_,rfl,?_⟩
    have n0_:=am (KX_.call S0.out hS.1 hS.2.1 hS.2.2.1)
    clear S0 hS
    have S0:=n0_
    clear n0_
    refine hK.out _ _ trivial (fun hHeld=>?_)
    clear hK K
    refine zJ (a':=?_) ?_ ?_
    rotate_left
    ·show Act.put _ (some 114) _=_
     exact mAe
    refine qY (i:=6) (N:=some 117) (v:=?_) (a':=?_) #[true,true,true,true,true,true,true,false] rfl rfl (qS HT_.out mDh) (fun _ _ _ h=>h) (Or.inl ⟨mD2,?_⟩) ?_ ?_
    rotate_left
    ·intro w'
     go_simp
     with_reducible rfl
    rotate_left
    ·exact mAe
    refine qAN (i:=7) (N:=none) #[true,true,true,true,true,true,true,true] rfl rfl (qq HT_.out mDh) mDl (fun K hK=>?_)
    refine zB mD2 5 (.tmp 117) (.tmp 114) rfl gx (4+i) (.int .u8 q1) rfl rfl 43 _ (qH {zI with op:=o,v:=v.set i q1} (.slice none 0 0) (.slice none 0 0) (.slice none 0 0) (.slice none 0 0)).toArray (show _=some (oX {zI with op:=o,v:=v} (.slice none 0 0) (.slice none 0 0)) from S0.out.2.1) (by rw[ye _ H16.out];have:=HI_.out;omega) qHV rfl (qCS _ _ H16.out HI_.out _ _ _ _ _) ?_
    intro w6 hb hoth hsz hbel
    have n0_:Aside0 (KX_ w0 W w6 g gx _ (oX {zI with op:=o,v:=v.set i q1} (.slice none 0 0) (.slice none 0 0))):=⟨KX_.put S0.out hb hoth hsz hbel⟩
    clear S0 hb hoth hsz hbel
    have S0:=n0_
    clear n0_
    refine hK.out _ _ ?_
    clear hK K
    refine xI (zu HT_.out mDh) ?_
    try go_wp2
    go_roundg k1
    case measure=>omega
    case rel=>exact⟨i+1,v.set i q1,q2,q3,mDj,by first|rfl|exact congrArg (Value.int .i64) wi|(rw[wi]),HH2,⟨by rw[List.length_set];exact H16.out⟩,S0,HZ⟩
   ·have d1:decide ((i:Int)<16)=false:=decide_eq_false mDj
    obtain rfl:gk=0:=mDj
    obtain rfl:(v,at1,bad1)=r:=HH.out
    go_wp2
    exact⟨rfl,.tuple #[],by first|rfl|simp[results,Tryd.f50],_,_,rfl,S0.out,Kd.R_nil _ _ _ _ _,Kd.R_nil _ _ _ _ _⟩
def yi (K k:Nat)(b:List Int)(at_:Int)(bad:Bool)(im o:Int):Option (I × Int × Bool):=
 if im=2∨im=4∨im=6∨im=7∨im=8∨im=10∨im=12 then (uF K b at_ bad).map fun r=>({zI with op:=o,a:=r.1},r.2.1,r.2.2)
 else if im=5∨im=9∨im=11 then (uF K b at_ bad).bind fun r=>(uF K b r.2.1 r.2.2).map fun q=>({zI with op:=o,a:=r.1,b:=q.1},q.2.1,q.2.2)
 else if im=3 then (uF K b at_ bad).bind fun r0=>(xx K b k r0.1 0 [] r0.2.1 r0.2.2).bind fun l=>(uF K b l.2.1 l.2.2).bind fun q=>if l.1.length<1000000000000 then some ({zI with op:=o,l:=l.1 ++ [q.1]},q.2.1,q.2.2) else none
 else if im=15 then (if 0≤(zY b at_ bad).1 then some (zop o,(zY b (zY b at_ bad).1 (zY b at_ bad).2).1,(zY b (zY b at_ bad).1 (zY b at_ bad).2).2) else none)
 else if im=14 then some (zop o,(zY b at_ bad).1,(zY b at_ bad).2)
 else if im=13 then (uF K b at_ bad).bind fun r=>if 0≤r.2.1 then some ({zI with op:=o,a:=r.1},(zY b r.2.1 r.2.2).1,(zY b r.2.1 r.2.2).2) else none
 else if im=16 then (uF K b at_ bad).bind fun r=>(uF K b r.2.1 r.2.2).map fun q=>({zI with op:=o,a:=r.1,n:=IntKind.u64.wrap q.1},q.2.1,q.2.2)
 else if im=17 then (uF K b at_ bad).bind fun r=>(uF K b r.2.1 r.2.2).bind fun q=>if 0≤q.2.1 then some ({zI with op:=o,a:=r.1,b:=IntKind.u32.wrap (q8 b q.2.1 q.2.2).1,n:=IntKind.u64.wrap q.1},(q8 b q.2.1 q.2.2).2.1,(q8 b q.2.1 q.2.2).2.2) else none
 else if im=18 then some ({zI with op:=o,b:=IntKind.u32.wrap (q8 b at_ bad).1},(q8 b at_ bad).2.1,(q8 b at_ bad).2.2)
 else if im=19∨im=24 then some ({zI with op:=o,v:=(yY b 16 0 at_ bad zI.v).1},(yY b 16 0 at_ bad zI.v).2.1,(yY b 16 0 at_ bad zI.v).2.2)
 else if im=20 then (sF K b at_ 32 bad).map fun r=>({zI with op:=o,n:=r.1 % 4294967296},r.2.1,r.2.2)
 else if im=21 then (sF K b at_ 64 bad).map fun r=>({zI with op:=o,n:=IntKind.u64.wrap r.1},r.2.1,r.2.2)
 else if im=22 then some ({zI with op:=o,n:=(xH b 4 0 0 at_ bad).1},(xH b 4 0 0 at_ bad).2.1,(xH b 4 0 0 at_ bad).2.2)
 else if im=23 then some ({zI with op:=o,n:=(xH b 8 0 0 at_ bad).1},(xH b 8 0 0 at_ bad).2.1,(xH b 8 0 0 at_ bad).2.2)
 else if im=25 then some ({zI with op:=o,t:=[(qAE b at_ bad).1]},(qAE b at_ bad).2.1,(qAE b at_ bad).2.2 || !qAf (qAE b at_ bad).1)
 else if im=26 then (uF K b at_ bad).bind fun r0=>if 0≤r0.2.1 then (xw K b k r0.1 0 [] r0.2.1 r0.2.2).map fun r=>({zI with op:=o,t:=r.1},r.2.1,r.2.2) else none
 else some (zop o,at_,bad)
theorem qEs (K k:Nat)(w0 W:World)(g gx:Nat)(A:Option Addr)(c:Nat)(b:List Int)(at_:Int)(bad:Bool)(o im:Int)(hB:Below w0.heap.size w0 W)(hg:W.heap[g]? = some (oRd A c b at_ bad))(hn:w0.heap.size≤g)(hC:(Kd.int .u8).C w0 A b.length b)(hc:b.length≤c)(h0:0≤at_)(hx:W.heap[gx]? = some (oX (zop o) (.slice none 0 0) (.slice none 0 0)))(hnx:w0.heap.size≤gx)(hne:g≠gx)(r:I × Int × Bool)(h:yi K k b at_ bad im o=some r)(him:im≠1):
 Calls Tryd.prog 50 #[.pointer (some ⟨g,0,none⟩),.int .u8 im,.pointer (some ⟨gx,0,none⟩)] W (yZ w0 W g gx A c b r):=by
 unfold yi at h
 by_cases c_A:im=2∨im=4∨im=6∨im=7∨im=8∨im=10∨im=12
 ·rw[if_pos c_A] at h
  obtain⟨⟨r1,r2,r3⟩,hr,h⟩:=Option.map_eq_some_iff.1 h
  subst h
  exact qJJ K k w0 W g gx A c b at_ bad o im ⟨hB,hg,hn,hC,hc,h0,hx,hnx,hne⟩ c_A r1 r2 r3 hr
 rw[if_neg c_A] at h
 by_cases c_AB:im=5∨im=9∨im=11
 ·rw[if_pos c_AB] at h
  obtain⟨⟨r1,r2,r3⟩,hr,h⟩:=Option.bind_eq_some_iff.1 h
  obtain⟨⟨q1,q2,q3⟩,hq,h⟩:=Option.map_eq_some_iff.1 h
  subst h
  exact qIZ K k w0 W g gx A c b at_ bad o im ⟨hB,hg,hn,hC,hc,h0,hx,hnx,hne⟩ c_AB r1 r2 r3 hr q1 q2 q3 hq
 rw[if_neg c_AB] at h
 by_cases c_L:im=3
 ·rw[if_pos c_L] at h
  obtain⟨r0,hu,h⟩:=Option.bind_eq_some_iff.1 h
  obtain⟨⟨l1,l2,l3⟩,hr,h⟩:=Option.bind_eq_some_iff.1 h
  obtain⟨⟨q1,q2,q3⟩,hq,h⟩:=Option.bind_eq_some_iff.1 h
  by_cases hl:l1.length<1000000000000
  ·rw[if_pos hl] at h
   obtain rfl:=Option.some.inj h
   exact qJh K k w0 W g gx A c b at_ bad o im ⟨hB,hg,hn,hC,hc,h0,hx,hnx,hne⟩ c_L r0 l1 l2 l3 q1 q2 q3 hu hr hq hl
  ·rw[if_neg hl] at h
   cases h
 rw[if_neg c_L] at h
 by_cases c_M2:im=15
 ·rw[if_pos c_M2] at h
  by_cases hz:0≤(zY b at_ bad).1
  ·rw[if_pos hz] at h
   obtain rfl:=Option.some.inj h
   exact qIH K k w0 W g gx A c b at_ bad o im ⟨hB,hg,hn,hC,hc,h0,hx,hnx,hne⟩ c_M2 hz
  ·rw[if_neg hz] at h
   cases h
 rw[if_neg c_M2] at h
 by_cases c_M1:im=14
 ·rw[if_pos c_M1] at h
  obtain rfl:=Option.some.inj h
  exact qH8 K k w0 W g gx A c b at_ bad o im ⟨hB,hg,hn,hC,hc,h0,hx,hnx,hne⟩ c_M1
 rw[if_neg c_M1] at h
 by_cases c_DM:im=13
 ·rw[if_pos c_DM] at h
  obtain⟨⟨r1,r2,r3⟩,hr,h⟩:=Option.bind_eq_some_iff.1 h
  by_cases hz:0≤r2
  ·rw[if_pos hz] at h
   obtain rfl:=Option.some.inj h
   exact qIu K k w0 W g gx A c b at_ bad o im ⟨hB,hg,hn,hC,hc,h0,hx,hnx,hne⟩ c_DM r1 r2 r3 hr hz
  ·rw[if_neg hz] at h
   cases h
 rw[if_neg c_DM] at h
 by_cases c_P:im=16
 ·rw[if_pos c_P] at h
  obtain⟨⟨r1,r2,r3⟩,hr,h⟩:=Option.bind_eq_some_iff.1 h
  obtain⟨⟨q1,q2,q3⟩,hq,h⟩:=Option.map_eq_some_iff.1 h
  subst h
  exact qJk K k w0 W g gx A c b at_ bad o im ⟨hB,hg,hn,hC,hc,h0,hx,hnx,hne⟩ c_P r1 r2 r3 hr q1 q2 q3 hq
 rw[if_neg c_P] at h
 by_cases c_PL:im=17
 ·rw[if_pos c_PL] at h
  obtain⟨⟨r1,r2,r3⟩,hr,h⟩:=Option.bind_eq_some_iff.1 h
  obtain⟨⟨q1,q2,q3⟩,hq,h⟩:=Option.bind_eq_some_iff.1 h
  by_cases hz:0≤q2
  ·rw[if_pos hz] at h
   obtain rfl:=Option.some.inj h
   exact qIK K k w0 W g gx A c b at_ bad o im ⟨hB,hg,hn,hC,hc,h0,hx,hnx,hne⟩ c_PL r1 r2 r3 hr q1 q2 q3 hq hz _ _ _ rfl
  ·rw[if_neg hz] at h
   cases h
 rw[if_neg c_PL] at h
 by_cases c_B:im=18
 ·rw[if_pos c_B] at h
  obtain rfl:=Option.some.inj h
  exact qI5 K k w0 W g gx A c b at_ bad o im ⟨hB,hg,hn,hC,hc,h0,hx,hnx,hne⟩ c_B _ _ _ rfl
 rw[if_neg c_B] at h
 by_cases c_V:im=19∨im=24
 ·rw[if_pos c_V] at h
  obtain rfl:=Option.some.inj h
  exact qI8 K k w0 W g gx A c b at_ bad o im ⟨hB,hg,hn,hC,hc,h0,hx,hnx,hne⟩ c_V
 rw[if_neg c_V] at h
 by_cases c_I32:im=20
 ·rw[if_pos c_I32] at h
  obtain⟨⟨r1,r2,r3⟩,hr,h⟩:=Option.map_eq_some_iff.1 h
  subst h
  exact qHm K k w0 W g gx A c b at_ bad o im ⟨hB,hg,hn,hC,hc,h0,hx,hnx,hne⟩ c_I32 r1 r2 r3 hr
 rw[if_neg c_I32] at h
 by_cases c_I64:im=21
 ·rw[if_pos c_I64] at h
  obtain⟨⟨r1,r2,r3⟩,hr,h⟩:=Option.map_eq_some_iff.1 h
  subst h
  exact qG8 K k w0 W g gx A c b at_ bad o im ⟨hB,hg,hn,hC,hc,h0,hx,hnx,hne⟩ c_I64 r1 r2 r3 hr
 rw[if_neg c_I64] at h
 by_cases c_F32:im=22
 ·rw[if_pos c_F32] at h
  obtain rfl:=Option.some.inj h
  exact qHB K k w0 W g gx A c b at_ bad o im ⟨hB,hg,hn,hC,hc,h0,hx,hnx,hne⟩ c_F32
 rw[if_neg c_F32] at h
 by_cases c_F64:im=23
 ·rw[if_pos c_F64] at h
  obtain rfl:=Option.some.inj h
  exact qHH K k w0 W g gx A c b at_ bad o im ⟨hB,hg,hn,hC,hc,h0,hx,hnx,hne⟩ c_F64
 rw[if_neg c_F64] at h
 by_cases c_R:im=25
 ·rw[if_pos c_R] at h
  obtain rfl:=Option.some.inj h
  exact qJc K k w0 W g gx A c b at_ bad o im ⟨hB,hg,hn,hC,hc,h0,hx,hnx,hne⟩ c_R _ _ _ rfl
 rw[if_neg c_R] at h
 by_cases c_T:im=26
 ·rw[if_pos c_T] at h
  obtain⟨r0,hu,h⟩:=Option.bind_eq_some_iff.1 h
  by_cases hz:0≤r0.2.1
  ·rw[if_pos hz] at h
   obtain⟨r,hr,h⟩:=Option.map_eq_some_iff.1 h
   subst h
   exact qJC K k w0 W g gx A c b at_ bad o im ⟨hB,hg,hn,hC,hc,h0,hx,hnx,hne⟩ c_T r0 r hu hz hr
  ·rw[if_neg hz] at h
   cases h
 rw[if_neg c_T] at h
 obtain rfl:=Option.some.inj h
 refine qI6 K k w0 W g gx A c b at_ bad o im ⟨hB,hg,hn,hC,hc,h0,hx,hnx,hne⟩ ?_
 intro q hq
 simp only[List.mem_cons,List.not_mem_nil,or_false] at hq
 rcases hq with rfl|rfl|rfl|rfl|rfl|rfl|rfl|rfl|rfl|rfl|rfl|rfl|rfl|rfl|rfl|rfl|rfl|rfl|rfl|rfl|rfl|rfl|rfl|rfl|rfl <;> omega
def zT (K kl:Nat)(b:List Int):Nat→List O_→Int→Int→Bool→Option (Option (List I × Int × Int × Bool))
 | 0,_,_,_,_=>none
 | _+1,[],_,_,_=>none
 | k+1,o::os,at_,d,ds =>
   if at_<b.length then (if os.length<1000000000∧o.l.length<1000000000 then
    (if rd b at_=11 then
     (match os with
     | []=>some (some (o.l,at_+1,d,ds))
     | p::ps=>if p.l.length<1000000000 then zT K kl b k (⟨p.x,p.l ++ [qv o],p.e⟩::ps) (at_+1) d ds else none)
    else if rd b at_=5∧o.x.op=4∧o.e=false then zT K kl b k (⟨{o.x with body:=o.l},[],true⟩::os) (at_+1) d ds
    else (opG K b at_ false).bind fun r=>if 0≤r.2.2.1 then (if r.2.1=1 then
     (y6 K b r.2.2.1 r.2.2.2).bind fun q=>if q.2.2.2.2=true then some none else if 0≤q.2.2.2.1 then zT K kl b k (⟨bkI r.1 q.1 q.2.1 q.2.2.1,[],false⟩::o::os) q.2.2.2.1 (max d (os.length+1)) ds else none
     else (yi K kl b r.2.2.1 r.2.2.2 r.2.1 r.1).bind fun q=>if q.2.2=true then some none else if 0≤q.2.1 then zT K kl b k (⟨o.x,o.l ++ [q.1],o.e⟩::os) q.2.1 d (ds || (r.2.1==12 || r.2.1==13)) else none) else none) else none)
   else some none
theorem zm (K kl:Nat)(b:List Int)(k:Nat)(o:O_)(os:List O_)(at_ d:Int)(ds:Bool):zT K kl b (k+1) (o::os) at_ d ds =
 (if at_<b.length then (if os.length<1000000000∧o.l.length<1000000000 then
  (if rd b at_=11 then
   (match os with
   | []=>some (some (o.l,at_+1,d,ds))
   | p::ps=>if p.l.length<1000000000 then zT K kl b k (⟨p.x,p.l ++ [qv o],p.e⟩::ps) (at_+1) d ds else none)
  else if rd b at_=5∧o.x.op=4∧o.e=false then zT K kl b k (⟨{o.x with body:=o.l},[],true⟩::os) (at_+1) d ds
  else (opG K b at_ false).bind fun r=>if 0≤r.2.2.1 then (if r.2.1=1 then
   (y6 K b r.2.2.1 r.2.2.2).bind fun q=>if q.2.2.2.2=true then some none else if 0≤q.2.2.2.1 then zT K kl b k (⟨bkI r.1 q.1 q.2.1 q.2.2.1,[],false⟩::o::os) q.2.2.2.1 (max d (os.length+1)) ds else none
   else (yi K kl b r.2.2.1 r.2.2.2 r.2.1 r.1).bind fun q=>if q.2.2=true then some none else if 0≤q.2.1 then zT K kl b k (⟨o.x,o.l ++ [q.1],o.e⟩::os) q.2.1 d (ds || (r.2.1==12 || r.2.1==13)) else none) else none) else none)
 else some none):=rfl
theorem qCl {K kl:Nat}{b:List Int}{k:Nat}{o:O_}{os:List O_}{at_ d:Int}{ds:Bool}{r:Option (List I × Int × Int × Bool)}(h:zT K kl b (k+1) (o::os) at_ d ds=some r):
 (¬ at_<b.length∧r=none)∨(at_<b.length∧os.length<1000000000∧o.l.length<1000000000 ∧
  ((rd b at_=11∧os = []∧r=some (o.l,at_+1,d,ds))∨
   (rd b at_=11∧∃ p ps,os=p::ps∧p.l.length<1000000000∧zT K kl b k (⟨p.x,p.l ++ [qv o],p.e⟩::ps) (at_+1) d ds=some r)∨
   (rd b at_=5∧o.x.op=4∧o.e=false∧zT K kl b k (⟨{o.x with body:=o.l},[],true⟩::os) (at_+1) d ds=some r)∨
   (rd b at_≠11∧¬(rd b at_=5∧o.x.op=4∧o.e=false)∧∃ o1 im a1 b1,opG K b at_ false=some (o1,im,a1,b1)∧0≤a1 ∧
    ((im=1∧∃ q1 q2 q3 a2 b2,y6 K b a1 b1=some (q1,q2,q3,a2,b2)∧((b2=true∧r=none)∨(b2=false∧0≤a2∧zT K kl b k (⟨bkI o1 q1 q2 q3,[],false⟩::o::os) a2 (max d (os.length+1)) ds=some r)))∨
     (im≠1∧∃ x a2 b2,yi K kl b a1 b1 im o1=some (x,a2,b2)∧((b2=true∧r=none)∨(b2=false∧0≤a2∧zT K kl b k (⟨o.x,o.l ++ [x],o.e⟩::os) a2 d (ds || (im==12 || im==13))=some r))))))):=by
 rw[zm] at h
 by_cases hlt:at_<b.length
 ·rw[if_pos hlt] at h
  by_cases hs:os.length<1000000000∧o.l.length<1000000000
  ·rw[if_pos hs] at h
   refine .inr ⟨hlt,hs.1,hs.2,?_⟩
   by_cases h11:rd b at_=11
   ·rw[if_pos h11] at h
    cases os with
    | nil=>exact .inl ⟨h11,rfl,(Option.some.inj h).symm⟩
    | cons p ps =>
      simp only at h
      by_cases hp:p.l.length<1000000000
      ·rw[if_pos hp] at h
       exact .inr (.inl ⟨h11,p,ps,rfl,hp,h⟩)
      ·rw[if_neg hp] at h
       cases h
   ·rw[if_neg h11] at h
    by_cases h5:rd b at_=5∧o.x.op=4∧o.e=false
    ·rw[if_pos h5] at h
     exact .inr (.inr (.inl ⟨h5.1,h5.2.1,h5.2.2,h⟩))
    ·rw[if_neg h5] at h
     obtain⟨⟨o1,im,a1,b1⟩,hop,h⟩:=Option.bind_eq_some_iff.1 h
     simp only at h
     by_cases ha:0≤a1
     ·rw[if_pos ha] at h
      refine .inr (.inr (.inr ⟨h11,h5,o1,im,a1,b1,hop,ha,?_⟩))
      by_cases him:im=1
      ·rw[if_pos him] at h
       obtain⟨⟨q1,q2,q3,a2,b2⟩,hq,h⟩:=Option.bind_eq_some_iff.1 h
       simp only at h
       refine .inl ⟨him,q1,q2,q3,a2,b2,hq,?_⟩
       exact mBx
      ·rw[if_neg him] at h
       obtain⟨⟨x,a2,b2⟩,hq,h⟩:=Option.bind_eq_some_iff.1 h
       simp only at h
       refine .inr ⟨him,x,a2,b2,hq,?_⟩
       exact mBx
     ·rw[if_neg ha] at h
      cases h
  ·rw[if_neg hs] at h
   cases h
 ·rw[if_neg hlt] at h
  exact .inl ⟨hlt,(Option.some.inj h).symm⟩
theorem qB7 {W W1:World}{base:Nat}{x:I}{cs:List Value}{ok ok':Nat→Prop}(h:kI.M W base ok x cs)
 (hm:∀ k,ok k→base≤k→k<W.heap.size→TyI W k→W1.heap[k]? = W.heap[k]?∧ok' k):kI.M W1 base ok' x cs:=by
 have hb:=kI.M_bound h
 have ty:∀ k,(∃ q,q ∈ kI.E∧∃ cells:Array Value,W.heap[k]? = some (Obj.cells cells q (0,0)))→TyI W k:=by
  rintro k ⟨q,hq,hc⟩
  exact⟨q,List.mem_cons_of_mem _ hq,hc⟩
 exact kI.M_mono (fun k hk=>(hm k hk.1 hk.2.1 hk.2.2.1 (ty k hk.2.2.2)).2) (kI.M_move (fun k hk=>(hm k hk.1 hk.2.1 hk.2.2.1 (ty k hk.2.2.2)).1) hb)
structure CX (w W:World) (gg gr gs:Nat) (A:Option Addr) (c:Nat) (b:List Int) (at_:Int) (bad:Bool) (d:Int) (ds:Bool) (n cap:Nat) (css:List (List Value)) (own:Nat→Nat) (p:O_) (ps:List O_) (cs0:List (List Value)) (x:I) (vl vt vbp vp:Value) (lp:List I) (loc:List Nat):Prop where
 got:W.heap[gg]? = some (qBO (.slice none 0 0) 0 d ds)
 rd:W.heap[gr]? = some (oRd A c b at_ bad)
 raw:y8.R 89 W w.heap.size (fun _=>True) (.slice (some ⟨gs,0,none⟩) n cap) css
 stk:qCb W w.heap.size own ps cs0
 rbp:kI.R 43 W w.heap.size (fun k=>own k=2*ps.length) vbp p.x.body
 rp:kI.R 43 W w.heap.size (fun k=>own k=2*ps.length+1∨own k=2*ps.length+2∨own k=2*ps.length+3) vp lp
 hp:∀ k,vp.ownBlock=some k→own k=2*ps.length+1
 xm:kI.M W w.heap.size (fun k=>own k=2*ps.length+2) x (qH x vl vt (.slice none 0 0) (.slice none 0 0))
 bel:Below w.heap.size w W
 loc:∀ g,g ∈ loc→2*ps.length+4≤own g∧g≠gg∧g≠gr∧g≠gs∧w.heap.size≤g∧g<W.heap.size
section
variable {w W W1:World} {gg gr gs:Nat} {A:Option Addr} {c:Nat} {b:List Int} {at_:Int} {bad:Bool} {d:Int} {ds:Bool} {n cap:Nat} {css:List (List Value)} {own:Nat→Nat} {p:O_} {ps:List O_} {cs0:List (List Value)} {x:I} {vl vt vbp vp:Value} {lp:List I} {loc:List Nat}
theorem CX.gsb (h:CX w W gg gr gs A c b at_ bad d ds n cap css own p ps cs0 x vl vt vbp vp lp loc):∃ cells,W.heap[gs]? = some (.cells cells 89 (0,0)):=by
 obtain⟨inner,ho⟩:=Kd.R_own h.raw
 exact zl ho gs mEb
theorem CX.step (h:CX w W gg gr gs A c b at_ bad d ds n cap css own p ps cs0 x vl vt vbp vp lp loc)(hm:∀ k,k<W.heap.size→(k=gg∨k=gr∨k=gs∨(own k<2*ps.length+4∧TyI W k))→W1.heap[k]? = W.heap[k]?)(hb:Below w.heap.size w W1)(hs:W.heap.size≤W1.heap.size):CX w W1 gg gr gs A c b at_ bad d ds n cap css own p ps cs0 x vl vt vbp vp lp loc:=by
 obtain⟨cells,hc⟩:=h.gsb
 exact⟨(hm gg (qN h.got) (.inl rfl)).trans h.got,(hm gr (qN h.rd) (.inr (.inl rfl))).trans h.rd,
  ji h.raw (fun k hk=>by (obtain rfl:gs=k:=by simpa [Value.ownBlock] using hk);exact hm gs (qN hc) (.inr (.inr (.inl rfl)))),
  h.stk.move (fun k h1 _ h3 h4=>⟨hm k h3 (.inr (.inr (.inr ⟨mDj,h4⟩))),rfl⟩),
  zS h.rbp (fun k h1 _ h3 h4=>⟨hm k h3 (.inr (.inr (.inr ⟨mDj,h4⟩))),h1⟩),
  zS h.rp (fun k h1 _ h3 h4=>⟨hm k h3 (.inr (.inr (.inr ⟨mDj,h4⟩))),h1⟩),h.hp,
  qB7 h.xm (fun k h1 _ h3 h4=>⟨hm k h3 (.inr (.inr (.inr ⟨mDj,h4⟩))),h1⟩),hb,
  fun g hg=>by have h1:=h.loc g hg;exact⟨h1.1,h1.2.1,h1.2.2.1,h1.2.2.2.1,h1.2.2.2.2.1,mDj⟩⟩
theorem CX.below (h:CX w W gg gr gs A c b at_ bad d ds n cap css own p ps cs0 x vl vt vbp vp lp loc)(hb:Below W.heap.size W W1):CX w W1 gg gr gs A c b at_ bad d ds n cap css own p ps cs0 x vl vt vbp vp lp loc:=
 h.step (fun k hk _=>hb.block k hk) (qB h.bel hb) hb.size
theorem CX.mark (h:CX w W gg gr gs A c b at_ bad d ds n cap css own p ps cs0 x vl vt vbp vp lp loc){own':Nat→Nat}{loc':List Nat}(hm:∀ k,k<W.heap.size→own' k=own k)(hl:∀ g,g ∈ loc'→2*ps.length+4≤own' g∧g≠gg∧g≠gr∧g≠gs∧w.heap.size≤g∧g<W.heap.size):CX w W gg gr gs A c b at_ bad d ds n cap css own' p ps cs0 x vl vt vbp vp lp loc':=
 ⟨h.got,h.rd,h.raw,h.stk.move (fun k h1 _ h3 h4=>⟨rfl,hm k h3⟩),
  zS h.rbp (fun k h1 _ h3 h4=>⟨rfl,by rw[hm k h3];exact h1⟩),zS h.rp (fun k h1 _ h3 h4=>⟨rfl,by rw[hm k h3];exact h1⟩),
  fun k hk=>by rw[hm k (Kd.R_lt h.rp k hk)];exact h.hp k hk,
  qB7 h.xm (fun k h1 _ h3 h4=>⟨rfl,by rw[hm k h3];exact h1⟩),h.bel,hl⟩
theorem CX.alloc (h:CX w W gg gr gs A c b at_ bad d ds n cap css own p ps cs0 x vl vt vbp vp lp loc)(hb:Below W.heap.size W W1){g:Nat}(hg:g=W.heap.size)(hlt:g<W1.heap.size):∃ own',CX w W1 gg gr gs A c b at_ bad d ds n cap css own' p ps cs0 x vl vt vbp vp lp (g::loc):=by
 obtain⟨cells,hc⟩:=h.gsb
 have k1:=qN h.got
 have k2:=qN h.rd
 have k3:=qN hc
 have h0:=h.mark (own':=fun k=>if W.heap.size≤k then 2*ps.length+4 else own k) (loc':=loc) (fun k hk=>if_neg mDj) (fun g' hg'=>by have h1:=h.loc g' hg';exact⟨by show 2*ps.length+4≤(if _ then _ else _);rw[if_neg mDj];exact h1.1,h1.2⟩)
 have h1:=h0.below hb
 refine⟨_,h1.got,h1.rd,h1.raw,h1.stk,h1.rbp,h1.rp,h1.hp,h1.xm,h1.bel,fun k hk=>?_⟩
 exact mBw
theorem CX.store (h:CX w W gg gr gs A c b at_ bad d ds n cap css own p ps cs0 x vl vt vbp vp lp loc){g:Nat}(hg:g ∈ loc)(ho:∀ k,k≠g→W1.heap[k]? = W.heap[k]?)(hs:W1.heap.size=W.heap.size)(hbel:∀ B (w0:World),B≤g→Below B w0 W→Below B w0 W1):CX w W1 gg gr gs A c b at_ bad d ds n cap css own p ps cs0 x vl vt vbp vp lp loc:=by
 exact mBt
theorem CX.fresh (h:CX w W gg gr gs A c b at_ bad d ds n cap css own p ps cs0 x vl vt vbp vp lp loc):∃ own',CX w W gg gr gs A c b at_ bad d ds n cap css own' p ps cs0 x vl vt vbp vp lp loc∧∀ k,W.heap.size≤k→own' k=2*ps.length+1:=
 ⟨fun k=>if W.heap.size≤k then 2*ps.length+1 else own k,h.mark (fun k hk=>if_neg mDj) (fun g hg=>by have h1:=h.loc g hg;exact⟨by show 2*ps.length+4≤(if _ then _ else _);rw[if_neg mDj];exact h1.1,h1.2⟩),fun k hk=>if_pos hk⟩
theorem CX.grow (h:CX w W gg gr gs A c b at_ bad d ds n cap css own p ps cs0 x vl vt vbp vp lp loc)(hf:∀ k,W.heap.size≤k→own k=2*ps.length+1){v1:Value}{l1:List I}(hr:kI.R 43 W1 w.heap.size (fun k=>own k=2*ps.length+1∨own k=2*ps.length+2∨own k=2*ps.length+3) v1 l1)(hb:Below w.heap.size w W1)(hg:W.grownBy W1 vp.ownBlock)(hat:v1.ownBlock=vp.ownBlock∨∃ k,v1.ownBlock=some k∧W.heap.size≤k):CX w W1 gg gr gs A c b at_ bad d ds n cap css own p ps cs0 x vl vt vbp v1 l1 loc:=by
 obtain⟨cells,hc⟩:=h.gsb
 obtain⟨inner,ho⟩:=Kd.R_own h.rp
 have hne:∀(g:Nat) (cs:Array Value) (t:TypeId),W.heap[g]? = some (.cells cs t (0,0))→t≠43→some g≠vp.ownBlock:=by
  intro g cs t hg1 ht he
  exact mCa
 have hk:∀ k,own k≠2*ps.length+1→k<W.heap.size→W1.heap[k]? = W.heap[k]?:=fun k h1 h2=>hg.block k h2 (fun he=>h1 (h.hp k he.symm))
 refine⟨(hg.block gg (qN h.got) (hne gg _ 65 h.got mDl)).trans h.got,(hg.block gr (qN h.rd) (hne gr _ 87 h.rd mDl)).trans h.rd,
  ji h.raw (fun k hk1=>by (obtain rfl:gs=k:=by simpa [Value.ownBlock] using hk1);exact hg.block gs (qN hc) (hne gs _ 89 hc mDl)),
  h.stk.move (fun k h1 _ h3 h4=>⟨hk k mDj h3,rfl⟩),
  zS h.rbp (fun k h1 _ h3 h4=>⟨hk k mDj h3,h1⟩),hr,?_,
  qB7 h.xm (fun k h1 _ h3 h4=>⟨hk k mDj h3,h1⟩),hb,fun g hg1=>?_⟩
 ·exact mB8
 ·have h1:=h.loc g hg1
  exact⟨h1.1,h1.2.1,h1.2.2.1,h1.2.2.2.1,h1.2.2.2.2.1,by have:=hg.size;omega⟩
theorem CX.put {gv n2 cv:Nat}{l:List I}{y:I}(h:CX w W gg gr gs A c b at_ bad d ds n cap css own p ps cs0 x vl vt vbp (.slice (some ⟨gv,0,none⟩) n2 cv) (l ++ [y]) loc)(h16:x.v.length=16):
 W.there gv (l.length*27) (qH x vl vt (.slice none 0 0) (.slice none 0 0)).toArray.size∧CX w (W.setCells gv (l.length*27) (qH x vl vt (.slice none 0 0) (.slice none 0 0)).toArray.toList) gg gr gs A c b at_ bad d ds n cap css own p ps cs0 x vl vt vbp (.slice (some ⟨gv,0,none⟩) n2 cv) (l ++ [x]) loc:=by
 have hgv:own gv=2*ps.length+1:=h.hp gv mEb
 obtain⟨h1,h2⟩:=qGK h.rp h.xm (fun k hk=>⟨mDj,fun e=>by rw[e] at hk;omega⟩) h16
 obtain⟨inner,ho⟩:=Kd.R_own h.rp
 obtain⟨cv',hcv⟩:=zl ho gv mEb
 obtain⟨cells,hc⟩:=h.gsb
 obtain⟨q1,q2,q3,q4⟩:=jr (qH x vl vt (.slice none 0 0) (.slice none 0 0)) (l.length*27) W cv' hcv
 have hbase:w.heap.size≤gv:=xY ho gv mEb
 have hne:∀(g:Nat) (cs:Array Value) (t:TypeId),W.heap[g]? = some (.cells cs t (0,0))→t≠43→g≠gv:=by
  rintro g cs t hg1 ht rfl
  rw[hg1] at hcv
  simp only[Option.some.injEq,Obj.cells.injEq] at hcv
  exact ht hcv.2.1
 refine⟨h1,(q2 gg (hne gg _ 65 h.got mDl)).trans h.got,(q2 gr (hne gr _ 87 h.rd mDl)).trans h.rd,
  ji h.raw (fun k hk1=>by (obtain rfl:gs=k:=by simpa [Value.ownBlock] using hk1);exact q2 gs (hne gs _ 89 hc mDl)),
  h.stk.move (fun k h1 _ h3 h4=>⟨q2 k mEh,rfl⟩),
  zS h.rbp (fun k h1 _ h3 h4=>⟨q2 k mEh,h1⟩),h2,h.hp,
  qB7 h.xm (fun k h1 _ h3 h4=>⟨q2 k mEh,h1⟩),q4 _ _ hbase h.bel,fun g hg1=>by rw[q3];exact h.loc g hg1⟩
theorem CX.top (h:CX w W gg gr gs A c b at_ bad d ds n cap css own p ps cs0 x vl vt vbp vp lp loc){m j:Nat}{co:List Value}(hm:css[m]? = some co)(hj:j<29){u:Value}(hu:u.oneCell'=true){cells:Array Value}(hb:W.heap[gs]? = some (.cells cells 89 (0,0)))
 (h1:W1.heap[gs]? = some (.cells (cells.setIfInBounds (m*29+j) u) 89 (0,0)))(ho:∀ k,k≠gs→W1.heap[k]? = W.heap[k]?)(hs:W1.heap.size=W.heap.size)(hbel:∀ B (w0:World),B≤gs→Below B w0 W→Below B w0 W1):CX w W1 gg gr gs A c b at_ bad d ds n cap (css.set m (co.set j u)) own p ps cs0 x vl vt vbp vp lp loc:=by
 have hbase:w.heap.size≤gs:=Kd.R_base h.raw gs mEb
 have hk:∀ k,TyI W k→W1.heap[k]? = W.heap[k]?:=fun k ht=>ho k (ht.ne hb mDl)
 refine⟨(ho gg ?_).trans h.got,(ho gr ?_).trans h.rd,qAw h.raw hm hj hu hb h1,h.stk.move (fun k _ _ _ h4=>⟨hk k h4,rfl⟩),zS h.rbp (fun k h1 _ h3 h4=>⟨hk k h4,h1⟩),zS h.rp (fun k h1 _ h3 h4=>⟨hk k h4,h1⟩),h.hp,
  qB7 h.xm (fun k h1 _ h3 h4=>⟨hk k h4,h1⟩),hbel _ _ hbase h.bel,fun g hg=>by rw[hs];exact h.loc g hg⟩
 ·rintro rfl
  have h9:=h.got
  rw[hb] at h9
  simp[qBO] at h9
 ·rintro rfl
  have h9:=h.rd
  rw[hb] at h9
  simp[oRd] at h9
theorem CX.done (h:CX w W gg gr gs A c b at_ bad d ds n cap css own p ps cs0 x vl vt vbp vp lp loc)(h16:p.x.v.length=16)(hl:p.x.l = [])(ht:p.x.t = [])(hels:p.x.els = [])(hcss:css=cs0 ++ [qy p.x (.slice none 0 0) (.slice none 0 0) vbp (.slice none 0 0) vp p.e]):
 ∃ own',PG w W gg gr A c b (.slice (some ⟨gs,0,none⟩) n cap) css at_ bad d ds own' (⟨p.x,lp,p.e⟩::ps) []:=by
 refine⟨fun k=>if own k=2*ps.length+2∨own k=2*ps.length+3 then 2*ps.length+1 else own k,h.got,h.rd,h.raw,⟨cs0,_,hcss,⟨vbp,vp,rfl,h16,hl,ht,hels,?_,?_⟩,?_⟩,h.bel,fun g hg=>by cases hg⟩
 ·exact Kd.R_mono h.rbp (fun k hk=>by show(if _ then _ else _)=_;rw[if_neg mDj];exact hk)
 ·exact mB9
 ·refine h.stk.move (fun k hk _ _ _=>⟨rfl,if_neg mDj⟩)
end
section
variable {w W W1 W2 W3:World} {gg gr:Nat} {A:Option Addr} {c:Nat} {b:List Int} {vs:Value} {css:List (List Value)} {at_ d:Int} {bad ds:Bool} {own:Nat→Nat} {os:List O_} {loc:List Nat}
theorem PG.toX {o:O_}{gs n cap:Nat}{x:I}{vl vt:Value}(h:PG w W gg gr A c b (.slice (some ⟨gs,0,none⟩) n cap) css at_ bad d ds own (o::os) loc)(h16:x.v.length=16)(hb:x.body = [])(he:x.els = []){S:Nat}(hS:∀ k,S≤k→own k=2*(os.length+1))
 (hl:(Kd.int .u32).R 34 W w.heap.size (fun q=>S≤q) vl x.l)(ht:(Kd.int .u8).R 39 W w.heap.size (fun q=>S≤q) vt x.t):
 ∃ cs0 vbp vp,CX w W gg gr gs A c b at_ bad d ds n cap css own o os cs0 x vl vt vbp vp o.l []∧css=cs0 ++ [qy o.x (.slice none 0 0) (.slice none 0 0) vbp (.slice none 0 0) vp o.e]∧cs0.length=os.length∧o.x.v.length=16∧o.x.l = []∧o.x.t = []∧o.x.els = []:=by
 obtain⟨cs0,co,hcss,⟨vbp,vp,rfl,g16,gl,gt,gels,hrb,hrv⟩,hst⟩:=h.stk
 refine⟨cs0,vbp,vp,⟨h.1,h.2.1,h.2.2.1,hst,hrb,Kd.R_mono hrv (fun k hk=>.inl hk),fun k hk=>hrv.1 k hk,?_,h.bel,fun g hg=>by cases hg⟩,hcss,hst.len,g16,gl,gt,gels⟩
 exact qBa W w.heap.size _ x h16 (Kd.R_mono hl (fun k hk=>by rw[hS k hk];omega)) (Kd.R_mono ht (fun k hk=>by rw[hS k hk];omega)) (by rw[hb];exact Kd.R_nil _ _ _ _ _) (by rw[he];exact Kd.R_nil _ _ _ _ _)
theorem PG.else_ {o:O_}{gs n cap:Nat}{vb v:Value}{cells:Array Value}(h:PG w W gg gr A c b (.slice (some ⟨gs,0,none⟩) n cap) css at_ bad d ds own (o::os) [])(he:o.e=false)(hrow:css[os.length]? = some (qy o.x (.slice none 0 0) (.slice none 0 0) vb (.slice none 0 0) v o.e))(h16:o.x.v.length=16)(hc:W.heap[gs]? = some (.cells cells 89 (0,0))):
 ∃ own' css',PG w (((W.setCell ⟨gs,os.length*29+25,none⟩ v).setCell ⟨gs,os.length*29+27,none⟩ (.slice none 0 0)).setCell ⟨gs,os.length*29+28,none⟩ (.bool true)) gg gr A c b (.slice (some ⟨gs,0,none⟩) n cap) css' at_ bad d ds own' (⟨{o.x with body:=o.l},[],true⟩::os) []:=by
 obtain⟨cs0,co,hcss,⟨vb',v',rfl,_,hl,ht,hels,hrb,hrv⟩,hst⟩:=h.stk
 have hlen:=hst.len
 have hin:css[os.length]? = some (qy o.x (.slice none 0 0) (.slice none 0 0) vb' (.slice none 0 0) v' o.e):=by rw[hcss,List.getElem?_append_right mDj,hlen,Nat.sub_self];rfl
 have hvv:v=v':=by
  rw[hin] at hrow
  have h1:=(zz o.x h16 (.slice none 0 0) (.slice none 0 0) vb' (.slice none 0 0) v' o.e).1
  rw[Option.some.inj hrow,(zz o.x h16 (.slice none 0 0) (.slice none 0 0) vb (.slice none 0 0) v o.e).1] at h1
  exact Option.some.inj h1
 subst hvv
 have hone:v.oneCell'=true:=by obtain⟨A1,c1,rfl⟩:=Kd.R_slice hrv;rfl
 have b1:=xO hc (os.length*29+25) v
 have r1:=qAw h.2.2.1 hin (show 25<29 by decide) hone hc b1
 have i1:(css.set os.length ((qy o.x (.slice none 0 0) (.slice none 0 0) vb' (.slice none 0 0) v o.e).set 25 v))[os.length]? = some ((qy o.x (.slice none 0 0) (.slice none 0 0) vb' (.slice none 0 0) v o.e).set 25 v):=by rw[List.getElem?_set_self (List.getElem?_eq_some_iff.1 hin).1]
 have b2:=xO b1 (os.length*29+27) (.slice none 0 0)
 have r2:=qAw r1 i1 (show 27<29 by decide) rfl b1 b2
 have hlt:os.length<css.length:=(List.getElem?_eq_some_iff.1 hin).1
 have i2:((css.set os.length ((qy o.x (.slice none 0 0) (.slice none 0 0) vb' (.slice none 0 0) v o.e).set 25 v)).set os.length (((qy o.x (.slice none 0 0) (.slice none 0 0) vb' (.slice none 0 0) v o.e).set 25 v).set 27 (.slice none 0 0)))[os.length]? = some (((qy o.x (.slice none 0 0) (.slice none 0 0) vb' (.slice none 0 0) v o.e).set 25 v).set 27 (.slice none 0 0)):=by rw[List.getElem?_set_self (by rw[List.length_set];exact hlt)]
 have b3:=xO b2 (os.length*29+28) (.bool true)
 have r3:=qAw r2 i2 (show 28<29 by decide) rfl b2 b3
 rw[List.set_set,List.set_set] at r3
 have e1:((((qy o.x (.slice none 0 0) (.slice none 0 0) vb' (.slice none 0 0) v o.e).set 25 v).set 27 (.slice none 0 0)).set 28 (.bool true))=qy {o.x with body:=o.l} (.slice none 0 0) (.slice none 0 0) v (.slice none 0 0) (.slice none 0 0) true:=by
  have q1:=congrArg Array.toList (xf o.x h16 (.slice none 0 0) (.slice none 0 0) vb' (.slice none 0 0) v v o.e).1
  simp only[List.setIfInBounds_toArray] at q1
  have q1':(qy o.x (.slice none 0 0) (.slice none 0 0) vb' (.slice none 0 0) v o.e).set 25 v=qy o.x (.slice none 0 0) (.slice none 0 0) v (.slice none 0 0) v o.e:=q1
  rw[q1',qAp _ h16]
  have hl27:=qL o.x h16 (.slice none 0 0) (.slice none 0 0) v (.slice none 0 0)
  show(qH o.x (.slice none 0 0) (.slice none 0 0) v (.slice none 0 0) ++ [Value.slice none 0 0,Value.bool o.e]).set 28 (Value.bool true)=_
  rw[List.set_append_right _ _ mDj,hl27]
  rfl
 rw[e1] at r3
 have hne:∀ k,k≠gs→(((W.setCell ⟨gs,os.length*29+25,none⟩ v).setCell ⟨gs,os.length*29+27,none⟩ (.slice none 0 0)).setCell ⟨gs,os.length*29+28,none⟩ (.bool true)).heap[k]? = W.heap[k]?:=fun k hk=>(Below.heap_setCell _ _ _ k hk).trans ((Below.heap_setCell _ _ _ k hk).trans (Below.heap_setCell _ _ _ k hk))
 have hbase:w.heap.size≤gs:=Kd.R_base h.2.2.1 gs mEb
 have hty:∀ k,TyI W k→(((W.setCell ⟨gs,os.length*29+25,none⟩ v).setCell ⟨gs,os.length*29+27,none⟩ (.slice none 0 0)).setCell ⟨gs,os.length*29+28,none⟩ (.bool true)).heap[k]? = W.heap[k]?:=fun k hk=>hne k (TyI.ne hk hc mDl)
 refine⟨fun k=>if own k=2*os.length+1 then 2*os.length else own k,_,(hne gg (fun e=>?_)).trans h.1,(hne gr (fun e=>?_)).trans h.2.1,r3,⟨cs0,_,?_,⟨v,.slice none 0 0,rfl,h16,hl,ht,hels,?_,Kd.R_nil _ _ _ _ _⟩,?_⟩,((h.bel.setCell hbase _).setCell hbase _).setCell hbase _,fun g hg=>by cases hg⟩
 ·have h9:=h.1
  rw[e,hc] at h9
  simp[qBO] at h9
 ·have h9:=h.2.1
  rw[e,hc] at h9
  simp[oRd] at h9
 ·rw[hcss,List.set_append_right _ _ mDj,hlen,Nat.sub_self]
  rfl
 ·exact zS hrv (fun k hk _ _ h4=>⟨hty k h4,by show(if _ then _ else _)=_;rw[if_pos hk]⟩)
 ·exact hst.move (fun k hk _ _ h4=>⟨hty k h4,if_neg mDj⟩)
end
section
variable {w W W1:World} {gg gr:Nat} {A:Option Addr} {c:Nat} {b:List Int} {vs:Value} {css:List (List Value)} {at_ d:Int} {bad ds:Bool} {own:Nat→Nat} {os:List O_} {loc:List Nat}
theorem PG.mark2 (h:PG w W gg gr A c b vs css at_ bad d ds own os loc):∃ own',PG w W gg gr A c b vs css at_ bad d ds own' os loc∧(∀ k,W.heap.size≤k→own' k=2*os.length)∧∀ g,g ∈ loc→own' g=2*os.length+2:=by
 have hl:=h.2.2.2.2.2
 refine⟨fun k=>if W.heap.size≤k then 2*os.length else if k ∈ loc then 2*os.length+2 else own k,⟨h.1,h.2.1,h.2.2.1,h.stk.move (fun k h1 _ hk _=>⟨rfl,?_⟩),h.bel,fun g hg=>?_⟩,fun k hk=>if_pos hk,fun g hg=>?_⟩
 ·show(if _ then _ else if _ then _ else _)=_
  rw[if_neg mDj,if_neg (fun hm=>by have:=(hl k hm).1;omega)]
 ·have h1:=hl g hg
  exact⟨by show 2*os.length≤(if _ then _ else if _ then _ else _);rw[if_neg mDj,if_pos hg];omega,h1.2⟩
 ·have h1:=hl g hg
  show(if _ then _ else if _ then _ else _)=_
  rw[if_neg mDj,if_pos hg]
theorem PG.toX2 {o:O_}{gs n cap:Nat}{x:I}{vl vt:Value}(h:PG w W gg gr A c b (.slice (some ⟨gs,0,none⟩) n cap) css at_ bad d ds own (o::os) loc)(h16:x.v.length=16)(hb:x.body = [])(he:x.els = []){S:Nat}(hS:∀ k,S≤k→own k=2*(os.length+1))(hL:∀ g,g ∈ loc→own g=2*(os.length+1)+2)
 (hl:(Kd.int .u32).R 34 W w.heap.size (fun q=>S≤q) vl x.l)(ht:(Kd.int .u8).R 39 W w.heap.size (fun q=>S≤q) vt x.t):
 ∃ cs0 vbp vp,CX w W gg gr gs A c b at_ bad d ds n cap css own o os cs0 x vl vt vbp vp o.l loc∧css=cs0 ++ [qy o.x (.slice none 0 0) (.slice none 0 0) vbp (.slice none 0 0) vp o.e]∧cs0.length=os.length∧o.x.v.length=16∧o.x.l = []∧o.x.t = []∧o.x.els = []:=by
 obtain⟨cs0,vbp,vp,hx,hr⟩:=PG.toX h.forget h16 hb he hS hl ht
 refine⟨cs0,vbp,vp,⟨hx.1,hx.2,hx.3,hx.4,hx.5,hx.6,hx.7,hx.8,hx.9,fun g hg=>?_⟩,hr⟩
 have h1:=h.2.2.2.2.2 g hg
 exact⟨by rw[hL g hg];omega,h1.2.1,h1.2.2.1,fun e=>h1.2.2.2.1 (by rw[e];rfl),h1.2.2.2.2.1,h1.2.2.2.2.2⟩
end
theorem qGS (x:I)(h:x.v.length=16)(vl vt vb ve v:Value)(e:Bool):(qy x vl vt vb ve v e)[25]? = some vb:=by
 have q1:=congrArg Array.toList (xf x h vl vt vb ve v vb e).1
 simp only[List.setIfInBounds_toArray] at q1
 have q2:(qy x vl vt vb ve v e).set 25 vb=qy x vl vt vb ve v e:=q1
 rw[← q2,List.getElem?_set_self (by rw[yC _ h];decide)]
theorem qHr {cs0:List (List Value)}{cp cp':List Value}{m:Nat}(e:cs0.length=m):(cs0 ++ [cp]).set m cp'=cs0 ++ [cp']:=by
 rw[List.set_append_right _ _ mDj,e,Nat.sub_self]
 rfl
theorem qIF {W:World}{base:Nat}{ok:Nat→Prop}{v:Value}{l:List I}(h:kI.R 43 W base ok v l):∃ A c,v = .slice A l.length c:=Kd.R_slice h
theorem qBl (x:I)(h:x.v.length=16)(vl vt vb ve:Value):((qH x vl vt vb ve).drop 0).take 27=qH x vl vt vb ve:=by
 rw[List.drop_zero,List.take_of_length_le (by rw[qL x h];exact Nat.le_refl _)]
theorem qGX (b:List Int)(n:Nat):∀(i:Nat) (at_:Int) (bad:Bool) (l:List Int),(yY b n i at_ bad l).1.length=l.length:=by
 induction n with
 | zero=>exact fun _ _ _ _=>rfl
 | succ n ih=>exact fun i at_ bad l=>(ih _ _ _ _).trans List.length_set
theorem jA {α:Type}{c:Prop}[Decidable c]{x y r:α}(h:(if c then x else y)=r):x=r∨y=r:=by
 by_cases hc:c
 ·rw[if_pos hc] at h;exact .inl h
 ·rw[if_neg hc] at h;exact .inr h
theorem qEg {K k:Nat}{b:List Int}{at_:Int}{bad:Bool}{im o:Int}{x:I}{a2:Int}{b2:Bool}(h:yi K k b at_ bad im o=some (x,a2,b2)):x.v.length=16∧x.body = []∧x.els = []∧x.op=o∧x.bk=0∧x.bv=0∧x.bt=0:=by
 unfold yi at h
 rcases jA h with h|h
 ·obtain⟨r,hr,h⟩:=Option.map_eq_some_iff.1 h
  exact mBj
 rcases jA h with h|h
 ·obtain⟨r,hr,h⟩:=Option.bind_eq_some_iff.1 h
  obtain⟨q,hq,h⟩:=Option.map_eq_some_iff.1 h
  exact mBj
 rcases jA h with h|h
 ·obtain⟨r,hr,h⟩:=Option.bind_eq_some_iff.1 h
  obtain⟨q,hq,h⟩:=Option.bind_eq_some_iff.1 h
  obtain⟨s,hs,h⟩:=Option.bind_eq_some_iff.1 h
  rcases jA h with h|h
  ·exact mA0
  ·cases h
 rcases jA h with h|h
 ·split at h
  ·exact mA0
  ·cases h
 rcases jA h with h|h
 ·exact mA0
 rcases jA h with h|h
 ·obtain⟨r,hr,h⟩:=Option.bind_eq_some_iff.1 h
  rcases jA h with h|h
  ·exact mA0
  ·cases h
 rcases jA h with h|h
 ·obtain⟨r,hr,h⟩:=Option.bind_eq_some_iff.1 h
  obtain⟨q,hq,h⟩:=Option.map_eq_some_iff.1 h
  exact mBj
 rcases jA h with h|h
 ·obtain⟨r,hr,h⟩:=Option.bind_eq_some_iff.1 h
  obtain⟨q,hq,h⟩:=Option.bind_eq_some_iff.1 h
  rcases jA h with h|h
  ·exact mA0
  ·cases h
 rcases jA h with h|h
 ·exact mA0
 rcases jA h with h|h
 ·obtain⟨rfl,_⟩:=Prod.mk.inj (Option.some.inj h)
  exact⟨qGX b _ _ _ _ _,rfl,rfl,rfl,rfl,rfl,rfl⟩
 rcases jA h with h|h
 ·obtain⟨r,hr,h⟩:=Option.map_eq_some_iff.1 h
  exact mBj
 rcases jA h with h|h
 ·obtain⟨r,hr,h⟩:=Option.map_eq_some_iff.1 h
  exact mBj
 rcases jA h with h|h
 ·exact mA0
 rcases jA h with h|h
 ·exact mA0
 rcases jA h with h|h
 ·exact mA0
 rcases jA h with h|h
 ·obtain⟨r,hr,h⟩:=Option.bind_eq_some_iff.1 h
  rcases jA h with h|h
  ·obtain⟨q,hq,h⟩:=Option.map_eq_some_iff.1 h
   exact mBj
  ·cases h
 ·exact mA0
end Go.Proofs.YtobldeamemmokaaDoor.P
