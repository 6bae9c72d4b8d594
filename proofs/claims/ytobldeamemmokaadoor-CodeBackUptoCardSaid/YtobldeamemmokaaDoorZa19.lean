import Derived.Test.YtobldeamemmokaaDoorZa16
import Derived.Test.YtobldeamemmokaaDoorZa17
import Derived.Test.YtobldeamemmokaaDoorZa18
set_option linter.unusedVariables false
set_option linter.unusedSimpArgs false
set_option maxHeartbeats 64000000
namespace Go.Proofs.YtobldeamemmokaaDoor.P
open Go.Proofs.YtobldeamemmokaaDoorTabs
open Go.Proofs.YtobldeamemmokaaDoorCaps
open Go.RowKit Go.Proofs.YtobldeamemmokaaDoorW.PrintWords Go.Proofs.YtobldeamemmokaaDoorW.PrintLast Go.Proofs.YtobldeamemmokaaDoorW.PrintMore
attribute [local go_sem] jh jj xE xF jb jZ jv jt   -- for this text's walks alone
def xX.f (k:Nat)(a0:Int):Option (ByteArray × ByteArray × Int × Int × Bool × Bool):=if a0<96 then ((zi.f).bind fun t138=>((qU.f k t138 a0).bind fun bt141=>(some (bt141.1,bt141.2.1,bt141.2.2.1,bt141.2.2.2.1,bt141.2.2.2.2.1,bt141.2.2.2.2.2)))) else ((jk.f).bind fun t147=>((qU.f k t147 a0).bind fun bt150=>(if bt150.2.2.2.2.2=true then (some (bt150.1,bt150.2.1,bt150.2.2.1,bt150.2.2.2.1,bt150.2.2.2.2.1,true)) else (if a0≥224 then (some ((⟨#[]⟩:ByteArray),(⟨#[]⟩:ByteArray),0,0,false,false)) else ((qI.f k (wrap64 (Int.tdiv (wrap64 (a0 - 96)) 32)) (Int.tmod (wrap64 (a0 - 96)) 32)).bind fun bt157=>((qR.f (⟨#[105,56,120,49,54,46,32,105,49,54,120,56,46,32,105,51,50,120,52,46,32,105,54,52,120,50,46]⟩:ByteArray) (wrap64 (Int.tdiv (wrap64 (a0 - 96)) 32))).bind fun t159=>(if t159.size+bt157.1.size≤9223372036854775807 then (some (t159++bt157.1,bt157.2,0,0,true,(bt157.1.toList != ([]:List UInt8)))) else (none))))))))
set_option maxRecDepth 100000 in
theorem xX.calls (k:Nat)(a0:Int)(r1:ByteArray)(r2:ByteArray)(r3:Int)(r4:Int)(r5:Bool)(r6:Bool)(w:World)(hT:YtobldeamemmokaaDoorTabs.Tab w)(h:xX.f k a0=some (r1,r2,r3,r4,r5,r6)):
 Calls Tryd.prog 72 #[.int .i64 a0] w fun e w'=>e = .returned (.tuple #[.agg #[.string r1,.string r2,.int .u8 r3,.int .i64 r4,.bool r5],.bool r6])∧Below w.heap.size w w':=by
 have HT:=am hT
 clear hT
 have hu107:=Tryd.underlying107
 have HB:=am (Below.refl w.heap.size w)
 have H:=h
 unfold xX.f at H
 clear h
 by_cases c2:a0<96
 ·rw[if_pos c2] at H
  have c2b0:decide (a0<96)=true:=decide_eq_true c2
  clear c2
  replace H:=Option.bind_eq_some_iff.mp H
  obtain⟨t138,A30,H⟩:=H
  try dsimp only at H
  have A3:=am A30
  clear A30
  replace H:=Option.bind_eq_some_iff.mp H
  obtain⟨⟨t141,t142,t143,t144,t145,t146⟩,A40,H⟩:=H
  try dsimp only at H
  have A4:=am A40
  clear A40
  simp only[Option.some.injEq,Prod.mk.injEq] at H
  obtain⟨rfl,rfl,rfl,rfl,rfl,rfl⟩:=H
  go_enter Tryd.func72,Tryd.ntmps72
  go_wp2_with (first|((with_reducible refine qE (N:=2) rfl ?_);refine zd ?hg (N:=2) ?hd (cs:=#[.string (⟨#[]⟩:ByteArray),.string (⟨#[]⟩:ByteArray),.int .u8 0,.int .i64 0,.bool false]) (t:=107) ?hr ?_;(case hd=>rfl);(case hg=>rfl);(case hr=>first|(go_simp;done)|(go_simp;rfl));intro gb137 hg w5 hbox hb;have n0_:=am (qB mCf hb);have n1_:=am (hbox);have n2_:=am ((mD1:w.heap.size≤gb137));have n3_:=am ((mD1:w.heap.size≤gb137));clear HB;have HB:=n0_;have BK137:=n1_;have GW137:=n2_;have GE137:=n3_;clear n0_ n1_ n2_ n3_;clear hb hbox hg)|((with_reducible refine qO (f:=80) rfl ?_);refine qo (some 12) rfl rfl Tryd.func80 mDh rfl #[] rfl mCe ?_;(with_reducible refine(zi.calls  t138 _ A3.out).mono ?_);rintro e w6 ⟨v139,rfl,ho0,hb⟩;refine⟨_,rfl,?_⟩;have n0_:=am (Kd.R_lower ho0 (qM mCj));have n1_:=am (qG (g:=gb137) (o:=.cells #[.string (⟨#[]⟩:ByteArray),.string (⟨#[]⟩:ByteArray),.int .u8 0,.int .i64 0,.bool false] 107 (0,0)) (kx_ BK137.out) hb);have n2_:=am (qB mCj hb);clear BK137;clear HB;have HO140:=n0_;have BK137:=n1_;have HB:=n2_;clear n0_ n1_ n2_;(try clear hb);(try clear hb2);(try clear hk);(try clear hi);(try clear ho0);obtain⟨Ao7,co7,eo7⟩:=Kd.R_slice HO140.out;subst eo7)|((with_reducible refine qO (f:=73) rfl ?_);refine qo (some 14) rfl rfl Tryd.func73 mDh rfl #[.slice Ao7 t138.length co7,.int .i64 a0] rfl mCe ?_;(with_reducible refine(qU.calls (hT:=mCd) k _ _ t138 a0 t141 t142 t143 t144 t145 t146 _ ?side1 ?side2 A4.out).mono ?_);(case side1=>repeat (first|exact(Kd.R_reads' HO140.out).2.2|(with_reducible refine Kd.C_alloc ?_ _)|(with_reducible refine Kd.C_drewN ?_ _)|(with_reducible refine Kd.C_drew ?_)));(case side2=>exact(Kd.R_reads' HO140.out).2.1);rintro e w8 ⟨rfl,hb⟩;refine⟨_,rfl,?_⟩;have n0_:=am (Kd.R_below (kr_ HO140.out) hb);have n1_:=am (qG (g:=gb137) (o:=.cells #[.string (⟨#[]⟩:ByteArray),.string (⟨#[]⟩:ByteArray),.int .u8 0,.int .i64 0,.bool false] 107 (0,0)) (kx_ BK137.out) hb);have n2_:=am (qB mCj hb);clear HO140;clear BK137;clear HB;have HO140:=n0_;have BK137:=n1_;have HB:=n2_;clear n0_ n1_ n2_;(try clear hb);(try clear hb2);(try clear hk);(try clear hi);have hcz9_0:w8.cell? ⟨gb137,0,none⟩=some (.string (⟨#[]⟩:ByteArray)):=(qA BK137.out 0).trans rfl;have hcz9_1:w8.cell? ⟨gb137,1,none⟩=some (.string (⟨#[]⟩:ByteArray)):=(qA BK137.out 1).trans rfl;have hcz9_2:w8.cell? ⟨gb137,2,none⟩=some (.int .u8 0):=(qA BK137.out 2).trans rfl;have hcz9_3:w8.cell? ⟨gb137,3,none⟩=some (.int .i64 0):=(qA BK137.out 3).trans rfl;have hcz9_4:w8.cell? ⟨gb137,4,none⟩=some (.bool false):=(qA BK137.out 4).trans rfl;have hfz9_0:=qD BK137.out 0;have hfz9_1:=qD BK137.out 1;have hfz9_2:=qD BK137.out 2;have hfz9_3:=qD BK137.out 3;have hfz9_4:=qD BK137.out 4))
  refine bodyPost_ret (zL rfl _ _ gb137 107 #[.string t141,.string t142,.int .u8 t143,.int .i64 t144,.bool t145] (0,0) _ rfl (by (with_reducible repeat (first|apply kN|apply kD|apply kA));refine qK (cs:=#[.string t141,.string t142,.int .u8 t143,.int .i64 t144,.bool false]) ?_ 4 _ rfl;(with_reducible repeat (first|apply kN|apply kD|apply kA));refine qK (cs:=#[.string t141,.string t142,.int .u8 t143,.int .i64 0,.bool false]) ?_ 3 _ rfl;(with_reducible repeat (first|apply kN|apply kD|apply kA));refine qK (cs:=#[.string t141,.string t142,.int .u8 0,.int .i64 0,.bool false]) ?_ 2 _ rfl;(with_reducible repeat (first|apply kN|apply kD|apply kA));refine qK (cs:=#[.string t141,.string (⟨#[]⟩:ByteArray),.int .u8 0,.int .i64 0,.bool false]) ?_ 1 _ rfl;(with_reducible repeat (first|apply kN|apply kD|apply kA));refine qK (cs:=#[.string (⟨#[]⟩:ByteArray),.string (⟨#[]⟩:ByteArray),.int .u8 0,.int .i64 0,.bool false]) ?_ 0 _ rfl;(with_reducible repeat (first|apply kN|apply kD|apply kA));exact BK137.out) Tryd.underlying107 rfl mDh) rfl ?_
  exact⟨by first|rfl|(simp[qk,qj] <;> rfl)|(simp[*,qk,qj] <;> rfl),mCj⟩
 ·rw[if_neg c2] at H
  have c2b0:decide (a0<96)=false:=decide_eq_false c2
  clear c2
  replace H:=Option.bind_eq_some_iff.mp H
  obtain⟨t147,A100,H⟩:=H
  try dsimp only at H
  have A10:=am A100
  clear A100
  replace H:=Option.bind_eq_some_iff.mp H
  obtain⟨⟨t150,t151,t152,t153,t154,t155⟩,A110,H⟩:=H
  try dsimp only at H
  have A11:=am A110
  clear A110
  by_cases c12:t155=true
  ·subst c12
   rw[if_pos rfl] at H
   try dsimp only at H
   simp only[Option.some.injEq,Prod.mk.injEq] at H
   obtain⟨rfl,rfl,rfl,rfl,rfl,rfl⟩:=H
   go_enter Tryd.func72,Tryd.ntmps72
   go_wp2_with (first|((with_reducible refine qE (N:=2) rfl ?_);refine zd ?hg (N:=2) ?hd (cs:=#[.string (⟨#[]⟩:ByteArray),.string (⟨#[]⟩:ByteArray),.int .u8 0,.int .i64 0,.bool false]) (t:=107) ?hr ?_;(case hd=>rfl);(case hg=>rfl);(case hr=>first|(go_simp;done)|(go_simp;rfl));intro gb137 hg w13 hbox hb;have n0_:=am (qB mCf hb);have n1_:=am (hbox);have n2_:=am ((mD1:w.heap.size≤gb137));have n3_:=am ((mD1:w.heap.size≤gb137));clear HB;have HB:=n0_;have BK137:=n1_;have GW137:=n2_;have GE137:=n3_;clear n0_ n1_ n2_ n3_;clear hb hbox hg)|((with_reducible refine qO (f:=81) rfl ?_);refine qo (some 18) rfl rfl Tryd.func81 mDh rfl #[] rfl mCe ?_;(with_reducible refine(jk.calls  t147 _ A10.out).mono ?_);rintro e w14 ⟨v148,rfl,ho0,hb⟩;refine⟨_,rfl,?_⟩;have n0_:=am (Kd.R_lower ho0 (qM mCj));have n1_:=am (qG (g:=gb137) (o:=.cells #[.string (⟨#[]⟩:ByteArray),.string (⟨#[]⟩:ByteArray),.int .u8 0,.int .i64 0,.bool false] 107 (0,0)) (kx_ BK137.out) hb);have n2_:=am (qB mCj hb);clear BK137;clear HB;have HO149:=n0_;have BK137:=n1_;have HB:=n2_;clear n0_ n1_ n2_;(try clear hb);(try clear hb2);(try clear hk);(try clear hi);(try clear ho0);obtain⟨Ao15,co15,eo15⟩:=Kd.R_slice HO149.out;subst eo15)|((with_reducible refine qO (f:=73) rfl ?_);refine qo (some 20) rfl rfl Tryd.func73 mDh rfl #[.slice Ao15 t147.length co15,.int .i64 a0] rfl mCe ?_;(with_reducible refine(qU.calls (hT:=mCd) k _ _ t147 a0 t150 t151 t152 t153 t154 true _ ?side1 ?side2 A11.out).mono ?_);(case side1=>repeat (first|exact(Kd.R_reads' HO149.out).2.2|(with_reducible refine Kd.C_alloc ?_ _)|(with_reducible refine Kd.C_drewN ?_ _)|(with_reducible refine Kd.C_drew ?_)));(case side2=>exact(Kd.R_reads' HO149.out).2.1);rintro e w16 ⟨rfl,hb⟩;refine⟨_,rfl,?_⟩;have n0_:=am (Kd.R_below (kr_ HO149.out) hb);have n1_:=am (qG (g:=gb137) (o:=.cells #[.string (⟨#[]⟩:ByteArray),.string (⟨#[]⟩:ByteArray),.int .u8 0,.int .i64 0,.bool false] 107 (0,0)) (kx_ BK137.out) hb);have n2_:=am (qB mCj hb);clear HO149;clear BK137;clear HB;have HO149:=n0_;have BK137:=n1_;have HB:=n2_;clear n0_ n1_ n2_;(try clear hb);(try clear hb2);(try clear hk);(try clear hi))|((with_reducible refine qE (N:=4) rfl ?_);refine zd ?hg (N:=4) ?hd (cs:=#[.string (⟨#[]⟩:ByteArray),.string (⟨#[]⟩:ByteArray),.int .u8 0,.int .i64 0,.bool false]) (t:=107) ?hr ?_;(case hd=>rfl);(case hg=>rfl);(case hr=>first|(go_simp;done)|(go_simp;rfl));intro gb156 hg w17 hbox hb;have n0_:=am (Kd.R_below (kr_ HO149.out) hb);have n1_:=am (qG (g:=gb137) (o:=.cells #[.string (⟨#[]⟩:ByteArray),.string (⟨#[]⟩:ByteArray),.int .u8 0,.int .i64 0,.bool false] 107 (0,0)) (kx_ BK137.out) hb);have n2_:=am (qB mCj hb);have n3_:=am (hbox);have n4_:=am ((mEe:w.heap.size≤gb156));have n5_:=am ((mEe:w.heap.size≤gb156));have n6_:=am ((mC1:gb137≠gb156));have n7_:=am ((mC2:gb156≠gb137));clear HO149;clear BK137;clear HB;have HO149:=n0_;have BK137:=n1_;have HB:=n2_;have BK156:=n3_;have GW156:=n4_;have GE156:=n5_;have NB137_156:=n6_;have NB156_137:=n7_;clear n0_ n1_ n2_ n3_ n4_ n5_ n6_ n7_;clear hb hbox hg;have hnb18:=NB156_137.out;have hnc18:=NB137_156.out;have hcz19_0:w17.cell? ⟨gb156,0,none⟩=some (.string (⟨#[]⟩:ByteArray)):=(qA BK156.out 0).trans rfl;have hcz19_1:w17.cell? ⟨gb156,1,none⟩=some (.string (⟨#[]⟩:ByteArray)):=(qA BK156.out 1).trans rfl;have hcz19_2:w17.cell? ⟨gb156,2,none⟩=some (.int .u8 0):=(qA BK156.out 2).trans rfl;have hcz19_3:w17.cell? ⟨gb156,3,none⟩=some (.int .i64 0):=(qA BK156.out 3).trans rfl;have hcz19_4:w17.cell? ⟨gb156,4,none⟩=some (.bool false):=(qA BK156.out 4).trans rfl;have hfz19_0:=qD BK156.out 0;have hfz19_1:=qD BK156.out 1;have hfz19_2:=qD BK156.out 2;have hfz19_3:=qD BK156.out 3;have hfz19_4:=qD BK156.out 4;have hcz20_0:w17.cell? ⟨gb137,0,none⟩=some (.string (⟨#[]⟩:ByteArray)):=(qA BK137.out 0).trans rfl;have hcz20_1:w17.cell? ⟨gb137,1,none⟩=some (.string (⟨#[]⟩:ByteArray)):=(qA BK137.out 1).trans rfl;have hcz20_2:w17.cell? ⟨gb137,2,none⟩=some (.int .u8 0):=(qA BK137.out 2).trans rfl;have hcz20_3:w17.cell? ⟨gb137,3,none⟩=some (.int .i64 0):=(qA BK137.out 3).trans rfl;have hcz20_4:w17.cell? ⟨gb137,4,none⟩=some (.bool false):=(qA BK137.out 4).trans rfl;have hfz20_0:=qD BK137.out 0;have hfz20_1:=qD BK137.out 1;have hfz20_2:=qD BK137.out 2;have hfz20_3:=qD BK137.out 3;have hfz20_4:=qD BK137.out 4))
   refine bodyPost_ret (zL rfl _ _ gb137 107 #[.string t150,.string t151,.int .u8 t152,.int .i64 t153,.bool t154] (0,0) _ rfl (by (with_reducible repeat (first|apply kN|apply kD|apply kA));refine qK (cs:=#[.string t150,.string t151,.int .u8 t152,.int .i64 t153,.bool false]) ?_ 4 _ rfl;(with_reducible repeat (first|apply kN|apply kD|apply kA));refine qK (cs:=#[.string t150,.string t151,.int .u8 t152,.int .i64 0,.bool false]) ?_ 3 _ rfl;(with_reducible repeat (first|apply kN|apply kD|apply kA));refine qK (cs:=#[.string t150,.string t151,.int .u8 0,.int .i64 0,.bool false]) ?_ 2 _ rfl;(with_reducible repeat (first|apply kN|apply kD|apply kA));refine qK (cs:=#[.string t150,.string (⟨#[]⟩:ByteArray),.int .u8 0,.int .i64 0,.bool false]) ?_ 1 _ rfl;(with_reducible repeat (first|apply kN|apply kD|apply kA));refine qK (cs:=#[.string (⟨#[]⟩:ByteArray),.string (⟨#[]⟩:ByteArray),.int .u8 0,.int .i64 0,.bool false]) ?_ 0 _ rfl;(with_reducible repeat (first|apply kN|apply kD|apply kA));refine qp ?_ NB137_156.out _;(with_reducible repeat (first|apply kN|apply kD|apply kA));refine qp ?_ NB137_156.out _;(with_reducible repeat (first|apply kN|apply kD|apply kA));refine qp ?_ NB137_156.out _;(with_reducible repeat (first|apply kN|apply kD|apply kA));refine qp ?_ NB137_156.out _;(with_reducible repeat (first|apply kN|apply kD|apply kA));refine qp ?_ NB137_156.out _;(with_reducible repeat (first|apply kN|apply kD|apply kA));exact BK137.out) Tryd.underlying107 rfl mDh) rfl ?_
   exact mBo
  ·replace c12:=Bool.eq_false_iff.mpr c12
   subst c12
   rw[if_neg (show ¬(false=true) by decide)] at H
   try dsimp only at H
   by_cases c21:a0≥224
   ·rw[if_pos c21] at H
    have c21b0:decide (224≤a0)=true:=decide_eq_true c21
    clear c21
    simp only[Option.some.injEq,Prod.mk.injEq] at H
    obtain⟨rfl,rfl,rfl,rfl,rfl,rfl⟩:=H
    go_enter Tryd.func72,Tryd.ntmps72
    go_wp2_with (first|((with_reducible refine qE (N:=2) rfl ?_);refine zd ?hg (N:=2) ?hd (cs:=#[.string (⟨#[]⟩:ByteArray),.string (⟨#[]⟩:ByteArray),.int .u8 0,.int .i64 0,.bool false]) (t:=107) ?hr ?_;(case hd=>rfl);(case hg=>rfl);(case hr=>first|(go_simp;done)|(go_simp;rfl));intro gb137 hg w22 hbox hb;have n0_:=am (qB mCf hb);have n1_:=am (hbox);have n2_:=am ((mD1:w.heap.size≤gb137));have n3_:=am ((mD1:w.heap.size≤gb137));clear HB;have HB:=n0_;have BK137:=n1_;have GW137:=n2_;have GE137:=n3_;clear n0_ n1_ n2_ n3_;clear hb hbox hg)|((with_reducible refine qO (f:=81) rfl ?_);refine qo (some 18) rfl rfl Tryd.func81 mDh rfl #[] rfl mCe ?_;(with_reducible refine(jk.calls  t147 _ A10.out).mono ?_);rintro e w23 ⟨v148,rfl,ho0,hb⟩;refine⟨_,rfl,?_⟩;have n0_:=am (Kd.R_lower ho0 (qM mCj));have n1_:=am (qG (g:=gb137) (o:=.cells #[.string (⟨#[]⟩:ByteArray),.string (⟨#[]⟩:ByteArray),.int .u8 0,.int .i64 0,.bool false] 107 (0,0)) (kx_ BK137.out) hb);have n2_:=am (qB mCj hb);clear BK137;clear HB;have HO149:=n0_;have BK137:=n1_;have HB:=n2_;clear n0_ n1_ n2_;(try clear hb);(try clear hb2);(try clear hk);(try clear hi);(try clear ho0);obtain⟨Ao24,co24,eo24⟩:=Kd.R_slice HO149.out;subst eo24)|((with_reducible refine qO (f:=73) rfl ?_);refine qo (some 20) rfl rfl Tryd.func73 mDh rfl #[.slice Ao24 t147.length co24,.int .i64 a0] rfl mCe ?_;(with_reducible refine(qU.calls (hT:=mCd) k _ _ t147 a0 t150 t151 t152 t153 t154 false _ ?side1 ?side2 A11.out).mono ?_);(case side1=>repeat (first|exact(Kd.R_reads' HO149.out).2.2|(with_reducible refine Kd.C_alloc ?_ _)|(with_reducible refine Kd.C_drewN ?_ _)|(with_reducible refine Kd.C_drew ?_)));(case side2=>exact(Kd.R_reads' HO149.out).2.1);rintro e w25 ⟨rfl,hb⟩;refine⟨_,rfl,?_⟩;have n0_:=am (Kd.R_below (kr_ HO149.out) hb);have n1_:=am (qG (g:=gb137) (o:=.cells #[.string (⟨#[]⟩:ByteArray),.string (⟨#[]⟩:ByteArray),.int .u8 0,.int .i64 0,.bool false] 107 (0,0)) (kx_ BK137.out) hb);have n2_:=am (qB mCj hb);clear HO149;clear BK137;clear HB;have HO149:=n0_;have BK137:=n1_;have HB:=n2_;clear n0_ n1_ n2_;(try clear hb);(try clear hb2);(try clear hk);(try clear hi))|((with_reducible refine qE (N:=4) rfl ?_);refine zd ?hg (N:=4) ?hd (cs:=#[.string (⟨#[]⟩:ByteArray),.string (⟨#[]⟩:ByteArray),.int .u8 0,.int .i64 0,.bool false]) (t:=107) ?hr ?_;(case hd=>rfl);(case hg=>rfl);(case hr=>first|(go_simp;done)|(go_simp;rfl));intro gb156 hg w26 hbox hb;have n0_:=am (Kd.R_below (kr_ HO149.out) hb);have n1_:=am (qG (g:=gb137) (o:=.cells #[.string (⟨#[]⟩:ByteArray),.string (⟨#[]⟩:ByteArray),.int .u8 0,.int .i64 0,.bool false] 107 (0,0)) (kx_ BK137.out) hb);have n2_:=am (qB mCj hb);have n3_:=am (hbox);have n4_:=am ((mEe:w.heap.size≤gb156));have n5_:=am ((mEe:w.heap.size≤gb156));have n6_:=am ((mC1:gb137≠gb156));have n7_:=am ((mC2:gb156≠gb137));clear HO149;clear BK137;clear HB;have HO149:=n0_;have BK137:=n1_;have HB:=n2_;have BK156:=n3_;have GW156:=n4_;have GE156:=n5_;have NB137_156:=n6_;have NB156_137:=n7_;clear n0_ n1_ n2_ n3_ n4_ n5_ n6_ n7_;clear hb hbox hg;have hnb27:=NB156_137.out;have hnc27:=NB137_156.out;have hcz28_0:w26.cell? ⟨gb156,0,none⟩=some (.string (⟨#[]⟩:ByteArray)):=(qA BK156.out 0).trans rfl;have hcz28_1:w26.cell? ⟨gb156,1,none⟩=some (.string (⟨#[]⟩:ByteArray)):=(qA BK156.out 1).trans rfl;have hcz28_2:w26.cell? ⟨gb156,2,none⟩=some (.int .u8 0):=(qA BK156.out 2).trans rfl;have hcz28_3:w26.cell? ⟨gb156,3,none⟩=some (.int .i64 0):=(qA BK156.out 3).trans rfl;have hcz28_4:w26.cell? ⟨gb156,4,none⟩=some (.bool false):=(qA BK156.out 4).trans rfl;have hfz28_0:=qD BK156.out 0;have hfz28_1:=qD BK156.out 1;have hfz28_2:=qD BK156.out 2;have hfz28_3:=qD BK156.out 3;have hfz28_4:=qD BK156.out 4;have hcz29_0:w26.cell? ⟨gb137,0,none⟩=some (.string (⟨#[]⟩:ByteArray)):=(qA BK137.out 0).trans rfl;have hcz29_1:w26.cell? ⟨gb137,1,none⟩=some (.string (⟨#[]⟩:ByteArray)):=(qA BK137.out 1).trans rfl;have hcz29_2:w26.cell? ⟨gb137,2,none⟩=some (.int .u8 0):=(qA BK137.out 2).trans rfl;have hcz29_3:w26.cell? ⟨gb137,3,none⟩=some (.int .i64 0):=(qA BK137.out 3).trans rfl;have hcz29_4:w26.cell? ⟨gb137,4,none⟩=some (.bool false):=(qA BK137.out 4).trans rfl;have hfz29_0:=qD BK137.out 0;have hfz29_1:=qD BK137.out 1;have hfz29_2:=qD BK137.out 2;have hfz29_3:=qD BK137.out 3;have hfz29_4:=qD BK137.out 4))
    refine bodyPost_ret (zL rfl _ _ gb137 107 #[.string (⟨#[]⟩:ByteArray),.string (⟨#[]⟩:ByteArray),.int .u8 0,.int .i64 0,.bool false] (0,0) _ rfl (by (with_reducible repeat (first|apply kN|apply kD|apply kA));refine qK (cs:=#[.string (⟨#[]⟩:ByteArray),.string (⟨#[]⟩:ByteArray),.int .u8 0,.int .i64 0,.bool false]) ?_ 4 _ rfl;(with_reducible repeat (first|apply kN|apply kD|apply kA));refine qK (cs:=#[.string (⟨#[]⟩:ByteArray),.string (⟨#[]⟩:ByteArray),.int .u8 0,.int .i64 0,.bool false]) ?_ 3 _ rfl;(with_reducible repeat (first|apply kN|apply kD|apply kA));refine qK (cs:=#[.string (⟨#[]⟩:ByteArray),.string (⟨#[]⟩:ByteArray),.int .u8 0,.int .i64 0,.bool false]) ?_ 2 _ rfl;(with_reducible repeat (first|apply kN|apply kD|apply kA));refine qK (cs:=#[.string (⟨#[]⟩:ByteArray),.string (⟨#[]⟩:ByteArray),.int .u8 0,.int .i64 0,.bool false]) ?_ 1 _ rfl;(with_reducible repeat (first|apply kN|apply kD|apply kA));refine qK (cs:=#[.string (⟨#[]⟩:ByteArray),.string (⟨#[]⟩:ByteArray),.int .u8 0,.int .i64 0,.bool false]) ?_ 0 _ rfl;(with_reducible repeat (first|apply kN|apply kD|apply kA));refine qp ?_ NB137_156.out _;(with_reducible repeat (first|apply kN|apply kD|apply kA));refine qp ?_ NB137_156.out _;(with_reducible repeat (first|apply kN|apply kD|apply kA));refine qp ?_ NB137_156.out _;(with_reducible repeat (first|apply kN|apply kD|apply kA));refine qp ?_ NB137_156.out _;(with_reducible repeat (first|apply kN|apply kD|apply kA));refine qp ?_ NB137_156.out _;(with_reducible repeat (first|apply kN|apply kD|apply kA));exact BK137.out) Tryd.underlying107 rfl mDh) rfl ?_
    exact mBo
   ·rw[if_neg c21] at H
    have c21b0:decide (224≤a0)=false:=decide_eq_false c21
    clear c21
    replace H:=Option.bind_eq_some_iff.mp H
    obtain⟨⟨t157,t158⟩,A300,H⟩:=H
    try dsimp only at H
    have A30:=am A300
    clear A300
    replace H:=Option.bind_eq_some_iff.mp H
    obtain⟨t159,A310,H⟩:=H
    try dsimp only at H
    have A31:=am A310
    clear A310
    by_cases c32:t159.size+t157.size≤9223372036854775807
    ·rw[if_pos c32] at H
     have c32b0:=eq_true c32
     have c32b1:decide (t159.size+t157.size≤9223372036854775807)=true:=decide_eq_true c32
     try have c32b2:(9223372036854775807<t159.size+t157.size)=False:=eq_false (Nat.not_lt.2 c32)
     simp only[Option.some.injEq,Prod.mk.injEq] at H
     obtain⟨rfl,rfl,rfl,rfl,rfl,rfl⟩:=H
     go_enter Tryd.func72,Tryd.ntmps72
     go_wp2_with (first|((with_reducible refine qE (N:=2) rfl ?_);refine zd ?hg (N:=2) ?hd (cs:=#[.string (⟨#[]⟩:ByteArray),.string (⟨#[]⟩:ByteArray),.int .u8 0,.int .i64 0,.bool false]) (t:=107) ?hr ?_;(case hd=>rfl);(case hg=>rfl);(case hr=>first|(go_simp;done)|(go_simp;rfl));intro gb137 hg w33 hbox hb;have n0_:=am (qB mCf hb);have n1_:=am (hbox);have n2_:=am ((mD1:w.heap.size≤gb137));have n3_:=am ((mD1:w.heap.size≤gb137));clear HB;have HB:=n0_;have BK137:=n1_;have GW137:=n2_;have GE137:=n3_;clear n0_ n1_ n2_ n3_;clear hb hbox hg)|((with_reducible refine qO (f:=81) rfl ?_);refine qo (some 18) rfl rfl Tryd.func81 mDh rfl #[] rfl mCe ?_;(with_reducible refine(jk.calls  t147 _ A10.out).mono ?_);rintro e w34 ⟨v148,rfl,ho0,hb⟩;refine⟨_,rfl,?_⟩;have n0_:=am (Kd.R_lower ho0 (qM mCj));have n1_:=am (qG (g:=gb137) (o:=.cells #[.string (⟨#[]⟩:ByteArray),.string (⟨#[]⟩:ByteArray),.int .u8 0,.int .i64 0,.bool false] 107 (0,0)) (kx_ BK137.out) hb);have n2_:=am (qB mCj hb);clear BK137;clear HB;have HO149:=n0_;have BK137:=n1_;have HB:=n2_;clear n0_ n1_ n2_;(try clear hb);(try clear hb2);(try clear hk);(try clear hi);(try clear ho0);obtain⟨Ao35,co35,eo35⟩:=Kd.R_slice HO149.out;subst eo35)|((with_reducible refine qO (f:=73) rfl ?_);refine qo (some 20) rfl rfl Tryd.func73 mDh rfl #[.slice Ao35 t147.length co35,.int .i64 a0] rfl mCe ?_;(with_reducible refine(qU.calls (hT:=mCd) k _ _ t147 a0 t150 t151 t152 t153 t154 false _ ?side1 ?side2 A11.out).mono ?_);(case side1=>repeat (first|exact(Kd.R_reads' HO149.out).2.2|(with_reducible refine Kd.C_alloc ?_ _)|(with_reducible refine Kd.C_drewN ?_ _)|(with_reducible refine Kd.C_drew ?_)));(case side2=>exact(Kd.R_reads' HO149.out).2.1);rintro e w36 ⟨rfl,hb⟩;refine⟨_,rfl,?_⟩;have n0_:=am (Kd.R_below (kr_ HO149.out) hb);have n1_:=am (qG (g:=gb137) (o:=.cells #[.string (⟨#[]⟩:ByteArray),.string (⟨#[]⟩:ByteArray),.int .u8 0,.int .i64 0,.bool false] 107 (0,0)) (kx_ BK137.out) hb);have n2_:=am (qB mCj hb);clear HO149;clear BK137;clear HB;have HO149:=n0_;have BK137:=n1_;have HB:=n2_;clear n0_ n1_ n2_;(try clear hb);(try clear hb2);(try clear hk);(try clear hi))|((with_reducible refine qE (N:=4) rfl ?_);refine zd ?hg (N:=4) ?hd (cs:=#[.string (⟨#[]⟩:ByteArray),.string (⟨#[]⟩:ByteArray),.int .u8 0,.int .i64 0,.bool false]) (t:=107) ?hr ?_;(case hd=>rfl);(case hg=>rfl);(case hr=>first|(go_simp;done)|(go_simp;rfl));intro gb156 hg w37 hbox hb;have n0_:=am (Kd.R_below (kr_ HO149.out) hb);have n1_:=am (qG (g:=gb137) (o:=.cells #[.string (⟨#[]⟩:ByteArray),.string (⟨#[]⟩:ByteArray),.int .u8 0,.int .i64 0,.bool false] 107 (0,0)) (kx_ BK137.out) hb);have n2_:=am (qB mCj hb);have n3_:=am (hbox);have n4_:=am ((mEe:w.heap.size≤gb156));have n5_:=am ((mEe:w.heap.size≤gb156));have n6_:=am ((mC1:gb137≠gb156));have n7_:=am ((mC2:gb156≠gb137));clear HO149;clear BK137;clear HB;have HO149:=n0_;have BK137:=n1_;have HB:=n2_;have BK156:=n3_;have GW156:=n4_;have GE156:=n5_;have NB137_156:=n6_;have NB156_137:=n7_;clear n0_ n1_ n2_ n3_ n4_ n5_ n6_ n7_;clear hb hbox hg;have hnb38:=NB156_137.out;have hnc38:=NB137_156.out;have hcz39_0:w37.cell? ⟨gb156,0,none⟩=some (.string (⟨#[]⟩:ByteArray)):=(qA BK156.out 0).trans rfl;have hcz39_1:w37.cell? ⟨gb156,1,none⟩=some (.string (⟨#[]⟩:ByteArray)):=(qA BK156.out 1).trans rfl;have hcz39_2:w37.cell? ⟨gb156,2,none⟩=some (.int .u8 0):=(qA BK156.out 2).trans rfl;have hcz39_3:w37.cell? ⟨gb156,3,none⟩=some (.int .i64 0):=(qA BK156.out 3).trans rfl;have hcz39_4:w37.cell? ⟨gb156,4,none⟩=some (.bool false):=(qA BK156.out 4).trans rfl;have hfz39_0:=qD BK156.out 0;have hfz39_1:=qD BK156.out 1;have hfz39_2:=qD BK156.out 2;have hfz39_3:=qD BK156.out 3;have hfz39_4:=qD BK156.out 4)|((with_reducible refine qO (f:=82) rfl ?_);refine qo (some 37) rfl rfl Tryd.func82 mDh rfl #[.int .i64 (wrap64 (Int.tdiv (wrap64 (a0 - 96)) 32)),.int .i64 (Int.tmod (wrap64 (a0 - 96)) 32)] rfl mCe ?_;(with_reducible refine(qI.calls (hT:=mCd) k (wrap64 (Int.tdiv (wrap64 (a0 - 96)) 32)) (Int.tmod (wrap64 (a0 - 96)) 32) t157 t158 _ A30.out).mono ?_);rintro e w40 ⟨rfl,hb⟩;refine⟨_,rfl,?_⟩;have n0_:=am (Kd.R_below (by (with_reducible repeat (first|apply rA|apply rN|apply rD));exact(Kd.R_mono (Kd.R_far (p:=⟨gb156,4,none⟩) (Kd.R_far (p:=⟨gb156,3,none⟩) (Kd.R_far (p:=⟨gb156,2,none⟩) (Kd.R_far (p:=⟨gb156,1,none⟩) (Kd.R_far (p:=⟨gb156,0,none⟩) (Kd.R_types HO149.out BK156.out mDl) (fun _ hk=>hk.2) (.string t150)) (fun _ hk=>hk.2) (.string t151)) (fun _ hk=>hk.2) (.int .u8 t152)) (fun _ hk=>hk.2) (.int .i64 t153)) (fun _ hk=>hk.2) (.bool t154)) (fun _ h_=>h_.1))) hb);have n1_:=am (qG (g:=gb137) (o:=.cells #[.string (⟨#[]⟩:ByteArray),.string (⟨#[]⟩:ByteArray),.int .u8 0,.int .i64 0,.bool false] 107 (0,0)) (by (with_reducible repeat (first|apply kN|apply kD|apply kA));refine qp ?_ NB137_156.out _;(with_reducible repeat (first|apply kN|apply kD|apply kA));refine qp ?_ NB137_156.out _;(with_reducible repeat (first|apply kN|apply kD|apply kA));refine qp ?_ NB137_156.out _;(with_reducible repeat (first|apply kN|apply kD|apply kA));refine qp ?_ NB137_156.out _;(with_reducible repeat (first|apply kN|apply kD|apply kA));refine qp ?_ NB137_156.out _;(with_reducible repeat (first|apply kN|apply kD|apply kA));exact BK137.out) hb);have n2_:=am (qG (g:=gb156) (o:=.cells #[.string t150,.string t151,.int .u8 t152,.int .i64 t153,.bool t154] 107 (0,0)) (by (with_reducible repeat (first|apply kN|apply kD|apply kA));refine qK (cs:=#[.string t150,.string t151,.int .u8 t152,.int .i64 t153,.bool false]) ?_ 4 _ rfl;(with_reducible repeat (first|apply kN|apply kD|apply kA));refine qK (cs:=#[.string t150,.string t151,.int .u8 t152,.int .i64 0,.bool false]) ?_ 3 _ rfl;(with_reducible repeat (first|apply kN|apply kD|apply kA));refine qK (cs:=#[.string t150,.string t151,.int .u8 0,.int .i64 0,.bool false]) ?_ 2 _ rfl;(with_reducible repeat (first|apply kN|apply kD|apply kA));refine qK (cs:=#[.string t150,.string (⟨#[]⟩:ByteArray),.int .u8 0,.int .i64 0,.bool false]) ?_ 1 _ rfl;(with_reducible repeat (first|apply kN|apply kD|apply kA));refine qK (cs:=#[.string (⟨#[]⟩:ByteArray),.string (⟨#[]⟩:ByteArray),.int .u8 0,.int .i64 0,.bool false]) ?_ 0 _ rfl;(with_reducible repeat (first|apply kN|apply kD|apply kA));exact BK156.out) hb);have n3_:=am (qB mDa hb);clear HO149;clear BK137;clear BK156;clear HB;have HO149:=n0_;have BK137:=n1_;have BK156:=n2_;have HB:=n3_;clear n0_ n1_ n2_ n3_;(try clear hb);(try clear hb2);(try clear hk);(try clear hi))|((with_reducible refine qO (f:=83) rfl ?_);refine qo (some 41) rfl rfl Tryd.func83 mDh rfl #[.string (⟨#[105,56,120,49,54,46,32,105,49,54,120,56,46,32,105,51,50,120,52,46,32,105,54,52,120,50,46]⟩:ByteArray),.int .i64 (wrap64 (Int.tdiv (wrap64 (a0 - 96)) 32))] rfl mCe ?_;(with_reducible refine(qR.calls (hT:=mCd) (⟨#[105,56,120,49,54,46,32,105,49,54,120,56,46,32,105,51,50,120,52,46,32,105,54,52,120,50,46]⟩:ByteArray) (wrap64 (Int.tdiv (wrap64 (a0 - 96)) 32)) t159 _ A31.out).mono ?_);rintro e w41 ⟨rfl,hb⟩;refine⟨_,rfl,?_⟩;have n0_:=am (Kd.R_below (kr_ HO149.out) hb);have n1_:=am (qG (g:=gb137) (o:=.cells #[.string (⟨#[]⟩:ByteArray),.string (⟨#[]⟩:ByteArray),.int .u8 0,.int .i64 0,.bool false] 107 (0,0)) (kx_ BK137.out) hb);have n2_:=am (qG (g:=gb156) (o:=.cells #[.string t150,.string t151,.int .u8 t152,.int .i64 t153,.bool t154] 107 (0,0)) (kx_ BK156.out) hb);have n3_:=am (qB mDa hb);clear HO149;clear BK137;clear BK156;clear HB;have HO149:=n0_;have BK137:=n1_;have BK156:=n2_;have HB:=n3_;clear n0_ n1_ n2_ n3_;(try clear hb);(try clear hb2);(try clear hk);(try clear hi);have hcz42_0:w41.cell? ⟨gb137,0,none⟩=some (.string (⟨#[]⟩:ByteArray)):=(qA BK137.out 0).trans rfl;have hcz42_1:w41.cell? ⟨gb137,1,none⟩=some (.string (⟨#[]⟩:ByteArray)):=(qA BK137.out 1).trans rfl;have hcz42_2:w41.cell? ⟨gb137,2,none⟩=some (.int .u8 0):=(qA BK137.out 2).trans rfl;have hcz42_3:w41.cell? ⟨gb137,3,none⟩=some (.int .i64 0):=(qA BK137.out 3).trans rfl;have hcz42_4:w41.cell? ⟨gb137,4,none⟩=some (.bool false):=(qA BK137.out 4).trans rfl;have hfz42_0:=qD BK137.out 0;have hfz42_1:=qD BK137.out 1;have hfz42_2:=qD BK137.out 2;have hfz42_3:=qD BK137.out 3;have hfz42_4:=qD BK137.out 4))
     refine bodyPost_ret (zL rfl _ _ gb137 107 #[.string (t159++t157),.string t158,.int .u8 0,.int .i64 0,.bool true] (0,0) _ rfl (by (with_reducible repeat (first|apply kN|apply kD|apply kA));refine qK (cs:=#[.string (t159++t157),.string t158,.int .u8 0,.int .i64 0,.bool false]) ?_ 4 _ rfl;(with_reducible repeat (first|apply kN|apply kD|apply kA));refine qK (cs:=#[.string (t159++t157),.string t158,.int .u8 0,.int .i64 0,.bool false]) ?_ 3 _ rfl;(with_reducible repeat (first|apply kN|apply kD|apply kA));refine qK (cs:=#[.string (t159++t157),.string t158,.int .u8 0,.int .i64 0,.bool false]) ?_ 2 _ rfl;(with_reducible repeat (first|apply kN|apply kD|apply kA));refine qK (cs:=#[.string (t159++t157),.string (⟨#[]⟩:ByteArray),.int .u8 0,.int .i64 0,.bool false]) ?_ 1 _ rfl;(with_reducible repeat (first|apply kN|apply kD|apply kA));refine qK (cs:=#[.string (⟨#[]⟩:ByteArray),.string (⟨#[]⟩:ByteArray),.int .u8 0,.int .i64 0,.bool false]) ?_ 0 _ rfl;(with_reducible repeat (first|apply kN|apply kD|apply kA));exact BK137.out) Tryd.underlying107 rfl mDh) rfl ?_
     exact⟨by simp[qk,qj];cases t157.toList <;> rfl,mDa⟩
    ·rw[if_neg c32] at H
     exact absurd H mDp
def jf.xs:List ju:=[
 ⟨0,⟨#[105,51,50,46,116,114,117,110,99,95,115,97,116,95]⟩,⟨#[102,51,50,95,115,32,102,51,50,95,117,32,102,54,52,95,115,32,102,54,52,95,117]⟩,⟨#[102,58,105,32,102,58,105,32,100,58,105,32,100,58,105]⟩,0,⟨#[]⟩,true⟩,
 ⟨4,⟨#[105,54,52,46,116,114,117,110,99,95,115,97,116,95]⟩,⟨#[102,51,50,95,115,32,102,51,50,95,117,32,102,54,52,95,115,32,102,54,52,95,117]⟩,⟨#[102,58,108,32,102,58,108,32,100,58,108,32,100,58,108]⟩,0,⟨#[]⟩,true⟩,
 ⟨8,⟨#[]⟩,⟨#[109,101,109,111,114,121,46,105,110,105,116]⟩,⟨#[105,105,105,58]⟩,13,⟨#[]⟩,false⟩,
 ⟨9,⟨#[]⟩,⟨#[100,97,116,97,46,100,114,111,112]⟩,⟨#[58]⟩,12,⟨#[]⟩,false⟩,
 ⟨10,⟨#[]⟩,⟨#[109,101,109,111,114,121,46,99,111,112,121]⟩,⟨#[105,105,105,58]⟩,15,⟨#[]⟩,false⟩,
 ⟨11,⟨#[]⟩,⟨#[109,101,109,111,114,121,46,102,105,108,108]⟩,⟨#[105,105,105,58]⟩,14,⟨#[]⟩,false⟩,
 ⟨12,⟨#[]⟩,⟨#[116,97,98,108,101,46,105,110,105,116]⟩,⟨#[58]⟩,9,⟨#[]⟩,false⟩,
 ⟨13,⟨#[]⟩,⟨#[101,108,101,109,46,100,114,111,112]⟩,⟨#[58]⟩,10,⟨#[]⟩,false⟩,
 ⟨14,⟨#[]⟩,⟨#[116,97,98,108,101,46,99,111,112,121]⟩,⟨#[58]⟩,11,⟨#[]⟩,false⟩,
 ⟨15,⟨#[116,97,98,108,101,46]⟩,⟨#[103,114,111,119,32,115,105,122,101,32,102,105,108,108]⟩,⟨#[58]⟩,8,⟨#[]⟩,false⟩]
def jf.f:Option (List ju):=some jf.xs
set_option maxRecDepth 100000 in
theorem jf.calls (r:List ju)(w:World)(h:jf.f=some r):
 Calls Tryd.prog 74 #[] w fun e w'=>∃ v0_:Value,e = .returned (v0_)∧Kd.R qAg 134 w' w.heap.size (fun _=>True) v0_ r∧Below w.heap.size w w':=by
 have hu134:=Tryd.underlying134
 have HB:=am (Below.refl w.heap.size w)
 obtain rfl:=Option.some.inj (show some jf.xs=some r from h)
 clear h
 go_enter Tryd.func74,Tryd.ntmps74
 go_wp2_with (first|((with_reducible refine qE (N:=11) rfl ?_);refine Kd.R_lit qAg _ 134 ?hg (N:=11) ?hd (xs:=jf.xs) (inner:=jf.xs.flatMap qFc) (ok:=fun _=>True) (okp:=fun _=>True) ?hr ?hp (fun _ hk=>hk) trivial (Below.refl _ _) (Nat.le_refl _) (of_decide_eq_true mDh) ?_;(case hd=>rfl);(case hg=>rfl);(case hr=>kernel_rfl);(case hp=>exact yx _ _ _ _);intro v161 w1 ho2 hb hg_ hnew_;clear hg_ hnew_;have n0_:=am (Kd.R_lower ho2 (qM mCf));have n1_:=am (qB mCf hb);clear HB;have HO1:=n0_;have HB:=n1_;clear n0_ n1_;clear hb ho2))
 go_ret
 exact⟨_,by first|rfl|(simp[qk,qj] <;> rfl),by (with_reducible repeat (first|apply rA|apply rN|apply rD));exact HO1.out,mCf⟩
def zj.xs:List ju:=[
 ⟨65,⟨#[105,51,50,46]⟩,⟨#[99,111,110,115,116]⟩,⟨#[58,105]⟩,20,⟨#[]⟩,true⟩,
 ⟨66,⟨#[105,54,52,46]⟩,⟨#[99,111,110,115,116]⟩,⟨#[58,108]⟩,21,⟨#[]⟩,true⟩,
 ⟨67,⟨#[102,51,50,46]⟩,⟨#[99,111,110,115,116]⟩,⟨#[58,102]⟩,22,⟨#[]⟩,true⟩,
 ⟨68,⟨#[102,54,52,46]⟩,⟨#[99,111,110,115,116]⟩,⟨#[58,100]⟩,23,⟨#[]⟩,true⟩,
 ⟨69,⟨#[105,51,50,46]⟩,⟨#[101,113,122]⟩,⟨#[105,58,105]⟩,0,⟨#[]⟩,true⟩,
 ⟨70,⟨#[105,51,50,46]⟩,⟨#[101,113,32,110,101,32,108,116,95,115,32,108,116,95,117,32,103,116,95,115,32,103,116,95,117,32,108,101,95,115,32,108,101,95,117,32,103,101,95,115,32,103,101,95,117]⟩,⟨#[105,105,58,105]⟩,0,⟨#[]⟩,true⟩,
 ⟨80,⟨#[105,54,52,46]⟩,⟨#[101,113,122]⟩,⟨#[108,58,105]⟩,0,⟨#[]⟩,true⟩,
 ⟨81,⟨#[105,54,52,46]⟩,⟨#[101,113,32,110,101,32,108,116,95,115,32,108,116,95,117,32,103,116,95,115,32,103,116,95,117,32,108,101,95,115,32,108,101,95,117,32,103,101,95,115,32,103,101,95,117]⟩,⟨#[108,108,58,105]⟩,0,⟨#[]⟩,true⟩,
 ⟨91,⟨#[102,51,50,46]⟩,⟨#[101,113,32,110,101,32,108,116,32,103,116,32,108,101,32,103,101]⟩,⟨#[102,102,58,105]⟩,0,⟨#[]⟩,true⟩,
 ⟨97,⟨#[102,54,52,46]⟩,⟨#[101,113,32,110,101,32,108,116,32,103,116,32,108,101,32,103,101]⟩,⟨#[100,100,58,105]⟩,0,⟨#[]⟩,true⟩,
 ⟨103,⟨#[105,51,50,46]⟩,⟨#[99,108,122,32,99,116,122,32,112,111,112,99,110,116]⟩,⟨#[105,58,105]⟩,0,⟨#[]⟩,true⟩,
 ⟨106,⟨#[105,51,50,46]⟩,⟨#[97,100,100,32,115,117,98,32,109,117,108,32,100,105,118,95,115,32,100,105,118,95,117,32,114,101,109,95,115,32,114,101,109,95,117,32,97,110,100,32,111,114,32,120,111,114,32,115,104,108,32,115,104,114,95,115,32,115,104,114,95,117,32,114,111,116,108,32,114,111,116,114]⟩,⟨#[105,105,58,105]⟩,0,⟨#[]⟩,true⟩,
 ⟨121,⟨#[105,54,52,46]⟩,⟨#[99,108,122,32,99,116,122,32,112,111,112,99,110,116]⟩,⟨#[108,58,108]⟩,0,⟨#[]⟩,true⟩,
 ⟨124,⟨#[105,54,52,46]⟩,⟨#[97,100,100,32,115,117,98,32,109,117,108,32,100,105,118,95,115,32,100,105,118,95,117,32,114,101,109,95,115,32,114,101,109,95,117,32,97,110,100,32,111,114,32,120,111,114,32,115,104,108,32,115,104,114,95,115,32,115,104,114,95,117,32,114,111,116,108,32,114,111,116,114]⟩,⟨#[108,108,58,108]⟩,0,⟨#[]⟩,true⟩,
 ⟨139,⟨#[102,51,50,46]⟩,⟨#[97,98,115,32,110,101,103,32,99,101,105,108,32,102,108,111,111,114,32,116,114,117,110,99,32,110,101,97,114,101,115,116,32,115,113,114,116]⟩,⟨#[102,58,102]⟩,0,⟨#[]⟩,true⟩,
 ⟨146,⟨#[102,51,50,46]⟩,⟨#[97,100,100,32,115,117,98,32,109,117,108,32,100,105,118,32,109,105,110,32,109,97,120,32,99,111,112,121,115,105,103,110]⟩,⟨#[102,102,58,102]⟩,0,⟨#[]⟩,true⟩,
 ⟨153,⟨#[102,54,52,46]⟩,⟨#[97,98,115,32,110,101,103,32,99,101,105,108,32,102,108,111,111,114,32,116,114,117,110,99,32,110,101,97,114,101,115,116,32,115,113,114,116]⟩,⟨#[100,58,100]⟩,0,⟨#[]⟩,true⟩,
 ⟨160,⟨#[102,54,52,46]⟩,⟨#[97,100,100,32,115,117,98,32,109,117,108,32,100,105,118,32,109,105,110,32,109,97,120,32,99,111,112,121,115,105,103,110]⟩,⟨#[100,100,58,100]⟩,0,⟨#[]⟩,true⟩,
 ⟨167,⟨#[105,51,50,46]⟩,⟨#[119,114,97,112,95,105,54,52,32,116,114,117,110,99,95,102,51,50,95,115,32,116,114,117,110,99,95,102,51,50,95,117,32,116,114,117,110,99,95,102,54,52,95,115,32,116,114,117,110,99,95,102,54,52,95,117]⟩,⟨#[108,58,105,32,102,58,105,32,102,58,105,32,100,58,105,32,100,58,105]⟩,0,⟨#[]⟩,true⟩,
 ⟨172,⟨#[105,54,52,46]⟩,⟨#[101,120,116,101,110,100,95,105,51,50,95,115,32,101,120,116,101,110,100,95,105,51,50,95,117,32,116,114,117,110,99,95,102,51,50,95,115,32,116,114,117,110,99,95,102,51,50,95,117,32,116,114,117,110,99,95,102,54,52,95,115,32,116,114,117,110,99,95,102,54,52,95,117]⟩,⟨#[105,58,108,32,105,58,108,32,102,58,108,32,102,58,108,32,100,58,108,32,100,58,108]⟩,0,⟨#[]⟩,true⟩,
 ⟨178,⟨#[102,51,50,46]⟩,⟨#[99,111,110,118,101,114,116,95,105,51,50,95,115,32,99,111,110,118,101,114,116,95,105,51,50,95,117,32,99,111,110,118,101,114,116,95,105,54,52,95,115,32,99,111,110,118,101,114,116,95,105,54,52,95,117,32,100,101,109,111,116,101,95,102,54,52]⟩,⟨#[105,58,102,32,105,58,102,32,108,58,102,32,108,58,102,32,100,58,102]⟩,0,⟨#[]⟩,true⟩,
 ⟨183,⟨#[102,54,52,46]⟩,⟨#[99,111,110,118,101,114,116,95,105,51,50,95,115,32,99,111,110,118,101,114,116,95,105,51,50,95,117,32,99,111,110,118,101,114,116,95,105,54,52,95,115,32,99,111,110,118,101,114,116,95,105,54,52,95,117,32,112,114,111,109,111,116,101,95,102,51,50]⟩,⟨#[105,58,100,32,105,58,100,32,108,58,100,32,108,58,100,32,102,58,100]⟩,0,⟨#[]⟩,true⟩,
 ⟨188,⟨#[]⟩,⟨#[105,51,50,46,114,101,105,110,116,101,114,112,114,101,116,95,102,51,50,32,105,54,52,46,114,101,105,110,116,101,114,112,114,101,116,95,102,54,52,32,102,51,50,46,114,101,105,110,116,101,114,112,114,101,116,95,105,51,50,32,102,54,52,46,114,101,105,110,116,101,114,112,114,101,116,95,105,54,52]⟩,⟨#[102,58,105,32,100,58,108,32,105,58,102,32,108,58,100]⟩,0,⟨#[]⟩,true⟩,
 ⟨192,⟨#[]⟩,⟨#[105,51,50,46,101,120,116,101,110,100,56,95,115,32,105,51,50,46,101,120,116,101,110,100,49,54,95,115,32,105,54,52,46,101,120,116,101,110,100,56,95,115,32,105,54,52,46,101,120,116,101,110,100,49,54,95,115,32,105,54,52,46,101,120,116,101,110,100,51,50,95,115]⟩,⟨#[105,58,105,32,105,58,105,32,108,58,108,32,108,58,108,32,108,58,108]⟩,0,⟨#[]⟩,true⟩]
def zj.f:Option (List ju):=some zj.xs
set_option maxRecDepth 100000 in
theorem zj.calls (r:List ju)(w:World)(h:zj.f=some r):
 Calls Tryd.prog 75 #[] w fun e w'=>∃ v0_:Value,e = .returned (v0_)∧Kd.R qAg 134 w' w.heap.size (fun _=>True) v0_ r∧Below w.heap.size w w':=by
 have hu134:=Tryd.underlying134
 have HB:=am (Below.refl w.heap.size w)
 obtain rfl:=Option.some.inj (show some zj.xs=some r from h)
 clear h
 go_enter Tryd.func75,Tryd.ntmps75
 go_wp2_with (first|((with_reducible refine qE (N:=46) rfl ?_);refine Kd.R_lit qAg _ 134 ?hg (N:=46) ?hd (xs:=zj.xs) (inner:=zj.xs.flatMap qFc) (ok:=fun _=>True) (okp:=fun _=>True) ?hr ?hp (fun _ hk=>hk) trivial (Below.refl _ _) (Nat.le_refl _) (of_decide_eq_true mDh) ?_;(case hd=>rfl);(case hg=>rfl);(case hr=>kernel_rfl);(case hp=>exact yx _ _ _ _);intro v161 w1 ho2 hb hg_ hnew_;clear hg_ hnew_;have n0_:=am (Kd.R_lower ho2 (qM mCf));have n1_:=am (qB mCf hb);clear HB;have HO1:=n0_;have HB:=n1_;clear n0_ n1_;clear hb ho2))
 go_ret
 exact⟨_,by first|rfl|(simp[qk,qj] <;> rfl),by (with_reducible repeat (first|apply rA|apply rN|apply rD));exact HO1.out,mCf⟩
def zk.xs:List ju:=[
 ⟨0,⟨#[]⟩,⟨#[117,110,114,101,97,99,104,97,98,108,101,32,110,111,112]⟩,⟨#[58]⟩,0,⟨#[]⟩,false⟩,
 ⟨2,⟨#[]⟩,⟨#[98,108,111,99,107,32,108,111,111,112,32,105,102]⟩,⟨#[58]⟩,1,⟨#[]⟩,false⟩,
 ⟨12,⟨#[98,114]⟩,⟨#[32,95,105,102]⟩,⟨#[58]⟩,2,⟨#[]⟩,false⟩,
 ⟨14,⟨#[]⟩,⟨#[98,114,95,116,97,98,108,101]⟩,⟨#[58]⟩,3,⟨#[]⟩,false⟩,
 ⟨15,⟨#[]⟩,⟨#[114,101,116,117,114,110]⟩,⟨#[58]⟩,0,⟨#[]⟩,false⟩,
 ⟨16,⟨#[]⟩,⟨#[99,97,108,108]⟩,⟨#[58]⟩,4,⟨#[]⟩,false⟩,
 ⟨17,⟨#[]⟩,⟨#[99,97,108,108,95,105,110,100,105,114,101,99,116]⟩,⟨#[58]⟩,5,⟨#[]⟩,false⟩,
 ⟨26,⟨#[]⟩,⟨#[100,114,111,112,32,115,101,108,101,99,116]⟩,⟨#[58]⟩,0,⟨#[]⟩,false⟩,
 ⟨28,⟨#[]⟩,⟨#[115,101,108,101,99,116,95,116]⟩,⟨#[58]⟩,26,⟨#[]⟩,false⟩,
 ⟨32,⟨#[108,111,99,97,108,46]⟩,⟨#[103,101,116,32,115,101,116,32,116,101,101]⟩,⟨#[58]⟩,6,⟨#[]⟩,false⟩,
 ⟨35,⟨#[103,108,111,98,97,108,46]⟩,⟨#[103,101,116,32,115,101,116]⟩,⟨#[58]⟩,7,⟨#[]⟩,false⟩,
 ⟨37,⟨#[116,97,98,108,101,46]⟩,⟨#[103,101,116,32,115,101,116]⟩,⟨#[58]⟩,8,⟨#[]⟩,false⟩,
 ⟨40,⟨#[]⟩,⟨#[105,51,50,46,108,111,97,100,32,105,54,52,46,108,111,97,100,32,102,51,50,46,108,111,97,100,32,102,54,52,46,108,111,97,100]⟩,⟨#[105,58,105,32,105,58,108,32,105,58,102,32,105,58,100]⟩,16,⟨#[51,50,32,54,52,32,51,50,32,54,52]⟩,false⟩,
 ⟨44,⟨#[105,51,50,46]⟩,⟨#[108,111,97,100,56,95,115,32,108,111,97,100,56,95,117,32,108,111,97,100,49,54,95,115,32,108,111,97,100,49,54,95,117]⟩,⟨#[105,58,105]⟩,16,⟨#[56,32,56,32,49,54,32,49,54]⟩,false⟩,
 ⟨48,⟨#[105,54,52,46]⟩,⟨#[108,111,97,100,56,95,115,32,108,111,97,100,56,95,117,32,108,111,97,100,49,54,95,115,32,108,111,97,100,49,54,95,117,32,108,111,97,100,51,50,95,115,32,108,111,97,100,51,50,95,117]⟩,⟨#[105,58,108]⟩,16,⟨#[56,32,56,32,49,54,32,49,54,32,51,50,32,51,50]⟩,false⟩,
 ⟨54,⟨#[]⟩,⟨#[105,51,50,46,115,116,111,114,101,32,105,54,52,46,115,116,111,114,101,32,102,51,50,46,115,116,111,114,101,32,102,54,52,46,115,116,111,114,101]⟩,⟨#[105,105,58,32,105,108,58,32,105,102,58,32,105,100,58]⟩,16,⟨#[51,50,32,54,52,32,51,50,32,54,52]⟩,false⟩,
 ⟨58,⟨#[]⟩,⟨#[105,51,50,46,115,116,111,114,101,56,32,105,51,50,46,115,116,111,114,101,49,54,32,105,54,52,46,115,116,111,114,101,56,32,105,54,52,46,115,116,111,114,101,49,54,32,105,54,52,46,115,116,111,114,101,51,50]⟩,⟨#[105,105,58,32,105,105,58,32,105,108,58,32,105,108,58,32,105,108,58]⟩,16,⟨#[56,32,49,54,32,56,32,49,54,32,51,50]⟩,false⟩,
 ⟨63,⟨#[109,101,109,111,114,121,46]⟩,⟨#[115,105,122,101,32,103,114,111,119]⟩,⟨#[58,105,32,105,58,105]⟩,14,⟨#[]⟩,false⟩,
 ⟨208,⟨#[114,101,102,46]⟩,⟨#[110,117,108,108]⟩,⟨#[58]⟩,25,⟨#[]⟩,false⟩,
 ⟨209,⟨#[114,101,102,46]⟩,⟨#[105,115,95,110,117,108,108]⟩,⟨#[58]⟩,0,⟨#[]⟩,false⟩,
 ⟨210,⟨#[114,101,102,46]⟩,⟨#[102,117,110,99]⟩,⟨#[58]⟩,4,⟨#[]⟩,false⟩]
def zk.f:Option (List ju):=some zk.xs
set_option maxRecDepth 100000 in
theorem zk.calls (r:List ju)(w:World)(h:zk.f=some r):
 Calls Tryd.prog 76 #[] w fun e w'=>∃ v0_:Value,e = .returned (v0_)∧Kd.R qAg 134 w' w.heap.size (fun _=>True) v0_ r∧Below w.heap.size w w':=by
 have hu134:=Tryd.underlying134
 have HB:=am (Below.refl w.heap.size w)
 obtain rfl:=Option.some.inj (show some zk.xs=some r from h)
 clear h
 go_enter Tryd.func76,Tryd.ntmps76
 go_wp2_with (first|((with_reducible refine qE (N:=22) rfl ?_);refine Kd.R_lit qAg _ 134 ?hg (N:=22) ?hd (xs:=zk.xs) (inner:=zk.xs.flatMap qFc) (ok:=fun _=>True) (okp:=fun _=>True) ?hr ?hp (fun _ hk=>hk) trivial (Below.refl _ _) (Nat.le_refl _) (of_decide_eq_true mDh) ?_;(case hd=>rfl);(case hg=>rfl);(case hr=>kernel_rfl);(case hp=>exact yx _ _ _ _);intro v161 w1 ho2 hb hg_ hnew_;clear hg_ hnew_;have n0_:=am (Kd.R_lower ho2 (qM mCf));have n1_:=am (qB mCf hb);clear HB;have HO1:=n0_;have HB:=n1_;clear n0_ n1_;clear hb ho2))
 go_ret
 exact⟨_,by first|rfl|(simp[qk,qj] <;> rfl),by (with_reducible repeat (first|apply rA|apply rN|apply rD));exact HO1.out,mCf⟩
mutual
def qn.j0:Nat→Int→Bool→Option (ByteArray × ByteArray × Int × Int × Bool × Bool)
 | 0,_,_=>none
 | k+1,x4,x7=>if x7=true then ((xX.f k (wrap64 (x4 - 64768))).bind fun bt170=>(some (bt170.1,bt170.2.1,bt170.2.2.1,bt170.2.2.2.1,bt170.2.2.2.2.1,bt170.2.2.2.2.2))) else (if x4≥64512 then (qn.j1 k x4 (decide (x4≤64767))) else (qn.j1 k x4 false))
def qn.j1:Nat→Int→Bool→Option (ByteArray × ByteArray × Int × Int × Bool × Bool)
 | 0,_,_=>none
 | k+1,x4,x19=>if x19=true then ((jf.f).bind fun t176=>((qU.f k t176 (wrap64 (x4 - 64512))).bind fun bt179=>(some (bt179.1,bt179.2.1,bt179.2.2.1,bt179.2.2.2.1,bt179.2.2.2.2.1,bt179.2.2.2.2.2)))) else (if x4 > 255 then (some ((⟨#[]⟩:ByteArray),(⟨#[]⟩:ByteArray),0,0,false,false)) else (if x4≥65 then (qn.j2 k x4 (decide (x4<208))) else (qn.j2 k x4 false)))
def qn.j2:Nat→Int→Bool→Option (ByteArray × ByteArray × Int × Int × Bool × Bool)
 | 0,_,_=>none
 | k+1,x4,x36=>if x36=true then ((zj.f).bind fun t185=>((qU.f k t185 x4).bind fun bt188=>(some (bt188.1,bt188.2.1,bt188.2.2.1,bt188.2.2.2.1,bt188.2.2.2.2.1,bt188.2.2.2.2.2)))) else ((zk.f).bind fun t194=>((qU.f k t194 x4).bind fun bt197=>(some (bt197.1,bt197.2.1,bt197.2.2.1,bt197.2.2.2.1,bt197.2.2.2.2.1,bt197.2.2.2.2.2))))
end
def qn.f (k:Nat)(a0:Int):Option (ByteArray × ByteArray × Int × Int × Bool × Bool):=if (wrap64 (a0))≥64768 then (qn.j0 k (wrap64 (a0)) (decide ((wrap64 (a0))≤65023))) else (qn.j0 k (wrap64 (a0)) false)
set_option maxRecDepth 100000 in
theorem qn.calls (k:Nat)(a0:Int)(r1:ByteArray)(r2:ByteArray)(r3:Int)(r4:Int)(r5:Bool)(r6:Bool)(w:World)(hT:YtobldeamemmokaaDoorTabs.Tab w)(h:qn.f k a0=some (r1,r2,r3,r4,r5,r6)):
 Calls Tryd.prog 60 #[.int .u16 a0] w fun e w'=>e = .returned (.tuple #[.agg #[.string r1,.string r2,.int .u8 r3,.int .i64 r4,.bool r5],.bool r6])∧Below w.heap.size w w':=by
 have HT:=am hT
 clear hT
 have hu107:=Tryd.underlying107
 have HB:=am (Below.refl w.heap.size w)
 have H:=h
 unfold qn.f at H
 clear h
 have HC2:=am H
 clear H
 go_enter Tryd.func60,Tryd.ntmps60
 go_upto_region 2 with (first|((with_reducible refine qE (N:=2) rfl ?_);refine zd ?hg (N:=2) ?hd (cs:=#[.string (⟨#[]⟩:ByteArray),.string (⟨#[]⟩:ByteArray),.int .u8 0,.int .i64 0,.bool false]) (t:=107) ?hr ?_;(case hd=>rfl);(case hg=>rfl);(case hr=>first|(go_simp;done)|(go_simp;rfl));intro gb169 hg w3 hbox hb;have n0_:=am (qB mCf hb);have n1_:=am (hbox);have n2_:=am ((mD1:w.heap.size≤gb169));have n3_:=am ((mD1:w.heap.size≤gb169));clear HB;have HB:=n0_;have BK169:=n1_;have GW169:=n2_;have GE169:=n3_;clear n0_ n1_ n2_ n3_;clear hb hbox hg))
 (try simp only[Act.put,List.setIfInBounds_toArray,List.set_cons_zero,List.set_cons_succ])
 go_cut [7] (fun v7 wc=>∃(kq:Nat) (x7_1:Bool),v7 = .bool x7_1∧Aside0 (qn.j0 kq (wrap64 (a0)) x7_1=some (r1,r2,r3,r4,r5,r6))∧Aside0 (kq≤k)∧Aside0 (wc.heap[gb169]? = some (.cells #[.string (⟨#[]⟩:ByteArray),.string (⟨#[]⟩:ByteArray),.int .u8 0,.int .i64 0,.bool false] 107 (0,0)))∧Aside0 (Below w.heap.size w wc))
 case first =>
  have H:=HC2.out
  clear HC2
  by_cases c4:(wrap64 (a0))≥64768
  ·rw[if_pos c4] at H
   have c4b0:decide (64768≤(wrap64 (a0)))=true:=decide_eq_true c4
   clear c4
   (first|rw[c4b0]|(simp only[zX,zn];rw[c4b0])|skip)
   have H':=am H
   clear H
   go_wp2
   go_meet
   case rel=>exact⟨_,(decide ((wrap64 (a0))≤65023)),mDm,H',⟨by first|omega|exact Nat.le_refl _⟩,⟨by (with_reducible repeat (first|apply kN|apply kD|apply kA));exact BK169.out⟩,⟨mCn⟩⟩
  ·rw[if_neg c4] at H
   have c4b0:decide (64768≤(wrap64 (a0)))=false:=decide_eq_false c4
   clear c4
   (first|rw[c4b0]|(simp only[zX,zn];rw[c4b0])|skip)
   have H':=am H
   clear H
   go_wp2
   go_meet
   case rel=>exact⟨_,(false),mDm,H',⟨by first|omega|exact Nat.le_refl _⟩,⟨by (with_reducible repeat (first|apply kN|apply kD|apply kA));exact BK169.out⟩,⟨mCn⟩⟩
 case rest =>
  clear HC2
  try clear c1
  try clear p2
  try clear c4
  try clear c4b0
  obtain⟨kq,x7_1,rfl,HA,HJ1,BK169,HB⟩:=hcut
  cases kq with
  | zero=>exact absurd HA.out (by simp[qn.j0])
  | succ kj1 =>
    have H:=HA.out
    clear HA
    simp only[qn.j0] at H
    by_cases c5:x7_1=true
    ·subst c5
     rw[if_pos rfl] at H
     try dsimp only at H
     replace H:=Option.bind_eq_some_iff.mp H
     obtain⟨⟨t170,t171,t172,t173,t174,t175⟩,A60,H⟩:=H
     try dsimp only at H
     have A6:=am A60
     clear A60
     simp only[Option.some.injEq,Prod.mk.injEq] at H
     obtain⟨rfl,rfl,rfl,rfl,rfl,rfl⟩:=H
     go_wp2_with (first|((with_reducible refine qO (f:=72) rfl ?_);refine qo (some 16) rfl rfl Tryd.func72 mDh rfl #[.int .i64 (wrap64 ((wrap64 (a0)) - 64768))] rfl mCe ?_;(with_reducible refine(xX.calls (hT:=mCd) kj1 (wrap64 ((wrap64 (a0)) - 64768)) t170 t171 t172 t173 t174 t175 _ A6.out).mono ?_);rintro e w7 ⟨rfl,hb⟩;refine⟨_,rfl,?_⟩;have n0_:=am (qG (g:=gb169) (o:=.cells #[.string (⟨#[]⟩:ByteArray),.string (⟨#[]⟩:ByteArray),.int .u8 0,.int .i64 0,.bool false] 107 (0,0)) (kx_ BK169.out) hb);have n1_:=am (qB mCn hb);clear BK169;clear HB;have BK169:=n0_;have HB:=n1_;clear n0_ n1_;(try clear hb);(try clear hb2);(try clear hk);(try clear hi);have hcz8_0:w7.cell? ⟨gb169,0,none⟩=some (.string (⟨#[]⟩:ByteArray)):=(qA BK169.out 0).trans rfl;have hcz8_1:w7.cell? ⟨gb169,1,none⟩=some (.string (⟨#[]⟩:ByteArray)):=(qA BK169.out 1).trans rfl;have hcz8_2:w7.cell? ⟨gb169,2,none⟩=some (.int .u8 0):=(qA BK169.out 2).trans rfl;have hcz8_3:w7.cell? ⟨gb169,3,none⟩=some (.int .i64 0):=(qA BK169.out 3).trans rfl;have hcz8_4:w7.cell? ⟨gb169,4,none⟩=some (.bool false):=(qA BK169.out 4).trans rfl;have hfz8_0:=qD BK169.out 0;have hfz8_1:=qD BK169.out 1;have hfz8_2:=qD BK169.out 2;have hfz8_3:=qD BK169.out 3;have hfz8_4:=qD BK169.out 4))
     refine bodyPost_ret (zL rfl _ _ gb169 107 #[.string t170,.string t171,.int .u8 t172,.int .i64 t173,.bool t174] (0,0) _ rfl (by (with_reducible repeat (first|apply kN|apply kD|apply kA));refine qK (cs:=#[.string t170,.string t171,.int .u8 t172,.int .i64 t173,.bool false]) ?_ 4 _ rfl;(with_reducible repeat (first|apply kN|apply kD|apply kA));refine qK (cs:=#[.string t170,.string t171,.int .u8 t172,.int .i64 0,.bool false]) ?_ 3 _ rfl;(with_reducible repeat (first|apply kN|apply kD|apply kA));refine qK (cs:=#[.string t170,.string t171,.int .u8 0,.int .i64 0,.bool false]) ?_ 2 _ rfl;(with_reducible repeat (first|apply kN|apply kD|apply kA));refine qK (cs:=#[.string t170,.string (⟨#[]⟩:ByteArray),.int .u8 0,.int .i64 0,.bool false]) ?_ 1 _ rfl;(with_reducible repeat (first|apply kN|apply kD|apply kA));refine qK (cs:=#[.string (⟨#[]⟩:ByteArray),.string (⟨#[]⟩:ByteArray),.int .u8 0,.int .i64 0,.bool false]) ?_ 0 _ rfl;(with_reducible repeat (first|apply kN|apply kD|apply kA));exact BK169.out) Tryd.underlying107 rfl mDh) rfl ?_
     exact mAs
    ·replace c5:=Bool.eq_false_iff.mpr c5
     subst c5
     rw[if_neg (show ¬(false=true) by decide)] at H
     try dsimp only at H
     have HC9:=am H
     clear H
     go_upto_region 4 with (fail)
     go_cut [19] (fun v19 wc=>∃(kq:Nat) (x19_8:Bool),v19 = .bool x19_8∧Aside0 (qn.j1 kq (wrap64 (a0)) x19_8=some (r1,r2,r3,r4,r5,r6))∧Aside0 (kq≤kj1)∧Aside0 (wc.heap[gb169]? = some (.cells #[.string (⟨#[]⟩:ByteArray),.string (⟨#[]⟩:ByteArray),.int .u8 0,.int .i64 0,.bool false] 107 (0,0)))∧Aside0 (Below w.heap.size w wc))
     case first =>
      have H:=HC9.out
      clear HC9
      by_cases c10:(wrap64 (a0))≥64512
      ·rw[if_pos c10] at H
       have c10b0:decide (64512≤(wrap64 (a0)))=true:=decide_eq_true c10
       clear c10
       (first|rw[c10b0]|(simp only[zX,zn];rw[c10b0])|skip)
       have H':=am H
       clear H
       go_wp2
       go_meet
       case rel=>exact⟨_,(decide ((wrap64 (a0))≤64767)),mDm,H',⟨by have:=HJ1.out;first|omega|exact Nat.le_refl _⟩,⟨by (with_reducible repeat (first|apply kN|apply kD|apply kA));exact BK169.out⟩,⟨mCn⟩⟩
      ·rw[if_neg c10] at H
       have c10b0:decide (64512≤(wrap64 (a0)))=false:=decide_eq_false c10
       clear c10
       (first|rw[c10b0]|(simp only[zX,zn];rw[c10b0])|skip)
       have H':=am H
       clear H
       go_wp2
       go_meet
       case rel=>exact⟨_,(false),mDm,H',⟨by have:=HJ1.out;first|omega|exact Nat.le_refl _⟩,⟨by (with_reducible repeat (first|apply kN|apply kD|apply kA));exact BK169.out⟩,⟨mCn⟩⟩
     case rest =>
      clear HC9
      try clear c1
      try clear c2
      try clear p2
      try clear c4
      try clear c4b0
      try clear c5
      try clear p6
      try clear c10
      try clear c10b0
      try clear hcz8_0
      try clear hcz8_1
      try clear hcz8_2
      try clear hcz8_3
      try clear hcz8_4
      try clear hfz8_0
      try clear hfz8_1
      try clear hfz8_2
      try clear hfz8_3
      try clear hfz8_4
      try clear p2
      obtain⟨kq,x19_8,rfl,HA,HJ8,BK169,HB⟩:=hcut
      cases kq with
      | zero=>exact absurd HA.out (by simp[qn.j1])
      | succ kj8 =>
        have H:=HA.out
        clear HA
        simp only[qn.j1] at H
        by_cases c11:x19_8=true
        ·subst c11
         rw[if_pos rfl] at H
         try dsimp only at H
         replace H:=Option.bind_eq_some_iff.mp H
         obtain⟨t176,A120,H⟩:=H
         try dsimp only at H
         have A12:=am A120
         clear A120
         replace H:=Option.bind_eq_some_iff.mp H
         obtain⟨⟨t179,t180,t181,t182,t183,t184⟩,A130,H⟩:=H
         try dsimp only at H
         have A13:=am A130
         clear A130
         simp only[Option.some.injEq,Prod.mk.injEq] at H
         obtain⟨rfl,rfl,rfl,rfl,rfl,rfl⟩:=H
         go_wp2_with (first|((with_reducible refine qO (f:=74) rfl ?_);refine qo (some 26) rfl rfl Tryd.func74 mDh rfl #[] rfl mCe ?_;(with_reducible refine(jf.calls  t176 _ A12.out).mono ?_);rintro e w14 ⟨v177,rfl,ho0,hb⟩;refine⟨_,rfl,?_⟩;have n0_:=am (Kd.R_lower ho0 (qM mCn));have n1_:=am (qG (g:=gb169) (o:=.cells #[.string (⟨#[]⟩:ByteArray),.string (⟨#[]⟩:ByteArray),.int .u8 0,.int .i64 0,.bool false] 107 (0,0)) (kx_ BK169.out) hb);have n2_:=am (qB mCn hb);clear BK169;clear HB;have HO178:=n0_;have BK169:=n1_;have HB:=n2_;clear n0_ n1_ n2_;(try clear hb);(try clear hb2);(try clear hk);(try clear hi);(try clear ho0);obtain⟨Ao15,co15,eo15⟩:=Kd.R_slice HO178.out;subst eo15)|((with_reducible refine qO (f:=73) rfl ?_);refine qo (some 29) rfl rfl Tryd.func73 mDh rfl #[.slice Ao15 t176.length co15,.int .i64 (wrap64 ((wrap64 (a0)) - 64512))] rfl mCe ?_;(with_reducible refine(qU.calls (hT:=mCd) kj8 _ _ t176 (wrap64 ((wrap64 (a0)) - 64512)) t179 t180 t181 t182 t183 t184 _ ?side1 ?side2 A13.out).mono ?_);(case side1=>repeat (first|exact(Kd.R_reads' HO178.out).2.2|(with_reducible refine Kd.C_alloc ?_ _)|(with_reducible refine Kd.C_drewN ?_ _)|(with_reducible refine Kd.C_drew ?_)));(case side2=>exact(Kd.R_reads' HO178.out).2.1);rintro e w16 ⟨rfl,hb⟩;refine⟨_,rfl,?_⟩;have n0_:=am (Kd.R_below (kr_ HO178.out) hb);have n1_:=am (qG (g:=gb169) (o:=.cells #[.string (⟨#[]⟩:ByteArray),.string (⟨#[]⟩:ByteArray),.int .u8 0,.int .i64 0,.bool false] 107 (0,0)) (kx_ BK169.out) hb);have n2_:=am (qB mCn hb);clear HO178;clear BK169;clear HB;have HO178:=n0_;have BK169:=n1_;have HB:=n2_;clear n0_ n1_ n2_;(try clear hb);(try clear hb2);(try clear hk);(try clear hi);have hcz17_0:w16.cell? ⟨gb169,0,none⟩=some (.string (⟨#[]⟩:ByteArray)):=(qA BK169.out 0).trans rfl;have hcz17_1:w16.cell? ⟨gb169,1,none⟩=some (.string (⟨#[]⟩:ByteArray)):=(qA BK169.out 1).trans rfl;have hcz17_2:w16.cell? ⟨gb169,2,none⟩=some (.int .u8 0):=(qA BK169.out 2).trans rfl;have hcz17_3:w16.cell? ⟨gb169,3,none⟩=some (.int .i64 0):=(qA BK169.out 3).trans rfl;have hcz17_4:w16.cell? ⟨gb169,4,none⟩=some (.bool false):=(qA BK169.out 4).trans rfl;have hfz17_0:=qD BK169.out 0;have hfz17_1:=qD BK169.out 1;have hfz17_2:=qD BK169.out 2;have hfz17_3:=qD BK169.out 3;have hfz17_4:=qD BK169.out 4))
         refine bodyPost_ret (zL rfl _ _ gb169 107 #[.string t179,.string t180,.int .u8 t181,.int .i64 t182,.bool t183] (0,0) _ rfl (by (with_reducible repeat (first|apply kN|apply kD|apply kA));refine qK (cs:=#[.string t179,.string t180,.int .u8 t181,.int .i64 t182,.bool false]) ?_ 4 _ rfl;(with_reducible repeat (first|apply kN|apply kD|apply kA));refine qK (cs:=#[.string t179,.string t180,.int .u8 t181,.int .i64 0,.bool false]) ?_ 3 _ rfl;(with_reducible repeat (first|apply kN|apply kD|apply kA));refine qK (cs:=#[.string t179,.string t180,.int .u8 0,.int .i64 0,.bool false]) ?_ 2 _ rfl;(with_reducible repeat (first|apply kN|apply kD|apply kA));refine qK (cs:=#[.string t179,.string (⟨#[]⟩:ByteArray),.int .u8 0,.int .i64 0,.bool false]) ?_ 1 _ rfl;(with_reducible repeat (first|apply kN|apply kD|apply kA));refine qK (cs:=#[.string (⟨#[]⟩:ByteArray),.string (⟨#[]⟩:ByteArray),.int .u8 0,.int .i64 0,.bool false]) ?_ 0 _ rfl;(with_reducible repeat (first|apply kN|apply kD|apply kA));exact BK169.out) Tryd.underlying107 rfl mDh) rfl ?_
         exact mAs
        ·replace c11:=Bool.eq_false_iff.mpr c11
         subst c11
         rw[if_neg (show ¬(false=true) by decide)] at H
         try dsimp only at H
         by_cases c18:(wrap64 (a0)) > 255
         ·rw[if_pos c18] at H
          have c18b0:decide (255<(wrap64 (a0)))=true:=decide_eq_true c18
          clear c18
          simp only[Option.some.injEq,Prod.mk.injEq] at H
          obtain⟨rfl,rfl,rfl,rfl,rfl,rfl⟩:=H
          have hcz19_0:wc.cell? ⟨gb169,0,none⟩=some (.string (⟨#[]⟩:ByteArray)):=(qA BK169.out 0).trans rfl
          have hcz19_1:wc.cell? ⟨gb169,1,none⟩=some (.string (⟨#[]⟩:ByteArray)):=(qA BK169.out 1).trans rfl
          have hcz19_2:wc.cell? ⟨gb169,2,none⟩=some (.int .u8 0):=(qA BK169.out 2).trans rfl
          have hcz19_3:wc.cell? ⟨gb169,3,none⟩=some (.int .i64 0):=(qA BK169.out 3).trans rfl
          have hcz19_4:wc.cell? ⟨gb169,4,none⟩=some (.bool false):=(qA BK169.out 4).trans rfl
          have hfz19_0:=qD BK169.out 0
          have hfz19_1:=qD BK169.out 1
          have hfz19_2:=qD BK169.out 2
          have hfz19_3:=qD BK169.out 3
          have hfz19_4:=qD BK169.out 4
          go_wp2
          refine bodyPost_ret (zL rfl _ _ gb169 107 #[.string (⟨#[]⟩:ByteArray),.string (⟨#[]⟩:ByteArray),.int .u8 0,.int .i64 0,.bool false] (0,0) _ rfl (by (with_reducible repeat (first|apply kN|apply kD|apply kA));refine qK (cs:=#[.string (⟨#[]⟩:ByteArray),.string (⟨#[]⟩:ByteArray),.int .u8 0,.int .i64 0,.bool false]) ?_ 4 _ rfl;(with_reducible repeat (first|apply kN|apply kD|apply kA));refine qK (cs:=#[.string (⟨#[]⟩:ByteArray),.string (⟨#[]⟩:ByteArray),.int .u8 0,.int .i64 0,.bool false]) ?_ 3 _ rfl;(with_reducible repeat (first|apply kN|apply kD|apply kA));refine qK (cs:=#[.string (⟨#[]⟩:ByteArray),.string (⟨#[]⟩:ByteArray),.int .u8 0,.int .i64 0,.bool false]) ?_ 2 _ rfl;(with_reducible repeat (first|apply kN|apply kD|apply kA));refine qK (cs:=#[.string (⟨#[]⟩:ByteArray),.string (⟨#[]⟩:ByteArray),.int .u8 0,.int .i64 0,.bool false]) ?_ 1 _ rfl;(with_reducible repeat (first|apply kN|apply kD|apply kA));refine qK (cs:=#[.string (⟨#[]⟩:ByteArray),.string (⟨#[]⟩:ByteArray),.int .u8 0,.int .i64 0,.bool false]) ?_ 0 _ rfl;(with_reducible repeat (first|apply kN|apply kD|apply kA));exact BK169.out) Tryd.underlying107 rfl mDh) rfl ?_
          exact mAs
         ·rw[if_neg c18] at H
          have c18b0:decide (255<(wrap64 (a0)))=false:=decide_eq_false c18
          clear c18
          have HC20:=am H
          clear H
          go_upto_region 8 with (fail)
          go_cut [36] (fun v36 wc=>∃(kq:Nat) (x36_19:Bool),v36 = .bool x36_19∧Aside0 (qn.j2 kq (wrap64 (a0)) x36_19=some (r1,r2,r3,r4,r5,r6))∧Aside0 (kq≤kj8)∧Aside0 (wc.heap[gb169]? = some (.cells #[.string (⟨#[]⟩:ByteArray),.string (⟨#[]⟩:ByteArray),.int .u8 0,.int .i64 0,.bool false] 107 (0,0)))∧Aside0 (Below w.heap.size w wc))
          case first =>
           have H:=HC20.out
           clear HC20
           by_cases c21:(wrap64 (a0))≥65
           ·rw[if_pos c21] at H
            have c21b0:decide (65≤(wrap64 (a0)))=true:=decide_eq_true c21
            clear c21
            (first|rw[c21b0]|(simp only[zX,zn];rw[c21b0])|skip)
            have H':=am H
            clear H
            go_wp2
            go_meet
            case rel=>exact⟨_,(decide ((wrap64 (a0))<208)),mDm,H',⟨by have:=HJ1.out;have:=HJ8.out;first|omega|exact Nat.le_refl _⟩,⟨by (with_reducible repeat (first|apply kN|apply kD|apply kA));exact BK169.out⟩,⟨mCn⟩⟩
           ·rw[if_neg c21] at H
            have c21b0:decide (65≤(wrap64 (a0)))=false:=decide_eq_false c21
            clear c21
            (first|rw[c21b0]|(simp only[zX,zn];rw[c21b0])|skip)
            have H':=am H
            clear H
            go_wp2
            go_meet
            case rel=>exact⟨_,(false),mDm,H',⟨by have:=HJ1.out;have:=HJ8.out;first|omega|exact Nat.le_refl _⟩,⟨by (with_reducible repeat (first|apply kN|apply kD|apply kA));exact BK169.out⟩,⟨mCn⟩⟩
          case rest =>
           clear HC20
           try clear c1
           try clear c2
           try clear p2
           try clear c4
           try clear c4b0
           try clear c5
           try clear p6
           try clear c10
           try clear c10b0
           try clear c11
           try clear c18
           try clear c18b0
           try clear c21
           try clear c21b0
           try clear hcz17_0
           try clear hcz17_1
           try clear hcz17_2
           try clear hcz17_3
           try clear hcz17_4
           try clear hcz19_0
           try clear hcz19_1
           try clear hcz19_2
           try clear hcz19_3
           try clear hcz19_4
           try clear hcz8_0
           try clear hcz8_1
           try clear hcz8_2
           try clear hcz8_3
           try clear hcz8_4
           try clear hfz17_0
           try clear hfz17_1
           try clear hfz17_2
           try clear hfz17_3
           try clear hfz17_4
           try clear hfz19_0
           try clear hfz19_1
           try clear hfz19_2
           try clear hfz19_3
           try clear hfz19_4
           try clear hfz8_0
           try clear hfz8_1
           try clear hfz8_2
           try clear hfz8_3
           try clear hfz8_4
           try clear p2
           try clear p6
           obtain⟨kq,x36_19,rfl,HA,HJ19,BK169,HB⟩:=hcut
           cases kq with
           | zero=>exact absurd HA.out (by simp[qn.j2])
           | succ kj19 =>
             have H:=HA.out
             clear HA
             simp only[qn.j2] at H
             by_cases c22:x36_19=true
             ·subst c22
              rw[if_pos rfl] at H
              try dsimp only at H
              replace H:=Option.bind_eq_some_iff.mp H
              obtain⟨t185,A230,H⟩:=H
              try dsimp only at H
              have A23:=am A230
              clear A230
              replace H:=Option.bind_eq_some_iff.mp H
              obtain⟨⟨t188,t189,t190,t191,t192,t193⟩,A240,H⟩:=H
              try dsimp only at H
              have A24:=am A240
              clear A240
              simp only[Option.some.injEq,Prod.mk.injEq] at H
              obtain⟨rfl,rfl,rfl,rfl,rfl,rfl⟩:=H
              go_wp2_with (first|((with_reducible refine qO (f:=75) rfl ?_);refine qo (some 43) rfl rfl Tryd.func75 mDh rfl #[] rfl mCe ?_;(with_reducible refine(zj.calls  t185 _ A23.out).mono ?_);rintro e w25 ⟨v186,rfl,ho0,hb⟩;refine⟨_,rfl,?_⟩;have n0_:=am (Kd.R_lower ho0 (qM mCn));have n1_:=am (qG (g:=gb169) (o:=.cells #[.string (⟨#[]⟩:ByteArray),.string (⟨#[]⟩:ByteArray),.int .u8 0,.int .i64 0,.bool false] 107 (0,0)) (kx_ BK169.out) hb);have n2_:=am (qB mCn hb);clear BK169;clear HB;have HO187:=n0_;have BK169:=n1_;have HB:=n2_;clear n0_ n1_ n2_;(try clear hb);(try clear hb2);(try clear hk);(try clear hi);(try clear ho0);obtain⟨Ao26,co26,eo26⟩:=Kd.R_slice HO187.out;subst eo26)|((with_reducible refine qO (f:=73) rfl ?_);refine qo (some 45) rfl rfl Tryd.func73 mDh rfl #[.slice Ao26 t185.length co26,.int .i64 (wrap64 (a0))] rfl mCe ?_;(with_reducible refine(qU.calls (hT:=mCd) kj19 _ _ t185 (wrap64 (a0)) t188 t189 t190 t191 t192 t193 _ ?side1 ?side2 A24.out).mono ?_);(case side1=>repeat (first|exact(Kd.R_reads' HO187.out).2.2|(with_reducible refine Kd.C_alloc ?_ _)|(with_reducible refine Kd.C_drewN ?_ _)|(with_reducible refine Kd.C_drew ?_)));(case side2=>exact(Kd.R_reads' HO187.out).2.1);rintro e w27 ⟨rfl,hb⟩;refine⟨_,rfl,?_⟩;have n0_:=am (Kd.R_below (kr_ HO187.out) hb);have n1_:=am (qG (g:=gb169) (o:=.cells #[.string (⟨#[]⟩:ByteArray),.string (⟨#[]⟩:ByteArray),.int .u8 0,.int .i64 0,.bool false] 107 (0,0)) (kx_ BK169.out) hb);have n2_:=am (qB mCn hb);clear HO187;clear BK169;clear HB;have HO187:=n0_;have BK169:=n1_;have HB:=n2_;clear n0_ n1_ n2_;(try clear hb);(try clear hb2);(try clear hk);(try clear hi);have hcz28_0:w27.cell? ⟨gb169,0,none⟩=some (.string (⟨#[]⟩:ByteArray)):=(qA BK169.out 0).trans rfl;have hcz28_1:w27.cell? ⟨gb169,1,none⟩=some (.string (⟨#[]⟩:ByteArray)):=(qA BK169.out 1).trans rfl;have hcz28_2:w27.cell? ⟨gb169,2,none⟩=some (.int .u8 0):=(qA BK169.out 2).trans rfl;have hcz28_3:w27.cell? ⟨gb169,3,none⟩=some (.int .i64 0):=(qA BK169.out 3).trans rfl;have hcz28_4:w27.cell? ⟨gb169,4,none⟩=some (.bool false):=(qA BK169.out 4).trans rfl;have hfz28_0:=qD BK169.out 0;have hfz28_1:=qD BK169.out 1;have hfz28_2:=qD BK169.out 2;have hfz28_3:=qD BK169.out 3;have hfz28_4:=qD BK169.out 4))
              refine bodyPost_ret (zL rfl _ _ gb169 107 #[.string t188,.string t189,.int .u8 t190,.int .i64 t191,.bool t192] (0,0) _ rfl (by (with_reducible repeat (first|apply kN|apply kD|apply kA));refine qK (cs:=#[.string t188,.string t189,.int .u8 t190,.int .i64 t191,.bool false]) ?_ 4 _ rfl;(with_reducible repeat (first|apply kN|apply kD|apply kA));refine qK (cs:=#[.string t188,.string t189,.int .u8 t190,.int .i64 0,.bool false]) ?_ 3 _ rfl;(with_reducible repeat (first|apply kN|apply kD|apply kA));refine qK (cs:=#[.string t188,.string t189,.int .u8 0,.int .i64 0,.bool false]) ?_ 2 _ rfl;(with_reducible repeat (first|apply kN|apply kD|apply kA));refine qK (cs:=#[.string t188,.string (⟨#[]⟩:ByteArray),.int .u8 0,.int .i64 0,.bool false]) ?_ 1 _ rfl;(with_reducible repeat (first|apply kN|apply kD|apply kA));refine qK (cs:=#[.string (⟨#[]⟩:ByteArray),.string (⟨#[]⟩:ByteArray),.int .u8 0,.int .i64 0,.bool false]) ?_ 0 _ rfl;(with_reducible repeat (first|apply kN|apply kD|apply kA));exact BK169.out) Tryd.underlying107 rfl mDh) rfl ?_
              exact mAs
             ·replace c22:=Bool.eq_false_iff.mpr c22
              subst c22
              rw[if_neg (show ¬(false=true) by decide)] at H
              try dsimp only at H
              replace H:=Option.bind_eq_some_iff.mp H
              obtain⟨t194,A290,H⟩:=H
              try dsimp only at H
              have A29:=am A290
              clear A290
              replace H:=Option.bind_eq_some_iff.mp H
              obtain⟨⟨t197,t198,t199,t200,t201,t202⟩,A300,H⟩:=H
              try dsimp only at H
              have A30:=am A300
              clear A300
              simp only[Option.some.injEq,Prod.mk.injEq] at H
              obtain⟨rfl,rfl,rfl,rfl,rfl,rfl⟩:=H
              go_wp2_with (first|((with_reducible refine qO (f:=76) rfl ?_);refine qo (some 48) rfl rfl Tryd.func76 mDh rfl #[] rfl mCe ?_;(with_reducible refine(zk.calls  t194 _ A29.out).mono ?_);rintro e w31 ⟨v195,rfl,ho0,hb⟩;refine⟨_,rfl,?_⟩;have n0_:=am (Kd.R_lower ho0 (qM mCn));have n1_:=am (qG (g:=gb169) (o:=.cells #[.string (⟨#[]⟩:ByteArray),.string (⟨#[]⟩:ByteArray),.int .u8 0,.int .i64 0,.bool false] 107 (0,0)) (kx_ BK169.out) hb);have n2_:=am (qB mCn hb);clear BK169;clear HB;have HO196:=n0_;have BK169:=n1_;have HB:=n2_;clear n0_ n1_ n2_;(try clear hb);(try clear hb2);(try clear hk);(try clear hi);(try clear ho0);obtain⟨Ao32,co32,eo32⟩:=Kd.R_slice HO196.out;subst eo32)|((with_reducible refine qO (f:=73) rfl ?_);refine qo (some 50) rfl rfl Tryd.func73 mDh rfl #[.slice Ao32 t194.length co32,.int .i64 (wrap64 (a0))] rfl mCe ?_;(with_reducible refine(qU.calls (hT:=mCd) kj19 _ _ t194 (wrap64 (a0)) t197 t198 t199 t200 t201 t202 _ ?side1 ?side2 A30.out).mono ?_);(case side1=>repeat (first|exact(Kd.R_reads' HO196.out).2.2|(with_reducible refine Kd.C_alloc ?_ _)|(with_reducible refine Kd.C_drewN ?_ _)|(with_reducible refine Kd.C_drew ?_)));(case side2=>exact(Kd.R_reads' HO196.out).2.1);rintro e w33 ⟨rfl,hb⟩;refine⟨_,rfl,?_⟩;have n0_:=am (Kd.R_below (kr_ HO196.out) hb);have n1_:=am (qG (g:=gb169) (o:=.cells #[.string (⟨#[]⟩:ByteArray),.string (⟨#[]⟩:ByteArray),.int .u8 0,.int .i64 0,.bool false] 107 (0,0)) (kx_ BK169.out) hb);have n2_:=am (qB mCn hb);clear HO196;clear BK169;clear HB;have HO196:=n0_;have BK169:=n1_;have HB:=n2_;clear n0_ n1_ n2_;(try clear hb);(try clear hb2);(try clear hk);(try clear hi);have hcz34_0:w33.cell? ⟨gb169,0,none⟩=some (.string (⟨#[]⟩:ByteArray)):=(qA BK169.out 0).trans rfl;have hcz34_1:w33.cell? ⟨gb169,1,none⟩=some (.string (⟨#[]⟩:ByteArray)):=(qA BK169.out 1).trans rfl;have hcz34_2:w33.cell? ⟨gb169,2,none⟩=some (.int .u8 0):=(qA BK169.out 2).trans rfl;have hcz34_3:w33.cell? ⟨gb169,3,none⟩=some (.int .i64 0):=(qA BK169.out 3).trans rfl;have hcz34_4:w33.cell? ⟨gb169,4,none⟩=some (.bool false):=(qA BK169.out 4).trans rfl;have hfz34_0:=qD BK169.out 0;have hfz34_1:=qD BK169.out 1;have hfz34_2:=qD BK169.out 2;have hfz34_3:=qD BK169.out 3;have hfz34_4:=qD BK169.out 4))
              refine bodyPost_ret (zL rfl _ _ gb169 107 #[.string t197,.string t198,.int .u8 t199,.int .i64 t200,.bool t201] (0,0) _ rfl (by (with_reducible repeat (first|apply kN|apply kD|apply kA));refine qK (cs:=#[.string t197,.string t198,.int .u8 t199,.int .i64 t200,.bool false]) ?_ 4 _ rfl;(with_reducible repeat (first|apply kN|apply kD|apply kA));refine qK (cs:=#[.string t197,.string t198,.int .u8 t199,.int .i64 0,.bool false]) ?_ 3 _ rfl;(with_reducible repeat (first|apply kN|apply kD|apply kA));refine qK (cs:=#[.string t197,.string t198,.int .u8 0,.int .i64 0,.bool false]) ?_ 2 _ rfl;(with_reducible repeat (first|apply kN|apply kD|apply kA));refine qK (cs:=#[.string t197,.string (⟨#[]⟩:ByteArray),.int .u8 0,.int .i64 0,.bool false]) ?_ 1 _ rfl;(with_reducible repeat (first|apply kN|apply kD|apply kA));refine qK (cs:=#[.string (⟨#[]⟩:ByteArray),.string (⟨#[]⟩:ByteArray),.int .u8 0,.int .i64 0,.bool false]) ?_ 0 _ rfl;(with_reducible repeat (first|apply kN|apply kD|apply kA));exact BK169.out) Tryd.underlying107 rfl mDh) rfl ?_
              exact mAs
def qW.f (k:Nat)(a0:Int):Option (Int × ByteArray × Int × List Int × List Int × Int × Bool × Int):=(qn.f k a0).bind fun bt204=>(if bt204.2.2.2.2.2=true then ((strings_Cut.f bt204.2.1 (⟨#[58]⟩:ByteArray)).bind fun bt211=>((qr.f k bt211.1).bind fun t214=>((qr.f k bt211.2.1).bind fun t217=>(some (a0,bt204.1,bt204.2.2.1,t214,t217,bt204.2.2.2.1,bt204.2.2.2.2.1,0))))) else (some (0,(⟨#[]⟩:ByteArray),0,([]:List Int),([]:List Int),0,false,11)))
def qW.T5:Bool × List (List Nat × List Nat):=(true,[([],[]),([],[]),([1],[1]),([],[]),([3],[3]),([],[]),([5],[5]),([],[]),([7,6],[7]),([],[]),([9],[9]),([],[]),([11],[11]),([0,2,4,6,8,10,12],[0,2,4,6,8,10,12]),([13,8,0,1,2,3,4,5,6,7,8,9,10,11,12,13],[13]),([14,0,1,2,3,4,5,6,7,8,9,10,11,12,13,14],[])])
def qW.B5:List Nat:=[0,0,2,0,8,0,32,0,224,0,512,0,2048,8191,16383,32767]
theorem qW.tab5:jO .any (xL Tryd.f42 5)=qW.T5:=mDh
theorem qW.bits5:zc qW.T5.2 qW.B5=true:=mDh
set_option maxRecDepth 100000 in
theorem qW.calls (k:Nat)(a0:Int)(r1:Int)(r2:ByteArray)(r3:Int)(r4:List Int)(r5:List Int)(r6:Int)(r7:Bool)(r8:Int)(w:World)(hT:YtobldeamemmokaaDoorTabs.Tab w)(h:qW.f k a0=some (r1,r2,r3,r4,r5,r6,r7,r8)):
 Calls Tryd.prog 42 #[.int .u16 a0] w fun e w'=>∃ v3_ v4_:Value,e = .returned (.tuple #[.agg #[.int .u16 r1,.string r2,.int .u8 r3,v3_,v4_,.int .i64 r6,.bool r7],.int .i64 r8])∧Kd.R (Kd.int .u8) 39 w' w.heap.size (fun k_=>some k_≠(v4_:Value).ownBlock) v3_ r4∧Kd.R (Kd.int .u8) 39 w' w.heap.size (fun k_=>some k_≠(v3_:Value).ownBlock) v4_ r5∧Below w.heap.size w w':=by
 have HT:=am hT
 clear hT
 have hu79:=Tryd.underlying79
 have hu107:=Tryd.underlying107
 have HB:=am (Below.refl w.heap.size w)
 have H:=h
 unfold qW.f at H
 clear h
 replace H:=Option.bind_eq_some_iff.mp H
 obtain⟨⟨t204,t205,t206,t207,t208,t209⟩,A20,H⟩:=H
 try dsimp only at H
 have A2:=am A20
 clear A20
 by_cases c3:t209=true
 ·subst c3
  rw[if_pos rfl] at H
  try dsimp only at H
  replace H:=Option.bind_eq_some_iff.mp H
  obtain⟨⟨t211,t212,t213⟩,A40,H⟩:=H
  try dsimp only at H
  have A4:=am A40
  clear A40
  replace H:=Option.bind_eq_some_iff.mp H
  obtain⟨t214,A50,H⟩:=H
  try dsimp only at H
  have A5:=am A50
  clear A50
  replace H:=Option.bind_eq_some_iff.mp H
  obtain⟨t217,A60,H⟩:=H
  try dsimp only at H
  have A6:=am A60
  clear A60
  simp only[Option.some.injEq,Prod.mk.injEq] at H
  obtain⟨rfl,rfl,rfl,rfl,rfl,rfl,rfl,rfl⟩:=H
  go_enter Tryd.func42,Tryd.ntmps42
  try go_wp2_with (first|((with_reducible refine qE (N:=2) rfl ?_);refine zd ?hg (N:=2) ?hd (cs:=#[.int .u16 0,.string (⟨#[]⟩:ByteArray),.int .u8 0,.slice none 0 0,.slice none 0 0,.int .i64 0,.bool false]) (t:=79) ?hr ?_;(case hd=>rfl);(case hg=>rfl);(case hr=>first|(go_simp;done)|(go_simp;rfl));intro gb203 hg w7 hbox hb;have n0_:=am (qB mCf hb);have n1_:=am (hbox);have n2_:=am ((mD1:w.heap.size≤gb203));have n3_:=am ((mD1:w.heap.size≤gb203));clear HB;have HB:=n0_;have BK203:=n1_;have GW203:=n2_;have GE203:=n3_;clear n0_ n1_ n2_ n3_;clear hb hbox hg)|((with_reducible refine qO (f:=60) rfl ?_);refine qo (some 11) rfl rfl Tryd.func60 mDh rfl #[.int .u16 a0] rfl mCe ?_;(with_reducible refine(qn.calls (hT:=mCd) k a0 t204 t205 t206 t207 t208 true _ A2.out).mono ?_);rintro e w8 ⟨rfl,hb⟩;refine⟨_,rfl,?_⟩;have n0_:=am (qG (g:=gb203) (o:=.cells #[.int .u16 0,.string (⟨#[]⟩:ByteArray),.int .u8 0,.slice none 0 0,.slice none 0 0,.int .i64 0,.bool false] 79 (0,0)) (kx_ BK203.out) hb);have n1_:=am (qB mCp hb);clear BK203;clear HB;have BK203:=n0_;have HB:=n1_;clear n0_ n1_;(try clear hb);(try clear hb2);(try clear hk);(try clear hi))|((with_reducible refine qE (N:=4) rfl ?_);refine zd ?hg (N:=4) ?hd (cs:=#[.string (⟨#[]⟩:ByteArray),.string (⟨#[]⟩:ByteArray),.int .u8 0,.int .i64 0,.bool false]) (t:=107) ?hr ?_;(case hd=>rfl);(case hg=>rfl);(case hr=>first|(go_simp;done)|(go_simp;rfl));intro gb210 hg w9 hbox hb;have n0_:=am (qG (g:=gb203) (o:=.cells #[.int .u16 0,.string (⟨#[]⟩:ByteArray),.int .u8 0,.slice none 0 0,.slice none 0 0,.int .i64 0,.bool false] 79 (0,0)) (kx_ BK203.out) hb);have n1_:=am (qB mCp hb);have n2_:=am (hbox);have n3_:=am ((mEi:w.heap.size≤gb210));have n4_:=am ((mEi:w.heap.size≤gb210));have n5_:=am ((mC7:gb203≠gb210));have n6_:=am ((mC8:gb210≠gb203));clear BK203;clear HB;have BK203:=n0_;have HB:=n1_;have BK210:=n2_;have GW210:=n3_;have GE210:=n4_;have NB203_210:=n5_;have NB210_203:=n6_;clear n0_ n1_ n2_ n3_ n4_ n5_ n6_;clear hb hbox hg;have hnb10:=NB210_203.out;have hnc10:=NB203_210.out;have hcz11_0:w9.cell? ⟨gb210,0,none⟩=some (.string (⟨#[]⟩:ByteArray)):=(qA BK210.out 0).trans rfl;have hcz11_1:w9.cell? ⟨gb210,1,none⟩=some (.string (⟨#[]⟩:ByteArray)):=(qA BK210.out 1).trans rfl;have hcz11_2:w9.cell? ⟨gb210,2,none⟩=some (.int .u8 0):=(qA BK210.out 2).trans rfl;have hcz11_3:w9.cell? ⟨gb210,3,none⟩=some (.int .i64 0):=(qA BK210.out 3).trans rfl;have hcz11_4:w9.cell? ⟨gb210,4,none⟩=some (.bool false):=(qA BK210.out 4).trans rfl;have hfz11_0:=qD BK210.out 0;have hfz11_1:=qD BK210.out 1;have hfz11_2:=qD BK210.out 2;have hfz11_3:=qD BK210.out 3;have hfz11_4:=qD BK210.out 4)|((with_reducible refine qO (f:=61) rfl ?_);refine qo (some 20) rfl rfl Tryd.func61 mDh rfl #[.string t205,.string (⟨#[58]⟩:ByteArray)] rfl mCe ?_;(with_reducible refine(strings_Cut.calls (hT:=mCd) t205 (⟨#[58]⟩:ByteArray) t211 t212 t213 _ A4.out).mono ?_);rintro e w' ⟨rfl,⟨nd,rfl⟩⟩;refine⟨_,rfl,?_⟩))
  have n0_:Aside0 ((((((w9.setCell ⟨gb210,0,none⟩ (.string t204)).setCell ⟨gb210,1,none⟩ (.string t205)).setCell ⟨gb210,2,none⟩ (.int .u8 t206)).setCell ⟨gb210,3,none⟩ (.int .i64 t207)).setCell ⟨gb210,4,none⟩ (.bool t208)).heap[gb203]? = some (.cells #[.int .u16 0,.string (⟨#[]⟩:ByteArray),.int .u8 0,.slice none 0 0,.slice none 0 0,.int .i64 0,.bool false] 79 (0,0))):=⟨by (with_reducible repeat (first|apply kN|apply kD|apply kA));refine qp ?_ NB203_210.out _;(with_reducible repeat (first|apply kN|apply kD|apply kA));refine qp ?_ NB203_210.out _;(with_reducible repeat (first|apply kN|apply kD|apply kA));refine qp ?_ NB203_210.out _;(with_reducible repeat (first|apply kN|apply kD|apply kA));refine qp ?_ NB203_210.out _;(with_reducible repeat (first|apply kN|apply kD|apply kA));refine qp ?_ NB203_210.out _;(with_reducible repeat (first|apply kN|apply kD|apply kA));exact BK203.out⟩
  have n1_:Aside0 ((((((w9.setCell ⟨gb210,0,none⟩ (.string t204)).setCell ⟨gb210,1,none⟩ (.string t205)).setCell ⟨gb210,2,none⟩ (.int .u8 t206)).setCell ⟨gb210,3,none⟩ (.int .i64 t207)).setCell ⟨gb210,4,none⟩ (.bool t208)).heap[gb210]? = some (.cells #[.string t204,.string t205,.int .u8 t206,.int .i64 t207,.bool t208] 107 (0,0))):=⟨by (with_reducible repeat (first|apply kN|apply kD|apply kA));refine qK (cs:=#[.string t204,.string t205,.int .u8 t206,.int .i64 t207,.bool false]) ?_ 4 _ rfl;(with_reducible repeat (first|apply kN|apply kD|apply kA));refine qK (cs:=#[.string t204,.string t205,.int .u8 t206,.int .i64 0,.bool false]) ?_ 3 _ rfl;(with_reducible repeat (first|apply kN|apply kD|apply kA));refine qK (cs:=#[.string t204,.string t205,.int .u8 0,.int .i64 0,.bool false]) ?_ 2 _ rfl;(with_reducible repeat (first|apply kN|apply kD|apply kA));refine qK (cs:=#[.string t204,.string (⟨#[]⟩:ByteArray),.int .u8 0,.int .i64 0,.bool false]) ?_ 1 _ rfl;(with_reducible repeat (first|apply kN|apply kD|apply kA));refine qK (cs:=#[.string (⟨#[]⟩:ByteArray),.string (⟨#[]⟩:ByteArray),.int .u8 0,.int .i64 0,.bool false]) ?_ 0 _ rfl;(with_reducible repeat (first|apply kN|apply kD|apply kA));exact BK210.out⟩
  have n2_:Aside0 (Below w.heap.size w (((((w9.setCell ⟨gb210,0,none⟩ (.string t204)).setCell ⟨gb210,1,none⟩ (.string t205)).setCell ⟨gb210,2,none⟩ (.int .u8 t206)).setCell ⟨gb210,3,none⟩ (.int .i64 t207)).setCell ⟨gb210,4,none⟩ (.bool t208))):=⟨mCu⟩
  (try clear BK203)
  (try clear BK210)
  (try clear HB)
  generalize (((((w9.setCell ⟨gb210,0,none⟩ (.string t204)).setCell ⟨gb210,1,none⟩ (.string t205)).setCell ⟨gb210,2,none⟩ (.int .u8 t206)).setCell ⟨gb210,3,none⟩ (.int .i64 t207)).setCell ⟨gb210,4,none⟩ (.bool t208))=w12 at n0_ n1_ n2_ ⊢
  have BK203:=n0_
  have BK210:=n1_
  have HB:=n2_
  clear n0_ n1_ n2_
  (try (rw[qEc w12];generalize hq_:World.drewN w12 _=w12;have n0_:Aside0 (w12.heap[gb203]? = some (.cells #[.int .u16 0,.string (⟨#[]⟩:ByteArray),.int .u8 0,.slice none 0 0,.slice none 0 0,.int .i64 0,.bool false] 79 (0,0))):=⟨by rw[← hq_];exact(kx_ BK203.out)⟩;have n1_:Aside0 (w12.heap[gb210]? = some (.cells #[.string t204,.string t205,.int .u8 t206,.int .i64 t207,.bool t208] 107 (0,0))):=⟨by rw[← hq_];exact(kx_ BK210.out)⟩;have n2_:Aside0 (Below w.heap.size w w12):=⟨by rw[← hq_];exact mCu⟩;clear BK203 BK210 HB hq_;have BK203:=n0_;have BK210:=n1_;have HB:=n2_;clear n0_ n1_ n2_))
  have n0_:=am (za BK203.out)
  have n1_:=am (za BK210.out)
  have n2_:=am (qP HB.out)
  clear BK203
  clear BK210
  clear HB
  have BK203:=n0_
  have BK210:=n1_
  have HB:=n2_
  clear n0_ n1_ n2_
  refine jQ (n:=16) (S:=fun w'=>w'.cell? ⟨gb210,0,none⟩=some (.string t204)∧w'.cell? ⟨gb210,1,none⟩=some (.string t205)∧w'.cell? ⟨gb210,2,none⟩=some (.int .u8 t206)∧w'.cell? ⟨gb210,3,none⟩=some (.int .i64 t207)∧w'.cell? ⟨gb210,4,none⟩=some (.bool t208)) (ds:=[]) #[false,false,false,false,false,false,false,false,false,false,false,false,false,false,false,false] mDh rfl rfl ⟨(qA BK210.out 0).trans rfl,(qA BK210.out 1).trans rfl,(qA BK210.out 2).trans rfl,(qA BK210.out 3).trans rfl,(qA BK210.out 4).trans rfl⟩ (fun hHeld=>?_);refine zQ qW.tab5 qW.bits5 (fun HT_ HW_=>?_)
  generalize w12.drew=w13 at BK203 BK210 HB hHeld ⊢
  refine qY (i:=0) (N:=some 24) (v:=?_) (a':=?_) #[true,false,false,false,false,false,false,false,false,false,false,false,false,false,false,false] rfl rfl (qS HT_.out mDh) (fun _ _ _ h=>h) (Or.inl ⟨mD2,?_⟩) ?_ ?_
  rotate_left
  ·intro w'
   go_simp
   with_reducible rfl
  rotate_left
  ·exact mAe
  refine qY (i:=1) (N:=some 25) (v:=?_) (a':=?_) #[true,true,false,false,false,false,false,false,false,false,false,false,false,false,false,false] rfl rfl (qS HT_.out mDh) (fun _ _ _ h=>h) (Or.inl ⟨mD2,?_⟩) ?_ ?_
  rotate_left
  ·intro w'
   go_simp
   with_reducible rfl
  rotate_left
  ·exact mAe
  refine qY (i:=3) (N:=some 27) (v:=?_) (a':=?_) #[true,true,false,true,false,false,false,false,false,false,false,false,false,false,false,false] rfl rfl (qS HT_.out mDh) (fun _ _ _ h=>h) (Or.inl ⟨mD2,?_⟩) ?_ ?_
  rotate_left
  ·intro w'
   go_simp
   with_reducible rfl
  rotate_left
  ·exact mAe
  refine qY (i:=5) (N:=some 29) (v:=?_) (a':=?_) #[true,true,false,true,false,true,false,false,false,false,false,false,false,false,false,false] rfl rfl (qS HT_.out mDh) (fun _ _ _ h=>h) (Or.inl ⟨mD2,?_⟩) ?_ ?_
  rotate_left
  ·intro w'
   go_simp
   with_reducible rfl
  rotate_left
  ·exact mAe
  refine qY (i:=7) (N:=some 31) (v:=?_) (a':=?_) #[true,true,false,true,false,true,false,true,false,false,false,false,false,false,false,false] rfl rfl (qS HT_.out mDh) (fun _ _ _ h=>h) (Or.inl ⟨mD2,?_⟩) ?_ ?_
  rotate_left
  ·intro w'
   go_simp
   with_reducible rfl
  rotate_left
  ·exact mAe
  refine qY (i:=9) (N:=some 33) (v:=?_) (a':=?_) #[true,true,false,true,false,true,false,true,false,true,false,false,false,false,false,false] rfl rfl (qS HT_.out mDh) (fun _ _ _ h=>h) (Or.inl ⟨mD2,?_⟩) ?_ ?_
  rotate_left
  ·intro w'
   go_simp
   with_reducible rfl
  rotate_left
  ·exact mAe
  refine qY (i:=11) (N:=some 35) (v:=?_) (a':=?_) #[true,true,false,true,false,true,false,true,false,true,false,true,false,false,false,false] rfl rfl (qS HT_.out mDh) (fun _ _ _ h=>h) (Or.inl ⟨mD2,?_⟩) ?_ ?_
  rotate_left
  ·intro w'
   go_simp
   with_reducible rfl
  rotate_left
  ·exact mAe
  refine take_ (i:=2) (N:=some 26) (v:=?_) (a':=?_) #[true,true,true,true,false,true,false,true,false,true,false,true,false,false,false,false] rfl rfl (qm HT_.out HW_.out mDh) (fun _ _ _ h=>h) (Or.inl ⟨mD2,?_⟩) hHeld ?_ ?_
  rotate_left
  ·exact mB7
  rotate_left
  ·exact mAe
  refine take_ (i:=4) (N:=some 28) (v:=?_) (a':=?_) #[true,true,true,true,true,true,false,true,false,true,false,true,false,false,false,false] rfl rfl (qm HT_.out HW_.out mDh) (fun _ _ _ h=>h) (Or.inl ⟨mD2,?_⟩) hHeld ?_ ?_
  rotate_left
  ·exact mB7
  rotate_left
  ·exact mAe
  refine take_ (i:=10) (N:=some 34) (v:=?_) (a':=?_) #[true,true,true,true,true,true,false,true,false,true,true,true,false,false,false,false] rfl rfl (qm HT_.out HW_.out mDh) (fun _ _ _ h=>h) (Or.inl ⟨mD2,?_⟩) hHeld ?_ ?_
  rotate_left
  ·exact mB7
  rotate_left
  ·exact mAe
  refine take_ (i:=12) (N:=some 36) (v:=?_) (a':=?_) #[true,true,true,true,true,true,false,true,false,true,true,true,true,false,false,false] rfl rfl (qm HT_.out HW_.out mDh) (fun _ _ _ h=>h) (Or.inl ⟨mD2,?_⟩) hHeld ?_ ?_
  rotate_left
  ·exact mB7
  rotate_left
  ·exact mAe
  refine jC (i:=6) (N:=some 30) #[true,true,true,true,true,true,true,true,false,true,true,true,true,false,false,false] rfl rfl (qq HT_.out mDh) mDl (fun K hK=>?_)
  refine yD Tryd.func62 mDh rfl #[.string t211] mD2 rfl rfl mCe ?_
  with_reducible refine(qr.calls k t211 t214 _ A5.out).mono ?_
  rintro e w14 ⟨v215,rfl,ho0,hb⟩
  refine⟨_,rfl,?_⟩
  have n0_:=am (Kd.R_lower ho0 (qM mCu))
  have n1_:=am (qG (g:=gb203) (o:=.cells #[.int .u16 0,.string (⟨#[]⟩:ByteArray),.int .u8 0,.slice none 0 0,.slice none 0 0,.int .i64 0,.bool false] 79 (0,0)) (kx_ BK203.out) hb)
  have n2_:=am (qG (g:=gb210) (o:=.cells #[.string t204,.string t205,.int .u8 t206,.int .i64 t207,.bool t208] 107 (0,0)) (kx_ BK210.out) hb)
  have n3_:=am (qB mCu hb)
  clear BK203
  clear BK210
  clear HB
  have HO216:=n0_
  have BK203:=n1_
  have BK210:=n2_
  have HB:=n3_
  clear n0_ n1_ n2_ n3_
  (try clear hb)
  (try clear hb2)
  (try clear hk)
  (try clear hi)
  (try clear ho0)
  refine hK.out _ _ ⟨(qA BK210.out 0).trans rfl,(qA BK210.out 1).trans rfl,(qA BK210.out 2).trans rfl,(qA BK210.out 3).trans rfl,(qA BK210.out 4).trans rfl⟩ (fun hHeld=>?_)
  clear hK K
  refine zJ (a':=?_) ?_ ?_
  rotate_left
  ·show Act.put _ (some 30) _=_
   exact mAe
  refine jC (i:=8) (N:=some 32) #[true,true,true,true,true,true,true,true,true,true,true,true,true,false,false,false] rfl rfl (qq HT_.out mDh) mDl (fun K hK=>?_)
  refine yD Tryd.func62 mDh rfl #[.string t212] mD2 rfl rfl mCe ?_
  with_reducible refine(qr.calls k t212 t217 _ A6.out).mono ?_
  rintro e w15 ⟨v218,rfl,ho0,hb⟩
  refine⟨_,rfl,?_⟩
  have n0_:=am (Kd.R_elder' (kr_ HO216.out) (Kd.R_base ho0) hb)
  have n1_:=am (Kd.R_lower (Kd.R_new' ho0 (Kd.R_lt (kr_ HO216.out))) (qM mCu))
  have n2_:=am (qG (g:=gb203) (o:=.cells #[.int .u16 0,.string (⟨#[]⟩:ByteArray),.int .u8 0,.slice none 0 0,.slice none 0 0,.int .i64 0,.bool false] 79 (0,0)) (kx_ BK203.out) hb)
  have n3_:=am (qG (g:=gb210) (o:=.cells #[.string t204,.string t205,.int .u8 t206,.int .i64 t207,.bool t208] 107 (0,0)) (kx_ BK210.out) hb)
  have n4_:=am (qB mCu hb)
  clear HO216
  clear BK203
  clear BK210
  clear HB
  have HO216:=n0_
  have HO219:=n1_
  have BK203:=n2_
  have BK210:=n3_
  have HB:=n4_
  clear n0_ n1_ n2_ n3_ n4_
  (try clear hb)
  (try clear hb2)
  (try clear hk)
  (try clear hi)
  (try clear ho0)
  obtain⟨Ao16,co16,eo16⟩:=Kd.R_slice HO219.out
  (first|subst eo16|(injection eo16 with f1_ f2_ f3_;have f4_:=f1_.symm;have f5_:=f3_.symm;clear f1_ f2_ f3_;subst f4_;subst f5_))
  obtain⟨Ao17,co17,eo17⟩:=Kd.R_slice HO216.out
  (first|subst eo17|(injection eo17 with f1_ f2_ f3_;have f4_:=f1_.symm;have f5_:=f3_.symm;clear f1_ f2_ f3_;subst f4_;subst f5_))
  refine hK.out _ _ ⟨(qA BK210.out 0).trans rfl,(qA BK210.out 1).trans rfl,(qA BK210.out 2).trans rfl,(qA BK210.out 3).trans rfl,(qA BK210.out 4).trans rfl⟩ (fun hHeld=>?_)
  clear hK K
  refine zJ (a':=?_) ?_ ?_
  rotate_left
  ·show Act.put _ (some 32) _=_
   exact mAe
  refine qY (i:=13) (N:=some 37) (v:=?_) (a':=?_) #[true,true,true,true,true,true,true,true,true,true,true,true,true,true,false,false] rfl rfl (qS HT_.out mDh) (fun _ _ _ h=>h) (Or.inl ⟨mD2,?_⟩) ?_ ?_
  rotate_left
  ·intro w'
   go_simp
   with_reducible rfl
  rotate_left
  ·exact mAe
  refine jC (i:=14) (N:=none) #[true,true,true,true,true,true,true,true,true,true,true,true,true,true,true,false] rfl rfl (qq HT_.out mDh) mDl (fun K hK=>?_)
  have hs18:w15.cell? ⟨gb203,0,none⟩=some (.int .u16 0):=(qA BK203.out 0).trans rfl
  have hfs18:=qD BK203.out 0
  have hns18_1:=NB210_203.out
  have hms18_1:=NB203_210.out
  have hs19:w15.cell? ⟨gb203,1,none⟩=some (.string (⟨#[]⟩:ByteArray)):=(qA BK203.out 1).trans rfl
  have hfs19:=qD BK203.out 1
  have hns19_1:=NB210_203.out
  have hms19_1:=NB203_210.out
  have hs20:w15.cell? ⟨gb203,2,none⟩=some (.int .u8 0):=(qA BK203.out 2).trans rfl
  have hfs20:=qD BK203.out 2
  have hns20_1:=NB210_203.out
  have hms20_1:=NB203_210.out
  have hs21:w15.cell? ⟨gb203,3,none⟩=some (.slice none 0 0):=(qA BK203.out 3).trans rfl
  have hfs21:=qD BK203.out 3
  have hns21_1:=NB210_203.out
  have hms21_1:=NB203_210.out
  have hs22:w15.cell? ⟨gb203,4,none⟩=some (.slice none 0 0):=(qA BK203.out 4).trans rfl
  have hfs22:=qD BK203.out 4
  have hns22_1:=NB210_203.out
  have hms22_1:=NB203_210.out
  have hs23:w15.cell? ⟨gb203,5,none⟩=some (.int .i64 0):=(qA BK203.out 5).trans rfl
  have hfs23:=qD BK203.out 5
  have hns23_1:=NB210_203.out
  have hms23_1:=NB203_210.out
  have hs24:w15.cell? ⟨gb203,6,none⟩=some (.bool false):=(qA BK203.out 6).trans rfl
  have hfs24:=qD BK203.out 6
  have hns24_1:=NB210_203.out
  have hms24_1:=NB203_210.out
  refine qHS (w1:=?_) mD2 rfl ?_ ?_
  rotate_left
  ·go_simp
   rfl
  refine hK.out _ _ ⟨((qQ (p:=⟨gb203,_,none⟩) NB210_203.out _).trans (((qQ (p:=⟨gb203,_,none⟩) NB210_203.out _).trans (((qQ (p:=⟨gb203,_,none⟩) NB210_203.out _).trans (((qQ (p:=⟨gb203,_,none⟩) NB210_203.out _).trans (((qQ (p:=⟨gb203,_,none⟩) NB210_203.out _).trans (((qQ (p:=⟨gb203,_,none⟩) NB210_203.out _).trans (((qQ (p:=⟨gb203,_,none⟩) NB210_203.out _).trans (hHeld.1)))))))))))))),((qQ (p:=⟨gb203,_,none⟩) NB210_203.out _).trans (((qQ (p:=⟨gb203,_,none⟩) NB210_203.out _).trans (((qQ (p:=⟨gb203,_,none⟩) NB210_203.out _).trans (((qQ (p:=⟨gb203,_,none⟩) NB210_203.out _).trans (((qQ (p:=⟨gb203,_,none⟩) NB210_203.out _).trans (((qQ (p:=⟨gb203,_,none⟩) NB210_203.out _).trans (((qQ (p:=⟨gb203,_,none⟩) NB210_203.out _).trans (hHeld.2.1)))))))))))))),((qQ (p:=⟨gb203,_,none⟩) NB210_203.out _).trans (((qQ (p:=⟨gb203,_,none⟩) NB210_203.out _).trans (((qQ (p:=⟨gb203,_,none⟩) NB210_203.out _).trans (((qQ (p:=⟨gb203,_,none⟩) NB210_203.out _).trans (((qQ (p:=⟨gb203,_,none⟩) NB210_203.out _).trans (((qQ (p:=⟨gb203,_,none⟩) NB210_203.out _).trans (((qQ (p:=⟨gb203,_,none⟩) NB210_203.out _).trans (hHeld.2.2.1)))))))))))))),((qQ (p:=⟨gb203,_,none⟩) NB210_203.out _).trans (((qQ (p:=⟨gb203,_,none⟩) NB210_203.out _).trans (((qQ (p:=⟨gb203,_,none⟩) NB210_203.out _).trans (((qQ (p:=⟨gb203,_,none⟩) NB210_203.out _).trans (((qQ (p:=⟨gb203,_,none⟩) NB210_203.out _).trans (((qQ (p:=⟨gb203,_,none⟩) NB210_203.out _).trans (((qQ (p:=⟨gb203,_,none⟩) NB210_203.out _).trans (hHeld.2.2.2.1)))))))))))))),((qQ (p:=⟨gb203,_,none⟩) NB210_203.out _).trans (((qQ (p:=⟨gb203,_,none⟩) NB210_203.out _).trans (((qQ (p:=⟨gb203,_,none⟩) NB210_203.out _).trans (((qQ (p:=⟨gb203,_,none⟩) NB210_203.out _).trans (((qQ (p:=⟨gb203,_,none⟩) NB210_203.out _).trans (((qQ (p:=⟨gb203,_,none⟩) NB210_203.out _).trans (((qQ (p:=⟨gb203,_,none⟩) NB210_203.out _).trans (hHeld.2.2.2.2))))))))))))))⟩ (fun hHeld=>?_)
  clear hK K
  refine qY (i:=15) (N:=some 3) (v:=?_) (a':=?_) #[true,true,true,true,true,true,true,true,true,true,true,true,true,true,true,true] rfl rfl (qS HT_.out mDh) (fun _ _ _ h=>h) (Or.inl ⟨mD2,?_⟩) ?_ ?_
  rotate_left
  ·intro w'
   go_simp
   with_reducible rfl
  rotate_left
  ·exact mAe
  refine xI (zu HT_.out mDh) ?_
  try go_wp2
  refine bodyPost_ret (zL rfl _ _ gb203 79 #[.int .u16 a0,.string t204,.int .u8 t206,.slice Ao17 t214.length co17,.slice Ao16 t217.length co16,.int .i64 t207,.bool t208] (0,0) _ rfl (by (with_reducible repeat (first|apply kN|apply kD|apply kA));refine qK (cs:=#[.int .u16 a0,.string t204,.int .u8 t206,.slice Ao17 t214.length co17,.slice Ao16 t217.length co16,.int .i64 t207,.bool false]) ?_ 6 _ rfl;(with_reducible repeat (first|apply kN|apply kD|apply kA));refine qK (cs:=#[.int .u16 a0,.string t204,.int .u8 t206,.slice Ao17 t214.length co17,.slice Ao16 t217.length co16,.int .i64 0,.bool false]) ?_ 5 _ rfl;(with_reducible repeat (first|apply kN|apply kD|apply kA));refine qK (cs:=#[.int .u16 a0,.string t204,.int .u8 t206,.slice Ao17 t214.length co17,.slice none 0 0,.int .i64 0,.bool false]) ?_ 4 _ rfl;(with_reducible repeat (first|apply kN|apply kD|apply kA));refine qK (cs:=#[.int .u16 a0,.string t204,.int .u8 t206,.slice none 0 0,.slice none 0 0,.int .i64 0,.bool false]) ?_ 3 _ rfl;(with_reducible repeat (first|apply kN|apply kD|apply kA));refine qK (cs:=#[.int .u16 a0,.string t204,.int .u8 0,.slice none 0 0,.slice none 0 0,.int .i64 0,.bool false]) ?_ 2 _ rfl;(with_reducible repeat (first|apply kN|apply kD|apply kA));refine qK (cs:=#[.int .u16 a0,.string (⟨#[]⟩:ByteArray),.int .u8 0,.slice none 0 0,.slice none 0 0,.int .i64 0,.bool false]) ?_ 1 _ rfl;(with_reducible repeat (first|apply kN|apply kD|apply kA));refine qK (cs:=#[.int .u16 0,.string (⟨#[]⟩:ByteArray),.int .u8 0,.slice none 0 0,.slice none 0 0,.int .i64 0,.bool false]) ?_ 0 _ rfl;(with_reducible repeat (first|apply kN|apply kD|apply kA));exact BK203.out) Tryd.underlying79 rfl mDh) rfl ?_
  exact⟨_,_,by first|rfl|(simp[qk,qj] <;> rfl)|(simp[*,qk,qj] <;> rfl),by (with_reducible repeat (first|apply rA|apply rN|apply rD));exact Kd.R_mono (Kd.R_far (p:=⟨gb203,6,none⟩) (Kd.R_far (p:=⟨gb203,5,none⟩) (Kd.R_far (p:=⟨gb203,4,none⟩) (Kd.R_far (p:=⟨gb203,3,none⟩) (Kd.R_far (p:=⟨gb203,2,none⟩) (Kd.R_far (p:=⟨gb203,1,none⟩) (Kd.R_far (p:=⟨gb203,0,none⟩) (Kd.R_types HO216.out BK203.out mDl) (fun _ hk=>hk.2) (.int .u16 a0)) (fun _ hk=>hk.2) (.string t204)) (fun _ hk=>hk.2) (.int .u8 t206)) (fun _ hk=>hk.2) (.slice Ao17 t214.length co17)) (fun _ hk=>hk.2) (.slice Ao16 t217.length co16)) (fun _ hk=>hk.2) (.int .i64 t207)) (fun _ hk=>hk.2) (.bool t208)) (fun _ hk=>hk.1.2),by (with_reducible repeat (first|apply rA|apply rN|apply rD));exact Kd.R_mono (Kd.R_far (p:=⟨gb203,6,none⟩) (Kd.R_far (p:=⟨gb203,5,none⟩) (Kd.R_far (p:=⟨gb203,4,none⟩) (Kd.R_far (p:=⟨gb203,3,none⟩) (Kd.R_far (p:=⟨gb203,2,none⟩) (Kd.R_far (p:=⟨gb203,1,none⟩) (Kd.R_far (p:=⟨gb203,0,none⟩) (Kd.R_types HO219.out BK203.out mDl) (fun _ hk=>hk.2) (.int .u16 a0)) (fun _ hk=>hk.2) (.string t204)) (fun _ hk=>hk.2) (.int .u8 t206)) (fun _ hk=>hk.2) (.slice Ao17 t214.length co17)) (fun _ hk=>hk.2) (.slice Ao16 t217.length co16)) (fun _ hk=>hk.2) (.int .i64 t207)) (fun _ hk=>hk.2) (.bool t208)) (fun _ hk=>hk.1.2),mCu⟩
 ·replace c3:=Bool.eq_false_iff.mpr c3
  subst c3
  rw[if_neg (show ¬(false=true) by decide)] at H
  try dsimp only at H
  simp only[Option.some.injEq,Prod.mk.injEq] at H
  obtain⟨rfl,rfl,rfl,rfl,rfl,rfl,rfl,rfl⟩:=H
  go_enter Tryd.func42,Tryd.ntmps42
  go_wp2_with (first|((with_reducible refine qE (N:=2) rfl ?_);refine zd ?hg (N:=2) ?hd (cs:=#[.int .u16 0,.string (⟨#[]⟩:ByteArray),.int .u8 0,.slice none 0 0,.slice none 0 0,.int .i64 0,.bool false]) (t:=79) ?hr ?_;(case hd=>rfl);(case hg=>rfl);(case hr=>first|(go_simp;done)|(go_simp;rfl));intro gb203 hg w25 hbox hb;have n0_:=am (qB mCf hb);have n1_:=am (hbox);have n2_:=am ((mD1:w.heap.size≤gb203));have n3_:=am ((mD1:w.heap.size≤gb203));clear HB;have HB:=n0_;have BK203:=n1_;have GW203:=n2_;have GE203:=n3_;clear n0_ n1_ n2_ n3_;clear hb hbox hg)|((with_reducible refine qO (f:=60) rfl ?_);refine qo (some 11) rfl rfl Tryd.func60 mDh rfl #[.int .u16 a0] rfl mCe ?_;(with_reducible refine(qn.calls (hT:=mCd) k a0 t204 t205 t206 t207 t208 false _ A2.out).mono ?_);rintro e w26 ⟨rfl,hb⟩;refine⟨_,rfl,?_⟩;have n0_:=am (qG (g:=gb203) (o:=.cells #[.int .u16 0,.string (⟨#[]⟩:ByteArray),.int .u8 0,.slice none 0 0,.slice none 0 0,.int .i64 0,.bool false] 79 (0,0)) (kx_ BK203.out) hb);have n1_:=am (qB mCp hb);clear BK203;clear HB;have BK203:=n0_;have HB:=n1_;clear n0_ n1_;(try clear hb);(try clear hb2);(try clear hk);(try clear hi))|((with_reducible refine qE (N:=4) rfl ?_);refine zd ?hg (N:=4) ?hd (cs:=#[.string (⟨#[]⟩:ByteArray),.string (⟨#[]⟩:ByteArray),.int .u8 0,.int .i64 0,.bool false]) (t:=107) ?hr ?_;(case hd=>rfl);(case hg=>rfl);(case hr=>first|(go_simp;done)|(go_simp;rfl));intro gb210 hg w27 hbox hb;have n0_:=am (qG (g:=gb203) (o:=.cells #[.int .u16 0,.string (⟨#[]⟩:ByteArray),.int .u8 0,.slice none 0 0,.slice none 0 0,.int .i64 0,.bool false] 79 (0,0)) (kx_ BK203.out) hb);have n1_:=am (qB mCp hb);have n2_:=am (hbox);have n3_:=am ((mEi:w.heap.size≤gb210));have n4_:=am ((mEi:w.heap.size≤gb210));have n5_:=am ((mC7:gb203≠gb210));have n6_:=am ((mC8:gb210≠gb203));clear BK203;clear HB;have BK203:=n0_;have HB:=n1_;have BK210:=n2_;have GW210:=n3_;have GE210:=n4_;have NB203_210:=n5_;have NB210_203:=n6_;clear n0_ n1_ n2_ n3_ n4_ n5_ n6_;clear hb hbox hg;have hnb28:=NB210_203.out;have hnc28:=NB203_210.out;have hcz29_0:w27.cell? ⟨gb210,0,none⟩=some (.string (⟨#[]⟩:ByteArray)):=(qA BK210.out 0).trans rfl;have hcz29_1:w27.cell? ⟨gb210,1,none⟩=some (.string (⟨#[]⟩:ByteArray)):=(qA BK210.out 1).trans rfl;have hcz29_2:w27.cell? ⟨gb210,2,none⟩=some (.int .u8 0):=(qA BK210.out 2).trans rfl;have hcz29_3:w27.cell? ⟨gb210,3,none⟩=some (.int .i64 0):=(qA BK210.out 3).trans rfl;have hcz29_4:w27.cell? ⟨gb210,4,none⟩=some (.bool false):=(qA BK210.out 4).trans rfl;have hfz29_0:=qD BK210.out 0;have hfz29_1:=qD BK210.out 1;have hfz29_2:=qD BK210.out 2;have hfz29_3:=qD BK210.out 3;have hfz29_4:=qD BK210.out 4;have hcz30_0:w27.cell? ⟨gb203,0,none⟩=some (.int .u16 0):=(qA BK203.out 0).trans rfl;have hcz30_1:w27.cell? ⟨gb203,1,none⟩=some (.string (⟨#[]⟩:ByteArray)):=(qA BK203.out 1).trans rfl;have hcz30_2:w27.cell? ⟨gb203,2,none⟩=some (.int .u8 0):=(qA BK203.out 2).trans rfl;have hcz30_3:w27.cell? ⟨gb203,3,none⟩=some (.slice none 0 0):=(qA BK203.out 3).trans rfl;have hcz30_4:w27.cell? ⟨gb203,4,none⟩=some (.slice none 0 0):=(qA BK203.out 4).trans rfl;have hcz30_5:w27.cell? ⟨gb203,5,none⟩=some (.int .i64 0):=(qA BK203.out 5).trans rfl;have hcz30_6:w27.cell? ⟨gb203,6,none⟩=some (.bool false):=(qA BK203.out 6).trans rfl;have hfz30_0:=qD BK203.out 0;have hfz30_1:=qD BK203.out 1;have hfz30_2:=qD BK203.out 2;have hfz30_3:=qD BK203.out 3;have hfz30_4:=qD BK203.out 4;have hfz30_5:=qD BK203.out 5;have hfz30_6:=qD BK203.out 6))
  refine bodyPost_ret (zL rfl _ _ gb203 79 #[.int .u16 0,.string (⟨#[]⟩:ByteArray),.int .u8 0,.slice none 0 0,.slice none 0 0,.int .i64 0,.bool false] (0,0) _ rfl (by (with_reducible repeat (first|apply kN|apply kD|apply kA));refine qK (cs:=#[.int .u16 0,.string (⟨#[]⟩:ByteArray),.int .u8 0,.slice none 0 0,.slice none 0 0,.int .i64 0,.bool false]) ?_ 6 _ rfl;(with_reducible repeat (first|apply kN|apply kD|apply kA));refine qK (cs:=#[.int .u16 0,.string (⟨#[]⟩:ByteArray),.int .u8 0,.slice none 0 0,.slice none 0 0,.int .i64 0,.bool false]) ?_ 5 _ rfl;(with_reducible repeat (first|apply kN|apply kD|apply kA));refine qK (cs:=#[.int .u16 0,.string (⟨#[]⟩:ByteArray),.int .u8 0,.slice none 0 0,.slice none 0 0,.int .i64 0,.bool false]) ?_ 4 _ rfl;(with_reducible repeat (first|apply kN|apply kD|apply kA));refine qK (cs:=#[.int .u16 0,.string (⟨#[]⟩:ByteArray),.int .u8 0,.slice none 0 0,.slice none 0 0,.int .i64 0,.bool false]) ?_ 3 _ rfl;(with_reducible repeat (first|apply kN|apply kD|apply kA));refine qK (cs:=#[.int .u16 0,.string (⟨#[]⟩:ByteArray),.int .u8 0,.slice none 0 0,.slice none 0 0,.int .i64 0,.bool false]) ?_ 2 _ rfl;(with_reducible repeat (first|apply kN|apply kD|apply kA));refine qK (cs:=#[.int .u16 0,.string (⟨#[]⟩:ByteArray),.int .u8 0,.slice none 0 0,.slice none 0 0,.int .i64 0,.bool false]) ?_ 1 _ rfl;(with_reducible repeat (first|apply kN|apply kD|apply kA));refine qK (cs:=#[.int .u16 0,.string (⟨#[]⟩:ByteArray),.int .u8 0,.slice none 0 0,.slice none 0 0,.int .i64 0,.bool false]) ?_ 0 _ rfl;(with_reducible repeat (first|apply kN|apply kD|apply kA));refine qp ?_ NB203_210.out _;(with_reducible repeat (first|apply kN|apply kD|apply kA));refine qp ?_ NB203_210.out _;(with_reducible repeat (first|apply kN|apply kD|apply kA));refine qp ?_ NB203_210.out _;(with_reducible repeat (first|apply kN|apply kD|apply kA));refine qp ?_ NB203_210.out _;(with_reducible repeat (first|apply kN|apply kD|apply kA));refine qp ?_ NB203_210.out _;(with_reducible repeat (first|apply kN|apply kD|apply kA));exact BK203.out) Tryd.underlying79 rfl mDh) rfl ?_
  exact⟨_,_,by first|rfl|(simp[qk,qj] <;> rfl)|(simp[*,qk,qj] <;> rfl),by first|exact Kd.R_nil _ _ _ _ _|exact Kd.N_nil _ _ _ _ _|exact Kd.V_nil _ _ _ _ _|exact Kd.Q_nil _ _ _ _ _|exact Kd.S_nil _ _ _ _ _,by first|exact Kd.R_nil _ _ _ _ _|exact Kd.N_nil _ _ _ _ _|exact Kd.V_nil _ _ _ _ _|exact Kd.Q_nil _ _ _ _ _|exact Kd.S_nil _ _ _ _ _,mCu⟩
end Go.Proofs.YtobldeamemmokaaDoor.P
