import Derived.Test.YtobldeamemmokaaDoorZa13
import Derived.ChangeSlices
import Derived.Test.YtobldeamemmokaaDoorRows
set_option linter.unusedVariables false
set_option linter.unusedSimpArgs false
set_option maxHeartbeats 64000000
namespace Go.Proofs.YtobldeamemmokaaDoor.P
open Go.Proofs.YtobldeamemmokaaDoorTabs
open Go.Proofs.YtobldeamemmokaaDoorCaps
open Go.RowKit Go.Proofs.YtobldeamemmokaaDoorW.PrintWords Go.Proofs.YtobldeamemmokaaDoorW.PrintLast Go.Proofs.YtobldeamemmokaaDoorW.PrintMore
section
attribute [local go_sem] jh jj xE xF jb jZ jv jt   -- for this text's walks alone
def zq.f (l0:List Int)(a1:Int)(a2:Int):Option (Bool):=if a2≥1 then (if a2≤64 then (if a1≥0 then (some (decide (a1≤(l0.length:Int)))) else (some false)) else (some false)) else (some false)
set_option maxRecDepth 100000 in
theorem zq.calls (A0:Option Addr)(c0:Nat)(l0:List Int)(a1:Int)(a2:Int)(r:Bool)(w:World)(hr0:Kd.C (Kd.int .u8) w A0 l0.length l0)(hc0:l0.length≤c0)(h:zq.f l0 a1 a2=some r):
 Calls Tryd.prog 87 #[.slice A0 l0.length c0,.int .i64 a1,.int .i64 a2] w fun e w'=>e = .returned (.bool r)∧qf w w':=by
 have HR0:=am hr0
 have HC0:=am hc0
 clear hr0 hc0
 have H:=h
 unfold zq.f at H
 clear h
 by_cases c4:a2≥1
 ·rw[if_pos c4] at H
  have c4b0:decide (1≤a2)=true:=decide_eq_true c4
  clear c4
  by_cases c5:a2≤64
  ·rw[if_pos c5] at H
   have c5b0:decide (a2≤64)=true:=decide_eq_true c5
   clear c5
   by_cases c6:a1≥0
   ·rw[if_pos c6] at H
    have c6b0:decide (0≤a1)=true:=decide_eq_true c6
    clear c6
    exact mBs
   ·rw[if_neg c6] at H
    have c6b0:decide (0≤a1)=false:=decide_eq_false c6
    clear c6
    exact mBs
  ·rw[if_neg c5] at H
   have c5b0:decide (a2≤64)=false:=decide_eq_false c5
   clear c5
   exact mBs
 ·rw[if_neg c4] at H
  have c4b0:decide (1≤a2)=false:=decide_eq_false c4
  clear c4
  exact mBs
def zE.l0:Nat→List Int→Int→Int→Int→Option (Int)
 | 0,_,_,_,_=>none
 | k+1,x0,x1,x10,x11=>if x11<x10 then (if (wrap64 (x1+x11))=(x0.length:Int) then (some (-1)) else (if 0≤(wrap64 (x1+x11)) then (if (wrap64 (x1+x11))<(x0.length:Int) then (if (rd x0 (wrap64 (x1+x11)))<128 then (some (wrap64 ((wrap64 (x1+x11))+1))) else (zE.l0 k x0 x1 x10 (wrap64 (x11+1)))) else (none)) else (none))) else (some (-1))
def zE.f (k:Nat)(l0:List Int)(a1:Int)(a2:Int):Option (Int):=zE.l0 k l0 a1 (wrap64 (Int.tdiv (wrap64 (a2+6)) 7)) 0
set_option maxRecDepth 100000 in
theorem zE.calls (k:Nat)(A0:Option Addr)(c0:Nat)(l0:List Int)(a1:Int)(a2:Int)(r:Int)(w:World)(hr0:Kd.C (Kd.int .u8) w A0 l0.length l0)(hc0:l0.length≤c0)(h:zE.f k l0 a1 a2=some r):
 Calls Tryd.prog 88 #[.slice A0 l0.length c0,.int .i64 a1,.int .i64 a2] w fun e w'=>e = .returned (.int .i64 r)∧qf w w':=by
 have HR0:=am hr0
 have HC0:=am hc0
 clear hr0 hc0
 have H:=h
 unfold zE.f at H
 clear h
 have H':=am H
 clear H
 go_enter Tryd.func88,Tryd.ntmps88
 go_wp2
 (repeat (go_step3;go_wp2))
 go_loopg [11] k (fun kq v11 w'=>∃(x11_1:Int),v11 = .int .i64 x11_1∧Aside0 (zE.l0 kq l0 a1 (wrap64 (Int.tdiv (wrap64 (a2+6)) 7)) x11_1=some r)∧Aside0 (kq≤k)∧qf w w')
 case atStart=>exact⟨(0),mDm,H',⟨Nat.le_refl _⟩,by repeat (first|exact qf.refl _|apply qf.step)⟩
 case round =>
  clear H'
  try clear p2
  try clear p3
  obtain⟨x11_1,rfl,HA,HK1,⟨m1,rfl⟩⟩:=hrel
  cases gk with
  | zero=>exact absurd HA.out (by simp[zE.l0])
  | succ k1 =>
    have H:=HA.out
    clear HA
    simp only[zE.l0] at H
    by_cases c4:x11_1<(wrap64 (Int.tdiv (wrap64 (a2+6)) 7))
    ·rw[if_pos c4] at H
     have c4b0:decide (x11_1<(wrap64 (Int.tdiv (wrap64 (a2+6)) 7)))=true:=decide_eq_true c4
     clear c4
     by_cases c5:(wrap64 (a1+x11_1))=(l0.length:Int)
     ·rw[if_pos c5] at H
      have c5b0:((wrap64 (a1+x11_1))==(l0.length:Int))=true:=beq_iff_eq.mpr c5
      have c5b1:((wrap64 (a1+x11_1)) != (l0.length:Int))=false:=bne_eq_false_iff_eq.mpr c5
      clear c5
      obtain rfl:=Option.some.inj H
      go_wp2
      (repeat (go_step3;go_wp2))
      go_ret
      exact mAm
     ·rw[if_neg c5] at H
      have c5b0:((wrap64 (a1+x11_1))==(l0.length:Int))=false:=beq_eq_false_iff_ne.mpr c5
      have c5b1:((wrap64 (a1+x11_1)) != (l0.length:Int))=true:=bne_iff_ne.mpr c5
      obtain⟨ji6,hji6⟩:∃ j_:Int,(wrap64 (a1+x11_1))=j_:=⟨_,rfl⟩
      replace H:(if 0≤(ji6) then (if (ji6)<(l0.length:Int) then (if (rd l0 (ji6))<128 then (some (wrap64 ((ji6)+1))) else (zE.l0 k1 l0 a1 (wrap64 (Int.tdiv (wrap64 (a2+6)) 7)) (wrap64 (x11_1+1)))) else (none)) else (none))=some r:=by first|(rw[hji6] at H;exact H)|(simp only[hji6] at H ⊢;exact H)
      (try rw[hji6] at c5b0)
      (try rw[hji6] at c5b1)
      have hji6w:(IntKind.i64.wrap (a1+x11_1))=ji6:=(zX _).trans hji6
      by_cases c7:0≤(ji6)
      ·rw[if_pos c7] at H
       have c7b0:decide (0≤(ji6))=true:=decide_eq_true c7
       clear c7
       by_cases c8:(ji6)<(l0.length:Int)
       ·rw[if_pos c8] at H
        have c8b0:decide ((ji6)<(l0.length:Int))=true:=decide_eq_true c8
        clear c8
        by_cases c9:(rd l0 (ji6))<128
        ·rw[if_pos c9] at H
         have c9b0:decide ((rd l0 (ji6))<128)=true:=decide_eq_true c9
         clear c9
         obtain rfl:=Option.some.inj H
         have p254:0≤((ji6):Int):=of_decide_eq_true mDk
         have q254:(ji6)<(l0.length:Int):=of_decide_eq_true mDk
         obtain⟨ad254,e254,hx254_0⟩:=Kd.at_int HR0.out (ji6) p254 q254
         cases e254
         replace p254:=eq_true p254
         replace q254:=eq_true q254
         go_wp2
         (repeat (go_step3;go_wp2))
         go_ret
         exact⟨by first|rfl|(simp;done)|(simp only[← hji6] <;> (first|rfl|simp))|(simp[*];done),by repeat (first|exact qf.refl _|apply qf.step)⟩
        ·rw[if_neg c9] at H
         have c9b0:decide ((rd l0 (ji6))<128)=false:=decide_eq_false c9
         clear c9
         have H':=am H
         clear H
         have p254:0≤((ji6):Int):=of_decide_eq_true mDk
         have q254:(ji6)<(l0.length:Int):=of_decide_eq_true mDk
         obtain⟨ad254,e254,hx254_0⟩:=Kd.at_int HR0.out (ji6) p254 q254
         cases e254
         replace p254:=eq_true p254
         replace q254:=eq_true q254
         go_wp2
         (repeat (go_step3;go_wp2))
         go_roundg k1
         case measure=>have:=HK1.out;omega
         case rel=>exact⟨(wrap64 (x11_1+1)),mDm,H',⟨by have:=HK1.out;omega⟩,by repeat (first|exact qf.refl _|apply qf.step)⟩
       ·rw[if_neg c8] at H
        exact absurd H mDp
      exact mCc
    ·rw[if_neg c4] at H
     have c4b0:decide (x11_1<(wrap64 (Int.tdiv (wrap64 (a2+6)) 7)))=false:=decide_eq_false c4
     clear c4
     obtain rfl:=Option.some.inj H
     go_wp2
     (repeat (go_step3;go_wp2))
     go_ret
     exact mAm
def zp.l0:Nat→Int→Int→Int→List Int→Int→Int→Option (Int × Int × Int)
 | 0,_,_,_,_,_,_=>none
 | k+1,x2,x6,x7,x27,x28,x29=>if x29<x28 then (if 0≤x29 then (if x29<(x27.length:Int) then (if 0≤(IntKind.u64.wrap (7*(IntKind.u64.wrap (x29)))) then (if (shr .u64 (shl .u64 (IntKind.u64.wrap (Go.bits .and .u8 (rd x27 x29) 127)) (IntKind.u64.wrap (7*(IntKind.u64.wrap (x29))))) (IntKind.u64.wrap (7*(IntKind.u64.wrap (x29)))))=(IntKind.u64.wrap (Go.bits .and .u8 (rd x27 x29) 127)) then (if x2<64 then (if 0≤(IntKind.u64.wrap (x2)) then (if (shr .u64 (shl .u64 (IntKind.u64.wrap (Go.bits .and .u8 (rd x27 x29) 127)) (IntKind.u64.wrap (7*(IntKind.u64.wrap (x29))))) (IntKind.u64.wrap (x2)))=0 then (zp.l0 k x2 (Go.bits .or .u64 x6 (shl .u64 (IntKind.u64.wrap (Go.bits .and .u8 (rd x27 x29) 127)) (IntKind.u64.wrap (7*(IntKind.u64.wrap (x29)))))) x7 x27 x28 (wrap64 (x29+1))) else (some (0,0,4))) else (none)) else (zp.l0 k x2 (Go.bits .or .u64 x6 (shl .u64 (IntKind.u64.wrap (Go.bits .and .u8 (rd x27 x29) 127)) (IntKind.u64.wrap (7*(IntKind.u64.wrap (x29)))))) x7 x27 x28 (wrap64 (x29+1)))) else (some (0,0,4))) else (none)) else (none)) else (none)) else (some (x6,x7,0))
def zp.f (k:Nat)(l0:List Int)(a1:Int)(a2:Int):Option (Int × Int × Int):=(zq.f l0 a1 a2).bind fun t255=>(if t255=true then ((zE.f k l0 a1 a2).bind fun t256=>(if t256<0 then (some (0,0,4)) else (if 0≤a1 then (if a1≤t256 then (if t256≤(l0.length:Int) then (zp.l0 k a2 0 t256 ((l0.take (t256:Int).toNat).drop (a1:Int).toNat) (((l0.take (t256:Int).toNat).drop (a1:Int).toNat).length:Int) 0) else (none)) else (none)) else (none)))) else (some (0,0,2)))
set_option maxRecDepth 100000 in
theorem zp.calls (k:Nat)(A0:Option Addr)(c0:Nat)(l0:List Int)(a1:Int)(a2:Int)(r1:Int)(r2:Int)(r3:Int)(w:World)(hr0:Kd.C (Kd.int .u8) w A0 l0.length l0)(hc0:l0.length≤c0)(h:zp.f k l0 a1 a2=some (r1,r2,r3)):
 Calls Tryd.prog 78 #[.slice A0 l0.length c0,.int .i64 a1,.int .i64 a2] w fun e w'=>e = .returned (.tuple #[.int .u64 r1,.int .i64 r2,.int .i64 r3])∧qf w w':=by
 have HR0:=am hr0
 have HC0:=am hc0
 clear hr0 hc0
 have H:=h
 unfold zp.f at H
 clear h
 replace H:=Option.bind_eq_some_iff.mp H
 obtain⟨t255,A40,H⟩:=H
 try dsimp only at H
 have A4:=am A40
 clear A40
 by_cases c5:t255=true
 ·subst c5
  rw[if_pos rfl] at H
  try dsimp only at H
  replace H:=Option.bind_eq_some_iff.mp H
  obtain⟨t256,A60,H⟩:=H
  try dsimp only at H
  have A6:=am A60
  clear A60
  by_cases c7:t256<0
  ·rw[if_pos c7] at H
   have c7b0:decide (t256<0)=true:=decide_eq_true c7
   clear c7
   simp only[Option.some.injEq,Prod.mk.injEq] at H
   obtain⟨rfl,rfl,rfl⟩:=H
   go_enter Tryd.func78,Tryd.ntmps78
   go_wp2_with (first|((with_reducible refine qO (f:=87) rfl ?_);refine qo (some 16) rfl rfl Tryd.func87 mDh rfl #[.slice A0 l0.length c0,.int .i64 a1,.int .i64 a2] rfl mCe ?_;(with_reducible refine(zq.calls _ _ l0 a1 a2 true _ ?side1 ?side2 A4.out).mono ?_);(case side1=>repeat (first|exact HR0.out|(with_reducible refine Kd.C_alloc ?_ _)|(with_reducible refine Kd.C_drewN ?_ _)|(with_reducible refine Kd.C_drew ?_)));(case side2=>exact HC0.out);rintro e w' ⟨rfl,⟨nd,rfl⟩⟩;refine⟨_,rfl,?_⟩)|((with_reducible refine qO (f:=88) rfl ?_);refine qo (some 21) rfl rfl Tryd.func88 mDh rfl #[.slice A0 l0.length c0,.int .i64 a1,.int .i64 a2] rfl mCe ?_;(with_reducible refine(zE.calls k _ _ l0 a1 a2 t256 _ ?side1 ?side2 A6.out).mono ?_);(case side1=>repeat (first|exact HR0.out|(with_reducible refine Kd.C_alloc ?_ _)|(with_reducible refine Kd.C_drewN ?_ _)|(with_reducible refine Kd.C_drew ?_)));(case side2=>exact HC0.out);rintro e w' ⟨rfl,⟨nd,rfl⟩⟩;refine⟨_,rfl,?_⟩))
   go_ret3
   exact mAm
  ·rw[if_neg c7] at H
   have c7b0:decide (t256<0)=false:=decide_eq_false c7
   clear c7
   by_cases c8:0≤a1
   ·rw[if_pos c8] at H
    have c8b0:=eq_true c8
    have c8b1:decide (0≤a1)=true:=decide_eq_true c8
    clear c8
    by_cases c9:a1≤t256
    ·rw[if_pos c9] at H
     have c9b0:=eq_true c9
     have c9b1:decide (a1≤t256)=true:=decide_eq_true c9
     clear c9
     by_cases c10:t256≤(l0.length:Int)
     ·rw[if_pos c10] at H
      have c10b0:=eq_true c10
      have c10b1:decide (t256≤(l0.length:Int))=true:=decide_eq_true c10
      clear c10
      have H':=am H
      clear H
      go_enter Tryd.func78,Tryd.ntmps78
      go_wp2_with (first|((with_reducible refine qO (f:=87) rfl ?_);refine qo (some 16) rfl rfl Tryd.func87 mDh rfl #[.slice A0 l0.length c0,.int .i64 a1,.int .i64 a2] rfl mCe ?_;(with_reducible refine(zq.calls _ _ l0 a1 a2 true _ ?side1 ?side2 A4.out).mono ?_);(case side1=>repeat (first|exact HR0.out|(with_reducible refine Kd.C_alloc ?_ _)|(with_reducible refine Kd.C_drewN ?_ _)|(with_reducible refine Kd.C_drew ?_)));(case side2=>exact HC0.out);rintro e w' ⟨rfl,⟨nd,rfl⟩⟩;refine⟨_,rfl,?_⟩)|((with_reducible refine qO (f:=88) rfl ?_);refine qo (some 21) rfl rfl Tryd.func88 mDh rfl #[.slice A0 l0.length c0,.int .i64 a1,.int .i64 a2] rfl mCe ?_;(with_reducible refine(zE.calls k _ _ l0 a1 a2 t256 _ ?side1 ?side2 A6.out).mono ?_);(case side1=>repeat (first|exact HR0.out|(with_reducible refine Kd.C_alloc ?_ _)|(with_reducible refine Kd.C_drewN ?_ _)|(with_reducible refine Kd.C_drew ?_)));(case side2=>exact HC0.out);rintro e w' ⟨rfl,⟨nd,rfl⟩⟩;refine⟨_,rfl,?_⟩;obtain⟨i011,hi011,_,hsz11,_⟩:=info_parts jM;obtain⟨A11,hcut11,hA11,hC11⟩:=qAs (P:=Tryd.prog) (Value.int .u8) 0 24 5 .i64 .i64 Tryd.underlying24 hi011 hsz11 A0 c0 l0 a1 t256 (of_decide_eq_true mDk) mDf (of_decide_eq_true mDk) HC0.out;have HR257:=am (Kd.C_of_reads (h1:=fun _=>rfl) (hA11 _ (Kd.reads_of_C HR0.out)));have HC257:=am hC11;clear hA11 hC11 hi011 hsz11;have HLn11:=am (show((l0.take (t256:Int).toNat).drop (a1:Int).toNat).length=(t256.toNat - a1.toNat) from(by rw[List.length_drop,List.length_take];have h_:(t256:Int)≤(l0.length:Int):=of_decide_eq_true mDk;omega))))
      go_loopg [6,7,29] k (fun kq v6 v7 v29 w'=>∃(x6_1:Int) (x7_1:Int) (x29_1:Int),v6 = .int .u64 x6_1∧v7 = .int .i64 x7_1∧v29 = .int .i64 x29_1∧Aside0 (zp.l0 kq a2 x6_1 x7_1 ((l0.take (t256:Int).toNat).drop (a1:Int).toNat) (((l0.take (t256:Int).toNat).drop (a1:Int).toNat).length:Int) x29_1=some (r1,r2,r3))∧Aside0 (kq≤k)∧qf w w')
      case atStart=>exact⟨(0),(t256),(0),mDm,mDm,mDm,H',⟨Nat.le_refl _⟩,by repeat (first|exact qf.refl _|apply qf.step)⟩
      case round =>
       clear H'
       try clear c1
       try clear p2
       try clear c5
       try clear c7
       try clear c7b0
       try clear c8
       try clear c8b0
       try clear c8b1
       try clear c9
       try clear c9b0
       try clear c9b1
       try clear c10
       try clear c10b0
       try clear c10b1
       obtain⟨x6_1,x7_1,x29_1,rfl,rfl,rfl,HA,HK1,⟨m1,rfl⟩⟩:=hrel
       cases gk with
       | zero=>exact absurd HA.out (by simp[zp.l0])
       | succ k1 =>
         have H:=HA.out
         clear HA
         simp only[zp.l0] at H
         by_cases c12:x29_1<(((l0.take (t256:Int).toNat).drop (a1:Int).toNat).length:Int)
         ·rw[if_pos c12] at H
          have c12b0:decide (x29_1<(((l0.take (t256:Int).toNat).drop (a1:Int).toNat).length:Int))=true:=decide_eq_true c12
          (try (have c12b0s:=c12b0;rw[HLn11.out] at c12b0s))
          clear c12
          by_cases c13:0≤x29_1
          ·rw[if_pos c13] at H
           have c13b0:decide (0≤x29_1)=true:=decide_eq_true c13
           clear c13
           by_cases c14:x29_1<(((l0.take (t256:Int).toNat).drop (a1:Int).toNat).length:Int)
           ·rw[if_pos c14] at H
            have c14b0:decide (x29_1<(((l0.take (t256:Int).toNat).drop (a1:Int).toNat).length:Int))=true:=decide_eq_true c14
            (try (have c14b0s:=c14b0;rw[HLn11.out] at c14b0s))
            clear c14
            obtain⟨ji15,hji15⟩:∃ j_:Int,(IntKind.u64.wrap (7*(IntKind.u64.wrap (x29_1))))=j_:=⟨_,rfl⟩
            replace H:(if 0≤(ji15) then (if (shr .u64 (shl .u64 (IntKind.u64.wrap (Go.bits .and .u8 (rd ((l0.take (t256:Int).toNat).drop (a1:Int).toNat) x29_1) 127)) (ji15)) (ji15))=(IntKind.u64.wrap (Go.bits .and .u8 (rd ((l0.take (t256:Int).toNat).drop (a1:Int).toNat) x29_1) 127)) then (if a2<64 then (if 0≤(IntKind.u64.wrap (a2)) then (if (shr .u64 (shl .u64 (IntKind.u64.wrap (Go.bits .and .u8 (rd ((l0.take (t256:Int).toNat).drop (a1:Int).toNat) x29_1) 127)) (ji15)) (IntKind.u64.wrap (a2)))=0 then (zp.l0 k1 a2 (Go.bits .or .u64 x6_1 (shl .u64 (IntKind.u64.wrap (Go.bits .and .u8 (rd ((l0.take (t256:Int).toNat).drop (a1:Int).toNat) x29_1) 127)) (ji15))) x7_1 ((l0.take (t256:Int).toNat).drop (a1:Int).toNat) (((l0.take (t256:Int).toNat).drop (a1:Int).toNat).length:Int) (wrap64 (x29_1+1))) else (some (0,0,4))) else (none)) else (zp.l0 k1 a2 (Go.bits .or .u64 x6_1 (shl .u64 (IntKind.u64.wrap (Go.bits .and .u8 (rd ((l0.take (t256:Int).toNat).drop (a1:Int).toNat) x29_1) 127)) (ji15))) x7_1 ((l0.take (t256:Int).toNat).drop (a1:Int).toNat) (((l0.take (t256:Int).toNat).drop (a1:Int).toNat).length:Int) (wrap64 (x29_1+1)))) else (some (0,0,4))) else (none))=some (r1,r2,r3):=by first|(rw[hji15] at H;exact H)|(simp only[hji15] at H ⊢;exact H)
            by_cases c16:0≤(ji15)
            ·rw[if_pos c16] at H
             have c16b0:=eq_true c16
             have c16b1:decide (0≤(ji15))=true:=decide_eq_true c16
             clear c16
             obtain⟨ji17,hji17⟩:∃ j_:Int,(shl .u64 (IntKind.u64.wrap (Go.bits .and .u8 (rd ((l0.take (t256:Int).toNat).drop (a1:Int).toNat) x29_1) 127)) (ji15))=j_:=⟨_,rfl⟩
             replace H:(if (shr .u64 (ji17) (ji15))=(IntKind.u64.wrap (Go.bits .and .u8 (rd ((l0.take (t256:Int).toNat).drop (a1:Int).toNat) x29_1) 127)) then (if a2<64 then (if 0≤(IntKind.u64.wrap (a2)) then (if (shr .u64 (ji17) (IntKind.u64.wrap (a2)))=0 then (zp.l0 k1 a2 (Go.bits .or .u64 x6_1 (ji17)) x7_1 ((l0.take (t256:Int).toNat).drop (a1:Int).toNat) (((l0.take (t256:Int).toNat).drop (a1:Int).toNat).length:Int) (wrap64 (x29_1+1))) else (some (0,0,4))) else (none)) else (zp.l0 k1 a2 (Go.bits .or .u64 x6_1 (ji17)) x7_1 ((l0.take (t256:Int).toNat).drop (a1:Int).toNat) (((l0.take (t256:Int).toNat).drop (a1:Int).toNat).length:Int) (wrap64 (x29_1+1)))) else (some (0,0,4)))=some (r1,r2,r3):=by first|(rw[hji17] at H;exact H)|(simp only[hji17] at H ⊢;exact H)
             have hji17_:(IntKind.u64.wrap ((IntKind.u64.wrap (Go.bits .and .u8 (rd ((l0.take (t256:Int).toNat).drop (a1:Int).toNat) x29_1) 127))*2 ^ min (ji15).toNat 64))=ji17:=hji17
             have hji17z:(ji15)≤64→(IntKind.u64.wrap ((IntKind.u64.wrap (Go.bits .and .u8 (rd ((l0.take (t256:Int).toNat).drop (a1:Int).toNat) x29_1) 127))*2 ^ (ji15).toNat))=ji17:=qCo hji17
             have c18b0:=eq_true (of_decide_eq_true mDk:0≤(ji15))
             obtain⟨ji19,hji19⟩:∃ j_:Int,(shr .u64 (ji17) (ji15))=j_:=⟨_,rfl⟩
             replace H:(if (ji19)=(IntKind.u64.wrap (Go.bits .and .u8 (rd ((l0.take (t256:Int).toNat).drop (a1:Int).toNat) x29_1) 127)) then (if a2<64 then (if 0≤(IntKind.u64.wrap (a2)) then (if (shr .u64 (ji17) (IntKind.u64.wrap (a2)))=0 then (zp.l0 k1 a2 (Go.bits .or .u64 x6_1 (ji17)) x7_1 ((l0.take (t256:Int).toNat).drop (a1:Int).toNat) (((l0.take (t256:Int).toNat).drop (a1:Int).toNat).length:Int) (wrap64 (x29_1+1))) else (some (0,0,4))) else (none)) else (zp.l0 k1 a2 (Go.bits .or .u64 x6_1 (ji17)) x7_1 ((l0.take (t256:Int).toNat).drop (a1:Int).toNat) (((l0.take (t256:Int).toNat).drop (a1:Int).toNat).length:Int) (wrap64 (x29_1+1)))) else (some (0,0,4)))=some (r1,r2,r3):=by first|(rw[hji19] at H;exact H)|(simp only[hji19] at H ⊢;exact H)
             have hji19_:((ji17) / 2 ^ min (ji15).toNat 64)=ji19:=hji19
             have hji19z:(ji15)≤64→((ji17) / 2 ^ (ji15).toNat)=ji19:=yB hji19
             by_cases c20:(ji19)=(IntKind.u64.wrap (Go.bits .and .u8 (rd ((l0.take (t256:Int).toNat).drop (a1:Int).toNat) x29_1) 127))
             ·rw[if_pos c20] at H
              have c20b0:((ji19)==(IntKind.u64.wrap (Go.bits .and .u8 (rd ((l0.take (t256:Int).toNat).drop (a1:Int).toNat) x29_1) 127)))=true:=beq_iff_eq.mpr c20
              have c20b1:((ji19) != (IntKind.u64.wrap (Go.bits .and .u8 (rd ((l0.take (t256:Int).toNat).drop (a1:Int).toNat) x29_1) 127)))=false:=bne_eq_false_iff_eq.mpr c20
              clear c20
              by_cases c21:a2<64
              ·rw[if_pos c21] at H
               have c21b0:decide (a2<64)=true:=decide_eq_true c21
               clear c21
               have c22b0:=eq_true (of_decide_eq_true mDk:0≤(ji15))
               obtain⟨ji23,hji23⟩:∃ j_:Int,(IntKind.u64.wrap (a2))=j_:=⟨_,rfl⟩
               replace H:(if 0≤(ji23) then (if (shr .u64 (ji17) (ji23))=0 then (zp.l0 k1 a2 (Go.bits .or .u64 x6_1 (ji17)) x7_1 ((l0.take (t256:Int).toNat).drop (a1:Int).toNat) (((l0.take (t256:Int).toNat).drop (a1:Int).toNat).length:Int) (wrap64 (x29_1+1))) else (some (0,0,4))) else (none))=some (r1,r2,r3):=by first|(rw[hji23] at H;exact H)|(simp only[hji23] at H ⊢;exact H)
               by_cases c24:0≤(ji23)
               ·rw[if_pos c24] at H
                have c24b0:=eq_true c24
                have c24b1:decide (0≤(ji23))=true:=decide_eq_true c24
                clear c24
                obtain⟨ji25,hji25⟩:∃ j_:Int,(shr .u64 (ji17) (ji23))=j_:=⟨_,rfl⟩
                replace H:(if (ji25)=0 then (zp.l0 k1 a2 (Go.bits .or .u64 x6_1 (ji17)) x7_1 ((l0.take (t256:Int).toNat).drop (a1:Int).toNat) (((l0.take (t256:Int).toNat).drop (a1:Int).toNat).length:Int) (wrap64 (x29_1+1))) else (some (0,0,4)))=some (r1,r2,r3):=by first|(rw[hji25] at H;exact H)|(simp only[hji25] at H ⊢;exact H)
                have hji25_:((ji17) / 2 ^ min (ji23).toNat 64)=ji25:=hji25
                have hji25z:(ji23)≤64→((ji17) / 2 ^ (ji23).toNat)=ji25:=yB hji25
                by_cases c26:(ji25)=0
                ·rw[if_pos c26] at H
                 have c26b0:((ji25)==0)=true:=beq_iff_eq.mpr c26
                 have c26b1:((ji25) != 0)=false:=bne_eq_false_iff_eq.mpr c26
                 clear c26
                 have c27b0:=eq_true (of_decide_eq_true mDk:0≤(ji15))
                 exact mAt
                ·rw[if_neg c26] at H
                 have c26b0:((ji25)==0)=false:=beq_eq_false_iff_ne.mpr c26
                 have c26b1:((ji25) != 0)=true:=bne_iff_ne.mpr c26
                 simp only[Option.some.injEq,Prod.mk.injEq] at H
                 obtain⟨rfl,rfl,rfl⟩:=H
                 have p258:0≤(x29_1:Int):=of_decide_eq_true mDk
                 have q258:x29_1<(((l0.take (t256:Int).toNat).drop (a1:Int).toNat).length:Int):=of_decide_eq_true mDk
                 obtain⟨ad258,e258,hx258_0⟩:=Kd.at_int HR257.out x29_1 p258 q258
                 cases e258
                 replace p258:=eq_true p258
                 replace q258:=eq_true q258
                 (try (have q258s0:=q258;rw[HLn11.out] at q258s0))
                 go_wp2
                 go_ret3
                 exact⟨by first|rfl|(simp;done)|(simp only[← hji15,← hji17,← hji19,← hji23,← hji25] <;> (first|rfl|simp))|(simp[*];done),by repeat (first|exact qf.refl _|apply qf.step)⟩
               ·rw[if_neg c24] at H
                exact absurd H mDp
              ·rw[if_neg c21] at H
               have c21b0:decide (a2<64)=false:=decide_eq_false c21
               clear c21
               have c28b0:=eq_true (of_decide_eq_true mDk:0≤(ji15))
               exact mAt
             ·rw[if_neg c20] at H
              have c20b0:((ji19)==(IntKind.u64.wrap (Go.bits .and .u8 (rd ((l0.take (t256:Int).toNat).drop (a1:Int).toNat) x29_1) 127)))=false:=beq_eq_false_iff_ne.mpr c20
              have c20b1:((ji19) != (IntKind.u64.wrap (Go.bits .and .u8 (rd ((l0.take (t256:Int).toNat).drop (a1:Int).toNat) x29_1) 127)))=true:=bne_iff_ne.mpr c20
              simp only[Option.some.injEq,Prod.mk.injEq] at H
              obtain⟨rfl,rfl,rfl⟩:=H
              have p258:0≤(x29_1:Int):=of_decide_eq_true mDk
              have q258:x29_1<(((l0.take (t256:Int).toNat).drop (a1:Int).toNat).length:Int):=of_decide_eq_true mDk
              obtain⟨ad258,e258,hx258_0⟩:=Kd.at_int HR257.out x29_1 p258 q258
              cases e258
              replace p258:=eq_true p258
              replace q258:=eq_true q258
              (try (have q258s0:=q258;rw[HLn11.out] at q258s0))
              go_wp2
              go_ret3
              exact⟨by first|rfl|(simp;done)|(simp only[← hji15,← hji17,← hji19] <;> (first|rfl|simp))|(simp[*];done),by repeat (first|exact qf.refl _|apply qf.step)⟩
            ·rw[if_neg c16] at H
             exact absurd H mDp
           ·rw[if_neg c14] at H
            exact absurd H mDp
          ·rw[if_neg c13] at H
           exact absurd H mDp
         ·rw[if_neg c12] at H
          have c12b0:decide (x29_1<(((l0.take (t256:Int).toNat).drop (a1:Int).toNat).length:Int))=false:=decide_eq_false c12
          (try (have c12b0s:=c12b0;rw[HLn11.out] at c12b0s))
          clear c12
          simp only[Option.some.injEq,Prod.mk.injEq] at H
          obtain⟨rfl,rfl,rfl⟩:=H
          go_wp2
          go_ret3
          exact mAm
     ·rw[if_neg c10] at H
      exact absurd H mDp
    ·rw[if_neg c9] at H
     exact absurd H mDp
   ·rw[if_neg c8] at H
    exact absurd H mDp
 ·replace c5:=Bool.eq_false_iff.mpr c5
  subst c5
  rw[if_neg (show ¬(false=true) by decide)] at H
  try dsimp only at H
  simp only[Option.some.injEq,Prod.mk.injEq] at H
  obtain⟨rfl,rfl,rfl⟩:=H
  go_enter Tryd.func78,Tryd.ntmps78
  go_wp2_with (first|((with_reducible refine qO (f:=87) rfl ?_);refine qo (some 16) rfl rfl Tryd.func87 mDh rfl #[.slice A0 l0.length c0,.int .i64 a1,.int .i64 a2] rfl mCe ?_;(with_reducible refine(zq.calls _ _ l0 a1 a2 false _ ?side1 ?side2 A4.out).mono ?_);(case side1=>repeat (first|exact HR0.out|(with_reducible refine Kd.C_alloc ?_ _)|(with_reducible refine Kd.C_drewN ?_ _)|(with_reducible refine Kd.C_drew ?_)));(case side2=>exact HC0.out);rintro e w' ⟨rfl,⟨nd,rfl⟩⟩;refine⟨_,rfl,?_⟩))
  go_ret3
  exact mAm
mutual
def zR.j0:Nat→List Int→Int→Int→Int→Bool→Int→Option (Int × Int × Int)
 | 0,_,_,_,_,_,_=>none
 | k+1,x0,x1,x2,x7,x9,x10=>if 0≤x1 then (if x1≤x7 then (if x7≤(x0.length:Int) then (zR.l0 k x2 x7 x9 x10 0 ((x0.take (x7:Int).toNat).drop (x1:Int).toNat) (((x0.take (x7:Int).toNat).drop (x1:Int).toNat).length:Int) 0) else (none)) else (none)) else (none)
def zR.l0:Nat→Int→Int→Bool→Int→Int→List Int→Int→Int→Option (Int × Int × Int)
 | 0,_,_,_,_,_,_,_,_=>none
 | k+1,x2,x7,x9,x10,x11,x38,x39,x40=>if x40<x39 then (if 0≤x40 then (if x40<(x38.length:Int) then (if 0≤(IntKind.u64.wrap (7*(IntKind.u64.wrap (x40)))) then (if (shr .u64 (shl .u64 (IntKind.u64.wrap (Go.bits .and .u8 (Go.bits .xor .u8 (rd x38 x40) x10) 127)) (IntKind.u64.wrap (7*(IntKind.u64.wrap (x40))))) (IntKind.u64.wrap (7*(IntKind.u64.wrap (x40)))))=(IntKind.u64.wrap (Go.bits .and .u8 (Go.bits .xor .u8 (rd x38 x40) x10) 127)) then (if 0≤(IntKind.u64.wrap (wrap64 (x2 - 1))) then (if (shr .u64 (shl .u64 (IntKind.u64.wrap (Go.bits .and .u8 (Go.bits .xor .u8 (rd x38 x40) x10) 127)) (IntKind.u64.wrap (7*(IntKind.u64.wrap (x40))))) (IntKind.u64.wrap (wrap64 (x2 - 1))))=0 then (zR.l0 k x2 x7 x9 x10 (Go.bits .or .u64 x11 (shl .u64 (IntKind.u64.wrap (Go.bits .and .u8 (Go.bits .xor .u8 (rd x38 x40) x10) 127)) (IntKind.u64.wrap (7*(IntKind.u64.wrap (x40)))))) x38 x39 (wrap64 (x40+1))) else (some (0,0,4))) else (none)) else (some (0,0,4))) else (none)) else (none)) else (none)) else (if x9=true then (some (wrap64 (Go.bits .xor .u64 18446744073709551615 x11),x7,0)) else (some (wrap64 (x11),x7,0)))
end
def zR.f (k:Nat)(l0:List Int)(a1:Int)(a2:Int):Option (Int × Int × Int):=(zq.f l0 a1 a2).bind fun t266=>(if t266=true then ((zE.f k l0 a1 a2).bind fun t267=>(if t267<0 then (some (0,0,4)) else (if 0≤(wrap64 (t267 - 1)) then (if (wrap64 (t267 - 1))<(l0.length:Int) then (if (Go.bits .and .u8 (rd l0 (wrap64 (t267 - 1))) 64)=0 then (zR.j0 k l0 a1 a2 t267 ((Go.bits .and .u8 (rd l0 (wrap64 (t267 - 1))) 64) != 0) 0) else (zR.j0 k l0 a1 a2 t267 ((Go.bits .and .u8 (rd l0 (wrap64 (t267 - 1))) 64) != 0) 127)) else (none)) else (none)))) else (some (0,0,2)))
set_option maxRecDepth 100000 in
theorem zR.calls (k:Nat)(A0:Option Addr)(c0:Nat)(l0:List Int)(a1:Int)(a2:Int)(r1:Int)(r2:Int)(r3:Int)(w:World)(hr0:Kd.C (Kd.int .u8) w A0 l0.length l0)(hc0:l0.length≤c0)(h:zR.f k l0 a1 a2=some (r1,r2,r3)):
 Calls Tryd.prog 79 #[.slice A0 l0.length c0,.int .i64 a1,.int .i64 a2] w fun e w'=>e = .returned (.tuple #[.int .i64 r1,.int .i64 r2,.int .i64 r3])∧qf w w':=by
 have HR0:=am hr0
 have HC0:=am hc0
 clear hr0 hc0
 have H:=h
 unfold zR.f at H
 clear h
 replace H:=Option.bind_eq_some_iff.mp H
 obtain⟨t266,A40,H⟩:=H
 try dsimp only at H
 have A4:=am A40
 clear A40
 by_cases c5:t266=true
 ·subst c5
  rw[if_pos rfl] at H
  try dsimp only at H
  replace H:=Option.bind_eq_some_iff.mp H
  obtain⟨t267,A60,H⟩:=H
  try dsimp only at H
  have A6:=am A60
  clear A60
  by_cases c7:t267<0
  ·rw[if_pos c7] at H
   have c7b0:decide (t267<0)=true:=decide_eq_true c7
   clear c7
   simp only[Option.some.injEq,Prod.mk.injEq] at H
   obtain⟨rfl,rfl,rfl⟩:=H
   go_enter Tryd.func79,Tryd.ntmps79
   go_wp2_with (first|((with_reducible refine qO (f:=87) rfl ?_);refine qo (some 19) rfl rfl Tryd.func87 mDh rfl #[.slice A0 l0.length c0,.int .i64 a1,.int .i64 a2] rfl mCe ?_;(with_reducible refine(zq.calls _ _ l0 a1 a2 true _ ?side1 ?side2 A4.out).mono ?_);(case side1=>repeat (first|exact HR0.out|(with_reducible refine Kd.C_alloc ?_ _)|(with_reducible refine Kd.C_drewN ?_ _)|(with_reducible refine Kd.C_drew ?_)));(case side2=>exact HC0.out);rintro e w' ⟨rfl,⟨nd,rfl⟩⟩;refine⟨_,rfl,?_⟩)|((with_reducible refine qO (f:=88) rfl ?_);refine qo (some 24) rfl rfl Tryd.func88 mDh rfl #[.slice A0 l0.length c0,.int .i64 a1,.int .i64 a2] rfl mCe ?_;(with_reducible refine(zE.calls k _ _ l0 a1 a2 t267 _ ?side1 ?side2 A6.out).mono ?_);(case side1=>repeat (first|exact HR0.out|(with_reducible refine Kd.C_alloc ?_ _)|(with_reducible refine Kd.C_drewN ?_ _)|(with_reducible refine Kd.C_drew ?_)));(case side2=>exact HC0.out);rintro e w' ⟨rfl,⟨nd,rfl⟩⟩;refine⟨_,rfl,?_⟩))
   go_ret3
   exact mAm
  ·rw[if_neg c7] at H
   have c7b0:decide (t267<0)=false:=decide_eq_false c7
   clear c7
   obtain⟨ji8,hji8⟩:∃ j_:Int,(wrap64 (t267 - 1))=j_:=⟨_,rfl⟩
   replace H:(if 0≤(ji8) then (if (ji8)<(l0.length:Int) then (if (Go.bits .and .u8 (rd l0 (ji8)) 64)=0 then (zR.j0 k l0 a1 a2 t267 ((Go.bits .and .u8 (rd l0 (ji8)) 64) != 0) 0) else (zR.j0 k l0 a1 a2 t267 ((Go.bits .and .u8 (rd l0 (ji8)) 64) != 0) 127)) else (none)) else (none))=some (r1,r2,r3):=by first|(rw[hji8] at H;exact H)|(simp only[hji8] at H ⊢;exact H)
   (try rw[hji8] at A4)
   (try rw[hji8] at A6)
   have hji8w:(IntKind.i64.wrap (t267 - 1))=ji8:=(zX _).trans hji8
   by_cases c9:0≤(ji8)
   ·rw[if_pos c9] at H
    have c9b0:decide (0≤(ji8))=true:=decide_eq_true c9
    clear c9
    by_cases c10:(ji8)<(l0.length:Int)
    ·rw[if_pos c10] at H
     have c10b0:decide ((ji8)<(l0.length:Int))=true:=decide_eq_true c10
     clear c10
     have HC11:=am H
     clear H
     go_enter Tryd.func79,Tryd.ntmps79
     go_upto_if 34 with (first|((with_reducible refine qO (f:=87) rfl ?_);refine qo (some 19) rfl rfl Tryd.func87 mDh rfl #[.slice A0 l0.length c0,.int .i64 a1,.int .i64 a2] rfl mCe ?_;(with_reducible refine(zq.calls _ _ l0 a1 a2 true _ ?side1 ?side2 A4.out).mono ?_);(case side1=>repeat (first|exact HR0.out|(with_reducible refine Kd.C_alloc ?_ _)|(with_reducible refine Kd.C_drewN ?_ _)|(with_reducible refine Kd.C_drew ?_)));(case side2=>exact HC0.out);rintro e w' ⟨rfl,⟨nd,rfl⟩⟩;refine⟨_,rfl,?_⟩)|((with_reducible refine qO (f:=88) rfl ?_);refine qo (some 24) rfl rfl Tryd.func88 mDh rfl #[.slice A0 l0.length c0,.int .i64 a1,.int .i64 a2] rfl mCe ?_;(with_reducible refine(zE.calls k _ _ l0 a1 a2 t267 _ ?side1 ?side2 A6.out).mono ?_);(case side1=>repeat (first|exact HR0.out|(with_reducible refine Kd.C_alloc ?_ _)|(with_reducible refine Kd.C_drewN ?_ _)|(with_reducible refine Kd.C_drew ?_)));(case side2=>exact HC0.out);rintro e w' ⟨rfl,⟨nd,rfl⟩⟩;refine⟨_,rfl,?_⟩;have p268:0≤((ji8):Int):=of_decide_eq_true mDk;have q268:(ji8)<(l0.length:Int):=of_decide_eq_true mDk;obtain⟨ad268,e268,hx268_0⟩:=Kd.at_int HR0.out (ji8) p268 q268;cases e268;replace p268:=eq_true p268;replace q268:=eq_true q268))
     (try simp only[Act.put,List.setIfInBounds_toArray,List.set_cons_zero,List.set_cons_succ])
     go_cut [10] (fun v10 wc=>∃(kq:Nat) (x10_10:Int),v10 = .int .u8 x10_10∧Aside0 (zR.j0 kq l0 a1 a2 t267 ((Go.bits .and .u8 (rd l0 (ji8)) 64) != 0) x10_10=some (r1,r2,r3))∧Aside0 (kq≤k)∧qf w wc)
     case first =>
      have H:=HC11.out
      clear HC11
      by_cases c12:(Go.bits .and .u8 (rd l0 (ji8)) 64)=0
      ·rw[if_pos c12] at H
       have c12b0:((Go.bits .and .u8 (rd l0 (ji8)) 64)==0)=true:=beq_iff_eq.mpr c12
       have c12b1:((Go.bits .and .u8 (rd l0 (ji8)) 64) != 0)=false:=bne_eq_false_iff_eq.mpr c12
       clear c12
       (first|rw[c12b0]|(simp only[zX,zn];rw[c12b0])|skip)
       have H':=am H
       clear H
       go_wp2
       go_meet
       case rel=>exact⟨_,(0),mDm,H',⟨by first|omega|exact Nat.le_refl _⟩,by repeat (first|exact qf.refl _|apply qf.step)⟩
      ·rw[if_neg c12] at H
       have c12b0:((Go.bits .and .u8 (rd l0 (ji8)) 64)==0)=false:=beq_eq_false_iff_ne.mpr c12
       have c12b1:((Go.bits .and .u8 (rd l0 (ji8)) 64) != 0)=true:=bne_iff_ne.mpr c12
       (first|rw[c12b0]|(simp only[zX,zn];rw[c12b0])|skip)
       have H':=am H
       clear H
       go_wp2
       go_meet
       case rel=>exact⟨_,(127),mDm,H',⟨by first|omega|exact Nat.le_refl _⟩,by repeat (first|exact qf.refl _|apply qf.step)⟩
     case rest =>
      clear HC11
      try clear c1
      try clear p2
      try clear q2
      try clear hx2
      try clear c5
      try clear p6
      try clear c7
      try clear c7b0
      try clear c8
      try clear c9
      try clear c9b0
      try clear c10
      try clear c10b0
      try clear c12
      try clear c12b0
      try clear c12b1
      try clear hx268_0
      try clear p268
      try clear q268
      obtain⟨kq,x10_10,rfl,HA,HJ10,⟨mc10,rfl⟩⟩:=hcut
      cases kq with
      | zero=>exact absurd HA.out (by simp[zR.j0])
      | succ kj10 =>
        have H:=HA.out
        clear HA
        simp only[zR.j0] at H
        by_cases c13:0≤a1
        ·rw[if_pos c13] at H
         have c13b0:=eq_true c13
         have c13b1:decide (0≤a1)=true:=decide_eq_true c13
         clear c13
         by_cases c14:a1≤t267
         ·rw[if_pos c14] at H
          have c14b0:=eq_true c14
          have c14b1:decide (a1≤t267)=true:=decide_eq_true c14
          clear c14
          by_cases c15:t267≤(l0.length:Int)
          ·rw[if_pos c15] at H
           have c15b0:=eq_true c15
           have c15b1:decide (t267≤(l0.length:Int))=true:=decide_eq_true c15
           clear c15
           have H':=am H
           clear H
           obtain⟨i016,hi016,_,hsz16,_⟩:=info_parts jM
           obtain⟨A16,hcut16,hA16,hC16⟩:=qAs (P:=Tryd.prog) (Value.int .u8) 0 24 5 .i64 .i64 Tryd.underlying24 hi016 hsz16 (some ad268) c0 l0 a1 t267 (of_decide_eq_true mDk) mDf (of_decide_eq_true mDk) HC0.out
           have HR269:=am (Kd.C_of_reads (h1:=fun _=>rfl) (hA16 _ (Kd.reads_of_C HR0.out)))
           have HC269:=am hC16
           clear hA16 hC16 hi016 hsz16
           have HLn16:=am (show((l0.take (t267:Int).toNat).drop (a1:Int).toNat).length=(t267.toNat - a1.toNat) from(by rw[List.length_drop,List.length_take];have h_:(t267:Int)≤(l0.length:Int):=of_decide_eq_true mDk;omega))
           go_wp2
           go_loopg [7,11,40] kj10 (fun kq v7 v11 v40 w'=>∃(x7_2:Int) (x11_2:Int) (x40_2:Int),v7 = .int .i64 x7_2∧v11 = .int .u64 x11_2∧v40 = .int .i64 x40_2∧Aside0 (zR.l0 kq a2 x7_2 ((Go.bits .and .u8 (rd l0 (ji8)) 64) != 0) x10_10 x11_2 ((l0.take (t267:Int).toNat).drop (a1:Int).toNat) (((l0.take (t267:Int).toNat).drop (a1:Int).toNat).length:Int) x40_2=some (r1,r2,r3))∧Aside0 (kq≤kj10)∧qf w w')
           case atStart=>exact⟨(t267),(0),(0),mDm,mDm,mDm,H',⟨Nat.le_refl _⟩,by repeat (first|exact qf.refl _|apply qf.step)⟩
           case round =>
            clear H'
            try clear c1
            try clear p2
            try clear q2
            try clear hx2
            try clear c5
            try clear p6
            try clear c7
            try clear c7b0
            try clear c8
            try clear c9
            try clear c9b0
            try clear c10
            try clear c10b0
            try clear c12
            try clear c12b0
            try clear c12b1
            try clear c13
            try clear c13b0
            try clear c13b1
            try clear c14
            try clear c14b0
            try clear c14b1
            try clear c15
            try clear c15b0
            try clear c15b1
            try clear hx268_0
            try clear p2
            try clear p268
            try clear p6
            try clear q2
            try clear q268
            obtain⟨x7_2,x11_2,x40_2,rfl,rfl,rfl,HA,HK2,⟨m2,rfl⟩⟩:=hrel
            cases gk with
            | zero=>exact absurd HA.out (by simp[zR.l0])
            | succ k2 =>
              have H:=HA.out
              clear HA
              simp only[zR.l0] at H
              by_cases c17:x40_2<(((l0.take (t267:Int).toNat).drop (a1:Int).toNat).length:Int)
              ·rw[if_pos c17] at H
               have c17b0:decide (x40_2<(((l0.take (t267:Int).toNat).drop (a1:Int).toNat).length:Int))=true:=decide_eq_true c17
               (try (have c17b0s:=c17b0;rw[HLn16.out] at c17b0s))
               clear c17
               by_cases c18:0≤x40_2
               ·rw[if_pos c18] at H
                have c18b0:decide (0≤x40_2)=true:=decide_eq_true c18
                clear c18
                by_cases c19:x40_2<(((l0.take (t267:Int).toNat).drop (a1:Int).toNat).length:Int)
                ·rw[if_pos c19] at H
                 have c19b0:decide (x40_2<(((l0.take (t267:Int).toNat).drop (a1:Int).toNat).length:Int))=true:=decide_eq_true c19
                 (try (have c19b0s:=c19b0;rw[HLn16.out] at c19b0s))
                 clear c19
                 obtain⟨ji20,hji20⟩:∃ j_:Int,(IntKind.u64.wrap (7*(IntKind.u64.wrap (x40_2))))=j_:=⟨_,rfl⟩
                 replace H:(if 0≤(ji20) then (if (shr .u64 (shl .u64 (IntKind.u64.wrap (Go.bits .and .u8 (Go.bits .xor .u8 (rd ((l0.take (t267:Int).toNat).drop (a1:Int).toNat) x40_2) x10_10) 127)) (ji20)) (ji20))=(IntKind.u64.wrap (Go.bits .and .u8 (Go.bits .xor .u8 (rd ((l0.take (t267:Int).toNat).drop (a1:Int).toNat) x40_2) x10_10) 127)) then (if 0≤(IntKind.u64.wrap (wrap64 (a2 - 1))) then (if (shr .u64 (shl .u64 (IntKind.u64.wrap (Go.bits .and .u8 (Go.bits .xor .u8 (rd ((l0.take (t267:Int).toNat).drop (a1:Int).toNat) x40_2) x10_10) 127)) (ji20)) (IntKind.u64.wrap (wrap64 (a2 - 1))))=0 then (zR.l0 k2 a2 x7_2 ((Go.bits .and .u8 (rd l0 (ji8)) 64) != 0) x10_10 (Go.bits .or .u64 x11_2 (shl .u64 (IntKind.u64.wrap (Go.bits .and .u8 (Go.bits .xor .u8 (rd ((l0.take (t267:Int).toNat).drop (a1:Int).toNat) x40_2) x10_10) 127)) (ji20))) ((l0.take (t267:Int).toNat).drop (a1:Int).toNat) (((l0.take (t267:Int).toNat).drop (a1:Int).toNat).length:Int) (wrap64 (x40_2+1))) else (some (0,0,4))) else (none)) else (some (0,0,4))) else (none))=some (r1,r2,r3):=by first|(rw[hji20] at H;exact H)|(simp only[hji20] at H ⊢;exact H)
                 by_cases c21:0≤(ji20)
                 ·rw[if_pos c21] at H
                  have c21b0:=eq_true c21
                  have c21b1:decide (0≤(ji20))=true:=decide_eq_true c21
                  clear c21
                  obtain⟨ji22,hji22⟩:∃ j_:Int,(shl .u64 (IntKind.u64.wrap (Go.bits .and .u8 (Go.bits .xor .u8 (rd ((l0.take (t267:Int).toNat).drop (a1:Int).toNat) x40_2) x10_10) 127)) (ji20))=j_:=⟨_,rfl⟩
                  replace H:(if (shr .u64 (ji22) (ji20))=(IntKind.u64.wrap (Go.bits .and .u8 (Go.bits .xor .u8 (rd ((l0.take (t267:Int).toNat).drop (a1:Int).toNat) x40_2) x10_10) 127)) then (if 0≤(IntKind.u64.wrap (wrap64 (a2 - 1))) then (if (shr .u64 (ji22) (IntKind.u64.wrap (wrap64 (a2 - 1))))=0 then (zR.l0 k2 a2 x7_2 ((Go.bits .and .u8 (rd l0 (ji8)) 64) != 0) x10_10 (Go.bits .or .u64 x11_2 (ji22)) ((l0.take (t267:Int).toNat).drop (a1:Int).toNat) (((l0.take (t267:Int).toNat).drop (a1:Int).toNat).length:Int) (wrap64 (x40_2+1))) else (some (0,0,4))) else (none)) else (some (0,0,4)))=some (r1,r2,r3):=by first|(rw[hji22] at H;exact H)|(simp only[hji22] at H ⊢;exact H)
                  have hji22_:(IntKind.u64.wrap ((IntKind.u64.wrap (Go.bits .and .u8 (Go.bits .xor .u8 (rd ((l0.take (t267:Int).toNat).drop (a1:Int).toNat) x40_2) x10_10) 127))*2 ^ min (ji20).toNat 64))=ji22:=hji22
                  have hji22z:(ji20)≤64→(IntKind.u64.wrap ((IntKind.u64.wrap (Go.bits .and .u8 (Go.bits .xor .u8 (rd ((l0.take (t267:Int).toNat).drop (a1:Int).toNat) x40_2) x10_10) 127))*2 ^ (ji20).toNat))=ji22:=qCo hji22
                  have c23b0:=eq_true (of_decide_eq_true mDk:0≤(ji20))
                  obtain⟨ji24,hji24⟩:∃ j_:Int,(shr .u64 (ji22) (ji20))=j_:=⟨_,rfl⟩
                  replace H:(if (ji24)=(IntKind.u64.wrap (Go.bits .and .u8 (Go.bits .xor .u8 (rd ((l0.take (t267:Int).toNat).drop (a1:Int).toNat) x40_2) x10_10) 127)) then (if 0≤(IntKind.u64.wrap (wrap64 (a2 - 1))) then (if (shr .u64 (ji22) (IntKind.u64.wrap (wrap64 (a2 - 1))))=0 then (zR.l0 k2 a2 x7_2 ((Go.bits .and .u8 (rd l0 (ji8)) 64) != 0) x10_10 (Go.bits .or .u64 x11_2 (ji22)) ((l0.take (t267:Int).toNat).drop (a1:Int).toNat) (((l0.take (t267:Int).toNat).drop (a1:Int).toNat).length:Int) (wrap64 (x40_2+1))) else (some (0,0,4))) else (none)) else (some (0,0,4)))=some (r1,r2,r3):=by first|(rw[hji24] at H;exact H)|(simp only[hji24] at H ⊢;exact H)
                  have hji24_:((ji22) / 2 ^ min (ji20).toNat 64)=ji24:=hji24
                  have hji24z:(ji20)≤64→((ji22) / 2 ^ (ji20).toNat)=ji24:=yB hji24
                  by_cases c25:(ji24)=(IntKind.u64.wrap (Go.bits .and .u8 (Go.bits .xor .u8 (rd ((l0.take (t267:Int).toNat).drop (a1:Int).toNat) x40_2) x10_10) 127))
                  ·rw[if_pos c25] at H
                   have c25b0:((ji24)==(IntKind.u64.wrap (Go.bits .and .u8 (Go.bits .xor .u8 (rd ((l0.take (t267:Int).toNat).drop (a1:Int).toNat) x40_2) x10_10) 127)))=true:=beq_iff_eq.mpr c25
                   have c25b1:((ji24) != (IntKind.u64.wrap (Go.bits .and .u8 (Go.bits .xor .u8 (rd ((l0.take (t267:Int).toNat).drop (a1:Int).toNat) x40_2) x10_10) 127)))=false:=bne_eq_false_iff_eq.mpr c25
                   clear c25
                   have c26b0:=eq_true (of_decide_eq_true mDk:0≤(ji20))
                   obtain⟨ji27,hji27⟩:∃ j_:Int,(IntKind.u64.wrap (wrap64 (a2 - 1)))=j_:=⟨_,rfl⟩
                   replace H:(if 0≤(ji27) then (if (shr .u64 (ji22) (ji27))=0 then (zR.l0 k2 a2 x7_2 ((Go.bits .and .u8 (rd l0 (ji8)) 64) != 0) x10_10 (Go.bits .or .u64 x11_2 (ji22)) ((l0.take (t267:Int).toNat).drop (a1:Int).toNat) (((l0.take (t267:Int).toNat).drop (a1:Int).toNat).length:Int) (wrap64 (x40_2+1))) else (some (0,0,4))) else (none))=some (r1,r2,r3):=by first|(rw[hji27] at H;exact H)|(simp only[hji27] at H ⊢;exact H)
                   by_cases c28:0≤(ji27)
                   ·rw[if_pos c28] at H
                    have c28b0:=eq_true c28
                    have c28b1:decide (0≤(ji27))=true:=decide_eq_true c28
                    clear c28
                    obtain⟨ji29,hji29⟩:∃ j_:Int,(shr .u64 (ji22) (ji27))=j_:=⟨_,rfl⟩
                    replace H:(if (ji29)=0 then (zR.l0 k2 a2 x7_2 ((Go.bits .and .u8 (rd l0 (ji8)) 64) != 0) x10_10 (Go.bits .or .u64 x11_2 (ji22)) ((l0.take (t267:Int).toNat).drop (a1:Int).toNat) (((l0.take (t267:Int).toNat).drop (a1:Int).toNat).length:Int) (wrap64 (x40_2+1))) else (some (0,0,4)))=some (r1,r2,r3):=by first|(rw[hji29] at H;exact H)|(simp only[hji29] at H ⊢;exact H)
                    have hji29_:((ji22) / 2 ^ min (ji27).toNat 64)=ji29:=hji29
                    have hji29z:(ji27)≤64→((ji22) / 2 ^ (ji27).toNat)=ji29:=yB hji29
                    by_cases c30:(ji29)=0
                    ·rw[if_pos c30] at H
                     have c30b0:((ji29)==0)=true:=beq_iff_eq.mpr c30
                     have c30b1:((ji29) != 0)=false:=bne_eq_false_iff_eq.mpr c30
                     clear c30
                     have c31b0:=eq_true (of_decide_eq_true mDk:0≤(ji20))
                     have H':=am H
                     clear H
                     have p270:0≤(x40_2:Int):=of_decide_eq_true mDk
                     have q270:x40_2<(((l0.take (t267:Int).toNat).drop (a1:Int).toNat).length:Int):=of_decide_eq_true mDk
                     obtain⟨ad270,e270,hx270_0⟩:=Kd.at_int HR269.out x40_2 p270 q270
                     cases e270
                     replace p270:=eq_true p270
                     replace q270:=eq_true q270
                     (try (have q270s0:=q270;rw[HLn16.out] at q270s0))
                     go_wp2
                     go_roundg k2
                     case measure=>have:=HJ10.out;have:=HK2.out;omega
                     case rel=>exact⟨(x7_2),(Go.bits .or .u64 x11_2 (ji22)),(wrap64 (x40_2+1)),mDm,(by first|rfl|(simp;done)|(simp only[← hji22] <;> (first|rfl|simp))|(simp[*];done)),mDm,H',⟨by have:=HJ10.out;have:=HK2.out;omega⟩,by repeat (first|exact qf.refl _|apply qf.step)⟩
                    ·rw[if_neg c30] at H
                     have c30b0:((ji29)==0)=false:=beq_eq_false_iff_ne.mpr c30
                     have c30b1:((ji29) != 0)=true:=bne_iff_ne.mpr c30
                     simp only[Option.some.injEq,Prod.mk.injEq] at H
                     obtain⟨rfl,rfl,rfl⟩:=H
                     have p270:0≤(x40_2:Int):=of_decide_eq_true mDk
                     have q270:x40_2<(((l0.take (t267:Int).toNat).drop (a1:Int).toNat).length:Int):=of_decide_eq_true mDk
                     obtain⟨ad270,e270,hx270_0⟩:=Kd.at_int HR269.out x40_2 p270 q270
                     cases e270
                     replace p270:=eq_true p270
                     replace q270:=eq_true q270
                     (try (have q270s0:=q270;rw[HLn16.out] at q270s0))
                     go_wp2
                     go_ret3
                     exact⟨by first|rfl|(simp;done)|(simp only[← hji8,← hji20,← hji22,← hji24,← hji27,← hji29] <;> (first|rfl|simp))|(simp[*];done),by repeat (first|exact qf.refl _|apply qf.step)⟩
                   ·rw[if_neg c28] at H
                    exact absurd H mDp
                  ·rw[if_neg c25] at H
                   have c25b0:((ji24)==(IntKind.u64.wrap (Go.bits .and .u8 (Go.bits .xor .u8 (rd ((l0.take (t267:Int).toNat).drop (a1:Int).toNat) x40_2) x10_10) 127)))=false:=beq_eq_false_iff_ne.mpr c25
                   have c25b1:((ji24) != (IntKind.u64.wrap (Go.bits .and .u8 (Go.bits .xor .u8 (rd ((l0.take (t267:Int).toNat).drop (a1:Int).toNat) x40_2) x10_10) 127)))=true:=bne_iff_ne.mpr c25
                   simp only[Option.some.injEq,Prod.mk.injEq] at H
                   obtain⟨rfl,rfl,rfl⟩:=H
                   have p270:0≤(x40_2:Int):=of_decide_eq_true mDk
                   have q270:x40_2<(((l0.take (t267:Int).toNat).drop (a1:Int).toNat).length:Int):=of_decide_eq_true mDk
                   obtain⟨ad270,e270,hx270_0⟩:=Kd.at_int HR269.out x40_2 p270 q270
                   cases e270
                   replace p270:=eq_true p270
                   replace q270:=eq_true q270
                   (try (have q270s0:=q270;rw[HLn16.out] at q270s0))
                   go_wp2
                   go_ret3
                   exact⟨by first|rfl|(simp;done)|(simp only[← hji8,← hji20,← hji22,← hji24] <;> (first|rfl|simp))|(simp[*];done),by repeat (first|exact qf.refl _|apply qf.step)⟩
                 ·rw[if_neg c21] at H
                  exact absurd H mDp
                ·rw[if_neg c19] at H
                 exact absurd H mDp
               ·rw[if_neg c18] at H
                exact absurd H mDp
              ·rw[if_neg c17] at H
               have c17b0:decide (x40_2<(((l0.take (t267:Int).toNat).drop (a1:Int).toNat).length:Int))=false:=decide_eq_false c17
               (try (have c17b0s:=c17b0;rw[HLn16.out] at c17b0s))
               clear c17
               by_cases c32:((Go.bits .and .u8 (rd l0 (ji8)) 64) != 0)=true
               ·rw[if_pos c32] at H
                have c32b0:((Go.bits .and .u8 (rd l0 (ji8)) 64) != 0)=true:=c32
                (try (have c32b1:decide ((Go.bits .and .u8 (rd l0 (ji8)) 64)=0)=false:=by simpa using c32))
                (try (have c32b2:((Go.bits .and .u8 (rd l0 (ji8)) 64)==0)=false:=by simpa using c32))
                (try (have c32b3:¬((Go.bits .and .u8 (rd l0 (ji8)) 64)=0):=by simpa using c32))
                exact mBp
               ·rw[if_neg c32] at H
                have c32b0:((Go.bits .and .u8 (rd l0 (ji8)) 64) != 0)=false:=by simpa using c32
                (try (have c32b1:decide ((Go.bits .and .u8 (rd l0 (ji8)) 64)=0)=true:=by simpa using c32))
                (try (have c32b2:((Go.bits .and .u8 (rd l0 (ji8)) 64)==0)=true:=by simpa using c32))
                exact mBp
          ·rw[if_neg c15] at H
           exact absurd H mDp
         ·rw[if_neg c14] at H
          exact absurd H mDp
        ·rw[if_neg c13] at H
         exact absurd H mDp
    ·rw[if_neg c10] at H
     exact absurd H mDp
   ·rw[if_neg c9] at H
    exact absurd H mDp
 ·replace c5:=Bool.eq_false_iff.mpr c5
  subst c5
  rw[if_neg (show ¬(false=true) by decide)] at H
  try dsimp only at H
  simp only[Option.some.injEq,Prod.mk.injEq] at H
  obtain⟨rfl,rfl,rfl⟩:=H
  go_enter Tryd.func79,Tryd.ntmps79
  go_wp2_with (first|((with_reducible refine qO (f:=87) rfl ?_);refine qo (some 19) rfl rfl Tryd.func87 mDh rfl #[.slice A0 l0.length c0,.int .i64 a1,.int .i64 a2] rfl mCe ?_;(with_reducible refine(zq.calls _ _ l0 a1 a2 false _ ?side1 ?side2 A4.out).mono ?_);(case side1=>repeat (first|exact HR0.out|(with_reducible refine Kd.C_alloc ?_ _)|(with_reducible refine Kd.C_drewN ?_ _)|(with_reducible refine Kd.C_drew ?_)));(case side2=>exact HC0.out);rintro e w' ⟨rfl,⟨nd,rfl⟩⟩;refine⟨_,rfl,?_⟩))
  go_ret3
  exact mAm
end
end Go.Proofs.YtobldeamemmokaaDoor.P
namespace Go.Proofs.YtobldeamemmokaaDoor.bulks
open Go.ChangeShapes Go.WideShapes
theorem qGI {H:Type}(d:DataW H):1≤Rows.uptoBulk d:=by
 cases d with
 | lit l=>cases l <;> simp[Rows.uptoBulk]
 | nil=>simp[Rows.uptoBulk]
 | ptr d=>simp[Rows.uptoBulk]
 | slice elems spare=>simp[Rows.uptoBulk]
 | agg parts=>simp[Rows.uptoBulk]
 | iface t d=>simp[Rows.uptoBulk]
 | map entries=>simp[Rows.uptoBulk]
 | held h=>simp[Rows.uptoBulk]
theorem qFn {H:Type}(l:List (DataW H)):l.length≤Rows.uptoBulkAll l:=by
 induction l with
 | nil=>simp[Rows.uptoBulkAll]
 | cons x r ih=>have:=qGI x;simp only[Rows.uptoBulkAll,List.length_cons];omega
theorem bound {H:Type}{l:List (DataW H)}(hk:Rows.uptoSmall H l=true):Rows.uptoBulkAll l≤1048576:=of_decide_eq_true hk
theorem ints {H:Type}{enc:TypeId × Value→H}{P:Program}{W:World}{base:Nat}{spare:Nat→Bool}{held:Bool}{t e:TypeId}{k:IntKind}{a:Option Addr}{len cap:Nat}{d:DataW H}{ps:List MemPlace}
 (hu:P.underlying t=some (.slice e))(he:P.underlying e=some (.int k))(hc:P.cellsOf e=1)
 (h:DataW.Trod enc P W base spare held t (.slice a len cap) d ps):len+1≤Rows.uptoBulk d:=by
 obtain⟨fuel,hf⟩:=h
 rcases open_ints hu he hc hf with ⟨hcs,hx⟩|⟨x,l,c,zs,hcs,_,hl,_,hz,hx,_,_⟩
 ·simp[Value.cells] at hcs
  obtain⟨rfl,rfl,rfl⟩:=hcs
  have:=qGI d
  omega
 ·simp[Value.cells] at hcs
  obtain⟨rfl,rfl,rfl⟩:=hcs
  obtain⟨hx,_⟩:=Prod.mk.inj hx
  subst hx
  have hl2:len≤zs.length:=by
   rw[hz]
   split
   ·exact hl
   ·exact Nat.le_refl _
  have h1:=qFn (lits (H:=H) k (zs.take len))
  have h2:(lits (H:=H) k (zs.take len)).length=len:=by simp[lits];omega
  simp only[Rows.uptoBulk]
  omega
end Go.Proofs.YtobldeamemmokaaDoor.bulks
