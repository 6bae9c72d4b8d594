import Derived.Test.YtobldeamemmokaaDoorZa27
set_option linter.unusedVariables false
set_option linter.unusedSimpArgs false
set_option maxHeartbeats 64000000
namespace Go.Proofs.YtobldeamemmokaaDoor.P
open Go.RowKit Go.Proofs.YtobldeamemmokaaDoorW.PrintWords Go.Proofs.YtobldeamemmokaaDoorW.PrintLast Go.Proofs.YtobldeamemmokaaDoorW.PrintMore
set_option maxRecDepth 100000 in
theorem qIW (K:Nat)(x:I)(w:World){Al At Ab Ae:Option Addr}{cl ct cb ce:Nat}{r1 im:Int}{r2:ByteArray}{r4 r5:List Int}{r6:Int}{r7:Bool}(hT:YtobldeamemmokaaDoorTabs.Tab w)(him:im=2∨im=4∨im=6∨im=7∨im=8∨im=10∨im=12∨im=13)(ho:qW.f K x.op=some (r1,r2,im,r4,r5,r6,r7,0))(h16:x.v.length=16)
 (h1:L2 w x Al cl)(h2:T2 w x At ct):
 xK x Al At Ab Ae cl ct cb ce w ((qz {zI with op:=x.op,a:=x.a} x && (x.body.length==0 && x.els.length==0))):=by
 unfold xK
 obtain⟨cx,hcx⟩:=ex_ (qH x (.slice Al x.l.length cl) (.slice At x.t.length ct) (.slice Ab x.body.length cb) (.slice Ae x.els.length ce))
 have X:=qa x h16 (.slice Al x.l.length cl) (.slice At x.t.length ct) (.slice Ab x.body.length cb) (.slice Ae x.els.length ce)
 have XL:=qL x h16 (.slice Al x.l.length cl) (.slice At x.t.length ct) (.slice Ab x.body.length cb) (.slice Ae x.els.length ce)
 have hW16:({zI with op:=x.op,a:=x.a}:I).v.length=16:=rfl
 have HF:=am (fun(W:World) (hW:Below w.heap.size w W)=>zM {zI with op:=x.op,a:=x.a} x W (Al:=none) (At:=none) (cl:=0) (ct:=0) (.slice none 0 0) (.slice none 0 0) (.slice Ab x.body.length cb) (.slice Ae x.els.length ce) hW16 h16 ⟨Nat.le_refl _,Kd.C_nil _ _⟩ ⟨Nat.le_refl _,Kd.C_nil _ _⟩ ⟨h1.1,Kd.C_below h1.2 hW⟩ ⟨h2.1,Kd.C_below h2.2 hW⟩)
 rw[← hcx] at X XL ⊢
 rw[← hcx] at HF
 have HX:=am X
 have HXL:=am XL
 have H16:=am h16
 have HW16:=am (rfl:zI.v.length=16)
 have HWW:=am hW16
 have HTB:=am hT
 have HO:=am ho
 clear X XL hT ho h1 h2 hcx hW16 h16
 obtain⟨fl,hfl⟩:=ey_ (qz {zI with op:=x.op,a:=x.a} x)
 obtain⟨bb,hbb⟩:=ey_ ((x.body.length==0))
 obtain⟨ee,hee⟩:=ey_ ((x.els.length==0))
 rw[hfl,hbb,hee]
 rw[hfl] at HF
 have ebb:((0:Int)==(x.body.length:Int))=(x.body.length==0):=zH _
 have eee:((0:Int)==(x.els.length:Int))=(x.els.length==0):=zH _
 rw[hbb] at ebb
 rw[hee] at eee
 clear hfl hbb hee
 rcases him with him|him|him|him|him|him|him|him
 all_goals
  have t1:=tst 1 him;have t2:=tst 2 him;have t4:=tst 4 him;have t6:=tst 6 him;have t7:=tst 7 him;have t8:=tst 8 him;have t10:=tst 10 him;have t12:=tst 12 him;have t13:=tst 13 him;have t5:=tst 5 him;have t9:=tst 9 him;have t11:=tst 11 him;have t3:=tst 3 him;have t16:=tst 16 him;have t17:=tst 17 him;have t18:=tst 18 him;have t19:=tst 19 him;have t24:=tst 24 him;have t20:=tst 20 him;have t22:=tst 22 him;have t21:=tst 21 him;have t23:=tst 23 him;have t25:=tst 25 him;have t26:=tst 26 him;clear him
  exact mEr
end Go.Proofs.YtobldeamemmokaaDoor.P
