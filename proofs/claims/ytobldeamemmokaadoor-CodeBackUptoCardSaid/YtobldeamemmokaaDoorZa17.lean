import Derived.Lib.OthersKept
import Derived.Laws.RangeAny
import Derived.Test.YtobldeamemmokaaDoorZa15
set_option linter.unusedVariables false
set_option linter.unusedSimpArgs false
set_option maxHeartbeats 64000000
namespace Go.Proofs.YtobldeamemmokaaDoor.P
open Go.Proofs.YtobldeamemmokaaDoorTabs
open Go.Proofs.YtobldeamemmokaaDoorCaps
open Go.RowKit Go.Proofs.YtobldeamemmokaaDoorW.PrintWords Go.Proofs.YtobldeamemmokaaDoorW.PrintLast Go.Proofs.YtobldeamemmokaaDoorW.PrintMore
attribute [local go_sem] jh jj xE xF jb jZ jv jt
section
variable {P:Program} {ops:Array Oper} {Q:Exit→Act→World→Prop} {md:Region.Mode} {S S':World→Prop}
theorem qCz (hSS:∀ w,S' w→S w):∀(fuel:Nat) (l:Array Bool) (a:Act) (w:World),S' w→qb P md ops Q S' [] fuel l a w→qb P md ops Q S [] fuel l a w
 | 0,_,_,_,_,h=>h
 | fuel+1,l,a,w,hS,h=>⟨h.1,fun i hi=>wpOp_mono (fun a' w' h'=>⟨fun hn _=>hSS _ (h'.1 hn hS),qCz hSS fuel _ a' w' (h'.1 mDp hS) h'.2⟩) (h.2 i hi)⟩
end
mutual
def qU.l0:Nat→Int→List (ju)→Int→Int→Option (ByteArray × ByteArray × Int × Int × Bool × Bool)
 | 0,_,_,_,_=>none
 | k+1,x1,x12,x13,x14=>if x14<x13 then (if 0≤x14 then (if x14<(x12.length:Int) then (if x1<((qC x12 x14).f0) then (qU.j1 k x1 x12 x13 x14 true ((qC x12 x14).f0) ((qC x12 x14).f1) ((qC x12 x14).f2) ((qC x12 x14).f3) ((qC x12 x14).f4) ((qC x12 x14).f5) ((qC x12 x14).f6)) else ((jg.f ((qC x12 x14).f2) (⟨#[32]⟩:ByteArray)).bind fun t119=>(qU.j1 k x1 x12 x13 x14 (decide ((wrap64 (x1 - ((qC x12 x14).f0))) > t119)) ((qC x12 x14).f0) ((qC x12 x14).f1) ((qC x12 x14).f2) ((qC x12 x14).f3) ((qC x12 x14).f4) ((qC x12 x14).f5) ((qC x12 x14).f6)))) else (none)) else (none)) else (some ((⟨#[]⟩:ByteArray),(⟨#[]⟩:ByteArray),0,0,false,false))
def qU.j1:Nat→Int→List (ju)→Int→Int→Bool→Int→ByteArray→ByteArray→ByteArray→Int→ByteArray→Bool→Option (ByteArray × ByteArray × Int × Int × Bool × Bool)
 | 0,_,_,_,_,_,_,_,_,_,_,_,_=>none
 | k+1,x1,x12,x13,x14,x31,x119000,x119001,x119002,x119003,x119004,x119005,x119006=>if x31=true then (qU.l0 k x1 x12 x13 (wrap64 (x14+1))) else ((qR.f x119005 (wrap64 (x1 - x119000))).bind fun t120=>(qU.l1 k (wrap64 (x1 - x119000)) 0 t120 0 x119000 x119001 x119002 x119003 x119004 x119005 x119006))
def qU.l1:Nat→Int→Int→ByteArray→Nat→Int→ByteArray→ByteArray→ByteArray→Int→ByteArray→Bool→Option (ByteArray × ByteArray × Int × Int × Bool × Bool)
 | 0,_,_,_,_,_,_,_,_,_,_,_=>none
 | k+1,x8,x9,s40,p40,x119000,x119001,x119002,x119003,x119004,x119005,x119006=>if p40<s40.size then (qU.l1 k x8 (wrap64 ((wrap64 (10*x9))+(wrap64 (wrap32 (((Utf8.decode s40 p40).1:Int) - 48))))) s40 (p40+(Utf8.decode s40 p40).2) x119000 x119001 x119002 x119003 x119004 x119005 x119006) else ((strings_Split.f x119002 (⟨#[32]⟩:ByteArray)).bind fun t121=>(if 0≤x8 then (if x8<(t121.length:Int) then (if x119001.size+(xR ByteArray.empty t121 x8).size≤9223372036854775807 then ((qR.f x119003 x8).bind fun t125=>(some (x119001++(xR ByteArray.empty t121 x8),t125,x119004,x9,x119006,true))) else (none)) else (none)) else (none)))
end
def qU.f (k:Nat)(l0:List (ju))(a1:Int):Option (ByteArray × ByteArray × Int × Int × Bool × Bool):=qU.l0 k a1 l0 (l0.length:Int) 0
def qU.T4:Bool × List (List Nat × List Nat):=(true,[([],[]),([],[]),([1],[1]),([0,2],[0,2]),([3],[3]),([4],[4]),([4],[4]),([6,4],[4,6]),([5,7,4],[4,5,7]),([4],[4]),([9,4],[4,9]),([10,4,4],[4,10]),([8,11,4],[4,8,11]),([4,12],[4,12])])
def qU.B4:List Nat:=[0,0,2,7,15,31,31,95,255,31,543,1567,4095,8191]
theorem qU.tab4:jO .any (xL Tryd.f73 4)=qU.T4:=mDh
theorem qU.bits4:zc qU.T4.2 qU.B4=true:=mDh
def qU.T11:Bool × List (List Nat × List Nat):=(true,[([],[]),([0],[0]),([],[]),([2],[2]),([3],[3]),([],[]),([4,5],[4,5]),([6],[6]),([1,7],[1,7]),([],[]),([9],[9]),([],[]),([10,11,4],[10,11]),([],[]),([13],[13]),([],[]),([],[]),([16],[16]),([8,12,14,15,17],[8,12,14,15,17]),([18,12,0,1,2,3,4,5,6,7,8,9,10,11,12,13,14,15,16,17,18],[18]),([19,0,1,2,3,4,5,6,7,8,9,10,11,12,13,14,15,16,17,18,19],[])])
def qU.B11:List Nat:=[0,1,0,4,12,0,60,124,255,0,512,0,3612,0,8192,0,0,65536,262143,524287,1048575]
theorem qU.tab11:jO .any (xL Tryd.f73 11)=qU.T11:=mDh
theorem qU.bits11:zc qU.T11.2 qU.B11=true:=mDh
set_option maxRecDepth 100000 in
theorem qU.calls (k:Nat)(A0:Option Addr)(c0:Nat)(l0:List (ju))(a1:Int)(r1:ByteArray)(r2:ByteArray)(r3:Int)(r4:Int)(r5:Bool)(r6:Bool)(w:World)(hT:YtobldeamemmokaaDoorTabs.Tab w)(hr0:Kd.C qAg w A0 l0.length l0)(hc0:l0.length≤c0)(h:qU.f k l0 a1=some (r1,r2,r3,r4,r5,r6)):
 Calls Tryd.prog 73 #[.slice A0 l0.length c0,.int .i64 a1] w fun e w'=>e = .returned (.tuple #[.agg #[.string r1,.string r2,.int .u8 r3,.int .i64 r4,.bool r5],.bool r6])∧Below w.heap.size w w':=by
 have HT:=am hT
 clear hT
 have hu107:=Tryd.underlying107
 have hu134:=Tryd.underlying134
 have HR0:=am hr0
 have HC0:=am hc0
 clear hr0 hc0
 have HB:=am (Below.refl w.heap.size w)
 have H:=h
 unfold qU.f at H
 clear h
 have H':=am H
 clear H
 go_enter Tryd.func73,Tryd.ntmps73
 go_wp2_with (first|((with_reducible refine qE (N:=4) rfl ?_);refine zd ?hg (N:=4) ?hd (cs:=#[.string (⟨#[]⟩:ByteArray),.string (⟨#[]⟩:ByteArray),.int .u8 0,.int .i64 0,.bool false]) (t:=107) ?hr ?_;(case hd=>rfl);(case hg=>rfl);(case hr=>first|(go_simp;done)|(go_simp;rfl));intro gb116 hg w3 hbox hb;have n0_:=am (qB mCf hb);have n1_:=am (hbox);have n2_:=am ((mD1:w.heap.size≤gb116));have n3_:=am ((mD1:w.heap.size≤gb116));clear HB;have HB:=n0_;have BK116:=n1_;have GW116:=n2_;have GE116:=n3_;clear n0_ n1_ n2_ n3_;clear hb hbox hg))
 go_loopg [14] k (fun kq v14 w'=>∃(x14_1:Int) (x117000_1:ByteArray) (x117001_1:ByteArray) (x117002_1:Int) (x117003_1:Int) (x117004_1:Bool),v14 = .int .i64 x14_1∧Aside0 (qU.l0 kq a1 l0 (l0.length:Int) x14_1=some (r1,r2,r3,r4,r5,r6))∧Aside0 (kq≤k)∧Aside0 (w'.heap[gb116]? = some (.cells #[.string x117000_1,.string x117001_1,.int .u8 x117002_1,.int .i64 x117003_1,.bool x117004_1] 107 (0,0)))∧Aside0 (Below w.heap.size w w'))
 case atStart=>exact⟨(0),((⟨#[]⟩:ByteArray)),((⟨#[]⟩:ByteArray)),(0),(0),(false),mDm,H',⟨Nat.le_refl _⟩,⟨by (with_reducible repeat (first|apply kN|apply kD|apply kA));exact BK116.out⟩,⟨mC6⟩⟩
 case round =>
  clear H'
  try clear c2
  try clear p2
  obtain⟨x14_1,x117000_1,x117001_1,x117002_1,x117003_1,x117004_1,rfl,HA,HK1,BK116,HB⟩:=hrel
  cases gk with
  | zero=>exact absurd HA.out (by simp[qU.l0])
  | succ k1 =>
    have H:=HA.out
    clear HA
    simp only[qU.l0] at H
    by_cases c4:x14_1<(l0.length:Int)
    ·rw[if_pos c4] at H
     have c4b0:decide (x14_1<(l0.length:Int))=true:=decide_eq_true c4
     clear c4
     by_cases c5:0≤x14_1
     ·rw[if_pos c5] at H
      have c5b0:decide (0≤x14_1)=true:=decide_eq_true c5
      clear c5
      by_cases c6:x14_1<(l0.length:Int)
      ·rw[if_pos c6] at H
       have c6b0:decide (x14_1<(l0.length:Int))=true:=decide_eq_true c6
       clear c6
       have HC7:=am H
       clear H
       have p117:0≤(x14_1:Int):=of_decide_eq_true mDk
       have q117:x14_1<(l0.length:Int):=of_decide_eq_true mDk
       obtain⟨ad117,e117,hx117_0,hx117_1,hx117_2,hx117_3,hx117_4,hx117_5,hx117_6⟩:=qG2 HR0.out x14_1 p117 q117
       cases e117
       replace hx117_0:=(HB.out.cell (World.block_lt_of_cell? w _ hx117_0)).trans hx117_0
       replace hx117_1:=(HB.out.cell (World.block_lt_of_cell? w _ hx117_1)).trans hx117_1
       replace hx117_2:=(HB.out.cell (World.block_lt_of_cell? w _ hx117_2)).trans hx117_2
       replace hx117_3:=(HB.out.cell (World.block_lt_of_cell? w _ hx117_3)).trans hx117_3
       replace hx117_4:=(HB.out.cell (World.block_lt_of_cell? w _ hx117_4)).trans hx117_4
       replace hx117_5:=(HB.out.cell (World.block_lt_of_cell? w _ hx117_5)).trans hx117_5
       replace hx117_6:=(HB.out.cell (World.block_lt_of_cell? w _ hx117_6)).trans hx117_6
       replace p117:=eq_true p117
       replace q117:=eq_true q117
       go_upto_region 4 with (first|((with_reducible refine qE (N:=7) rfl ?_);refine zd ?hg (N:=7) ?hd (cs:=#[.int .i64 0,.string (⟨#[]⟩:ByteArray),.string (⟨#[]⟩:ByteArray),.string (⟨#[]⟩:ByteArray),.int .u8 0,.string (⟨#[]⟩:ByteArray),.bool false]) (t:=134) ?hr ?_;(case hd=>rfl);(case hg=>rfl);(case hr=>first|(go_simp;done)|(go_simp;rfl));intro gb118 hg w8 hbox hb;have n0_:=am (qG (g:=gb116) (o:=.cells #[.string x117000_1,.string x117001_1,.int .u8 x117002_1,.int .i64 x117003_1,.bool x117004_1] 107 (0,0)) (kx_ BK116.out) hb);have n1_:=am (qB mC6 hb);have n2_:=am (hbox);have n3_:=am ((by rw[hg];exact(qM mC6):w.heap.size≤gb118));have n4_:=am ((by rw[hg];exact(qM mC6):w.heap.size≤gb118));have n5_:=am ((by rw[hg];exact Nat.ne_of_lt (qN (g:=gb116) (o:=.cells #[.string x117000_1,.string x117001_1,.int .u8 x117002_1,.int .i64 x117003_1,.bool x117004_1] 107 (0,0)) (kx_ BK116.out)):gb116≠gb118));have n6_:=am ((by rw[hg];exact Nat.ne_of_gt (qN (g:=gb116) (o:=.cells #[.string x117000_1,.string x117001_1,.int .u8 x117002_1,.int .i64 x117003_1,.bool x117004_1] 107 (0,0)) (kx_ BK116.out)):gb118≠gb116));clear BK116;clear HB;have BK116:=n0_;have HB:=n1_;have BK118:=n2_;have GW118:=n3_;have GE118:=n4_;have NB116_118:=n5_;have NB118_116:=n6_;clear n0_ n1_ n2_ n3_ n4_ n5_ n6_;clear hb hbox hg;have hnb9:=NB118_116.out;have hnc9:=NB116_118.out;have hcz10_0:w8.cell? ⟨gb118,0,none⟩=some (.int .i64 0):=(qA BK118.out 0).trans rfl;have hcz10_1:w8.cell? ⟨gb118,1,none⟩=some (.string (⟨#[]⟩:ByteArray)):=(qA BK118.out 1).trans rfl;have hcz10_2:w8.cell? ⟨gb118,2,none⟩=some (.string (⟨#[]⟩:ByteArray)):=(qA BK118.out 2).trans rfl;have hcz10_3:w8.cell? ⟨gb118,3,none⟩=some (.string (⟨#[]⟩:ByteArray)):=(qA BK118.out 3).trans rfl;have hcz10_4:w8.cell? ⟨gb118,4,none⟩=some (.int .u8 0):=(qA BK118.out 4).trans rfl;have hcz10_5:w8.cell? ⟨gb118,5,none⟩=some (.string (⟨#[]⟩:ByteArray)):=(qA BK118.out 5).trans rfl;have hcz10_6:w8.cell? ⟨gb118,6,none⟩=some (.bool false):=(qA BK118.out 6).trans rfl;have hfz10_0:=qD BK118.out 0;have hfz10_1:=qD BK118.out 1;have hfz10_2:=qD BK118.out 2;have hfz10_3:=qD BK118.out 3;have hfz10_4:=qD BK118.out 4;have hfz10_5:=qD BK118.out 5;have hfz10_6:=qD BK118.out 6))
       (try simp only[Act.put,List.setIfInBounds_toArray,List.set_cons_zero,List.set_cons_succ])
       go_cut [31] (fun v31 wc=>∃(kq:Nat) (x31_6:Bool),v31 = .bool x31_6∧Aside0 (qU.j1 kq a1 l0 (l0.length:Int) x14_1 x31_6 ((qC l0 x14_1).f0) ((qC l0 x14_1).f1) ((qC l0 x14_1).f2) ((qC l0 x14_1).f3) ((qC l0 x14_1).f4) ((qC l0 x14_1).f5) ((qC l0 x14_1).f6)=some (r1,r2,r3,r4,r5,r6))∧Aside0 (kq≤k1)∧Aside0 (wc.heap[gb116]? = some (.cells #[.string x117000_1,.string x117001_1,.int .u8 x117002_1,.int .i64 x117003_1,.bool x117004_1] 107 (0,0)))∧Aside0 (wc.heap[gb118]? = some (.cells #[.int .i64 ((qC l0 x14_1).f0),.string ((qC l0 x14_1).f1),.string ((qC l0 x14_1).f2),.string ((qC l0 x14_1).f3),.int .u8 ((qC l0 x14_1).f4),.string ((qC l0 x14_1).f5),.bool ((qC l0 x14_1).f6)] 134 (0,0)))∧Aside0 (Below w.heap.size w wc))
       case first =>
        have H:=HC7.out
        clear HC7
        by_cases c11:a1<((qC l0 x14_1).f0)
        ·rw[if_pos c11] at H
         have c11b0:decide (a1<((qC l0 x14_1).f0))=true:=decide_eq_true c11
         clear c11
         (first|rw[c11b0]|(simp only[zX,zn];rw[c11b0])|skip)
         have H':=am H
         clear H
         try go_wp2
         have n0_:Aside0 ((((((((w8.setCell ⟨gb118,0,none⟩ (.int .i64 ((qC l0 x14_1).f0))).setCell ⟨gb118,1,none⟩ (.string ((qC l0 x14_1).f1))).setCell ⟨gb118,2,none⟩ (.string ((qC l0 x14_1).f2))).setCell ⟨gb118,3,none⟩ (.string ((qC l0 x14_1).f3))).setCell ⟨gb118,4,none⟩ (.int .u8 ((qC l0 x14_1).f4))).setCell ⟨gb118,5,none⟩ (.string ((qC l0 x14_1).f5))).setCell ⟨gb118,6,none⟩ (.bool ((qC l0 x14_1).f6))).heap[gb116]? = some (.cells #[.string x117000_1,.string x117001_1,.int .u8 x117002_1,.int .i64 x117003_1,.bool x117004_1] 107 (0,0))):=⟨by (with_reducible repeat (first|apply kN|apply kD|apply kA));refine qp ?_ NB116_118.out _;(with_reducible repeat (first|apply kN|apply kD|apply kA));refine qp ?_ NB116_118.out _;(with_reducible repeat (first|apply kN|apply kD|apply kA));refine qp ?_ NB116_118.out _;(with_reducible repeat (first|apply kN|apply kD|apply kA));refine qp ?_ NB116_118.out _;(with_reducible repeat (first|apply kN|apply kD|apply kA));refine qp ?_ NB116_118.out _;(with_reducible repeat (first|apply kN|apply kD|apply kA));refine qp ?_ NB116_118.out _;(with_reducible repeat (first|apply kN|apply kD|apply kA));refine qp ?_ NB116_118.out _;(with_reducible repeat (first|apply kN|apply kD|apply kA));exact BK116.out⟩
         have n1_:Aside0 ((((((((w8.setCell ⟨gb118,0,none⟩ (.int .i64 ((qC l0 x14_1).f0))).setCell ⟨gb118,1,none⟩ (.string ((qC l0 x14_1).f1))).setCell ⟨gb118,2,none⟩ (.string ((qC l0 x14_1).f2))).setCell ⟨gb118,3,none⟩ (.string ((qC l0 x14_1).f3))).setCell ⟨gb118,4,none⟩ (.int .u8 ((qC l0 x14_1).f4))).setCell ⟨gb118,5,none⟩ (.string ((qC l0 x14_1).f5))).setCell ⟨gb118,6,none⟩ (.bool ((qC l0 x14_1).f6))).heap[gb118]? = some (.cells #[.int .i64 ((qC l0 x14_1).f0),.string ((qC l0 x14_1).f1),.string ((qC l0 x14_1).f2),.string ((qC l0 x14_1).f3),.int .u8 ((qC l0 x14_1).f4),.string ((qC l0 x14_1).f5),.bool ((qC l0 x14_1).f6)] 134 (0,0))):=⟨by (with_reducible repeat (first|apply kN|apply kD|apply kA));refine qK (cs:=#[.int .i64 ((qC l0 x14_1).f0),.string ((qC l0 x14_1).f1),.string ((qC l0 x14_1).f2),.string ((qC l0 x14_1).f3),.int .u8 ((qC l0 x14_1).f4),.string ((qC l0 x14_1).f5),.bool false]) ?_ 6 _ rfl;(with_reducible repeat (first|apply kN|apply kD|apply kA));refine qK (cs:=#[.int .i64 ((qC l0 x14_1).f0),.string ((qC l0 x14_1).f1),.string ((qC l0 x14_1).f2),.string ((qC l0 x14_1).f3),.int .u8 ((qC l0 x14_1).f4),.string (⟨#[]⟩:ByteArray),.bool false]) ?_ 5 _ rfl;(with_reducible repeat (first|apply kN|apply kD|apply kA));refine qK (cs:=#[.int .i64 ((qC l0 x14_1).f0),.string ((qC l0 x14_1).f1),.string ((qC l0 x14_1).f2),.string ((qC l0 x14_1).f3),.int .u8 0,.string (⟨#[]⟩:ByteArray),.bool false]) ?_ 4 _ rfl;(with_reducible repeat (first|apply kN|apply kD|apply kA));refine qK (cs:=#[.int .i64 ((qC l0 x14_1).f0),.string ((qC l0 x14_1).f1),.string ((qC l0 x14_1).f2),.string (⟨#[]⟩:ByteArray),.int .u8 0,.string (⟨#[]⟩:ByteArray),.bool false]) ?_ 3 _ rfl;(with_reducible repeat (first|apply kN|apply kD|apply kA));refine qK (cs:=#[.int .i64 ((qC l0 x14_1).f0),.string ((qC l0 x14_1).f1),.string (⟨#[]⟩:ByteArray),.string (⟨#[]⟩:ByteArray),.int .u8 0,.string (⟨#[]⟩:ByteArray),.bool false]) ?_ 2 _ rfl;(with_reducible repeat (first|apply kN|apply kD|apply kA));refine qK (cs:=#[.int .i64 ((qC l0 x14_1).f0),.string (⟨#[]⟩:ByteArray),.string (⟨#[]⟩:ByteArray),.string (⟨#[]⟩:ByteArray),.int .u8 0,.string (⟨#[]⟩:ByteArray),.bool false]) ?_ 1 _ rfl;(with_reducible repeat (first|apply kN|apply kD|apply kA));refine qK (cs:=#[.int .i64 0,.string (⟨#[]⟩:ByteArray),.string (⟨#[]⟩:ByteArray),.string (⟨#[]⟩:ByteArray),.int .u8 0,.string (⟨#[]⟩:ByteArray),.bool false]) ?_ 0 _ rfl;(with_reducible repeat (first|apply kN|apply kD|apply kA));exact BK118.out⟩
         have n2_:Aside0 (Below w.heap.size w (((((((w8.setCell ⟨gb118,0,none⟩ (.int .i64 ((qC l0 x14_1).f0))).setCell ⟨gb118,1,none⟩ (.string ((qC l0 x14_1).f1))).setCell ⟨gb118,2,none⟩ (.string ((qC l0 x14_1).f2))).setCell ⟨gb118,3,none⟩ (.string ((qC l0 x14_1).f3))).setCell ⟨gb118,4,none⟩ (.int .u8 ((qC l0 x14_1).f4))).setCell ⟨gb118,5,none⟩ (.string ((qC l0 x14_1).f5))).setCell ⟨gb118,6,none⟩ (.bool ((qC l0 x14_1).f6)))):=⟨mCx⟩
         (try clear BK116)
         (try clear BK118)
         (try clear HB)
         generalize (((((((w8.setCell ⟨gb118,0,none⟩ (.int .i64 ((qC l0 x14_1).f0))).setCell ⟨gb118,1,none⟩ (.string ((qC l0 x14_1).f1))).setCell ⟨gb118,2,none⟩ (.string ((qC l0 x14_1).f2))).setCell ⟨gb118,3,none⟩ (.string ((qC l0 x14_1).f3))).setCell ⟨gb118,4,none⟩ (.int .u8 ((qC l0 x14_1).f4))).setCell ⟨gb118,5,none⟩ (.string ((qC l0 x14_1).f5))).setCell ⟨gb118,6,none⟩ (.bool ((qC l0 x14_1).f6)))=w12 at n0_ n1_ n2_ ⊢
         have BK116:=n0_
         have BK118:=n1_
         have HB:=n2_
         clear n0_ n1_ n2_
         have n0_:=am (za BK116.out)
         have n1_:=am (za BK118.out)
         have n2_:=am (qP HB.out)
         clear BK116
         clear BK118
         clear HB
         have BK116:=n0_
         have BK118:=n1_
         have HB:=n2_
         clear n0_ n1_ n2_
         refine jQ (n:=14) (S:=fun w'=>w'.cell? ⟨gb118,0,none⟩=some (.int .i64 ((qC l0 x14_1).f0))∧w'.cell? ⟨gb118,1,none⟩=some (.string ((qC l0 x14_1).f1))∧w'.cell? ⟨gb118,2,none⟩=some (.string ((qC l0 x14_1).f2))∧w'.cell? ⟨gb118,3,none⟩=some (.string ((qC l0 x14_1).f3))∧w'.cell? ⟨gb118,4,none⟩=some (.int .u8 ((qC l0 x14_1).f4))∧w'.cell? ⟨gb118,5,none⟩=some (.string ((qC l0 x14_1).f5))∧w'.cell? ⟨gb118,6,none⟩=some (.bool ((qC l0 x14_1).f6))) (ds:=[]) #[false,false,false,false,false,false,false,false,false,false,false,false,false,false] mDh rfl rfl ⟨(qA BK118.out 0).trans rfl,(qA BK118.out 1).trans rfl,(qA BK118.out 2).trans rfl,(qA BK118.out 3).trans rfl,(qA BK118.out 4).trans rfl,(qA BK118.out 5).trans rfl,(qA BK118.out 6).trans rfl⟩ (fun hHeld=>?_);refine zQ qU.tab4 qU.bits4 (fun HT_ HW_=>?_)
         generalize w12.drew=w13 at BK116 BK118 HB hHeld ⊢
         refine qY (i:=0) (N:=some 18) (v:=?_) (a':=?_) #[true,false,false,false,false,false,false,false,false,false,false,false,false,false] rfl rfl (qS HT_.out mDh) (fun _ _ _ h=>h) (Or.inl ⟨mD2,?_⟩) ?_ ?_
         rotate_left
         ·intro w'
          go_simp
          with_reducible rfl
         rotate_left
         ·exact mAe
         refine qY (i:=1) (N:=some 19) (v:=?_) (a':=?_) #[true,true,false,false,false,false,false,false,false,false,false,false,false,false] rfl rfl (qS HT_.out mDh) (fun _ _ _ h=>h) (Or.inl ⟨mD2,?_⟩) ?_ ?_
         rotate_left
         ·intro w'
          go_simp
          with_reducible rfl
         rotate_left
         ·exact mAe
         refine take_ (i:=2) (N:=some 20) (v:=?_) (a':=?_) #[true,true,true,false,false,false,false,false,false,false,false,false,false,false] rfl rfl (qm HT_.out HW_.out mDh) (fun _ _ _ h=>h) (Or.inl ⟨mD2,?_⟩) hHeld ?_ ?_
         rotate_left
         ·exact mBb
         rotate_left
         ·exact mAe
         refine qY (i:=3) (N:=some 21) (v:=?_) (a':=?_) #[true,true,true,true,false,false,false,false,false,false,false,false,false,false] rfl rfl (qS HT_.out mDh) (fun _ _ _ h=>h) (Or.inl ⟨mD2,?_⟩) ?_ ?_
         rotate_left
         ·intro w'
          go_simp
          with_reducible rfl
         rotate_left
         ·exact mAe
         refine qY (i:=4) (N:=some 22) (v:=?_) (a':=?_) #[true,true,true,true,true,false,false,false,false,false,false,false,false,false] rfl rfl (qS HT_.out mDh) (fun _ _ _ h=>h) (Or.inl ⟨mD2,?_⟩) ?_ ?_
         rotate_left
         ·intro w'
          go_simp
          with_reducible rfl
         rotate_left
         ·exact mAe
         refine qY (i:=5) (N:=some 23) (v:=undef) (a':=?_) #[true,true,true,true,true,true,false,false,false,false,false,false,false,false] rfl rfl (qS HT_.out mDh) (fun _ _ _ h=>h) (Or.inr ⟨mD2,rfl⟩) ?_ ?_
         rotate_left
         ·exact mAe
         refine qY (i:=6) (N:=some 24) (v:=undef) (a':=?_) #[true,true,true,true,true,true,true,false,false,false,false,false,false,false] rfl rfl (qS HT_.out mDh) (fun _ _ _ h=>h) (Or.inr ⟨mD2,rfl⟩) ?_ ?_
         rotate_left
         ·exact mAe
         refine qY (i:=7) (N:=some 25) (v:=undef) (a':=?_) #[true,true,true,true,true,true,true,true,false,false,false,false,false,false] rfl rfl (qS HT_.out mDh) (fun _ _ _ h=>h) (Or.inr ⟨mD2,rfl⟩) ?_ ?_
         rotate_left
         ·exact mAe
         refine qY (i:=8) (N:=some 26) (v:=undef) (a':=?_) #[true,true,true,true,true,true,true,true,true,false,false,false,false,false] rfl rfl (qS HT_.out mDh) (fun _ _ _ h=>h) (Or.inr ⟨mD2,rfl⟩) ?_ ?_
         rotate_left
         ·exact mAe
         refine qY (i:=9) (N:=some 27) (v:=undef) (a':=?_) #[true,true,true,true,true,true,true,true,true,true,false,false,false,false] rfl rfl (qS HT_.out mDh) (fun _ _ _ h=>h) (Or.inr ⟨mD2,rfl⟩) ?_ ?_
         rotate_left
         ·exact mAe
         refine qY (i:=10) (N:=some 28) (v:=undef) (a':=?_) #[true,true,true,true,true,true,true,true,true,true,true,false,false,false] rfl rfl (qS HT_.out mDh) (fun _ _ _ h=>h) (Or.inr ⟨mD2,rfl⟩) ?_ ?_
         rotate_left
         ·exact mAe
         refine qY (i:=11) (N:=some 29) (v:=undef) (a':=?_) #[true,true,true,true,true,true,true,true,true,true,true,true,false,false] rfl rfl (qS HT_.out mDh) (fun _ _ _ h=>h) (Or.inr ⟨mD2,rfl⟩) ?_ ?_
         rotate_left
         ·exact mAe
         refine qY (i:=12) (N:=some 30) (v:=undef) (a':=?_) #[true,true,true,true,true,true,true,true,true,true,true,true,true,false] rfl rfl (qS HT_.out mDh) (fun _ _ _ h=>h) (Or.inr ⟨mD2,rfl⟩) ?_ ?_
         rotate_left
         ·exact mAe
         refine qY (i:=13) (N:=some 31) (v:=?_) (a':=?_) #[true,true,true,true,true,true,true,true,true,true,true,true,true,true] rfl rfl (qS HT_.out mDh) (fun _ _ _ h=>h) (Or.inl ⟨mD2,?_⟩) ?_ ?_
         rotate_left
         ·intro w'
          go_simp
          with_reducible rfl
         rotate_left
         ·exact mAe
         refine xI (zu HT_.out mDh) ?_
         try go_wp2
         go_meet
         case rel=>exact⟨_,(true),mDm,H',⟨by have:=HK1.out;first|omega|exact Nat.le_refl _⟩,⟨by (with_reducible repeat (first|apply kN|apply kD|apply kA));exact BK116.out⟩,⟨by (with_reducible repeat (first|apply kN|apply kD|apply kA));exact BK118.out⟩,⟨mCx⟩⟩
        ·rw[if_neg c11] at H
         have c11b0:decide (a1<((qC l0 x14_1).f0))=false:=decide_eq_false c11
         clear c11
         (first|rw[c11b0]|(simp only[zX,zn];rw[c11b0])|skip)
         replace H:=Option.bind_eq_some_iff.mp H
         obtain⟨t119,A140,H⟩:=H
         try dsimp only at H
         have A14:=am A140
         clear A140
         have H':=am H
         clear H
         try go_wp2
         have n0_:Aside0 ((((((((w8.setCell ⟨gb118,0,none⟩ (.int .i64 ((qC l0 x14_1).f0))).setCell ⟨gb118,1,none⟩ (.string ((qC l0 x14_1).f1))).setCell ⟨gb118,2,none⟩ (.string ((qC l0 x14_1).f2))).setCell ⟨gb118,3,none⟩ (.string ((qC l0 x14_1).f3))).setCell ⟨gb118,4,none⟩ (.int .u8 ((qC l0 x14_1).f4))).setCell ⟨gb118,5,none⟩ (.string ((qC l0 x14_1).f5))).setCell ⟨gb118,6,none⟩ (.bool ((qC l0 x14_1).f6))).heap[gb116]? = some (.cells #[.string x117000_1,.string x117001_1,.int .u8 x117002_1,.int .i64 x117003_1,.bool x117004_1] 107 (0,0))):=⟨by (with_reducible repeat (first|apply kN|apply kD|apply kA));refine qp ?_ NB116_118.out _;(with_reducible repeat (first|apply kN|apply kD|apply kA));refine qp ?_ NB116_118.out _;(with_reducible repeat (first|apply kN|apply kD|apply kA));refine qp ?_ NB116_118.out _;(with_reducible repeat (first|apply kN|apply kD|apply kA));refine qp ?_ NB116_118.out _;(with_reducible repeat (first|apply kN|apply kD|apply kA));refine qp ?_ NB116_118.out _;(with_reducible repeat (first|apply kN|apply kD|apply kA));refine qp ?_ NB116_118.out _;(with_reducible repeat (first|apply kN|apply kD|apply kA));refine qp ?_ NB116_118.out _;(with_reducible repeat (first|apply kN|apply kD|apply kA));exact BK116.out⟩
         have n1_:Aside0 ((((((((w8.setCell ⟨gb118,0,none⟩ (.int .i64 ((qC l0 x14_1).f0))).setCell ⟨gb118,1,none⟩ (.string ((qC l0 x14_1).f1))).setCell ⟨gb118,2,none⟩ (.string ((qC l0 x14_1).f2))).setCell ⟨gb118,3,none⟩ (.string ((qC l0 x14_1).f3))).setCell ⟨gb118,4,none⟩ (.int .u8 ((qC l0 x14_1).f4))).setCell ⟨gb118,5,none⟩ (.string ((qC l0 x14_1).f5))).setCell ⟨gb118,6,none⟩ (.bool ((qC l0 x14_1).f6))).heap[gb118]? = some (.cells #[.int .i64 ((qC l0 x14_1).f0),.string ((qC l0 x14_1).f1),.string ((qC l0 x14_1).f2),.string ((qC l0 x14_1).f3),.int .u8 ((qC l0 x14_1).f4),.string ((qC l0 x14_1).f5),.bool ((qC l0 x14_1).f6)] 134 (0,0))):=⟨by (with_reducible repeat (first|apply kN|apply kD|apply kA));refine qK (cs:=#[.int .i64 ((qC l0 x14_1).f0),.string ((qC l0 x14_1).f1),.string ((qC l0 x14_1).f2),.string ((qC l0 x14_1).f3),.int .u8 ((qC l0 x14_1).f4),.string ((qC l0 x14_1).f5),.bool false]) ?_ 6 _ rfl;(with_reducible repeat (first|apply kN|apply kD|apply kA));refine qK (cs:=#[.int .i64 ((qC l0 x14_1).f0),.string ((qC l0 x14_1).f1),.string ((qC l0 x14_1).f2),.string ((qC l0 x14_1).f3),.int .u8 ((qC l0 x14_1).f4),.string (⟨#[]⟩:ByteArray),.bool false]) ?_ 5 _ rfl;(with_reducible repeat (first|apply kN|apply kD|apply kA));refine qK (cs:=#[.int .i64 ((qC l0 x14_1).f0),.string ((qC l0 x14_1).f1),.string ((qC l0 x14_1).f2),.string ((qC l0 x14_1).f3),.int .u8 0,.string (⟨#[]⟩:ByteArray),.bool false]) ?_ 4 _ rfl;(with_reducible repeat (first|apply kN|apply kD|apply kA));refine qK (cs:=#[.int .i64 ((qC l0 x14_1).f0),.string ((qC l0 x14_1).f1),.string ((qC l0 x14_1).f2),.string (⟨#[]⟩:ByteArray),.int .u8 0,.string (⟨#[]⟩:ByteArray),.bool false]) ?_ 3 _ rfl;(with_reducible repeat (first|apply kN|apply kD|apply kA));refine qK (cs:=#[.int .i64 ((qC l0 x14_1).f0),.string ((qC l0 x14_1).f1),.string (⟨#[]⟩:ByteArray),.string (⟨#[]⟩:ByteArray),.int .u8 0,.string (⟨#[]⟩:ByteArray),.bool false]) ?_ 2 _ rfl;(with_reducible repeat (first|apply kN|apply kD|apply kA));refine qK (cs:=#[.int .i64 ((qC l0 x14_1).f0),.string (⟨#[]⟩:ByteArray),.string (⟨#[]⟩:ByteArray),.string (⟨#[]⟩:ByteArray),.int .u8 0,.string (⟨#[]⟩:ByteArray),.bool false]) ?_ 1 _ rfl;(with_reducible repeat (first|apply kN|apply kD|apply kA));refine qK (cs:=#[.int .i64 0,.string (⟨#[]⟩:ByteArray),.string (⟨#[]⟩:ByteArray),.string (⟨#[]⟩:ByteArray),.int .u8 0,.string (⟨#[]⟩:ByteArray),.bool false]) ?_ 0 _ rfl;(with_reducible repeat (first|apply kN|apply kD|apply kA));exact BK118.out⟩
         have n2_:Aside0 (Below w.heap.size w (((((((w8.setCell ⟨gb118,0,none⟩ (.int .i64 ((qC l0 x14_1).f0))).setCell ⟨gb118,1,none⟩ (.string ((qC l0 x14_1).f1))).setCell ⟨gb118,2,none⟩ (.string ((qC l0 x14_1).f2))).setCell ⟨gb118,3,none⟩ (.string ((qC l0 x14_1).f3))).setCell ⟨gb118,4,none⟩ (.int .u8 ((qC l0 x14_1).f4))).setCell ⟨gb118,5,none⟩ (.string ((qC l0 x14_1).f5))).setCell ⟨gb118,6,none⟩ (.bool ((qC l0 x14_1).f6)))):=⟨mCx⟩
         (try clear BK116)
         (try clear BK118)
         (try clear HB)
         generalize (((((((w8.setCell ⟨gb118,0,none⟩ (.int .i64 ((qC l0 x14_1).f0))).setCell ⟨gb118,1,none⟩ (.string ((qC l0 x14_1).f1))).setCell ⟨gb118,2,none⟩ (.string ((qC l0 x14_1).f2))).setCell ⟨gb118,3,none⟩ (.string ((qC l0 x14_1).f3))).setCell ⟨gb118,4,none⟩ (.int .u8 ((qC l0 x14_1).f4))).setCell ⟨gb118,5,none⟩ (.string ((qC l0 x14_1).f5))).setCell ⟨gb118,6,none⟩ (.bool ((qC l0 x14_1).f6)))=w15 at n0_ n1_ n2_ ⊢
         have BK116:=n0_
         have BK118:=n1_
         have HB:=n2_
         clear n0_ n1_ n2_
         have n0_:=am (za BK116.out)
         have n1_:=am (za BK118.out)
         have n2_:=am (qP HB.out)
         clear BK116
         clear BK118
         clear HB
         have BK116:=n0_
         have BK118:=n1_
         have HB:=n2_
         clear n0_ n1_ n2_
         refine jQ (n:=14) (S:=fun w'=>w'.cell? ⟨gb118,0,none⟩=some (.int .i64 ((qC l0 x14_1).f0))∧w'.cell? ⟨gb118,1,none⟩=some (.string ((qC l0 x14_1).f1))∧w'.cell? ⟨gb118,2,none⟩=some (.string ((qC l0 x14_1).f2))∧w'.cell? ⟨gb118,3,none⟩=some (.string ((qC l0 x14_1).f3))∧w'.cell? ⟨gb118,4,none⟩=some (.int .u8 ((qC l0 x14_1).f4))∧w'.cell? ⟨gb118,5,none⟩=some (.string ((qC l0 x14_1).f5))∧w'.cell? ⟨gb118,6,none⟩=some (.bool ((qC l0 x14_1).f6))) (ds:=[]) #[false,false,false,false,false,false,false,false,false,false,false,false,false,false] mDh rfl rfl ⟨(qA BK118.out 0).trans rfl,(qA BK118.out 1).trans rfl,(qA BK118.out 2).trans rfl,(qA BK118.out 3).trans rfl,(qA BK118.out 4).trans rfl,(qA BK118.out 5).trans rfl,(qA BK118.out 6).trans rfl⟩ (fun hHeld=>?_);refine zQ qU.tab4 qU.bits4 (fun HT_ HW_=>?_)
         generalize w15.drew=w16 at BK116 BK118 HB hHeld ⊢
         refine qY (i:=0) (N:=some 18) (v:=?_) (a':=?_) #[true,false,false,false,false,false,false,false,false,false,false,false,false,false] rfl rfl (qS HT_.out mDh) (fun _ _ _ h=>h) (Or.inl ⟨mD2,?_⟩) ?_ ?_
         rotate_left
         ·intro w'
          go_simp
          with_reducible rfl
         rotate_left
         ·exact mAe
         refine qY (i:=1) (N:=some 19) (v:=?_) (a':=?_) #[true,true,false,false,false,false,false,false,false,false,false,false,false,false] rfl rfl (qS HT_.out mDh) (fun _ _ _ h=>h) (Or.inl ⟨mD2,?_⟩) ?_ ?_
         rotate_left
         ·intro w'
          go_simp
          with_reducible rfl
         rotate_left
         ·exact mAe
         refine take_ (i:=2) (N:=some 20) (v:=?_) (a':=?_) #[true,true,true,false,false,false,false,false,false,false,false,false,false,false] rfl rfl (qm HT_.out HW_.out mDh) (fun _ _ _ h=>h) (Or.inl ⟨mD2,?_⟩) hHeld ?_ ?_
         rotate_left
         ·exact mBb
         rotate_left
         ·exact mAe
         refine qY (i:=3) (N:=some 21) (v:=?_) (a':=?_) #[true,true,true,true,false,false,false,false,false,false,false,false,false,false] rfl rfl (qS HT_.out mDh) (fun _ _ _ h=>h) (Or.inl ⟨mD2,?_⟩) ?_ ?_
         rotate_left
         ·intro w'
          go_simp
          with_reducible rfl
         rotate_left
         ·exact mAe
         refine qY (i:=4) (N:=some 22) (v:=?_) (a':=?_) #[true,true,true,true,true,false,false,false,false,false,false,false,false,false] rfl rfl (qS HT_.out mDh) (fun _ _ _ h=>h) (Or.inl ⟨mD2,?_⟩) ?_ ?_
         rotate_left
         ·intro w'
          go_simp
          with_reducible rfl
         rotate_left
         ·exact mAe
         refine qY (i:=5) (N:=some 23) (v:=?_) (a':=?_) #[true,true,true,true,true,true,false,false,false,false,false,false,false,false] rfl rfl (qS HT_.out mDh) (fun _ _ _ h=>h) (Or.inl ⟨mD2,?_⟩) ?_ ?_
         rotate_left
         ·intro w'
          go_simp
          with_reducible rfl
         rotate_left
         ·exact mAe
         refine qY (i:=6) (N:=some 24) (v:=?_) (a':=?_) #[true,true,true,true,true,true,true,false,false,false,false,false,false,false] rfl rfl (qS HT_.out mDh) (fun _ _ _ h=>h) (Or.inl ⟨mD2,?_⟩) ?_ ?_
         rotate_left
         ·intro w'
          go_simp
          with_reducible rfl
         rotate_left
         ·exact mAe
         refine qY (i:=9) (N:=some 27) (v:=?_) (a':=?_) #[true,true,true,true,true,true,true,false,false,true,false,false,false,false] rfl rfl (qS HT_.out mDh) (fun _ _ _ h=>h) (Or.inl ⟨mD2,?_⟩) ?_ ?_
         rotate_left
         ·intro w'
          go_simp
          with_reducible rfl
         rotate_left
         ·exact mAe
         refine take_ (i:=7) (N:=some 25) (v:=?_) (a':=?_) #[true,true,true,true,true,true,true,true,false,true,false,false,false,false] rfl rfl (qm HT_.out HW_.out mDh) (fun _ _ _ h=>h) (Or.inl ⟨mD2,?_⟩) hHeld ?_ ?_
         rotate_left
         ·exact mBb
         rotate_left
         ·exact mAe
         refine qY (i:=8) (N:=some 26) (v:=?_) (a':=?_) #[true,true,true,true,true,true,true,true,true,true,false,false,false,false] rfl rfl (qS HT_.out mDh) (fun _ _ _ h=>h) (Or.inl ⟨mD2,?_⟩) ?_ ?_
         rotate_left
         ·intro w'
          go_simp
          with_reducible rfl
         rotate_left
         ·exact mAe
         refine take_ (i:=10) (N:=some 28) (v:=?_) (a':=?_) #[true,true,true,true,true,true,true,true,true,true,true,false,false,false] rfl rfl (qm HT_.out HW_.out mDh) (fun _ _ _ h=>h) (Or.inl ⟨mD2,?_⟩) hHeld ?_ ?_
         rotate_left
         ·exact mBb
         rotate_left
         ·exact mAe
         refine jC (i:=11) (N:=some 29) #[true,true,true,true,true,true,true,true,true,true,true,true,false,false] rfl rfl (qq HT_.out mDh) mDl (fun K hK=>?_)
         refine yD Tryd.func84 mDh rfl #[.string ((qC l0 x14_1).f2),.string (⟨#[32]⟩:ByteArray)] mD2 rfl rfl mCe ?_
         with_reducible refine(jg.calls ((qC l0 x14_1).f2) (⟨#[32]⟩:ByteArray) t119 _ A14.out).mono ?_
         rintro e w' ⟨rfl,⟨nd,rfl⟩⟩
         refine⟨_,rfl,?_⟩
         refine hK.out _ _ ⟨(qA BK118.out 0).trans rfl,(qA BK118.out 1).trans rfl,(qA BK118.out 2).trans rfl,(qA BK118.out 3).trans rfl,(qA BK118.out 4).trans rfl,(qA BK118.out 5).trans rfl,(qA BK118.out 6).trans rfl⟩ (fun hHeld=>?_)
         clear hK K
         refine zJ (a':=?_) ?_ ?_
         rotate_left
         ·show Act.put _ (some 29) _=_
          exact mAe
         refine qY (i:=12) (N:=some 30) (v:=?_) (a':=?_) #[true,true,true,true,true,true,true,true,true,true,true,true,true,false] rfl rfl (qS HT_.out mDh) (fun _ _ _ h=>h) (Or.inl ⟨mD2,?_⟩) ?_ ?_
         rotate_left
         ·intro w'
          go_simp
          with_reducible rfl
         rotate_left
         ·exact mAe
         refine qY (i:=13) (N:=some 31) (v:=?_) (a':=?_) #[true,true,true,true,true,true,true,true,true,true,true,true,true,true] rfl rfl (qS HT_.out mDh) (fun _ _ _ h=>h) (Or.inl ⟨mD2,?_⟩) ?_ ?_
         rotate_left
         ·intro w'
          go_simp
          with_reducible rfl
         rotate_left
         ·exact mAe
         refine xI (zu HT_.out mDh) ?_
         try go_wp2
         go_meet
         case rel=>exact⟨_,(decide ((wrap64 (a1 - ((qC l0 x14_1).f0))) > t119)),mDm,H',⟨by have:=HK1.out;first|omega|exact Nat.le_refl _⟩,⟨by (with_reducible repeat (first|apply kN|apply kD|apply kA));exact BK116.out⟩,⟨by (with_reducible repeat (first|apply kN|apply kD|apply kA));exact BK118.out⟩,⟨mCx⟩⟩
       case rest =>
        clear HC7
        try clear c1
        try clear p1
        try clear q1
        try clear hx1
        try clear c2
        try clear p2
        try clear c4
        try clear c4b0
        try clear c5
        try clear c5b0
        try clear c6
        try clear c6b0
        try clear p6
        try clear c9
        try clear c11
        try clear c11b0
        try clear p11
        try clear q11
        try clear hx11
        try clear hcz10_0
        try clear hcz10_1
        try clear hcz10_2
        try clear hcz10_3
        try clear hcz10_4
        try clear hcz10_5
        try clear hcz10_6
        try clear hfz10_0
        try clear hfz10_1
        try clear hfz10_2
        try clear hfz10_3
        try clear hfz10_4
        try clear hfz10_5
        try clear hfz10_6
        try clear hx117_0
        try clear hx117_1
        try clear hx117_2
        try clear hx117_3
        try clear hx117_4
        try clear hx117_5
        try clear hx117_6
        try clear p117
        try clear p2
        try clear q117
        obtain⟨kq,x31_6,rfl,HA,HJ6,BK116,BK118,HB⟩:=hcut
        cases kq with
        | zero=>exact absurd HA.out (by simp[qU.j1])
        | succ kj6 =>
          have H:=HA.out
          clear HA
          simp only[qU.j1] at H
          by_cases c17:x31_6=true
          ·subst c17
           rw[if_pos rfl] at H
           try dsimp only at H
           have H':=am H
           clear H
           go_wp2
           go_roundg kj6
           case measure=>have:=HK1.out;have:=HJ6.out;omega
           case rel=>exact⟨(wrap64 (x14_1+1)),(x117000_1),(x117001_1),(x117002_1),(x117003_1),(x117004_1),mDm,H',⟨by have:=HK1.out;have:=HJ6.out;omega⟩,⟨by (with_reducible repeat (first|apply kN|apply kD|apply kA));exact BK116.out⟩,⟨mCx⟩⟩
          ·replace c17:=Bool.eq_false_iff.mpr c17
           subst c17
           rw[if_neg (show ¬(false=true) by decide)] at H
           try dsimp only at H
           replace H:=Option.bind_eq_some_iff.mp H
           obtain⟨t120,A180,H⟩:=H
           try dsimp only at H
           have A18:=am A180
           clear A180
           have H':=am H
           clear H
           have hnb19:=NB118_116.out
           have hnc19:=NB116_118.out
           have hcz20_0:wc.cell? ⟨gb118,0,none⟩=some (.int .i64 ((qC l0 x14_1).f0)):=(qA BK118.out 0).trans rfl
           have hcz20_1:wc.cell? ⟨gb118,1,none⟩=some (.string ((qC l0 x14_1).f1)):=(qA BK118.out 1).trans rfl
           have hcz20_2:wc.cell? ⟨gb118,2,none⟩=some (.string ((qC l0 x14_1).f2)):=(qA BK118.out 2).trans rfl
           have hcz20_3:wc.cell? ⟨gb118,3,none⟩=some (.string ((qC l0 x14_1).f3)):=(qA BK118.out 3).trans rfl
           have hcz20_4:wc.cell? ⟨gb118,4,none⟩=some (.int .u8 ((qC l0 x14_1).f4)):=(qA BK118.out 4).trans rfl
           have hcz20_5:wc.cell? ⟨gb118,5,none⟩=some (.string ((qC l0 x14_1).f5)):=(qA BK118.out 5).trans rfl
           have hcz20_6:wc.cell? ⟨gb118,6,none⟩=some (.bool ((qC l0 x14_1).f6)):=(qA BK118.out 6).trans rfl
           have hfz20_0:=qD BK118.out 0
           have hfz20_1:=qD BK118.out 1
           have hfz20_2:=qD BK118.out 2
           have hfz20_3:=qD BK118.out 3
           have hfz20_4:=qD BK118.out 4
           have hfz20_5:=qD BK118.out 5
           have hfz20_6:=qD BK118.out 6
           go_wp2_with (first|((with_reducible refine qO (f:=83) rfl ?_);refine qo (some 39) rfl rfl Tryd.func83 mDh rfl #[.string ((qC l0 x14_1).f5),.int .i64 (wrap64 (a1 - ((qC l0 x14_1).f0)))] rfl mCe ?_;(with_reducible refine(qR.calls (hT:=mCd) ((qC l0 x14_1).f5) (wrap64 (a1 - ((qC l0 x14_1).f0))) t120 _ A18.out).mono ?_);rintro e w21 ⟨rfl,hb⟩;refine⟨_,rfl,?_⟩;have n0_:=am (qG (g:=gb116) (o:=.cells #[.string x117000_1,.string x117001_1,.int .u8 x117002_1,.int .i64 x117003_1,.bool x117004_1] 107 (0,0)) (kx_ BK116.out) hb);have n1_:=am (qG (g:=gb118) (o:=.cells #[.int .i64 ((qC l0 x14_1).f0),.string ((qC l0 x14_1).f1),.string ((qC l0 x14_1).f2),.string ((qC l0 x14_1).f3),.int .u8 ((qC l0 x14_1).f4),.string ((qC l0 x14_1).f5),.bool ((qC l0 x14_1).f6)] 134 (0,0)) (kx_ BK118.out) hb);have n2_:=am (qB mCx hb);clear BK116;clear BK118;clear HB;have BK116:=n0_;have BK118:=n1_;have HB:=n2_;clear n0_ n1_ n2_;(try clear hb);(try clear hb2);(try clear hk);(try clear hi)))
           have NI116:=am (Nat.ne_of_lt (qN BK116.out))
           have NI118:=am (Nat.ne_of_lt (qN BK118.out))
           have GIt:=am (qM HB.out)
           have n0_:=am (yq BK116.out (.stringIter t120 0))
           have n1_:=am (yq BK118.out (.stringIter t120 0))
           have n2_:=am (qh HB.out (.stringIter t120 0))
           have n3_:=am (World.iter_heap w21 t120 0)
           clear BK116;clear BK118;clear HB
           have BK116:=n0_;have BK118:=n1_;have HB:=n2_;have HI:=n3_
           clear n0_ n1_ n2_ n3_
           go_loopg [9] kj6 (fun kq v9 w'=>∃(x9_3:Int) (p40:Nat),v9 = .int .i64 x9_3∧Aside0 (qU.l1 kq (wrap64 (a1 - ((qC l0 x14_1).f0))) x9_3 t120 p40 ((qC l0 x14_1).f0) ((qC l0 x14_1).f1) ((qC l0 x14_1).f2) ((qC l0 x14_1).f3) ((qC l0 x14_1).f4) ((qC l0 x14_1).f5) ((qC l0 x14_1).f6)=some (r1,r2,r3,r4,r5,r6))∧Aside0 (kq≤kj6)∧Aside0 (w'.heap[w21.heap.size]? = some (.stringIter t120 p40))∧Aside0 (w'.heap[gb116]? = some (.cells #[.string x117000_1,.string x117001_1,.int .u8 x117002_1,.int .i64 x117003_1,.bool x117004_1] 107 (0,0)))∧Aside0 (w'.heap[gb118]? = some (.cells #[.int .i64 ((qC l0 x14_1).f0),.string ((qC l0 x14_1).f1),.string ((qC l0 x14_1).f2),.string ((qC l0 x14_1).f3),.int .u8 ((qC l0 x14_1).f4),.string ((qC l0 x14_1).f5),.bool ((qC l0 x14_1).f6)] 134 (0,0)))∧Aside0 (Below w.heap.size w w'))
           case atStart=>exact⟨(0),(0),mDm,H',⟨Nat.le_refl _⟩,HI,⟨by (with_reducible repeat (first|apply kN|apply kD|apply kA));exact BK116.out⟩,⟨by (with_reducible repeat (first|apply kN|apply kD|apply kA));exact BK118.out⟩,⟨mCx⟩⟩
           case round =>
            clear H'
            try clear c1
            try clear p1
            try clear q1
            try clear hx1
            try clear c2
            try clear p2
            try clear c4
            try clear c4b0
            try clear c5
            try clear c5b0
            try clear c6
            try clear c6b0
            try clear p6
            try clear c9
            try clear c11
            try clear c11b0
            try clear p11
            try clear q11
            try clear hx11
            try clear c17
            try clear c19
            try clear hcz10_0
            try clear hcz10_1
            try clear hcz10_2
            try clear hcz10_3
            try clear hcz10_4
            try clear hcz10_5
            try clear hcz10_6
            try clear hcz20_0
            try clear hcz20_1
            try clear hcz20_2
            try clear hcz20_3
            try clear hcz20_4
            try clear hcz20_5
            try clear hcz20_6
            try clear hfz10_0
            try clear hfz10_1
            try clear hfz10_2
            try clear hfz10_3
            try clear hfz10_4
            try clear hfz10_5
            try clear hfz10_6
            try clear hfz20_0
            try clear hfz20_1
            try clear hfz20_2
            try clear hfz20_3
            try clear hfz20_4
            try clear hfz20_5
            try clear hfz20_6
            try clear hx117_0
            try clear hx117_1
            try clear hx117_2
            try clear hx117_3
            try clear hx117_4
            try clear hx117_5
            try clear hx117_6
            try clear p1
            try clear p11
            try clear p117
            try clear p2
            try clear p6
            try clear q1
            try clear q11
            try clear q117
            clear HI
            obtain⟨x9_3,p40,rfl,HA,HK3,HI,BK116,BK118,HB⟩:=hrel
            cases gk with
            | zero=>exact absurd HA.out (by simp[qU.l1])
            | succ k3 =>
              have H:=HA.out
              clear HA
              simp only[qU.l1] at H
              by_cases c22:p40<t120.size
              ·rw[if_pos c22] at H
               have hnx:∀ ty,(Instr.next (.pointer (some ⟨w21.heap.size,0,none⟩)) true ty).run Tryd.prog _=_:=fun ty=>Lib.run_next_any_at _ _ _ p40 ty HI.out c22
               obtain⟨c,hc⟩:∃ c:Int,((Utf8.decode t120 p40).1:Int)=c:=⟨_,rfl⟩
               obtain⟨pw,hpw⟩:∃ pw:Nat,p40+(Utf8.decode t120 p40).2=pw:=⟨_,rfl⟩
               rw[hpw] at H
               simp only[hc] at H
               simp only[hc,hpw] at hnx
               have HI2:=am (Lib.iterAt_heap _ _ _ _ pw HI.out)
               have n0_:=am ((Lib.iterAt_other _ w21.heap.size gb116 t120 pw NI116.out).trans BK116.out)
               have n1_:=am ((Lib.iterAt_other _ w21.heap.size gb118 t120 pw NI118.out).trans BK118.out)
               have n2_:=am (Lib.below_iterAt (s:=t120) (pos:=pw) HB.out GIt.out)
               clear c22
               have H':=am H
               clear H
               go_wp2
               go_roundg k3
               case measure=>have:=HK1.out;have:=HJ6.out;have:=HK3.out;omega
               case rel=>exact⟨(wrap64 ((wrap64 (10*x9_3))+(wrap64 (wrap32 (c - 48))))),pw,mDm,H',⟨by have:=HK1.out;have:=HJ6.out;have:=HK3.out;omega⟩,HI2,n0_,n1_,n2_⟩
              ·rw[if_neg c22] at H
               have hnx:∀ ty,(Instr.next (.pointer (some ⟨w21.heap.size,0,none⟩)) true ty).run Tryd.prog _=_:=fun ty=>Lib.run_next_end_at _ _ _ p40 ty HI.out c22
               clear c22
               replace H:=Option.bind_eq_some_iff.mp H
               obtain⟨t121,A230,H⟩:=H
               try dsimp only at H
               have A23:=am A230
               clear A230
               obtain⟨ji24,hji24⟩:∃ j_:Int,(wrap64 (a1 - ((qC l0 x14_1).f0)))=j_:=⟨_,rfl⟩
               replace H:(if 0≤(ji24) then (if (ji24)<(t121.length:Int) then (if ((qC l0 x14_1).f1).size+(xR ByteArray.empty t121 (ji24)).size≤9223372036854775807 then ((qR.f ((qC l0 x14_1).f3) (ji24)).bind fun t125=>(some (((qC l0 x14_1).f1)++(xR ByteArray.empty t121 (ji24)),t125,((qC l0 x14_1).f4),x9_3,((qC l0 x14_1).f6),true))) else (none)) else (none)) else (none))=some (r1,r2,r3,r4,r5,r6):=by first|(rw[hji24] at H;exact H)|(simp only[hji24] at H ⊢;exact H)
               (try rw[hji24] at A23)
               have hji24w:(IntKind.i64.wrap (a1 - ((qC l0 x14_1).f0)))=ji24:=(zX _).trans hji24
               by_cases c25:0≤(ji24)
               ·rw[if_pos c25] at H
                have c25b0:decide (0≤(ji24))=true:=decide_eq_true c25
                clear c25
                by_cases c26:(ji24)<(t121.length:Int)
                ·rw[if_pos c26] at H
                 have c26b0:decide ((ji24)<(t121.length:Int))=true:=decide_eq_true c26
                 clear c26
                 by_cases c27:((qC l0 x14_1).f1).size+(xR ByteArray.empty t121 (ji24)).size≤9223372036854775807
                 ·rw[if_pos c27] at H
                  have c27b0:=eq_true c27
                  have c27b1:decide (((qC l0 x14_1).f1).size+(xR ByteArray.empty t121 (ji24)).size≤9223372036854775807)=true:=decide_eq_true c27
                  try have c27b2:(9223372036854775807<((qC l0 x14_1).f1).size+(xR ByteArray.empty t121 (ji24)).size)=False:=eq_false (Nat.not_lt.2 c27)
                  replace H:=Option.bind_eq_some_iff.mp H
                  obtain⟨t125,A280,H⟩:=H
                  try dsimp only at H
                  have A28:=am A280
                  clear A280
                  simp only[Option.some.injEq,Prod.mk.injEq] at H
                  obtain⟨rfl,rfl,rfl,rfl,rfl,rfl⟩:=H
                  try go_wp2
                  have n0_:=am (za BK116.out)
                  have n1_:=am (za BK118.out)
                  have n2_:=am (qP HB.out)
                  clear BK116
                  clear BK118
                  clear HB
                  have BK116:=n0_
                  have BK118:=n1_
                  have HB:=n2_
                  clear n0_ n1_ n2_
                  refine jQ (n:=21) (S:=fun w'=>w'.cell? ⟨gb118,0,none⟩=some (.int .i64 ((qC l0 x14_1).f0))∧w'.cell? ⟨gb118,1,none⟩=some (.string ((qC l0 x14_1).f1))∧w'.cell? ⟨gb118,2,none⟩=some (.string ((qC l0 x14_1).f2))∧w'.cell? ⟨gb118,3,none⟩=some (.string ((qC l0 x14_1).f3))∧w'.cell? ⟨gb118,4,none⟩=some (.int .u8 ((qC l0 x14_1).f4))∧w'.cell? ⟨gb118,5,none⟩=some (.string ((qC l0 x14_1).f5))∧w'.cell? ⟨gb118,6,none⟩=some (.bool ((qC l0 x14_1).f6))) (ds:=[]) #[false,false,false,false,false,false,false,false,false,false,false,false,false,false,false,false,false,false,false,false,false] mDh rfl rfl ⟨(qA BK118.out 0).trans rfl,(qA BK118.out 1).trans rfl,(qA BK118.out 2).trans rfl,(qA BK118.out 3).trans rfl,(qA BK118.out 4).trans rfl,(qA BK118.out 5).trans rfl,(qA BK118.out 6).trans rfl⟩ (fun hHeld=>?_);refine zQ qU.tab11 qU.bits11 (fun HT_ HW_=>?_)
                  generalize wr.drew=w29 at BK116 BK118 HB hHeld ⊢
                  refine qY (i:=0) (N:=some 50) (v:=?_) (a':=?_) #[true,false,false,false,false,false,false,false,false,false,false,false,false,false,false,false,false,false,false,false,false] rfl rfl (qS HT_.out mDh) (fun _ _ _ h=>h) (Or.inl ⟨mD2,?_⟩) ?_ ?_
                  rotate_left
                  ·intro w'
                   go_simp
                   with_reducible rfl
                  rotate_left
                  ·exact mAe
                  refine qY (i:=2) (N:=some 52) (v:=?_) (a':=?_) #[true,false,true,false,false,false,false,false,false,false,false,false,false,false,false,false,false,false,false,false,false] rfl rfl (qS HT_.out mDh) (fun _ _ _ h=>h) (Or.inl ⟨mD2,?_⟩) ?_ ?_
                  rotate_left
                  ·intro w'
                   go_simp
                   with_reducible rfl
                  rotate_left
                  ·exact mAe
                  refine qY (i:=5) (N:=some 55) (v:=?_) (a':=?_) #[true,false,true,false,false,true,false,false,false,false,false,false,false,false,false,false,false,false,false,false,false] rfl rfl (qS HT_.out mDh) (fun _ _ _ h=>h) (Or.inl ⟨mD2,?_⟩) ?_ ?_
                  rotate_left
                  ·intro w'
                   go_simp
                   with_reducible rfl
                  rotate_left
                  ·exact mAe
                  refine qY (i:=9) (N:=some 59) (v:=?_) (a':=?_) #[true,false,true,false,false,true,false,false,false,true,false,false,false,false,false,false,false,false,false,false,false] rfl rfl (qS HT_.out mDh) (fun _ _ _ h=>h) (Or.inl ⟨mD2,?_⟩) ?_ ?_
                  rotate_left
                  ·intro w'
                   go_simp
                   with_reducible rfl
                  rotate_left
                  ·exact mAe
                  refine qY (i:=11) (N:=some 61) (v:=?_) (a':=?_) #[true,false,true,false,false,true,false,false,false,true,false,true,false,false,false,false,false,false,false,false,false] rfl rfl (qS HT_.out mDh) (fun _ _ _ h=>h) (Or.inl ⟨mD2,?_⟩) ?_ ?_
                  rotate_left
                  ·intro w'
                   go_simp
                   with_reducible rfl
                  rotate_left
                  ·exact mAe
                  refine qY (i:=13) (N:=some 63) (v:=?_) (a':=?_) #[true,false,true,false,false,true,false,false,false,true,false,true,false,true,false,false,false,false,false,false,false] rfl rfl (qS HT_.out mDh) (fun _ _ _ h=>h) (Or.inl ⟨mD2,?_⟩) ?_ ?_
                  rotate_left
                  ·intro w'
                   go_simp
                   with_reducible rfl
                  rotate_left
                  ·exact mAe
                  refine qY (i:=15) (N:=some 65) (v:=?_) (a':=?_) #[true,false,true,false,false,true,false,false,false,true,false,true,false,true,false,true,false,false,false,false,false] rfl rfl (qS HT_.out mDh) (fun _ _ _ h=>h) (Or.inl ⟨mD2,?_⟩) ?_ ?_
                  rotate_left
                  ·intro w'
                   go_simp
                   with_reducible rfl
                  rotate_left
                  ·exact mAe
                  refine qY (i:=16) (N:=some 66) (v:=?_) (a':=?_) #[true,false,true,false,false,true,false,false,false,true,false,true,false,true,false,true,true,false,false,false,false] rfl rfl (qS HT_.out mDh) (fun _ _ _ h=>h) (Or.inl ⟨mD2,?_⟩) ?_ ?_
                  rotate_left
                  ·intro w'
                   go_simp
                   with_reducible rfl
                  rotate_left
                  ·exact mAe
                  refine take_ (i:=1) (N:=some 51) (v:=?_) (a':=?_) #[true,true,true,false,false,true,false,false,false,true,false,true,false,true,false,true,true,false,false,false,false] rfl rfl (qm HT_.out HW_.out mDh) (fun _ _ _ h=>h) (Or.inl ⟨mD2,?_⟩) hHeld ?_ ?_
                  rotate_left
                  ·exact mBb
                  rotate_left
                  ·exact mAe
                  refine take_ (i:=3) (N:=some 53) (v:=?_) (a':=?_) #[true,true,true,true,false,true,false,false,false,true,false,true,false,true,false,true,true,false,false,false,false] rfl rfl (qm HT_.out HW_.out mDh) (fun _ _ _ h=>h) (Or.inl ⟨mD2,?_⟩) hHeld ?_ ?_
                  rotate_left
                  ·exact mBb
                  rotate_left
                  ·exact mAe
                  refine take_ (i:=10) (N:=some 60) (v:=?_) (a':=?_) #[true,true,true,true,false,true,false,false,false,true,true,true,false,true,false,true,true,false,false,false,false] rfl rfl (qm HT_.out HW_.out mDh) (fun _ _ _ h=>h) (Or.inl ⟨mD2,?_⟩) hHeld ?_ ?_
                  rotate_left
                  ·exact mBb
                  rotate_left
                  ·exact mAe
                  refine take_ (i:=14) (N:=some 64) (v:=?_) (a':=?_) #[true,true,true,true,false,true,false,false,false,true,true,true,false,true,true,true,true,false,false,false,false] rfl rfl (qm HT_.out HW_.out mDh) (fun _ _ _ h=>h) (Or.inl ⟨mD2,?_⟩) hHeld ?_ ?_
                  rotate_left
                  ·exact mBb
                  rotate_left
                  ·exact mAe
                  refine take_ (i:=17) (N:=some 67) (v:=?_) (a':=?_) #[true,true,true,true,false,true,false,false,false,true,true,true,false,true,true,true,true,true,false,false,false] rfl rfl (qm HT_.out HW_.out mDh) (fun _ _ _ h=>h) (Or.inl ⟨mD2,?_⟩) hHeld ?_ ?_
                  rotate_left
                  ·exact mBb
                  rotate_left
                  ·exact mAe
                  refine jC (i:=4) (N:=some 54) #[true,true,true,true,true,true,false,false,false,true,true,true,false,true,true,true,true,true,false,false,false] rfl rfl (qq HT_.out mDh) mDl (fun K hK=>?_)
                  refine yD Tryd.func85 mDh rfl #[.string ((qC l0 x14_1).f2),.string (⟨#[32]⟩:ByteArray)] mD2 rfl rfl mCe ?_
                  with_reducible refine(strings_Split.calls (hT:=mCd) ((qC l0 x14_1).f2) (⟨#[32]⟩:ByteArray) t121 _ A23.out).mono ?_
                  rintro e w30 ⟨v122,rfl,ho0,hb⟩
                  refine⟨_,rfl,?_⟩
                  have n0_:=am (Kd.R_lower ho0 (qM mCx))
                  have n1_:=am (qG (g:=gb116) (o:=.cells #[.string x117000_1,.string x117001_1,.int .u8 x117002_1,.int .i64 x117003_1,.bool x117004_1] 107 (0,0)) (kx_ BK116.out) hb)
                  have n2_:=am (qG (g:=gb118) (o:=.cells #[.int .i64 ((qC l0 x14_1).f0),.string ((qC l0 x14_1).f1),.string ((qC l0 x14_1).f2),.string ((qC l0 x14_1).f3),.int .u8 ((qC l0 x14_1).f4),.string ((qC l0 x14_1).f5),.bool ((qC l0 x14_1).f6)] 134 (0,0)) (kx_ BK118.out) hb)
                  have n3_:=am (qB mCx hb)
                  clear BK116
                  clear BK118
                  clear HB
                  have HO123:=n0_
                  have BK116:=n1_
                  have BK118:=n2_
                  have HB:=n3_
                  clear n0_ n1_ n2_ n3_
                  (try clear hb)
                  (try clear hb2)
                  (try clear hk)
                  (try clear hi)
                  (try clear ho0)
                  obtain⟨Ao31,co31,eo31⟩:=Kd.R_slice HO123.out
                  (first|subst eo31|(injection eo31 with f1_ f2_ f3_;have f4_:=f1_.symm;have f5_:=f3_.symm;clear f1_ f2_ f3_;subst f4_;subst f5_))
                  have p124:0≤((ji24):Int):=of_decide_eq_true mDk
                  have q124:(ji24)<(t121.length:Int):=of_decide_eq_true mDk
                  obtain⟨ad124,e124,hx124_0⟩:=Kd.at_string (Kd.R_reads' HO123.out).2.2 (ji24) p124 q124
                  cases e124
                  replace p124:=eq_true p124
                  replace q124:=eq_true q124
                  refine hK.out _ _ ⟨(qA BK118.out 0).trans rfl,(qA BK118.out 1).trans rfl,(qA BK118.out 2).trans rfl,(qA BK118.out 3).trans rfl,(qA BK118.out 4).trans rfl,(qA BK118.out 5).trans rfl,(qA BK118.out 6).trans rfl⟩ (fun hHeld=>?_)
                  refine qCz (S':=fun w'=>w'.cell? ⟨gb118,0,none⟩=some (.int .i64 ((qC l0 x14_1).f0))∧w'.cell? ⟨gb118,1,none⟩=some (.string ((qC l0 x14_1).f1))∧w'.cell? ⟨gb118,2,none⟩=some (.string ((qC l0 x14_1).f2))∧w'.cell? ⟨gb118,3,none⟩=some (.string ((qC l0 x14_1).f3))∧w'.cell? ⟨gb118,4,none⟩=some (.int .u8 ((qC l0 x14_1).f4))∧w'.cell? ⟨gb118,5,none⟩=some (.string ((qC l0 x14_1).f5))∧w'.cell? ⟨gb118,6,none⟩=some (.bool ((qC l0 x14_1).f6))∧w'.cell? (ad124.add ((ji24)).toNat)=some (.string (xR ByteArray.empty t121 (ji24)))) (fun _ h=>⟨h.1,h.2.1,h.2.2.1,h.2.2.2.1,h.2.2.2.2.1,h.2.2.2.2.2.1,h.2.2.2.2.2.2.1⟩) _ _ _ _ ⟨hHeld.1,hHeld.2.1,hHeld.2.2.1,hHeld.2.2.2.1,hHeld.2.2.2.2.1,hHeld.2.2.2.2.2.1,hHeld.2.2.2.2.2.2,hx124_0⟩ ?_
                  replace hHeld:=And.intro hHeld.1 (And.intro hHeld.2.1 (And.intro hHeld.2.2.1 (And.intro hHeld.2.2.2.1 (And.intro hHeld.2.2.2.2.1 (And.intro hHeld.2.2.2.2.2.1 (And.intro hHeld.2.2.2.2.2.2 hx124_0))))))
                  clear hK K
                  refine zJ (a':=?_) ?_ ?_
                  rotate_left
                  ·show Act.put _ (some 54) _=_
                   exact mAe
                  refine qY (i:=6) (N:=some 56) (v:=?_) (a':=?_) #[true,true,true,true,true,true,true,false,false,true,true,true,false,true,true,true,true,true,false,false,false] rfl rfl (qS HT_.out mDh) (fun _ _ _ h=>h) (Or.inl ⟨mD2,?_⟩) ?_ ?_
                  rotate_left
                  ·intro w'
                   go_simp
                   with_reducible rfl
                  rotate_left
                  ·exact mAe
                  refine take_ (i:=7) (N:=some 57) (v:=?_) (a':=?_) #[true,true,true,true,true,true,true,true,false,true,true,true,false,true,true,true,true,true,false,false,false] rfl rfl (qm HT_.out HW_.out mDh) (fun _ _ _ h=>h) (Or.inl ⟨mD2,?_⟩) hHeld ?_ ?_
                  rotate_left
                  ·rintro w' ⟨s0,s1,s2,s3,s4,s5,s6,s7⟩
                   go_simp
                   with_reducible rfl
                  rotate_left
                  ·exact mAe
                  refine qY (i:=8) (N:=some 58) (v:=?_) (a':=?_) #[true,true,true,true,true,true,true,true,true,true,true,true,false,true,true,true,true,true,false,false,false] rfl rfl (qS HT_.out mDh) (fun _ _ _ h=>h) (Or.inl ⟨mD2,?_⟩) ?_ ?_
                  rotate_left
                  ·intro w'
                   go_simp
                   with_reducible rfl
                  rotate_left
                  ·exact mAe
                  refine jC (i:=12) (N:=some 62) #[true,true,true,true,true,true,true,true,true,true,true,true,true,true,true,true,true,true,false,false,false] rfl rfl (qq HT_.out mDh) mDl (fun K hK=>?_)
                  refine yD Tryd.func83 mDh rfl #[.string ((qC l0 x14_1).f3),.int .i64 (ji24)] mD2 rfl rfl (by (try simp only[List.map_toArray,List.map_cons,List.map_nil]);first|done|(simp only[hji24];rfl)|rfl|(simp only[List.length_drop,List.length_take];rfl)) ?_
                  with_reducible refine(qR.calls (hT:=mCd) ((qC l0 x14_1).f3) (ji24) t125 _ A28.out).mono ?_
                  rintro e w32 ⟨rfl,hb⟩
                  have HS7_:=(hb.cell (World.block_lt_of_cell? _ _ (hHeld.2.2.2.2.2.2.2))).trans (hHeld.2.2.2.2.2.2.2)
                  refine⟨_,rfl,?_⟩
                  have n0_:=am (Kd.R_below (kr_ HO123.out) hb)
                  have n1_:=am (qG (g:=gb116) (o:=.cells #[.string x117000_1,.string x117001_1,.int .u8 x117002_1,.int .i64 x117003_1,.bool x117004_1] 107 (0,0)) (kx_ BK116.out) hb)
                  have n2_:=am (qG (g:=gb118) (o:=.cells #[.int .i64 ((qC l0 x14_1).f0),.string ((qC l0 x14_1).f1),.string ((qC l0 x14_1).f2),.string ((qC l0 x14_1).f3),.int .u8 ((qC l0 x14_1).f4),.string ((qC l0 x14_1).f5),.bool ((qC l0 x14_1).f6)] 134 (0,0)) (kx_ BK118.out) hb)
                  have n3_:=am (qB mCx hb)
                  clear HO123
                  clear BK116
                  clear BK118
                  clear HB
                  have HO123:=n0_
                  have BK116:=n1_
                  have BK118:=n2_
                  have HB:=n3_
                  clear n0_ n1_ n2_ n3_
                  (try clear hb)
                  (try clear hb2)
                  (try clear hk)
                  (try clear hi)
                  refine hK.out _ _ ⟨(qA BK118.out 0).trans rfl,(qA BK118.out 1).trans rfl,(qA BK118.out 2).trans rfl,(qA BK118.out 3).trans rfl,(qA BK118.out 4).trans rfl,(qA BK118.out 5).trans rfl,(qA BK118.out 6).trans rfl,HS7_⟩ (fun hHeld=>?_)
                  clear hK K
                  refine zJ (a':=?_) ?_ ?_
                  rotate_left
                  ·show Act.put _ (some 62) _=_
                   exact mAe
                  refine qY (i:=18) (N:=some 68) (v:=?_) (a':=?_) #[true,true,true,true,true,true,true,true,true,true,true,true,true,true,true,true,true,true,true,false,false] rfl rfl (qS HT_.out mDh) (fun _ _ _ h=>h) (Or.inl ⟨mD2,?_⟩) ?_ ?_
                  rotate_left
                  ·intro w'
                   go_simp
                   with_reducible rfl
                  rotate_left
                  ·exact mAe
                  refine jC (i:=19) (N:=none) #[true,true,true,true,true,true,true,true,true,true,true,true,true,true,true,true,true,true,true,true,false] rfl rfl (qq HT_.out mDh) mDl (fun K hK=>?_)
                  have hs33:w32.cell? ⟨gb116,0,none⟩=some (.string x117000_1):=(qA BK116.out 0).trans rfl
                  have hfs33:=qD BK116.out 0
                  have hns33_1:=NB118_116.out
                  have hms33_1:=NB116_118.out
                  have hs34:w32.cell? ⟨gb116,1,none⟩=some (.string x117001_1):=(qA BK116.out 1).trans rfl
                  have hfs34:=qD BK116.out 1
                  have hns34_1:=NB118_116.out
                  have hms34_1:=NB116_118.out
                  have hs35:w32.cell? ⟨gb116,2,none⟩=some (.int .u8 x117002_1):=(qA BK116.out 2).trans rfl
                  have hfs35:=qD BK116.out 2
                  have hns35_1:=NB118_116.out
                  have hms35_1:=NB116_118.out
                  have hs36:w32.cell? ⟨gb116,3,none⟩=some (.int .i64 x117003_1):=(qA BK116.out 3).trans rfl
                  have hfs36:=qD BK116.out 3
                  have hns36_1:=NB118_116.out
                  have hms36_1:=NB116_118.out
                  have hs37:w32.cell? ⟨gb116,4,none⟩=some (.bool x117004_1):=(qA BK116.out 4).trans rfl
                  have hfs37:=qD BK116.out 4
                  have hns37_1:=NB118_116.out
                  have hms37_1:=NB116_118.out
                  refine qHS (w1:=?_) mD2 rfl ?_ ?_
                  rotate_left
                  ·go_simp
                   rfl
                  refine hK.out _ _ ⟨((qQ (p:=⟨gb116,_,none⟩) NB118_116.out _).trans (((qQ (p:=⟨gb116,_,none⟩) NB118_116.out _).trans (((qQ (p:=⟨gb116,_,none⟩) NB118_116.out _).trans (((qQ (p:=⟨gb116,_,none⟩) NB118_116.out _).trans (((qQ (p:=⟨gb116,_,none⟩) NB118_116.out _).trans (hHeld.1)))))))))),((qQ (p:=⟨gb116,_,none⟩) NB118_116.out _).trans (((qQ (p:=⟨gb116,_,none⟩) NB118_116.out _).trans (((qQ (p:=⟨gb116,_,none⟩) NB118_116.out _).trans (((qQ (p:=⟨gb116,_,none⟩) NB118_116.out _).trans (((qQ (p:=⟨gb116,_,none⟩) NB118_116.out _).trans (hHeld.2.1)))))))))),((qQ (p:=⟨gb116,_,none⟩) NB118_116.out _).trans (((qQ (p:=⟨gb116,_,none⟩) NB118_116.out _).trans (((qQ (p:=⟨gb116,_,none⟩) NB118_116.out _).trans (((qQ (p:=⟨gb116,_,none⟩) NB118_116.out _).trans (((qQ (p:=⟨gb116,_,none⟩) NB118_116.out _).trans (hHeld.2.2.1)))))))))),((qQ (p:=⟨gb116,_,none⟩) NB118_116.out _).trans (((qQ (p:=⟨gb116,_,none⟩) NB118_116.out _).trans (((qQ (p:=⟨gb116,_,none⟩) NB118_116.out _).trans (((qQ (p:=⟨gb116,_,none⟩) NB118_116.out _).trans (((qQ (p:=⟨gb116,_,none⟩) NB118_116.out _).trans (hHeld.2.2.2.1)))))))))),((qQ (p:=⟨gb116,_,none⟩) NB118_116.out _).trans (((qQ (p:=⟨gb116,_,none⟩) NB118_116.out _).trans (((qQ (p:=⟨gb116,_,none⟩) NB118_116.out _).trans (((qQ (p:=⟨gb116,_,none⟩) NB118_116.out _).trans (((qQ (p:=⟨gb116,_,none⟩) NB118_116.out _).trans (hHeld.2.2.2.2.1)))))))))),((qQ (p:=⟨gb116,_,none⟩) NB118_116.out _).trans (((qQ (p:=⟨gb116,_,none⟩) NB118_116.out _).trans (((qQ (p:=⟨gb116,_,none⟩) NB118_116.out _).trans (((qQ (p:=⟨gb116,_,none⟩) NB118_116.out _).trans (((qQ (p:=⟨gb116,_,none⟩) NB118_116.out _).trans (hHeld.2.2.2.2.2.1)))))))))),((qQ (p:=⟨gb116,_,none⟩) NB118_116.out _).trans (((qQ (p:=⟨gb116,_,none⟩) NB118_116.out _).trans (((qQ (p:=⟨gb116,_,none⟩) NB118_116.out _).trans (((qQ (p:=⟨gb116,_,none⟩) NB118_116.out _).trans (((qQ (p:=⟨gb116,_,none⟩) NB118_116.out _).trans (hHeld.2.2.2.2.2.2.1)))))))))),((qQ (p:=⟨gb116,_,none⟩) mCm _).trans (((qQ (p:=⟨gb116,_,none⟩) mCm _).trans (((qQ (p:=⟨gb116,_,none⟩) mCm _).trans (((qQ (p:=⟨gb116,_,none⟩) mCm _).trans (((qQ (p:=⟨gb116,_,none⟩) mCm _).trans (hHeld.2.2.2.2.2.2.2))))))))))⟩ (fun hHeld=>?_)
                  clear hK K
                  refine qY (i:=20) (N:=some 5) (v:=?_) (a':=?_) #[true,true,true,true,true,true,true,true,true,true,true,true,true,true,true,true,true,true,true,true,true] rfl rfl (qS HT_.out mDh) (fun _ _ _ h=>h) (Or.inl ⟨mD2,?_⟩) ?_ ?_
                  rotate_left
                  ·intro w'
                   go_simp
                   with_reducible rfl
                  rotate_left
                  ·exact mAe
                  refine xI (zu HT_.out mDh) ?_
                  try go_wp2
                  refine bodyPost_ret (zL rfl _ _ gb116 107 #[.string (((qC l0 x14_1).f1)++(xR ByteArray.empty t121 (ji24))),.string t125,.int .u8 ((qC l0 x14_1).f4),.int .i64 x9_3,.bool ((qC l0 x14_1).f6)] (0,0) _ rfl (by (with_reducible repeat (first|apply kN|apply kD|apply kA));refine qK (cs:=#[.string (((qC l0 x14_1).f1)++(xR ByteArray.empty t121 (ji24))),.string t125,.int .u8 ((qC l0 x14_1).f4),.int .i64 x9_3,.bool x117004_1]) ?_ 4 _ rfl;(with_reducible repeat (first|apply kN|apply kD|apply kA));refine qK (cs:=#[.string (((qC l0 x14_1).f1)++(xR ByteArray.empty t121 (ji24))),.string t125,.int .u8 ((qC l0 x14_1).f4),.int .i64 x117003_1,.bool x117004_1]) ?_ 3 _ rfl;(with_reducible repeat (first|apply kN|apply kD|apply kA));refine qK (cs:=#[.string (((qC l0 x14_1).f1)++(xR ByteArray.empty t121 (ji24))),.string t125,.int .u8 x117002_1,.int .i64 x117003_1,.bool x117004_1]) ?_ 2 _ rfl;(with_reducible repeat (first|apply kN|apply kD|apply kA));refine qK (cs:=#[.string (((qC l0 x14_1).f1)++(xR ByteArray.empty t121 (ji24))),.string x117001_1,.int .u8 x117002_1,.int .i64 x117003_1,.bool x117004_1]) ?_ 1 _ rfl;(with_reducible repeat (first|apply kN|apply kD|apply kA));refine qK (cs:=#[.string x117000_1,.string x117001_1,.int .u8 x117002_1,.int .i64 x117003_1,.bool x117004_1]) ?_ 0 _ rfl;(with_reducible repeat (first|apply kN|apply kD|apply kA));exact BK116.out) Tryd.underlying107 rfl mDh) rfl ?_
                  exact⟨by first|rfl|(simp[qk,qj] <;> rfl)|(simp only[← hji24];first|rfl|(simp[qk,qj] <;> rfl))|(simp[*,qk,qj] <;> rfl),mCx⟩
                 ·rw[if_neg c27] at H
                  exact absurd H mDp
                ·rw[if_neg c26] at H
                 exact absurd H mDp
               ·rw[if_neg c25] at H
                exact absurd H mDp
      exact mBz
     ·rw[if_neg c5] at H
      exact absurd H mDp
    ·rw[if_neg c4] at H
     have c4b0:decide (x14_1<(l0.length:Int))=false:=decide_eq_false c4
     clear c4
     simp only[Option.some.injEq,Prod.mk.injEq] at H
     obtain⟨rfl,rfl,rfl,rfl,rfl,rfl⟩:=H
     have hcz38_0:wr.cell? ⟨gb116,0,none⟩=some (.string x117000_1):=(qA BK116.out 0).trans rfl
     have hcz38_1:wr.cell? ⟨gb116,1,none⟩=some (.string x117001_1):=(qA BK116.out 1).trans rfl
     have hcz38_2:wr.cell? ⟨gb116,2,none⟩=some (.int .u8 x117002_1):=(qA BK116.out 2).trans rfl
     have hcz38_3:wr.cell? ⟨gb116,3,none⟩=some (.int .i64 x117003_1):=(qA BK116.out 3).trans rfl
     have hcz38_4:wr.cell? ⟨gb116,4,none⟩=some (.bool x117004_1):=(qA BK116.out 4).trans rfl
     have hfz38_0:=qD BK116.out 0
     have hfz38_1:=qD BK116.out 1
     have hfz38_2:=qD BK116.out 2
     have hfz38_3:=qD BK116.out 3
     have hfz38_4:=qD BK116.out 4
     go_wp2
     refine bodyPost_ret (zL rfl _ _ gb116 107 #[.string (⟨#[]⟩:ByteArray),.string (⟨#[]⟩:ByteArray),.int .u8 0,.int .i64 0,.bool false] (0,0) _ rfl (by (with_reducible repeat (first|apply kN|apply kD|apply kA));refine qK (cs:=#[.string (⟨#[]⟩:ByteArray),.string (⟨#[]⟩:ByteArray),.int .u8 0,.int .i64 0,.bool x117004_1]) ?_ 4 _ rfl;(with_reducible repeat (first|apply kN|apply kD|apply kA));refine qK (cs:=#[.string (⟨#[]⟩:ByteArray),.string (⟨#[]⟩:ByteArray),.int .u8 0,.int .i64 x117003_1,.bool x117004_1]) ?_ 3 _ rfl;(with_reducible repeat (first|apply kN|apply kD|apply kA));refine qK (cs:=#[.string (⟨#[]⟩:ByteArray),.string (⟨#[]⟩:ByteArray),.int .u8 x117002_1,.int .i64 x117003_1,.bool x117004_1]) ?_ 2 _ rfl;(with_reducible repeat (first|apply kN|apply kD|apply kA));refine qK (cs:=#[.string (⟨#[]⟩:ByteArray),.string x117001_1,.int .u8 x117002_1,.int .i64 x117003_1,.bool x117004_1]) ?_ 1 _ rfl;(with_reducible repeat (first|apply kN|apply kD|apply kA));refine qK (cs:=#[.string x117000_1,.string x117001_1,.int .u8 x117002_1,.int .i64 x117003_1,.bool x117004_1]) ?_ 0 _ rfl;(with_reducible repeat (first|apply kN|apply kD|apply kA));exact BK116.out) Tryd.underlying107 rfl mDh) rfl ?_
     exact⟨by first|rfl|(simp[qk,qj] <;> rfl)|(simp[*,qk,qj] <;> rfl),mC6⟩
end Go.Proofs.YtobldeamemmokaaDoor.P
