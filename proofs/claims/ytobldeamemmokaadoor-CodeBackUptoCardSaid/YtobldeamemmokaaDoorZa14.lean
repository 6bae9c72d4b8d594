import Derived.Test.YtobldeamemmokaaDoorZa10
set_option linter.unusedVariables false
set_option linter.unusedSimpArgs false
set_option maxHeartbeats 64000000
namespace Go.Proofs.YtobldeamemmokaaDoor.P
open Go.RowKit Go.Proofs.YtobldeamemmokaaDoorW.PrintWords Go.Proofs.YtobldeamemmokaaDoorW.PrintLast Go.Proofs.YtobldeamemmokaaDoorW.PrintMore
def qHe (n:Int):Obj:=.cells #[.int .i64 n] 3 (0,0)
def qCx (b:Bool):Obj:=.cells #[.bool b] 4 (0,0)
def zU (d:Int)(x:I)(deep:Int):Int × Bool:=(if qw x.op=true then max d (wrap64 (deep+1)) else d,decide ((if qw x.op=true then max d (wrap64 (deep+1)) else d)≤1000))
def je (b:Bool)(x:I)(_:Int):Bool × Bool:=(b || x.op==64520 || x.op==64521,!(b || x.op==64520 || x.op==64521))
theorem qCI (W w0:World)(gn:Nat)(b:Bool)(x:I)(deep:Int)(ad:Addr)(cs:List Value)(hB:Below w0.heap.size w0 W)(hg:W.heap[gn]? = some (qCx b))(hn:w0.heap.size≤gn)(hK:kI.K W x cs)(hc:∀ j u,cs[j]? = some u→W.cell? (ad.add j)=some u):
 Calls Tryd.prog 40 #[.pointer (some ad),.int .i64 deep,.pointer (some ⟨gn,0,none⟩)] W fun e W'=>e = .returned (.bool (je b x deep).2)∧W'.heap[gn]? = some (qCx (je b x deep).1)∧qc W W' gn none∧Below w0.heap.size w0 W':=by
 have c0:W.cell? ⟨gn,0,none⟩=some (.bool b):=(qA hg 0).trans rfl
 have f0:=qD hg 0
 obtain⟨_,_,_,_,_,_,_,_,rfl,h16,_,_,_,_⟩:=xk hK
 have y0:W.cell? (ad.add 0)=some (.int .u16 x.op):=hc 0 _ rfl
 have y0':W.cell? ad=some (.int .u16 x.op):=y0
 have HG:=am hg
 have HB:=am hB
 have HN:=am hn
 clear hg hB hn hK hc h16
 cases b
 ·cases e1:(x.op==64520)
  ·cases e2:(x.op==64521)
   ·have ev:je false x deep=(false,true):=by simp[je,e1,e2]
    exact mEp
   ·have ev:je false x deep=(true,false):=by simp[je,e1,e2]
    exact mEp
  ·have ev:je false x deep=(true,false):=by simp[je,e1]
   exact mEp
 ·have ev:je true x deep=(true,false):=by simp[je]
  exact mEp
theorem qAt (W w0:World)(gn:Nat)(d:Int)(x:I)(deep:Int)(ad:Addr)(cs:List Value)(hB:Below w0.heap.size w0 W)(hg:W.heap[gn]? = some (qHe d))(hn:w0.heap.size≤gn)(hK:kI.K W x cs)(hc:∀ j u,cs[j]? = some u→W.cell? (ad.add j)=some u):
 Calls Tryd.prog 37 #[.pointer (some ad),.int .i64 deep,.pointer (some ⟨gn,0,none⟩)] W fun e W'=>e = .returned (.bool (zU d x deep).2)∧W'.heap[gn]? = some (qHe (zU d x deep).1)∧qc W W' gn none∧Below w0.heap.size w0 W':=by
 have c0:W.cell? ⟨gn,0,none⟩=some (.int .i64 d):=(qA hg 0).trans rfl
 have f0:=qD hg 0
 obtain⟨_,_,_,_,_,_,_,_,rfl,h16,_,_,_,_⟩:=xk hK
 have y0:W.cell? (ad.add 0)=some (.int .u16 x.op):=hc 0 _ rfl
 have y0':W.cell? ad=some (.int .u16 x.op):=y0
 have HG:=am hg
 have HB:=am hB
 have HN:=am hn
 clear hg hB hn hK hc h16
 cases e1:qw x.op
 ·have ev:zU d x deep=(d,decide (d≤1000)):=by simp[zU,e1]
  rw[ev]
  go_enter Tryd.func37,Tryd.ntmps37
  go_wp2_with (first
   | (go_at_call 30;refine(zy _ _).mono ?_;rintro e w' ⟨rfl,rfl⟩;rw[e1]))
  go_ret
  exact⟨rfl,HG.out,qc.refl W gn none,HB.out⟩
 ·by_cases hm:d<wrap64 (deep+1)
  ·have ev:zU d x deep=(wrap64 (deep+1),decide (wrap64 (deep+1)≤1000)):=by simp[zU,e1,Int.max_eq_right (Int.le_of_lt hm)]
   exact mEo
  ·have ev:zU d x deep=(d,decide (d≤1000)):=by simp[zU,e1,Int.max_eq_left (Int.not_lt.1 hm)]
   exact mEo
section
variable (k:Nat) (A:Option Addr) (c:Nat) (l:List I) (w:World)
theorem yg (hc:l.length≤c)(hl:kI.C w A l.length l){r:Int}(h:xg zU k [⟨l,0,0⟩] 0=some r):
 Calls Tryd.prog 21 #[.slice A l.length c] w fun e w'=>e = .returned (.int .i64 (min r 1001))∧Below w.heap.size w w':=by
 have HC:=am hc
 have HL:=am hl
 have H:=am h
 clear hc hl h
 by_cases hm:r≤1001
 ·rw[Int.min_eq_left hm]
  exact mEm
 ·rw[Int.min_eq_right (Int.le_of_lt (Int.not_le.1 hm))]
  exact mEm
theorem qDt (hc:l.length≤c)(hl:kI.C w A l.length l){r:Bool}(h:xg je k [⟨l,0,0⟩] false=some r):
 Calls Tryd.prog 25 #[.slice A l.length c] w fun e w'=>e = .returned (.bool r)∧Below w.heap.size w w':=by
 have HC:=am hc
 have HL:=am hl
 have H:=am h
 clear hc hl h
 go_enter Tryd.func25,Tryd.ntmps25
 go_wp2_with (first
  | (go_at_call 33;refine(qAn 40 Tryd.f40 Tryd.func40 rfl rfl je w.heap.size qCx w (fun W s x deep ad cs h1 h2 h3 h4=>qCI W w _ s x deep _ _ h1 h2 (Nat.le_refl _) h3 h4) k A c l false r _ ?b ?g HC.out HL.out H.out).mono ?_;(case b=>repeat (first|exact Below.refl _ _|apply qh|refine zN ?_ (Nat.le_refl _)));(case g=>first|exact qK (ja _ _) 0 _ rfl|exact ja _ _);rintro e w' ⟨rfl,hg,hk,hb⟩;have c0:w'.cell? ⟨w.heap.size,0,none⟩=some (.bool r):=(qA hg 0).trans rfl;have HB:=am hb;clear hg hk hb))
 go_ret
 exact⟨rfl,HB.out⟩
end
end Go.Proofs.YtobldeamemmokaaDoor.P
