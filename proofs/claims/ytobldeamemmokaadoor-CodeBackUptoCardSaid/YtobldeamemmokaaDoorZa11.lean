import Derived.Test.YtobldeamemmokaaDoorZa08
import Derived.Test.YtobldeamemmokaaDoorZa10
set_option linter.unusedVariables false
set_option linter.unusedSimpArgs false
set_option maxHeartbeats 64000000
namespace Go.Proofs.YtobldeamemmokaaDoor.P
open Go.RowKit Go.Proofs.YtobldeamemmokaaDoorW.PrintWords Go.Proofs.YtobldeamemmokaaDoorW.PrintLast Go.Proofs.YtobldeamemmokaaDoorW.PrintMore
structure Pr where
 a:List I
 b:List I
def zPr:Pr:=⟨[],[]⟩
def kPr (w0:World):Kd Pr:=Kd.iso (Kd.pair (Kd.fixed (Kd.slice 43 kI) w0) (Kd.fixed (Kd.slice 43 kI) w0)) (fun x:Pr=>(x.a,x.b))
theorem qCq {w0 w:World}{base:Nat}{ok:Nat→Prop}{x:Pr}{cs:List Value}(h:(kPr w0).M w base ok x cs):∃ A c B d,cs = [.slice A x.a.length c,.slice B x.b.length d]∧x.a.length≤c∧kI.C w0 A x.a.length x.a∧x.b.length≤d∧kI.C w0 B x.b.length x.b:=by
 obtain⟨_,_,rfl,⟨A,c,rfl,hl,hc⟩,⟨B,d,rfl,hl',hc'⟩⟩:=h
 exact⟨A,c,B,d,rfl,hl,hc,hl',hc'⟩
theorem yT (w0 w:World)(base:Nat)(ok:Nat→Prop)(x:Pr){A B:Option Addr}{c d:Nat}(hl:x.a.length≤c)(hc:kI.C w0 A x.a.length x.a)(hl':x.b.length≤d)(hc':kI.C w0 B x.b.length x.b):(kPr w0).M w base ok x [.slice A x.a.length c,.slice B x.b.length d]:=
 ⟨[.slice A x.a.length c],[.slice B x.b.length d],rfl,⟨A,c,rfl,hl,hc⟩,⟨B,d,rfl,hl',hc'⟩⟩
theorem qEo {w:World}{A:Option Addr}{n:Nat}{xs:List I}(h:kI.C w A n xs)(hn:0<n):∃ b o,A=some ⟨b,o,none⟩:=by
 obtain⟨ad,cx,rfl,hl,hK,hc⟩:=Kd.C_get h zI (0:Int) mDj mDj
 obtain⟨_,_,_,_,_,_,_,_,rfl,_,_,_,_,_⟩:=xk hK
 have h0:=hc 0 _ rfl
 have e:ad.add ((0:Int).toNat*kI.sz+0)=ad:=by
  rw[Int.toNat_zero,Nat.zero_mul]
  exact Addr.add_zero' ad
 rw[e] at h0
 obtain⟨b,o,s⟩:=ad
 cases s with
 | none=>exact⟨b,o,rfl⟩
 | some s =>
   unfold World.cell? at h0
   split at h0
   ·simp at h0
   ·cases h0
theorem qFF {w0 w:World}{base:Nat}{ok:Nat→Prop}{x:Pr}{cs:List Value}(h:(kPr w0).K w x cs):(kPr w0).M w base ok x cs:=by
 obtain⟨_,_,rfl,⟨A,c,rfl,hl,hc⟩,⟨B,d,rfl,hl',hc'⟩⟩:=h
 exact yT w0 w base ok x hl hc hl' hc'
def xh:List I→List I→List Pr→Option (List Pr)
 | [],_,st=>some st
 | _::_,[],st=>some st
 | x::a,y::b,st=>if qz x y=true then xh a b (⟨x.els,y.els⟩::⟨x.body,y.body⟩::st) else none
def qAd:Nat→List Pr→Option Bool
 | 0,_=>none
 | k+1,[]=>some true
 | k+1,p::rs=>if p.a.length=p.b.length then (if rs.length+2*p.a.length<1000000000000 then (match xh p.a p.b rs with|none=>some false|some st=>qAd k st) else none) else some false
theorem qIq:(Tryd.prog.info? 74).map (fun i=>(i.zero,i.size,i.bytes))=some (some (.agg #[.slice none 0 0,.slice none 0 0]),2,48):=mDh
theorem qFR:(Tryd.prog.info? 74).map (fun i=>i.zero)=some (some (.agg #[.slice none 0 0,.slice none 0 0])):=mDh
theorem jd:(Tryd.prog.info? 43).map (fun i=>i.zero)=some (some (.agg (qH zI (.slice none 0 0) (.slice none 0 0) (.slice none 0 0) (.slice none 0 0)).toArray)):=mDh
theorem qJK (A B:Option Addr)(a b c d:Nat):(#[.slice A a c,.slice B b d]:Array Value).all (·.oneCell')=true:=all_oneCell_toArray (cs:=[.slice A a c,.slice B b d]) (by intro v hv;rcases List.mem_cons.1 hv with rfl|hv;rfl;rcases List.mem_cons.1 hv with rfl|hv;rfl;cases hv)
theorem qEL:(Tryd.prog.info? 74).map (·.size)=some 2:=mDh
set_option maxRecDepth 100000 in
theorem qEk (k:Nat)(A B:Option Addr)(c d:Nat)(l m:List I)(r:Bool)(w:World)(hc:l.length≤c)(hl:kI.C w A l.length l)(hd:m.length≤d)(hm:kI.C w B m.length m)(h:qAd k [⟨l,m⟩]=some r):
 Calls Tryd.prog 20 #[.slice A l.length c,.slice B m.length d] w fun e w'=>e = .returned (.bool r)∧Below w.heap.size w w':=by
 have HL:=am hl
 have HC:=am hc
 have HM0:=am hm
 have HD:=am hd
 have H':=am h
 have HB0:=am (Below.refl w.heap.size w)
 clear hl hc hm hd h
 go_enter Tryd.func20,Tryd.ntmps20
 go_wp2_with (first
  | ((with_reducible refine qE (N:=13) rfl ?_);refine Kd.R_lit (kPr w) w.heap.size 74 ?hg (N:=13) ?hd (xs:=[(⟨l,m⟩:Pr)]) (inner:=[.slice A l.length c,.slice B m.length d]) (ok:=fun _=>True) (okp:=fun _=>True) ?hr ?hp (fun _ hk=>hk) trivial (Below.refl _ _) (Nat.le_refl _) mDp ?_;(case hd=>rfl);(case hg=>rfl);(case hr=>first|(go_simp;done)|(go_simp;rfl));(case hp=>exact Reps.c2 (yT w _ _ _ ⟨l,m⟩ HC.out HL.out HD.out HM0.out) (Reps.none _ _));intro v5 w1 ho hb hg_ hnew_;clear hg_ hnew_;have HO:=am ho;have n1_:=am hb;clear HB0;have HB0:=n1_;clear n1_;clear ho hb))
 go_loopg [5] k (fun kq v5 w'=>∃(rs:List Pr),Aside0 (qAd kq rs=some r)∧Aside0 ((kPr w).R 74 w' w.heap.size (fun _=>True) v5 rs.reverse)∧Aside0 (Below w.heap.size w w')∧Aside0 (kq≤k))
 case atStart=>exact⟨[⟨l,m⟩],H',HO,HB0,⟨Nat.le_refl _⟩⟩
 case round =>
  clear H' HO HB0
  obtain⟨rs,HA,HR,HB0,HK1⟩:=hrel
  cases gk with
  | zero=>exact absurd HA.out (by simp[qAd])
  | succ k1 =>
    cases rs with
    | nil =>
      have HR':=HR.out
      obtain⟨A4,c4,rfl⟩:=Kd.R_slice HR'
      obtain rfl:true=r:=Option.some.inj HA.out
      clear HR' HA
      go_wp2
      go_ret
      exact⟨rfl,HB0.out⟩
    | cons p rs =>
      have HR':=HR.out
      rw[List.reverse_cons] at HR'
      have hlen:(rs.reverse ++ [p]).length=rs.length+1:=mDp
      obtain⟨g,cap,rfl,hbg,hlt,hty⟩:=Kd.R_form HR' mDj
      rw[hlen] at HR' ⊢
      obtain⟨n,hn⟩:=ex_ (rs.length)
      rw[← hn] at HR' ⊢
      obtain⟨cs,hcl,hM,hcc,hff⟩:=Kd.R_elem HR' zPr (n:Int) mDj mDj
      have hgp:(rs.reverse ++ [p]).getD ((n:Int)).toNat zPr=p:=by rw[Int.toNat_natCast,List.getD_eq_getElem?_getD,List.getElem?_append_right (by simp[hn]),List.length_reverse,hn];simp
      rw[hgp] at hM
      obtain⟨Ap,cp,Bp,dp,rfl,hlp,hcp,hlp',hcp'⟩:=qCq hM
      have hn2:n<9223372036854775807:=by have:=Kd.C_max (Kd.R_reads' HR').2.2;have:=(Kd.R_reads' HR').1;omega
      have q0:wr.cell? ⟨g,n*2,none⟩=some (.slice Ap p.a.length cp):=hcc 0 _ rfl
      have q1:wr.cell? ⟨g,n*2+1,none⟩=some (.slice Bp p.b.length dp):=hcc 1 _ rfl
      have hcap:n+1≤cap:=(Kd.R_reads' HR').2.1
      have hcap2:n≤cap:=mDj
      have HHR:=am HR'
      have HHN:=am hn
      have HCP:=am hcp
      have HCP':=am hcp'
      have HLP:=am hlp
      have HLP':=am hlp'
      clear HR' hcc hcl hM hff hlp hcp hlp' hcp' hn hgp hlen hty hbg hlt
      have d0:decide (0<(n:Int)+1)=true:=decide_eq_true mDj
      by_cases heq:p.a.length=p.b.length
      rotate_left
      ·have e1:((p.a.length:Int) != (p.b.length:Int))=true:=by rw[bne_iff_ne];omega
       have hF:=HA.out
       simp only[qAd,if_neg heq] at hF
       obtain rfl:=Option.some.inj hF
       clear heq hF
       go_wp2_with (first
        | ((with_reducible refine qE (N:=6) rfl ?_);refine qd rfl 74 rfl (.agg #[.slice none 0 0,.slice none 0 0]) qFR ?_;intro g6 hg6 w2 hb6 hbl;have HB6:=am hb6;have n0_:=am (qB HB0.out hbl);have GE6:=am (by rw[hg6];exact HB0.out.size:w.heap.size≤g6);clear HB0;have HB0:=n0_;clear n0_ hg6 hb6 hbl)
        | ((with_reducible refine qF (t:=74) (p:=6) (v:=.tmp 22) rfl ?_);refine qV rfl 74 (.tmp 6) (.tmp 22) rfl g6 #[.slice Ap p.a.length cp,.slice Bp p.b.length dp] rfl rfl 74 _ HB6.out qEL rfl (qJK _ _ _ _ _ _) ?_;intro w3 hb3 hoth hsz hbel;have n0_:=am (hbel _ _ GE6.out HB0.out);clear HB0 HB6;have HB0:=n0_;have HB6:=am hb3;have p0:w3.cell? ⟨g6,0,none⟩=some (.slice Ap p.a.length cp):=(qA hb3 0).trans rfl;have p1:w3.cell? ⟨g6,1,none⟩=some (.slice Bp p.b.length dp):=(qA hb3 1).trans rfl;clear hb3 hoth hsz hbel n0_))
       go_ret
       exact⟨rfl,HB0.out⟩
      ·have e1:((p.a.length:Int) != (p.b.length:Int))=false:=by rw[bne_eq_false_iff_eq];omega
       have hF:=HA.out
       simp only[qAd,if_pos heq] at hF
       have hrl:rs.length+2*p.a.length<1000000000000:=by
        by_cases h:rs.length+2*p.a.length<1000000000000
        ·exact h
        ·rw[if_neg h] at hF;cases hF
       rw[if_pos hrl] at hF
       have HF:=am hF
       have HRL:=am hrl
       have HEQ:=am heq
       clear hF heq hrl
       go_wp2_with (first
        | ((with_reducible refine qE (N:=6) rfl ?_);refine qd rfl 74 rfl (.agg #[.slice none 0 0,.slice none 0 0]) qFR ?_;intro g6 hg6 w2 hb6 hbl;have HB6:=am hb6;have n0_:=am (qB HB0.out hbl);have GE6:=am (by rw[hg6];exact HB0.out.size:w.heap.size≤g6);have HBL2:=am hbl;clear HB0;have HB0:=n0_;have HG6:=am hg6;clear n0_ hg6 hb6 hbl)
        | ((with_reducible refine qF (t:=74) (p:=6) (v:=.tmp 22) rfl ?_);refine qV rfl 74 (.tmp 6) (.tmp 22) rfl g6 #[.slice Ap p.a.length cp,.slice Bp p.b.length dp] rfl rfl 74 _ HB6.out qEL rfl (qJK _ _ _ _ _ _) ?_;intro w3 hb3 hoth hsz hbel;have n0_:=am (hbel _ _ GE6.out HB0.out);clear HB0 HB6;have HB0:=n0_;have HB6:=am hb3;have HOTH:=am hoth;have p0:w3.cell? ⟨g6,0,none⟩=some (.slice Ap p.a.length cp):=(qA hb3 0).trans rfl;have p1:w3.cell? ⟨g6,1,none⟩=some (.slice Bp p.b.length dp):=(qA hb3 1).trans rfl;clear hb3 hoth hsz hbel n0_))
       obtain⟨res,hres⟩:=ey_ (xh p.a p.b rs)
       have HRES:=am hres
       have hF2:=HF.out
       rw[hres] at hF2
       have HF2:=am hF2
       have hR5:(kPr w).R 74 w3 w.heap.size (fun k=>k≠g6) (.slice (some ⟨g,0,none⟩) n cap) rs.reverse:=by
        have h2:=Kd.R_take (m:=n) HHR.out (by rw[List.length_append,List.length_reverse,← HHN.out];omega)
        have e2:(rs.reverse ++ [p]).take n=rs.reverse:=by rw[HHN.out,← List.length_reverse,List.take_left]
        rw[e2] at h2
        have h3:(kPr w).R 74 w2 w.heap.size (fun k=>k≠g6) (.slice (some ⟨g,0,none⟩) n cap) rs.reverse:=Kd.R_below (Kd.R_mono (Kd.R_bound h2) (fun k hk=>by have:=hk.2.2.1;have:=HG6.out;omega)) HBL2.out
        exact Kd.R_move h3 (fun k hk=>HOTH.out k hk)
       have HR5:=am hR5
       clear HF hres hF2 hR5
       go_loopg [5,38] p.a.length (fun kq v5 v38 w'=>∃(i:Nat) (st:List Pr),v38 = .int .i64 (i:Int)∧kq+i=p.a.length∧Aside0 (st.length=rs.length+2*i)∧Aside0 (xh (p.a.drop i) (p.b.drop i) st=res)∧Aside0 ((kPr w).R 74 w' w.heap.size (fun k=>k≠g6) v5 st.reverse)∧Aside0 (Below w.heap.size w w')∧Aside0 (w'.heap[g6]? = some (.cells #[.slice Ap p.a.length cp,.slice Bp p.b.length dp] 74 (0,0))))
       case atStart=>exact⟨0,rs,rfl,rfl,⟨mDj⟩,HRES,HR5,HB0,HB6⟩
       case round =>
        clear HHR HR5 HB0 HB6 HRES HR
        obtain⟨i,st,rfl,hki,HST,HRES,HR5,HB0,HB6⟩:=hrel
        have hil:i≤p.a.length:=mDj
        have p0:wr.cell? ⟨g6,0,none⟩=some (.slice Ap p.a.length cp):=(qA HB6.out 0).trans rfl
        have p1:wr.cell? ⟨g6,1,none⟩=some (.slice Bp p.b.length dp):=(qA HB6.out 1).trans rfl
        by_cases hi:i<p.a.length
        rotate_left
        ·have e2:decide ((i:Int)<(p.a.length:Int))=false:=decide_eq_false mDj
         have hres:some st=res:=by
          have h1:=HRES.out
          rwa [List.drop_eq_nil_of_le mDj,xh] at h1
         subst hres
         go_wp2
         go_roundg k1
         case measure=>have:=HK1.out;omega
         case rel=>exact⟨st,HF2,⟨Kd.R_mono HR5.out (fun _ _=>trivial)⟩,HB0,⟨by have:=HK1.out;omega⟩⟩
        ·have e2:decide ((i:Int)<(p.a.length:Int))=true:=decide_eq_true mDj
         have hb:i<p.b.length:=by have:=HEQ.out;omega
         obtain⟨xb,xo,rfl⟩:=qEo HCP.out mDj
         obtain⟨yb,yo,rfl⟩:=qEo HCP'.out mDj
         obtain⟨ad,cx,had,hxl,hxK,hxc⟩:=Kd.C_get HCP.out zI (i:Int) mDj mDj
         obtain⟨bd,cy,hbd,hyl,hyK,hyc⟩:=Kd.C_get HCP'.out zI (i:Int) mDj mDj
         obtain rfl:=Option.some.inj had
         obtain rfl:=Option.some.inj hbd
         rw[Int.toNat_natCast] at hxK hyK
         have rx:w.rangeAt xb (xo+i*27) cx:=fun j u hj=>by
          have:=hxc j u hj
          rw[show((i:Int)).toNat*kI.sz+j=i*27+j from rfl,Addr.add_mid,← Nat.add_assoc] at this
          exact this
         have ry:w.rangeAt yb (yo+i*27) cy:=fun j u hj=>by
          have:=hyc j u hj
          rw[show((i:Int)).toNat*kI.sz+j=i*27+j from rfl,Addr.add_mid,← Nat.add_assoc] at this
          exact this
         have rx2:wr.rangeAt xb (xo+i*27) cx:=fun j u hj=>(HB0.out.cell (World.block_lt_of_cell? w _ (rx j u hj))).trans (rx j u hj)
         have ry2:wr.rangeAt yb (yo+i*27) cy:=fun j u hj=>(HB0.out.cell (World.block_lt_of_cell? w _ (ry j u hj))).trans (ry j u hj)
         clear had hbd hxc hyc
         obtain⟨x,hx⟩:=ey_ (p.a.getD i zI)
         obtain⟨y,hy⟩:=ey_ (p.b.getD i zI)
         rw[hx] at hxK
         rw[hy] at hyK
         have hdx:p.a.drop i=x::p.a.drop (i+1):=by
          rw[← hx,List.getD_eq_getElem?_getD,List.getElem?_eq_getElem hi]
          exact List.drop_eq_getElem_cons hi
         have hdy:p.b.drop i=y::p.b.drop (i+1):=by
          rw[← hy,List.getD_eq_getElem?_getD,List.getElem?_eq_getElem hb]
          exact List.drop_eq_getElem_cons hb
         have hpu:=HRES.out
         rw[hdx,hdy,xh] at hpu
         have HPU:=am hpu
         clear hdx hdy hx hy hpu HRES
         go_wp2
         have hi43:(Tryd.prog.info? 43).map (·.size)=some cx.length:=by rw[zC];exact congrArg some hxl.symm
         have hi43':(Tryd.prog.info? 43).map (·.size)=some cy.length:=by rw[zC];exact congrArg some hyl.symm
         have ho1:cx.toArray.all (·.oneCell')=true:=all_oneCell_toArray (kI.K_one hxK)
         have ho2:cy.toArray.all (·.oneCell')=true:=all_oneCell_toArray (kI.K_one hyK)
         have hl1:cx.toArray.size=27:=by rw[List.size_toArray];exact hxl
         have hl2:cy.toArray.size=27:=by rw[List.size_toArray];exact hyl
         have hz1:(Tryd.prog.info? 43).map (·.size)=some cx.toArray.size:=by rw[hl1];exact zC
         have hz2:(Tryd.prog.info? 43).map (·.size)=some cy.toArray.size:=by rw[hl2];exact zC
         have hold27:(Value.agg (qH zI (.slice none 0 0) (.slice none 0 0) (.slice none 0 0) (.slice none 0 0)).toArray).cells.size=27:=rfl
         have h6lt:g6<wr.heap.size:=qN HB6.out
         have rx2_lt:xb<wr.heap.size:=by
          obtain⟨u,hu⟩:∃ u,cx[0]? = some u:=⟨_,List.getElem?_eq_getElem (by rw[hxl];decide)⟩
          exact World.block_lt_of_cell? wr _ (rx2 0 u hu)
         have ry2_lt:yb<wr.heap.size:=by
          obtain⟨u,hu⟩:∃ u,cy[0]? = some u:=⟨_,List.getElem?_eq_getElem (by rw[hyl];decide)⟩
          exact World.block_lt_of_cell? wr _ (ry2 0 u hu)
         refine qIn (fun a e a' w'=>∃ g8 g9:Nat,e = .normal∧a'=((((((((((((a.put (some 41) (.pointer (some ⟨g6,0,none⟩))).put (some 42) (.slice (some ⟨xb,xo,none⟩) p.a.length cp)).put (some 43) (.int .i64 (i:Int))).put (some 44) (.pointer (some ⟨xb,xo+i*27,none⟩))).put (some 45) (.agg cx.toArray)).put (some 46) (.pointer (some ⟨g6,1,none⟩))).put (some 47) (.slice (some ⟨yb,yo,none⟩) p.b.length dp)).put (some 48) (.int .i64 (i:Int))).put (some 49) (.pointer (some ⟨yb,yo+i*27,none⟩))).put (some 50) (.agg cy.toArray)).put (some 8) (.pointer (some ⟨g8,0,none⟩))).put (some 9) (.pointer (some ⟨g9,0,none⟩)))∧w'.heap[g8]? = some (.cells cx.toArray 43 (0,0))∧w'.heap[g9]? = some (.cells cy.toArray 43 (0,0))∧Below wr.heap.size wr w') ?_ ?_
         ·refine wp_region_held_drew (S:=fun W=>Below wr.heap.size wr W) mDh (qP (Below.refl _ _)) (fun hHeld=>?_)
          refine wpAnyH_take (i:=0) (oi:={dst:=some 41,op:=Op.fieldAddr 74 (Operand.tmp 6) 0,type:=0,pos:= "code.go:359", after:=#[],guard:=none}) (v:=.pointer (some ⟨g6,0,none⟩)) rfl mDh mDh mDh (fun _ _ _ h=>by obtain⟨_,_,h,_⟩:=h;cases h) (.inl ⟨mD2,fun W hW=>?_⟩) hHeld ?_
          ·go_simp
          simp only[Act.put,List.setIfInBounds_toArray,List.set_cons_zero,List.set_cons_succ]
          refine wpAnyH_take (i:=1) (oi:={dst:=some 42,op:=Op.load 22 (Operand.tmp 41),type:=22,pos:= "code.go:359", after:=#[{on:=0,ground:=Ground.data}],guard:=none}) (v:=.slice (some ⟨xb,xo,none⟩) p.a.length cp) rfl mDh mDh mDh (fun _ _ _ h=>by obtain⟨_,_,h,_⟩:=h;cases h) (.inl ⟨mD2,fun W hW=>?_⟩) hHeld ?_
          ·(have c0:=(hW.cell (p:=⟨g6,0,none⟩) h6lt).trans p0;go_simp)
          simp only[Act.put,List.setIfInBounds_toArray,List.set_cons_zero,List.set_cons_succ]
          refine wpAnyH_take (i:=2) (oi:={dst:=some 43,op:=Op.move (Operand.tmp 7),type:=3,pos:= "code.go:359", after:=#[],guard:=none}) (v:=.int .i64 (i:Int)) rfl mDh mDh mDh (fun _ _ _ h=>by obtain⟨_,_,h,_⟩:=h;cases h) (.inl ⟨mD2,fun W hW=>?_⟩) hHeld ?_
          ·go_simp
          simp only[Act.put,List.setIfInBounds_toArray,List.set_cons_zero,List.set_cons_succ]
          refine wpAnyH_take (i:=3) (oi:={dst:=some 44,op:=Op.indexAddr 22 (Operand.tmp 42) (Operand.tmp 43),type:=0,pos:= "code.go:359", after:=#[{on:=1,ground:=Ground.data},{on:=2,ground:=Ground.data}],guard:=none}) (v:=.pointer (some ⟨xb,xo+i*27,none⟩)) rfl mDh mDh mDh (fun _ _ _ h=>by obtain⟨_,_,h,_⟩:=h;cases h) (.inl ⟨mD2,fun W hW=>?_⟩) hHeld ?_
          ·go_simp
          simp only[Act.put,List.setIfInBounds_toArray,List.set_cons_zero,List.set_cons_succ]
          refine wpAnyH_take (i:=4) (oi:={dst:=some 45,op:=Op.load 43 (Operand.tmp 44),type:=43,pos:= "code.go:359", after:=#[{on:=3,ground:=Ground.data}],guard:=none}) (v:=.agg cx.toArray) rfl mDh mDh mDh (fun _ _ _ h=>by obtain⟨_,_,h,_⟩:=h;cases h) ?hy4 hHeld ?hr4
          case hy4=>refine yieldsIf_load_mid mD2 43 _ rfl xb (xo+i*27) rfl cx _ ?_ Tryd.underlying43 rfl hi43;intro W hW;exact xV rx2 (Below.block hW _ rx2_lt)
          simp only[Act.put,List.setIfInBounds_toArray,List.set_cons_zero,List.set_cons_succ]
          refine wpAnyH_take (i:=5) (oi:={dst:=some 46,op:=Op.fieldAddr 74 (Operand.tmp 6) 1,type:=0,pos:= "code.go:359", after:=#[{on:=12,ground:=Ground.gcOnly Departure.lateStores}],guard:=none}) (v:=.pointer (some ⟨g6,1,none⟩)) rfl mDh mDh mDh (fun _ _ _ h=>by obtain⟨_,_,h,_⟩:=h;cases h) (.inl ⟨mD2,fun W hW=>?_⟩) hHeld ?_
          ·go_simp
          simp only[Act.put,List.setIfInBounds_toArray,List.set_cons_zero,List.set_cons_succ]
          refine wpAnyH_take (i:=6) (oi:={dst:=some 47,op:=Op.load 22 (Operand.tmp 46),type:=22,pos:= "code.go:359", after:=#[{on:=5,ground:=Ground.data},{on:=12,ground:=Ground.gcOnly Departure.lateStores}],guard:=none}) (v:=.slice (some ⟨yb,yo,none⟩) p.b.length dp) rfl mDh mDh mDh (fun _ _ _ h=>by obtain⟨_,_,h,_⟩:=h;cases h) (.inl ⟨mD2,fun W hW=>?_⟩) hHeld ?_
          ·(have c0:=(hW.cell (p:=⟨g6,1,none⟩) h6lt).trans p1;go_simp)
          simp only[Act.put,List.setIfInBounds_toArray,List.set_cons_zero,List.set_cons_succ]
          refine wpAnyH_take (i:=7) (oi:={dst:=some 48,op:=Op.move (Operand.tmp 7),type:=3,pos:= "code.go:359", after:=#[{on:=12,ground:=Ground.gcOnly Departure.lateStores}],guard:=none}) (v:=.int .i64 (i:Int)) rfl mDh mDh mDh (fun _ _ _ h=>by obtain⟨_,_,h,_⟩:=h;cases h) (.inl ⟨mD2,fun W hW=>?_⟩) hHeld ?_
          ·go_simp
          simp only[Act.put,List.setIfInBounds_toArray,List.set_cons_zero,List.set_cons_succ]
          refine wpAnyH_take (i:=8) (oi:={dst:=some 49,op:=Op.indexAddr 22 (Operand.tmp 47) (Operand.tmp 48),type:=0,pos:= "code.go:359", after:=#[{on:=6,ground:=Ground.data},{on:=7,ground:=Ground.data},{on:=12,ground:=Ground.gcOnly Departure.lateStores}],guard:=none}) (v:=.pointer (some ⟨yb,yo+i*27,none⟩)) rfl mDh mDh mDh (fun _ _ _ h=>by obtain⟨_,_,h,_⟩:=h;cases h) (.inl ⟨mD2,fun W hW=>?_⟩) hHeld ?_
          ·go_simp
          simp only[Act.put,List.setIfInBounds_toArray,List.set_cons_zero,List.set_cons_succ]
          have hS:=hHeld
          clear hHeld
          refine wpAnyH_ready (rs:=[9,10,11]) mDh mDp ?_
          refine AllReadyH.cons (o:={dst:=some 50,op:=Op.load 43 (Operand.tmp 49),type:=43,pos:= "code.go:359", after:=#[{on:=8,ground:=Ground.data},{on:=12,ground:=Ground.gcOnly Departure.lateStores}],guard:=none}) rfl (fun K hK=>?_) ?_
          ·rw[if_pos mD2]
           refine wp_load_mid 43 _ rfl yb (yo+i*27) rfl cy _ (xV ry2 (Below.block hS _ ry2_lt)) Tryd.underlying43 rfl hi43' ?_
           simp only[Act.put,List.setIfInBounds_toArray,List.set_cons_zero,List.set_cons_succ]
           refine hK.out _ _ hS (fun hS=>?_)
           clear hK K
           refine wpAnyH_ready (rs:=[10,11]) mDh mDp ?_
           refine AllReadyH.cons (o:={dst:=some 8,op:=Op.alloc 43,type:=0,pos:= "code.go:359", after:=#[],guard:=none}) rfl (fun K hK=>?_) ?_
           ·refine jJ mD2 43 rfl _ jd ?_
            intro g8 e8 W10 F8 l8
            simp only[Act.put,List.setIfInBounds_toArray,List.set_cons_zero,List.set_cons_succ]
            have G8:wr.heap.size≤g8:=by rw[e8];exact Below.size hS
            refine hK.out _ _ (zG hS (Below.size hS) l8) (fun hS=>?_)
            exact mA1
           refine AllReadyH.cons (o:={dst:=some 9,op:=Op.alloc 43,type:=0,pos:= "code.go:359", after:=#[],guard:=none}) rfl (fun K hK=>?_) ?_
           ·refine jJ mD2 43 rfl _ jd ?_
            intro g9 e9 W11 F9 l9
            simp only[Act.put,List.setIfInBounds_toArray,List.set_cons_zero,List.set_cons_succ]
            have G9:wr.heap.size≤g9:=by rw[e9];exact Below.size hS
            refine hK.out _ _ (zG hS (Below.size hS) l9) (fun hS=>?_)
            exact mA2
           exact AllReadyH.nil
          refine AllReadyH.cons (o:={dst:=some 8,op:=Op.alloc 43,type:=0,pos:= "code.go:359", after:=#[],guard:=none}) rfl (fun K hK=>?_) ?_
          ·refine jJ mD2 43 rfl _ jd ?_
           intro g8 e8 W10 F8 l8
           simp only[Act.put,List.setIfInBounds_toArray,List.set_cons_zero,List.set_cons_succ]
           have G8:wr.heap.size≤g8:=by rw[e8];exact Below.size hS
           refine hK.out _ _ (zG hS (Below.size hS) l8) (fun hS=>?_)
           clear hK K
           refine wpAnyH_ready (rs:=[9,11]) mDh mDp ?_
           refine AllReadyH.cons (o:={dst:=some 50,op:=Op.load 43 (Operand.tmp 49),type:=43,pos:= "code.go:359", after:=#[{on:=8,ground:=Ground.data},{on:=12,ground:=Ground.gcOnly Departure.lateStores}],guard:=none}) rfl (fun K hK=>?_) ?_
           ·rw[if_pos mD2]
            refine wp_load_mid 43 _ rfl yb (yo+i*27) rfl cy _ (xV ry2 (Below.block hS _ ry2_lt)) Tryd.underlying43 rfl hi43' ?_
            simp only[Act.put,List.setIfInBounds_toArray,List.set_cons_zero,List.set_cons_succ]
            refine hK.out _ _ hS (fun hS=>?_)
            exact mA1
           refine AllReadyH.cons (o:={dst:=some 9,op:=Op.alloc 43,type:=0,pos:= "code.go:359", after:=#[],guard:=none}) rfl (fun K hK=>?_) ?_
           ·refine jJ mD2 43 rfl _ jd ?_
            intro g9 e9 W11 F9 l9
            simp only[Act.put,List.setIfInBounds_toArray,List.set_cons_zero,List.set_cons_succ]
            have G9:wr.heap.size≤g9:=by rw[e9];exact Below.size hS
            have N:g8≠g9:=by rw[e9];exact Nat.ne_of_lt (qN F8)
            replace F8:=qG F8 l9
            refine hK.out _ _ (zG hS (Below.size hS) l9) (fun hS=>?_)
            exact mAr
           exact AllReadyH.nil
          refine AllReadyH.cons (o:={dst:=some 9,op:=Op.alloc 43,type:=0,pos:= "code.go:359", after:=#[],guard:=none}) rfl (fun K hK=>?_) ?_
          ·refine jJ mD2 43 rfl _ jd ?_
           intro g9 e9 W11 F9 l9
           simp only[Act.put,List.setIfInBounds_toArray,List.set_cons_zero,List.set_cons_succ]
           have G9:wr.heap.size≤g9:=by rw[e9];exact Below.size hS
           refine hK.out _ _ (zG hS (Below.size hS) l9) (fun hS=>?_)
           clear hK K
           refine wpAnyH_ready (rs:=[9,10]) mDh mDp ?_
           refine AllReadyH.cons (o:={dst:=some 50,op:=Op.load 43 (Operand.tmp 49),type:=43,pos:= "code.go:359", after:=#[{on:=8,ground:=Ground.data},{on:=12,ground:=Ground.gcOnly Departure.lateStores}],guard:=none}) rfl (fun K hK=>?_) ?_
           ·rw[if_pos mD2]
            refine wp_load_mid 43 _ rfl yb (yo+i*27) rfl cy _ (xV ry2 (Below.block hS _ ry2_lt)) Tryd.underlying43 rfl hi43' ?_
            simp only[Act.put,List.setIfInBounds_toArray,List.set_cons_zero,List.set_cons_succ]
            refine hK.out _ _ hS (fun hS=>?_)
            exact mA2
           refine AllReadyH.cons (o:={dst:=some 8,op:=Op.alloc 43,type:=0,pos:= "code.go:359", after:=#[],guard:=none}) rfl (fun K hK=>?_) ?_
           ·refine jJ mD2 43 rfl _ jd ?_
            intro g8 e8 W10 F8 l8
            simp only[Act.put,List.setIfInBounds_toArray,List.set_cons_zero,List.set_cons_succ]
            have G8:wr.heap.size≤g8:=by rw[e8];exact Below.size hS
            have N:g9≠g8:=by rw[e8];exact Nat.ne_of_lt (qN F9)
            replace F9:=qG F9 l8
            refine hK.out _ _ (zG hS (Below.size hS) l8) (fun hS=>?_)
            exact mAr
           exact AllReadyH.nil
          exact AllReadyH.nil
         ·rintro e a' w' ⟨g8,g9,rfl,rfl,h8,h9,hb⟩
          simp only[Act.put,List.setIfInBounds_toArray,List.set_cons_zero,List.set_cons_succ]
          obtain⟨Al,cl,At,ct,Ab,cb,Ae,ce,ex,x16,x1,x2,xbo,xel⟩:=xk hxK
          obtain⟨Bl,dl,Bt,dt,Bb,db,Be,de,ey,y16,y1,y2,ybo,yel⟩:=xk hyK
          have Z:=qa x x16 (.slice Al x.l.length cl) (.slice At x.t.length ct) (.slice Ab x.body.length cb) (.slice Ae x.els.length ce)
          have Y:=qa y y16 (.slice Bl y.l.length dl) (.slice Bt y.t.length dt) (.slice Bb y.body.length db) (.slice Be y.els.length de)
          rw[← ex] at Z
          rw[← ey] at Y
          have HZ:=am Z
          have HY:=am Y
          have HXO:=am xbo
          have HXE:=am xel
          have HYO:=am ybo
          have HYE:=am yel
          have HF8:=am h8
          have HF9:=am h9
          have hflat:=zM x y w' (.slice Ab x.body.length cb) (.slice Ae x.els.length ce) (.slice Bb y.body.length db) (.slice Be y.els.length de) x16 y16 ⟨x1.1,Kd.C_below x1.2 (zG HB0.out HB0.out.size hb)⟩ ⟨x2.1,Kd.C_below x2.2 (zG HB0.out HB0.out.size hb)⟩ ⟨y1.1,Kd.C_below y1.2 (zG HB0.out HB0.out.size hb)⟩ ⟨y2.1,Kd.C_below y2.2 (zG HB0.out HB0.out.size hb)⟩
          rw[← ex,← ey] at hflat
          have n0_:=am (zG HB0.out HB0.out.size hb)
          have n1_:=am (qG HB6.out hb)
          have n2_:=am (Kd.R_below HR5.out hb)
          have HXL:=am hxl
          have HYL:=am hyl
          clear HB0 HB6 HR5
          have HB0:=n0_
          have HB6:=n1_
          have HR5:=n2_
          clear n0_ n1_ n2_ Z Y xbo xel ybo yel h8 h9 hb ex ey x16 x1 x2 y16 y1 y2 hxK hyK rx ry rx2 ry2 hi43 hi43' ho1 ho2 hl1 hl2 hz1 hz2 hold27 h6lt rx2_lt ry2_lt hxl hyl p0 p1
          cases hfl:qz x y
          ·rw[hfl] at hflat
           have HFL:=am hflat
           have hres:none=res:=by
            have h1:=HPU.out
            rw[hfl] at h1
            simpa using h1
           subst hres
           have hr:false=r:=Option.some.inj HF2.out
           subst hr
           clear hflat hfl
           go_wp2_with (first
            | ((with_reducible refine qE (N:=51) rfl ?_);refine q7 rfl 43 (.tmp 8) rfl g8 0 27 cx cx _ rfl HF8.out mCw HXL.out Tryd.underlying43 rfl zC ?_)
            | ((with_reducible refine qE (N:=52) rfl ?_);refine q7 rfl 43 (.tmp 9) rfl g9 0 27 cy cy _ rfl HF9.out (by rw[List.drop_zero];exact List.take_of_length_le (Nat.le_of_eq HYL.out)) HYL.out Tryd.underlying43 rfl zC ?_)
            | (go_at_call 36;refine HFL.out.mono ?_;rintro e w6 ⟨rfl,hb6⟩;have n0_:=am (zG HB0.out HB0.out.size hb6);clear HB0;have HB0:=n0_;clear n0_ hb6))
           go_ret
           exact⟨rfl,HB0.out⟩
          ·rw[hfl] at hflat
           have HFL:=am hflat
           have hpu:xh (p.a.drop (i+1)) (p.b.drop (i+1)) (⟨x.els,y.els⟩::⟨x.body,y.body⟩::st)=res:=by
            have h1:=HPU.out
            rwa [hfl,if_pos rfl] at h1
           have HRES:=am hpu
           have w1eq:wrap64 ((i:Int)+1)=((i+1:Nat):Int):=by unfold wrap64;have:=Kd.C_max HCP.out;omega
           clear hflat hfl hpu HPU
           go_wp2_with (first
            | ((with_reducible refine qE (N:=51) rfl ?_);refine q7 rfl 43 (.tmp 8) rfl g8 0 27 cx cx _ rfl HF8.out mCw HXL.out Tryd.underlying43 rfl zC ?_)
            | ((with_reducible refine qE (N:=52) rfl ?_);refine q7 rfl 43 (.tmp 9) rfl g9 0 27 cy cy _ rfl HF9.out (by rw[List.drop_zero];exact List.take_of_length_le (Nat.le_of_eq HYL.out)) HYL.out Tryd.underlying43 rfl zC ?_)
            | (go_at_call 36;refine HFL.out.mono ?_;rintro e w6 ⟨rfl,hb6⟩;have n0_:=am (zG HB0.out HB0.out.size hb6);have n1_:=am (qG HB6.out hb6);have n2_:=am (Kd.R_below HR5.out hb6);
               have z25:w6.cell? ⟨g8,25,none⟩=some (.slice Ab x.body.length cb):=(qA (qG HF8.out hb6) 25).trans (by rw[List.getElem?_toArray];exact HZ.out.2.2.2.2.2.2.2.2.2.1);
               have z26:w6.cell? ⟨g8,26,none⟩=some (.slice Ae x.els.length ce):=(qA (qG HF8.out hb6) 26).trans (by rw[List.getElem?_toArray];exact HZ.out.2.2.2.2.2.2.2.2.2.2);
               have y25:w6.cell? ⟨g9,25,none⟩=some (.slice Bb y.body.length db):=(qA (qG HF9.out hb6) 25).trans (by rw[List.getElem?_toArray];exact HY.out.2.2.2.2.2.2.2.2.2.1);
               have y26:w6.cell? ⟨g9,26,none⟩=some (.slice Be y.els.length de):=(qA (qG HF9.out hb6) 26).trans (by rw[List.getElem?_toArray];exact HY.out.2.2.2.2.2.2.2.2.2.2);
               clear HB0 HB6 HR5;have HB0:=n0_;have HB6:=n1_;have HR5:=n2_;clear n0_ n1_ n2_ hb6)
            | ((with_reducible refine qE (N:=66) rfl ?_);refine Kd.R_lit (kPr w) w.heap.size 74 ?hg2 (N:=66) ?hd2 (xs:=[(⟨x.body,y.body⟩:Pr),⟨x.els,y.els⟩]) (inner:=[.slice Ab x.body.length cb,.slice Bb y.body.length db,.slice Ae x.els.length ce,.slice Be y.els.length de]) (ok:=fun _=>True) (okp:=fun _=>True) ?hr2 ?hp2 (fun _ hk=>hk) trivial HB0.out HB0.out.size mDp ?_;(case hd2=>rfl);(case hg2=>rfl);(case hr2=>first|(go_simp;done)|(go_simp;rfl));(case hp2=>exact Reps.c2 (yT w _ _ _ ⟨x.body,y.body⟩ HXO.out.1 HXO.out.2 HYO.out.1 HYO.out.2) (Reps.c2 (yT w _ _ _ ⟨x.els,y.els⟩ HXE.out.1 HXE.out.2 HYE.out.1 HYE.out.2) (Reps.none _ _)));intro v66 w7 ho hb hg_ hnew_;obtain⟨A66,c66,rfl⟩:=Kd.R_slice ho;have HO:=am ho;have n0_:=am hb;have n1_:=am ((hg_.block g6 (qN HB6.out) mDp).trans HB6.out);have n2_:=am (Kd.R_keep HR5.out (qc.of_grown hg_ g6) (fun _ h=>h));clear HB0 HB6 HR5;have HB0:=n0_;have HB6:=n1_;have HR5:=n2_;clear n0_ n1_ n2_ ho hb hg_ hnew_)
            | ((with_reducible refine qZ (b:=.append) (xs:=#[.tmp 55,.tmp 66]) rfl ?_);at_builtin;refine Kd.R_append_rows (kPr w) w.heap.size rfl (.tmp 55) (.tmp 66) 75 74 (.agg #[.slice none 0 0,.slice none 0 0]) 48 rfl Tryd.underlying75 qIq rfl (show 0<2 by decide) mDl _ st.reverse [(⟨x.body,y.body⟩:Pr),⟨x.els,y.els⟩] A66 2 c66 (fun k=>k≠g6) (fun _=>False) rfl rfl HR5.out (Kd.R_reads' HO.out).2.2 (fun x cs h=>qFF h) (fun _ hk=>hk.elim) ?fr HB0.out HB0.out.size ?aL ?_;(case fr=>intro k hk hkk;have:=qN HB6.out;omega);(case aL=>simp only[List.length_reverse];have:=HRL.out;have:=HST.out;omega);intro v67 w8 ho hb hg hat;have n0_:=am ho;have n1_:=am hb;have n2_:=am ((hg.block g6 (qN HB6.out) (fun e=>HR5.out.1 g6 e.symm rfl)).trans HB6.out);clear HB0 HB6 HR5;have HR5:=n0_;have HB0:=n1_;have HB6:=n2_;clear n0_ n1_ n2_ ho hb hg hat))
           go_roundg (gk - 1)
           case measure=>omega
           case rel=>exact⟨i+1,⟨x.els,y.els⟩::⟨x.body,y.body⟩::st,by first|rfl|rw[w1eq],mDj,⟨by have:=HST.out;simp only[List.length_cons];omega⟩,HRES,⟨by have h9:=HR5.out;simpa using h9⟩,HB0,HB6⟩
theorem yr {l:List I}{i:Nat}(hi:i<l.length):l.drop i=l.getD i zI::l.drop (i+1):=by
 rw[List.getD_eq_getElem?_getD,List.getElem?_eq_getElem hi]
 exact List.drop_eq_getElem_cons hi
theorem qJV {w:World}{A:Option Addr}{l:List I}(h:kI.C w A l.length l){i:Nat}(hi:i<l.length):∃ b o Al cl At ct Ab cb Ae ce,A=some ⟨b,o,none⟩∧w.rangeAt b (o+i*27) (qH (l.getD i zI) (.slice Al (l.getD i zI).l.length cl) (.slice At (l.getD i zI).t.length ct) (.slice Ab (l.getD i zI).body.length cb) (.slice Ae (l.getD i zI).els.length ce))∧(l.getD i zI).v.length=16 ∧
 ((l.getD i zI).l.length≤cl∧(Kd.int .u32).C w Al (l.getD i zI).l.length (l.getD i zI).l)∧((l.getD i zI).t.length≤ct∧(Kd.int .u8).C w At (l.getD i zI).t.length (l.getD i zI).t)∧((l.getD i zI).body.length≤cb∧kI.C w Ab (l.getD i zI).body.length (l.getD i zI).body)∧(l.getD i zI).els.length≤ce∧kI.C w Ae (l.getD i zI).els.length (l.getD i zI).els:=by
 obtain⟨b,o,rfl⟩:=qEo h mDj
 obtain⟨ad,cx,had,hxl,hxK,hxc⟩:=Kd.C_get h zI (i:Int) mDj mDj
 obtain rfl:=Option.some.inj had
 rw[Int.toNat_natCast] at hxK
 obtain⟨Al,cl,At,ct,Ab,cb,Ae,ce,rfl,h16,h1,h2,h3,h4⟩:=xk hxK
 refine⟨b,o,Al,cl,At,ct,Ab,cb,Ae,ce,rfl,fun j u hj=>?_,h16,h1,h2,h3,h4⟩
 have:=hxc j u hj
 rw[show((i:Int)).toNat*kI.sz+j=i*27+j from rfl,Addr.add_mid,← Nat.add_assoc] at this
 exact this
section
attribute [local go_sem] jh jj xE xF
end
end Go.Proofs.YtobldeamemmokaaDoor.P
