import Derived.Test.YtobldeamemmokaaDoorZa09
set_option linter.unusedVariables false
set_option linter.unusedSimpArgs false
set_option maxHeartbeats 64000000
namespace Go.Proofs.YtobldeamemmokaaDoor.P
open Go.RowKit Go.Proofs.YtobldeamemmokaaDoorW.PrintWords Go.Proofs.YtobldeamemmokaaDoorW.PrintLast Go.Proofs.YtobldeamemmokaaDoorW.PrintMore
theorem qEW {w0 W:World}{base g m cap:Nat}{ok:Nat→Prop}{qs:List P_}{p:P_}{A:Option Addr}{c:Nat}(HR:(kP w0).R 100 W base ok (.slice (some ⟨g,0,none⟩) (m+1) cap) (qs ++ [p]))(hm:m=qs.length)
 (hcc:∀ j u,([.slice A p.l.length c,.int .i64 (p.at_:Int),.int .i64 p.high]:List Value)[j]? = some u→W.cell? ⟨g,((m:Int)).toNat*(kP w0).sz+j,none⟩=some u)(hl:p.l.length≤c)(hc:kI.C w0 A p.l.length p.l):
 (kP w0).R 100 (W.setCell ⟨g,m*3+1,none⟩ (.int .i64 ((p.at_:Int)+1))) base ok (.slice (some ⟨g,0,none⟩) (m+1) cap) (qs ++ [⟨p.l,p.at_+1,p.high⟩]):=by
 have h:=(Kd.R_seg (i:=(m:Int)) (j:=1) (seg:=[.int .i64 ((p.at_:Int)+1)]) (x':=⟨p.l,p.at_+1,p.high⟩) (okp:=fun _=>False) HR mDj mDj rfl hcc (show 1+1≤3 by decide) (qA1 w0 _ _ _ ⟨p.l,p.at_+1,p.high⟩ hl hc) (fun _ hk=>hk.elim)).1
 have e:(qs ++ [p]).set ((m:Int)).toNat ⟨p.l,p.at_+1,p.high⟩=qs ++ [⟨p.l,p.at_+1,p.high⟩]:=by
  rw[Int.toNat_natCast,hm,List.set_append_right _ _ (Nat.le_refl _),Nat.sub_self]
  rfl
 rw[e] at h
 exact h
theorem qBp {w W w1:World}{g:Nat}(h:qc w W g none)(hb:Below w.heap.size W w1):qc w w1 g none:=
 ⟨Nat.le_trans h.1 hb.size,fun i hi hg hr=>(hb.block i hi).trans (h.2 i hi hg hr)⟩
set_option maxRecDepth 100000 in
theorem qBi {σ:Type} (fk:Nat) (fn:Func) (hfn:Tryd.prog.funcs[fk]? = some fn) (hname:(fn.name == "runtime.NumGoroutine")=false) (hbody:fn.body.isSome=true)
 (step:σ→I→Int→Option (σ × Bool)) (gn:Nat) (obj:σ→Obj) (w0:World)
 (hstep:∀(W:World) (s:σ) (x:I) (deep:Int) (q:σ × Bool) (ad:Addr) (cs:List Value),step s x deep=some q→Below w0.heap.size w0 W→W.heap[gn]? = some (obj s)→kI.K W x cs→(∀ j u,cs[j]? = some u→W.cell? (ad.add j)=some u)→
  Calls Tryd.prog fk #[.pointer (some ad),.int .i64 deep,.pointer (some ⟨gn,0,none⟩)] W fun e W'=>e = .returned (.bool q.2)∧W'.heap[gn]? = some (obj q.1)∧qc W W' gn none∧Below w0.heap.size w0 W')
 (k:Nat) (A:Option Addr) (c:Nat) (l:List I) (s r:σ) (w:World) (hB:Below w0.heap.size w0 w) (hg:w.heap[gn]? = some (obj s)) (hc:l.length≤c) (hl:kI.C w0 A l.length l) (h:xq step k [⟨l,0,0⟩] s=some r) :
 Calls Tryd.prog 33 #[.slice A l.length c,.func (.func fk) #[] #[.pointer (some ⟨gn,0,none⟩)]] w fun e w'=>e = .returned (.tuple #[])∧w'.heap[gn]? = some (obj r)∧qc w w' gn none∧Below w0.heap.size w0 w':=by
 have HB0:=am hB
 have HG:=am hg
 have HL:=am hl
 have HC:=am hc
 have H':=am h
 have hgn:gn<w.heap.size:=qN hg
 have HGN:=am hgn
 have HST:=am hstep
 have HW0:=am hB.size
 clear hB hg hl hc h hgn hstep
 go_enter Tryd.func33,Tryd.ntmps33
 go_wp2_with (first
  | ((with_reducible refine qE (N:=10) rfl ?_);refine Kd.R_lit (kP w0) w.heap.size 100 ?hg (N:=10) ?hd (xs:=[(⟨l,0,0⟩:P_)]) (inner:=[.slice A l.length c,.int .i64 0,.int .i64 0]) (ok:=fun _=>True) (okp:=fun _=>True) ?hr ?hp (fun _ hk=>hk) trivial (Below.refl _ _) (Nat.le_refl _) mDp ?_;(case hd=>rfl);(case hg=>rfl);(case hr=>first|(go_simp;done)|(go_simp;rfl));(case hp=>exact Reps.c3 (qA1 w0 _ _ _ ⟨l,0,0⟩ HC.out HL.out) (Reps.none _ _));intro v4 w1 ho hb hg_ hnew_;clear hg_ hnew_;have HO:=am ho;have n0_:=am ((hb.block gn HGN.out).trans HG.out);have n1_:=am (HB0.out.trans (hb.mono HB0.out.size));have HK:=am (qc.of_below hb gn none);clear HG HB0;have HG:=n0_;have HB0:=n1_;clear n0_ n1_;clear ho hb))
 go_loopg [4] k (fun kq v4 w'=>∃(rs:List P_) (s1:σ),Aside0 (xq step kq rs s1=some r)∧Aside0 ((kP w0).R 100 w' w.heap.size (fun _=>True) v4 rs.reverse)∧Aside0 (w'.heap[gn]? = some (obj s1))∧Aside0 (qc w w' gn none)∧Aside0 (Below w0.heap.size w0 w')∧Aside0 (kq≤k))
 case atStart=>exact⟨[⟨l,0,0⟩],s,H',HO,HG,HK,HB0,⟨Nat.le_refl _⟩⟩
 case round =>
  clear H' HO HG HK HB0
  obtain⟨rs,s1,HA,HR,HG,HK,HB0,HK1⟩:=hrel
  cases gk with
  | zero=>exact absurd HA.out (by simp[xq])
  | succ k1 =>
    cases rs with
    | nil =>
      have HR':=HR.out
      obtain⟨A4,c4,rfl⟩:=Kd.R_slice HR'
      have hs1:s1=r:=Option.some.inj HA.out
      have HF:=am hs1
      clear hs1 HR' HA
      go_wp2
      exact⟨rfl,.tuple #[],by first|rfl|simp[results,Tryd.f33],rfl,by rw[← HF.out];exact HG.out,HK.out,HB0.out⟩
    | cons p rs =>
      have HR':=HR.out
      rw[List.reverse_cons] at HR'
      have hlen:(rs.reverse ++ [p]).length=rs.length+1:=mDp
      obtain⟨g,cap,rfl,hbg,hlt,hty⟩:=Kd.R_form HR' mDj
      rw[hlen] at HR' ⊢
      obtain⟨m,hm⟩:=ex_ (rs.length)
      rw[← hm] at HR' ⊢
      obtain⟨cs,hcl,hM,hcc,hff⟩:=Kd.R_elem HR' zP (m:Int) mDj mDj
      have hgp:(rs.reverse ++ [p]).getD ((m:Int)).toNat zP=p:=by rw[Int.toNat_natCast,List.getD_eq_getElem?_getD,List.getElem?_append_right (by simp[hm]),List.length_reverse,hm];simp
      rw[hgp] at hM
      obtain⟨Ap,cp,rfl,hlp,hcp⟩:=qGt hM
      have hm2:m<9223372036854775807:=by have:=Kd.C_max (Kd.R_reads' HR').2.2;have:=(Kd.R_reads' HR').1;omega
      have q0:wr.cell? ⟨g,m*3,none⟩=some (.slice Ap p.l.length cp):=hcc 0 _ rfl
      have q1:wr.cell? ⟨g,m*3+1,none⟩=some (.int .i64 (p.at_:Int)):=hcc 1 _ rfl
      have q2:wr.cell? ⟨g,m*3+2,none⟩=some (.int .i64 p.high):=hcc 2 _ rfl
      have f1:wr.frozen? ⟨g,m*3+1,none⟩=false:=hff 1
      have hcap:m+1≤cap:=(Kd.R_reads' HR').2.1
      have hcap2:m≤cap:=mDj
      have HHR:=am HR'
      have HCC:=am hcc
      have HCL:=am hcl
      have HM:=am hM
      have HLP:=am hlp
      have HCP:=am hcp
      have HHM:=am hm
      have HTY:=am hty
      have HBG:=am hbg
      have HLT:=am hlt
      clear HR' hcc hcl hM hff hlp hcp hm hgp hlen hty hbg hlt
      have d0:decide (0<(m:Int)+1)=true:=decide_eq_true mDj
      by_cases hend:p.at_=p.l.length
      ·have e1:((p.at_:Int)==(p.l.length:Int))=true:=by rw[hend];exact beq_self_eq_true _
       have HE:=am hend
       clear hend
       go_wp2
       go_quiet (fail)
       go_wp2
       go_roundg k1
       case measure=>have:=HK1.out;omega
       case rel =>
        have h1:=HA.out
        simp only[xq] at h1
        rw[if_pos HE.out] at h1
        have h2:=Kd.R_take (m:=m) HHR.out (by rw[List.length_append,List.length_reverse,← HHM.out];omega)
        have e2:(rs.reverse ++ [p]).take m=rs.reverse:=by rw[HHM.out,← List.length_reverse,List.take_left]
        rw[e2] at h2
        exact⟨rs,s1,⟨h1⟩,⟨by (with_reducible repeat (first|apply Kd.R_alloc|apply Kd.R_drewN|apply Kd.R_drew));exact h2⟩,⟨by (with_reducible repeat (first|refine z6 ?_ _|refine za ?_|refine yq ?_ _));exact HG.out⟩,⟨by first|exact HK.out|exact xC HK.out _⟩,⟨by repeat (first|(with_reducible first|exact HB0.out|apply qh|apply qJ|apply qP)|exact HB0.out)⟩,⟨by have:=HK1.out;omega⟩⟩
      ·have hlt2:p.at_<p.l.length:=by
        have h1:=HA.out
        simp only[xq] at h1
        rw[if_neg hend] at h1
        by_cases h2:p.at_<p.l.length
        ·exact h2
        ·rw[if_neg h2] at h1;cases h1
       have e1:((p.at_:Int)==(p.l.length:Int))=false:=by rw[beq_eq_false_iff_ne];omega
       have e3:(p.at_:Int)<(p.l.length:Int):=mDj
       obtain⟨ad,cx,rfl,hxl,hxK,hxc⟩:=Kd.C_get HCP.out zI (p.at_:Int) mDj mDj
       have hgx:p.l.getD ((p.at_:Int)).toNat zI=p.l.getD p.at_ zI:=by rw[Int.toNat_natCast]
       rw[hgx] at hxK
       have HA1:=HA.out
       simp only[xq] at HA1
       rw[if_neg hend,if_pos hlt2] at HA1
       obtain⟨x,hx⟩:=ey_ (p.l.getD p.at_ zI)
       rw[hx] at hxK HA1
       obtain⟨s2,hs2,HA1⟩:=Option.bind_eq_some_iff.1 HA1
       have hxc':∀ j u,cx[j]? = some u→w0.cell? ((ad.add (p.at_*27)).add j)=some u:=fun j u hj=>by
        have:=hxc j u hj
        rw[show((p.at_:Int)).toNat*kI.sz+j=p.at_*27+j from rfl] at this
        rw[add_add]
        exact this
       have hcl2:∀ W,Below w0.heap.size w0 W→W.heap[gn]? = some (obj s1)→Calls Tryd.prog fk #[.pointer (some (ad.add (p.at_*27))),.int .i64 p.high,.pointer (some ⟨gn,0,none⟩)] W fun e W'=>e = .returned (.bool s2.2)∧W'.heap[gn]? = some (obj s2.1)∧qc W W' gn none∧Below w0.heap.size w0 W':=by
        intro W h1 h2
        exact HST.out W s1 x p.high s2 (ad.add (p.at_*27)) cx hs2 h1 h2 (kI.K_below h1 hxK) (fun j u hj=>(h1.cell (World.block_lt_of_cell? w0 _ (hxc' j u hj))).trans (hxc' j u hj))
       have HHA:=am HA1
       have w1eq:wrap64 ((p.at_:Int)+1)=(p.at_:Int)+1:=by unfold wrap64;have:=Kd.C_max HCP.out;omega
       obtain⟨Al,cl,At,ct,Ab,cb,Ae,ce,rfl,h16,_,_,hbody2,hels2⟩:=xk hxK
       obtain⟨z0,_,_,_,_,_,_,_,_,z25,z26⟩:=qa x h16 (.slice Al x.l.length cl) (.slice At x.t.length ct) (.slice Ab x.body.length cb) (.slice Ae x.els.length ce)
       have y0:=hxc' 0 _ z0
       have y25:=hxc' 25 _ z25
       have y26:=hxc' 26 _ z26
       have HY0:=am y0
       have HY25:=am y25
       have HY26:=am y26
       have HBD:=am hbody2
       have HEL:=am hels2
       have hne:gn≠g:=by have:=HGN.out;have:=HBG.out;omega
       have HNE:=am hne
       clear hx hxc hxc' hxK hxl hgx hend HA1 hs2 y0 y25 y26 z0 z25 z26 hbody2 hels2 h16 hne
       cases hgo:s2.2 with
       | false =>
         rw[hgo] at hcl2
         have HSX:=am hcl2
         have HGO:=am hgo
         clear hgo hcl2
         go_wp2
         go_quiet (fail)
         go_wp2
         go_quiet (fail)
         go_wp2_with (first
          | ((with_reducible refine qE (N:=57) rfl ?_);refine qD9 (some 57) rfl rfl (.tmp 54) #[.pointer (some ⟨gn,0,none⟩)] hfn hname hbody #[.pointer (some (ad.add (p.at_*27))),.int .i64 p.high] rfl rfl mD ?_;refine(HSX.out _ ?b0 ?g0).mono ?_;(case b0=>repeat (first|exact HB0.out|apply qJ|apply qP|refine zN ?_ (Nat.le_trans HW0.out HBG.out)));(case g0=>exact(Below.heap_setCell _ _ _ gn HNE.out).trans HG.out);rintro e w5 ⟨rfl,hg5,hk5,hb5⟩;refine⟨_,rfl,?_⟩;have HG5:=am hg5;have HB5:=am hb5;have HK5:=am (qc.trans (qBU (xC HK.out _) (p:=⟨g,m*3+1,none⟩) HBG.out _) hk5 (.inl rfl));clear hg5 hk5 hb5))
         exact⟨rfl,.tuple #[],by first|rfl|simp[results,Tryd.f33],rfl,by rw[show s2.1=r by have h1:=HHA.out;rw[HGO.out] at h1;simpa using h1] at HG5;exact HG5.out,HK5.out,HB5.out⟩
       | true =>
         rw[hgo] at hcl2
         have HSX:=am hcl2
         have hA2:=HHA.out
         rw[hgo,if_pos rfl] at hA2
         have hrl:rs.length<1000000000000:=by
          by_cases h:rs.length<1000000000000
          ·exact h
          ·rw[if_neg h] at hA2;cases hA2
         rw[if_pos hrl] at hA2
         have HRL:=am hrl
         clear hgo hcl2 hrl HHA
         cases hblk:qw x.op
         ·simp only[hblk,Bool.false_eq_true,if_false] at hA2
          by_cases he:0<x.els.length
          ·have d1:decide (0<(x.els.length:Int))=true:=decide_eq_true mDj
           by_cases hb:0<x.body.length
           ·have d2:decide (0<(x.body.length:Int))=true:=decide_eq_true mDj
            simp only[if_pos he,if_pos hb] at hA2
            exact mAg
           ·have d2:decide (0<(x.body.length:Int))=false:=decide_eq_false mDj
            simp only[if_pos he,if_neg hb] at hA2
            exact mAg
          ·have d1:decide (0<(x.els.length:Int))=false:=decide_eq_false mDj
           by_cases hb:0<x.body.length
           ·have d2:decide (0<(x.body.length:Int))=true:=decide_eq_true mDj
            simp only[if_neg he,if_pos hb] at hA2
            exact mAg
           ·have d2:decide (0<(x.body.length:Int))=false:=decide_eq_false mDj
            simp only[if_neg he,if_neg hb] at hA2
            exact mAg
         ·simp only[hblk,if_true] at hA2
          by_cases he:0<x.els.length
          ·have d1:decide (0<(x.els.length:Int))=true:=decide_eq_true mDj
           by_cases hb:0<x.body.length
           ·have d2:decide (0<(x.body.length:Int))=true:=decide_eq_true mDj
            simp only[if_pos he,if_pos hb] at hA2
            exact mAf
           ·have d2:decide (0<(x.body.length:Int))=false:=decide_eq_false mDj
            simp only[if_pos he,if_neg hb] at hA2
            exact mAf
          ·have d1:decide (0<(x.els.length:Int))=false:=decide_eq_false mDj
           by_cases hb:0<x.body.length
           ·have d2:decide (0<(x.body.length:Int))=true:=decide_eq_true mDj
            simp only[if_neg he,if_pos hb] at hA2
            exact mAf
           ·have d2:decide (0<(x.body.length:Int))=false:=decide_eq_false mDj
            simp only[if_neg he,if_neg hb] at hA2
            exact mAf
theorem qAn {σ:Type} (fk:Nat) (fn:Func) (hfn:Tryd.prog.funcs[fk]? = some fn) (hname:(fn.name == "runtime.NumGoroutine")=false) (hbody:fn.body.isSome=true)
 (step:σ→I→Int→σ × Bool) (gn:Nat) (obj:σ→Obj) (w0:World)
 (hstep:∀(W:World) (s:σ) (x:I) (deep:Int) (ad:Addr) (cs:List Value),Below w0.heap.size w0 W→W.heap[gn]? = some (obj s)→kI.K W x cs→(∀ j u,cs[j]? = some u→W.cell? (ad.add j)=some u)→
  Calls Tryd.prog fk #[.pointer (some ad),.int .i64 deep,.pointer (some ⟨gn,0,none⟩)] W fun e W'=>e = .returned (.bool (step s x deep).2)∧W'.heap[gn]? = some (obj (step s x deep).1)∧qc W W' gn none∧Below w0.heap.size w0 W')
 (k:Nat) (A:Option Addr) (c:Nat) (l:List I) (s r:σ) (w:World) (hB:Below w0.heap.size w0 w) (hg:w.heap[gn]? = some (obj s)) (hc:l.length≤c) (hl:kI.C w0 A l.length l) (h:xg step k [⟨l,0,0⟩] s=some r) :
 Calls Tryd.prog 33 #[.slice A l.length c,.func (.func fk) #[] #[.pointer (some ⟨gn,0,none⟩)]] w fun e w'=>e = .returned (.tuple #[])∧w'.heap[gn]? = some (obj r)∧qc w w' gn none∧Below w0.heap.size w0 w':=
 qBi fk fn hfn hname hbody (fun s x d=>some (step s x d)) gn obj w0 (fun W s x deep q ad cs hq h1 h2 h3 h4=>by obtain rfl:=Option.some.inj hq;exact hstep W s x deep ad cs h1 h2 h3 h4) k A c l s r w hB hg hc hl ((qBQ step k _ _).trans h)
end Go.Proofs.YtobldeamemmokaaDoor.P
