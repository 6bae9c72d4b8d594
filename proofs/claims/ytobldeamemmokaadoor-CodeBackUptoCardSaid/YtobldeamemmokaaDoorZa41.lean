import Derived.Test.YtobldeamemmokaaDoorZa40
set_option linter.unusedVariables false
set_option linter.unusedSimpArgs false
set_option maxHeartbeats 64000000
namespace Go.Proofs.YtobldeamemmokaaDoor.P
open Go.RowKit Go.Proofs.YtobldeamemmokaaDoorW.PrintWords Go.Proofs.YtobldeamemmokaaDoorW.PrintLast Go.Proofs.YtobldeamemmokaaDoorW.PrintMore
theorem qAW (K:Nat):∀(k:Nat) (ps:List P_),mP ps<k→(∀ p ∈ ps,p.at_≤p.l.length)→ps.length+2*cP ps<1000000000000→(∀ q ∈ yS ps,xi K q.1≠none)→xq (qEV K) k ps true=some ((yS ps).all fun q=>xi K q.1==some true)
 | 0,ps,h,_,_,_=>absurd h (Nat.not_lt_zero _)
 | k+1,[],h,_,_,_=>by simp[xq,yS]
 | k+1,p::rs,h,hp,hs,hq=>by
   have h0:=hp p (List.mem_cons_self ..)
   have hrs:∀ q ∈ rs,q.at_≤q.l.length:=fun q hq=>hp q (List.mem_cons_of_mem _ hq)
   rw[xq]
   simp only[mP,cP,List.length_cons] at h hs
   rw[yS] at hq ⊢
   by_cases e:p.at_=p.l.length
   ·rw[if_pos e]
    have e2:p.l.drop p.at_ = []:=List.drop_eq_nil_of_le mDj
    rw[e2,cL] at h hs
    rw[e2,xA,List.nil_append] at hq ⊢
    exact qAW K k rs (by generalize mP rs=M at h ⊢;omega) hrs (by generalize cP rs=C at hs ⊢;omega) hq
   ·have hlt:p.at_<p.l.length:=mDj
    rw[if_neg e,if_pos hlt]
    rw[yr hlt,cL,qBc] at h hs
    rw[yr hlt,xA,qEC] at hq ⊢
    obtain⟨x,hx⟩:=ey_ (p.l.getD p.at_ zI)
    rw[hx] at h hs hq ⊢
    rw[List.cons_append,List.cons_append] at hq ⊢
    rw[List.all_cons]
    obtain⟨bb,hbb⟩:=Option.ne_none_iff_exists'.1 (hq _ (List.mem_cons_self ..))
    have hbb:xi K x=some bb:=hbb
    show(((xi K x).map (fun b=>(b,b))).bind _)=some (_ && _)
    rw[hbb,Option.map_some,Option.bind_some]
    cases bb with
    | false=>rfl
    | true =>
      rw[if_pos rfl,if_pos mDb]
      have e5:=qAW K k ((if 0<x.body.length then [⟨x.body,0,(if qw x.op=true then wrap64 (p.high+1) else p.high)⟩] else []) ++
       ((if 0<x.els.length then [⟨x.els,0,(if qw x.op=true then wrap64 (p.high+1) else p.high)⟩] else [])++⟨p.l,p.at_+1,p.high⟩::rs)) ?_ ?_ ?_ ?_
      ·refine e5.trans ?_
       rw[yy,yy,yS]
       simp only[inn,List.append_assoc]
       rfl
      ·exact mA3
      ·exact mBf
      ·rw[qEZ,qEZ,cP]
       exact mAy
      ·intro q2 hq2
       rw[yy,yy,yS] at hq2
       refine hq q2 (List.mem_cons_of_mem _ ?_)
       simp only[inn,List.append_assoc] at hq2 ⊢
       exact hq2
mutual
theorem qHL (P:I→Bool):∀(h:Int) (x:I),((qB6 h x).all fun q=>P q.1)=true↔alI (fun y=>P y=true) x
 | h,⟨o,a,b,n,v,l,t,bk,bv,bt,bd,e⟩=>by rw[qB6,alI,List.all_cons,Bool.and_eq_true,List.all_append,Bool.and_eq_true,qBq P _ bd,qBq P _ e]
theorem qBq (P:I→Bool):∀(h:Int) (l:List I),((xA h l).all fun q=>P q.1)=true↔alL (fun y=>P y=true) l
 | h,[]=>by simp[xA,alL]
 | h,x::l=>by rw[xA,alL,List.all_append,Bool.and_eq_true,qHL P h x,qBq P h l]
end
mutual
theorem qFI {P:I→Prop}:∀(h:Int) (x:I),alI P x→∀ q ∈ qB6 h x,P q.1
 | h,⟨o,a,b,n,v,l,t,bk,bv,bt,bd,e⟩,hx,q,hq=>by
   rw[alI] at hx
   rw[qB6] at hq
   rcases List.mem_cons.1 hq with rfl|hq
   ·exact hx.1
   rcases List.mem_append.1 hq with hq|hq
   ·exact qAO _ bd hx.2.1 q hq
   ·exact qAO _ e hx.2.2 q hq
theorem qAO {P:I→Prop}:∀(h:Int) (l:List I),alL P l→∀ q ∈ xA h l,P q.1
 | h,[],_,q,hq=>by rw[xA] at hq;cases hq
 | h,x::l,hx,q,hq=>by
   rw[alL] at hx
   rw[xA] at hq
   rcases List.mem_append.1 hq with hq|hq
   ·exact qFI h x hx.1 q hq
   ·exact qAO h l hx.2 q hq
end
mutual
theorem qHc {P Q R:I→Prop}(f:∀ x,P x→Q x→R x):∀(x:I),alI P x→alI Q x→alI R x
 | ⟨o,a,b,n,v,l,t,bk,bv,bt,bd,e⟩,h1,h2=>by
   rw[alI] at h1 h2 ⊢
   exact⟨f _ h1.1 h2.1,yn f bd h1.2.1 h2.2.1,yn f e h1.2.2 h2.2.2⟩
theorem yn {P Q R:I→Prop}(f:∀ x,P x→Q x→R x):∀(l:List I),alL P l→alL Q l→alL R l
 | [],_,_=>by rw[alL];trivial
 | x::l,h1,h2=>by
   rw[alL] at h1 h2 ⊢
   exact⟨qHc f x h1.1 h2.1,yn f l h1.2 h2.2⟩
end
theorem qGa {K:Nat}(hK:OfK K){y:I}(hr:xM y):∃ b,xi K y=some b:=by
 obtain⟨⟨r1,r2,im,r4,r5,r6,r7,e⟩,hq,_⟩:=hK.any y.op hr.o.1 hr.o.2
 exact⟨_,qC8 hq⟩
def okB (K:Nat)(l:List I):Bool:=(xA 0 l).all fun q=>xi K q.1==some true
theorem qHg {K:Nat}(hK:OfK K){l:List I}(hr:alL xM l):okB K l=true↔alL (Ok K) l:=by
 unfold okB
 rw[qBq (fun y=>xi K y==some true) 0 l]
 constructor
 ·intro h
  exact yn (fun x h1 h2=>qHI hK h1 (eq_of_beq h2)) l hr h
 ·intro h
  exact yn (fun x h1 h2=>beq_iff_eq.2 (qEy hK h2.1 h2.2).1) l h h
theorem qIo {K:Nat}(hK:OfK K){l:List I}(h:alL (Ok K) l):alL xM l:=yn (fun x h1 _=>(qEy hK h1.1 h1.2).2) l h h
def qB4 (K:Nat)(l:List I):Bool:=decide (pL 0 l≤1000) && okB K l
theorem qH3 {K:Nat}(hK:OfK K){l:List I}(hr:alL xM l)(hc:cL l≤1000000000):∃ d,xg zU (3*cL l+2) [⟨l,0,0⟩] 0=some d∧qGp K (3*cL l+2) l d=some (qB4 K l)∧min d 1001=((min (pL 0 l) 1001:Nat):Int):=by
 have h1:=qAT zU l 0 hc
 have h2:=qFD l hc
 refine⟨_,h1,?_,h2⟩
 unfold qGp qB4
 rw[h2]
 by_cases hp:pL 0 l≤1000
 ·rw[if_pos mDj,decide_eq_true hp,Bool.true_and]
  rw[qAW K (3*cL l+2) [⟨l,0,0⟩] (by simp only[mP,List.drop_zero];omega) (by intro q hq;rcases List.mem_singleton.1 hq with rfl;exact Nat.zero_le _) (by simp only[cP,List.drop_zero,List.length_singleton];omega)
   (by
    intro q hq
    rw[yS,yS,List.drop_zero,List.append_nil] at hq
    obtain⟨b,hb⟩:=qGa hK (qAO 0 l hr q hq)
    rw[hb]
    exact fun h=>by cases h)]
  rw[yS,yS,List.drop_zero,List.append_nil]
  rfl
 ·rw[if_neg mDj,decide_eq_false hp,Bool.false_and]
theorem qBK {K:Nat}(hK:OfK K){l:List I}(hr:alL xM l):qB4 K l=true↔pL 0 l≤1000∧alL (Ok K) l:=by
 unfold qB4
 rw[Bool.and_eq_true,decide_eq_true_iff,qHg hK hr]
theorem qF9 (K:Nat)(y:I):1≤(jN K y).length:=by
 unfold jN yK
 rw[List.length_append]
 split
 ·simp
 ·rw[List.length_cons];omega
mutual
theorem qJf (K:Nat):∀(x:I),alI (Ok K) x→cI x≤nI K x
 | ⟨o,a,b,n,v,l,t,bk,bv,bt,bd,e⟩,h=>by
   rw[alI] at h
   have h1:=qF9 K ⟨o,a,b,n,v,l,t,bk,bv,bt,bd,e⟩
   have h2:=qEv K bd h.2.1
   have h3:=qEv K e h.2.2
   rw[cI,nI]
   generalize (jN K ⟨o,a,b,n,v,l,t,bk,bv,bt,bd,e⟩).length=N at h1 ⊢
   by_cases hb:qw o=true
   ·rw[if_pos hb]
    by_cases he:e.length=0
    ·rw[if_pos he]
     obtain rfl:=List.eq_nil_of_length_eq_zero he
     rw[cL] at h3 ⊢
     omega
    ·rw[if_neg he]
     omega
   ·rw[if_neg hb]
    obtain⟨q1,q2⟩:=h.1.2.1 (show qw o=false by simpa using hb)
    have q1:bd = []:=q1
    have q2:e = []:=q2
    subst q1 q2
    rw[cL]
    omega
theorem qEv (K:Nat):∀(l:List I),alL (Ok K) l→cL l≤nL K l
 | [],_=>by rw[cL];exact Nat.zero_le _
 | x::l,h=>by
   rw[alL] at h
   have h1:=qJf K x h.1
   have h2:=qEv K l h.2
   rw[cL,nL]
   omega
end
mutual
theorem qJq {K k:Nat}(hK:OfK K)(hk:k+1=2000000):∀(x:I),alI (Ok K) x→nI K x≤60*wI x
 | ⟨o,a,b,n,v,l,t,bk,bv,bt,bd,e⟩,h=>by
   rw[alI] at h
   obtain⟨_,_,p3,p4⟩:=qFU (k:=k) hK hk h.1.1
   have h2:=qEQ hK hk bd h.2.1
   have h3:=qEQ hK hk e h.2.2
   rw[nI,wI]
   have h1:(jN K ⟨o,a,b,n,v,l,t,bk,bv,bt,bd,e⟩).length≤51+11*l.length+t.length:=by
    unfold jN
    rw[List.length_append]
    have p3:(qB1 K ⟨o,a,b,n,v,l,t,bk,bv,bt,bd,e⟩).length≤40+11*l.length+t.length:=p3
    omega
   generalize (jN K ⟨o,a,b,n,v,l,t,bk,bv,bt,bd,e⟩).length=N at h1 ⊢
   generalize nL K bd=A at h2 ⊢
   generalize nL K e=B at h3 ⊢
   generalize wL bd=C at h2 ⊢
   generalize wL e=D at h3 ⊢
   by_cases hb:qw o=true
   ·rw[if_pos hb]
    split <;> omega
   ·rw[if_neg hb]
    omega
theorem qEQ {K k:Nat}(hK:OfK K)(hk:k+1=2000000):∀(l:List I),alL (Ok K) l→nL K l≤60*wL l
 | [],_=>by rw[nL];exact Nat.zero_le _
 | x::l,h=>by
   rw[alL] at h
   have h1:=qJq hK hk x h.1
   have h2:=qEQ hK hk l h.2
   rw[nL,wL]
   omega
end
structure qF4 (K:Nat) (l:List I) (bs:List Int) (kf:Nat):Prop where
 put:y7 K kf [⟨l,[]⟩] []=some bs
 len:bs.length=nL K l+1
 by_:LebM.Bytes bs
 back:∀ ahead behind,Bs (ahead++bs++behind)→∃ kr,zT K 2000000 (ahead++bs++behind) kr [zO] (ahead.length:Int) 0 false=some (some (l,(ahead.length:Int)+(bs.length:Int),(pL 0 l:Int),zf l))
 cut:∀ n:Nat,n<bs.length→Bs bs→∃ kr,zT K 2000000 (bs.take n) kr [zO] 0 0 false=some none
theorem qEK {K k:Nat}(hK:OfK K)(hk:k+1=2000000){l:List I}(hA:alL (Ok K) l)(hc:cL l≤10000000)(hn:nL K l≤10000000000):∃ bs kf,qF4 K l bs kf:=by
 obtain⟨bs,e1,e2,e3,e4⟩:=sim hK hk (mes [⟨l,[]⟩]+1) ⟨l,[]⟩ [] [] (Nat.lt_succ_self _)
  (by
   intro q hq
   rcases List.mem_singleton.1 hq with rfl
   exact⟨hA,by rw[alL];trivial⟩)
  (by simp only[cS,List.length_singleton];rw[show cL ([]:List I)=0 from by rw[cL]];omega)
  (by simp only[lS,List.length_nil];rw[show nE K []=0 from rfl];omega)
 rw[List.nil_append] at e1
 have hlen:bs.length=nL K l+1:=by
  rw[e2,lS,lS]
  show nL K l+nE K []+1+0=_
  rw[show nE K []=0 from rfl]
 have hback:∀ ahead behind,Bs (ahead++bs++behind)→∃ kr,zT K (k+1) (ahead++bs++behind) kr [zO] (ahead.length:Int) 0 false=some (some (l,(ahead.length:Int)+(bs.length:Int),(pL 0 l:Int),zf l)):=by
  intro ahead behind hb
  obtain⟨kr,dd,dds,hr⟩:=e4 (ahead++bs++behind) (ahead.length:Int) zO [] 0 false hb ⟨ahead,behind,rfl,rfl⟩ rfl (by simp only[szO,cS];rw[show cL ([]:List I)=0 from by rw[cL]];show 1+0+0+(cL l+0+0)≤_;omega)
  have hr:zT K (k+1) (ahead++bs++behind) kr [zO] (ahead.length:Int) 0 false=some (some (l,(ahead.length:Int)+(bs.length:Int),dd,dds)):=hr
  obtain⟨_,_,_,q1,q2⟩:=yv hK hk hb (ahead.length:Int) kr zO [] (ahead.length:Int) 0 false mDj ⟨by show alL (Ok K) [];rw[alL];trivial,rfl,mDl⟩ (by rw[sC];show(ahead.length:Int)+(nL K []:Int)≤_;rw[qBZ];simp) (by rw[dS,dS];simp only[zO,zI];rw[qAU];rfl) (by rw[tS,tS];simp only[zO,zI];rw[yE];rfl) hr
  simp only at q1 q2
  rw[q1,q2] at hr
  exact⟨kr,hr⟩
 refine⟨bs,_,e1,hlen,e3,by rw[← hk];exact hback,?_⟩
 intro n hlt hb
 obtain⟨kr,hr⟩:=hback [] [] (by rw[List.append_nil];exact hb)
 rw[List.append_nil,List.nil_append] at hr
 rw[← hk]
 exact⟨kr,qAD hK hk hb n mDj (by simp only[List.length_nil];omega) kr zO [] 0 0 false mDj mDj hr⟩
theorem qGR {K k:Nat}(hK:OfK K)(hk:k+1=2000000){b:List Int}(hb:Bs b)(hl:b.length≤1000000):∃ kr r,zT K 2000000 b kr [zO] 0 0 false=some r∧∀ R,r=some R→alL (Ok K) R.1∧nL K R.1+1≤R.2.1∧R.2.1≤b.length∧R.2.2.1=(pL 0 R.1:Int)∧R.2.2.2=zf R.1:=by
 rw[← hk]
 obtain⟨r,hr⟩:=qAv hK hk hb hl (b.length+1) zO [] 0 0 false mDj mDj mDj mDl
 refine⟨b.length+1,r,hr,?_⟩
 rintro R rfl
 have h:=yv hK hk hb 0 (b.length+1) zO [] 0 0 false mDj ⟨by show alL (Ok K) [];rw[alL];trivial,rfl,mDl⟩ (by rw[sC];show(0:Int)+(nL K []:Int)≤_;rw[qBZ];decide) (by rw[dS,dS];simp only[zO,zI];rw[qAU];rfl) (by rw[tS,tS];simp only[zO,zI];rw[yE];rfl) hr
 exact⟨h.1,by have:=h.2.1;omega,h.2.2⟩
theorem ofK:OfK 300:=⟨mDl,fun o h0 h1=>qG7 o h0 h1,fun h0 h1=>fun h=>qI9 h0 h1 h⟩
end Go.Proofs.YtobldeamemmokaaDoor.P
