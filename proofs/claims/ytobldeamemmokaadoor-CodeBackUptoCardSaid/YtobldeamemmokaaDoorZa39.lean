import Derived.Test.YtobldeamemmokaaDoorZa38
import Derived.Test.YtobldeamemmokaaDoorZa37
import Derived.Test.YtobldeamemmokaaDoorZa29
import Derived.Test.YtobldeamemmokaaDoorZa36
set_option linter.unusedVariables false
set_option linter.unusedSimpArgs false
set_option maxHeartbeats 64000000
namespace Go.Proofs.YtobldeamemmokaaDoor.P
open Go.RowKit Go.Proofs.YtobldeamemmokaaDoorW.PrintWords Go.Proofs.YtobldeamemmokaaDoorW.PrintLast Go.Proofs.YtobldeamemmokaaDoorW.PrintMore
theorem qGj {α:Type}{x:Option α}{p:α→Bool}(h:x.any p=true):∃ q,x=some q∧p q=true:=by
 cases x with
 | none=>cases h
 | some q=>exact⟨q,rfl,h⟩
theorem qCk {o:Nat}(h:qD8 o=true):∃ q,qW.f 300 (o:Int)=some q∧qFs o q=true:=qGj h
theorem qGc {o:Nat}{q:Int × ByteArray × Int × List Int × List Int × Int × Bool × Int}(h:qFs o q=true)(he:q.2.2.2.2.2.2.2≠0):q.2.2.1=0:=by
 unfold qFs at h
 rw[if_neg he] at h
 exact eq_of_beq h
theorem qHE {o:Nat}{r1 im r6:Int}{r2:ByteArray}{r4 r5:List Int}{r7:Bool}(h:qFs o (r1,r2,im,r4,r5,r6,r7,0)=true):
 r1=(o:Int)∧(im==1)=qw (o:Int)∧(im==12 || im==13)=((o:Int)==64520 || (o:Int)==64521)∧o≠5∧o≠11∧o≠252∧o≠253:=by
 unfold qFs at h
 rw[if_pos rfl] at h
 simp only[Bool.and_eq_true,bne_iff_ne,ne_eq] at h
 obtain⟨k1,k2,k3,k4,k5,k6,k7⟩:=h
 exact⟨eq_of_beq k1,eq_of_beq k2,eq_of_beq k3,k4,k5,k6,k7⟩
theorem qG7 (o:Int)(h0:0≤o)(h1:o<65536):∃ q,qW.f 300 o=some q∧(q.2.2.2.2.2.2.2≠0→q.2.2.1=0):=by
 obtain⟨n,rfl⟩:=Int.eq_ofNat_of_zero_le h0
 rcases qHU n mDj with h|⟨_,h⟩
 ·obtain⟨q,hq,hk⟩:=qCk h
  exact⟨q,hq,fun he=>qGc hk he⟩
 ·exact⟨_,h,fun _=>rfl⟩
theorem qEH {r1 im r6:Int}{r2:ByteArray}{r4 r5:List Int}{r7:Bool}(h:(some ((0:Int),(⟨#[]⟩:ByteArray),(0:Int),([]:List Int),([]:List Int),(0:Int),false,(11:Int)))=some (r1,r2,im,r4,r5,r6,r7,(0:Int))):False:=by
 simp only[Option.some.injEq,Prod.mk.injEq] at h
 omega
theorem qI9 {o:Int}(h0:0≤o)(h1:o<65536){r1 im r6:Int}{r2:ByteArray}{r4 r5:List Int}{r7:Bool}(h:qW.f 300 o=some (r1,r2,im,r4,r5,r6,r7,0)):
 r1=o∧(im==1)=qw o∧(im==12 || im==13)=(o==64520 || o==64521)∧o≠5∧o≠11∧o≠252∧o≠253∧(o<256∨(64512≤o∧o<65024)):=by
 obtain⟨n,rfl⟩:=Int.eq_ofNat_of_zero_le h0
 rcases qHU n mDj with hk|⟨_,hk⟩
 ·have hr:(n:Int)<256∨(64512≤(n:Int)∧(n:Int)<65024):=by
   by_cases hc:(256≤(n:Int)∧(n:Int)<64512∨65024≤(n:Int)∧(n:Int)<65536)
   ·exact(qEH ((qD1 _ hc).symm.trans h)).elim
   ·omega
  obtain⟨q,hq,hk⟩:=qCk hk
  obtain rfl:=Option.some.inj (hq.symm.trans h)
  obtain⟨k1,k2,k3,k4,k5,k6,k7⟩:=qHE hk
  exact⟨k1,k2,k3,mDj,mDj,mDj,mDj,hr⟩
 ·exact(qEH (hk.symm.trans h)).elim
theorem qGo:∀(q:Int) (u:Nat),(q=252∨q=253)→u<256→op2 q (u:Int)=q*256+u:=by
 have k1:(List.range 256).all (fun u=>op2 252 (u:Int)==252*256+(u:Int))=true:=by decide +kernel
 have k2:(List.range 256).all (fun u=>op2 253 (u:Int)==253*256+(u:Int))=true:=by decide +kernel
 intro q u hq hu
 rcases hq with rfl|rfl
 ·exact eq_of_beq (yH k1 u hu)
 ·exact eq_of_beq (yH k2 u hu)
abbrev Rd_ (α:Type):=List Int→Int→Bool→Option (α × Int × Bool)
structure Bs (b:List Int):Prop where
 y:LebM.Bytes b
 le:b.length≤140737488351232
theorem Bs.take {b:List Int}(h:Bs b)(n:Nat):Bs (b.take n):=⟨LebM.bytes_take h.y n,Nat.le_trans (by rw[List.length_take];exact Nat.min_le_right _ _) h.le⟩
def At (b:List Int)(a:Int)(s:List Int):Prop:=∃ l r,b=l++s++r∧a=(l.length:Int)
theorem At.pos {b s:List Int}{a:Int}(h:At b a s):0≤a:=by
 obtain⟨l,r,_,rfl⟩:=h
 omega
theorem At.left {b s t:List Int}{a:Int}(h:At b a (s++t)):At b a s:=by
 obtain⟨l,r,rfl,rfl⟩:=h
 exact⟨l,t++r,mDp,rfl⟩
theorem At.right {b s t:List Int}{a:Int}(h:At b a (s++t)):At b (a+(s.length:Int)) t:=by
 obtain⟨l,r,rfl,rfl⟩:=h
 exact⟨l++s,r,mDp,by rw[List.length_append,Int.natCast_add]⟩
theorem At.le {b s:List Int}{a:Int}(h:At b a s):a+(s.length:Int)≤b.length:=by
 obtain⟨l,r,rfl,rfl⟩:=h
 rw[List.length_append,List.length_append,Int.natCast_add,Int.natCast_add]
 omega
theorem At.hd {b s:List Int}{a c:Int}(h:At b a (c::s)):a<b.length∧rd b a=c:=by
 have h1:=h.le
 rw[List.length_cons] at h1
 refine⟨mDj,?_⟩
 obtain⟨l,r,rfl,rfl⟩:=h
 have e:(l++(c::s)++r)=l++c::(s++r):=mDp
 rw[e,LebM.rd_get mDp]
 simp
structure Rdr {α:Type} (R:Rd_ α) (D:α→Prop) (P:α→List Int):Prop where
 pos:∀(b:List Int) (a:Int) (bad:Bool) (s:α) (e:Int) (bad':Bool),Bs b→0≤a→R b a bad=some (s,e,bad')→0≤e
 bad:∀(b:List Int) (a:Int),Bs b→0≤a→∃ s e,R b a true=some (s,e,true)
 bytes:∀(s:α),D s→LebM.Bytes (P s)
 tot:∀(b:List Int) (a:Int),Bs b→b.length≤1000000→0≤a→a≤b.length→∃ r,R b a false=some r
 back:∀(b:List Int) (a:Int) (s:α),Bs b→D s→At b a (P s)→R b a false=some (s,a+((P s).length:Int),false)
 short:∀(b:List Int) (a:Int) (s:α) (e:Int),Bs b→0≤a→a≤b.length→R b a false=some (s,e,false)→D s∧a+((P s).length:Int)≤e∧e≤b.length
 cut:∀(b:List Int) (a:Int) (s:α) (e:Int) (n:Nat),Bs b→0≤a→a≤b.length→a≤(n:Int)→R b a false=some (s,e,false)→(e≤(n:Int)→R (b.take n) a false=some (s,e,false))∧((n:Int)<e→∃ s' e',R (b.take n) a false=some (s',e',true))
theorem Rdr.congr {α:Type}{R R':Rd_ α}{D:α→Prop}{P:α→List Int}(h:Rdr R D P)(e:∀ b a bad,R' b a bad=R b a bad):Rdr R' D P:=by
 have:R'=R:=by funext b a bad;exact e b a bad
 rw[this];exact h
theorem Rdr.bind {α β:Type}{R1:Rd_ α}{D1:α→Prop}{P1:α→List Int}{R2:α→Rd_ β}{D2:α→β→Prop}{P2:α→β→List Int}(h1:Rdr R1 D1 P1)(h2:∀ x,Rdr (R2 x) (D2 x) (P2 x)):
 Rdr (fun b a bad=>(R1 b a bad).bind fun r=>(R2 r.1 b r.2.1 r.2.2).map fun q=>((r.1,q.1),q.2)) (fun s=>D1 s.1∧D2 s.1 s.2) (fun s=>P1 s.1++P2 s.1 s.2) where
 pos:=by
  intro b a bad s e bad' hb ha h
  obtain⟨⟨x,e1,b1⟩,k1,h⟩:=Option.bind_eq_some_iff.1 h
  obtain⟨⟨y,e2,b2⟩,k2,h⟩:=Option.map_eq_some_iff.1 h
  cases h
  exact(h2 x).pos _ _ _ _ _ _ hb (h1.pos _ _ _ _ _ _ hb ha k1) k2
 bad:=by
  intro b a hb ha
  obtain⟨x,e1,k1⟩:=h1.bad b a hb ha
  obtain⟨y,e2,k2⟩:=(h2 x).bad b e1 hb (h1.pos _ _ _ _ _ _ hb ha k1)
  exact⟨(x,y),e2,by simp only[k1,Option.bind_some,k2,Option.map_some]⟩
 bytes:=fun s hs=>LebM.bytes_app (h1.bytes s.1 hs.1) ((h2 s.1).bytes s.2 hs.2)
 tot:=by
  intro b a hb hl ha hab
  obtain⟨⟨x,e1,b1⟩,k1⟩:=h1.tot b a hb hl ha hab
  have p1:=h1.pos _ _ _ _ _ _ hb ha k1
  cases b1 with
  | true =>
    obtain⟨y,e2,k2⟩:=(h2 x).bad b e1 hb p1
    exact⟨((x,y),e2,true),by simp only[k1,Option.bind_some,k2,Option.map_some]⟩
  | false =>
    obtain⟨q,k2⟩:=(h2 x).tot b e1 hb hl p1 (h1.short b a x e1 hb ha hab k1).2.2
    exact⟨((x,q.1),q.2),by simp only[k1,Option.bind_some,k2,Option.map_some]⟩
 back:=by
  intro b a s hb hd hA
  simp only[h1.back b a s.1 hb hd.1 hA.left,Option.bind_some,(h2 s.1).back b _ s.2 hb hd.2 hA.right,Option.map_some]
  rw[List.length_append,Int.natCast_add,Int.add_assoc]
 short:=by
  intro b a s e hb ha hab h
  obtain⟨⟨x,e1,b1⟩,k1,h⟩:=Option.bind_eq_some_iff.1 h
  obtain⟨⟨y,e2,b2⟩,k2,h⟩:=Option.map_eq_some_iff.1 h
  simp only[Prod.mk.injEq] at h
  obtain⟨rfl,rfl,rfl⟩:=h
  have p1:=h1.pos _ _ _ _ _ _ hb ha k1
  cases b1 with
  | true =>
    obtain⟨y',e',k3⟩:=(h2 x).bad b e1 hb p1
    rw[k3] at k2
    cases k2
  | false =>
    obtain⟨d1,l1,m1⟩:=h1.short b a x e1 hb ha hab k1
    obtain⟨d2,l2,m2⟩:=(h2 x).short b e1 y e2 hb p1 m1 k2
    refine⟨⟨d1,d2⟩,?_,m2⟩
    show a+((P1 x++P2 x y).length:Int)≤e2
    rw[List.length_append,Int.natCast_add]
    omega
 cut:=by
  intro b a s e n hb ha hab han h
  obtain⟨⟨x,e1,b1⟩,k1,h⟩:=Option.bind_eq_some_iff.1 h
  obtain⟨⟨y,e2,b2⟩,k2,h⟩:=Option.map_eq_some_iff.1 h
  simp only[Prod.mk.injEq] at h
  obtain⟨rfl,rfl,rfl⟩:=h
  have p1:=h1.pos _ _ _ _ _ _ hb ha k1
  cases b1 with
  | true =>
    obtain⟨y',e',k3⟩:=(h2 x).bad b e1 hb p1
    rw[k3] at k2
    cases k2
  | false =>
    obtain⟨d1,l1,m1⟩:=h1.short b a x e1 hb ha hab k1
    obtain⟨d2,l2,m2⟩:=(h2 x).short b e1 y e2 hb p1 m1 k2
    obtain⟨c1,c2⟩:=h1.cut b a x e1 n hb ha hab han k1
    have c34:=fun(hm:e1≤n)=>(h2 x).cut b e1 y e2 n hb p1 m1 hm k2
    refine⟨fun hn=>?_,fun hn=>?_⟩
    ·have hm:e1≤n:=mDj
     simp only[c1 hm,Option.bind_some,(c34 hm).1 hn,Option.map_some]
    ·by_cases hm:e1≤n
     ·obtain⟨y',e',k3⟩:=(c34 hm).2 hn
      exact⟨(x,y'),e',by simp only[c1 hm,Option.bind_some,k3,Option.map_some]⟩
     ·obtain⟨x',e',k3⟩:=c2 mDj
      obtain⟨y',e'',k4⟩:=(h2 x').bad (b.take n) e' (hb.take n) (h1.pos _ _ _ _ _ _ (hb.take n) ha k3)
      exact⟨(x',y'),e'',by simp only[k3,Option.bind_some,k4,Option.map_some]⟩
theorem Rdr.map {α β:Type}{R:Rd_ α}{D:α→Prop}{P:α→List Int}(h:Rdr R D P)(f:α→β){D':β→Prop}{P':β→List Int}(hP:∀ x,D x→P' (f x)=P x)(hD:∀ x,D x→D' (f x))(hf:∀ y,D' y→∃ x,D x∧f x=y):
 Rdr (fun b a bad=>(R b a bad).map fun r=>(f r.1,r.2)) D' P' where
 pos:=by
  intro b a bad s e bad' hb ha k
  obtain⟨⟨x,e1,b1⟩,k1,k⟩:=Option.map_eq_some_iff.1 k
  cases k
  exact h.pos _ _ _ _ _ _ hb ha k1
 bad:=by
  intro b a hb ha
  obtain⟨x,e1,k1⟩:=h.bad b a hb ha
  exact⟨f x,e1,by simp only[k1,Option.map_some]⟩
 bytes:=by
  intro s hs
  obtain⟨x,hx,rfl⟩:=hf s hs
  rw[hP x hx]
  exact h.bytes x hx
 tot:=by
  intro b a hb hl ha hab
  obtain⟨r,k1⟩:=h.tot b a hb hl ha hab
  exact⟨(f r.1,r.2),by simp only[k1,Option.map_some]⟩
 back:=by
  intro b a s hb hd hA
  obtain⟨x,dx,rfl⟩:=hf s hd
  rw[hP x dx] at hA ⊢
  simp only[h.back b a x hb dx hA,Option.map_some]
 short:=by
  intro b a s e hb ha hab k
  obtain⟨⟨x,e1,b1⟩,k1,k⟩:=Option.map_eq_some_iff.1 k
  simp only[Prod.mk.injEq] at k
  obtain⟨rfl,rfl,rfl⟩:=k
  obtain⟨d1,l1,m1⟩:=h.short b a x e1 hb ha hab k1
  exact⟨hD x d1,by rw[hP x d1];exact l1,m1⟩
 cut:=by
  intro b a s e n hb ha hab han k
  obtain⟨⟨x,e1,b1⟩,k1,k⟩:=Option.map_eq_some_iff.1 k
  simp only[Prod.mk.injEq] at k
  obtain⟨rfl,rfl,rfl⟩:=k
  obtain⟨c1,c2⟩:=h.cut b a x e1 n hb ha hab han k1
  refine⟨fun hn=>by simp only[c1 hn,Option.map_some],fun hn=>?_⟩
  obtain⟨x',e',k3⟩:=c2 hn
  exact⟨f x',e',by simp only[k3,Option.map_some]⟩
theorem Rdr.check {α:Type}{R:Rd_ α}{D:α→Prop}{P:α→List Int}(h:Rdr R D P)(c:α→Bool):
 Rdr (fun b a bad=>(R b a bad).map fun r=>(r.1,r.2.1,r.2.2 || !c r.1)) (fun s=>D s∧c s=true) P where
 pos:=by
  intro b a bad s e bad' hb ha k
  obtain⟨⟨x,e1,b1⟩,k1,k⟩:=Option.map_eq_some_iff.1 k
  cases k
  exact h.pos _ _ _ _ _ _ hb ha k1
 bad:=by
  intro b a hb ha
  obtain⟨x,e1,k1⟩:=h.bad b a hb ha
  exact⟨x,e1,by simp only[k1,Option.map_some,Bool.true_or]⟩
 bytes:=fun s hs=>h.bytes s hs.1
 tot:=by
  intro b a hb hl ha hab
  obtain⟨r,k1⟩:=h.tot b a hb hl ha hab
  refine⟨(r.1,r.2.1,r.2.2 || !c r.1),?_⟩
  simp only[k1,Option.map_some]
 back:=by
  intro b a s hb hd hA
  simp only[h.back b a s hb hd.1 hA,Option.map_some,hd.2,Bool.not_true,Bool.or_false]
 short:=by
  intro b a s e hb ha hab k
  obtain⟨⟨x,e1,b1⟩,k1,k⟩:=Option.map_eq_some_iff.1 k
  simp only[Prod.mk.injEq,Bool.or_eq_false_iff,Bool.not_eq_false'] at k
  obtain⟨rfl,rfl,rfl,hc⟩:=k
  obtain⟨d1,l1,m1⟩:=h.short b a x e1 hb ha hab k1
  exact⟨⟨d1,hc⟩,l1,m1⟩
 cut:=by
  intro b a s e n hb ha hab han k
  obtain⟨⟨x,e1,b1⟩,k1,k⟩:=Option.map_eq_some_iff.1 k
  simp only[Prod.mk.injEq,Bool.or_eq_false_iff,Bool.not_eq_false'] at k
  obtain⟨rfl,rfl,rfl,hc⟩:=k
  obtain⟨c1,c2⟩:=h.cut b a x e1 n hb ha hab han k1
  refine⟨fun hn=>by simp only[c1 hn,Option.map_some,hc,Bool.not_true,Bool.or_false],fun hn=>?_⟩
  obtain⟨x',e',k3⟩:=c2 hn
  exact⟨x',e',by simp only[k3,Option.map_some,Bool.true_or]⟩
theorem Rdr.ret {α:Type}(x:α):Rdr (fun _ a bad=>some (x,a,bad)) (fun s=>s=x) (fun _=>[]) where
 pos:=by intro b a bad s e bad' _ ha h;cases h;exact ha
 bad:=fun b a _ _=>⟨x,a,rfl⟩
 bytes:=fun _ _ x h=>by cases h
 tot:=fun b a _ _ _ _=>⟨_,rfl⟩
 back:=by intro b a s _ hd _;rw[hd];simp
 short:=by
  intro b a s e hb ha hab h
  cases h
  exact⟨rfl,mDp,hab⟩
 cut:=by intro b a s e n _ _ _ han h;cases h;exact⟨fun _=>rfl,fun hn=>by omega⟩
theorem qC0 {b:List Int}{n:Nat}{a:Int}(h0:0≤a)(h:a<n)(hb:a<b.length):rd (b.take n) a=rd b a:=by
 obtain⟨i,rfl⟩:=Int.eq_ofNat_of_zero_le h0
 rw[LebM.rd_get (by rw[List.length_take];omega),LebM.rd_get mDj,List.getElem_take]
theorem qEJ {b:List Int}(hb:LebM.Bytes b){a:Int}(h0:0≤a)(h:a<b.length):0≤rd b a∧rd b a<256:=by
 obtain⟨i,rfl⟩:=Int.eq_ofNat_of_zero_le h0
 rw[LebM.rd_get mDj]
 exact hb _ (List.getElem_mem _)
theorem jc {b:List Int}{a:Int}(h:a<b.length):q8 b a false=(rd b a,a+1,false):=if_pos ⟨rfl,h⟩
theorem xN {b:List Int}{a:Int}(h:¬ a<b.length):q8 b a false=(0,a,true):=if_neg (fun k=>h k.2)
theorem qAS (b:List Int)(a:Int):q8 b a true=(0,a,true):=if_neg (fun k=>Bool.noConfusion k.1)
theorem yR:Rdr (fun b a bad=>some (q8 b a bad)) (fun c=>0≤c∧c<256) (fun c=>[c]) where
 pos:=by
  intro b a bad s e bad' _ ha h
  have h':=xP (b:=b) (at_:=a) (bad:=bad) ha
  rw[Option.some.inj h] at h'
  exact h'
 bad:=fun b a _ _=>⟨0,a,congrArg some (qAS b a)⟩
 bytes:=fun s hs x hx=>by rw[List.mem_singleton] at hx;rw[hx];exact hs
 tot:=fun b a _ _ _ _=>⟨_,rfl⟩
 back:=by
  intro b a s hb hd hA
  obtain⟨h1,h2⟩:=hA.hd
  rw[jc h1,h2]
  rfl
 short:=by
  intro b a s e hb ha hab h
  by_cases hlt:a<b.length
  ·rw[jc hlt] at h
   cases h
   exact⟨qEJ hb.y ha hlt,Int.le_refl _,hlt⟩
  ·rw[xN hlt] at h
   cases h
 cut:=by
  intro b a s e n hb ha hab han h
  by_cases hlt:a<b.length
  ·rw[jc hlt] at h
   cases h
   refine⟨fun hn=>?_,fun hn=>?_⟩
   ·rw[jc (by rw[List.length_take];omega),qC0 ha mDj hlt]
   ·rw[xN (by rw[List.length_take];omega)]
    exact⟨_,_,rfl⟩
  ·rw[xN hlt] at h
   cases h
theorem qB8:∀(m:Nat) (l:List Int) (j n:Nat),LebM.cnt m l=some n→(n≤j→LebM.cnt m (l.take j)=some n)∧(j<n→LebM.cnt m (l.take j)=none)
 | 0,l,j,n,h=>by simp[LebM.cnt] at h
 | m+1,[],j,n,h=>by simp[LebM.cnt] at h
 | m+1,c::l,0,n,h=>by
   have:=LebM.cnt_bd h
   exact⟨fun hj=>by omega,fun _=>rfl⟩
 | m+1,c::l,j+1,n,h=>by
   rw[List.take_succ_cons]
   simp only[LebM.cnt] at h ⊢
   by_cases hc:c<128
   ·rw[if_pos hc] at h ⊢
    cases h
    exact⟨fun _=>rfl,fun hj=>by omega⟩
   ·rw[if_neg hc] at h ⊢
    obtain⟨k,hk,rfl⟩:=Option.map_eq_some_iff.1 h
    obtain⟨c1,c2⟩:=qB8 m l j k hk
    exact⟨fun hj=>by rw[c1 mDj];rfl,fun hj=>by rw[c2 mDj];rfl⟩
theorem yu {l:List Int}{n j:Nat}(h:n≤j):LebM.dig (l.take j) n=LebM.dig l n:=by
 simp only[LebM.dig,List.take_take,Nat.min_eq_left h]
theorem jR (l:List Int)(n a:Nat):(l.take n).drop a=(l.drop a).take (n - a):=List.drop_take
theorem qJo {b:List Int}{a w:Int}{q:Int × Int × Int}(h:LebM.Us b a w=q)(ha:0≤a):0≤q.2.1:=by
 unfold LebM.Us at h
 split at h
 ·split at h
  ·rw[← h];exact Int.le_refl 0
  ·split at h
   ·rw[← h];show 0≤a+_;omega
   ·rw[← h];exact Int.le_refl 0
 ·rw[← h];exact Int.le_refl 0
theorem qJI {b:List Int}{a w:Int}{q:Int × Int × Int}(h:LebM.Ss b a w=q)(ha:0≤a):0≤q.2.1:=by
 unfold LebM.Ss at h
 split at h
 ·split at h
  ·rw[← h];exact Int.le_refl 0
  ·simp only at h
   split at h
   ·rw[← h];show 0≤a+_;omega
   ·rw[← h];exact Int.le_refl 0
 ·rw[← h];exact Int.le_refl 0
theorem qEt (K:Nat)(b:List Int)(a:Int):uF K b a true=some (0,a,true):=if_pos rfl
theorem qBY {K:Nat}(hK:40≤K){b:List Int}(hb:Bs b)(a:Int):uF K b a false=some (if (LebM.Us b a 32).2.2=0 then (IntKind.u32.wrap (LebM.Us b a 32).1,(LebM.Us b a 32).2.1,false) else (0,a,true)):=by
 unfold uF
 rw[if_neg mDp,LebM.U_ev hb.y hb.le a 32 K hK]
 rfl
theorem zr {x:Int}(h0:0≤x)(h1:x<4294967296):IntKind.u32.wrap x=x:=by
 show x % 4294967296=x
 omega
def Du (x:Int):Prop:=0≤x∧x<4294967296
theorem qCs {K:Nat}(hK:40≤K):Rdr (uF K) Du (LebM.putU 9) where
 pos:=by
  intro b a bad s e bad' hb ha h
  cases bad with
  | true =>
    rw[qEt] at h
    cases h
    exact ha
  | false =>
    rw[qBY hK hb] at h
    have h:=Option.some.inj h
    split at h
    ·cases h
     exact qJo rfl ha
    ·cases h
     exact ha
 bad:=fun b a _ _=>⟨0,a,qEt K b a⟩
 bytes:=fun s hs=>LebM.putU_bytes 9 s hs.1 (LebM.u64_lt (by have:=hs.2;omega))
 tot:=fun b a hb _ _ _=>⟨_,qBY hK hb a⟩
 back:=by
  intro b a s hb hd hA
  rw[qBY hK hb]
  obtain⟨l,r,rfl,rfl⟩:=hA
  rw[(LebM.Us_put (x:=s) (w:=32) mDl mDl hd.1 hd.2 l r).1,if_pos rfl,zr hd.1 hd.2]
 short:=by
  intro b a s e hb ha hab h
  rw[qBY hK hb] at h
  have h:=Option.some.inj h
  by_cases h0:(LebM.Us b a 32).2.2=0
  ·rw[if_pos h0] at h
   obtain⟨_,_,_,_,n,hc,hv,he⟩:=LebM.Us_ok h0
   have hn:=LebM.cnt_bd hc
   have hdg:=LebM.dig_digits (b.drop a.toNat) n
   have hlen:=LebM.dig_length hn.2.2
   have v0:=LebM.val_nonneg hdg
   have v1:=LebM.val_lt hdg
   rw[hlen] at v1
   rw[he] at h
   simp only[Prod.mk.injEq] at h
   obtain⟨rfl,rfl,_⟩:=h
   have hv':LebM.val (LebM.dig (b.drop a.toNat) n)<4294967296:=hv
   rw[zr v0 hv']
   have hs:=LebM.putU_short 9 _ n v0 v1 hn.1
   have hd:=hn.2.2
   rw[List.length_drop] at hd
   exact⟨⟨v0,hv'⟩,mDj,mDj⟩
  ·rw[if_neg h0] at h
   cases h
 cut:=by
  intro b a s e n hb ha hab han h
  rw[qBY hK hb] at h
  have h:=Option.some.inj h
  by_cases h0:(LebM.Us b a 32).2.2=0
  ·rw[if_pos h0] at h
   obtain⟨_,_,_,_,m,hc,hv,he⟩:=LebM.Us_ok h0
   have hm:=LebM.cnt_bd hc
   have hd:=hm.2.2
   rw[List.length_drop] at hd
   rw[he] at h
   simp only[Prod.mk.injEq] at h
   obtain⟨rfl,rfl,_⟩:=h
   obtain⟨c1,c2⟩:=qB8 _ _ (n - a.toNat) m hc
   have hal:a≤(b.take n).length:=by rw[List.length_take];omega
   rw[qBY hK (hb.take n)]
   refine⟨fun hn=>?_,fun hn=>?_⟩
   ·have e1:=LebM.Us_mk (l:=b.take n) (a:=a) (w:=32) (n:=m) mDl mDl ha hal (by rw[jR];exact c1 mDj) (by rw[jR,yu mDj];exact hv)
    rw[jR,yu mDj] at e1
    rw[e1,if_pos rfl]
   ·have e1:(LebM.Us (b.take n) a 32).2.2=4:=by
     unfold LebM.Us
     rw[if_pos ⟨mDl,mDl,ha,hal⟩,jR,c2 mDj]
    rw[if_neg (by rw[e1];decide)]
    exact⟨_,_,rfl⟩
  ·rw[if_neg h0] at h
   cases h
theorem qEr (K:Nat)(b:List Int)(a w:Int):sF K b a w true=some (0,a,true):=if_pos rfl
theorem qAQ {K:Nat}(hK:40≤K){b:List Int}(hb:Bs b)(a w:Int):sF K b a w false=some (if (LebM.Ss b a w).2.2=0 then ((LebM.Ss b a w).1,(LebM.Ss b a w).2.1,false) else (0,a,true)):=by
 unfold sF
 rw[if_neg mDp,LebM.S_ev hb.y hb.le a w K hK]
 rfl
def Dsg (w:Int)(x:Int):Prop:=-(2 ^ (w.toNat - 1))≤x∧x<2 ^ (w.toNat - 1)
theorem qCp {l:List Int}{n j:Nat}(h:n≤j)(h1:1≤n):LebM.neg (l.take j) n=LebM.neg l n:=by
 unfold LebM.neg
 rw[List.getD_eq_getElem?_getD,List.getD_eq_getElem?_getD,List.getElem?_take_of_lt mDj]
theorem qGM {K:Nat}(hK:40≤K){w:Int}(w1:1≤w)(w2:w≤64):Rdr (fun b a bad=>sF K b a w bad) (Dsg w) (LebM.putS 9) where
 pos:=by
  intro b a bad s e bad' hb ha h
  cases bad with
  | true =>
    rw[qEr] at h
    cases h
    exact ha
  | false =>
    rw[qAQ hK hb] at h
    have h:=Option.some.inj h
    split at h
    ·cases h
     exact qJI rfl ha
    ·cases h
     exact ha
 bad:=fun b a _ _=>⟨0,a,qEr K b a w⟩
 bytes:=fun s _=>LebM.putS_bytes 9 s
 tot:=fun b a hb _ _ _=>⟨_,qAQ hK hb a w⟩
 back:=by
  intro b a s hb hd hA
  rw[qAQ hK hb]
  obtain⟨l,r,rfl,rfl⟩:=hA
  rw[(LebM.Ss_put (x:=s) (w:=w) w1 w2 hd.1 hd.2 l r).1,if_pos rfl]
 short:=by
  intro b a s e hb ha hab h
  rw[qAQ hK hb] at h
  have h:=Option.some.inj h
  by_cases h0:(LebM.Ss b a w).2.2=0
  ·rw[if_pos h0] at h
   obtain⟨_,_,_,_,n,hc,hv,he⟩:=LebM.Ss_ok h0
   have hn:=LebM.cnt_bd hc
   have hdg:=LebM.turn_digits (LebM.neg (b.drop a.toNat) n) (LebM.dig_digits (b.drop a.toNat) n)
   have hlen:=LebM.dig_length hn.2.2
   have v0:=LebM.val_nonneg hdg
   rw[he] at h
   simp only[Prod.mk.injEq] at h
   obtain⟨rfl,rfl,_⟩:=h
   have hd:=hn.2.2
   rw[List.length_drop] at hd
   have v1:LebM.val (LebM.turn (LebM.neg (b.drop a.toNat) n) (LebM.dig (b.drop a.toNat) n))<64*128 ^ (n - 1):=by
    refine LebM.val_last hdg (n - 1) (by rw[LebM.turn_length,hlen];omega) ?_
    rw[LebM.turn_get _ (by rw[hlen];omega),LebM.dig_get hn.2.2 mDj]
    unfold LebM.neg
    rw[List.getD_eq_getElem?_getD,List.getElem?_eq_getElem mDj]
    simp only[Option.getD_some,decide_eq_true_eq]
    split <;> omega
   have hs:=fun x h1 h2=>LebM.putS_short 9 x n h1 h2 hn.1
   unfold LebM.sgn
   refine⟨?_,?_,mDj⟩
   ·unfold Dsg
    split <;> omega
   ·split
    ·have:=hs (-(LebM.val (LebM.turn (LebM.neg (b.drop a.toNat) n) (LebM.dig (b.drop a.toNat) n))) - 1) mDj mDj
     omega
    ·have:=hs (LebM.val (LebM.turn (LebM.neg (b.drop a.toNat) n) (LebM.dig (b.drop a.toNat) n))) mDj mDj
     omega
  ·rw[if_neg h0] at h
   cases h
 cut:=by
  intro b a s e n hb ha hab han h
  rw[qAQ hK hb] at h
  have h:=Option.some.inj h
  by_cases h0:(LebM.Ss b a w).2.2=0
  ·rw[if_pos h0] at h
   obtain⟨_,_,_,_,m,hc,hv,he⟩:=LebM.Ss_ok h0
   have hm:=LebM.cnt_bd hc
   have hd:=hm.2.2
   rw[List.length_drop] at hd
   rw[he] at h
   simp only[Prod.mk.injEq] at h
   obtain⟨rfl,rfl,_⟩:=h
   obtain⟨c1,c2⟩:=qB8 _ _ (n - a.toNat) m hc
   have hal:a≤(b.take n).length:=by rw[List.length_take];omega
   rw[qAQ hK (hb.take n)]
   refine⟨fun hn=>?_,fun hn=>?_⟩
   ·have e1:=LebM.Ss_mk (l:=b.take n) (a:=a) (w:=w) (n:=m) w1 w2 ha hal (by rw[jR];exact c1 mDj) (by rw[jR,yu mDj,qCp mDj mDj];exact hv)
    rw[jR,yu mDj,qCp mDj mDj] at e1
    rw[e1,if_pos rfl]
   ·have e1:(LebM.Ss (b.take n) a w).2.2=4:=by
     unfold LebM.Ss
     rw[if_pos ⟨w1,w2,ha,hal⟩,jR,c2 mDj]
    rw[if_neg (by rw[e1];decide)]
    exact⟨_,_,rfl⟩
  ·rw[if_neg h0] at h
   cases h
theorem qAH:Rdr (fun b a bad=>some ((),zY b a bad)) (fun _=>True) (fun _=>[0]):=by
 refine(((yR.check (fun c=>c==0)).map (fun _=>()) (D':=fun _=>True) (P':=fun _=>[0]) ?_ (fun _ _=>trivial) ?_).congr ?_)
 ·intro x hx
  rw[eq_of_beq hx.2]
 ·intro y _
  exact⟨0,⟨mDl,mDl⟩,rfl⟩
 ·intro b a bad
  simp only[Option.map_some,zY]
  rw[Bool.or_comm]
  rfl
theorem qEU:Rdr (fun b a bad=>some (qAE b a bad)) (fun c=>(0≤c∧c<256)∧tyB c=true) (fun c=>[c]):=by
 refine(yR.check tyB).congr ?_
 intro b a bad
 rfl
def qDv {α:Type}(R:Rd_ α):Nat→Rd_ (List α)
 | 0,_,a,bad=>some ([],a,bad)
 | n+1,b,a,bad=>(R b a bad).bind fun r=>(qDv R n b r.2.1 r.2.2).map fun q=>(r.1::q.1,q.2)
theorem Rdr.rep {α:Type}{R:Rd_ α}{D:α→Prop}{P:α→List Int}(h:Rdr R D P):∀ n,Rdr (qDv R n) (fun l=>l.length=n∧∀ x ∈ l,D x) (fun l=>l.flatMap P)
 | 0=>by
   refine((Rdr.ret ([]:List α)).map id ?_ ?_ ?_).congr ?_
   ·intro x hx;rw[hx];rfl
   ·intro x hx;rw[hx];exact⟨rfl,(fun _ h=>by cases h)⟩
   ·intro y hy;exact⟨[],rfl,(List.eq_nil_of_length_eq_zero hy.1).symm⟩
   ·intro b a bad;rfl
 | n+1=>by
   refine((h.bind (fun _=>h.rep n)).map (fun q=>q.1::q.2) ?_ ?_ ?_).congr ?_
   ·intro x hx;rfl
   ·intro x hx
    refine⟨by rw[List.length_cons,hx.2.1],?_⟩
    intro y hy
    rcases List.mem_cons.1 hy with rfl|hy
    ·exact hx.1
    ·exact hx.2.2 y hy
   ·intro y hy
    cases y with
    | nil=>exact absurd hy.1 mDp
    | cons c l=>exact⟨(c,l),⟨hy.2 c (List.mem_cons_self ..),Nat.succ.inj hy.1,fun x hx=>hy.2 x (List.mem_cons_of_mem _ hx)⟩,rfl⟩
   ·intro b a bad
    rw[qDv]
    cases R b a bad with
    | none=>rfl
    | some r=>simp only[Option.bind_some,Option.map_map];rfl
theorem qDY (l:List Int):l.flatMap (fun c=>[c])=l:=by
 induction l with
 | nil=>rfl
 | cons c l ih=>rw[List.flatMap_cons,ih];rfl
theorem qDs (b:List Int):∀(m i:Nat) (a:Int) (bad:Bool) (p v:List Int),p.length=i→v.length=m→∃ l,qDv (fun b a bad=>some (q8 b a bad)) m b a bad=some (l,(yY b m i a bad (p++v)).2)∧(yY b m i a bad (p++v)).1=p++l
 | 0,i,a,bad,p,v,hp,hv=>by
   obtain rfl:=List.eq_nil_of_length_eq_zero hv
   exact⟨[],rfl,rfl⟩
 | m+1,i,a,bad,p,v,hp,hv=>by
   cases v with
   | nil=>exact absurd hv mDp
   | cons c v =>
     have e:(p++c::v).set i (q8 b a bad).1=(p ++ [(q8 b a bad).1])++v:=by
      rw[List.set_append_right _ _ mDj,hp,Nat.sub_self]
      simp
     obtain⟨l,h1,h2⟩:=qDs b m (i+1) (q8 b a bad).2.1 (q8 b a bad).2.2 (p ++ [(q8 b a bad).1]) v (by simp[hp]) (by simpa using hv)
     refine⟨(q8 b a bad).1::l,?_,?_⟩
     ·rw[qDv,yY,e]
      simp only[Option.bind_some,h1,Option.map_some]
     ·rw[yY,e,h2]
      simp
def Dv (n:Nat)(v:List Int):Prop:=v.length=n∧∀ x ∈ v,0≤x∧x<256
theorem qHu:Rdr (fun b a bad=>some (yY b 16 0 a bad zI.v)) (Dv 16) (fun v=>v):=by
 refine((yR.rep 16).map id (D':=Dv 16) (P':=fun v=>v) (fun x _=>(qDY x).symm) (fun x hx=>hx) (fun y hy=>⟨y,hy,rfl⟩)).congr ?_
 intro b a bad
 obtain⟨l,h1,h2⟩:=qDs b 16 0 a bad [] zI.v rfl rfl
 rw[List.nil_append] at h1 h2
 rw[h1,Option.map_some]
 show some _=some (l,(yY b 16 0 a bad zI.v).2)
 rw[← show(yY b 16 0 a bad zI.v).1=l from h2]
def yh:Nat→Int→List Int
 | 0,_=>[]
 | m+1,x=>x % 256::yh m (x / 256)
def ofB:List Int→Int
 | []=>0
 | c::l=>c+256*ofB l
theorem qGy:∀(l:List Int),(∀ x ∈ l,0≤x∧x<256)→0≤ofB l∧ofB l<256 ^ l.length
 | [],_=>by simp[ofB]
 | c::l,h=>by
   have h1:=h c (List.mem_cons_self ..)
   have h2:=qGy l (fun x hx=>h x (List.mem_cons_of_mem _ hx))
   rw[ofB,List.length_cons,Int.pow_succ]
   omega
theorem qDn:∀(l:List Int),(∀ x ∈ l,0≤x∧x<256)→yh l.length (ofB l)=l
 | [],_=>rfl
 | c::l,h=>by
   have h1:=h c (List.mem_cons_self ..)
   rw[List.length_cons,yh,ofB]
   have e1:(c+256*ofB l) % 256=c:=mDj
   have e2:(c+256*ofB l) / 256=ofB l:=mDj
   rw[e1,e2,qDn l (fun x hx=>h x (List.mem_cons_of_mem _ hx))]
theorem qAz:∀(m:Nat) (x:Int),(yh m x).length=m
 | 0,_=>rfl
 | m+1,x=>by rw[yh,List.length_cons,qAz]
theorem qCw:∀(m:Nat) (x:Int),∀ c ∈ yh m x,0≤c∧c<256
 | 0,_,c,h=>by cases h
 | m+1,x,c,h=>by
   rcases List.mem_cons.1 h with rfl|h
   ·omega
   ·exact qCw m _ c h
theorem qDL:∀(m:Nat) (x:Int),0≤x→x<256 ^ m→ofB (yh m x)=x
 | 0,x,h0,h1=>by
   rw[Int.pow_zero] at h1
   rw[yh,ofB]
   omega
 | m+1,x,h0,h1=>by
   rw[Int.pow_succ] at h1
   rw[yh,ofB,qDL m (x / 256) mDj mDj]
   omega
theorem qDl (i:Nat):(256:Int) ^ i=2 ^ (8*i):=by rw[Int.pow_mul];rfl
theorem jy {b:List Int}(hb:LebM.Bytes b){a:Int}(h0:0≤a)(bad:Bool):0≤(q8 b a bad).1∧(q8 b a bad).1<256:=by
 unfold q8
 split
 ·next h=>exact qEJ hb h0 h.2
 ·exact⟨Int.le_refl 0,show(0:Int)<256 by decide⟩
theorem qDF {b:List Int}(hb:LebM.Bytes b):∀(m i:Nat) (x a:Int) (bad:Bool),i+m≤8→0≤a→0≤x→x<256 ^ i→∃ l,qDv (fun b a bad=>some (q8 b a bad)) m b a bad=some (l,(xH b m i x a bad).2)∧(xH b m i x a bad).1=x+256 ^ i*ofB l
 | 0,i,x,a,bad,hi,ha,h0,hx=>⟨[],rfl,by simp[xH,ofB]⟩
 | m+1,i,x,a,bad,hi,ha,h0,hx=>by
   obtain⟨c0,c1⟩:=jy hb ha bad
   have ha2:=xP (b:=b) (bad:=bad) ha
   generalize hq:q8 b a bad=q at *
   obtain⟨c,a2,bad2⟩:=q
   simp only at c0 c1 ha2
   have hp:(256:Int) ^ i*256≤18446744073709551616:=by
    have h8:(2:Int) ^ (8*(i+1))≤2 ^ 64:=LebM.p2_le mDj
    rw[← qDl,Int.pow_succ] at h8
    exact h8
   have hpp:(0:Int)<256 ^ i:=by
    rw[qDl]
    exact Int.pow_pos mDl
   have hm:c*256 ^ i≤255*256 ^ i:=Int.mul_le_mul_of_nonneg_right mDj (Int.le_of_lt hpp)
   have hn:0≤c*256 ^ i:=Int.mul_nonneg c0 (Int.le_of_lt hpp)
   have e1:IntKind.u64.wrap c=c:=LebM.u64w c0 mDj
   have e2:IntKind.u64.wrap (c*2 ^ (8*i))=c*2 ^ (8*i):=by
    rw[← qDl]
    exact LebM.u64w hn mDj
   have e3:bits .or .u64 x (c*2 ^ (8*i))=x+c*256 ^ i:=by
    rw[LebM.orAdd c (8*i) h0 (by rw[← qDl];exact hx) c0 (by rw[← qDl];omega),← qDl]
   obtain⟨l,k1,k2⟩:=qDF hb m (i+1) (x+c*256 ^ i) a2 bad2 mDj ha2 mDj (by rw[Int.pow_succ];omega)
   refine⟨c::l,?_,?_⟩
   ·rw[qDv,xH]
    simp only[hq,Option.bind_some]
    rw[e1,e2,e3,k1]
    rfl
   ·rw[xH]
    simp only[hq]
    rw[e1,e2,e3,k2,ofB,Int.pow_succ,Int.mul_add,Int.mul_comm c,← Int.mul_assoc]
    omega
def Dl (m:Nat)(x:Int):Prop:=0≤x∧x<256 ^ m
theorem qHt (m:Nat):Rdr (fun b a bad=>(qDv (fun b a bad=>some (q8 b a bad)) m b a bad).map fun r=>(ofB r.1,r.2)) (Dl m) (yh m):=by
 refine(yR.rep m).map ofB ?_ ?_ ?_
 ·intro x hx
  show yh m (ofB x)=_
  rw[qDY,← hx.1]
  exact qDn x hx.2
 ·intro x hx
  have:=qGy x hx.2
  rw[hx.1] at this
  exact this
 ·intro y hy
  exact⟨yh m y,⟨qAz m y,qCw m y⟩,qDL m y hy.1 hy.2⟩
theorem Rdr.on {α:Type}{R R':Rd_ α}{D:α→Prop}{P:α→List Int}(h:Rdr R D P)(e:∀ b a bad,Bs b→0≤a→R' b a bad=R b a bad):Rdr R' D P where
 pos:=fun b a bad s e' bad' hb ha k=>h.pos b a bad s e' bad' hb ha (by rw[← e b a bad hb ha];exact k)
 bad:=fun b a hb ha=>by rw[e b a true hb ha];exact h.bad b a hb ha
 bytes:=h.bytes
 tot:=fun b a hb hl ha hab=>by rw[e b a false hb ha];exact h.tot b a hb hl ha hab
 back:=fun b a s hb hd hA=>by rw[e b a false hb hA.pos];exact h.back b a s hb hd hA
 short:=fun b a s e' hb ha hab k=>h.short b a s e' hb ha hab (by rw[← e b a false hb ha];exact k)
 cut:=fun b a s e' n hb ha hab han k=>by
  rw[e (b.take n) a false (hb.take n) ha]
  exact h.cut b a s e' n hb ha hab han (by rw[← e b a false hb ha];exact k)
theorem qEM (m:Nat)(hm:m≤8):Rdr (fun b a bad=>some (xH b m 0 0 a bad)) (Dl m) (yh m):=by
 refine(qHt m).on ?_
 intro b a bad hb ha
 obtain⟨l,h1,h2⟩:=qDF hb.y m 0 0 a bad mDj ha (Int.le_refl 0) mDl
 rw[h1]
 show some _=some (ofB l,(xH b m 0 0 a bad).2)
 rw[← show(xH b m 0 0 a bad).1=ofB l by rw[h2];simp]
def gL (R:Rd_ Int)(b:List Int):Nat→Int→Int→List Int→Int→Bool→Option (List Int × Int × Bool)
 | 0,_,_,_,_,_=>none
 | k+1,n,i,l,a,bad=>if i<n∧bad=false then (if l.length<1000000000000 then (R b a bad).bind (fun r=>gL R b k n (i+1) (l ++ [r.1]) r.2.1 r.2.2) else none) else some (l,a,bad)
theorem qCE (K:Nat)(b:List Int):∀(k:Nat) (n i:Int) (l:List Int) (a:Int) (bad:Bool),xx K b k n i l a bad=gL (uF K) b k n i l a bad
 | 0,_,_,_,_,_=>rfl
 | k+1,n,i,l,a,bad=>by
   rw[xx,gL]
   congr 1
   congr 1
   congr 1
   funext r
   exact qCE K b k n _ _ _ _
theorem qCr (K:Nat)(b:List Int):∀(k:Nat) (n i:Int) (l:List Int) (a:Int) (bad:Bool),xw K b k n i l a bad=gL (fun b a bad=>some (qAE b a bad)) b k n i l a bad
 | 0,_,_,_,_,_=>rfl
 | k+1,n,i,l,a,bad=>by
   rw[xw,gL]
   congr 1
   congr 1
   congr 1
   funext r
   exact qCr K b k n _ _ _ _
theorem qB2 (R:Rd_ Int)(b:List Int)(k:Nat)(n i:Int)(l:List Int)(a:Int):gL R b (k+1) n i l a true=some (l,a,true):=by
 rw[gL,if_neg (fun h=>Bool.noConfusion h.2)]
theorem qD0 {R:Rd_ Int}{D:Int→Prop}{P:Int→List Int}(h:Rdr R D P){b:List Int}(hb:Bs b):∀(k:Nat) (n i:Int) (l:List Int) (a:Int) (bad:Bool) (s:List Int) (e:Int) (bad':Bool),0≤a→gL R b k n i l a bad=some (s,e,bad')→0≤e∧s.length<l.length+k
 | 0,n,i,l,a,bad,s,e,bad',ha,hk=>by cases hk
 | k+1,n,i,l,a,bad,s,e,bad',ha,hk=>by
   rw[gL] at hk
   split at hk
   ·split at hk
    ·obtain⟨⟨c,a2,b2⟩,h1,hk⟩:=Option.bind_eq_some_iff.1 hk
     have:=qD0 h hb k n (i+1) _ a2 b2 s e bad' (h.pos _ _ _ _ _ _ hb ha h1) hk
     rw[List.length_append,List.length_singleton] at this
     exact⟨this.1,mDj⟩
    ·cases hk
   ·cases hk
    exact⟨ha,mDj⟩
theorem qET {R:Rd_ Int}{D:Int→Prop}{P:Int→List Int}(h:Rdr R D P){b:List Int}(hb:Bs b):∀(s:List Int) (k:Nat) (n i:Int) (l:List Int) (a:Int),(∀ x ∈ s,D x)→s.length<k→n=i+s.length→l.length+s.length≤1000000000000→At b a (s.flatMap P)→gL R b k n i l a false=some (l++s,a+((s.flatMap P).length:Int),false)
 | s,0,n,i,l,a,hd,hk,hn,hl,hA=>by omega
 | [],k+1,n,i,l,a,hd,hk,hn,hl,hA=>by
   rw[gL,if_neg (by rw[List.length_nil] at hn;omega)]
   simp
 | c::s,k+1,n,i,l,a,hd,hk,hn,hl,hA=>by
   rw[List.length_cons] at hk hn hl
   rw[List.flatMap_cons] at hA
   rw[gL,if_pos ⟨mDj,rfl⟩,if_pos mDj,h.back b a c hb (hd c (List.mem_cons_self ..)) hA.left,Option.bind_some,
    qET h hb s k n (i+1) (l ++ [c]) _ (fun x hx=>hd x (List.mem_cons_of_mem _ hx)) mDj mDj (by rw[List.length_append,List.length_singleton];omega) hA.right]
   rw[List.flatMap_cons,List.length_append,List.append_assoc]
   simp[Int.add_assoc]
theorem qBE {R:Rd_ Int}{D:Int→Prop}{P:Int→List Int}(h:Rdr R D P){b:List Int}(hb:Bs b):∀(k:Nat) (n i:Int) (l:List Int) (a:Int) (s:List Int) (e:Int),0≤a→a≤b.length→i≤n→gL R b k n i l a false=some (s,e,false)→∃ t,s=l++t∧n=i+t.length∧t.length<k∧l.length+t.length≤1000000000000+l.length∧(∀ x ∈ t,D x)∧a+((t.flatMap P).length:Int)≤e∧e≤b.length∧(t≠[]→s.length≤1000000000000)
 | 0,n,i,l,a,s,e,ha,hab,hin,hk=>by cases hk
 | k+1,n,i,l,a,s,e,ha,hab,hin,hk=>by
   rw[gL] at hk
   by_cases hi:i<n
   ·rw[if_pos ⟨hi,rfl⟩] at hk
    by_cases hl:l.length<1000000000000
    ·rw[if_pos hl] at hk
     obtain⟨⟨c,a2,b2⟩,h1,hk⟩:=Option.bind_eq_some_iff.1 hk
     have p2:=h.pos _ _ _ _ _ _ hb ha h1
     cases b2 with
     | true =>
       cases k with
       | zero=>cases hk
       | succ k=>rw[qB2] at hk;cases hk
     | false =>
       obtain⟨d1,l1,m1⟩:=h.short b a c a2 hb ha hab h1
       obtain⟨t,rfl,h2,h3,h4,h5,h6,h7,h8⟩:=qBE h hb k n (i+1) _ a2 s e p2 m1 mDj hk
       refine⟨c::t,mDp,by rw[List.length_cons];omega,by rw[List.length_cons];omega,?_,?_,?_,h7,?_⟩
       ·rw[List.length_append,List.length_singleton] at h4
        rw[List.length_cons]
        by_cases ht:t = []
        ·subst ht;simp;omega
        ·have:=h8 ht
         rw[List.length_append,List.length_append,List.length_singleton] at this
         omega
       ·intro x hx
        rcases List.mem_cons.1 hx with rfl|hx
        ·exact d1
        ·exact h5 x hx
       ·rw[List.flatMap_cons,List.length_append]
        omega
       ·intro _
        by_cases ht:t = []
        ·subst ht;simp;omega
        ·exact h8 ht
    ·rw[if_neg hl] at hk
     cases hk
   ·rw[if_neg (fun h=>hi h.1)] at hk
    cases hk
    exact⟨[],mDp,by simp;omega,mDp,mDp,(fun _ h=>by cases h),mDp,hab,fun h=>absurd rfl h⟩
theorem qGf {R:Rd_ Int}{D:Int→Prop}{P:Int→List Int}(h:Rdr R D P){b:List Int}(hb:Bs b)(n:Nat):∀(k:Nat) (N i:Int) (l:List Int) (a:Int) (s:List Int) (e:Int),0≤a→a≤b.length→a≤n→i≤N→gL R b k N i l a false=some (s,e,false)→(e≤n→gL R (b.take n) k N i l a false=some (s,e,false))∧((n:Int)<e→∃ s' e',gL R (b.take n) k N i l a false=some (s',e',true))
 | 0,N,i,l,a,s,e,ha,hab,han,hin,hk=>by cases hk
 | k+1,N,i,l,a,s,e,ha,hab,han,hin,hk=>by
   rw[gL] at hk ⊢
   by_cases hi:i<N
   ·rw[if_pos ⟨hi,rfl⟩] at hk ⊢
    by_cases hl:l.length<1000000000000
    ·rw[if_pos hl] at hk ⊢
     obtain⟨⟨c,a2,b2⟩,h1,hk⟩:=Option.bind_eq_some_iff.1 hk
     have p2:=h.pos _ _ _ _ _ _ hb ha h1
     simp only at hk p2
     have hks:∃ k',k=k'+1:=by
      cases k with
      | zero=>cases hk
      | succ k=>exact⟨k,rfl⟩
     cases b2 with
     | true =>
       obtain⟨k',rfl⟩:=hks
       rw[qB2] at hk;cases hk
     | false =>
       obtain⟨d1,l1,m1⟩:=h.short b a c a2 hb ha hab h1
       obtain⟨t,_,h2,h3,_,h5,h6,h7,h8⟩:=qBE h hb k N (i+1) _ a2 s e p2 m1 mDj hk
       obtain⟨c1,c2⟩:=h.cut b a c a2 n hb ha hab han h1
       by_cases hm:a2≤n
       ·rw[c1 hm,Option.bind_some]
        exact qGf h hb n k N (i+1) _ a2 s e p2 m1 hm mDj hk
       ·obtain⟨c',e',k1⟩:=c2 mDj
        obtain⟨k',rfl⟩:=hks
        rw[k1,Option.bind_some]
        simp only[qB2]
        exact⟨fun hn=>by omega,fun _=>⟨_,_,rfl⟩⟩
    ·rw[if_neg hl] at hk
     cases hk
   ·rw[if_neg (fun h=>hi h.1)] at hk ⊢
    cases hk
    exact⟨fun _=>rfl,fun hn=>by omega⟩
def Dg (D:Int→Prop)(k:Nat)(n:Int)(l:List Int):Prop:=l.length=n.toNat∧l.length<k∧∀ x ∈ l,D x
theorem qGn {R:Rd_ Int}{D:Int→Prop}{P:Int→List Int}(h:Rdr R D P)(hP:∀ x,D x→1≤(P x).length){b:List Int}(hb:Bs b)(hlb:b.length≤1000000):∀(k:Nat) (n i:Int) (l:List Int) (a:Int),0≤a→a≤b.length→(b.length:Int)<a+k→l.length+k≤10000000→∃ r,gL R b (k+1) n i l a false=some r
 | 0,n,i,l,a,ha,hab,hk,hl=>by omega
 | k+1,n,i,l,a,ha,hab,hk,hl=>by
   rw[gL]
   by_cases hi:i<n
   ·rw[if_pos ⟨hi,rfl⟩,if_pos mDj]
    obtain⟨⟨c,a2,b2⟩,h1⟩:=h.tot b a hb hlb ha hab
    rw[h1,Option.bind_some]
    cases b2 with
    | true=>exact⟨_,qB2 R b k n _ _ _⟩
    | false =>
      obtain⟨d1,l1,m1⟩:=h.short b a c a2 hb ha hab h1
      have:=hP c d1
      exact qGn h hP hb hlb k n (i+1) _ a2 mDj m1 mDj (by rw[List.length_append,List.length_singleton];omega)
   ·rw[if_neg (fun h=>hi h.1)]
    exact⟨_,rfl⟩
theorem qGm {R:Rd_ Int}{D:Int→Prop}{P:Int→List Int}(h:Rdr R D P)(hP:∀ x,D x→1≤(P x).length)(k:Nat)(hk0:k+1≤10000000)(hk1:1000001≤k)(n:Int):Rdr (fun b a bad=>gL R b (k+1) n 0 [] a bad) (Dg D (k+1) n) (fun l=>l.flatMap P) where
 pos:=fun b a bad s e bad' hb ha hk=>(qD0 h hb _ _ _ _ _ _ _ _ _ ha hk).1
 bad:=fun b a _ _=>⟨[],a,qB2 R b k n 0 [] a⟩
 bytes:=fun s hs x hx=>by obtain⟨c,hc,hx⟩:=List.mem_flatMap.1 hx;exact h.bytes c (hs.2.2 c hc) x hx
 tot:=fun b a hb hl ha hab=>qGn h hP hb hl k n 0 [] a ha hab mDj (by simp;omega)
 back:=by
  intro b a s hb hd hA
  by_cases hn:0≤n
  ·have e1:=hd.1
   have e2:=hd.2.1
   rw[qET h hb s (k+1) n 0 [] a hd.2.2 hd.2.1 mDj (by simp;omega) hA]
   simp
  ·have e1:s = []:=List.eq_nil_of_length_eq_zero (by rw[hd.1];omega)
   subst e1
   rw[gL,if_neg mDj]
   simp
 short:=by
  intro b a s e hb ha hab hk
  by_cases hn:0≤n
  ·obtain⟨t,rfl,h2,h3,h4,h5,h6,h7,h8⟩:=qBE h hb (k+1) n 0 [] a s e ha hab hn hk
   exact⟨⟨mDj,h3,h5⟩,h6,h7⟩
  ·rw[gL,if_neg mDj] at hk
   cases hk
   exact⟨⟨by simp;omega,mDp,(fun _ h=>by cases h)⟩,mDp,hab⟩
 cut:=by
  intro b a s e m hb ha hab han hk
  by_cases hn:0≤n
  ·exact qGf h hb m (k+1) n 0 [] a s e ha hab han hn hk
  ·rw[gL,if_neg mDj] at hk ⊢
   cases hk
   exact⟨fun _=>rfl,fun hn=>by omega⟩
structure OfK (K:Nat):Prop where
 le:40≤K
 any:∀(o:Int),0≤o→o<65536→∃ q,qW.f K o=some q∧(q.2.2.2.2.2.2.2≠0→q.2.2.1=0)
 ok:∀ {o:Int},0≤o→o<65536→∀ {r1 im r6:Int} {r2:ByteArray} {r4 r5:List Int} {r7:Bool},qW.f K o=some (r1,r2,im,r4,r5,r6,r7,0)→
  r1=o∧(im==1)=qw o∧(im==12 || im==13)=(o==64520 || o==64521)∧o≠5∧o≠11∧o≠252∧o≠253∧(o<256∨(64512≤o∧o<65024))
def jo (K:Nat)(o im:Int):Prop:=0≤o∧o<65536∧∃ r1 r2 r4 r5 r6 r7,qW.f K o=some (r1,r2,im,r4,r5,r6,r7,0)
def yK (o:Int):List Int:=if o<256 then [o] else (o / 256)::LebM.putU 9 (o % 256)
def opR (K:Nat):Rd_ (Int × Int):=fun b a bad=>(opG K b a bad).map fun r=>((r.1,r.2.1),r.2.2)
theorem jo.ok {K:Nat}(hK:OfK K){o im:Int}(h:jo K o im):∃ r2 r4 r5 r6 r7,qW.f K o=some (o,r2,im,r4,r5,r6,r7,0)∧(im==1)=qw o∧(im==12 || im==13)=(o==64520 || o==64521)∧o≠5∧o≠11∧o≠252∧o≠253∧(o<256∨(64512≤o∧o<65024)):=by
 obtain⟨h0,h1,r1,r2,r4,r5,r6,r7,h⟩:=h
 obtain⟨rfl,k⟩:=hK.ok h0 h1 h
 exact⟨r2,r4,r5,r6,r7,h,k⟩
theorem qAX (q u:Int):0≤op2 q u∧op2 q u<65536:=by
 have h:=LebM.u64m 0
 unfold op2
 rw[show bits .or .u16 (IntKind.u16.wrap (q*256)) (IntKind.u16.wrap (bits .and .u32 u 255))=IntKind.u16.wrap ((BitVec.ofInt 16 (IntKind.u16.wrap (q*256)) ||| BitVec.ofInt 16 (IntKind.u16.wrap (bits .and .u32 u 255))).toNat:Int) from rfl]
 show 0≤_ % 65536∧_ % 65536<65536
 omega
theorem qGh {q:Int × ByteArray × Int × List Int × List Int × Int × Bool × Int}{b:Bool}(h:(b || q.2.2.2.2.2.2.2 != 0)=false):b=false∧q.2.2.2.2.2.2.2=0:=by
 rw[Bool.or_eq_false_iff] at h
 exact⟨h.1,by simpa using h.2⟩
theorem yc {K:Nat}{b:List Int}{a:Int}{bad:Bool}(h:(q8 b a bad).1=252∨(q8 b a bad).1=253):opG K b a bad=(uF K b (q8 b a bad).2.1 (q8 b a bad).2.2).bind fun u=>(qW.f K (op2 (q8 b a bad).1 u.1)).map fun r=>(r.1,r.2.2.1,u.2.1,u.2.2 || decide (255<u.1) || r.2.2.2.2.2.2.2 != 0):=by
 unfold opG
 rw[if_pos h]
theorem xD {K:Nat}{b:List Int}{a:Int}{bad:Bool}(h:¬((q8 b a bad).1=252∨(q8 b a bad).1=253))(h2:0≤(q8 b a bad).1∧(q8 b a bad).1<256):opG K b a bad=(qW.f K (q8 b a bad).1).map fun r=>(r.1,r.2.2.1,(q8 b a bad).2.1,(q8 b a bad).2.2 || r.2.2.2.2.2.2.2 != 0):=by
 unfold opG
 rw[if_neg h,if_pos mDj]
theorem qC9 {K:Nat}{b:List Int}{a q a1 u e2:Int}{bad b1 b2:Bool}{r:Int × ByteArray × Int × List Int × List Int × Int × Bool × Int}(h1:q8 b a bad=(q,a1,b1))(h2:q=252∨q=253)(h3:uF K b a1 b1=some (u,e2,b2))(h4:qW.f K (op2 q u)=some r):
 opG K b a bad=some (r.1,r.2.2.1,e2,b2 || decide (255<u) || r.2.2.2.2.2.2.2 != 0):=by
 rw[yc (by rw[h1];exact h2),h1]
 show(uF K b a1 b1).bind _=_
 rw[h3,Option.bind_some]
 show Option.map _ (qW.f K (op2 q u))=_
 rw[h4,Option.map_some]
theorem qCW {K:Nat}{b:List Int}{a r1 im e2:Int}{bad b2:Bool}(h:opG K b a bad=some (r1,im,e2,b2)):opR K b a bad=some ((r1,im),e2,b2):=by
 unfold opR
 rw[h,Option.map_some]
theorem qIA {K:Nat}(hK:OfK K):∀(b:List Int) (a:Int) (bad:Bool) (s:Int × Int) (e:Int) (bad':Bool),Bs b→0≤a→opR K b a bad=some (s,e,bad')→0≤e:=by
 intro b a bad s e bad' hb ha h
 obtain⟨⟨r1,im,e1,b1⟩,h,h2⟩:=Option.map_eq_some_iff.1 h
 have hc:=jy hb.y ha bad
 have hp:=xP (b:=b) (bad:=bad) ha
 by_cases hl:(q8 b a bad).1=252∨(q8 b a bad).1=253
 ·rw[yc hl] at h
  obtain⟨⟨u,e2,b2⟩,k1,h⟩:=Option.bind_eq_some_iff.1 h
  obtain⟨q,k2,h⟩:=Option.map_eq_some_iff.1 h
  cases h
  cases h2
  exact(qCs hK.le).pos _ _ _ _ _ _ hb hp k1
 ·rw[xD hl hc] at h
  obtain⟨q,k2,h⟩:=Option.map_eq_some_iff.1 h
  cases h
  cases h2
  exact hp
theorem qH7 {K:Nat}(hK:OfK K):∀(b:List Int) (a:Int),Bs b→0≤a→∃ s e,opR K b a true=some (s,e,true):=by
 intro b a hb ha
 obtain⟨q,hq,_⟩:=hK.any 0 mDl mDl
 unfold opR
 rw[xD (by rw[qAS];show ¬((0:Int)=252∨(0:Int)=253);decide) (by rw[qAS];show 0≤(0:Int)∧(0:Int)<256;decide),qAS,hq]
 exact⟨_,_,rfl⟩
theorem qIs {K:Nat}(hK:OfK K):∀(b:List Int) (a:Int),Bs b→b.length≤1000000→0≤a→a≤b.length→∃ r,opR K b a false=some r:=by
 intro b a hb hl ha hab
 have hc:=jy hb.y ha false
 have hp:=xP (b:=b) (bad:=false) ha
 generalize hq:q8 b a false=q at *
 obtain⟨c,a1,b1⟩:=q
 simp only at hc hp
 by_cases h2:c=252∨c=253
 ·have hU:∃ r,uF K b a1 b1=some r:=by
   cases b1 with
   | true=>exact⟨_,qEt K b a1⟩
   | false=>exact⟨_,qBY hK.le hb a1⟩
  obtain⟨⟨u,e2,b2⟩,hU⟩:=hU
  obtain⟨q',hq',_⟩:=hK.any (op2 c u) (qAX _ _).1 (qAX _ _).2
  exact⟨_,qCW (qC9 hq h2 hU hq')⟩
 ·obtain⟨q',hq',_⟩:=hK.any c hc.1 mDj
  unfold opR
  rw[xD (by rw[hq];exact h2) (by rw[hq];exact hc),hq]
  simp only
  rw[hq']
  exact⟨_,rfl⟩
theorem qG1 {K:Nat}(hK:OfK K):∀(b:List Int) (a:Int) (s:Int × Int),Bs b→jo K s.1 s.2→At b a (yK s.1)→opR K b a false=some (s,a+((yK s.1).length:Int),false):=by
 rintro b a ⟨o,im⟩ hb hd hA
 obtain⟨r2,r4,r5,r6,r7,ho,_,_,n5,n11,n252,n253,hr⟩:=jo.ok hK hd
 have h0:=hd.1
 unfold opR
 unfold yK at hA ⊢
 simp only at hA ⊢ h0
 by_cases hs:o<256
 ·rw[if_pos hs] at hA ⊢
  obtain⟨h1,h2⟩:=hA.hd
  rw[xD (by rw[jc h1,h2];show ¬(o=252∨o=253);omega) (by rw[jc h1,h2];exact⟨h0,hs⟩),jc h1,h2]
  simp only[ho,Option.map_some]
  rfl
 ·rw[if_neg hs] at hA ⊢
  have hq:o / 256=252∨o / 256=253:=mDj
  obtain⟨h1,h2⟩:=hA.hd
  have hA2:At b (a+1) (LebM.putU 9 (o % 256)):=At.right (s:=[o / 256]) hA
  have hu:0≤o % 256∧o % 256<4294967296:=mDj
  have hU:=(qCs (K:=K) hK.le).back b (a+1) (o % 256) hb hu hA2
  have e1:op2 (o / 256) (o % 256)=o:=by
   have:=qGo (o / 256) (o % 256).toNat hq mDj
   rw[Int.toNat_of_nonneg mDj] at this
   rw[this]
   omega
  have e3:q8 b a false=(o / 256,a+1,false):=by rw[jc h1,h2]
  rw[List.length_cons]
  generalize (LebM.putU 9 (o % 256)).length=L at hU ⊢
  have h9:=qCW (qC9 e3 hq hU (by rw[e1];exact ho))
  unfold opR at h9
  rw[h9,show decide (255<o % 256)=false from decide_eq_false (by clear hU h9;omega)]
  rw[show a+1+(L:Int)=a+((L+1:Nat):Int) by omega]
  rfl
theorem qFM {K:Nat}(hK:OfK K):∀(b:List Int) (a:Int) (s:Int × Int) (e:Int),Bs b→0≤a→a≤b.length→opR K b a false=some (s,e,false)→jo K s.1 s.2∧a+((yK s.1).length:Int)≤e∧e≤b.length:=by
 rintro b a ⟨o,im⟩ e hb ha hab h
 obtain⟨⟨r1,im',e1,b1⟩,h,h2⟩:=Option.map_eq_some_iff.1 h
 have hc:=jy hb.y ha false
 have hp:=xP (b:=b) (bad:=false) ha
 simp only[Prod.mk.injEq] at h2
 obtain⟨⟨rfl,rfl⟩,rfl,rfl⟩:=h2
 by_cases hlt:a<b.length
 ·by_cases hl:(q8 b a false).1=252∨(q8 b a false).1=253
  ·rw[yc hl] at h
   rw[jc hlt] at h hl
   obtain⟨⟨u,e2,b2⟩,k1,h⟩:=Option.bind_eq_some_iff.1 h
   obtain⟨⟨s1,s2,s3,s4,s5,s6,s7,s8⟩,k2,h⟩:=Option.map_eq_some_iff.1 h
   simp only[Prod.mk.injEq] at h
   obtain⟨rfl,rfl,rfl,hb2⟩:=h
   rw[Bool.or_assoc,Bool.or_eq_false_iff] at hb2
   obtain⟨rfl,hb2⟩:=hb2
   obtain⟨hu,h8⟩:=qGh (q:=(s1,s2,s3,s4,s5,s6,s7,s8)) hb2
   simp only at h8
   subst h8
   obtain⟨d1,l1,m1⟩:=(qCs (K:=K) hK.le).short b (a+1) u e2 hb mDj hlt k1
   have hu2:u<256:=by have:=of_decide_eq_false hu;omega
   have d0:=d1.1
   simp only at k2 hl
   have e0:op2 (rd b a) u=rd b a*256+u:=by
    have:=qGo (rd b a) u.toNat hl mDj
    rw[Int.toNat_of_nonneg d0] at this
    exact this
   rw[e0] at k2
   have hk:jo K (rd b a*256+u) s3:=⟨mDj,mDj,_,_,_,_,_,_,k2⟩
   obtain⟨rfl,_⟩:=hK.ok hk.1 hk.2.1 k2
   refine⟨hk,?_,m1⟩
   unfold yK
   simp only
   rw[if_neg (by clear l1 k1;omega),show(rd b a*256+u) % 256=u by clear l1 k1;omega,List.length_cons,Int.natCast_add]
   generalize (LebM.putU 9 u).length=L at l1 ⊢
   clear k1 k2 hk d1 hl e0
   omega
  ·rw[xD hl hc] at h
   rw[jc hlt] at h hl hc
   obtain⟨⟨s1,s2,s3,s4,s5,s6,s7,s8⟩,k2,h⟩:=Option.map_eq_some_iff.1 h
   simp only[Prod.mk.injEq] at h
   obtain⟨rfl,rfl,rfl,hb2⟩:=h
   obtain⟨_,h8⟩:=qGh (q:=(s1,s2,s3,s4,s5,s6,s7,s8)) hb2
   simp only at h8 k2 hc
   subst h8
   have hk:jo K (rd b a) s3:=⟨mDj,mDj,_,_,_,_,_,_,k2⟩
   obtain⟨rfl,_⟩:=hK.ok hk.1 hk.2.1 k2
   refine⟨hk,?_,hlt⟩
   unfold yK
   simp only
   rw[if_pos mDj,List.length_singleton]
   omega
 exact mBv
theorem qIr {K:Nat}(hK:OfK K):∀(b:List Int) (a:Int) (s:Int × Int) (e:Int) (n:Nat),Bs b→0≤a→a≤b.length→a≤(n:Int)→opR K b a false=some (s,e,false)→(e≤(n:Int)→opR K (b.take n) a false=some (s,e,false))∧((n:Int)<e→∃ s' e',opR K (b.take n) a false=some (s',e',true)):=by
 rintro b a ⟨o,im⟩ e n hb ha hab han h
 obtain⟨⟨r1,im',e1,b1⟩,h,h2⟩:=Option.map_eq_some_iff.1 h
 have hc:=jy hb.y ha false
 have hc':=jy (hb.take n).y ha false
 simp only[Prod.mk.injEq] at h2
 obtain⟨⟨rfl,rfl⟩,rfl,rfl⟩:=h2
 by_cases hlt:a<b.length
 ·obtain⟨o1,o2⟩:=yR.cut b a (rd b a) (a+1) n hb ha hab han (congrArg some (jc hlt))
  have hshort:(n:Int)<a+1→∃ s' e',opR K (b.take n) a false=some (s',e',true):=by
   intro hn
   obtain⟨q,hq,_⟩:=hK.any 0 mDl mDl
   have hg:¬ a<(b.take n).length:=by rw[List.length_take];omega
   unfold opR
   rw[xD (by rw[xN hg];show ¬((0:Int)=252∨(0:Int)=253);decide) (by rw[xN hg];show 0≤(0:Int)∧(0:Int)<256;decide),xN hg,hq]
   exact⟨_,_,rfl⟩
  by_cases hl:(q8 b a false).1=252∨(q8 b a false).1=253
  ·rw[yc hl] at h
   rw[jc hlt] at h hl
   obtain⟨⟨u,e2,b2⟩,k1,h⟩:=Option.bind_eq_some_iff.1 h
   obtain⟨q,k2,h⟩:=Option.map_eq_some_iff.1 h
   simp only[Prod.mk.injEq] at h
   obtain⟨rfl,rfl,rfl,hb2⟩:=h
   have hb2':=hb2
   rw[Bool.or_assoc,Bool.or_eq_false_iff] at hb2
   obtain⟨rfl,hb2⟩:=hb2
   have l1:a+1≤e2:=by {have:=((qCs (K:=K) hK.le).short b (a+1) u e2 hb mDj hlt k1).2.1;generalize (LebM.putU 9 u).length=L at this;omega}
   by_cases hn:a+1≤n
   ·have hc2:=(qCs (K:=K) hK.le).cut b (a+1) u e2 n hb mDj hlt hn k1
    have ho:q8 (b.take n) a false=(rd b a,a+1,false):=Option.some.inj (o1 hn)
    simp only at k2 hl
    refine⟨fun he=>?_,fun he=>?_⟩
    ·have h9:=qCW (qC9 ho hl (hc2.1 he) k2)
     rw[hb2'] at h9
     exact h9
    ·obtain⟨u',e',k3⟩:=hc2.2 he
     obtain⟨q',hq',_⟩:=hK.any (op2 (rd b a) u') (qAX _ _).1 (qAX _ _).2
     exact⟨_,_,qCW (qC9 ho hl k3 hq')⟩
   ·refine⟨fun he=>by omega,fun he=>hshort mDj⟩
  ·rw[xD hl hc] at h
   rw[jc hlt] at h hl hc
   obtain⟨q,k2,h⟩:=Option.map_eq_some_iff.1 h
   simp only[Prod.mk.injEq] at h
   obtain⟨rfl,rfl,rfl,hb2⟩:=h
   refine⟨fun he=>?_,hshort⟩
   have ho:q8 (b.take n) a false=(rd b a,a+1,false):=Option.some.inj (o1 he)
   unfold opR
   rw[xD (by rw[ho];exact hl) (by rw[ho];exact hc),ho]
   simp only at k2 hb2 ⊢
   rw[k2,Option.map_some,Option.map_some,hb2]
 exact mBv
theorem qCu {o:Int}(h0:0≤o)(h1:o<65536):LebM.Bytes (yK o)∧(yK o).length≤11:=by
 unfold yK
 split
 ·exact⟨fun x hx=>by rw[List.mem_singleton] at hx;omega,mDp⟩
 ·refine⟨fun x hx=>?_,?_⟩
  ·rcases List.mem_cons.1 hx with rfl|hx
   ·omega
   ·exact LebM.putU_bytes 9 _ mDj (LebM.u64_lt mDj) x hx
  ·have:=(LebM.putU_len 9 (o % 256)).2
   rw[List.length_cons]
   omega
theorem qD7 {K:Nat}(hK:OfK K):Rdr (opR K) (fun s=>jo K s.1 s.2) (fun s=>yK s.1):=⟨qIA hK,qH7 hK,fun s hs=>(qCu hs.1 hs.2.1).1,qIs hK,qG1 hK,qFM hK,qIr hK⟩
theorem qJg {K:Nat}(hK:40≤K){o:Int}(h0:0≤o)(h1:o<65536):jE.f K o=some (yK o):=by
 unfold jE.f yK
 by_cases hs:o<256
 ·rw[if_pos hs,if_pos hs,show o % 256=o by omega]
 ·rw[if_neg hs,if_neg hs]
  have e1:bits .and .u16 o 255=o % 256:=by
   obtain⟨n,rfl⟩:=Int.eq_ofNat_of_zero_le h0
   have k:∀ n:Nat,n<65536→bits .and .u16 (n:Int) 255=(n:Int) % 256:=by
    intro n hn
    rw[show bits .and .u16 (n:Int) 255=IntKind.u16.wrap ((BitVec.ofInt 16 (n:Int) &&& BitVec.ofInt 16 255).toNat:Int) from rfl]
    rw[BitVec.toNat_and,show(BitVec.ofInt 16 (n:Int))=BitVec.ofNat 16 n by simp,BitVec.toNat_ofNat,show(BitVec.ofInt 16 255).toNat=2 ^ 8 - 1 from rfl,Nat.and_two_pow_sub_one_eq_mod]
    show((_:Nat):Int) % 65536=_
    omega
   exact k n mDj
  rw[e1,LebM.u64w mDj mDj,LebM.PutU_ev mDj mDj K hK]
  have hl:=(LebM.putU_len 9 (o % 256)).2
  simp only[Option.bind_some]
  rw[if_pos (by rw[List.length_singleton];omega),show o / 256 % 256=o / 256 by omega]
  rfl
def qFN (q:Int × Int × Int):List Int:=if q.1=0 then [64] else if q.1=1 then [q.2.1] else LebM.putS 9 q.2.2
def Db (q:Int × Int × Int):Prop:=q=(0,0,0)∨(q.1=1∧tyB q.2.1=true∧(0≤q.2.1∧q.2.1<256)∧q.2.2=0)∨(q.1=2∧q.2.1=0∧0≤q.2.2∧q.2.2<4294967296)
def qA3 (K:Nat):Rd_ (Int × Int × Int):=fun b a bad=>(y6 K b a bad).map fun r=>((r.1,r.2.1,r.2.2.1),r.2.2.2)
theorem qBX {c:Int}(h:tyB c=true):111≤c∧c<128:=by
 unfold tyB zw.f at h
 split at h
 ·omega
 split at h
 ·omega
 split at h
 ·omega
 split at h
 ·omega
 split at h
 ·omega
 split at h
 ·omega
 split at h
 ·omega
 ·cases h
theorem qG5 {x:Int}(h0:0≤x):∃ c s,LebM.putS 9 x=c::s∧¬ c=64∧tyB c=false:=by
 have hty:∀ c,(0≤c∧c<64∨128≤c)→tyB c=false:=by
  intro c hc
  cases ht:tyB c
  ·rfl
  ·have:=qBX ht
   omega
 unfold LebM.putS
 split
 ·exact⟨_,_,rfl,mDj,hty _ mDj⟩
 ·exact⟨_,_,rfl,mDj,hty _ mDj⟩
theorem yO {K:Nat}{b:List Int}{a:Int}{bad:Bool}(h1:a<b.length)(h2:¬ rd b a=64)(h:tyB (rd b a)=true):y6 K b a bad=some (1,rd b a,0,a+1,bad):=by
 unfold y6
 rw[if_neg (fun k=>h2 k.2),if_pos ⟨h1,h⟩]
theorem qAk {K:Nat}{b:List Int}{a:Int}{bad:Bool}(h1:a<b.length)(h2:rd b a=64):y6 K b a bad=some (0,0,0,a+1,bad):=by
 unfold y6
 rw[if_pos ⟨h1,h2⟩]
theorem yP {K:Nat}{b:List Int}{a:Int}{bad:Bool}(h2:¬(a<b.length∧(rd b a=64∨tyB (rd b a)=true))):y6 K b a bad=(sF K b a 33 bad).map fun r=>(2,0,IntKind.u32.wrap r.1,r.2.1,r.2.2 || decide (r.1<0)):=by
 unfold y6
 rw[if_neg (fun k=>h2 ⟨k.1,.inl k.2⟩),if_neg (fun k=>h2 ⟨k.1,.inr k.2⟩)]
theorem s33 {K:Nat}(hK:40≤K):Rdr (fun b a bad=>sF K b a 33 bad) (Dsg 33) (LebM.putS 9):=qGM hK mDl mDl
theorem qES {K:Nat}(hK:40≤K):Rdr (qA3 K) Db qFN where
 pos:=by
  intro b a bad s e bad' hb ha h
  obtain⟨q,h,h2⟩:=Option.map_eq_some_iff.1 h
  by_cases hc:a<b.length∧(rd b a=64∨tyB (rd b a)=true)
  ·obtain⟨h1,hc⟩:=hc
   by_cases h64:rd b a=64
   ·rw[qAk h1 h64] at h;cases h;cases h2;omega
   ·rw[yO h1 h64 (hc.resolve_left h64)] at h;cases h;cases h2;omega
  ·rw[yP hc] at h
   obtain⟨⟨u,e2,b2⟩,k1,h⟩:=Option.map_eq_some_iff.1 h
   cases h;cases h2
   exact(s33 hK).pos _ _ _ _ _ _ hb ha k1
 bad:=by
  intro b a hb ha
  unfold qA3
  by_cases hc:a<b.length∧(rd b a=64∨tyB (rd b a)=true)
  ·obtain⟨h1,hc⟩:=hc
   by_cases h64:rd b a=64
   ·rw[qAk h1 h64];exact⟨_,_,rfl⟩
   ·rw[yO h1 h64 (hc.resolve_left h64)];exact⟨_,_,rfl⟩
  ·rw[yP hc,qEr]
   exact⟨_,_,rfl⟩
 bytes:=by
  rintro⟨k,v,t⟩ hs
  unfold qFN
  rcases hs with hs|⟨h1,h2,h3,h4⟩|⟨h1,h2,h3,h4⟩
  ·cases hs
   intro x hx
   rw[if_pos rfl,List.mem_singleton] at hx
   rw[hx];decide
  ·simp only at h1 h3
   subst h1
   intro x hx
   have hx:x ∈ [v]:=hx
   rw[List.mem_singleton] at hx
   rw[hx];exact h3
  ·simp only at h1
   subst h1
   exact LebM.putS_bytes 9 t
 tot:=by
  intro b a hb hl ha hab
  unfold qA3
  by_cases hc:a<b.length∧(rd b a=64∨tyB (rd b a)=true)
  ·obtain⟨h1,hc⟩:=hc
   by_cases h64:rd b a=64
   ·rw[qAk h1 h64];exact⟨_,rfl⟩
   ·rw[yO h1 h64 (hc.resolve_left h64)];exact⟨_,rfl⟩
  ·rw[yP hc,qAQ hK hb]
   exact⟨_,rfl⟩
 back:=by
  rintro b a ⟨k,v,t⟩ hb hd hA
  unfold qA3
  unfold qFN at hA ⊢
  rcases hd with hd|⟨h1,ht,hv,h0⟩|⟨h1,h2,h3,h4⟩
  ·cases hd
   obtain⟨p1,p2⟩:=hA.hd
   rw[qAk p1 p2]
   rfl
  ·simp only at h1 h0 ht hv
   subst h1
   subst h0
   obtain⟨p1,p2⟩:=hA.hd
   simp only at p2
   rw[yO p1 (by rw[p2];have:=qBX ht;omega) (by rw[p2];exact ht),p2]
   rfl
  ·simp only at h1 h2 h3 h4
   subst h1
   subst h2
   have hA2:At b a (LebM.putS 9 t):=hA
   obtain⟨c,s,e1,e2,e3⟩:=qG5 h3
   have hA3:=hA2
   rw[e1] at hA3
   obtain⟨p1,p2⟩:=hA3.hd
   have hd:Dsg 33 t:=by
    unfold Dsg
    rw[show(2:Int) ^ ((33:Int).toNat - 1)=4294967296 from rfl]
    omega
   rw[yP (fun k=>by rw[p2] at k;rcases k.2 with k|k;exact e2 k;rw[e3] at k;cases k),(s33 hK).back b a t hb hd hA2]
   simp only[Option.map_some]
   rw[zr h3 h4,show decide (t<0)=false from decide_eq_false mDj]
   rfl
 short:=by
  rintro b a ⟨k,v,t⟩ e hb ha hab h
  obtain⟨q,h,h2⟩:=Option.map_eq_some_iff.1 h
  by_cases hc:a<b.length∧(rd b a=64∨tyB (rd b a)=true)
  ·obtain⟨h1,hc⟩:=hc
   by_cases h64:rd b a=64
   ·rw[qAk h1 h64] at h;cases h;cases h2
    exact⟨.inl rfl,Int.le_refl _,h1⟩
   ·have ht:=hc.resolve_left h64
    rw[yO h1 h64 ht] at h;cases h;cases h2
    have:=qBX ht
    exact⟨.inr (.inl ⟨rfl,ht,(show 0≤rd b a∧rd b a<256 by omega),rfl⟩),Int.le_refl _,h1⟩
  ·rw[yP hc] at h
   obtain⟨⟨u,e2,b2⟩,k1,h⟩:=Option.map_eq_some_iff.1 h
   subst h
   simp only[Prod.mk.injEq,Bool.or_eq_false_iff] at h2
   obtain⟨⟨rfl,rfl,rfl⟩,rfl,rfl,hn⟩:=h2
   obtain⟨d1,l1,m1⟩:=(s33 hK).short b a u e2 hb ha hab k1
   have hn:=of_decide_eq_false hn
   unfold Dsg at d1
   rw[show(2:Int) ^ ((33:Int).toNat - 1)=4294967296 from rfl] at d1
   rw[zr mDj d1.2]
   refine⟨.inr (.inr ⟨rfl,rfl,(show 0≤u by omega),d1.2⟩),l1,m1⟩
 cut:=by
  rintro b a ⟨k,v,t⟩ e n hb ha hab han h
  obtain⟨q,h,h2⟩:=Option.map_eq_some_iff.1 h
  have hsh:(n:Int)<a+1→∃ s' e',qA3 K (b.take n) a false=some (s',e',true):=by
   intro hn
   have hg:¬ a<(b.take n).length:=by rw[List.length_take];omega
   unfold qA3
   rw[yP (fun k=>hg k.1),qAQ hK (hb.take n)]
   have e1:LebM.Ss (b.take n) a 33=(0,0,4):=by
    unfold LebM.Ss
    rw[if_pos ⟨mDl,mDl,ha,by rw[List.length_take];omega⟩,List.drop_eq_nil_of_le mDj]
    rfl
   rw[e1]
   exact⟨_,_,rfl⟩
  by_cases hlt:a<b.length
  ·have ht:a+1≤n→a<(b.take n).length∧rd (b.take n) a=rd b a:=fun hn=>⟨by rw[List.length_take];omega,qC0 ha mDj hlt⟩
   by_cases hc:rd b a=64∨tyB (rd b a)=true
   ·by_cases h64:rd b a=64
    ·rw[qAk hlt h64] at h;cases h;cases h2
     refine⟨fun hn=>?_,hsh⟩
     obtain⟨t1,t2⟩:=ht hn
     unfold qA3
     rw[qAk t1 (by rw[t2];exact h64)]
     rfl
    ·have hty:=hc.resolve_left h64
     rw[yO hlt h64 hty] at h;cases h;cases h2
     refine⟨fun hn=>?_,hsh⟩
     obtain⟨t1,t2⟩:=ht hn
     unfold qA3
     rw[yO t1 (by rw[t2];exact h64) (by rw[t2];exact hty),t2]
     rfl
   ·rw[yP (fun k=>hc k.2)] at h
    obtain⟨⟨u,e2,b2⟩,k1,h⟩:=Option.map_eq_some_iff.1 h
    subst h
    simp only[Prod.mk.injEq,Bool.or_eq_false_iff] at h2
    obtain⟨⟨rfl,rfl,rfl⟩,rfl,rfl,hn⟩:=h2
    obtain⟨d1,l1,m1⟩:=(s33 hK).short b a u e2 hb ha hab k1
    have hl1:1≤(LebM.putS 9 u).length:=by
     unfold LebM.putS
     split
     ·simp
     ·rw[List.length_cons];omega
    obtain⟨c1,c2⟩:=(s33 hK).cut b a u e2 n hb ha hab han k1
    by_cases h1n:a+1≤n
    ·obtain⟨t1,t2⟩:=ht h1n
     have hR:qA3 K (b.take n) a false=((sF K (b.take n) a 33 false).map fun r=>(2,0,IntKind.u32.wrap r.1,r.2.1,r.2.2 || decide (r.1<0))).map fun r=>((r.1,r.2.1,r.2.2.1),r.2.2.2):=by
      unfold qA3
      rw[yP (fun k=>by rw[t2] at k;exact hc k.2)]
     rw[hR]
     refine⟨fun he=>?_,fun he=>?_⟩
     ·rw[c1 he]
      simp only[Option.map_some]
      rw[hn]
      rfl
     ·obtain⟨u',e',k3⟩:=c2 he
      rw[k3]
      simp only[Option.map_some,Bool.true_or]
      exact⟨_,_,rfl⟩
    ·exact⟨fun he=>by omega,fun he=>hsh mDj⟩
  ·rw[yP (fun k=>hlt k.1),qAQ hK hb] at h
   have e1:LebM.Ss b a 33=(0,0,4):=by
    unfold LebM.Ss
    rw[if_pos ⟨mDl,mDl,ha,hab⟩,List.drop_eq_nil_of_le mDj]
    rfl
   rw[e1] at h
   rw[if_neg mDl] at h
   simp only[Option.map_some,Bool.true_or] at h
   cases h
   cases h2
end Go.Proofs.YtobldeamemmokaaDoor.P
namespace Go.Proofs.YtobldeamemmokaaDoor.P
open Go.RowKit Go.Proofs.YtobldeamemmokaaDoorW.PrintWords
def inn (h:Int)(o:Int):Int:=if qw o=true then wrap64 (h+1) else h
mutual
def qB6:Int→I→List (I × Int)
 | h,⟨o,a,b,n,v,l,t,bk,bv,bt,bd,e⟩=>(⟨o,a,b,n,v,l,t,bk,bv,bt,bd,e⟩,h)::(xA (inn h o) bd++xA (inn h o) e)
def xA:Int→List I→List (I × Int)
 | _,[]=>[]
 | h,x::l=>qB6 h x++xA h l
end
theorem qEC (h:Int)(x:I):qB6 h x=(x,h)::(xA (inn h x.op) x.body++xA (inn h x.op) x.els):=by cases x;rw[qB6]
def jL {σ:Type}(step:σ→I→Int→σ × Bool):List (I × Int)→σ→σ × Bool
 | [],s=>(s,true)
 | q::qs,s=>if (step s q.1 q.2).2=true then jL step qs (step s q.1 q.2).1 else ((step s q.1 q.2).1,false)
theorem xS {σ:Type}(step:σ→I→Int→σ × Bool):∀(xs ys:List (I × Int)) (s:σ),jL step (xs++ys) s=if (jL step xs s).2=true then jL step ys (jL step xs s).1 else jL step xs s
 | [],ys,s=>by simp[jL]
 | q::xs,ys,s=>by
   rw[List.cons_append,jL,jL]
   by_cases h:(step s q.1 q.2).2=true
   ·rw[if_pos h,if_pos h,xS step xs ys]
   ·rw[if_neg h,if_neg h,if_neg mDp]
def yS:List P_→List (I × Int)
 | []=>[]
 | p::rs=>xA p.high (p.l.drop p.at_)++yS rs
theorem yy (b:List I)(h:Int)(rs:List P_):yS ((if 0<b.length then [(⟨b,0,h⟩:P_)] else [])++rs)=xA h b++yS rs:=by
 cases b with
 | nil=>simp[xA]
 | cons x b=>rw[if_pos mDp];rfl
theorem qHW (b:List I)(h:Int)(rs:List P_):mP ((if 0<b.length then [(⟨b,0,h⟩:P_)] else [])++rs)≤3*cL b+1+mP rs:=by
 cases b with
 | nil=>simp[mP,cL]
 | cons x b=>rw[if_pos mDp];exact Nat.le_refl _
theorem qEZ (b:List I)(h:Int)(rs:List P_):cP ((if 0<b.length then [(⟨b,0,h⟩:P_)] else [])++rs)=cL b+cP rs:=by
 cases b with
 | nil=>simp[cL]
 | cons x b=>rw[if_pos mDp];rfl
theorem qGT (b:List I)(h:Int)(rs:List P_):((if 0<b.length then [(⟨b,0,h⟩:P_)] else [])++rs).length≤1+rs.length:=by
 by_cases hb:0<b.length
 ·rw[if_pos hb];simp;omega
 ·rw[if_neg hb];simp
theorem qA6 {σ:Type}(step:σ→I→Int→σ × Bool):∀(k:Nat) (ps:List P_) (s:σ),mP ps<k→(∀ p ∈ ps,p.at_≤p.l.length)→ps.length+2*cP ps<1000000000000→xg step k ps s=some (jL step (yS ps) s).1
 | 0,ps,s,h,_,_=>absurd h (Nat.not_lt_zero _)
 | k+1,[],s,h,_,_=>by simp[xg,yS,jL]
 | k+1,p::rs,s,h,hp,hs=>by
   have h0:=hp p (List.mem_cons_self ..)
   have hrs:∀ q ∈ rs,q.at_≤q.l.length:=fun q hq=>hp q (List.mem_cons_of_mem _ hq)
   rw[xg]
   simp only[mP,cP,List.length_cons] at h hs
   rw[yS]
   by_cases e:p.at_=p.l.length
   ·rw[if_pos e]
    have e2:p.l.drop p.at_ = []:=List.drop_eq_nil_of_le mDj
    rw[e2,cL] at h hs
    rw[e2,xA,List.nil_append]
    exact qA6 step k rs s (by generalize mP rs=M at h ⊢;omega) hrs (by generalize cP rs=C at hs ⊢;omega)
   ·have hlt:p.at_<p.l.length:=mDj
    rw[if_neg e,if_pos hlt]
    rw[yr hlt,cL,qBc] at h hs
    rw[yr hlt,xA,qEC]
    obtain⟨x,hx⟩:=ey_ (p.l.getD p.at_ zI)
    rw[hx] at h hs ⊢
    rw[List.cons_append,List.cons_append,jL]
    by_cases hst:(step s x p.high).2=true
    ·rw[if_pos hst,if_pos hst,if_pos mDb]
     have e5:=qA6 step k ((if 0<x.body.length then [⟨x.body,0,(if qw x.op=true then wrap64 (p.high+1) else p.high)⟩] else []) ++
      ((if 0<x.els.length then [⟨x.els,0,(if qw x.op=true then wrap64 (p.high+1) else p.high)⟩] else [])++⟨p.l,p.at_+1,p.high⟩::rs)) (step s x p.high).1 ?_ ?_ ?_
     ·rw[e5,yy,yy,yS]
      simp only[inn,List.append_assoc]
     ·exact mA3
     ·exact mBf
     ·rw[qEZ,qEZ,cP]
      exact mAy
    ·rw[if_neg hst,if_neg hst]
theorem qAT {σ:Type}(step:σ→I→Int→σ × Bool)(l:List I)(s:σ)(h:cL l≤1000000000):xg step (3*cL l+2) [⟨l,0,0⟩] s=some (jL step (xA 0 l) s).1:=by
 rw[qA6 step (3*cL l+2) [⟨l,0,0⟩] s (by simp only[mP,List.drop_zero];omega) (by intro q hq;rcases List.mem_singleton.1 hq with rfl;exact Nat.zero_le _) (by simp only[cP,List.drop_zero,List.length_singleton];omega)]
 rw[yS,yS,List.drop_zero,List.append_nil]
mutual
def qCU:I→Bool
 | ⟨o,_,_,_,_,_,_,_,_,_,b,e⟩=>o==64520 || (o==64521 || (zf b || zf e))
def zf:List I→Bool
 | []=>false
 | x::l=>qCU x || zf l
end
theorem qCK (x:I):qCU x=(x.op==64520 || (x.op==64521 || (zf x.body || zf x.els))):=by cases x;rw[qCU]
mutual
theorem qFt:∀(h:Int) (x:I),jL je (qB6 h x) false=(qCU x,!qCU x)
 | h,⟨o,a,b,n,v,l,t,bk,bv,bt,bd,e⟩=>by
   have hb:=yp (inn h o) bd
   have he:=yp (inn h o) e
   rw[qB6,qCU,jL,xS]
   simp only[je,Bool.false_or]
   cases o==64520 <;> cases o==64521 <;> cases hbd:zf bd <;> cases hed:zf e <;> rw[hbd] at hb <;> rw[hed] at he <;> simp[hb,he]
theorem yp:∀(h:Int) (l:List I),jL je (xA h l) false=(zf l,!zf l)
 | h,[]=>rfl
 | h,x::l=>by
   have hx:=qFt h x
   have hl:=yp h l
   rw[xA,zf,xS]
   cases hxd:qCU x <;> cases hld:zf l <;> rw[hxd] at hx <;> rw[hld] at hl <;> simp[hx,hl]
end
mutual
def pI:Nat→I→Nat
 | h,⟨o,_,_,_,_,_,_,_,_,_,b,e⟩=>if qw o=true then max (h+1) (max (pL (h+1) b) (pL (h+1) e)) else max (pL h b) (pL h e)
def pL:Nat→List I→Nat
 | _,[]=>0
 | h,x::l=>max (pI h x) (pL h l)
end
theorem qFW (h:Nat)(x:I):pI h x=if qw x.op=true then max (h+1) (max (pL (h+1) x.body) (pL (h+1) x.els)) else max (pL h x.body) (pL h x.els):=by cases x;rw[pI]
def yN (p:Int × Bool)(d m:Nat):Prop:=(p=(((max d m:Nat):Int),true)∧max d m≤1000)∨(∃ r:Nat,p=((r:Int),false)∧1000<r∧1000<max d m)
theorem yN.append {xs ys:List (I × Int)}{d m n:Nat}(h1:yN (jL zU xs (d:Int)) d m)(h2:max d m≤1000→yN (jL zU ys ((max d m:Nat):Int)) (max d m) n):yN (jL zU (xs++ys) (d:Int)) d (max m n):=by
 rw[xS]
 rcases h1 with ⟨e,hd⟩|⟨r,e,hr,hd⟩
 ·rw[e,if_pos rfl]
  have h3:=h2 hd
  rcases h3 with ⟨e2,hd2⟩|⟨r,e2,hr,hd2⟩
  ·exact .inl ⟨by rw[e2,Nat.max_assoc],by rw[← Nat.max_assoc];exact hd2⟩
  ·exact .inr ⟨r,e2,hr,by rw[← Nat.max_assoc];exact hd2⟩
 ·rw[e,if_neg mDp]
  exact .inr ⟨r,rfl,hr,mDj⟩
theorem qHd (h:Nat)(o:Int)(hb:h<1000000000):inn (h:Int) o=((if qw o=true then h+1 else h:Nat):Int):=by
 unfold inn
 split
 ·unfold wrap64
  omega
 ·rfl
mutual
theorem qFC:∀(h:Nat) (x:I) (d:Nat),d≤1000→h+cI x≤1000000000→yN (jL zU (qB6 (h:Int) x) (d:Int)) d (pI h x)
 | h,⟨o,a,b,n,v,l,t,bk,bv,bt,bd,e⟩,d,hd,hb=>by
   rw[cI] at hb
   rw[qB6,pI,qHd h o mDj,jL]
   have hc:h+1+cL bd≤1000000000∧h+1+cL e≤1000000000:=by
    generalize cL bd=B at hb ⊢
    generalize cL e=E at hb ⊢
    omega
   cases hbk:qw o
   ·have e1:zU (d:Int) ⟨o,a,b,n,v,l,t,bk,bv,bt,bd,e⟩ (h:Int)=((d:Int),true):=by
     simp only[zU,hbk,Bool.false_eq_true,if_false]
     rw[show decide ((d:Int)≤1000)=true from decide_eq_true mDj]
    rw[e1,if_pos rfl]
    simp only[Bool.false_eq_true,if_false]
    exact yN.append (xW h bd d hd (by generalize cL bd=B at hc ⊢;omega)) (fun h9=>xW h e _ h9 (by generalize cL e=E at hc ⊢;omega))
   ·have e1:zU (d:Int) ⟨o,a,b,n,v,l,t,bk,bv,bt,bd,e⟩ (h:Int)=(((max d (h+1):Nat):Int),decide (max d (h+1)≤1000)):=by
     simp only[zU,hbk,if_true]
     have e2:wrap64 ((h:Int)+1)=((h+1:Nat):Int):=by unfold wrap64;omega
     rw[e2]
     have e3:max (d:Int) ((h+1:Nat):Int)=((max d (h+1):Nat):Int):=mDj
     rw[e3]
     have e4:decide (((max d (h+1):Nat):Int)≤1000)=decide (max d (h+1)≤1000):=decide_eq_decide.2 mDj
     rw[e4]
    rw[e1]
    simp only[if_true]
    by_cases h3:max d (h+1)≤1000
    ·rw[decide_eq_true h3,if_pos rfl]
     have h4:=yN.append (xW (h+1) bd (max d (h+1)) h3 hc.1) (fun h9=>xW (h+1) e _ h9 hc.2)
     rcases h4 with ⟨e2,hd2⟩|⟨r,e2,hr,hd2⟩
     ·exact .inl ⟨by rw[e2,Nat.max_assoc],by rw[← Nat.max_assoc];exact hd2⟩
     ·exact .inr ⟨r,e2,hr,by rw[← Nat.max_assoc];exact hd2⟩
    ·rw[decide_eq_false h3,if_neg mDp]
     exact .inr ⟨_,rfl,mDj,mDj⟩
theorem xW:∀(h:Nat) (l:List I) (d:Nat),d≤1000→h+cL l≤1000000000→yN (jL zU (xA (h:Int) l) (d:Int)) d (pL h l)
 | h,[],d,hd,_=>.inl ⟨by show((d:Int),true)=_;rw[pL,Nat.max_zero],by rw[pL,Nat.max_zero];exact hd⟩
 | h,x::l,d,hd,hb=>by
   rw[cL] at hb
   rw[xA,pL]
   exact yN.append (qFC h x d hd mDj) (fun h9=>xW h l _ h9 mDj)
end
theorem qFD (l:List I)(hb:cL l≤1000000000):min (jL zU (xA 0 l) 0).1 1001=((min (pL 0 l) 1001:Nat):Int):=by
 have h:=xW 0 l 0 mDj mDj
 rcases h with ⟨e,hd⟩|⟨r,e,hr,hd⟩
 ·have e':jL zU (xA 0 l) 0=(((max 0 (pL 0 l):Nat):Int),true):=e
  rw[e']
  show min ((max 0 (pL 0 l):Nat):Int) 1001=_
  omega
 ·have e':jL zU (xA 0 l) 0=((r:Int),false):=e
  rw[e']
  show min (r:Int) 1001=_
  omega
mutual
def qDM:I→I→Bool
 | ⟨o,a,b,n,v,l,t,bk,bv,bt,bd,e⟩,y=>qz ⟨o,a,b,n,v,l,t,bk,bv,bt,bd,e⟩ y && (jG bd y.body && jG e y.els)
def jG:List I→List I→Bool
 | [],[]=>true
 | [],_::_=>false
 | _::_,[]=>false
 | x::a,y::b=>qDM x y && jG a b
end
theorem qDI (x y:I):qDM x y=(qz x y && (jG x.body y.body && jG x.els y.els)):=by cases x;rw[qDM]
theorem qCn:∀(a b:List I),jG a b=true→a.length=b.length
 | [],[],_=>rfl
 | [],_::_,h=>by simp[jG] at h
 | _::_,[],h=>by simp[jG] at h
 | x::a,y::b,h=>by
   rw[jG,Bool.and_eq_true] at h
   rw[List.length_cons,List.length_cons,qCn a b h.2]
theorem qGb {a b:List I}(h:a.length≠b.length):jG a b=false:=by
 cases e:jG a b
 ·rfl
 ·exact absurd (qCn a b e) h
def mS:List Pr→Nat
 | []=>0
 | p::rs=>2*cL p.a+1+mS rs
def qBN:List Pr→Bool
 | []=>true
 | p::rs=>jG p.a p.b && qBN rs
theorem qBD:∀(a b:List I) (st:List Pr),a.length=b.length→xh a b st=none→jG a b=false
 | [],[],_,_,h=>by rw[xh] at h;cases h
 | [],y::b,_,hl,_=>by simp at hl
 | x::a,[],_,hl,_=>by simp at hl
 | x::a,y::b,st,hl,h=>by
   rw[xh] at h
   rw[jG,qDI]
   cases hf:qz x y
   ·rfl
   ·rw[if_pos hf] at h
    rw[qBD a b _ (by simpa using hl) h,Bool.and_false]
theorem qBG:∀(a b:List I) (st s2:List Pr),a.length=b.length→xh a b st=some s2→qBN s2=(jG a b && qBN st)∧mS s2=2*cL a+mS st∧s2.length=st.length+2*a.length
 | [],[],st,s2,_,h=>by
   rw[xh] at h
   obtain rfl:=Option.some.inj h
   simp[jG,cL]
 | [],y::b,_,_,hl,_=>by simp at hl
 | x::a,[],_,_,hl,_=>by simp at hl
 | x::a,y::b,st,s2,hl,h=>by
   rw[xh] at h
   cases hf:qz x y
   ·rw[if_neg (by rw[hf];simp)] at h
    cases h
   ·rw[if_pos hf] at h
    obtain⟨h1,h2,h3⟩:=qBG a b _ s2 (by simpa using hl) h
    refine⟨?_,?_,?_⟩
    ·rw[h1,jG,qDI,hf,qBN,qBN]
     cases jG x.body y.body <;> cases jG x.els y.els <;> cases jG a b <;> cases qBN st <;> rfl
    ·rw[h2,cL,qBc,mS,mS]
     show 2*cL a+(2*cL x.els+1+(2*cL x.body+1+mS st))=_
     generalize cL x.body=B
     generalize cL x.els=E
     generalize cL a=R
     generalize mS st=M
     omega
    ·rw[h3,List.length_cons,List.length_cons,List.length_cons]
     omega
theorem qGU:∀(l:List I),l.length≤cL l
 | []=>Nat.zero_le _
 | x::l=>by
   have:=qGU l
   rw[cL,qBc,List.length_cons]
   generalize cL x.body=B
   generalize cL x.els=E
   omega
theorem qFV:∀(st:List Pr),st.length≤mS st
 | []=>Nat.le_refl _
 | p::rs=>by
   have:=qFV rs
   rw[mS,List.length_cons]
   generalize cL p.a=B
   omega
theorem qDw:∀(k:Nat) (st:List Pr),mS st<k→mS st<1000000000000→qAd k st=some (qBN st)
 | 0,st,h,_=>absurd h (Nat.not_lt_zero _)
 | k+1,[],_,_=>by rw[qAd,qBN]
 | k+1,p::rs,h,h2=>by
   rw[mS] at h h2
   rw[qAd,qBN]
   by_cases e:p.a.length=p.b.length
   ·have hlen:=qGU p.a
    have hml:=qFV rs
    rw[if_pos e,if_pos (by generalize cL p.a=B at *;generalize mS rs=M at *;omega)]
    cases hp:xh p.a p.b rs with
    | none=>simp only;rw[qBD p.a p.b rs e hp,Bool.false_and]
    | some s2 =>
      obtain⟨h3,h4,h5⟩:=qBG p.a p.b rs s2 e hp
      simp only
      rw[qDw k s2 (by rw[h4];generalize cL p.a=B at *;generalize mS rs=M at *;omega) (by rw[h4];generalize cL p.a=B at *;generalize mS rs=M at *;omega),h3]
   ·rw[if_neg e,qGb e,Bool.false_and]
theorem qFB (a b:List I)(h:cL a≤1000000000):qAd (2*cL a+2) [⟨a,b⟩]=some (jG a b):=by
 rw[qDw _ _ (by rw[mS,mS];generalize cL a=B at *;omega) (by rw[mS,mS];generalize cL a=B at *;omega),qBN,qBN,Bool.and_true]
theorem qAq (x:I):qz x x=true:=by
 simp[qz]
mutual
theorem qD2:∀(x:I),qDM x x=true
 | ⟨o,a,b,n,v,l,t,bk,bv,bt,bd,e⟩=>by
   rw[qDM,qAq]
   show(true && (jG bd bd && jG e e))=true
   rw[yG bd,yG e]
   rfl
theorem yG:∀(l:List I),jG l l=true
 | []=>by rw[jG]
 | x::l=>by rw[jG,qD2 x,yG l];rfl
end
end Go.Proofs.YtobldeamemmokaaDoor.P
