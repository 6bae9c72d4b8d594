import Derived.Test.YtobldeamemmokaaDoorZa39
set_option linter.unusedVariables false
set_option linter.unusedSimpArgs false
set_option maxHeartbeats 64000000
namespace Go.Proofs.YtobldeamemmokaaDoor.P
open Go.RowKit Go.Proofs.YtobldeamemmokaaDoorW.PrintWords Go.Proofs.YtobldeamemmokaaDoorW.PrintLast Go.Proofs.YtobldeamemmokaaDoorW.PrintMore
structure xM (x:I):Prop where
 o:0≤x.op∧x.op<65536
 a:Du x.a
 b:Du x.b
 n:0≤x.n∧x.n<18446744073709551616
 v:Dv 16 x.v
 l:∀ c ∈ x.l,Du c
 t:∀ c ∈ x.t,0≤c∧c<256
 ll:x.l.length≤2000000
 tl:x.t.length<2000000
 k:(0≤x.bk∧x.bk<256)∧(0≤x.bv∧x.bv<256)∧Du x.bt
theorem Du0:Du 0:=⟨Int.le_refl 0,mDl⟩
theorem jx {o:Int}(ho:0≤o∧o<65536):xM {zI with op:=o}:=
 ⟨ho,Du0,Du0,⟨Int.le_refl 0,show(0:Int)<18446744073709551616 by decide⟩,⟨rfl,fun x hx=>by have:=List.eq_of_mem_replicate hx;omega⟩,(fun _ h=>by cases h),(fun _ h=>by cases h),show 0≤2000000 by decide,show 0<2000000 by decide,⟨⟨Int.le_refl 0,show(0:Int)<256 by decide⟩,⟨Int.le_refl 0,show(0:Int)<256 by decide⟩,Du0⟩⟩
theorem qEB {y x:I}(h:qz y x=true):y.op=x.op∧y.a=x.a∧y.b=x.b∧y.n=x.n∧y.v=x.v∧y.bk=x.bk∧y.bv=x.bv∧y.bt=x.bt∧y.l=x.l∧y.t=x.t:=by
 unfold qz at h
 simp only[Bool.and_eq_true,beq_iff_eq] at h
 obtain⟨h1,h2,h3,h4,h5,⟨h6,h7,h8⟩,h9,h10⟩:=h
 exact⟨h1,h2,h3,h4,h5,h6,h7,h8,h9,h10⟩
theorem fl {y x:I}(hb:y.body = [])(he:y.els = []):(qz y x && (x.body.length==0 && x.els.length==0))=true↔y=x:=by
 constructor
 ·intro h
  rw[Bool.and_eq_true,Bool.and_eq_true] at h
  obtain⟨h1,h2,h3⟩:=h
  obtain⟨e1,e2,e3,e4,e5,e6,e7,e8,e9,e10⟩:=qEB h1
  have b0:x.body = []:=List.eq_nil_of_length_eq_zero (eq_of_beq h2)
  have b1:x.els = []:=List.eq_nil_of_length_eq_zero (eq_of_beq h3)
  cases x
  cases y
  simp only at *
  subst e1 e2 e3 e4 e5 e6 e7 e8 e9 e10 hb he b0 b1
  rfl
 ·rintro rfl
  rw[qAq,hb,he]
  rfl
def qFL (K k:Nat)(im o:Int):Rd_ I:=fun b a bad=>yi K (k+1) b a bad im o
def Dim (im o:Int)(x:I):Prop:=x.op=o∧yj im x=true∧xM x
def Pim (K:Nat)(im:Int)(x:I):List Int:=(yd K im x).getD []
theorem zv {K k:Nat}{α:Type}{im o:Int}{R:Rd_ α}{D:α→Prop}{P:α→List Int}(h:Rdr R D P)(f:α→I)
 (hput:∀ q,D q→yd K im (f q)=some (P q))(hfit:∀ q,D q→(f q).op=o∧yj im (f q)=true∧xM (f q))(hf:∀ x,x.op=o→yj im x=true→xM x→∃ q,D q∧f q=x)
 (heq:∀ b a bad,Bs b→0≤a→yi K (k+1) b a bad im o=(R b a bad).map fun r=>(f r.1,r.2)):Rdr (qFL K k im o) (Dim im o) (Pim K im)∧∀ x,Dim im o x→yd K im x=some (Pim K im x):=by
 have hp:∀ q,D q→Pim K im (f q)=P q:=by
  intro q hq
  unfold Pim
  rw[hput q hq]
  rfl
 refine⟨(h.map f hp hfit (fun x hx=>hf x hx.1 hx.2.1 hx.2.2)).on heq,?_⟩
 intro x hx
 obtain⟨q,hq,rfl⟩:=hf x hx.1 hx.2.1 hx.2.2
 rw[hp q hq]
 exact hput q hq
theorem xa {K:Nat}(hK:OfK K){x:Int}(h:Du x):qX.f K (IntKind.u64.wrap x)=some (LebM.putU 9 x):=by
 obtain⟨h0,h1⟩:=h
 rw[LebM.u64w h0 mDj]
 exact LebM.PutU_ev h0 mDj K hK.le
theorem xT (x:Int):(LebM.putU 9 x).length<1000000:=by have:=(LebM.putU_len 9 x).2;omega
theorem u_r {K:Nat}(hK:OfK K):Rdr (uF K) Du (LebM.putU 9):=qCs hK.le
abbrev yX (K k:Nat)(im o:Int):Prop:=Rdr (qFL K k im o) (Dim im o) (Pim K im)∧∀ x,Dim im o x→yd K im x=some (Pim K im x)
theorem qJZ {K k:Nat}(hK:OfK K)(hk:k+1=2000000){im o:Int}(ho:0≤o∧o<65536)(him:im=2∨im=4∨im=6∨im=7∨im=8∨im=10∨im=12):yX K k im o:=by
 have hF:∀ x,yj im x=(qz {zI with op:=x.op,a:=x.a} x && (x.body.length==0 && x.els.length==0)):=by
  intro x;rcases him with rfl|rfl|rfl|rfl|rfl|rfl|rfl <;> rfl
 refine zv (u_r hK) (fun a=>{zI with op:=o,a:=a}) ?_ ?_ ?_ ?_
 ·intro q hq
  rw[← xa hK hq]
  rcases him with rfl|rfl|rfl|rfl|rfl|rfl|rfl <;> rfl
 ·intro q hq
  exact⟨rfl,by rw[hF];exact(fl rfl rfl).2 rfl,{jx ho with a:=hq}⟩
 ·intro x hx h hr
  rw[hF] at h
  exact⟨x.a,hr.a,by rw[← hx];exact(fl rfl rfl).1 h⟩
 ·intro b a bad _ _
  rcases him with rfl|rfl|rfl|rfl|rfl|rfl|rfl <;> rfl
theorem qJM {K k:Nat}(hK:OfK K)(hk:k+1=2000000){im o:Int}(ho:0≤o∧o<65536)(him:im=5∨im=9∨im=11):yX K k im o:=by
 have hF:∀ x,yj im x=(qz {zI with op:=x.op,a:=x.a,b:=x.b} x && (x.body.length==0 && x.els.length==0)):=by
  intro x;rcases him with rfl|rfl|rfl <;> rfl
 refine zv ((u_r hK).bind (fun _=>u_r hK)) (fun q=>{zI with op:=o,a:=q.1,b:=q.2}) ?_ ?_ ?_ ?_
 ·intro q hq
  have e:yd K im {zI with op:=o,a:=q.1,b:=q.2}=(qX.f K (IntKind.u64.wrap q.1)).bind fun r=>(qX.f K (IntKind.u64.wrap q.2)).bind fun p=>if r.length<1000000∧p.length<1000000 then some (r++p) else none:=by
   rcases him with rfl|rfl|rfl <;> rfl
  rw[e,xa hK hq.1,xa hK hq.2]
  simp only[Option.bind_some]
  rw[if_pos ⟨xT _,xT _⟩]
 ·intro q hq
  exact⟨rfl,by rw[hF];exact(fl rfl rfl).2 rfl,{jx ho with a:=hq.1,b:=hq.2}⟩
 ·intro x hx h hr
  rw[hF] at h
  exact⟨(x.a,x.b),⟨hr.a,hr.b⟩,by rw[← hx];exact(fl rfl rfl).1 h⟩
 ·intro b a bad _ _
  have e:yi K (k+1) b a bad im o=(uF K b a bad).bind fun r=>(uF K b r.2.1 r.2.2).map fun q=>({zI with op:=o,a:=r.1,b:=q.1},q.2.1,q.2.2):=by
   rcases him with rfl|rfl|rfl <;> rfl
  rw[e]
  cases uF K b a bad with
  | none=>rfl
  | some r=>simp only[Option.bind_some,Option.map_map];rfl
theorem qJ2 {K k:Nat}(hK:OfK K)(hk:k+1=2000000){o:Int}(ho:0≤o∧o<65536):yX K k 14 o:=by
 refine zv qAH (fun _=>zop o) (fun _ _=>rfl) (fun _ _=>⟨rfl,(fl rfl rfl).2 rfl,jx ho⟩) ?_ (fun _ _ _ _ _=>rfl)
 intro x hx h hr
 exact⟨(),trivial,by rw[← hx];exact(fl rfl rfl).1 h⟩
theorem qHv {b:List Int}{a:Int}{bad:Bool}(ha:0≤a):0≤(zY b a bad).1:=xP ha
theorem qJE {K k:Nat}(hK:OfK K)(hk:k+1=2000000){o:Int}(ho:0≤o∧o<65536):yX K k 15 o:=by
 refine zv (qAH.bind (fun _=>qAH)) (fun _=>zop o) (fun _ _=>rfl) (fun _ _=>⟨rfl,(fl rfl rfl).2 rfl,jx ho⟩) ?_ ?_
 ·intro x hx h hr
  exact⟨((),()),⟨trivial,trivial⟩,by rw[← hx];exact(fl rfl rfl).1 h⟩
 ·intro b a bad _ ha
  show(if 0≤(zY b a bad).1 then _ else _)=_
  rw[if_pos (qHv ha)]
  rfl
theorem qJu {K k:Nat}(hK:OfK K)(hk:k+1=2000000){o:Int}(ho:0≤o∧o<65536):yX K k 13 o:=by
 refine zv ((u_r hK).bind (fun _=>qAH)) (fun q=>{zI with op:=o,a:=q.1}) ?_ ?_ ?_ ?_
 ·intro q hq
  show((qX.f K (IntKind.u64.wrap q.1)).bind fun r=>if r.length<1000000 then some (r ++ [0]) else none)=_
  rw[xa hK hq.1,Option.bind_some,if_pos (xT _)]
 ·intro q hq
  exact⟨rfl,(fl rfl rfl).2 rfl,{jx ho with a:=hq.1}⟩
 ·intro x hx h hr
  exact⟨(x.a,()),⟨hr.a,trivial⟩,by rw[← hx];exact(fl rfl rfl).1 h⟩
 ·intro b a bad hb ha
  show((uF K b a bad).bind fun r=>if 0≤r.2.1 then some ({zI with op:=o,a:=r.1},(zY b r.2.1 r.2.2).1,(zY b r.2.1 r.2.2).2) else none)=_
  cases h:uF K b a bad with
  | none=>rfl
  | some r =>
    rw[Option.bind_some,if_pos ((u_r hK).pos _ _ _ _ _ _ hb ha h)]
    rfl
theorem xc {n:Int}(h0:0≤n)(h1:n<18446744073709551616):jD n=n % 4294967296:=by
 unfold jD
 obtain⟨m,rfl⟩:=Int.eq_ofNat_of_zero_le h0
 rw[show bits .and .u64 (m:Int) 4294967295=IntKind.u64.wrap ((BitVec.ofInt 64 (m:Int) &&& BitVec.ofInt 64 4294967295).toNat:Int) from rfl]
 rw[BitVec.toNat_and,show(BitVec.ofInt 64 (m:Int))=BitVec.ofNat 64 m by simp,BitVec.toNat_ofNat,show(BitVec.ofInt 64 4294967295).toNat=2 ^ 32 - 1 from rfl,Nat.and_two_pow_sub_one_eq_mod]
 rw[LebM.u64m]
 omega
theorem qCN {n:Int}(h0:0≤n)(h1:n<4294967296):u8n n=n % 256:=by
 unfold u8n
 obtain⟨m,rfl⟩:=Int.eq_ofNat_of_zero_le h0
 rw[show bits .and .u32 (m:Int) 255=IntKind.u32.wrap ((BitVec.ofInt 32 (m:Int) &&& BitVec.ofInt 32 255).toNat:Int) from rfl]
 rw[BitVec.toNat_and,show(BitVec.ofInt 32 (m:Int))=BitVec.ofNat 32 m by simp,BitVec.toNat_ofNat,show(BitVec.ofInt 32 255).toNat=2 ^ 8 - 1 from rfl,Nat.and_two_pow_sub_one_eq_mod]
 show _ % 4294967296=_
 omega
theorem qA4 {x:Int}(h:Du x):IntKind.u64.wrap x=x:=LebM.u64w h.1 (by have:=h.2;omega)
theorem qJ4 {K k:Nat}(hK:OfK K)(hk:k+1=2000000){o:Int}(ho:0≤o∧o<65536):yX K k 16 o:=by
 refine zv ((u_r hK).bind (fun _=>u_r hK)) (fun q=>{zI with op:=o,a:=q.1,n:=IntKind.u64.wrap q.2}) ?_ ?_ ?_ ?_
 ·intro q hq
  show((qX.f K (IntKind.u64.wrap q.1)).bind fun r=>(qX.f K (IntKind.u64.wrap q.2)).bind fun p=>if r.length<1000000∧p.length<1000000 then some (r++p) else none)=_
  rw[xa hK hq.1,xa hK hq.2]
  simp only[Option.bind_some]
  rw[if_pos ⟨xT _,xT _⟩]
 ·intro q hq
  have h2:=hq.2
  refine⟨rfl,?_,?_⟩
  ·refine(fl rfl rfl).2 ?_
   simp only
   rw[qA4 h2,xc h2.1 (by have:=h2.2;omega),Int.emod_eq_of_lt h2.1 h2.2]
  ·refine {jx ho with a:=hq.1,n:=?_}
   simp only
   rw[qA4 h2]
   exact⟨h2.1,by have:=h2.2;omega⟩
 ·intro x hx h hr
  have e:=(fl (y:={zI with op:=x.op,a:=x.a,n:=jD x.n}) rfl rfl).1 h
  have en:jD x.n=x.n:=congrArg I.n e
  have d2:Du x.n:=by
   have h2:=xc hr.n.1 hr.n.2
   unfold Du
   omega
  refine⟨(x.a,x.n),⟨hr.a,d2⟩,?_⟩
  simp only
  rw[qA4 d2,← hx]
  rw[en] at e
  exact e
 ·intro b a bad _ _
  show((uF K b a bad).bind fun r=>(uF K b r.2.1 r.2.2).map fun q=>({zI with op:=o,a:=r.1,n:=IntKind.u64.wrap q.1},q.2.1,q.2.2))=_
  cases uF K b a bad with
  | none=>rfl
  | some r=>simp only[Option.bind_some,Option.map_map];rfl
theorem qI7 {K k:Nat}(hK:OfK K)(hk:k+1=2000000){o:Int}(ho:0≤o∧o<65536):yX K k 17 o:=by
 refine zv ((u_r hK).bind (fun _=>(u_r hK).bind (fun _=>yR))) (fun q=>{zI with op:=o,a:=q.1,b:=IntKind.u32.wrap q.2.2,n:=IntKind.u64.wrap q.2.1}) ?_ ?_ ?_ ?_
 ·intro q hq
  obtain⟨h1,h2,h3⟩:=hq
  show((qX.f K (IntKind.u64.wrap q.1)).bind fun r=>(qX.f K (IntKind.u64.wrap q.2.1)).bind fun p=>if r.length<1000000∧p.length<1000000 then some ((r++p) ++ [IntKind.u32.wrap q.2.2 % 256]) else none)=_
  rw[xa hK h1,xa hK h2,zr h3.1 mDj,Int.emod_eq_of_lt h3.1 h3.2]
  simp only[Option.bind_some]
  rw[if_pos ⟨xT _,xT _⟩,List.append_assoc]
 ·intro q hq
  obtain⟨h1,h2,h3⟩:=hq
  have eb:IntKind.u32.wrap q.2.2=q.2.2:=zr h3.1 mDj
  refine⟨rfl,?_,?_⟩
  ·refine(fl rfl rfl).2 ?_
   simp only
   rw[eb,qA4 h2,xc h2.1 (by have:=h2.2;omega),Int.emod_eq_of_lt h2.1 h2.2,qCN h3.1 mDj,Int.emod_eq_of_lt h3.1 h3.2]
  ·refine {jx ho with a:=h1,n:=?_,b:=?_}
   ·simp only
    rw[eb]
    exact⟨h3.1,mDj⟩
   ·simp only
    rw[qA4 h2]
    exact⟨h2.1,by have:=h2.2;omega⟩
 ·intro x hx h hr
  have e:=(fl (y:={zI with op:=x.op,a:=x.a,b:=u8n x.b,n:=jD x.n}) rfl rfl).1 h
  have en:jD x.n=x.n:=congrArg I.n e
  have eb:u8n x.b=x.b:=congrArg I.b e
  have d2:Du x.n:=by
   have h2:=xc hr.n.1 hr.n.2
   unfold Du
   omega
  have d3:0≤x.b∧x.b<256:=by
   have h2:=qCN hr.b.1 hr.b.2
   omega
  refine⟨(x.a,x.n,x.b),⟨hr.a,d2,d3⟩,?_⟩
  simp only
  rw[qA4 d2,zr d3.1 mDj,← hx]
  rw[en,eb] at e
  exact e
 ·intro b a bad hb ha
  show((uF K b a bad).bind fun r=>(uF K b r.2.1 r.2.2).bind fun q=>if 0≤q.2.1 then some ({zI with op:=o,a:=r.1,b:=IntKind.u32.wrap (q8 b q.2.1 q.2.2).1,n:=IntKind.u64.wrap q.1},(q8 b q.2.1 q.2.2).2.1,(q8 b q.2.1 q.2.2).2.2) else none)=_
  cases h:uF K b a bad with
  | none=>rfl
  | some r =>
    simp only[Option.bind_some]
    have p1:=(u_r hK).pos _ _ _ _ _ _ hb ha h
    cases h2:uF K b r.2.1 r.2.2 with
    | none=>rfl
    | some q =>
      simp only[Option.bind_some,Option.map_some]
      rw[if_pos ((u_r hK).pos _ _ _ _ _ _ hb p1 h2)]
theorem qJl {K k:Nat}(hK:OfK K)(hk:k+1=2000000){o:Int}(ho:0≤o∧o<65536):yX K k 18 o:=by
 refine zv yR (fun q=>{zI with op:=o,b:=IntKind.u32.wrap q}) ?_ ?_ ?_ (fun _ _ _ _ _=>rfl)
 ·intro q h3
  show some [IntKind.u32.wrap q % 256]=_
  rw[zr h3.1 mDj,Int.emod_eq_of_lt h3.1 h3.2]
 ·intro q h3
  have eb:IntKind.u32.wrap q=q:=zr h3.1 mDj
  refine⟨rfl,?_,?_⟩
  ·refine(fl rfl rfl).2 ?_
   simp only
   rw[eb,qCN h3.1 mDj,Int.emod_eq_of_lt h3.1 h3.2]
  ·refine {jx ho with b:=?_}
   simp only
   rw[eb]
   exact⟨h3.1,mDj⟩
 ·intro x hx h hr
  have e:=(fl (y:={zI with op:=x.op,b:=u8n x.b}) rfl rfl).1 h
  have eb:u8n x.b=x.b:=congrArg I.b e
  have d3:0≤x.b∧x.b<256:=by
   have h2:=qCN hr.b.1 hr.b.2
   omega
  refine⟨x.b,d3,?_⟩
  simp only
  rw[zr d3.1 mDj,← hx]
  rw[eb] at e
  exact e
theorem qJT {K k:Nat}(hK:OfK K)(hk:k+1=2000000){im o:Int}(ho:0≤o∧o<65536)(him:im=19∨im=24):yX K k im o:=by
 have hF:∀ x,yj im x=(qz {zI with op:=x.op,v:=x.v} x && (x.body.length==0 && x.els.length==0)):=by
  intro x;rcases him with rfl|rfl <;> rfl
 refine zv qHu (fun q=>{zI with op:=o,v:=q}) ?_ ?_ ?_ ?_
 ·intro q _
  rcases him with rfl|rfl <;> rfl
 ·intro q hq
  exact⟨rfl,by rw[hF];exact(fl rfl rfl).2 rfl,{jx ho with v:=hq}⟩
 ·intro x hx h hr
  rw[hF] at h
  exact⟨x.v,hr.v,by rw[← hx];exact(fl rfl rfl).1 h⟩
 ·intro b a bad _ _
  rcases him with rfl|rfl <;> rfl
theorem qEj {K:Nat}(hK:OfK K){x:Int}(h0 : -9223372036854775808≤x)(h1:x≤9223372036854775807):qu.f K x=some (LebM.putS 9 x):=LebM.PutS_ev h0 h1 K hK.le
theorem qA5 (x:Int):wrap32 x=(x+2147483648) % 4294967296 - 2147483648:=by unfold wrap32;omega
theorem qIX {K k:Nat}(hK:OfK K)(hk:k+1=2000000){o:Int}(ho:0≤o∧o<65536):yX K k 20 o:=by
 refine zv (qGM (K:=K) (w:=32) hK.le mDl mDl) (fun q=>{zI with op:=o,n:=q % 4294967296}) ?_ ?_ ?_ ?_
 ·intro q hq
  unfold Dsg at hq
  rw[show(2:Int) ^ ((32:Int).toNat - 1)=2147483648 from rfl] at hq
  show qu.f K (wrap64 (wrap32 (q % 4294967296)))=_
  have e:wrap32 (q % 4294967296)=q:=by rw[qA5];omega
  rw[e,LebM.w64 mDj mDj]
  exact qEj hK mDj mDj
 ·intro q hq
  have h0:0≤q % 4294967296∧q % 4294967296<4294967296:=mDj
  refine⟨rfl,?_,{jx ho with n:=?_}⟩
  ·refine(fl rfl rfl).2 ?_
   simp only
   rw[xc h0.1 mDj,Int.emod_emod_of_dvd _ (Int.dvd_refl _)]
  ·simp only
   omega
 ·intro x hx h hr
  have e:=(fl (y:={zI with op:=x.op,n:=jD x.n}) rfl rfl).1 h
  have en:jD x.n=x.n:=congrArg I.n e
  have h2:=xc hr.n.1 hr.n.2
  rw[en] at e
  refine⟨wrap32 x.n,?_,?_⟩
  ·unfold Dsg
   rw[show(2:Int) ^ ((32:Int).toNat - 1)=2147483648 from rfl,qA5]
   omega
  ·simp only
   rw[show wrap32 x.n % 4294967296=x.n by rw[qA5];omega,← hx]
   exact e
 ·intro b a bad _ _
  show((sF K b a 32 bad).map fun r=>({zI with op:=o,n:=r.1 % 4294967296},r.2.1,r.2.2))=_
  cases sF K b a 32 bad <;> rfl
theorem qIm {K k:Nat}(hK:OfK K)(hk:k+1=2000000){o:Int}(ho:0≤o∧o<65536):yX K k 21 o:=by
 refine zv (qGM (K:=K) (w:=64) hK.le mDl mDl) (fun q=>{zI with op:=o,n:=IntKind.u64.wrap q}) ?_ ?_ ?_ ?_
 ·intro q hq
  unfold Dsg at hq
  rw[show(2:Int) ^ ((64:Int).toNat - 1)=9223372036854775808 from rfl] at hq
  show qu.f K (wrap64 (IntKind.u64.wrap q))=_
  have e:wrap64 (IntKind.u64.wrap q)=q:=by rw[LebM.u64m];unfold wrap64;omega
  rw[e]
  exact qEj hK mDj mDj
 ·intro q hq
  refine⟨rfl,(fl rfl rfl).2 rfl,{jx ho with n:=?_}⟩
  simp only
  rw[LebM.u64m]
  omega
 ·intro x hx h hr
  have e:=(fl (y:={zI with op:=x.op,n:=x.n}) rfl rfl).1 h
  have h2:=hr.n
  refine⟨wrap64 x.n,?_,?_⟩
  ·unfold Dsg
   rw[show(2:Int) ^ ((64:Int).toNat - 1)=9223372036854775808 from rfl]
   unfold wrap64
   omega
  ·simp only
   rw[show IntKind.u64.wrap (wrap64 x.n)=x.n by rw[LebM.u64m];unfold wrap64;omega,← hx]
   exact e
 ·intro b a bad _ _
  show((sF K b a 64 bad).map fun r=>({zI with op:=o,n:=IntKind.u64.wrap r.1},r.2.1,r.2.2))=_
  cases sF K b a 64 bad <;> rfl
theorem qHT:∀(m k i:Nat) (x:Int) (l:List Int),0≤x→x<18446744073709551616→i+m≤8→m<k→l.length=i→zD.l0 k x l ((i:Int)+m) (i:Int)=some (l++yh m (x / 256 ^ i))
 | 0,k+1,i,x,l,h0,h1,hi,hk,hl=>by
   rw[zD.l0,if_neg mDj,yh,List.append_nil]
 | m+1,k+1,i,x,l,h0,h1,hi,hk,hl=>by
   have e8:wrap64 (8*(i:Int))=((8*i:Nat):Int):=by unfold wrap64;omega
   have e9:wrap64 ((i:Int)+1)=((i+1:Nat):Int):=by unfold wrap64;omega
   rw[zD.l0,if_pos mDj,e8,if_pos mDj,if_pos mDj,e9]
   have es:shr .u64 x ((8*i:Nat):Int)=x / 256 ^ i:=by
    rw[qDl]
    show x / 2 ^ min (((8*i:Nat):Int)).toNat 64=_
    rw[Int.toNat_natCast,Nat.min_eq_left mDj]
   have h2:=qHT m k (i+1) x (l ++ [shr .u64 x ((8*i:Nat):Int) % 256]) h0 h1 mDj mDj (by rw[List.length_append,List.length_singleton,hl])
   rw[show((i+1:Nat):Int)+(m:Int)=(i:Int)+((m+1:Nat):Int) by omega] at h2
   have hpp:(0:Int)≤256 ^ i:=by rw[qDl];exact Int.le_of_lt (Int.pow_pos mDl)
   rw[h2,es,yh,Int.pow_succ,show x / (256 ^ i*256)=x / 256 ^ i / 256 by first|rw[Int.ediv_ediv_of_nonneg hpp]|rw[Int.ediv_ediv hpp]|rw[Int.ediv_mul hpp]]
   simp
 | m,0,i,x,l,h0,h1,hi,hk,hl=>by omega
theorem qEI {K:Nat}(hK:OfK K)(m:Nat)(hm:m≤8){x:Int}(h0:0≤x)(h1:x<18446744073709551616):zD.f K x (m:Int)=some (yh m x):=by
 have h:=qHT m K 0 x [] h0 h1 mDj (by have:=hK.le;omega) rfl
 rw[Int.pow_zero,Int.ediv_one,List.nil_append] at h
 unfold zD.f
 rw[← h]
 congr 1
 omega
theorem qIz {K k:Nat}(hK:OfK K)(hk:k+1=2000000){o:Int}(ho:0≤o∧o<65536):yX K k 22 o:=by
 refine zv (qEM 4 mDl) (fun q=>{zI with op:=o,n:=q}) ?_ ?_ ?_ (fun _ _ _ _ _=>rfl)
 ·intro q hq
  have hq2:q<4294967296:=hq.2
  exact qEI (x:=q) hK 4 mDl hq.1 mDj
 ·intro q hq
  have hq2:q<4294967296:=hq.2
  refine⟨rfl,?_,{jx ho with n:=⟨hq.1,show q<18446744073709551616 by omega⟩}⟩
  refine(fl rfl rfl).2 ?_
  simp only
  rw[xc hq.1 mDj,Int.emod_eq_of_lt hq.1 hq2]
 ·intro x hx h hr
  have e:=(fl (y:={zI with op:=x.op,n:=jD x.n}) rfl rfl).1 h
  have en:jD x.n=x.n:=congrArg I.n e
  have h2:=xc hr.n.1 hr.n.2
  rw[en] at e
  exact⟨x.n,⟨hr.n.1,by show x.n<4294967296;omega⟩,by rw[← hx];exact e⟩
theorem qI0 {K k:Nat}(hK:OfK K)(hk:k+1=2000000){o:Int}(ho:0≤o∧o<65536):yX K k 23 o:=by
 refine zv (qEM 8 mDl) (fun q=>{zI with op:=o,n:=q}) ?_ ?_ ?_ (fun _ _ _ _ _=>rfl)
 ·intro q hq
  exact qEI hK 8 mDl hq.1 hq.2
 ·intro q hq
  exact⟨rfl,(fl rfl rfl).2 rfl,{jx ho with n:=⟨hq.1,hq.2⟩}⟩
 ·intro x hx h hr
  have e:=(fl (y:={zI with op:=x.op,n:=x.n}) rfl rfl).1 h
  exact⟨x.n,⟨hr.n.1,hr.n.2⟩,by rw[← hx];exact e⟩
theorem qIi {c:Int}(h:qAf c=true):tyB c=true:=by
 unfold qAf jI.f at h
 by_cases h1:c=112
 ·subst h1;rfl
 ·rw[if_neg h1] at h
  have h2:c=111:=eq_of_beq h
  subst h2;rfl
theorem qJ1 {K k:Nat}(hK:OfK K)(hk:k+1=2000000){o:Int}(ho:0≤o∧o<65536):yX K k 25 o:=by
 have hF:∀ x,yj 25 x=if x.t.length=1 then (qAf (rd x.t 0) && (qz {zI with op:=x.op,t:=x.t} x && (x.body.length==0 && x.els.length==0))) else false:=fun x=>rfl
 refine zv (qEU.check qAf) (fun q=>{zI with op:=o,t:=[q]}) (fun q _=>rfl) ?_ ?_ (fun _ _ _ _ _=>rfl)
 ·intro q hq
  refine⟨rfl,?_,{jx ho with t:=?_,tl:=by show 1<2000000;decide}⟩
  ·rw[hF]
   refine(if_pos rfl).trans ?_
   rw[Bool.and_eq_true]
   exact⟨hq.2,(fl rfl rfl).2 rfl⟩
  ·intro c hc
   rw[List.mem_singleton] at hc
   rw[hc]
   exact hq.1.1
 ·intro x hx h hr
  rw[hF] at h
  by_cases h1:x.t.length=1
  ·rw[if_pos h1,Bool.and_eq_true] at h
   obtain⟨c,hc⟩:∃ c,x.t = [c]:=List.length_eq_one_iff.1 h1
   have e:=(fl (y:={zI with op:=x.op,t:=x.t}) rfl rfl).1 h.2
   have hr1:=h.1
   rw[hc] at hr1 e
   have hr2:qAf c=true:=hr1
   have ht:tyB c=true:=qIi hr2
   exact⟨c,⟨⟨hr.t c (by rw[hc];exact List.mem_singleton_self c),ht⟩,hr2⟩,by rw[← hx];exact e⟩
  ·rw[if_neg h1] at h
   cases h
theorem qJQ {K k:Nat}(hK:OfK K)(hk:k+1=2000000){o:Int}(ho:0≤o∧o<65536):yX K k 26 o:=by
 have hF:∀ x,yj 26 x=(x.t.all tyB && (qz {zI with op:=x.op,t:=x.t} x && (x.body.length==0 && x.els.length==0))):=fun x=>rfl
 refine zv ((u_r hK).bind (fun n=>qGm qEU (fun _ _=>Nat.le_refl _) k mDj mDj n)) (fun q=>{zI with op:=o,t:=q.2}) ?_ ?_ ?_ ?_
 ·intro q hq
  obtain⟨h1,h2,h3,h4⟩:=hq
  have e:q.1=(q.2.length:Int):=by have:=h1.1;omega
  show((qX.f K (IntKind.u64.wrap (IntKind.u32.wrap (q.2.length:Int)))).bind fun r=>if r.length<1000000∧q.2.length<1000000000000 then some (r++q.2) else none)=_
  rw[← e,zr h1.1 h1.2,xa hK h1,Option.bind_some,if_pos ⟨xT _,mDj⟩,qDY]
 ·intro q hq
  obtain⟨h1,h2,h3,h4⟩:=hq
  refine⟨rfl,?_,{jx ho with t:=fun c hc=>(h4 c hc).1,tl:=by show q.2.length<_;omega}⟩
  rw[hF,Bool.and_eq_true]
  exact⟨List.all_eq_true.2 (fun c hc=>(h4 c hc).2),(fl rfl rfl).2 rfl⟩
 ·intro x hx h hr
  rw[hF,Bool.and_eq_true] at h
  have e:=(fl (y:={zI with op:=x.op,t:=x.t}) rfl rfl).1 h.2
  have hl:=hr.tl
  refine⟨((x.t.length:Int),x.t),⟨⟨mDj,by show(x.t.length:Int)<_;omega⟩,mDp,(show x.t.length<k+1 by omega),fun c hc=>⟨hr.t c hc,List.all_eq_true.1 h.1 c hc⟩⟩,by rw[← hx];exact e⟩
 ·intro b a bad hb ha
  show((uF K b a bad).bind fun r0=>if 0≤r0.2.1 then (xw K b (k+1) r0.1 0 [] r0.2.1 r0.2.2).map fun r=>({zI with op:=o,t:=r.1},r.2.1,r.2.2) else none)=_
  cases h:uF K b a bad with
  | none=>rfl
  | some r =>
    rw[Option.bind_some,if_pos ((u_r hK).pos _ _ _ _ _ _ hb ha h),Option.bind_some,qCr,Option.map_map]
    rfl
theorem qE0 {K:Nat}(hK:OfK K):∀(l r:List Int),(∀ c ∈ l,Du c)→r.length+11*l.length<1000000000000→xz K r l=some (r++l.flatMap (LebM.putU 9))
 | [],r,_,_=>by rw[xz,List.flatMap_nil,List.append_nil]
 | c::l,r,h,hl=>by
   have h1:=(LebM.putU_len 9 c).2
   rw[List.length_cons] at hl
   rw[xz,xa hK (h c (List.mem_cons_self ..)),Option.bind_some,if_pos ⟨mDj,xT c⟩,qE0 hK l _ (fun x hx=>h x (List.mem_cons_of_mem _ hx)) (by rw[List.length_append];omega),List.flatMap_cons,List.append_assoc]
theorem qJ0 {K k:Nat}(hK:OfK K)(hk:k+1=2000000){o:Int}(ho:0≤o∧o<65536):yX K k 3 o:=by
 have hF:∀ x,yj 3 x=(decide (0<x.l.length) && (qz {zI with op:=x.op,l:=x.l} x && (x.body.length==0 && x.els.length==0))):=fun x=>rfl
 refine zv ((u_r hK).bind (fun n=>(qGm (u_r hK) (fun x _=>(LebM.putU_len 9 x).1) k mDj mDj n).bind (fun _=>u_r hK))) (fun q=>{zI with op:=o,l:=q.2.1 ++ [q.2.2]}) ?_ ?_ ?_ ?_
 ·intro q hq
  obtain⟨h1,⟨h2,h3,h4⟩,h5⟩:=hq
  have e:q.1=(q.2.1.length:Int):=by have:=h1.1;omega
  have hall:∀ c ∈ q.2.1 ++ [q.2.2],Du c:=by
   intro c hc
   rcases List.mem_append.1 hc with hc|hc
   ·exact h4 c hc
   ·rw[List.mem_singleton] at hc
    rw[hc];exact h5
  show((qX.f K (IntKind.u64.wrap (IntKind.u32.wrap (((q.2.1 ++ [q.2.2]).length:Int) - 1)))).bind fun r=>xz K r (q.2.1 ++ [q.2.2]))=_
  rw[List.length_append,List.length_singleton,show((q.2.1.length+1:Nat):Int) - 1=q.1 by omega,zr h1.1 h1.2,xa hK h1,Option.bind_some,
   qE0 hK _ _ hall (by have:=(LebM.putU_len 9 q.1).2;rw[List.length_append,List.length_singleton];omega),List.flatMap_append]
  simp
 ·intro q hq
  obtain⟨h1,⟨h2,h3,h4⟩,h5⟩:=hq
  refine⟨rfl,?_,{jx ho with l:=?_,ll:=?_}⟩
  ·rw[hF,Bool.and_eq_true]
   exact⟨decide_eq_true mDp,(fl rfl rfl).2 rfl⟩
  ·intro c hc
   rcases List.mem_append.1 hc with hc|hc
   ·exact h4 c hc
   ·rw[List.mem_singleton] at hc
    rw[hc];exact h5
  ·show(q.2.1 ++ [q.2.2]).length≤2000000
   rw[List.length_append,List.length_singleton]
   omega
 ·intro x hx h hr
  rw[hF,Bool.and_eq_true] at h
  have e:=(fl (y:={zI with op:=x.op,l:=x.l}) rfl rfl).1 h.2
  have h0:=of_decide_eq_true h.1
  have hl:=hr.ll
  have hne:x.l≠[]:=by intro hc;rw[hc] at h0;exact absurd h0 mDl
  have ed:x.l.dropLast ++ [x.l.getLast hne]=x.l:=List.dropLast_concat_getLast hne
  have el:x.l.dropLast.length=x.l.length - 1:=List.length_dropLast
  refine⟨((x.l.dropLast.length:Int),(x.l.dropLast,x.l.getLast hne)),⟨⟨mDj,by show(x.l.dropLast.length:Int)<_;omega⟩,⟨mDp,(show x.l.dropLast.length<k+1 by omega),fun c hc=>hr.l c (List.dropLast_subset _ hc)⟩,hr.l _ (List.getLast_mem hne)⟩,?_⟩
  simp only
  rw[ed,← hx]
  exact e
 ·intro b a bad hb ha
  show((uF K b a bad).bind fun r0=>(xx K b (k+1) r0.1 0 [] r0.2.1 r0.2.2).bind fun l=>(uF K b l.2.1 l.2.2).bind fun q=>if l.1.length<1000000000000 then some ({zI with op:=o,l:=l.1 ++ [q.1]},q.2.1,q.2.2) else none)=_
  cases h:uF K b a bad with
  | none=>rfl
  | some r =>
    simp only[Option.bind_some,qCE]
    cases h2:gL (uF K) b (k+1) r.1 0 [] r.2.1 r.2.2 with
    | none=>rfl
    | some l =>
      obtain⟨l,e,bd⟩:=l
      have hlen:=(qD0 (u_r hK) hb _ _ _ _ _ _ _ _ _ ((u_r hK).pos _ _ _ _ _ _ hb ha h) h2).2
      rw[List.length_nil] at hlen
      simp only[Option.bind_some]
      cases uF K b e bd with
      | none=>rfl
      | some q =>
        simp only[Option.bind_some,Option.map_some]
        rw[if_pos mDj]
def qGQ (im:Int):Prop:=im≠1∧im≠2∧im≠3∧im≠4∧im≠5∧im≠6∧im≠7∧im≠8∧im≠9∧im≠10∧im≠11∧im≠12∧im≠13∧im≠14∧im≠15∧im≠16∧im≠17∧im≠18∧im≠19∧im≠20∧im≠21∧im≠22∧im≠23∧im≠24∧im≠25∧im≠26
theorem qJW {K k:Nat}(hK:OfK K)(hk:k+1=2000000){im o:Int}(ho:0≤o∧o<65536)(him:qGQ im):yX K k im o:=by
 unfold qGQ at him
 have hF:∀ x,yj im x=(qz {zI with op:=x.op} x && (x.body.length==0 && x.els.length==0)):=by
  intro x
  unfold yj
  rw[if_neg mDj,if_neg mDj,if_neg mDj,if_neg mDj,if_neg mDj,if_neg mDj,if_neg mDj,if_neg mDj,if_neg mDj,if_neg mDj,if_neg mDj,if_neg mDj]
 have hB:∀ x,yd K im x=some []:=by
  intro x
  unfold yd
  rw[if_neg mDj,if_neg mDj,if_neg mDj,if_neg mDj,if_neg mDj,if_neg mDj,if_neg mDj,if_neg mDj,if_neg mDj,if_neg mDj,if_neg mDj,if_neg mDj,if_neg mDj,if_neg mDj,if_neg mDj,if_neg mDj,if_neg mDj]
 refine zv (Rdr.ret ()) (fun _=>zop o) (fun _ _=>hB _) (fun _ _=>⟨rfl,by rw[hF];exact(fl rfl rfl).2 rfl,jx ho⟩) ?_ ?_
 ·intro x hx h hr
  rw[hF] at h
  exact⟨(),rfl,by rw[← hx];exact(fl rfl rfl).1 h⟩
 ·intro b a bad _ _
  unfold yi
  rw[if_neg mDj,if_neg mDj,if_neg mDj,if_neg mDj,if_neg mDj,if_neg mDj,if_neg mDj,if_neg mDj,if_neg mDj,if_neg mDj,if_neg mDj,if_neg mDj,if_neg mDj,if_neg mDj,if_neg mDj,if_neg mDj]
  rfl
theorem qCY {K k:Nat}(hK:OfK K)(hk:k+1=2000000){im o:Int}(ho:0≤o∧o<65536)(h1:im≠1):yX K k im o:=by
 by_cases c1:im=2∨im=4∨im=6∨im=7∨im=8∨im=10∨im=12
 ·exact qJZ hK hk ho c1
 by_cases c2:im=5∨im=9∨im=11
 ·exact qJM hK hk ho c2
 by_cases c3:im=19∨im=24
 ·exact qJT hK hk ho c3
 by_cases k3:im=3
 ·subst k3;exact qJ0 hK hk ho
 by_cases k13:im=13
 ·subst k13;exact qJu hK hk ho
 by_cases k14:im=14
 ·subst k14;exact qJ2 hK hk ho
 by_cases k15:im=15
 ·subst k15;exact qJE hK hk ho
 by_cases k16:im=16
 ·subst k16;exact qJ4 hK hk ho
 by_cases k17:im=17
 ·subst k17;exact qI7 hK hk ho
 by_cases k18:im=18
 ·subst k18;exact qJl hK hk ho
 by_cases k20:im=20
 ·subst k20;exact qIX hK hk ho
 by_cases k21:im=21
 ·subst k21;exact qIm hK hk ho
 by_cases k22:im=22
 ·subst k22;exact qIz hK hk ho
 by_cases k23:im=23
 ·subst k23;exact qI0 hK hk ho
 by_cases k25:im=25
 ·subst k25;exact qJ1 hK hk ho
 by_cases k26:im=26
 ·subst k26;exact qJQ hK hk ho
 exact qJW hK hk ho (by unfold qGQ;omega)
def qDi (K k:Nat):Rd_ I:=fun b a bad=>(opG K b a bad).bind fun r=>if r.2.1=1 then (y6 K b r.2.2.1 r.2.2.2).map fun q=>(bkI r.1 q.1 q.2.1 q.2.2.1,q.2.2.2.1,q.2.2.2.2) else yi K (k+1) b r.2.2.1 r.2.2.2 r.2.1 r.1
theorem Rdr.dead {α:Type}(x:α):Rdr (fun _ a _=>some (x,a,true)) (fun _=>False) (fun _=>[]) where
 pos:=by intro b a bad s e bad' _ ha h;cases h;exact ha
 bad:=fun b a _ _=>⟨x,a,rfl⟩
 bytes:=fun _ h=>h.elim
 tot:=fun b a _ _ _ _=>⟨_,rfl⟩
 back:=fun b a s _ hd _=>hd.elim
 short:=by intro b a s e hb ha hab h;cases h
 cut:=by intro b a s e n _ _ _ han h;cases h
def yI (o:Int):Prop:=0≤o∧o<65536
instance (o:Int):Decidable (yI o):=by unfold yI;infer_instance
def qIh (K k:Nat)(s:Int × Int):Rd_ I:=
 if yI s.1 then (if s.2=1 then fun b a bad=>(qA3 K b a bad).map fun r=>(bkI s.1 r.1.1 r.1.2.1 r.1.2.2,r.2) else qFL K k s.2 s.1)
 else if s.2=0 then fun b a bad=>some (zop s.1,a,bad) else fun _ a _=>some (zI,a,true)
def qBo (s:Int × Int)(x:I):Prop:=
 if yI s.1 then (if s.2=1 then ∃ q,Db q∧bkI s.1 q.1 q.2.1 q.2.2=x else Dim s.2 s.1 x)
 else if s.2=0 then x=zop s.1 else False
def qHj (K:Nat)(s:Int × Int)(x:I):List Int:=
 if yI s.1 then (if s.2=1 then qFN (x.bk,x.bv,x.bt) else Pim K s.2 x) else []
theorem qHf {K k:Nat}(hK:OfK K)(hk:k+1=2000000)(s:Int × Int):Rdr (qIh K k s) (qBo s) (qHj K s):=by
 unfold qIh qBo qHj
 by_cases h1:yI s.1
 ·simp only[if_pos h1]
  by_cases h2:s.2=1
  ·simp only[if_pos h2]
   refine(qES hK.le).map (fun q=>bkI s.1 q.1 q.2.1 q.2.2) (fun q _=>rfl) (fun q hq=>⟨q,hq,rfl⟩) (fun x hx=>hx)
  ·simp only[if_neg h2]
   exact(qCY hK hk h1 h2).1
 ·simp only[if_neg h1]
  by_cases h2:s.2=0
  ·simp only[if_pos h2]
   exact Rdr.ret (zop s.1)
  ·simp only[if_neg h2]
   exact Rdr.dead zI
theorem qEw {K:Nat}(hK:OfK K){b:List Int}{a:Int}{bad:Bool}{s:Int × Int}{e:Int}{bad':Bool}(hb:Bs b)(ha:0≤a)(h:opR K b a bad=some (s,e,bad')):yI s.1∨s.2=0:=by
 have hc:=jy hb.y ha bad
 obtain⟨⟨r1,im,e1,b1⟩,hg,h2⟩:=Option.map_eq_some_iff.1 h
 clear h
 simp only[Prod.mk.injEq] at h2
 obtain⟨rfl,_,_⟩:=h2
 have key:∀(o:Int) (q:Int × ByteArray × Int × List Int × List Int × Int × Bool × Int),0≤o→o<65536→qW.f K o=some q→yI q.1∨q.2.2.1=0:=by
  rintro o ⟨s1,s2,s3,s4,s5,s6,s7,s8⟩ h0 h1 hq
  by_cases h8:s8=0
  ·subst h8
   obtain⟨rfl,_⟩:=hK.ok h0 h1 hq
   exact .inl ⟨h0,h1⟩
  ·obtain⟨q',hq',hq2⟩:=hK.any o h0 h1
   rw[hq] at hq'
   obtain rfl:=Option.some.inj hq'
   exact .inr (hq2 h8)
 by_cases hl:(q8 b a bad).1=252∨(q8 b a bad).1=253
 ·rw[yc hl] at hg
  obtain⟨⟨u,e2,b2⟩,k1,h⟩:=Option.bind_eq_some_iff.1 hg
  obtain⟨q,k2,h⟩:=Option.map_eq_some_iff.1 h
  simp only[Prod.mk.injEq] at h
  obtain⟨rfl,rfl,_⟩:=h
  exact key _ q (qAX _ _).1 (qAX _ _).2 k2
 ·rw[xD hl hc] at hg
  obtain⟨q,k2,h⟩:=Option.map_eq_some_iff.1 hg
  simp only[Prod.mk.injEq] at h
  obtain⟨rfl,rfl,_⟩:=h
  exact key _ q hc.1 mDj k2
def Hd (K:Nat)(x:I):Prop:=∃ im,jo K x.op im∧qBo (x.op,im) x
def qB1 (K:Nat)(x:I):List Int:=(qAh K x).getD []
def jN (K:Nat)(x:I):List Int:=yK x.op++qB1 K x
theorem qDB {K:Nat}{x:I}{im:Int}(h:jo K x.op im):qAh K x=yd K im x:=by
 obtain⟨_,_,r1,r2,r4,r5,r6,r7,h⟩:=h
 unfold qAh
 rw[h,Option.bind_some]
theorem qEF {o im:Int}{x:I}(h:qBo (o,im) x):x.op=o:=by
 unfold qBo at h
 split at h
 ·split at h
  ·obtain⟨q,_,rfl⟩:=h
   rfl
  ·exact h.1
 ·split at h
  ·rw[h];rfl
  ·exact h.elim
theorem qGs {K:Nat}(hK:OfK K){o:Int}{q:Int × Int × Int}(h:Db q):yd K 1 (bkI o q.1 q.2.1 q.2.2)=some (qFN q):=by
 obtain⟨k,v,t⟩:=q
 show(if k=0 then some [64] else if k=1 then some [v] else qu.f K (wrap64 t))=some (if k=0 then [64] else if k=1 then [v] else LebM.putS 9 t)
 rcases h with h|⟨h1,_,_,_⟩|⟨h1,_,h3,h4⟩
 ·cases h
  rfl
 ·simp only at h1
  subst h1
  rfl
 ·simp only at h1 h3 h4
  subst h1
  rw[if_neg mDl,if_neg mDl,if_neg mDl,if_neg mDl,LebM.w64 mDj mDj]
  exact qEj hK mDj mDj
theorem qGr {K k:Nat}(hK:OfK K)(hk:k+1=2000000){x:I}{im:Int}(h1:jo K x.op im)(h2:qBo (x.op,im) x):qAh K x=some (qHj K (x.op,im) x):=by
 have hr:yI x.op:=⟨h1.1,h1.2.1⟩
 rw[qDB h1]
 unfold qBo at h2
 unfold qHj
 simp only[if_pos hr] at h2 ⊢
 by_cases h3:im=1
 ·simp only[if_pos h3] at h2 ⊢
  obtain⟨⟨k',v,t⟩,hq,he⟩:=h2
  have e:=qGs hK (o:=x.op) hq
  have ek:k'=x.bk:=congrArg I.bk he
  have ev:v=x.bv:=congrArg I.bv he
  have et:t=x.bt:=congrArg I.bt he
  rw[he] at e
  subst h3 ek ev et
  exact e
 ·simp only[if_neg h3] at h2 ⊢
  exact(qCY (k:=k) hK hk hr h3).2 x h2
theorem xr {K k:Nat}(hK:OfK K)(hk:k+1=2000000):Rdr (qDi K k) (Hd K) (jN K):=by
 refine(((qD7 hK).bind (fun s=>qHf hK hk s)).map (fun q=>q.2) (D':=Hd K) (P':=jN K) ?_ ?_ ?_).on ?_
 ·rintro⟨⟨o,im⟩,x⟩ ⟨h1,h2⟩
  have ho:=qEF h2
  simp only at h1 h2 ho ⊢
  subst ho
  unfold jN qB1
  rw[qGr hK hk h1 h2]
  rfl
 ·rintro⟨⟨o,im⟩,x⟩ ⟨h1,h2⟩
  have ho:=qEF h2
  simp only at h1 h2 ho ⊢
  subst ho
  exact⟨im,h1,h2⟩
 ·rintro x ⟨im,h1,h2⟩
  exact⟨((x.op,im),x),⟨h1,h2⟩,rfl⟩
 ·intro b a bad hb ha
  unfold qDi
  have hr:=fun s e bad'=>qEw (b:=b) (a:=a) (bad:=bad) (s:=s) (e:=e) (bad':=bad') hK hb ha
  unfold opR at hr ⊢
  cases h:opG K b a bad with
  | none=>rfl
  | some r =>
    obtain⟨o,im,e1,b1⟩:=r
    rw[h] at hr
    have hr:=hr (o,im) e1 b1 rfl
    simp only[Option.bind_some,Option.map_some]
    unfold qIh
    by_cases h1:yI o
    ·simp only[if_pos h1]
     by_cases h2:im=1
     ·simp only[if_pos h2]
      unfold qA3
      cases y6 K b e1 b1 with
      | none=>rfl
      | some q=>rfl
     ·simp only[if_neg h2]
      unfold qFL
      cases yi K (k+1) b e1 b1 im o with
      | none=>rfl
      | some q=>rfl
    ·simp only[if_neg h1]
     have h2:im=0:=hr.resolve_left h1
     subst h2
     simp only[if_pos]
     rw[if_neg mDl]
     rfl
def Shp (y:I):Prop:=(qw y.op=false→y.body = []∧y.els = [])∧(y.els≠[]→y.op=4)
def hdr (y:I):I:={y with body:=[],els:=[]}
theorem qIg (t:Int):isT t=tyB t:=rfl
theorem qCH {K:Nat}(hK:OfK K){o im:Int}(h:jo K o im):(im=1↔qw o=true):=by
 obtain⟨_,_,_,_,_,_,hb,_⟩:=jo.ok hK h
 rw[← hb]
 exact beq_iff_eq.symm
theorem qH5 {K:Nat}(hK:OfK K){o im:Int}(h:jo K o im):(im==12 || im==13)=(o==64520 || o==64521):=by
 obtain⟨_,_,_,_,_,_,_,hd,_⟩:=jo.ok hK h
 exact hd
theorem qE1 {x:I}(hr:xM x)(h:yV x.bk x.bv x.bt=true):Db (x.bk,x.bv,x.bt):=by
 unfold yV at h
 obtain⟨_,hv,ht⟩:=hr.k
 by_cases h0:x.bk=0
 ·rw[if_pos h0,Bool.and_eq_true,Bool.and_eq_true] at h
  rw[h0,eq_of_beq h.2.1,eq_of_beq h.2.2]
  exact .inl rfl
 ·rw[if_neg h0] at h
  by_cases h1:x.bk=1
  ·rw[if_pos h1,Bool.and_eq_true] at h
   exact .inr (.inl ⟨h1,h.1,hv,eq_of_beq h.2⟩)
  ·rw[if_neg h1,Bool.and_eq_true] at h
   exact .inr (.inr ⟨eq_of_beq h.1,eq_of_beq h.2,ht⟩)
theorem qFA {k v t:Int}(h:Db (k,v,t)):yV k v t=true:=by
 unfold yV
 rcases h with h|⟨h1,h2,h3,h4⟩|⟨h1,h2,h3,h4⟩
 ·cases h;rfl
 ·simp only at h1 h2 h4
  subst h1 h4
  rw[if_neg mDl,if_pos rfl,qIg,h2]
  rfl
 ·simp only at h1 h2
  subst h1 h2
  rfl
theorem qEf {K:Nat}{x:I}(h:Hd K x):xM x:=by
 obtain⟨im,h1,h2⟩:=h
 have hr:yI x.op:=⟨h1.1,h1.2.1⟩
 unfold qBo at h2
 rw[if_pos (show yI (x.op,im).1 from hr)] at h2
 by_cases h3:(x.op,im).2=1
 ·rw[if_pos h3] at h2
  obtain⟨q,hq,he⟩:=h2
  rw[← he]
  refine {jx hr with k:=?_}
  obtain⟨k,v,t⟩:=q
  show(0≤k∧k<256)∧(0≤v∧v<256)∧Du t
  rcases hq with hq|⟨q1,_,q3,q4⟩|⟨q1,q2,q3,q4⟩
  ·cases hq
   exact⟨mDl,mDl,Du0⟩
  ·simp only at q1 q3 q4
   subst q1 q4
   exact⟨mDl,q3,Du0⟩
  ·simp only at q1 q2 q3 q4
   subst q1 q2
   exact⟨mDl,mDl,q3,q4⟩
 ·rw[if_neg h3] at h2
  exact h2.2.2
theorem jm {c:Prop}[Decidable c]{a b:Bool}{Q:Prop}(h:(if c then a else b)=true)(ha:a=true→Q)(hb:b=true→Q):Q:=by
 by_cases hc:c
 ·rw[if_pos hc] at h;exact ha h
 ·rw[if_neg hc] at h;exact hb h
theorem qDN {im:Int}{y:I}(h1:im≠1)(h:yj im y=true):y.body = []∧y.els = []:=by
 have key:∀ z:I,(qz z y && (y.body.length==0 && y.els.length==0))=true→y.body = []∧y.els = []:=by
  intro z hz
  rw[Bool.and_eq_true,Bool.and_eq_true] at hz
  exact⟨List.eq_nil_of_length_eq_zero (eq_of_beq hz.2.1),List.eq_nil_of_length_eq_zero (eq_of_beq hz.2.2)⟩
 unfold yj at h
 rw[if_neg h1] at h
 refine jm h (fun h=>?_) (fun h=>?_)
 ·rw[Bool.and_eq_true] at h;exact key _ h.2
 refine jm h (fun h=>key _ h) (fun h=>?_)
 refine jm h (fun h=>key _ h) (fun h=>?_)
 refine jm h (fun h=>key _ h) (fun h=>?_)
 refine jm h (fun h=>key _ h) (fun h=>?_)
 refine jm h (fun h=>key _ h) (fun h=>?_)
 refine jm h (fun h=>key _ h) (fun h=>?_)
 refine jm h (fun h=>key _ h) (fun h=>?_)
 refine jm h (fun h=>key _ h) (fun h=>?_)
 refine jm h (fun h=>?_) (fun h=>?_)
 ·refine jm h (fun h=>?_) (fun h=>by cases h)
  rw[Bool.and_eq_true] at h;exact key _ h.2
 refine jm h (fun h=>?_) (fun h=>key _ h)
 rw[Bool.and_eq_true] at h;exact key _ h.2
theorem qAB {y:I}(h:y.body = []∧y.els = []):hdr y=y:=by
 obtain⟨h1,h2⟩:=h
 cases y
 simp only at h1 h2
 subst h1 h2
 rfl
theorem qC8 {K:Nat}{y:I}{r1 im r6 e:Int}{r2:ByteArray}{r4 r5:List Int}{r7:Bool}(h:qW.f K y.op=some (r1,r2,im,r4,r5,r6,r7,e)):xi K y=some (if e=0 then yj im y else false):=by
 unfold xi
 rw[h,Option.map_some]
theorem qHI {K:Nat}(hK:OfK K){y:I}(hr:xM y)(h:xi K y=some true):Hd K (hdr y)∧Shp y:=by
 obtain⟨⟨r1,r2,im,r4,r5,r6,r7,e⟩,hq,_⟩:=hK.any y.op hr.o.1 hr.o.2
 rw[qC8 hq] at h
 by_cases he:e=0
 ·subst he
  rw[if_pos rfl] at h
  have h:=Option.some.inj h
  have hk:jo K y.op im:=⟨hr.o.1,hr.o.2,_,_,_,_,_,_,hq⟩
  have hro:yI y.op:=hr.o
  by_cases h1:im=1
  ·subst h1
   have hblk:=(qCH hK hk).1 rfl
   have h:qDV y=true:=h
   unfold qDV at h
   by_cases hR:yV y.bk y.bv y.bt=true
   ·rw[if_pos hR,Bool.and_eq_true] at h
    obtain⟨e1,e2,e3,e4,e5,e6,e7,e8,e9,e10⟩:=qEB h.1
    have hel:(if y.op=4 then y.els else []).length=y.els.length:=eq_of_beq h.2
    refine⟨⟨1,hk,?_⟩,?_,?_⟩
    ·unfold qBo
     rw[if_pos (show yI ((hdr y).op,(1:Int)).1 from hro),if_pos rfl]
     refine⟨(y.bk,y.bv,y.bt),qE1 hr hR,?_⟩
     unfold hdr bkI
     cases y
     simp only[yA,zI] at e2 e3 e4 e5 e9 e10
     simp only[zI]
     subst e2 e3 e4 e5 e9 e10
     rfl
    ·intro hb
     rw[hblk] at hb
     cases hb
    ·intro hne
     by_cases h4:y.op=4
     ·exact h4
     ·rw[if_neg h4] at hel
      exact absurd (List.eq_nil_of_length_eq_zero hel.symm) hne
   ·rw[if_neg hR] at h
    cases h
  ·have hn:=qDN h1 h
   have hsf:=qAB hn
   refine⟨⟨im,hk,?_⟩,fun _=>hn,fun hne=>absurd hn.2 hne⟩
   unfold qBo
   rw[if_pos (show yI ((hdr y).op,im).1 from hro),if_neg h1,hsf]
   exact⟨rfl,h,hr⟩
 ·rw[if_neg he] at h
  cases h
theorem qEy {K:Nat}(hK:OfK K){y:I}(hd:Hd K (hdr y))(hs:Shp y):xi K y=some true∧xM y:=by
 have hr0:=qEf hd
 have hr:xM y:=⟨hr0.o,hr0.a,hr0.b,hr0.n,hr0.v,hr0.l,hr0.t,hr0.ll,hr0.tl,hr0.k⟩
 refine⟨?_,hr⟩
 obtain⟨im,hk,h2⟩:=hd
 have hk:jo K y.op im:=hk
 have hro:yI y.op:=hr.o
 obtain⟨r2,r4,r5,r6,r7,hq,_⟩:=jo.ok hK hk
 rw[qC8 hq,if_pos rfl]
 unfold qBo at h2
 rw[if_pos (show yI ((hdr y).op,im).1 from hro)] at h2
 by_cases h1:im=1
 ·subst h1
  rw[if_pos rfl] at h2
  obtain⟨⟨k,v,t⟩,hdb,he⟩:=h2
  have ek:k=y.bk:=congrArg I.bk he
  have ev:v=y.bv:=congrArg I.bv he
  have et:t=y.bt:=congrArg I.bt he
  subst ek ev et
  show some (qDV y)=some true
  unfold qDV
  rw[if_pos (qFA hdb)]
  have he2:bkI y.op y.bk y.bv y.bt=hdr y:=he
  have hy:y = {bkI y.op y.bk y.bv y.bt with body:=y.body,els:=y.els}:=by rw[he2];cases y;rfl
  have hels:(yA y).els=y.els:=by
   show(if y.op=4 then y.els else [])=y.els
   by_cases h4:y.op=4
   ·rw[if_pos h4]
   ·rw[if_neg h4]
    by_cases hne:y.els = []
    ·exact hne.symm
    ·exact absurd (hs.2 hne) h4
  have hw:yA y=y:=by
   show({zI with op:=y.op,bk:=y.bk,bv:=y.bv,bt:=y.bt,body:=y.body,els:=(yA y).els}:I)=y
   rw[hels]
   exact hy.symm
  rw[hw,qAq]
  simp
 ·rw[if_neg h1] at h2
  have hb:qw y.op=false:=by
   cases hb:qw y.op
   ·rfl
   ·exact absurd ((qCH hK hk).2 hb) h1
  rw[qAB (hs.1 hb)] at h2
  rw[h2.2.1]
theorem xQ (K:Nat)(y:I):jN K (hdr y)=jN K y:=by
 unfold jN qB1
 have:qAh K (hdr y)=qAh K y:=by
  unfold qAh
  rfl
 rw[this]
 rfl
theorem zb {α:Type}{c:Prop}[Decidable c]{a b:Option α}{s:α}{Q:Prop}(h:(if c then a else b)=some s)(ha:a=some s→Q)(hb:b=some s→Q):Q:=by
 by_cases hc:c
 ·rw[if_pos hc] at h;exact ha h
 ·rw[if_neg hc] at h;exact hb h
theorem yL {K:Nat}(hK:OfK K){x:Int}{r:List Int}(h:qX.f K (IntKind.u64.wrap x)=some r):r.length≤10:=by
 have h0:=LebM.u64m x
 rw[LebM.PutU_ev mDj mDj K hK.le] at h
 obtain rfl:=Option.some.inj h
 exact(LebM.putU_len 9 _).2
theorem qGD {K:Nat}(hK:OfK K){x:Int}(h0:0≤x)(h1:x<18446744073709551616){r:List Int}(h:qX.f K x=some r):r.length≤10:=by
 rw[LebM.PutU_ev h0 mDj K hK.le] at h
 obtain rfl:=Option.some.inj h
 exact(LebM.putU_len 9 _).2
theorem putS_len (f:Nat):∀ x,(LebM.putS f x).length≤f+1:=by
 induction f with
 | zero=>intro x;exact Nat.le_refl _
 | succ f ih =>
   intro x
   unfold LebM.putS
   split
   ·simp
   ·have:=ih (x / 128);rw[List.length_cons];omega
theorem qEm {K:Nat}(hK:OfK K){x:Int}{r:List Int}(h:qu.f K (wrap64 x)=some r):r.length≤10:=by
 have h0 : -9223372036854775808≤wrap64 x∧wrap64 x≤9223372036854775807:=by unfold wrap64;omega
 rw[LebM.PutS_ev h0.1 h0.2 K hK.le] at h
 obtain rfl:=Option.some.inj h
 exact putS_len 9 _
theorem qDq {K:Nat}(hK:OfK K):∀(l r bs:List Int),xz K r l=some bs→bs.length≤r.length+10*l.length
 | [],r,bs,h=>by
   rw[xz] at h
   obtain rfl:=Option.some.inj h
   simp
 | c::l,r,bs,h=>by
   rw[xz] at h
   obtain⟨q,h1,h⟩:=Option.bind_eq_some_iff.1 h
   refine zb h (fun h=>?_) (fun h=>by cases h)
   have h2:=yL hK h1
   have h3:=qDq hK l _ bs h
   rw[List.length_append] at h3
   rw[List.length_cons]
   omega
theorem qHO {K:Nat}(hK:OfK K){im:Int}{x:I}{bs:List Int}(hr:xM x)(h:yd K im x=some bs):bs.length≤40+11*x.l.length+x.t.length:=by
 unfold yd at h
 have one:∀ {c:Int},some [c]=some bs→bs.length≤40+11*x.l.length+x.t.length:=by
  intro c h
  obtain rfl:=Option.some.inj h
  simp only[List.length_singleton]
  omega
 refine zb h (fun h=>?_) (fun h=>?_)
 ·refine zb h (fun h=>one h) (fun h=>?_)
  refine zb h (fun h=>one h) (fun h=>?_)
  have:=qEm hK h
  omega
 refine zb h (fun h=>?_) (fun h=>?_)
 ·have:=yL hK h
  omega
 refine zb h (fun h=>?_) (fun h=>?_)
 ·obtain⟨r,h1,h⟩:=Option.bind_eq_some_iff.1 h
  refine zb h (fun h=>?_) (fun h=>by cases h)
  obtain rfl:=Option.some.inj h
  have:=yL hK h1
  rw[List.length_append,List.length_singleton]
  omega
 refine zb h (fun h=>?_) (fun h=>?_)
 ·obtain⟨r,h1,h⟩:=Option.bind_eq_some_iff.1 h
  obtain⟨q,h2,h⟩:=Option.bind_eq_some_iff.1 h
  refine zb h (fun h=>?_) (fun h=>by cases h)
  obtain rfl:=Option.some.inj h
  have:=yL hK h1
  have:=yL hK h2
  rw[List.length_append]
  omega
 refine zb h (fun h=>?_) (fun h=>?_)
 ·obtain⟨r,h1,h⟩:=Option.bind_eq_some_iff.1 h
  have:=yL hK h1
  have:=qDq hK _ _ _ h
  omega
 refine zb h (fun h=>one h) (fun h=>?_)
 refine zb h (fun h=>?_) (fun h=>?_)
 ·obtain rfl:=Option.some.inj h
  simp only[List.length_cons,List.length_nil]
  omega
 refine zb h (fun h=>?_) (fun h=>?_)
 ·obtain⟨r,h1,h⟩:=Option.bind_eq_some_iff.1 h
  obtain⟨q,h2,h⟩:=Option.bind_eq_some_iff.1 h
  refine zb h (fun h=>?_) (fun h=>by cases h)
  obtain rfl:=Option.some.inj h
  have:=yL hK h1
  have:=qGD hK hr.n.1 hr.n.2 h2
  rw[List.length_append]
  omega
 refine zb h (fun h=>?_) (fun h=>?_)
 ·obtain⟨r,h1,h⟩:=Option.bind_eq_some_iff.1 h
  obtain⟨q,h2,h⟩:=Option.bind_eq_some_iff.1 h
  refine zb h (fun h=>?_) (fun h=>by cases h)
  obtain rfl:=Option.some.inj h
  have:=yL hK h1
  have:=qGD hK hr.n.1 hr.n.2 h2
  rw[List.length_append,List.length_append,List.length_singleton]
  omega
 refine zb h (fun h=>one h) (fun h=>?_)
 refine zb h (fun h=>?_) (fun h=>?_)
 ·obtain rfl:=Option.some.inj h
  rw[hr.v.1]
  omega
 refine zb h (fun h=>?_) (fun h=>?_)
 ·have:=qEm hK h
  omega
 refine zb h (fun h=>?_) (fun h=>?_)
 ·have:=qEm hK h
  omega
 refine zb h (fun h=>?_) (fun h=>?_)
 ·have h2:=qEI hK 4 mDl hr.n.1 hr.n.2
  rw[show((4:Nat):Int)=4 from rfl,h] at h2
  obtain rfl:=Option.some.inj h2
  rw[qAz]
  omega
 refine zb h (fun h=>?_) (fun h=>?_)
 ·have h2:=qEI hK 8 mDl hr.n.1 hr.n.2
  rw[show((8:Nat):Int)=8 from rfl,h] at h2
  obtain rfl:=Option.some.inj h2
  rw[qAz]
  omega
 refine zb h (fun h=>?_) (fun h=>?_)
 ·exact zb h (fun h=>one h) (fun h=>by cases h)
 refine zb h (fun h=>?_) (fun h=>?_)
 ·obtain⟨r,h1,h⟩:=Option.bind_eq_some_iff.1 h
  refine zb h (fun h=>?_) (fun h=>by cases h)
  obtain rfl:=Option.some.inj h
  have:=yL hK h1
  rw[List.length_append]
  omega
 ·obtain rfl:=Option.some.inj h
  simp
theorem qFU {K k:Nat}(hK:OfK K)(hk:k+1=2000000){y:I}(h:Hd K (hdr y)):qAh K y=some (qB1 K y)∧jE.f K y.op=some (yK y.op)∧(qB1 K y).length≤40+11*y.l.length+y.t.length∧(yK y.op).length≤11:=by
 have hr:=qEf h
 obtain⟨im,h1,h2⟩:=h
 have e1:=qGr (k:=k) hK hk h1 h2
 have e2:qAh K (hdr y)=qAh K y:=rfl
 rw[e2] at e1
 have e3:qAh K y=yd K im y:=qDB h1
 have e4:qAh K y=some (qB1 K y):=by unfold qB1;rw[e1];rfl
 have e5:=qHO hK (im:=im) (x:=hdr y) (bs:=qB1 K y) hr (show yd K im y=_ by rw[← e3];exact e4)
 exact⟨e4,qJg hK.le h1.1 h1.2.1,e5,(qCu h1.1 h1.2.1).2⟩
theorem y5 {K k:Nat}(hK:OfK K)(hk:k+1=2000000){b:List Int}(hb:Bs b){kf:Nat}{o:O_}{os:List O_}{a d:Int}{ds:Bool}(ha:0≤a)(hlt:a<b.length)(hs1:os.length<1000000000)(hs2:o.l.length<1000000000)(h11:rd b a≠11)(h5:¬(rd b a=5∧o.x.op=4∧o.e=false)){x:I}{e:Int}{bd:Bool}(h:qDi K k b a false=some (x,e,bd)):
 zT K (k+1) b (kf+1) (o::os) a d ds=if bd=true then some none else if qw x.op=true then zT K (k+1) b kf (⟨x,[],false⟩::o::os) e (max d (os.length+1)) ds else zT K (k+1) b kf (⟨o.x,o.l ++ [x],o.e⟩::os) e d (ds || (x.op==64520 || x.op==64521)):=by
 have hpos:=(xr hK hk).pos b a false x e bd hb ha h
 rw[zm,if_pos hlt,if_pos ⟨hs1,hs2⟩,if_neg h11,if_neg h5]
 have hop:=(qD7 hK).pos b a false
 have hsh:=(qD7 hK).short b a
 unfold qDi at h
 unfold opR at hop hsh
 obtain⟨⟨o1,im,e1,b1⟩,h1,h⟩:=Option.bind_eq_some_iff.1 h
 rw[h1] at hop hsh ⊢
 have p1:=hop (o1,im) e1 b1 hb ha rfl
 rw[Option.bind_some,if_pos p1]
 have hkind:b1=false→jo K o1 im:=fun hb1=>by
  subst hb1
  exact(hsh (o1,im) e1 hb ha mDj rfl).1
 by_cases him:im=1
 ·rw[if_pos him] at h
  rw[if_pos him]
  obtain⟨⟨q1,q2,q3,q4,q5⟩,h2,h⟩:=Option.map_eq_some_iff.1 h
  simp only[Prod.mk.injEq] at h
  obtain⟨rfl,rfl,rfl⟩:=h
  simp only at h2 hpos
  show(y6 K b e1 b1).bind _=_
  rw[h2,Option.bind_some]
  cases q5 with
  | true=>rw[if_pos rfl,if_pos rfl]
  | false =>
    dsimp only
    rw[if_neg Bool.false_ne_true,if_neg Bool.false_ne_true]
    have hb1:b1=false:=by
     cases b1 with
     | false=>rfl
     | true =>
       obtain⟨s',e',h3⟩:=(qES hK.le).bad b e1 hb p1
       unfold qA3 at h3
       rw[h2] at h3
       simp at h3
    have hbl:=(qCH hK (hkind hb1)).1 him
    rw[if_pos hpos,if_pos (show qw (bkI o1 q1 q2 q3).op=true from hbl)]
 ·rw[if_neg him] at h
  rw[if_neg him]
  show(yi K (k+1) b e1 b1 im o1).bind _=_
  simp only at h
  rw[h,Option.bind_some]
  cases bd with
  | true=>rw[if_pos rfl,if_pos rfl]
  | false =>
    dsimp only
    rw[if_neg Bool.false_ne_true,if_neg Bool.false_ne_true,if_pos hpos]
    have hb1:b1=false:=by
     cases b1 with
     | false=>rfl
     | true =>
       by_cases hro:yI o1
       ·obtain⟨s',e',h3⟩:=(qCY (k:=k) hK hk hro him).1.bad b e1 hb p1
        unfold qFL at h3
        rw[h] at h3
        cases h3
       ·have hr:=qEw (b:=b) (a:=a) (bad:=false) (s:=(o1,im)) (e:=e1) (bad':=true) hK hb ha (by unfold opR;rw[h1];rfl)
        have h0:im=0:=hr.resolve_left hro
        subst h0
        have h4:yi K (k+1) b e1 true 0 o1=some (zop o1,e1,true):=by
         unfold yi
         rw[if_neg mDl,if_neg mDl,if_neg mDl,if_neg mDl,if_neg mDl,if_neg mDl,if_neg mDl,if_neg mDl,if_neg mDl,if_neg mDl,if_neg mDl,if_neg mDl,if_neg mDl,if_neg mDl,if_neg mDl,if_neg mDl]
        rw[h4] at h
        cases h
    have hkd:=hkind hb1
    subst hb1
    have hx:x.op=o1:=((qCY (k:=k) hK hk ⟨hkd.1,hkd.2.1⟩ him).1.short b e1 x e hb p1 (hsh (o1,im) e1 hb ha mDj rfl).2.2 h).1.1
    have hbl:qw x.op=false:=by
     rw[hx]
     cases hbb:qw o1
     ·rfl
     ·exact absurd ((qCH hK hkd).2 hbb) him
    rw[hbl,if_neg mDl,hx,← qH5 hK hkd]
mutual
def alI (P:I→Prop):I→Prop
 | ⟨o,a,b,n,v,l,t,bk,bv,bt,bd,e⟩=>P ⟨o,a,b,n,v,l,t,bk,bv,bt,bd,e⟩∧alL P bd∧alL P e
def alL (P:I→Prop):List I→Prop
 | []=>True
 | x::l=>alI P x∧alL P l
end
theorem qC5 (P:I→Prop)(x:I):alI P x=(P x∧alL P x.body∧alL P x.els):=by cases x;rw[alI]
mutual
def nI (K:Nat):I→Nat
 | ⟨o,a,b,n,v,l,t,bk,bv,bt,bd,e⟩=>(jN K ⟨o,a,b,n,v,l,t,bk,bv,bt,bd,e⟩).length+(if qw o=true then nL K bd+(if e.length=0 then 0 else 1+nL K e)+1 else 0)
def nL (K:Nat):List I→Nat
 | []=>0
 | x::l=>nI K x+nL K l
end
def nE (K:Nat)(e:List I):Nat:=if e.length=0 then 0 else 1+nL K e
theorem qCy (K:Nat)(x:I):nI K x=(jN K x).length+(if qw x.op=true then nL K x.body+nE K x.els+1 else 0):=by cases x;rw[nI];rfl
def Ok (K:Nat)(y:I):Prop:=Hd K (hdr y)∧Shp y
def mes:List Pr→Nat
 | []=>0
 | p::ps=>3*(cL p.a+cL p.b)+1+(if p.b.length=0 then 0 else 1)+mes ps
def cS:List Pr→Nat
 | []=>0
 | p::ps=>cL p.a+cL p.b+cS ps
def lS (K:Nat):List Pr→Nat
 | []=>0
 | p::ps=>nL K p.a+nE K p.b+1+lS K ps
def szO:List O_→Nat
 | []=>0
 | o::os=>1+o.l.length+szO os
def clo (o:O_)(a b:List I):I:=if o.e=true then {o.x with els:=o.l++a} else {o.x with body:=o.l++a,els:=b}
def fin:O_→List O_→Pr→List Pr→List I
 | o,[],p,_=>o.l++p.a
 | o,q::os,p,r::rs=>fin ⟨q.x,q.l ++ [clo o p.a p.b],q.e⟩ os r rs
 | _,_::_,_,[]=>[]
def Lv (o:O_)(p:Pr):Prop:=(o.e=false→o.x.els = []∧(p.b≠[]→o.x.op=4))∧(o.e=true→p.b = [])
def Mt:O_→List O_→Pr→List Pr→Prop
 | _,[],p,[]=>p.b = []
 | o,q::os,p,r::rs=>Lv o p∧Mt q os r rs
 | _,_,_,_=>False
theorem qDJ (o:O_)(os:List O_)(y:I)(a b:List I)(rs:List Pr):fin ⟨o.x,o.l ++ [y],o.e⟩ os ⟨a,b⟩ rs=fin o os ⟨y::a,b⟩ rs:=by
 cases os with
 | nil=>simp[fin]
 | cons q os =>
   cases rs with
   | nil=>rfl
   | cons r rs =>
     simp only[fin,clo]
     rw[List.append_assoc]
     rfl
theorem qGZ (o:O_)(os:List O_)(y:I)(a b:List I)(rs:List Pr):fin ⟨hdr y,[],false⟩ (o::os) ⟨y.body,y.els⟩ (⟨a,b⟩::rs)=fin o os ⟨y::a,b⟩ rs:=by
 rw[fin]
 have e:clo ⟨hdr y,[],false⟩ (⟨y.body,y.els⟩:Pr).a (⟨y.body,y.els⟩:Pr).b=y:=by
  cases y
  rfl
 rw[e]
 exact qDJ o os y a b rs
theorem qGA (o q:O_)(os:List O_)(b:List I)(r:Pr)(rs:List Pr)(he:o.e=false):fin ⟨{o.x with body:=o.l},[],true⟩ (q::os) ⟨b,[]⟩ (r::rs)=fin o (q::os) ⟨[],b⟩ (r::rs):=by
 rw[fin,fin]
 have e:clo ⟨{o.x with body:=o.l},[],true⟩ (⟨b,[]⟩:Pr).a (⟨b,[]⟩:Pr).b=clo o (⟨[],b⟩:Pr).a (⟨[],b⟩:Pr).b:=by
  unfold clo
  rw[if_pos rfl,if_neg (by rw[he];decide)]
  simp
 rw[e]
theorem qHb (o:O_)(h:o.e=false→o.x.els = []):clo o [] []=qv o:=by
 unfold clo qv
 by_cases he:o.e=true
 ·rw[if_pos he,if_pos he,List.append_nil]
 ·rw[if_neg he,if_neg he,List.append_nil]
  have h:=h (by simpa using he)
  rcases o with ⟨x,l,e⟩
  cases x
  simp only at h
  rw[h]
theorem Ok.num {K:Nat}(hK:OfK K){y:I}(h:Ok K y):∃ c s,jN K y=c::s∧c≠11∧c≠5:=by
 obtain⟨im,h1,_⟩:=h.1
 obtain⟨_,_,_,_,_,_,_,_,n5,n11,_,_,hr⟩:=jo.ok hK h1
 have h0:0≤y.op:=h1.1
 have hr:y.op<256∨(64512≤y.op∧y.op<65024):=hr
 unfold jN yK
 by_cases hs:y.op<256
 ·rw[if_pos hs]
  exact⟨y.op,qB1 K y,rfl,n11,n5⟩
 ·rw[if_neg hs]
  exact⟨y.op / 256,_,rfl,mDj,mDj⟩
theorem qFb {K k:Nat}(hK:OfK K)(hk:k+1=2000000){kf:Nat}{y:I}{a b:List I}{rs:List Pr}{out:List Int}(h:Ok K y)(h1:out.length<1000000000000)(h2:rs.length<1000000000000):
 y7 K (kf+1) (⟨y::a,b⟩::rs) out=y7 K kf ((if qw y.op=true then [⟨y.body,y.els⟩] else [])++⟨a,b⟩::rs) (out++jN K y):=by
 obtain⟨p1,p2,p3,p4⟩:=qFU (k:=k) hK hk h.1
 have hr:=qEf h.1
 have hl:y.l.length≤2000000:=hr.ll
 have ht:y.t.length<2000000:=hr.tl
 rw[y7,if_pos h1,if_pos h2,if_pos mDp]
 show(jE.f K y.op).bind _=_
 rw[p2,Option.bind_some]
 show(qAh K y).bind _=_
 rw[p1,Option.bind_some,if_pos mDj]
 show y7 K kf ((if qw y.op=true then [⟨y.body,y.els⟩] else [])++⟨a,b⟩::rs) ((out++yK y.op)++qB1 K y)=_
 rw[List.append_assoc]
 rfl
theorem qD5 {K k:Nat}(hK:OfK K)(hk:k+1=2000000){y:I}(h:Ok K y):LebM.Bytes (jN K y):=by
 rw[← xQ]
 exact(xr hK hk).bytes _ h.1
def qJa (K k:Nat)(p:Pr)(ps:List Pr)(bs:List Int):Prop:=
 ∀(b:List Int) (a:Int) (o:O_) (os:List O_) (d:Int) (ds:Bool),Bs b→At b a bs→Mt o os p ps→szO (o::os)+cS (p::ps)≤100000000→∃ kr dd dds,zT K (k+1) b kr (o::os) a d ds=some (some (fin o os p ps,a+(bs.length:Int),dd,dds))
theorem yF:∀(os:List O_),os.length≤szO os
 | []=>Nat.le_refl _
 | o::os=>by have:=yF os;rw[szO,List.length_cons];omega
theorem sim {K k:Nat}(hK:OfK K)(hk:k+1=2000000):∀(kf:Nat) (p:Pr) (ps:List Pr) (out:List Int),mes (p::ps)<kf→(∀ q ∈ p::ps,alL (Ok K) q.a∧alL (Ok K) q.b)→(p::ps).length+cS (p::ps)≤100000000→out.length+lS K (p::ps)≤100000000000 →
 ∃ bs,y7 K kf (p::ps) out=some (out++bs)∧bs.length=lS K (p::ps)∧LebM.Bytes bs∧qJa K k p ps bs
 | 0,p,ps,out,hm,hA,hc,hl=>by omega
 | kf+1,⟨y::a,b⟩,ps,out,hm,hA,hc,hl=>by
   obtain⟨hA1,hA2⟩:=hA _ (List.mem_cons_self ..)
   have hAr:∀ q ∈ ps,alL (Ok K) q.a∧alL (Ok K) q.b:=fun q hq=>hA q (List.mem_cons_of_mem _ hq)
   simp only[alL] at hA1
   rw[qC5] at hA1
   obtain⟨⟨hok,hob,hoe⟩,hA1⟩:=hA1
   simp only[mes,cL] at hm
   rw[qBc] at hm
   simp only[cS,cL,List.length_cons] at hc
   rw[qBc] at hc
   simp only[lS,nL] at hl
   rw[qCy] at hl
   obtain⟨c0,s0,hcs,hn11,hn5⟩:=hok.num hK
   have hby:=qD5 hK hk hok
   obtain⟨N,hN⟩:=ey_ ((jN K y).length)
   obtain⟨A,hAc⟩:=ey_ (cL a)
   obtain⟨B,hBc⟩:=ey_ (cL b)
   obtain⟨Y1,hY1⟩:=ey_ (cL y.body)
   obtain⟨Y2,hY2⟩:=ey_ (cL y.els)
   obtain⟨M,hM⟩:=ey_ (mes ps)
   obtain⟨C,hC⟩:=ey_ (cS ps)
   obtain⟨L,hL⟩:=ey_ (lS K ps)
   obtain⟨L1,hL1⟩:=ey_ (nL K a)
   obtain⟨L2,hL2⟩:=ey_ (nE K b)
   obtain⟨L3,hL3⟩:=ey_ (nL K y.body)
   obtain⟨L4,hL4⟩:=ey_ (nE K y.els)
   obtain⟨D,hD⟩:=ey_ ((if b.length=0 then 0 else 1))
   obtain⟨D2,hD2⟩:=ey_ ((if y.els.length=0 then 0 else 1))
   have hD2':D2≤1:=by rw[← hD2];split <;> omega
   rw[hAc,hBc,hY1,hY2,hM,hD] at hm
   rw[hAc,hBc,hY1,hY2,hC] at hc
   rw[hN,hL,hL1,hL2,hL3,hL4] at hl
   rw[qFb hK hk hok mDj mDj]
   have hread:∀(bs:List Int) (b':List Int) (a':Int),Bs b'→At b' a' (jN K y++bs)→a'<b'.length∧rd b' a'≠11∧rd b' a'≠5∧0≤a'∧qDi K k b' a' false=some (hdr y,a'+(N:Int),false)∧At b' (a'+(N:Int)) bs:=by
    intro bs b' a' hb hat
    have h1:=hat.left
    have h2:=h1
    rw[hcs] at h2
    obtain⟨q1,q2⟩:=h2.hd
    have h3:=hat.right
    rw[hN] at h3
    have h4:=(xr hK hk).back b' a' (hdr y) hb hok.1 (by rw[xQ];exact h1)
    rw[xQ,hN] at h4
    exact⟨q1,by rw[q2];exact hn11,by rw[q2];exact hn5,hat.pos,h4,h3⟩
   have hOL:(out++jN K y).length=out.length+N:=by rw[List.length_append,hN]
   by_cases hblk:qw y.op=true
   ·rw[if_pos hblk,List.singleton_append]
    rw[if_pos hblk] at hl
    obtain⟨bs,e1,e2,e3,e4⟩:=sim hK hk kf ⟨y.body,y.els⟩ (⟨a,b⟩::ps) (out++jN K y)
     (by simp only[mes];rw[hAc,hBc,hY1,hY2,hM,hD,hD2];omega)
     (by
      intro q hq
      rcases List.mem_cons.1 hq with rfl|hq
      ·exact⟨hob,hoe⟩
      rcases List.mem_cons.1 hq with rfl|hq
      ·exact⟨hA1,hA2⟩
      ·exact hAr q hq)
     (by simp only[cS,List.length_cons];rw[hAc,hBc,hY1,hY2,hC];omega)
     (by simp only[lS];rw[hOL,hL,hL1,hL2,hL3,hL4];omega)
    refine⟨jN K y++bs,by rw[e1,List.append_assoc],?_,LebM.bytes_app hby e3,?_⟩
    ·rw[List.length_append,e2,hN]
     simp only[lS,nL]
     rw[qCy,if_pos hblk,hN,hL,hL1,hL2,hL3,hL4]
     omega
    ·intro b' a' o os d ds hb hat hmt hsz
     obtain⟨q1,q2,q3,q4,q5,q6⟩:=hread bs b' a' hb hat
     have hol:=yF os
     simp only[szO,cS,cL] at hsz
     rw[qBc,hAc,hBc,hY1,hY2,hC] at hsz
     obtain⟨kr,dd,dds,hrun⟩:=e4 b' (a'+(N:Int)) ⟨hdr y,[],false⟩ (o::os) (max d (os.length+1)) ds hb q6
      (by
       refine⟨⟨fun _=>⟨rfl,hok.2.2⟩,fun h=>by cases h⟩,?_⟩
       cases os with
       | nil=>cases ps with
         | nil=>exact hmt
         | cons r rs=>exact hmt
       | cons q os=>cases ps with
         | nil=>exact hmt
         | cons r rs=>exact hmt)
      (by simp only[szO,cS,List.length_nil];rw[hAc,hBc,hY1,hY2,hC];omega)
     refine⟨kr+1,dd,dds,?_⟩
     rw[y5 hK hk hb q4 q1 mDj mDj q2 (fun h=>q3 h.1) q5,if_neg Bool.false_ne_true,if_pos (show qw (hdr y).op=true from hblk),hrun,qGZ]
     rw[List.length_append,hN,Int.natCast_add,Int.add_assoc]
   ·rw[if_neg hblk,List.nil_append]
    rw[if_neg hblk] at hl
    have hblk':qw y.op=false:=by simpa using hblk
    obtain⟨bs,e1,e2,e3,e4⟩:=sim hK hk kf ⟨a,b⟩ ps (out++jN K y)
     (by simp only[mes];rw[hAc,hBc,hM,hD];omega)
     (by
      intro q hq
      rcases List.mem_cons.1 hq with rfl|hq
      ·exact⟨hA1,hA2⟩
      ·exact hAr q hq)
     (by simp only[cS,List.length_cons];rw[hAc,hBc,hC];omega)
     (by simp only[lS];rw[hOL,hL,hL1,hL2];omega)
    refine⟨jN K y++bs,by rw[e1,List.append_assoc],?_,LebM.bytes_app hby e3,?_⟩
    ·rw[List.length_append,e2,hN]
     simp only[lS,nL]
     rw[qCy,if_neg hblk,hN,hL,hL1,hL2]
     omega
    ·intro b' a' o os d ds hb hat hmt hsz
     obtain⟨q1,q2,q3,q4,q5,q6⟩:=hread bs b' a' hb hat
     have hol:=yF os
     simp only[szO,cS,cL] at hsz
     rw[qBc,hAc,hBc,hY1,hY2,hC] at hsz
     rw[qAB (hok.2.1 hblk')] at q5
     obtain⟨kr,dd,dds,hrun⟩:=e4 b' (a'+(N:Int)) ⟨o.x,o.l ++ [y],o.e⟩ os d (ds || (y.op==64520 || y.op==64521)) hb q6
      (by
       cases os with
       | nil=>cases ps with
         | nil=>exact hmt
         | cons r rs=>exact hmt
       | cons q os=>cases ps with
         | nil=>exact hmt
         | cons r rs=>exact hmt)
      (by simp only[szO,cS,List.length_append,List.length_singleton];rw[hAc,hBc,hC];omega)
     refine⟨kr+1,dd,dds,?_⟩
     rw[y5 hK hk hb q4 q1 mDj mDj q2 (fun h=>q3 h.1) q5,if_neg Bool.false_ne_true,if_neg hblk,hrun,qDJ]
     rw[List.length_append,hN,Int.natCast_add,Int.add_assoc]
 | kf+1,⟨[],y::b⟩,ps,out,hm,hA,hc,hl=>by
   obtain⟨hA1,hA2⟩:=hA _ (List.mem_cons_self ..)
   have hAr:∀ q ∈ ps,alL (Ok K) q.a∧alL (Ok K) q.b:=fun q hq=>hA q (List.mem_cons_of_mem _ hq)
   simp only[mes,List.length_cons] at hm
   rw[if_neg mDj,show cL ([]:List I)=0 from by rw[cL]] at hm
   simp only[cS,List.length_cons] at hc
   rw[show cL ([]:List I)=0 from by rw[cL]] at hc
   simp only[lS] at hl
   rw[show nL K ([]:List I)=0 from by rw[nL],show nE K (y::b)=1+nL K (y::b) from if_neg mDp] at hl
   obtain⟨B,hBc⟩:=ey_ (cL (y::b))
   obtain⟨M,hM⟩:=ey_ (mes ps)
   obtain⟨C,hC⟩:=ey_ (cS ps)
   obtain⟨L,hL⟩:=ey_ (lS K ps)
   obtain⟨L1,hL1⟩:=ey_ (nL K (y::b))
   rw[hBc,hM] at hm
   rw[hBc,hC] at hc
   rw[hL,hL1] at hl
   rw[y7,if_pos mDj,if_pos mDj,if_neg mDp,if_pos mDp]
   obtain⟨bs,e1,e2,e3,e4⟩:=sim hK hk kf ⟨y::b,[]⟩ ps (out ++ [5])
    (by simp only[mes,List.length_nil];rw[if_pos trivial,hBc,hM,show cL ([]:List I)=0 from by rw[cL]];omega)
    (by
     intro q hq
     rcases List.mem_cons.1 hq with rfl|hq
     ·exact⟨hA2,by rw[alL];trivial⟩
     ·exact hAr q hq)
    (by simp only[cS,List.length_cons];rw[hBc,hC,show cL ([]:List I)=0 from by rw[cL]];omega)
    (by simp only[lS];rw[List.length_append,List.length_singleton,hL,hL1,show nE K []=0 from rfl];omega)
   refine⟨[5]++bs,by rw[e1,List.append_assoc],?_,LebM.bytes_app (fun x hx=>by rw[List.mem_singleton] at hx;rw[hx];decide) e3,?_⟩
   ·rw[List.length_append,e2,List.length_singleton]
    simp only[lS]
    rw[show nL K ([]:List I)=0 from by rw[nL],show nE K (y::b)=1+nL K (y::b) from if_neg mDp,show nE K []=0 from rfl]
    omega
   ·intro b' a' o os d ds hb hat hmt hsz
    obtain⟨q1,q2⟩:=At.hd (s:=bs) hat
    have q6:=At.right hat
    rw[List.length_singleton] at q6
    have hol:=yF os
    simp only[szO,cS] at hsz
    rw[hBc,hC,show cL ([]:List I)=0 from by rw[cL]] at hsz
    cases os with
    | nil=>cases ps with
      | nil=>exact absurd hmt (by simp[Mt])
      | cons r rs=>exact hmt.elim
    | cons q os =>
      cases ps with
      | nil=>exact hmt.elim
      | cons r rs =>
        obtain⟨⟨hl1,hl2⟩,hmt⟩:=hmt
        have he:o.e=false:=by
         cases he:o.e
         ·rfl
         ·exact absurd (hl2 he) mDp
        have h4:=(hl1 he).2 mDp
        obtain⟨kr,dd,dds,hrun⟩:=e4 b' (a'+((1:Nat):Int)) ⟨{o.x with body:=o.l},[],true⟩ (q::os) d ds hb q6
         ⟨⟨(fun h=>by cases h),fun _=>rfl⟩,hmt⟩
         (by simp only[szO,cS,List.length_nil] at hsz hC ⊢;rw[hBc,hC,show cL ([]:List I)=0 from by rw[cL]];omega)
        refine⟨kr+1,dd,dds,?_⟩
        rw[List.length_cons] at hol
        rw[zm,if_pos q1,if_pos ⟨by rw[List.length_cons];simp only[szO] at hsz;have:=yF os;omega,mDj⟩,if_neg (by rw[q2];decide),if_pos ⟨q2,h4,he⟩]
        rw[show a'+1=a'+((1:Nat):Int) from rfl,hrun,qGA o q os (y::b) r rs he]
        rw[List.length_append,List.length_singleton,Int.natCast_add,Int.add_assoc]
 | kf+1,⟨[],[]⟩,ps,out,hm,hA,hc,hl=>by
   have hAr:∀ q ∈ ps,alL (Ok K) q.a∧alL (Ok K) q.b:=fun q hq=>hA q (List.mem_cons_of_mem _ hq)
   simp only[mes,List.length_nil] at hm
   rw[if_pos trivial,show cL ([]:List I)=0 from by rw[cL]] at hm
   simp only[cS,List.length_cons] at hc
   rw[show cL ([]:List I)=0 from by rw[cL]] at hc
   simp only[lS] at hl
   rw[show nL K ([]:List I)=0 from by rw[nL],show nE K []=0 from rfl] at hl
   rw[y7,if_pos mDj,if_pos mDj,if_neg mDp,if_neg mDp]
   have hen:lS K (⟨[],[]⟩::ps)=1+lS K ps:=by
    rw[lS,show nL K (⟨[],[]⟩:Pr).a=0 from by rw[nL],show nE K (⟨[],[]⟩:Pr).b=0 from rfl]
   cases ps with
   | nil =>
     obtain⟨j,rfl⟩:∃ j,kf=j+1:=⟨kf - 1,by simp only[mes] at hm;omega⟩
     refine⟨[11],rfl,by rw[hen];rfl,fun x hx=>by rw[List.mem_singleton] at hx;rw[hx];decide,?_⟩
     intro b' a' o os d ds hb hat hmt hsz
     obtain⟨q1,q2⟩:=At.hd (s:=[]) hat
     cases os with
     | cons q os=>exact hmt.elim
     | nil =>
       simp only[szO] at hsz
       refine⟨1,d,ds,?_⟩
       rw[zm,if_pos q1,if_pos ⟨mDp,mDj⟩,if_pos q2]
       simp[fin]
   | cons r rs =>
     obtain⟨M,hM⟩:=ey_ (mes (r::rs))
     obtain⟨C,hC⟩:=ey_ (cS (r::rs))
     obtain⟨L,hL⟩:=ey_ (lS K (r::rs))
     rw[hM] at hm
     rw[hC] at hc
     rw[hL] at hl hen
     obtain⟨bs,e1,e2,e3,e4⟩:=sim hK hk kf r rs (out ++ [11]) (by rw[hM];omega) hAr (by rw[hC];omega) (by rw[List.length_append,List.length_singleton,hL];omega)
     refine⟨[11]++bs,by rw[e1,List.append_assoc],by rw[List.length_append,e2,hL,hen];rfl,LebM.bytes_app (fun x hx=>by rw[List.mem_singleton] at hx;rw[hx];decide) e3,?_⟩
     intro b' a' o os d ds hb hat hmt hsz
     obtain⟨q1,q2⟩:=At.hd (s:=bs) hat
     have q6:=At.right hat
     rw[List.length_singleton] at q6
     cases os with
     | nil=>exact hmt.elim
     | cons q os =>
       obtain⟨⟨hl1,hl2⟩,hmt⟩:=hmt
       have hol:=yF os
       rw[cS,show cL (⟨[],[]⟩:Pr).a=0 from by rw[cL],hC] at hsz
       simp only[szO] at hsz
       obtain⟨kr,dd,dds,hrun⟩:=e4 b' (a'+((1:Nat):Int)) ⟨q.x,q.l ++ [qv o],q.e⟩ os d ds hb q6
        (by
         cases os with
         | nil=>cases rs with
           | nil=>exact hmt
           | cons r2 rs=>exact hmt
         | cons q2 os=>cases rs with
           | nil=>exact hmt
           | cons r2 rs=>exact hmt)
        (by rw[hC];simp only[szO,List.length_append,List.length_singleton];omega)
       refine⟨kr+1,dd,dds,?_⟩
       rw[zm,if_pos q1,if_pos ⟨by rw[List.length_cons];omega,mDj⟩,if_pos q2]
       show(if q.l.length<1000000000 then _ else none)=_
       rw[if_pos mDj,show a'+1=a'+((1:Nat):Int) from rfl,hrun,fin,qHb o (fun h=>(hl1 h).1)]
       rw[List.length_append,List.length_singleton,Int.natCast_add,Int.add_assoc]
theorem qGd {K k:Nat}(hK:OfK K)(hk:k+1=2000000){b:List Int}(hb:Bs b){kf:Nat}{o:O_}{os:List O_}{a d:Int}{ds:Bool}(ha:0≤a){R:List I × Int × Int × Bool}(h:zT K (k+1) b (kf+1) (o::os) a d ds=some (some R)):
 a<b.length∧os.length<1000000000∧o.l.length<1000000000 ∧
  ((rd b a=11∧os = []∧R=(o.l,a+1,d,ds))∨
   (rd b a=11∧∃ q ps,os=q::ps∧q.l.length<1000000000∧zT K (k+1) b kf (⟨q.x,q.l ++ [qv o],q.e⟩::ps) (a+1) d ds=some (some R))∨
   (rd b a=5∧o.x.op=4∧o.e=false∧zT K (k+1) b kf (⟨{o.x with body:=o.l},[],true⟩::os) (a+1) d ds=some (some R))∨
   (rd b a≠11∧¬(rd b a=5∧o.x.op=4∧o.e=false)∧∃ x e,qDi K k b a false=some (x,e,false)∧
    ((qw x.op=true∧zT K (k+1) b kf (⟨x,[],false⟩::o::os) e (max d (os.length+1)) ds=some (some R))∨
     (qw x.op=false∧zT K (k+1) b kf (⟨o.x,o.l ++ [x],o.e⟩::os) e d (ds || (x.op==64520 || x.op==64521))=some (some R))))):=by
 rcases qCl h with ⟨_,h0⟩|⟨h1,h2,h3,hc⟩
 ·cases h0
 refine⟨h1,h2,h3,?_⟩
 rcases hc with ⟨c1,c2,c3⟩|⟨c1,c2⟩|c|⟨c1,c2,o1,im,a1,b1,c3,c4,c5⟩
 ·exact .inl ⟨c1,c2,Option.some.inj c3⟩
 ·exact .inr (.inl ⟨c1,c2⟩)
 ·exact .inr (.inr (.inl c))
 ·refine .inr (.inr (.inr ⟨c1,c2,?_⟩))
  have key:∃ x e,qDi K k b a false=some (x,e,false):=by
   unfold qDi
   rw[c3,Option.bind_some]
   rcases c5 with ⟨him,q1,q2,q3,a2,b2,e1,e2⟩|⟨him,x,a2,b2,e1,e2⟩
   ·rw[if_pos him]
    show ∃ x e,Option.map _ (y6 K b a1 b1)=_
    rw[e1]
    rcases e2 with ⟨_,e2⟩|⟨rfl,_,_⟩
    ·cases e2
    ·exact⟨_,_,rfl⟩
   ·rw[if_neg him]
    show ∃ x e,yi K (k+1) b a1 b1 im o1=_
    rw[e1]
    rcases e2 with ⟨_,e2⟩|⟨rfl,_,_⟩
    ·cases e2
    ·exact⟨_,_,rfl⟩
  obtain⟨x,e,hx⟩:=key
  refine⟨x,e,hx,?_⟩
  rw[y5 hK hk hb ha h1 h2 h3 c1 c2 hx,if_neg Bool.false_ne_true] at h
  by_cases hbl:qw x.op=true
  ·rw[if_pos hbl] at h
   exact .inl ⟨hbl,h⟩
  ·rw[if_neg hbl] at h
   exact .inr ⟨by simpa using hbl,h⟩
theorem qAD {K k:Nat}(hK:OfK K)(hk:k+1=2000000){b:List Int}(hb:Bs b)(n:Nat)(hn:n≤b.length){R:List I × Int × Int × Bool}(hR:(n:Int)<R.2.1):∀(kf:Nat) (o:O_) (os:List O_) (a d:Int) (ds:Bool),0≤a→a≤n→zT K (k+1) b kf (o::os) a d ds=some (some R)→zT K (k+1) (b.take n) kf (o::os) a d ds=some none
 | 0,o,os,a,d,ds,ha,han,h=>by cases h
 | kf+1,o,os,a,d,ds,ha,han,h=>by
   obtain⟨h1,h2,h3,hc⟩:=qGd hK hk hb ha h
   have hl:(b.take n).length=n:=by rw[List.length_take];omega
   by_cases hlt:a<n
   ·have hlt':a<(b.take n).length:=by rw[hl];exact hlt
    have hrd:rd (b.take n) a=rd b a:=qC0 ha hlt h1
    rcases hc with ⟨c1,c2,c3⟩|⟨c1,q,ps,c2,c3,c4⟩|⟨c1,c2,c3,c4⟩|⟨c1,c2,x,e,c3,c4⟩
    ·rw[c3] at hR
     simp only at hR
     omega
    ·subst c2
     have ih:=qAD hK hk hb n hn hR kf _ ps (a+1) d ds mDj mDj c4
     rw[zm,if_pos hlt',if_pos ⟨h2,h3⟩,if_pos (by rw[hrd];exact c1)]
     show(if q.l.length<1000000000 then _ else none)=_
     rw[if_pos c3]
     exact ih
    ·have ih:=qAD hK hk hb n hn hR kf _ os (a+1) d ds mDj mDj c4
     rw[zm,if_pos hlt',if_pos ⟨h2,h3⟩,if_neg (by rw[hrd,c1];decide),if_pos ⟨by rw[hrd];exact c1,c2,c3⟩]
     exact ih
    ·have hpos:=(xr hK hk).pos _ _ _ _ _ _ hb ha c3
     obtain⟨k1,k2⟩:=(xr hK hk).cut b a x e n hb ha mDj han c3
     by_cases he:e≤n
     ·rw[y5 hK hk (hb.take n) ha hlt' h2 h3 (by rw[hrd];exact c1) (by rw[hrd];exact c2) (k1 he),if_neg Bool.false_ne_true]
      rcases c4 with ⟨c4,c5⟩|⟨c4,c5⟩
      ·rw[if_pos c4]
       exact qAD hK hk hb n hn hR kf _ _ e _ ds hpos he c5
      ·rw[if_neg (by rw[c4];decide)]
       exact qAD hK hk hb n hn hR kf _ _ e d _ hpos he c5
     ·obtain⟨x',e',k3⟩:=k2 mDj
      rw[y5 hK hk (hb.take n) ha hlt' h2 h3 (by rw[hrd];exact c1) (by rw[hrd];exact c2) k3,if_pos rfl]
   ·rw[zm,if_neg (by rw[hl];exact hlt)]
theorem qAv {K k:Nat}(hK:OfK K)(hk:k+1=2000000){b:List Int}(hb:Bs b)(hl:b.length≤1000000):∀(m:Nat) (o:O_) (os:List O_) (a d:Int) (ds:Bool),0≤a→a≤b.length→(b.length:Int)<a+m→(szO (o::os):Int)≤a+10→∃ r,zT K (k+1) b m (o::os) a d ds=some r
 | 0,o,os,a,d,ds,ha,hab,hm,hs=>by omega
 | m+1,o,os,a,d,ds,ha,hab,hm,hs=>by
   rw[szO] at hs
   have hol:=yF os
   by_cases hlt:a<b.length
   ·by_cases h11:rd b a=11
    ·rw[zm,if_pos hlt,if_pos ⟨mDj,mDj⟩,if_pos h11]
     cases os with
     | nil=>exact⟨_,rfl⟩
     | cons q os =>
       rw[szO] at hs
       show ∃ r,(if q.l.length<1000000000 then _ else none)=_
       rw[if_pos mDj]
       exact qAv hK hk hb hl m _ os (a+1) d ds mDj mDj mDj (by rw[szO,List.length_append,List.length_singleton];omega)
    ·by_cases h5:rd b a=5∧o.x.op=4∧o.e=false
     ·rw[zm,if_pos hlt,if_pos ⟨mDj,mDj⟩,if_neg h11,if_pos h5]
      exact qAv hK hk hb hl m _ os (a+1) d ds mDj mDj mDj (by rw[szO,List.length_nil];omega)
     ·obtain⟨⟨x,e,bd⟩,hx⟩:=(xr hK hk).tot b a hb hl ha hab
      rw[y5 hK hk hb ha hlt mDj mDj h11 h5 hx]
      cases bd with
      | true=>exact⟨none,if_pos rfl⟩
      | false =>
        rw[if_neg Bool.false_ne_true]
        obtain⟨hd,he,hel⟩:=(xr hK hk).short b a x e hb ha hab hx
        have h1:1≤(jN K x).length:=by
         unfold jN yK
         rw[List.length_append]
         split
         ·simp
         ·rw[List.length_cons];omega
        by_cases hbl:qw x.op=true
        ·rw[if_pos hbl]
         exact qAv hK hk hb hl m _ (o::os) e _ ds mDj hel mDj (by rw[szO,szO,List.length_nil];omega)
        ·rw[if_neg hbl]
         exact qAv hK hk hb hl m _ os e d _ mDj hel mDj (by rw[szO,List.length_append,List.length_singleton];omega)
   ·rw[zm,if_neg hlt]
    exact⟨none,rfl⟩
theorem qEA (P:I→Prop):∀(l r:List I),alL P l→alL P r→alL P (l++r)
 | [],r,_,h=>h
 | x::l,r,h1,h2=>by
   rw[alL] at h1
   rw[List.cons_append,alL]
   exact⟨h1.1,qEA P l r h1.2 h2⟩
theorem qFY (K:Nat):∀(l r:List I),nL K (l++r)=nL K l+nL K r
 | [],r=>by rw[nL,Nat.zero_add];rfl
 | x::l,r=>by rw[List.cons_append,nL,nL,qFY K l r,Nat.add_assoc]
theorem qDS (h:Nat):∀(l r:List I),pL h (l++r)=max (pL h l) (pL h r)
 | [],r=>by rw[pL];simp
 | x::l,r=>by rw[List.cons_append,pL,pL,qDS h l r,Nat.max_assoc]
theorem qBy:∀(l r:List I),zf (l++r)=(zf l || zf r)
 | [],r=>by rw[zf];rfl
 | x::l,r=>by rw[List.cons_append,zf,zf,qBy l r,Bool.or_assoc]
theorem qAU (h:Nat):pL h []=0:=by rw[pL]
theorem yE:zf []=false:=by rw[zf]
theorem qBZ (K:Nat):nL K []=0:=by rw[nL]
def Lo (K:Nat)(o:O_):Prop:=Hd K (hdr o.x)∧qw o.x.op=true∧o.x.els = []∧alL (Ok K) o.x.body∧(o.e=false→o.x.body = [])∧(o.e=true→o.x.op=4)
def StO (K:Nat):O_→List O_→Prop
 | o,[]=>alL (Ok K) o.l∧o.x.body = []∧o.x.op≠4
 | o,q::os=>alL (Ok K) o.l∧Lo K o∧StO K q os
theorem StO.l {K:Nat}{o:O_}{os:List O_}(h:StO K o os):alL (Ok K) o.l:=by
 cases os with
 | nil=>exact h.1
 | cons q os=>exact h.1
theorem StO.push {K:Nat}{o:O_}{os:List O_}(h:StO K o os){x:I}(hx:alI (Ok K) x):StO K ⟨o.x,o.l ++ [x],o.e⟩ os:=by
 have hl:alL (Ok K) (o.l ++ [x]):=qEA _ _ _ h.l (by rw[alL,alL];exact⟨hx,trivial⟩)
 cases os with
 | nil=>exact⟨hl,h.2⟩
 | cons q os=>exact⟨hl,h.2.1,h.2.2⟩
def sC (K:Nat):O_→List O_→Nat
 | o,[]=>nL K o.l
 | o,q::os=>nL K o.l+(jN K o.x).length+(if o.e=true then nL K o.x.body+1 else 0)+sC K q os
theorem qEu {K:Nat}{o:O_}{os:List O_}{x:I}:sC K ⟨o.x,o.l ++ [x],o.e⟩ os=sC K o os+nI K x:=by
 have h:nL K (o.l ++ [x])=nL K o.l+nI K x:=by rw[qFY,nL,qBZ,Nat.add_zero]
 cases os with
 | nil=>simp only[sC];exact h
 | cons q os=>simp only[sC];rw[h];omega
def dS:List O_→Nat
 | []=>0
 | o::os=>max (pL os.length o.l) (max os.length (max (pL os.length o.x.body) (dS os)))
theorem qCJ (o:O_)(os:List O_):dS (o::os)=max (pL os.length o.l) (max os.length (max (pL os.length o.x.body) (dS os))):=rfl
def tS:List O_→Bool
 | []=>false
 | o::os=>zf o.l || (zf o.x.body || tS os)
theorem qCM (o:O_)(os:List O_):tS (o::os)=(zf o.l || (zf o.x.body || tS os)):=rfl
theorem qBu {o:Int}(h:qw o=true):(o==64520)=false∧(o==64521)=false:=by
 unfold qw at h
 simp only[Bool.or_eq_true,beq_iff_eq] at h
 constructor <;> (rw[beq_eq_false_iff_ne];omega)
theorem qFJ {K:Nat}{o:O_}(h:Lo K o)(hl:alL (Ok K) o.l):alI (Ok K) (qv o)∧nI K (qv o)≤nL K o.l+(jN K o.x).length+(if o.e=true then nL K o.x.body+1 else 0)+1 ∧
 (∀ n,pI n (qv o)=max (n+1) (max (pL (n+1) o.l) (pL (n+1) o.x.body)))∧qCU (qv o)=(zf o.l || zf o.x.body):=by
 obtain⟨h1,h2,h3,h4,h5,h6⟩:=h
 unfold qv
 by_cases he:o.e=true
 ·rw[if_pos he,if_pos he]
  have hh:hdr {o.x with els:=o.l}=hdr o.x:=rfl
  have henc:jN K {o.x with els:=o.l}=jN K o.x:=by rw[← xQ,hh,xQ]
  refine⟨?_,?_,?_,?_⟩
  ·rw[qC5]
   exact⟨⟨by rw[hh];exact h1,fun hb=>(by rw[show qw o.x.op=false from hb] at h2;cases h2),fun _=>h6 he⟩,h4,hl⟩
  ·rw[qCy,henc]
   show _+(if qw o.x.op=true then nL K o.x.body+nE K o.l+1 else 0)≤_
   rw[if_pos h2]
   have:nE K o.l≤1+nL K o.l:=by unfold nE;split <;> omega
   omega
  ·intro n
   rw[qFW]
   show(if qw o.x.op=true then max (n+1) (max (pL (n+1) o.x.body) (pL (n+1) o.l)) else _)=_
   rw[if_pos h2,Nat.max_comm (pL (n+1) o.x.body)]
  ·rw[qCK]
   show(o.x.op==64520 || (o.x.op==64521 || (zf o.x.body || zf o.l)))=_
   rw[(qBu h2).1,(qBu h2).2,Bool.or_comm (zf o.x.body)]
   rfl
 ·rw[if_neg he,if_neg he]
  have he':o.e=false:=by simpa using he
  have hh:hdr {o.x with body:=o.l}=hdr o.x:=rfl
  have henc:jN K {o.x with body:=o.l}=jN K o.x:=by rw[← xQ,hh,xQ]
  refine⟨?_,?_,?_,?_⟩
  ·rw[qC5]
   exact⟨⟨by rw[hh];exact h1,fun hb=>(by rw[show qw o.x.op=false from hb] at h2;cases h2),fun hne=>absurd h3 hne⟩,hl,by show alL (Ok K) o.x.els;rw[h3,alL];trivial⟩
  ·rw[qCy,henc]
   show _+(if qw o.x.op=true then nL K o.l+nE K o.x.els+1 else 0)≤_
   rw[if_pos h2,h3,show nE K []=0 from rfl]
   omega
  ·intro n
   rw[qFW,h5 he']
   show(if qw o.x.op=true then max (n+1) (max (pL (n+1) o.l) (pL (n+1) o.x.els)) else _)=_
   rw[if_pos h2,h3]
  ·rw[qCK,h5 he']
   show(o.x.op==64520 || (o.x.op==64521 || (zf o.l || zf o.x.els)))=_
   rw[(qBu h2).1,(qBu h2).2,h3]
   rfl
theorem yv {K k:Nat}(hK:OfK K)(hk:k+1=2000000){b:List Int}(hb:Bs b)(a0:Int){R:List I × Int × Int × Bool}:∀(kf:Nat) (o:O_) (os:List O_) (a d:Int) (ds:Bool),0≤a→StO K o os→a0+sC K o os≤a→d=(dS (o::os):Int)→ds=tS (o::os)→zT K (k+1) b kf (o::os) a d ds=some (some R)→
 alL (Ok K) R.1∧a0+nL K R.1+1≤R.2.1∧R.2.1≤b.length∧R.2.2.1=(pL 0 R.1:Int)∧R.2.2.2=zf R.1
 | 0,o,os,a,d,ds,ha,hs,hc,hd,ht,h=>by cases h
 | kf+1,o,os,a,d,ds,ha,hs,hc,hd,ht,h=>by
   obtain⟨h1,h2,h3,hcs⟩:=qGd hK hk hb ha h
   rcases hcs with ⟨c1,rfl,rfl⟩|⟨c1,q,ps,rfl,c3,c4⟩|⟨c1,c2,c3,c4⟩|⟨c1,c2,x,e,c3,c4⟩
   ·obtain⟨s1,s2,s3⟩:=hs
    rw[sC] at hc
    refine⟨s1,?_,h1,?_,?_⟩
    ·show a0+nL K o.l+1≤a+1
     omega
    ·show d=(pL 0 o.l:Int)
     rw[hd,dS,dS,s2]
     simp only[List.length_nil]
     rw[qAU]
     simp
    ·show ds=zf o.l
     rw[ht,tS,tS,s2,yE]
     simp
   ·obtain⟨s1,s2,s3⟩:=hs
    obtain⟨k1,k2,k3,k4⟩:=qFJ s2 s1
    refine yv hK hk hb a0 kf ⟨q.x,q.l ++ [qv o],q.e⟩ ps (a+1) d ds mDj (s3.push k1) ?_ ?_ ?_ c4
    ·rw[qEu]
     rw[sC] at hc
     omega
    ·rw[hd,dS,dS,dS,qDS]
     simp only[List.length_cons]
     rw[show pL ps.length [qv o]=pI ps.length (qv o) by rw[pL,pL];simp,k3]
     congr 1
     omega
    ·rw[ht,tS,tS,tS,qBy,show zf [qv o]=qCU (qv o) by rw[zf,zf,Bool.or_false],k4]
     simp only[]
     cases zf o.l <;> cases zf o.x.body <;> cases zf q.l <;> cases zf q.x.body <;> rfl
   ·cases os with
    | nil=>exact absurd c2 hs.2.2
    | cons q os =>
      obtain⟨s1,⟨t1,t2,t3,t4,t5,t6⟩,s3⟩:=hs
      refine yv hK hk hb a0 kf ⟨{o.x with body:=o.l},[],true⟩ (q::os) (a+1) d ds mDj ⟨by rw[alL];trivial,⟨t1,t2,t3,s1,fun h=>(by cases h),fun _=>c2⟩,s3⟩ ?_ ?_ ?_ c4
      ·rw[sC] at hc ⊢
       rw[if_neg (by rw[c3];decide)] at hc
       show a0+((nL K []+(jN K {o.x with body:=o.l}).length+(if true=true then nL K o.l+1 else 0)+sC K q os:Nat):Int)≤a+1
       have henc:jN K {o.x with body:=o.l}=jN K o.x:=by rw[← xQ];exact xQ K o.x
       rw[henc,qBZ,if_pos rfl]
       omega
      ·rw[hd,qCJ o (q::os),qCJ _ (q::os),t5 c3]
       simp only[]
       rw[qAU]
       congr 1
       omega
      ·rw[ht,qCM o (q::os),qCM _ (q::os),t5 c3]
       simp only[]
       rw[yE]
       cases zf o.l <;> rfl
   ·obtain⟨hd1,he1,hel⟩:=(xr hK hk).short b a x e hb ha mDj c3
    have hnn:x.body = []∧x.els = []:=by
     obtain⟨im,i1,i2⟩:=hd1
     unfold qBo at i2
     rw[if_pos (show yI (x.op,im).1 from⟨i1.1,i1.2.1⟩)] at i2
     by_cases him:(x.op,im).2=1
     ·rw[if_pos him] at i2
      obtain⟨q,_,hq⟩:=i2
      rw[← hq]
      exact⟨rfl,rfl⟩
     ·rw[if_neg him] at i2
      exact qDN him i2.2.1
    have hdx:hdr x=x:=qAB hnn
    rcases c4 with ⟨c4,c5⟩|⟨c4,c5⟩
    ·refine yv hK hk hb a0 kf ⟨x,[],false⟩ (o::os) e _ ds mDj ⟨by rw[alL];trivial,⟨by rw[hdx];exact hd1,c4,hnn.2,by show alL (Ok K) x.body;rw[hnn.1,alL];trivial,fun _=>hnn.1,fun h=>(by cases h)⟩,hs⟩ ?_ ?_ ?_ c5
     ·rw[sC]
      show a0+((nL K []+(jN K x).length+(if false=true then nL K x.body+1 else 0)+sC K o os:Nat):Int)≤e
      rw[qBZ,if_neg Bool.false_ne_true]
      omega
     ·rw[hd,qCJ _ (o::os)]
      simp only[]
      rw[hnn.1,qAU,List.length_cons]
      omega
     ·rw[ht,qCM _ (o::os)]
      simp only[]
      rw[hnn.1,yE]
      rfl
    ·have hok:alI (Ok K) x:=by
      rw[qC5,hnn.1,hnn.2,alL]
      exact⟨⟨by rw[hdx];exact hd1,fun _=>hnn,fun hne=>absurd hnn.2 hne⟩,trivial,trivial⟩
     refine yv hK hk hb a0 kf ⟨o.x,o.l ++ [x],o.e⟩ os e d _ mDj (hs.push hok) ?_ ?_ ?_ c5
     ·rw[qEu,qCy,if_neg (by rw[c4];decide)]
      omega
     ·rw[hd,dS,dS,qDS]
      simp only[]
      rw[show pL os.length [x]=0 by rw[pL,pL,qFW,if_neg (by rw[c4];decide),hnn.1,hnn.2,qAU];rfl]
      simp
     ·rw[ht,tS,tS,qBy]
      simp only[]
      rw[show zf [x]=(x.op==64520 || x.op==64521) by rw[zf,zf,qCK,hnn.1,hnn.2,yE];simp]
      cases zf o.l <;> cases zf o.x.body <;> cases tS os <;> cases (x.op==64520 || x.op==64521) <;> rfl
end Go.Proofs.YtobldeamemmokaaDoor.P
