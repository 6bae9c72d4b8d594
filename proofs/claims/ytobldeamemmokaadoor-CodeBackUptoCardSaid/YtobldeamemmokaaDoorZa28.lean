import Derived.Test.YtobldeamemmokaaDoorZa27
set_option linter.unusedVariables false
set_option linter.unusedSimpArgs false
set_option maxHeartbeats 64000000
namespace Go.Proofs.YtobldeamemmokaaDoor.P
open Go.RowKit Go.Proofs.YtobldeamemmokaaDoorW.PrintWords Go.Proofs.YtobldeamemmokaaDoorW.PrintLast Go.Proofs.YtobldeamemmokaaDoorW.PrintMore
def sF (K:Nat)(b:List Int)(at_ wd:Int)(bad:Bool):Option (Int × Int × Bool):=if bad=true then some (0,at_,true) else (zR.f K b at_ wd).map fun q=>if q.2.2=0 then (q.1,q.2.1,false) else (0,at_,true)
theorem qB5 (K:Nat)(w0 W:World)(g:Nat)(A:Option Addr)(c:Nat)(b:List Int)(at_ wd:Int)(bad:Bool)(r:Int × Int × Bool)(hB:Below w0.heap.size w0 W)(hg:W.heap[g]? = some (oRd A c b at_ bad))(hn:w0.heap.size≤g)(hC:(Kd.int .u8).C w0 A b.length b)(hc:b.length≤c)(h:sF K b at_ wd bad=some r):
 Calls Tryd.prog 65 #[.pointer (some ⟨g,0,none⟩),.int .i64 wd] W fun e W'=>e = .returned (.int .i64 r.1)∧KS_ w0 W W' g (oRd A c b r.2.1 r.2.2):=by
 unfold sF at h
 cases bad
 ·rw[if_neg mDp] at h
  obtain⟨⟨n,next,er⟩,hu,h⟩:=Option.map_eq_some_iff.1 h
  simp only at h
  by_cases he:er=0
  ·rw[if_pos he] at h
   subst h
   subst he
   exact(qHN K w0 W g A c b at_ wd n next hB hg hn hC hc hu).mono fun e W' ⟨h1,h2,h3,h4⟩=>⟨h1,KS_.call (KS_.start hg hB hn) h2 h3 h4⟩
  ·rw[if_neg he] at h
   subst h
   have c0:W.cell? ⟨g,0,none⟩=some (.slice A b.length c):=(qA hg 0).trans rfl
   have c1:W.cell? ⟨g,1,none⟩=some (.int .i64 at_):=(qA hg 1).trans rfl
   have c2:W.cell? ⟨g,2,none⟩=some (.bool false):=(qA hg 2).trans rfl
   have HB:=am hB
   have HC:=am hC
   have HCC:=am hc
   have H:=am hu
   have S0:=am (KS_.start hg hB hn)
   have e8:(er != 0)=true:=by rw[bne_iff_ne];exact he
   clear hg hB hn hC hc hu he
   go_enter Tryd.func65,Tryd.ntmps65
   go_wp2
   go_quiet (first
    | (go_at_call 79;with_reducible refine(zR.calls K A c b at_ wd n next er _ (Kd.C_drewN (Kd.C_below HC.out HB.out) _) HCC.out H.out).mono ?_;rintro e w' ⟨rfl,⟨nd,rfl⟩⟩;first|exact⟨rfl,_,World.drewN_drewN _ _ _⟩|exact⟨rfl,_,Eq.trans (World.drewN_drewN _ _ _) (congrArg (World.drewN _) (Nat.add_assoc _ _ _))⟩))
   go_wp2_with (first
    | ((with_reducible refine qF (t:=4) (p:=30) (v:=.const (.bool true)) rfl ?_);refine qT rfl 4 (.tmp 30) (.const (.bool true)) rfl g 2 (.bool true) rfl rfl 87 #[.slice A b.length c,.int .i64 at_,.bool false] #[.slice A b.length c,.int .i64 at_,.bool true] mDo (show 2<3 by decide) z7 rfl rfl ?_;intro w1 hb hoth hsz hbel;have n0_:=am (KS_.self mDi hb hoth hsz hbel);clear S0 hb hoth hsz hbel;have S0:=n0_;clear n0_))
   exact mBh
 ·rw[if_pos rfl] at h
  obtain rfl:=Option.some.inj h
  have c2:W.cell? ⟨g,2,none⟩=some (.bool true):=(qA hg 2).trans rfl
  have S0:=am (KS_.start hg hB hn)
  clear hg hB hn hC hc h
  go_enter Tryd.func65,Tryd.ntmps65
  go_wp2
  go_ret
  exact⟨rfl,S0.out⟩
def zY (b:List Int)(at_:Int)(bad:Bool):Int × Bool:=((q8 b at_ bad).2.1,(q8 b at_ bad).1 != 0 || (q8 b at_ bad).2.2)
theorem xj (w0 W:World)(g:Nat)(A:Option Addr)(c:Nat)(b:List Int)(at_:Int)(bad:Bool)(hB:Below w0.heap.size w0 W)(hg:W.heap[g]? = some (oRd A c b at_ bad))(hn:w0.heap.size≤g)(hC:(Kd.int .u8).C w0 A b.length b)(hc:b.length≤c)(h0:0≤at_):
 Calls Tryd.prog 67 #[.pointer (some ⟨g,0,none⟩)] W fun e W'=>e = .returned (.tuple #[])∧KS_ w0 W W' g (oRd A c b (zY b at_ bad).1 (zY b at_ bad).2):=by
 unfold zY
 obtain⟨⟨q1,q2,q3⟩,hq⟩:∃ q,q8 b at_ bad=q:=⟨_,rfl⟩
 have ON:=am (fun(W1:World) (h9:KS_ w0 W W1 g (oRd A c b at_ bad))=>jT w0 W1 g A c b at_ bad h9.2.2.1 h9.1 hn hC hc h0)
 rw[hq] at ON
 have S0:=am (KS_.start hg hB hn)
 clear hg hB hn hC hc h0
 rw[hq]
 show Calls _ _ _ _ fun e W'=>_∧KS_ w0 W W' g (oRd A c b q2 (q1 != 0 || q3))
 clear hq
 cases hz:(q1 != 0)
 ·have hz':q1=0:=by simpa using hz
  subst hz'
  go_enter Tryd.func67,Tryd.ntmps67
  go_wp2_with (first
   | (go_at_call 63;refine(ON.out _ mDi).mono ?_;rintro e w1 ⟨rfl,hS⟩;have n0_:=am (KS_.call mDi hS.1 hS.2.1 hS.2.2.1);clear S0 hS;have S0:=n0_;clear n0_;have c2:w1.cell? ⟨g,2,none⟩=some (.bool q3):=(qA S0.out.1 2).trans rfl;have f2:=qD S0.out.1 2)
   | ((with_reducible refine qF (t:=4) (p:=13) (v:=.tmp 11) rfl ?_);refine qT rfl 4 (.tmp 13) (.tmp 11) rfl g 2 (.bool q3) rfl rfl 87 #[.slice A b.length c,.int .i64 q2,.bool q3] #[.slice A b.length c,.int .i64 q2,.bool q3] mDo (show 2<3 by decide) z7 rfl rfl ?_;intro w3 hb hoth hsz hbel;have n0_:=am (KS_.self mDi hb hoth hsz hbel);clear S0 hb hoth hsz hbel;have S0:=n0_;clear n0_))
  exact⟨rfl,.tuple #[],by first|rfl|simp[results,Tryd.f67],rfl,mDi⟩
 ·go_enter Tryd.func67,Tryd.ntmps67
  go_wp2_with (first
   | (go_at_call 63;refine(ON.out _ mDi).mono ?_;rintro e w1 ⟨rfl,hS⟩;have n0_:=am (KS_.call mDi hS.1 hS.2.1 hS.2.2.1);clear S0 hS;have S0:=n0_;clear n0_;have c2:w1.cell? ⟨g,2,none⟩=some (.bool q3):=(qA S0.out.1 2).trans rfl;have f2:=qD S0.out.1 2)
   | ((with_reducible refine qF (t:=4) (p:=13) (v:=.tmp 11) rfl ?_);refine qT rfl 4 (.tmp 13) (.tmp 11) rfl g 2 (.bool true) rfl rfl 87 #[.slice A b.length c,.int .i64 q2,.bool q3] #[.slice A b.length c,.int .i64 q2,.bool true] mDo (show 2<3 by decide) z7 rfl rfl ?_;intro w3 hb hoth hsz hbel;have n0_:=am (KS_.self mDi hb hoth hsz hbel);clear S0 hb hoth hsz hbel;have S0:=n0_;clear n0_))
  exact⟨rfl,.tuple #[],by first|rfl|simp[results,Tryd.f67],rfl,mDi⟩
def qAE (b:List Int)(at_:Int)(bad:Bool):Int × Int × Bool:=((q8 b at_ bad).1,(q8 b at_ bad).2.1,(q8 b at_ bad).2.2 || !tyB (q8 b at_ bad).1)
theorem qBM (w0 W:World)(g:Nat)(A:Option Addr)(c:Nat)(b:List Int)(at_:Int)(bad:Bool)(hB:Below w0.heap.size w0 W)(hg:W.heap[g]? = some (oRd A c b at_ bad))(hn:w0.heap.size≤g)(hC:(Kd.int .u8).C w0 A b.length b)(hc:b.length≤c)(h0:0≤at_):
 Calls Tryd.prog 69 #[.pointer (some ⟨g,0,none⟩)] W fun e W'=>e = .returned (.int .u8 (qAE b at_ bad).1)∧KS_ w0 W W' g (oRd A c b (qAE b at_ bad).2.1 (qAE b at_ bad).2.2):=by
 unfold qAE
 obtain⟨⟨q1,q2,q3⟩,hq⟩:∃ q,q8 b at_ bad=q:=⟨_,rfl⟩
 have ON:=am (fun(W1:World) (h9:KS_ w0 W W1 g (oRd A c b at_ bad))=>jT w0 W1 g A c b at_ bad h9.2.2.1 h9.1 hn hC hc h0)
 rw[hq] at ON
 have S0:=am (KS_.start hg hB hn)
 clear hg hB hn hC hc h0
 rw[hq]
 show Calls _ _ _ _ fun e W'=>e = .returned (.int .u8 q1)∧KS_ w0 W W' g (oRd A c b q2 (q3 || !tyB q1))
 clear hq
 obtain⟨ty,hty⟩:=ey_ (tyB q1)
 have IS:=am (fun(W1:World)=>zw.calls q1 (tyB q1) W1 (qDX q1))
 rw[hty] at IS ⊢
 clear hty
 cases q3
 ·go_enter Tryd.func69,Tryd.ntmps69
  go_wp2_with (first
   | (go_at_call 63;refine(ON.out _ mDi).mono ?_;rintro e w1 ⟨rfl,hS⟩;have n0_:=am (KS_.call mDi hS.1 hS.2.1 hS.2.2.1);clear S0 hS;have S0:=n0_;clear n0_;have c2:w1.cell? ⟨g,2,none⟩=some (.bool false):=(qA S0.out.1 2).trans rfl;have f2:=qD S0.out.1 2)
   | (go_at_call 57;refine(IS.out _).mono ?_;rintro e w2 ⟨rfl,hd⟩;have n0_:=am (S0.out.below hd.below);clear S0 hd;have S0:=n0_;clear n0_)
   | ((with_reducible refine qF (t:=4) (p:=17) (v:=.tmp 15) rfl ?_);refine qT rfl 4 (.tmp 17) (.tmp 15) rfl g 2 (.bool (!ty)) rfl rfl 87 #[.slice A b.length c,.int .i64 q2,.bool false] #[.slice A b.length c,.int .i64 q2,.bool (!ty)] mDo (show 2<3 by decide) z7 rfl rfl ?_;intro w3 hb hoth hsz hbel;have n0_:=am (KS_.self mDi hb hoth hsz hbel);clear S0 hb hoth hsz hbel;have S0:=n0_;clear n0_))
  exact mBh
 ·go_enter Tryd.func69,Tryd.ntmps69
  go_wp2_with (first
   | (go_at_call 63;refine(ON.out _ mDi).mono ?_;rintro e w1 ⟨rfl,hS⟩;have n0_:=am (KS_.call mDi hS.1 hS.2.1 hS.2.2.1);clear S0 hS;have S0:=n0_;clear n0_;have c2:w1.cell? ⟨g,2,none⟩=some (.bool true):=(qA S0.out.1 2).trans rfl;have f2:=qD S0.out.1 2)
   | ((with_reducible refine qF (t:=4) (p:=17) (v:=.tmp 15) rfl ?_);refine qT rfl 4 (.tmp 17) (.tmp 15) rfl g 2 (.bool true) rfl rfl 87 #[.slice A b.length c,.int .i64 q2,.bool true] #[.slice A b.length c,.int .i64 q2,.bool true] mDo (show 2<3 by decide) z7 rfl rfl ?_;intro w3 hb hoth hsz hbel;have n0_:=am (KS_.self mDi hb hoth hsz hbel);clear S0 hb hoth hsz hbel;have S0:=n0_;clear n0_))
  exact mBh
def xH (b:List Int):Nat→Nat→Int→Int→Bool→Int × Int × Bool
 | 0,_,x,at_,bad=>(x,at_,bad)
 | m+1,i,x,at_,bad=>xH b m (i+1) (bits .or .u64 x (IntKind.u64.wrap (IntKind.u64.wrap (q8 b at_ bad).1*2 ^ (8*i)))) (q8 b at_ bad).2.1 (q8 b at_ bad).2.2
theorem qBP (n:Nat)(hn8:n≤8)(w0 W:World)(g:Nat)(A:Option Addr)(c:Nat)(b:List Int)(at_:Int)(bad:Bool)(hB:Below w0.heap.size w0 W)(hg:W.heap[g]? = some (oRd A c b at_ bad))(hn:w0.heap.size≤g)(hC:(Kd.int .u8).C w0 A b.length b)(hc:b.length≤c)(h0:0≤at_)(r:Int × Int × Bool)(h:xH b n 0 0 at_ bad=r):
 Calls Tryd.prog 68 #[.pointer (some ⟨g,0,none⟩),.int .i64 n] W fun e W'=>e = .returned (.int .u64 r.1)∧KS_ w0 W W' g (oRd A c b r.2.1 r.2.2):=by
 have S0:=am (KS_.start hg hB hn)
 have HC:=am (And.intro hC (And.intro hc hn))
 have H0:=am h0
 have HH:=am h
 clear hg hB hn hC hc h0 h
 go_enter Tryd.func68,Tryd.ntmps68
 go_wp2
 go_loopg [5,8] n (fun kq v5 v8 w'=>∃(i:Nat) (x at1:Int) (bad1:Bool),i+kq=n∧v5 = .int .u64 x∧v8 = .int .i64 i∧Aside0 (xH b kq i x at1 bad1=r)∧Aside0 (KS_ w0 W w' g (oRd A c b at1 bad1))∧Aside0 (0≤at1))
 case atStart=>exact⟨0,0,at_,bad,mDj,rfl,rfl,HH,S0,H0⟩
 case round =>
  clear S0 HH H0
  obtain⟨i,x,at1,bad1,hi,rfl,rfl,HH,S0,H0⟩:=hrel
  by_cases hlt:i<n
  ·obtain⟨k1,rfl⟩:∃ k1,gk=k1+1:=⟨gk - 1,mDj⟩
   have d1:decide ((i:Int)<(n:Int))=true:=decide_eq_true mDj
   have wi:wrap64 ((i:Int)+1)=((i+1:Nat):Int):=by unfold wrap64;omega
   have wm:0≤wrap64 (8*(i:Int)):=by unfold wrap64;omega
   have hH:=HH.out
   rw[xH] at hH
   obtain⟨⟨q1,q2,q3⟩,hq⟩:∃ q,q8 b at1 bad1=q:=⟨_,rfl⟩
   have ON:=am (fun(W1:World) (h9:KS_ w0 W W1 g (oRd A c b at1 bad1))=>jT w0 W1 g A c b at1 bad1 h9.2.2.1 h9.1 HC.out.2.2 HC.out.1 HC.out.2.1 H0.out)
   have hz:=xP (b:=b) (bad:=bad1) H0.out
   rw[hq] at ON hH hz
   have HH2:=am hH
   have HZ:=am hz
   clear hH HH hz hq H0
   go_wp2_with (first
    | (go_at_call 63;refine(ON.out _ mDi).mono ?_;rintro e w1 ⟨rfl,hS⟩;have n0_:=am (KS_.call mDi hS.1 hS.2.1 hS.2.2.1);clear S0 hS;have S0:=n0_;clear n0_))
   go_roundg k1
   case measure=>omega
   case rel=>exact⟨i+1,_,q2,q3,mDj,rfl,by first|rfl|exact congrArg (Value.int .i64) wi|(rw[wi]),HH2,S0,HZ⟩
  ·have d1:decide ((i:Int)<(n:Int))=false:=decide_eq_false mDj
   obtain rfl:gk=0:=mDj
   obtain rfl:(x,at1,bad1)=r:=HH.out
   go_wp2
   go_ret
   exact⟨rfl,S0.out⟩
theorem KS_.grown {w0 W W1 W2:World}{g:Nat}{o:Obj}{row:Option Nat}(h:KS_ w0 W W1 g o)(hg:W1.grownBy W2 row)(hr:∀ k,row=some k→W.heap.size≤k)(hb:Below w0.heap.size w0 W2):KS_ w0 W W2 g o:=by
 have h1:=qN h.1
 have hne:∀ i,i<W.heap.size→some i≠row:=fun i hi e=>by have:=hr i e.symm;omega
 refine⟨(hg.block g h1 (hne g h.2.2.2.1)).trans h.1,⟨Nat.le_trans h.2.1.1 hg.size,fun i hi hig hir=>(hg.block i (Nat.lt_of_lt_of_le hi h.2.1.1) (hne i hi)).trans (h.2.1.2 i hi hig hir)⟩,hb,h.2.2.2⟩
theorem qH1 {K:Nat}{b:List Int}{at_:Int}{bad:Bool}{r:Int × Int × Bool}(h:uF K b at_ bad=some r):0≤r.1∧r.1<4294967296:=by
 unfold uF at h
 by_cases hb:bad=true
 ·rw[if_pos hb] at h
  obtain rfl:=Option.some.inj h
  exact⟨Int.le_refl 0,by show(0:Int)<4294967296;decide⟩
 ·rw[if_neg hb] at h
  obtain⟨q,_,rfl⟩:=Option.map_eq_some_iff.1 h
  split
  ·show 0≤IntKind.u32.wrap q.1∧_
   unfold IntKind.wrap
   simp[IntKind.signed,IntKind.bits]
   omega
  ·exact⟨Int.le_refl 0,by show(0:Int)<4294967296;decide⟩
theorem qEG:(Tryd.prog.info? 34).map (fun i=>(i.zero,i.size,i.bytes))=some (some (.int .u32 0),1,4):=mDh
theorem qG4:(Tryd.prog.info? 39).map (fun i=>(i.zero,i.size,i.bytes))=some (some (.int .u8 0),1,1):=mDh
theorem qBz {α:Type}{d:Kd α}{e:Nat}{W w1:World}{base:Nat}{ok:Nat→Prop}{v:Value}{xs:List α}(h:d.R e W base ok v xs)(hg:W.grownBy w1 none):d.R e w1 base ok v xs:=Kd.R_step h (fun k _ hlt=>hg.block k hlt mDp)
def xx (K:Nat)(b:List Int):Nat→Int→Int→List Int→Int→Bool→Option (List Int × Int × Bool)
 | 0,_,_,_,_,_=>none
 | k+1,n,i,l,at_,bad=>if i<n∧bad=false then (if l.length<1000000000000 then (uF K b at_ bad).bind (fun r=>xx K b k n (i+1) (l ++ [r.1]) r.2.1 r.2.2) else none) else some (l,at_,bad)
theorem qCV (K k:Nat)(w0 W:World)(g:Nat)(A:Option Addr)(c:Nat)(b:List Int)(at_:Int)(bad:Bool)(r0:Int × Int × Bool)(r:List Int × Int × Bool)(hB:Below w0.heap.size w0 W)(hg:W.heap[g]? = some (oRd A c b at_ bad))(hn:w0.heap.size≤g)(hC:(Kd.int .u8).C w0 A b.length b)(hc:b.length≤c)(hu:uF K b at_ bad=some r0)(h:xx K b k r0.1 0 [] r0.2.1 r0.2.2=some r):
 Calls Tryd.prog 66 #[.pointer (some ⟨g,0,none⟩),.func (.func 64) #[.pointer (some ⟨g,0,none⟩)] #[]] W fun e W'=>∃ v,e = .returned v∧(Kd.int .u32).R 34 W' w0.heap.size (fun q=>W.heap.size≤q) v r.1∧KS_ w0 W W' g (oRd A c b r.2.1 r.2.2):=by
 have UC:=am (z8 K w0 W g A c b at_ bad r0 hB hg hn hC hc hu)
 have S0:=am (KS_.start hg hB hn)
 have HC:=am (And.intro hC (And.intro hc hn))
 have HH:=am h
 obtain⟨n,at0,bad0⟩:=r0
 have hlt:=qH1 hu
 have HLT:=am hlt
 have hn0:0≤n:=hlt.1
 have hn1:n<4294967296:=hlt.2
 clear hg hB hn hC hc hu h hlt
 go_enter Tryd.func66,Tryd.ntmps66
 go_wp2_with (first
  | (go_at_call 64;refine UC.out.mono ?_;rintro e w1 ⟨rfl,hS⟩;have n0_:=am hS;clear S0 UC hS;have S0:=n0_;clear n0_))
 go_loopg [6,7] k (fun kq v6 v7 w'=>∃(i:Int) (l:List Int) (at1:Int) (bad1:Bool),v7 = .int .u32 i∧Aside0 (xx K b kq n i l at1 bad1=some r)∧Aside0 ((Kd.int .u32).R 34 w' w0.heap.size (fun q=>W.heap.size≤q) v6 l)∧Aside0 (KS_ w0 W w' g (oRd A c b at1 bad1))∧Aside0 (0≤i∧i≤n))
 case atStart=>exact⟨0,[],at0,bad0,rfl,HH,⟨Kd.R_nil _ _ _ _ _⟩,S0,⟨Int.le_refl 0,hn0⟩⟩
 case round =>
  clear S0 HH
  obtain⟨i,l,at1,bad1,rfl,HH,RV,S0,HI⟩:=hrel
  cases gk with
  | zero=>exact absurd HH.out (by simp[xx])
  | succ k1 =>
  have hH:=HH.out
  rw[xx] at hH
  have c2:wr.cell? ⟨g,2,none⟩=some (.bool bad1):=(qA S0.out.1 2).trans rfl
  have hi0:=HI.out.1
  by_cases hlt:i<n∧bad1=false
  ·rw[if_pos hlt] at hH
   have hl:l.length<1000000000000:=by
    by_cases h9:l.length<1000000000000
    ·exact h9
    ·rw[if_neg h9] at hH;cases hH
   rw[if_pos hl] at hH
   obtain⟨hlt,rfl⟩:=hlt
   have d1:decide (i<n)=true:=decide_eq_true hlt
   have wi:(i+1) % 4294967296=i+1:=mDj
   obtain⟨⟨q1,q2,q3⟩,hq,hH⟩:=Option.bind_eq_some_iff.1 hH
   have HH2:=am hH
   have EC:=am (fun(W1:World) (h9:KS_ w0 W W1 g (oRd A c b at1 false))=>z8 K w0 W1 g A c b at1 false (q1,q2,q3) h9.2.2.1 h9.1 HC.out.2.2 HC.out.1 HC.out.2.1 hq)
   clear hq
   have HL_:=am hl
   clear hH HH hl
   go_wp2_with (first
    | (go_at_call 64;refine(EC.out _ S0.out).mono ?_;rintro e w1 ⟨rfl,hS⟩;have n1_:=am (Kd.R_keep RV.out hS.2.1 (fun q hq=>by have:=S0.out.2.2.2.1;omega));have n0_:=am (KS_.call S0.out hS.1 hS.2.1 hS.2.2.1);clear S0 RV hS;have S0:=n0_;have RV:=n1_;clear n0_ n1_)
    | ((with_reducible refine qE (N:=25) rfl ?_);refine Kd.R_lit (Kd.int .u32) (w0:=w0) w0.heap.size 34 ?hg (N:=25) ?hd (xs:=([q1]:List Int)) (inner:=[.int .u32 q1]) (ok:=fun _=>True) (okp:=fun _=>True) ?hr ?hp (fun _ hk=>hk) trivial S0.out.2.2.1 S0.out.2.2.1.size mDp ?_;(case hd=>rfl);(case hg=>rfl);(case hr=>first|(go_simp;done)|(go_simp;rfl));(case hp=>exact Reps.one (show Kd.M (Kd.int .u32) _ _ _ q1 [.int .u32 q1] from rfl) (Reps.none _ _));intro v25 w2 ho4 hb hg_ hnew_;obtain⟨Al_,cl_,rfl⟩:=Kd.R_slice ho4;have n0_:=am (KS_.grown S0.out hg_ (fun k hk=>by cases hk) hb);have n1_:=am (qBz RV.out hg_);have RL:=am ho4;clear S0 RV ho4 hb hg_ hnew_;have S0:=n0_;have RV:=n1_;clear n0_ n1_)
    | ((with_reducible refine qZ (b:=.append) (xs:=#[.tmp 22,.tmp 25]) rfl ?_);at_builtin;refine Kd.R_append_rows (Kd.int .u32) (w0:=w0) w0.heap.size rfl (.tmp 22) (.tmp 25) 37 34 (.int .u32 0) 4 rfl Tryd.underlying37 qEG rfl mDl mDl u6 l [q1] Al_ 1 cl_ (fun q=>W.heap.size≤q) (fun _=>False) rfl rfl RV.out (Kd.R_reads' RL.out).2.2 (fun _ _ h=>h) (fun _ h=>h.elim) (fun q hq=>Nat.le_trans S0.out.2.1.1 hq) S0.out.2.2.1 S0.out.2.2.1.size ?aL ?_;(case aL=>have:=HL_.out;omega);intro v26 w3 ho4 hb hg hat;have n0_:=am (KS_.grown S0.out hg (fun k hk=>RV.out.1 k hk) hb);have n1_:=am ho4;clear S0 RV RL ho4 hb hg hat;have S0:=n0_;have RV:=n1_;clear n0_ n1_))
   go_roundg k1
   case measure=>omega
   case rel=>exact⟨i+1,l ++ [q1],q2,q3,by first|rfl|exact congrArg (Value.int .u32) wi|(rw[wi]),HH2,RV,S0,⟨mDj,mDj⟩⟩
  exact mA7
def xw (K:Nat)(b:List Int):Nat→Int→Int→List Int→Int→Bool→Option (List Int × Int × Bool)
 | 0,_,_,_,_,_=>none
 | k+1,n,i,l,at_,bad=>if i<n∧bad=false then (if l.length<1000000000000 then (some (qAE b at_ bad)).bind (fun r=>xw K b k n (i+1) (l ++ [r.1]) r.2.1 r.2.2) else none) else some (l,at_,bad)
theorem qDc (K k:Nat)(w0 W:World)(g:Nat)(A:Option Addr)(c:Nat)(b:List Int)(at_:Int)(bad:Bool)(r0:Int × Int × Bool)(r:List Int × Int × Bool)(hB:Below w0.heap.size w0 W)(hg:W.heap[g]? = some (oRd A c b at_ bad))(hn:w0.heap.size≤g)(hC:(Kd.int .u8).C w0 A b.length b)(hc:b.length≤c)(hu:uF K b at_ bad=some r0)(h:xw K b k r0.1 0 [] r0.2.1 r0.2.2=some r)(h0:0≤r0.2.1):
 Calls Tryd.prog 70 #[.pointer (some ⟨g,0,none⟩),.func (.func 69) #[.pointer (some ⟨g,0,none⟩)] #[]] W fun e W'=>∃ v,e = .returned v∧(Kd.int .u8).R 39 W' w0.heap.size (fun q=>W.heap.size≤q) v r.1∧KS_ w0 W W' g (oRd A c b r.2.1 r.2.2):=by
 have UC:=am (z8 K w0 W g A c b at_ bad r0 hB hg hn hC hc hu)
 have S0:=am (KS_.start hg hB hn)
 have HC:=am (And.intro hC (And.intro hc hn))
 have HH:=am h
 obtain⟨n,at0,bad0⟩:=r0
 have hlt:=qH1 hu
 have HLT:=am hlt
 have hn0:0≤n:=hlt.1
 have hn1:n<4294967296:=hlt.2
 have hp0:0≤at0:=h0
 clear hg hB hn hC hc hu h hlt
 go_enter Tryd.func70,Tryd.ntmps70
 go_wp2_with (first
  | (go_at_call 64;refine UC.out.mono ?_;rintro e w1 ⟨rfl,hS⟩;have n0_:=am hS;clear S0 UC hS;have S0:=n0_;clear n0_))
 go_loopg [6,7] k (fun kq v6 v7 w'=>∃(i:Int) (l:List Int) (at1:Int) (bad1:Bool),v7 = .int .u32 i∧Aside0 (xw K b kq n i l at1 bad1=some r)∧Aside0 ((Kd.int .u8).R 39 w' w0.heap.size (fun q=>W.heap.size≤q) v6 l)∧Aside0 (KS_ w0 W w' g (oRd A c b at1 bad1))∧Aside0 (0≤i∧i≤n∧0≤at1))
 case atStart=>exact⟨0,[],at0,bad0,rfl,HH,⟨Kd.R_nil _ _ _ _ _⟩,S0,⟨Int.le_refl 0,hn0,hp0⟩⟩
 case round =>
  clear S0 HH
  obtain⟨i,l,at1,bad1,rfl,HH,RV,S0,HI⟩:=hrel
  cases gk with
  | zero=>exact absurd HH.out (by simp[xw])
  | succ k1 =>
  have hH:=HH.out
  rw[xw] at hH
  have c2:wr.cell? ⟨g,2,none⟩=some (.bool bad1):=(qA S0.out.1 2).trans rfl
  have hi0:=HI.out.1
  by_cases hlt:i<n∧bad1=false
  ·rw[if_pos hlt] at hH
   have hl:l.length<1000000000000:=by
    by_cases h9:l.length<1000000000000
    ·exact h9
    ·rw[if_neg h9] at hH;cases hH
   rw[if_pos hl] at hH
   obtain⟨hlt,rfl⟩:=hlt
   have d1:decide (i<n)=true:=decide_eq_true hlt
   have wi:(i+1) % 4294967296=i+1:=mDj
   obtain⟨⟨q1,q2,q3⟩,hq⟩:∃ q,qAE b at1 false=q:=⟨_,rfl⟩
   have EC:=am (fun(W1:World) (h9:KS_ w0 W W1 g (oRd A c b at1 false))=>qBM w0 W1 g A c b at1 false h9.2.2.1 h9.1 HC.out.2.2 HC.out.1 HC.out.2.1 HI.out.2.2)
   have hz:0≤(qAE b at1 false).2.1:=xP HI.out.2.2
   rw[Option.bind_some] at hH
   rw[hq] at EC hH hz
   have HZ:=am hz
   have HH2:=am hH
   clear hq hz
   have HL_:=am hl
   clear hH HH hl
   go_wp2_with (first
    | (go_at_call 69;refine(EC.out _ S0.out).mono ?_;rintro e w1 ⟨rfl,hS⟩;have n1_:=am (Kd.R_keep RV.out hS.2.1 (fun q hq=>by have:=S0.out.2.2.2.1;omega));have n0_:=am (KS_.call S0.out hS.1 hS.2.1 hS.2.2.1);clear S0 RV hS;have S0:=n0_;have RV:=n1_;clear n0_ n1_)
    | ((with_reducible refine qE (N:=25) rfl ?_);refine Kd.R_lit (Kd.int .u8) (w0:=w0) w0.heap.size 39 ?hg (N:=25) ?hd (xs:=([q1]:List Int)) (inner:=[.int .u8 q1]) (ok:=fun _=>True) (okp:=fun _=>True) ?hr ?hp (fun _ hk=>hk) trivial S0.out.2.2.1 S0.out.2.2.1.size mDp ?_;(case hd=>rfl);(case hg=>rfl);(case hr=>first|(go_simp;done)|(go_simp;rfl));(case hp=>exact Reps.one (show Kd.M (Kd.int .u8) _ _ _ q1 [.int .u8 q1] from rfl) (Reps.none _ _));intro v25 w2 ho4 hb hg_ hnew_;obtain⟨Al_,cl_,rfl⟩:=Kd.R_slice ho4;have n0_:=am (KS_.grown S0.out hg_ (fun k hk=>by cases hk) hb);have n1_:=am (qBz RV.out hg_);have RL:=am ho4;clear S0 RV ho4 hb hg_ hnew_;have S0:=n0_;have RV:=n1_;clear n0_ n1_)
    | ((with_reducible refine qZ (b:=.append) (xs:=#[.tmp 22,.tmp 25]) rfl ?_);at_builtin;refine Kd.R_append_rows (Kd.int .u8) (w0:=w0) w0.heap.size rfl (.tmp 22) (.tmp 25) 38 39 (.int .u8 0) 1 rfl Tryd.underlying38 qG4 rfl mDl mDl u6 l [q1] Al_ 1 cl_ (fun q=>W.heap.size≤q) (fun _=>False) rfl rfl RV.out (Kd.R_reads' RL.out).2.2 (fun _ _ h=>h) (fun _ h=>h.elim) (fun q hq=>Nat.le_trans S0.out.2.1.1 hq) S0.out.2.2.1 S0.out.2.2.1.size ?aL ?_;(case aL=>have:=HL_.out;omega);intro v26 w3 ho4 hb hg hat;have n0_:=am (KS_.grown S0.out hg (fun k hk=>RV.out.1 k hk) hb);have n1_:=am ho4;clear S0 RV RL ho4 hb hg hat;have S0:=n0_;have RV:=n1_;clear n0_ n1_))
   go_roundg k1
   case measure=>omega
   case rel=>exact⟨i+1,l ++ [q1],q2,q3,by first|rfl|exact congrArg (Value.int .u32) wi|(rw[wi]),HH2,RV,S0,⟨mDj,mDj,HZ.out⟩⟩
  exact mA7
def op2 (q1 u1:Int):Int:=bits .or .u16 (IntKind.u16.wrap (q1*256)) (IntKind.u16.wrap (bits .and .u32 u1 255))
theorem qFe (K:Nat)(w0 W:World)(g:Nat)(A:Option Addr)(c:Nat)(b:List Int)(at_:Int)(bad:Bool)(hB:Below w0.heap.size w0 W)(hg:W.heap[g]? = some (oRd A c b at_ bad))(hn:w0.heap.size≤g)(hC:(Kd.int .u8).C w0 A b.length b)(hc:b.length≤c)(h0:0≤at_)(hT:YtobldeamemmokaaDoorTabs.Tab w0){r1:Int}{r2:ByteArray}{r3:Int}{r4 r5:List Int}{r6:Int}{r7:Bool}{er:Int}(q1 q2:Int)(q3:Bool)(hq:q8 b at_ bad=(q1,q2,q3))(h1:q1≠252)(h2:q1≠253)(hw:q1 % 65536=q1)(hi:qW.f K q1=some (r1,r2,r3,r4,r5,r6,r7,er)):
 Calls Tryd.prog 48 #[.pointer (some ⟨g,0,none⟩)] W fun e W'=>(∃ A3 n3 c3 A4 n4 c4,e = .returned (.agg (jF r1 r2 r3 (.slice A3 n3 c3) (.slice A4 n4 c4) r6 r7).toArray))∧KS_ w0 W W' g (oRd A c b q2 (q3 || er != 0)):=by
 have ON:=am (fun(W1:World) (h9:KS_ w0 W W1 g (oRd A c b at_ bad))=>jT w0 W1 g A c b at_ bad h9.2.2.1 h9.1 hn hC hc h0)
 rw[hq] at ON
 have S0:=am (KS_.start hg hB hn)
 have HT:=am hT
 have HI:=am hi
 have w16b:IntKind.u16.wrap q1=q1:=by unfold IntKind.wrap;simp[IntKind.signed,IntKind.bits];omega
 have e1:(q1==252)=false:=beq_eq_false_iff_ne.2 h1
 have e2:(q1==253)=false:=beq_eq_false_iff_ne.2 h2
 clear hg hB hn hC hc h0 hT hi hq h1 h2
 obtain⟨ee,hee⟩:=ey_ ((er != 0))
 rw[hee]
 cases q3
 ·go_enter Tryd.func48,Tryd.ntmps48
  go_wp2_with (first
   | ((with_reducible refine qE (N:=2) rfl ?_);refine qd rfl 79 rfl _ zh ?_;intro g2 hg2 w1 hb hbl;have n0_:=am (S0.out.below hbl);have B2:=am hb;have N2:Aside0 (W.heap.size≤g2∧g≠g2):=⟨by have h8:=S0.out.2.2.2.1;have h9:W.heap.size≤g2:=mD9;omega⟩;clear S0 hg2 hb hbl;have S0:=n0_;clear n0_)
   | (go_at_call 63;refine(ON.out _ mDi).mono ?_;rintro e w2 ⟨rfl,hS⟩;have n0_:=am (KS_.call mDi hS.1 hS.2.1 hS.2.2.1);have n1_:=am ((hS.2.1.2 g2 (qN B2.out) (Ne.symm N2.out.2) mDp).trans B2.out);clear S0 B2 hS;have S0:=n0_;have B2:=n1_;clear n0_ n1_)
   | (go_at_call 42;refine(qW.calls K q1 r1 r2 r3 r4 r5 r6 r7 er _ (HT.out.below mEa) HI.out).mono ?_;rintro e w5 ⟨v3,v4,rfl,h3,h4,hb⟩;obtain⟨A3,c3,rfl⟩:=Kd.R_slice h3;obtain⟨A4,c4,rfl⟩:=Kd.R_slice h4;have n0_:=am (S0.out.below hb);have n1_:=am (qG B2.out hb);clear S0 B2 h3 h4 hb;have S0:=n0_;have B2:=n1_;clear n0_ n1_)
   | ((with_reducible refine qE (N:=5) rfl ?_);refine qd rfl 79 rfl _ zh ?_;intro g5 hg5 w6 hb hbl;have n0_:=am (S0.out.below hbl);have n1_:=am (qG B2.out hbl);have B5:=am hb;have N5:Aside0 (W.heap.size≤g5∧g2≠g5∧g≠g5):=⟨by have h9:=S0.out.size;have h8:=qN B2.out;have h6:=S0.out.2.2.2.1;have h7:w5.heap.size≤g5:=by {rw[hg5];exact Nat.le_refl _};omega⟩;clear S0 B2 hg5 hb hbl;have S0:=n0_;have B2:=n1_;clear n0_ n1_)
   | ((with_reducible refine qF (t:=79) (p:=5) (v:=.tmp 38) rfl ?_);refine qV rfl 79 (.tmp 5) (.tmp 38) rfl g5 (jF r1 r2 r3 (.slice A3 r4.length c3) (.slice A4 r5.length c4) r6 r7).toArray rfl rfl 79 _ B5.out zK rfl (xG _ _ _ _ _ _ _ _ _ _ _) ?_;intro w7 hb hoth hsz hbel;have n0_:=am (S0.out.other N5.out.1 hoth hsz hbel);have n1_:=am ((hoth _ N5.out.2.1).trans B2.out);have n2_:=am hb;clear S0 B2 B5 hb hoth hsz hbel;have S0:=n0_;have B2:=n1_;have B5:=n2_;clear n0_ n1_ n2_;have c2:w7.cell? ⟨g,2,none⟩=some (.bool false):=(qA S0.out.1 2).trans rfl;have f2:=qD S0.out.1 2)
   | ((with_reducible refine qF (t:=4) (p:=50) (v:=.tmp 48) rfl ?_);refine qT rfl 4 (.tmp 50) (.tmp 48) rfl g 2 (.bool ee) rfl rfl 87 #[.slice A b.length c,.int .i64 q2,.bool false] #[.slice A b.length c,.int .i64 q2,.bool ee] mDo (show 2<3 by decide) z7 rfl rfl ?_;intro w8 hb hoth hsz hbel;have n0_:=am (KS_.self mDi hb hoth hsz hbel);have n1_:=am ((hoth g2 (Ne.symm N2.out.2)).trans B2.out);have n2_:=am ((hoth g5 (Ne.symm N5.out.2.2)).trans B5.out);clear B2 B5;have B2:=n1_;have B5:=n2_;clear n1_ n2_;clear S0 hb hoth hsz hbel;have S0:=n0_;clear n0_)
   | ((with_reducible refine qE (N:=51) rfl ?_);refine wpList_load_mid rfl 79 (.tmp 5) rfl g5 0 rfl (jF r1 r2 r3 (.slice A3 r4.length c3) (.slice A4 r5.length c4) r6 r7) _ (jw (n:=7) (cs:=jF r1 r2 r3 (.slice A3 r4.length c3) (.slice A4 r5.length c4) r6 r7) B5.out rfl rfl) Tryd.underlying79 rfl zK ?_)
   | ((with_reducible refine qF (t:=79) (p:=2) (v:=.tmp 51) rfl ?_);refine qV rfl 79 (.tmp 2) (.tmp 51) rfl g2 (jF r1 r2 r3 (.slice A3 r4.length c3) (.slice A4 r5.length c4) r6 r7).toArray rfl rfl 79 _ B2.out zK rfl (xG _ _ _ _ _ _ _ _ _ _ _) ?_;intro w9 hb hoth hsz hbel;have n0_:=am (S0.out.other N2.out.1 hoth hsz hbel);have n2_:=am hb;clear S0 B2 hb hoth hsz hbel;have S0:=n0_;have B2:=n2_;clear n0_ n2_))
  exact mAv
 ·go_enter Tryd.func48,Tryd.ntmps48
  go_wp2_with (first
   | ((with_reducible refine qE (N:=2) rfl ?_);refine qd rfl 79 rfl _ zh ?_;intro g2 hg2 w1 hb hbl;have n0_:=am (S0.out.below hbl);have B2:=am hb;have N2:Aside0 (W.heap.size≤g2∧g≠g2):=⟨by have h8:=S0.out.2.2.2.1;have h9:W.heap.size≤g2:=mD9;omega⟩;clear S0 hg2 hb hbl;have S0:=n0_;clear n0_)
   | (go_at_call 63;refine(ON.out _ mDi).mono ?_;rintro e w2 ⟨rfl,hS⟩;have n0_:=am (KS_.call mDi hS.1 hS.2.1 hS.2.2.1);have n1_:=am ((hS.2.1.2 g2 (qN B2.out) (Ne.symm N2.out.2) mDp).trans B2.out);clear S0 B2 hS;have S0:=n0_;have B2:=n1_;clear n0_ n1_)
   | (go_at_call 42;refine(qW.calls K q1 r1 r2 r3 r4 r5 r6 r7 er _ (HT.out.below mEa) HI.out).mono ?_;rintro e w5 ⟨v3,v4,rfl,h3,h4,hb⟩;obtain⟨A3,c3,rfl⟩:=Kd.R_slice h3;obtain⟨A4,c4,rfl⟩:=Kd.R_slice h4;have n0_:=am (S0.out.below hb);have n1_:=am (qG B2.out hb);clear S0 B2 h3 h4 hb;have S0:=n0_;have B2:=n1_;clear n0_ n1_)
   | ((with_reducible refine qE (N:=5) rfl ?_);refine qd rfl 79 rfl _ zh ?_;intro g5 hg5 w6 hb hbl;have n0_:=am (S0.out.below hbl);have n1_:=am (qG B2.out hbl);have B5:=am hb;have N5:Aside0 (W.heap.size≤g5∧g2≠g5∧g≠g5):=⟨by have h9:=S0.out.size;have h8:=qN B2.out;have h6:=S0.out.2.2.2.1;have h7:w5.heap.size≤g5:=by {rw[hg5];exact Nat.le_refl _};omega⟩;clear S0 B2 hg5 hb hbl;have S0:=n0_;have B2:=n1_;clear n0_ n1_)
   | ((with_reducible refine qF (t:=79) (p:=5) (v:=.tmp 38) rfl ?_);refine qV rfl 79 (.tmp 5) (.tmp 38) rfl g5 (jF r1 r2 r3 (.slice A3 r4.length c3) (.slice A4 r5.length c4) r6 r7).toArray rfl rfl 79 _ B5.out zK rfl (xG _ _ _ _ _ _ _ _ _ _ _) ?_;intro w7 hb hoth hsz hbel;have n0_:=am (S0.out.other N5.out.1 hoth hsz hbel);have n1_:=am ((hoth _ N5.out.2.1).trans B2.out);have n2_:=am hb;clear S0 B2 B5 hb hoth hsz hbel;have S0:=n0_;have B2:=n1_;have B5:=n2_;clear n0_ n1_ n2_;have c2:w7.cell? ⟨g,2,none⟩=some (.bool true):=(qA S0.out.1 2).trans rfl;have f2:=qD S0.out.1 2)
   | ((with_reducible refine qF (t:=4) (p:=50) (v:=.tmp 48) rfl ?_);refine qT rfl 4 (.tmp 50) (.tmp 48) rfl g 2 (.bool true) rfl rfl 87 #[.slice A b.length c,.int .i64 q2,.bool true] #[.slice A b.length c,.int .i64 q2,.bool true] mDo (show 2<3 by decide) z7 rfl rfl ?_;intro w8 hb hoth hsz hbel;have n0_:=am (KS_.self mDi hb hoth hsz hbel);have n1_:=am ((hoth g2 (Ne.symm N2.out.2)).trans B2.out);have n2_:=am ((hoth g5 (Ne.symm N5.out.2.2)).trans B5.out);clear B2 B5;have B2:=n1_;have B5:=n2_;clear n1_ n2_;clear S0 hb hoth hsz hbel;have S0:=n0_;clear n0_)
   | ((with_reducible refine qE (N:=51) rfl ?_);refine wpList_load_mid rfl 79 (.tmp 5) rfl g5 0 rfl (jF r1 r2 r3 (.slice A3 r4.length c3) (.slice A4 r5.length c4) r6 r7) _ (jw (n:=7) (cs:=jF r1 r2 r3 (.slice A3 r4.length c3) (.slice A4 r5.length c4) r6 r7) B5.out rfl rfl) Tryd.underlying79 rfl zK ?_)
   | ((with_reducible refine qF (t:=79) (p:=2) (v:=.tmp 51) rfl ?_);refine qV rfl 79 (.tmp 2) (.tmp 51) rfl g2 (jF r1 r2 r3 (.slice A3 r4.length c3) (.slice A4 r5.length c4) r6 r7).toArray rfl rfl 79 _ B2.out zK rfl (xG _ _ _ _ _ _ _ _ _ _ _) ?_;intro w9 hb hoth hsz hbel;have n0_:=am (S0.out.other N2.out.1 hoth hsz hbel);have n2_:=am hb;clear S0 B2 hb hoth hsz hbel;have S0:=n0_;have B2:=n2_;clear n0_ n2_))
  exact mAv
theorem qFw (K:Nat)(w0 W:World)(g:Nat)(A:Option Addr)(c:Nat)(b:List Int)(at_:Int)(bad:Bool)(hB:Below w0.heap.size w0 W)(hg:W.heap[g]? = some (oRd A c b at_ bad))(hn:w0.heap.size≤g)(hC:(Kd.int .u8).C w0 A b.length b)(hc:b.length≤c)(h0:0≤at_)(hT:YtobldeamemmokaaDoorTabs.Tab w0){r1:Int}{r2:ByteArray}{r3:Int}{r4 r5:List Int}{r6:Int}{r7:Bool}{er:Int}(q1 q2:Int)(q3:Bool)(u1 u2:Int)(u3:Bool)(hq:q8 b at_ bad=(q1,q2,q3))(h1:q1=252∨q1=253)(hu:uF K b q2 q3=some (u1,u2,u3))(hi:qW.f K (op2 q1 u1)=some (r1,r2,r3,r4,r5,r6,r7,er)):
 Calls Tryd.prog 48 #[.pointer (some ⟨g,0,none⟩)] W fun e W'=>(∃ A3 n3 c3 A4 n4 c4,e = .returned (.agg (jF r1 r2 r3 (.slice A3 n3 c3) (.slice A4 n4 c4) r6 r7).toArray))∧KS_ w0 W W' g (oRd A c b u2 (u3 || decide (255<u1) || er != 0)):=by
 have ON:=am (fun(W1:World) (h9:KS_ w0 W W1 g (oRd A c b at_ bad))=>jT w0 W1 g A c b at_ bad h9.2.2.1 h9.1 hn hC hc h0)
 have UC:=am (fun(W1:World) (h9:KS_ w0 W W1 g (oRd A c b q2 q3))=>z8 K w0 W1 g A c b q2 q3 (u1,u2,u3) h9.2.2.1 h9.1 hn hC hc hu)
 rw[hq] at ON
 have S0:=am (KS_.start hg hB hn)
 have HT:=am hT
 have HI:=am hi
 clear hg hB hn hC hc h0 hT hi hq hu
 obtain⟨ee,hee⟩:=ey_ ((er != 0))
 obtain⟨dd,hdd⟩:=ey_ (decide (255<u1))
 rw[hee,hdd]
 rcases h1 with rfl|rfl
 all_goals
  cases u3
  ·cases dd
   ·go_enter Tryd.func48,Tryd.ntmps48
    go_wp2_with (first
     | ((with_reducible refine qE (N:=2) rfl ?_);refine qd rfl 79 rfl _ zh ?_;intro g2 hg2 w1 hb hbl;have n0_:=am (S0.out.below hbl);have B2:=am hb;have N2:Aside0 (W.heap.size≤g2∧g≠g2):=⟨by have h8:=S0.out.2.2.2.1;have h9:W.heap.size≤g2:=mD9;omega⟩;clear S0 hg2 hb hbl;have S0:=n0_;clear n0_)
     | (go_at_call 63;refine(ON.out _ mDi).mono ?_;rintro e w2 ⟨rfl,hS⟩;have n0_:=am (KS_.call mDi hS.1 hS.2.1 hS.2.2.1);have n1_:=am ((hS.2.1.2 g2 (qN B2.out) (Ne.symm N2.out.2) mDp).trans B2.out);clear S0 B2 hS;have S0:=n0_;have B2:=n1_;clear n0_ n1_)
     | (go_at_call 64;refine(UC.out _ mDi).mono ?_;rintro e w3 ⟨rfl,hS⟩;have n0_:=am (KS_.call mDi hS.1 hS.2.1 hS.2.2.1);have n1_:=am ((hS.2.1.2 g2 (qN B2.out) (Ne.symm N2.out.2) mDp).trans B2.out);clear S0 B2 hS;have S0:=n0_;have B2:=n1_;clear n0_ n1_;have c2:w3.cell? ⟨g,2,none⟩=some (.bool false):=(qA S0.out.1 2).trans rfl;have f2:=qD S0.out.1 2)
     | ((with_reducible refine qF (t:=4) (p:=28) (v:=.tmp 26) rfl ?_);refine qT rfl 4 (.tmp 28) (.tmp 26) rfl g 2 (.bool false) rfl rfl 87 #[.slice A b.length c,.int .i64 u2,.bool false] #[.slice A b.length c,.int .i64 u2,.bool false] mDo (show 2<3 by decide) z7 rfl rfl ?_;intro w4 hb hoth hsz hbel;have n0_:=am (KS_.self mDi hb hoth hsz hbel);have n1_:=am ((hoth g2 (Ne.symm N2.out.2)).trans B2.out);clear B2;have B2:=n1_;clear n1_;clear S0 hb hoth hsz hbel;have S0:=n0_;clear n0_)
     | (go_at_call 42;refine(qW.calls K _ r1 r2 r3 r4 r5 r6 r7 er _ (HT.out.below mEa) HI.out).mono ?_;rintro e w5 ⟨v3,v4,rfl,h3,h4,hb⟩;obtain⟨A3,c3,rfl⟩:=Kd.R_slice h3;obtain⟨A4,c4,rfl⟩:=Kd.R_slice h4;have n0_:=am (S0.out.below hb);have n1_:=am (qG B2.out hb);clear S0 B2 h3 h4 hb;have S0:=n0_;have B2:=n1_;clear n0_ n1_)
     | ((with_reducible refine qE (N:=5) rfl ?_);refine qd rfl 79 rfl _ zh ?_;intro g5 hg5 w6 hb hbl;have n0_:=am (S0.out.below hbl);have n1_:=am (qG B2.out hbl);have B5:=am hb;have N5:Aside0 (W.heap.size≤g5∧g2≠g5∧g≠g5):=⟨by have h9:=S0.out.size;have h8:=qN B2.out;have h6:=S0.out.2.2.2.1;have h7:w5.heap.size≤g5:=by {rw[hg5];exact Nat.le_refl _};omega⟩;clear S0 B2 hg5 hb hbl;have S0:=n0_;have B2:=n1_;clear n0_ n1_)
     | ((with_reducible refine qF (t:=79) (p:=5) (v:=.tmp 38) rfl ?_);refine qV rfl 79 (.tmp 5) (.tmp 38) rfl g5 (jF r1 r2 r3 (.slice A3 r4.length c3) (.slice A4 r5.length c4) r6 r7).toArray rfl rfl 79 _ B5.out zK rfl (xG _ _ _ _ _ _ _ _ _ _ _) ?_;intro w7 hb hoth hsz hbel;have n0_:=am (S0.out.other N5.out.1 hoth hsz hbel);have n1_:=am ((hoth _ N5.out.2.1).trans B2.out);have n2_:=am hb;clear S0 B2 B5 hb hoth hsz hbel;have S0:=n0_;have B2:=n1_;have B5:=n2_;clear n0_ n1_ n2_;have c2:w7.cell? ⟨g,2,none⟩=some (.bool false):=(qA S0.out.1 2).trans rfl;have f2:=qD S0.out.1 2)
     | ((with_reducible refine qF (t:=4) (p:=50) (v:=.tmp 48) rfl ?_);refine qT rfl 4 (.tmp 50) (.tmp 48) rfl g 2 (.bool ee) rfl rfl 87 #[.slice A b.length c,.int .i64 u2,.bool false] #[.slice A b.length c,.int .i64 u2,.bool ee] mDo (show 2<3 by decide) z7 rfl rfl ?_;intro w8 hb hoth hsz hbel;have n0_:=am (KS_.self mDi hb hoth hsz hbel);have n1_:=am ((hoth g2 (Ne.symm N2.out.2)).trans B2.out);have n2_:=am ((hoth g5 (Ne.symm N5.out.2.2)).trans B5.out);clear B2 B5;have B2:=n1_;have B5:=n2_;clear n1_ n2_;clear S0 hb hoth hsz hbel;have S0:=n0_;clear n0_)
     | ((with_reducible refine qE (N:=51) rfl ?_);refine wpList_load_mid rfl 79 (.tmp 5) rfl g5 0 rfl (jF r1 r2 r3 (.slice A3 r4.length c3) (.slice A4 r5.length c4) r6 r7) _ (jw (n:=7) (cs:=jF r1 r2 r3 (.slice A3 r4.length c3) (.slice A4 r5.length c4) r6 r7) B5.out rfl rfl) Tryd.underlying79 rfl zK ?_)
     | ((with_reducible refine qF (t:=79) (p:=2) (v:=.tmp 51) rfl ?_);refine qV rfl 79 (.tmp 2) (.tmp 51) rfl g2 (jF r1 r2 r3 (.slice A3 r4.length c3) (.slice A4 r5.length c4) r6 r7).toArray rfl rfl 79 _ B2.out zK rfl (xG _ _ _ _ _ _ _ _ _ _ _) ?_;intro w9 hb hoth hsz hbel;have n0_:=am (S0.out.other N2.out.1 hoth hsz hbel);have n2_:=am hb;clear S0 B2 hb hoth hsz hbel;have S0:=n0_;have B2:=n2_;clear n0_ n2_))
    exact mAv
   ·go_enter Tryd.func48,Tryd.ntmps48
    go_wp2_with (first
     | ((with_reducible refine qE (N:=2) rfl ?_);refine qd rfl 79 rfl _ zh ?_;intro g2 hg2 w1 hb hbl;have n0_:=am (S0.out.below hbl);have B2:=am hb;have N2:Aside0 (W.heap.size≤g2∧g≠g2):=⟨by have h8:=S0.out.2.2.2.1;have h9:W.heap.size≤g2:=mD9;omega⟩;clear S0 hg2 hb hbl;have S0:=n0_;clear n0_)
     | (go_at_call 63;refine(ON.out _ mDi).mono ?_;rintro e w2 ⟨rfl,hS⟩;have n0_:=am (KS_.call mDi hS.1 hS.2.1 hS.2.2.1);have n1_:=am ((hS.2.1.2 g2 (qN B2.out) (Ne.symm N2.out.2) mDp).trans B2.out);clear S0 B2 hS;have S0:=n0_;have B2:=n1_;clear n0_ n1_)
     | (go_at_call 64;refine(UC.out _ mDi).mono ?_;rintro e w3 ⟨rfl,hS⟩;have n0_:=am (KS_.call mDi hS.1 hS.2.1 hS.2.2.1);have n1_:=am ((hS.2.1.2 g2 (qN B2.out) (Ne.symm N2.out.2) mDp).trans B2.out);clear S0 B2 hS;have S0:=n0_;have B2:=n1_;clear n0_ n1_;have c2:w3.cell? ⟨g,2,none⟩=some (.bool false):=(qA S0.out.1 2).trans rfl;have f2:=qD S0.out.1 2)
     | ((with_reducible refine qF (t:=4) (p:=28) (v:=.tmp 26) rfl ?_);refine qT rfl 4 (.tmp 28) (.tmp 26) rfl g 2 (.bool true) rfl rfl 87 #[.slice A b.length c,.int .i64 u2,.bool false] #[.slice A b.length c,.int .i64 u2,.bool true] mDo (show 2<3 by decide) z7 rfl rfl ?_;intro w4 hb hoth hsz hbel;have n0_:=am (KS_.self mDi hb hoth hsz hbel);have n1_:=am ((hoth g2 (Ne.symm N2.out.2)).trans B2.out);clear B2;have B2:=n1_;clear n1_;clear S0 hb hoth hsz hbel;have S0:=n0_;clear n0_)
     | (go_at_call 42;refine(qW.calls K _ r1 r2 r3 r4 r5 r6 r7 er _ (HT.out.below mEa) HI.out).mono ?_;rintro e w5 ⟨v3,v4,rfl,h3,h4,hb⟩;obtain⟨A3,c3,rfl⟩:=Kd.R_slice h3;obtain⟨A4,c4,rfl⟩:=Kd.R_slice h4;have n0_:=am (S0.out.below hb);have n1_:=am (qG B2.out hb);clear S0 B2 h3 h4 hb;have S0:=n0_;have B2:=n1_;clear n0_ n1_)
     | ((with_reducible refine qE (N:=5) rfl ?_);refine qd rfl 79 rfl _ zh ?_;intro g5 hg5 w6 hb hbl;have n0_:=am (S0.out.below hbl);have n1_:=am (qG B2.out hbl);have B5:=am hb;have N5:Aside0 (W.heap.size≤g5∧g2≠g5∧g≠g5):=⟨by have h9:=S0.out.size;have h8:=qN B2.out;have h6:=S0.out.2.2.2.1;have h7:w5.heap.size≤g5:=by {rw[hg5];exact Nat.le_refl _};omega⟩;clear S0 B2 hg5 hb hbl;have S0:=n0_;have B2:=n1_;clear n0_ n1_)
     | ((with_reducible refine qF (t:=79) (p:=5) (v:=.tmp 38) rfl ?_);refine qV rfl 79 (.tmp 5) (.tmp 38) rfl g5 (jF r1 r2 r3 (.slice A3 r4.length c3) (.slice A4 r5.length c4) r6 r7).toArray rfl rfl 79 _ B5.out zK rfl (xG _ _ _ _ _ _ _ _ _ _ _) ?_;intro w7 hb hoth hsz hbel;have n0_:=am (S0.out.other N5.out.1 hoth hsz hbel);have n1_:=am ((hoth _ N5.out.2.1).trans B2.out);have n2_:=am hb;clear S0 B2 B5 hb hoth hsz hbel;have S0:=n0_;have B2:=n1_;have B5:=n2_;clear n0_ n1_ n2_;have c2:w7.cell? ⟨g,2,none⟩=some (.bool true):=(qA S0.out.1 2).trans rfl;have f2:=qD S0.out.1 2)
     | ((with_reducible refine qF (t:=4) (p:=50) (v:=.tmp 48) rfl ?_);refine qT rfl 4 (.tmp 50) (.tmp 48) rfl g 2 (.bool true) rfl rfl 87 #[.slice A b.length c,.int .i64 u2,.bool true] #[.slice A b.length c,.int .i64 u2,.bool true] mDo (show 2<3 by decide) z7 rfl rfl ?_;intro w8 hb hoth hsz hbel;have n0_:=am (KS_.self mDi hb hoth hsz hbel);have n1_:=am ((hoth g2 (Ne.symm N2.out.2)).trans B2.out);have n2_:=am ((hoth g5 (Ne.symm N5.out.2.2)).trans B5.out);clear B2 B5;have B2:=n1_;have B5:=n2_;clear n1_ n2_;clear S0 hb hoth hsz hbel;have S0:=n0_;clear n0_)
     | ((with_reducible refine qE (N:=51) rfl ?_);refine wpList_load_mid rfl 79 (.tmp 5) rfl g5 0 rfl (jF r1 r2 r3 (.slice A3 r4.length c3) (.slice A4 r5.length c4) r6 r7) _ (jw (n:=7) (cs:=jF r1 r2 r3 (.slice A3 r4.length c3) (.slice A4 r5.length c4) r6 r7) B5.out rfl rfl) Tryd.underlying79 rfl zK ?_)
     | ((with_reducible refine qF (t:=79) (p:=2) (v:=.tmp 51) rfl ?_);refine qV rfl 79 (.tmp 2) (.tmp 51) rfl g2 (jF r1 r2 r3 (.slice A3 r4.length c3) (.slice A4 r5.length c4) r6 r7).toArray rfl rfl 79 _ B2.out zK rfl (xG _ _ _ _ _ _ _ _ _ _ _) ?_;intro w9 hb hoth hsz hbel;have n0_:=am (S0.out.other N2.out.1 hoth hsz hbel);have n2_:=am hb;clear S0 B2 hb hoth hsz hbel;have S0:=n0_;have B2:=n2_;clear n0_ n2_))
    exact mAv
  ·go_enter Tryd.func48,Tryd.ntmps48
   go_wp2_with (first
    | ((with_reducible refine qE (N:=2) rfl ?_);refine qd rfl 79 rfl _ zh ?_;intro g2 hg2 w1 hb hbl;have n0_:=am (S0.out.below hbl);have B2:=am hb;have N2:Aside0 (W.heap.size≤g2∧g≠g2):=⟨by have h8:=S0.out.2.2.2.1;have h9:W.heap.size≤g2:=mD9;omega⟩;clear S0 hg2 hb hbl;have S0:=n0_;clear n0_)
    | (go_at_call 63;refine(ON.out _ mDi).mono ?_;rintro e w2 ⟨rfl,hS⟩;have n0_:=am (KS_.call mDi hS.1 hS.2.1 hS.2.2.1);have n1_:=am ((hS.2.1.2 g2 (qN B2.out) (Ne.symm N2.out.2) mDp).trans B2.out);clear S0 B2 hS;have S0:=n0_;have B2:=n1_;clear n0_ n1_)
    | (go_at_call 64;refine(UC.out _ mDi).mono ?_;rintro e w3 ⟨rfl,hS⟩;have n0_:=am (KS_.call mDi hS.1 hS.2.1 hS.2.2.1);have n1_:=am ((hS.2.1.2 g2 (qN B2.out) (Ne.symm N2.out.2) mDp).trans B2.out);clear S0 B2 hS;have S0:=n0_;have B2:=n1_;clear n0_ n1_;have c2:w3.cell? ⟨g,2,none⟩=some (.bool true):=(qA S0.out.1 2).trans rfl;have f2:=qD S0.out.1 2)
    | ((with_reducible refine qF (t:=4) (p:=28) (v:=.tmp 26) rfl ?_);refine qT rfl 4 (.tmp 28) (.tmp 26) rfl g 2 (.bool true) rfl rfl 87 #[.slice A b.length c,.int .i64 u2,.bool true] #[.slice A b.length c,.int .i64 u2,.bool true] mDo (show 2<3 by decide) z7 rfl rfl ?_;intro w4 hb hoth hsz hbel;have n0_:=am (KS_.self mDi hb hoth hsz hbel);have n1_:=am ((hoth g2 (Ne.symm N2.out.2)).trans B2.out);clear B2;have B2:=n1_;clear n1_;clear S0 hb hoth hsz hbel;have S0:=n0_;clear n0_)
    | (go_at_call 42;refine(qW.calls K _ r1 r2 r3 r4 r5 r6 r7 er _ (HT.out.below mEa) HI.out).mono ?_;rintro e w5 ⟨v3,v4,rfl,h3,h4,hb⟩;obtain⟨A3,c3,rfl⟩:=Kd.R_slice h3;obtain⟨A4,c4,rfl⟩:=Kd.R_slice h4;have n0_:=am (S0.out.below hb);have n1_:=am (qG B2.out hb);clear S0 B2 h3 h4 hb;have S0:=n0_;have B2:=n1_;clear n0_ n1_)
    | ((with_reducible refine qE (N:=5) rfl ?_);refine qd rfl 79 rfl _ zh ?_;intro g5 hg5 w6 hb hbl;have n0_:=am (S0.out.below hbl);have n1_:=am (qG B2.out hbl);have B5:=am hb;have N5:Aside0 (W.heap.size≤g5∧g2≠g5∧g≠g5):=⟨by have h9:=S0.out.size;have h8:=qN B2.out;have h6:=S0.out.2.2.2.1;have h7:w5.heap.size≤g5:=by {rw[hg5];exact Nat.le_refl _};omega⟩;clear S0 B2 hg5 hb hbl;have S0:=n0_;have B2:=n1_;clear n0_ n1_)
    | ((with_reducible refine qF (t:=79) (p:=5) (v:=.tmp 38) rfl ?_);refine qV rfl 79 (.tmp 5) (.tmp 38) rfl g5 (jF r1 r2 r3 (.slice A3 r4.length c3) (.slice A4 r5.length c4) r6 r7).toArray rfl rfl 79 _ B5.out zK rfl (xG _ _ _ _ _ _ _ _ _ _ _) ?_;intro w7 hb hoth hsz hbel;have n0_:=am (S0.out.other N5.out.1 hoth hsz hbel);have n1_:=am ((hoth _ N5.out.2.1).trans B2.out);have n2_:=am hb;clear S0 B2 B5 hb hoth hsz hbel;have S0:=n0_;have B2:=n1_;have B5:=n2_;clear n0_ n1_ n2_;have c2:w7.cell? ⟨g,2,none⟩=some (.bool true):=(qA S0.out.1 2).trans rfl;have f2:=qD S0.out.1 2)
    | ((with_reducible refine qF (t:=4) (p:=50) (v:=.tmp 48) rfl ?_);refine qT rfl 4 (.tmp 50) (.tmp 48) rfl g 2 (.bool true) rfl rfl 87 #[.slice A b.length c,.int .i64 u2,.bool true] #[.slice A b.length c,.int .i64 u2,.bool true] mDo (show 2<3 by decide) z7 rfl rfl ?_;intro w8 hb hoth hsz hbel;have n0_:=am (KS_.self mDi hb hoth hsz hbel);have n1_:=am ((hoth g2 (Ne.symm N2.out.2)).trans B2.out);have n2_:=am ((hoth g5 (Ne.symm N5.out.2.2)).trans B5.out);clear B2 B5;have B2:=n1_;have B5:=n2_;clear n1_ n2_;clear S0 hb hoth hsz hbel;have S0:=n0_;clear n0_)
    | ((with_reducible refine qE (N:=51) rfl ?_);refine wpList_load_mid rfl 79 (.tmp 5) rfl g5 0 rfl (jF r1 r2 r3 (.slice A3 r4.length c3) (.slice A4 r5.length c4) r6 r7) _ (jw (n:=7) (cs:=jF r1 r2 r3 (.slice A3 r4.length c3) (.slice A4 r5.length c4) r6 r7) B5.out rfl rfl) Tryd.underlying79 rfl zK ?_)
    | ((with_reducible refine qF (t:=79) (p:=2) (v:=.tmp 51) rfl ?_);refine qV rfl 79 (.tmp 2) (.tmp 51) rfl g2 (jF r1 r2 r3 (.slice A3 r4.length c3) (.slice A4 r5.length c4) r6 r7).toArray rfl rfl 79 _ B2.out zK rfl (xG _ _ _ _ _ _ _ _ _ _ _) ?_;intro w9 hb hoth hsz hbel;have n0_:=am (S0.out.other N2.out.1 hoth hsz hbel);have n2_:=am hb;clear S0 B2 hb hoth hsz hbel;have S0:=n0_;have B2:=n2_;clear n0_ n2_))
   exact mAv
def opG (K:Nat)(b:List Int)(at_:Int)(bad:Bool):Option (Int × Int × Int × Bool):=
 if (q8 b at_ bad).1=252∨(q8 b at_ bad).1=253 then (uF K b (q8 b at_ bad).2.1 (q8 b at_ bad).2.2).bind fun u=>(qW.f K (op2 (q8 b at_ bad).1 u.1)).map fun r=>(r.1,r.2.2.1,u.2.1,u.2.2 || decide (255<u.1) || r.2.2.2.2.2.2.2 != 0)
 else if (q8 b at_ bad).1 % 65536=(q8 b at_ bad).1 then (qW.f K (q8 b at_ bad).1).map fun r=>(r.1,r.2.2.1,(q8 b at_ bad).2.1,(q8 b at_ bad).2.2 || r.2.2.2.2.2.2.2 != 0) else none
theorem qFf (K:Nat)(w0 W:World)(g:Nat)(A:Option Addr)(c:Nat)(b:List Int)(at_:Int)(bad:Bool)(hB:Below w0.heap.size w0 W)(hg:W.heap[g]? = some (oRd A c b at_ bad))(hn:w0.heap.size≤g)(hC:(Kd.int .u8).C w0 A b.length b)(hc:b.length≤c)(h0:0≤at_)(hT:YtobldeamemmokaaDoorTabs.Tab w0)(r:Int × Int × Int × Bool)(h:opG K b at_ bad=some r):
 Calls Tryd.prog 48 #[.pointer (some ⟨g,0,none⟩)] W fun e W'=>(∃ r2 A3 n3 c3 A4 n4 c4 r6 r7,e = .returned (.agg (jF r.1 r2 r.2.1 (.slice A3 n3 c3) (.slice A4 n4 c4) r6 r7).toArray))∧KS_ w0 W W' g (oRd A c b r.2.2.1 r.2.2.2):=by
 obtain⟨⟨q1,q2,q3⟩,hq⟩:∃ q,q8 b at_ bad=q:=⟨_,rfl⟩
 rw[opG,hq] at h
 by_cases hk:q1=252∨q1=253
 ·rw[if_pos hk] at h
  obtain⟨⟨u1,u2,u3⟩,hu,h⟩:=Option.bind_eq_some_iff.1 h
  obtain⟨⟨r1,r2,r3,r4,r5,r6,r7,er⟩,ho,h⟩:=Option.map_eq_some_iff.1 h
  subst h
  exact(qFw K w0 W g A c b at_ bad hB hg hn hC hc h0 hT q1 q2 q3 u1 u2 u3 hq hk hu ho).mono fun e W' ⟨⟨A3,n3,c3,A4,n4,c4,he⟩,hS⟩=>⟨⟨r2,A3,n3,c3,A4,n4,c4,r6,r7,he⟩,hS⟩
 ·rw[if_neg hk] at h
  by_cases hw:q1 % 65536=q1
  ·rw[if_pos hw] at h
   obtain⟨⟨r1,r2,r3,r4,r5,r6,r7,er⟩,ho,h⟩:=Option.map_eq_some_iff.1 h
   subst h
   exact(qFe K w0 W g A c b at_ bad hB hg hn hC hc h0 hT q1 q2 q3 hq (fun e=>hk (.inl e)) (fun e=>hk (.inr e)) hw ho).mono fun e W' ⟨⟨A3,n3,c3,A4,n4,c4,he⟩,hS⟩=>⟨⟨r2,A3,n3,c3,A4,n4,c4,r6,r7,he⟩,hS⟩
  ·rw[if_neg hw] at h
   cases h
theorem qGk (n:Int):Tryd.prog.built 41 [(0,.int .u8 1),(1,.int .u8 n)]=some #[.int .u8 1,.int .u8 n,.int .u32 0]:=mDh
theorem qFH (n:Int):Tryd.prog.built 41 [(0,.int .u8 2),(2,.int .u32 n)]=some #[.int .u8 2,.int .u8 0,.int .u32 n]:=mDh
theorem qDR {ops:Array Oper}{rest:List Oper}{o:Oper}{a:Act}{w:World}{Q:Exit→Act→World→Prop}(hg:o.guard=none)(x:Operand)(ho:o.op = .build 41 #[(0,.const (.int .u8 1)),(1,x)])(n:Int)(hx:a.eval x = .int .u8 n)
 (h:wpList Tryd.prog ops Q rest (a.put o.dst (.agg #[.int .u8 1,.int .u8 n,.int .u32 0])) w):wpList Tryd.prog ops Q (o::rest) a w:=by
 refine Kd.event_run hg ?_ h
 unfold execOp
 have hk:a.eval (.const (.int .u8 1)) = .int .u8 1:=rfl
 simp only[ho,List.map_toArray,List.map_cons,List.map_nil,hk,hx,Sem.run_bind,run_build w 41 _ _ (qGk n),Result.andThen_ok]
 rfl
theorem xn {ops:Array Oper}{rest:List Oper}{o:Oper}{a:Act}{w:World}{Q:Exit→Act→World→Prop}(hg:o.guard=none)(x:Operand)(ho:o.op = .build 41 #[(0,.const (.int .u8 2)),(2,x)])(n:Int)(hx:a.eval x = .int .u32 n)
 (h:wpList Tryd.prog ops Q rest (a.put o.dst (.agg #[.int .u8 2,.int .u8 0,.int .u32 n])) w):wpList Tryd.prog ops Q (o::rest) a w:=by
 refine Kd.event_run hg ?_ h
 unfold execOp
 have hk:a.eval (.const (.int .u8 2)) = .int .u8 2:=rfl
 simp only[ho,List.map_toArray,List.map_cons,List.map_nil,hk,hx,Sem.run_bind,run_build w 41 _ _ (qFH n),Result.andThen_ok]
 rfl
def y6 (K:Nat)(b:List Int)(at_:Int)(bad:Bool):Option (Int × Int × Int × Int × Bool):=
 if at_<b.length∧rd b at_=64 then some (0,0,0,at_+1,bad)
 else if at_<b.length∧tyB (rd b at_)=true then some (1,rd b at_,0,at_+1,bad)
 else (sF K b at_ 33 bad).map fun r=>(2,0,IntKind.u32.wrap r.1,r.2.1,r.2.2 || decide (r.1<0))
theorem qDT (K:Nat)(w0 W:World)(g:Nat)(A:Option Addr)(c:Nat)(b:List Int)(at_:Int)(bad:Bool)(hB:Below w0.heap.size w0 W)(hg:W.heap[g]? = some (oRd A c b at_ bad))(hn:w0.heap.size≤g)(hC:(Kd.int .u8).C w0 A b.length b)(hc:b.length≤c)(h0:0≤at_)(r:Int × Int × Int × Int × Bool)(h:y6 K b at_ bad=some r):
 Calls Tryd.prog 49 #[.pointer (some ⟨g,0,none⟩)] W fun e W'=>e = .returned (.agg #[.int .u8 r.1,.int .u8 r.2.1,.int .u32 r.2.2.1])∧KS_ w0 W W' g (oRd A c b r.2.2.2.1 r.2.2.2.2):=by
 have S0:=am (KS_.start hg hB hn)
 have hm:=Kd.C_max hC
 have w1eq:at_<b.length→wrap64 (at_+1)=at_+1:=fun h9=>by unfold wrap64;omega
 unfold y6 at h
 have SC0:=fun(s:Int × Int × Bool) (hs:sF K b at_ 33 bad=some s) (W1:World) (h9:KS_ w0 W W1 g (oRd A c b at_ bad))=>qB5 K w0 W1 g A c b at_ 33 bad s h9.2.2.1 h9.1 hn hC hc hs
 by_cases hlt:at_<b.length
 ·have w1eq:=w1eq hlt
  obtain⟨ad,rfl,hx⟩:=Kd.at_int hC at_ h0 hlt
  have HX:=am hx
  have e1:decide (at_<(b.length:Int))=true:=decide_eq_true hlt
  clear hB hg hn hC hc hx
  by_cases h64:rd b at_=64
  ·rw[if_pos ⟨hlt,h64⟩] at h
   obtain rfl:=Option.some.inj h
   rw[h64] at HX
   clear h SC0
   go_enter Tryd.func49,Tryd.ntmps49
   iterate 3
    go_wp2_with (first
     | ((with_reducible refine qE (N:=2) rfl ?_);refine qd rfl 41 rfl _ qBb ?_;intro g2 hg2 w1 hb hbl;have n0_:=am (S0.out.below hbl);have B2:=am hb;have N2:Aside0 (W.heap.size≤g2∧g≠g2):=⟨by have h8:=S0.out.2.2.2.1;have h9:W.heap.size≤g2:=mD9;omega⟩;clear S0 hg2 hb hbl;have S0:=n0_;clear n0_;have c0:w1.cell? ⟨g,0,none⟩=some (.slice (some ad) b.length c):=(qA S0.out.1 0).trans rfl;have c1:w1.cell? ⟨g,1,none⟩=some (.int .i64 at_):=(qA S0.out.1 1).trans rfl;have f1:=qD S0.out.1 1;have hx2:w1.cell? (ad.add at_.toNat)=some (.int .u8 64):=(S0.out.2.2.1.cell (World.block_lt_of_cell? w0 _ HX.out)).trans HX.out)
     | ((with_reducible refine qF (t:=3) (p:=36) (v:=.tmp 34) rfl ?_);refine qT rfl 3 (.tmp 36) (.tmp 34) rfl g 1 (.int .i64 (at_+1)) rfl mCy 87 #[.slice (some ad) b.length c,.int .i64 at_,.bool bad] #[.slice (some ad) b.length c,.int .i64 (at_+1),.bool bad] mDo (show 1<3 by decide) qAa rfl rfl ?_;intro w3 hb hoth hsz hbel;have n0_:=am (KS_.self mDi hb hoth hsz hbel);have n1_:=am ((hoth g2 (Ne.symm N2.out.2)).trans mDw);clear B2;have B2:=n1_;clear n1_;clear S0 hb hoth hsz hbel;have S0:=n0_;clear n0_)
     | ((with_reducible refine qE (N:=37) rfl ?_);refine qDU rfl rfl ?_)
     | ((with_reducible refine qF (t:=41) (p:=2) (v:=.tmp 37) rfl ?_);refine qV rfl 41 (.tmp 2) (.tmp 37) rfl g2 #[.int .u8 0,.int .u8 0,.int .u32 0] rfl rfl 41 _ B2.out xB rfl (all_oneCell_toArray (cs:=[.int .u8 0,.int .u8 0,.int .u32 0]) mCr) ?_;intro w8 hb hoth hsz hbel;have n0_:=am (S0.out.other N2.out.1 hoth hsz hbel);clear S0 B2 hoth hsz hbel;have S0:=n0_;have B2:=am hb;clear n0_ hb))
    try go_quiet (fail)
   refine bodyPost_ret (yQ rfl _ _ g2 41 #[.int .u8 0,.int .u8 0,.int .u32 0] (0,0) _ rfl B2.out Tryd.underlying41 rfl xB) rfl ?_
   exact⟨rfl,S0.out⟩
  ·rw[if_neg (fun h9=>h64 h9.2)] at h
   have e64:(rd b at_==64)=false:=beq_eq_false_iff_ne.2 h64
   obtain⟨ty,hty⟩:=ey_ (tyB (rd b at_))
   have IS:=am (fun(W1:World)=>zw.calls (rd b at_) (tyB (rd b at_)) W1 (qDX _))
   rw[hty] at IS h
   clear hty
   cases ty
   ·rw[if_neg (fun h9=>by cases h9.2)] at h
    obtain⟨⟨s1,s2,s3⟩,hs,h⟩:=Option.map_eq_some_iff.1 h
    subst h
    have SCN:=am (SC0 _ hs)
    obtain⟨nn,hnn⟩:=ey_ (decide (s1<0))
    show Calls _ _ _ _ fun e W'=>_∧KS_ w0 W W' g (oRd (some ad) c b s2 (s3 || decide (s1<0)))
    rw[hnn]
    clear SC0 hs
    cases s3
    ·go_enter Tryd.func49,Tryd.ntmps49
     iterate 3
      go_wp2_with (first
       | ((with_reducible refine qE (N:=2) rfl ?_);refine qd rfl 41 rfl _ qBb ?_;intro g2 hg2 w1 hb hbl;have n0_:=am (S0.out.below hbl);have B2:=am hb;have N2:Aside0 (W.heap.size≤g2∧g≠g2):=⟨by have h8:=S0.out.2.2.2.1;have h9:W.heap.size≤g2:=mD9;omega⟩;clear S0 hg2 hb hbl;have S0:=n0_;clear n0_;have c0:w1.cell? ⟨g,0,none⟩=some (.slice (some ad) b.length c):=(qA S0.out.1 0).trans rfl;have c1:w1.cell? ⟨g,1,none⟩=some (.int .i64 at_):=(qA S0.out.1 1).trans rfl;have f1:=qD S0.out.1 1;have hx2:w1.cell? (ad.add at_.toNat)=some (.int .u8 (rd b at_)):=(S0.out.2.2.1.cell (World.block_lt_of_cell? w0 _ HX.out)).trans HX.out)
       | (go_at_call 57;refine(IS.out _).mono ?_;rintro e w2 ⟨rfl,hd⟩;have n0_:=am (KS_.below mDi hd.below);have n1_:=am (qG mDw hd.below);clear S0 B2 hd;have S0:=n0_;have B2:=n1_;clear n0_ n1_;have c1:w2.cell? ⟨g,1,none⟩=some (.int .i64 at_):=(qA S0.out.1 1).trans rfl;have f1:=qD S0.out.1 1)
       | (go_at_call 65;refine(SCN.out _ mDi).mono ?_;rintro e w3 ⟨rfl,hS⟩;have n0_:=am (KS_.call mDi hS.1 hS.2.1 hS.2.2.1);have n1_:=am ((hS.2.1.2 g2 mC9 (Ne.symm N2.out.2) mDp).trans mDw);clear S0 B2 hS;have S0:=n0_;have B2:=n1_;clear n0_ n1_;have c2:w3.cell? ⟨g,2,none⟩=some (.bool false):=(qA S0.out.1 2).trans rfl;have f2:=qD S0.out.1 2)
       | ((with_reducible refine qF (t:=4) (p:=62) (v:=.tmp 60) rfl ?_);refine qT rfl 4 (.tmp 62) (.tmp 60) rfl g 2 (.bool nn) rfl rfl 87 #[.slice (some ad) b.length c,.int .i64 s2,.bool false] #[.slice (some ad) b.length c,.int .i64 s2,.bool nn] mDo (show 2<3 by decide) z7 rfl rfl ?_;intro w4 hb hoth hsz hbel;have n0_:=am (KS_.self mDi hb hoth hsz hbel);have n1_:=am ((hoth g2 (Ne.symm N2.out.2)).trans mDw);clear B2;have B2:=n1_;clear n1_;clear S0 hb hoth hsz hbel;have S0:=n0_;clear n0_)
       | ((with_reducible refine qE (N:=65) rfl ?_);refine xn rfl (.tmp 64) rfl (IntKind.u32.wrap s1) rfl ?_)
       | ((with_reducible refine qF (t:=41) (p:=2) (v:=.tmp 65) rfl ?_);refine qV rfl 41 (.tmp 2) (.tmp 65) rfl g2 #[.int .u8 2,.int .u8 0,.int .u32 (IntKind.u32.wrap s1)] rfl rfl 41 _ B2.out xB rfl (all_oneCell_toArray (cs:=[.int .u8 2,.int .u8 0,.int .u32 (IntKind.u32.wrap s1)]) mCr) ?_;intro w8 hb hoth hsz hbel;have n0_:=am (S0.out.other N2.out.1 hoth hsz hbel);clear S0 B2 hoth hsz hbel;have S0:=n0_;have B2:=am hb;clear n0_ hb))
      try go_quiet (fail)
     exact mA6
    ·go_enter Tryd.func49,Tryd.ntmps49
     iterate 3
      go_wp2_with (first
       | ((with_reducible refine qE (N:=2) rfl ?_);refine qd rfl 41 rfl _ qBb ?_;intro g2 hg2 w1 hb hbl;have n0_:=am (S0.out.below hbl);have B2:=am hb;have N2:Aside0 (W.heap.size≤g2∧g≠g2):=⟨by have h8:=S0.out.2.2.2.1;have h9:W.heap.size≤g2:=mD9;omega⟩;clear S0 hg2 hb hbl;have S0:=n0_;clear n0_;have c0:w1.cell? ⟨g,0,none⟩=some (.slice (some ad) b.length c):=(qA S0.out.1 0).trans rfl;have c1:w1.cell? ⟨g,1,none⟩=some (.int .i64 at_):=(qA S0.out.1 1).trans rfl;have f1:=qD S0.out.1 1;have hx2:w1.cell? (ad.add at_.toNat)=some (.int .u8 (rd b at_)):=(S0.out.2.2.1.cell (World.block_lt_of_cell? w0 _ HX.out)).trans HX.out)
       | (go_at_call 57;refine(IS.out _).mono ?_;rintro e w2 ⟨rfl,hd⟩;have n0_:=am (KS_.below mDi hd.below);have n1_:=am (qG mDw hd.below);clear S0 B2 hd;have S0:=n0_;have B2:=n1_;clear n0_ n1_;have c1:w2.cell? ⟨g,1,none⟩=some (.int .i64 at_):=(qA S0.out.1 1).trans rfl;have f1:=qD S0.out.1 1)
       | (go_at_call 65;refine(SCN.out _ mDi).mono ?_;rintro e w3 ⟨rfl,hS⟩;have n0_:=am (KS_.call mDi hS.1 hS.2.1 hS.2.2.1);have n1_:=am ((hS.2.1.2 g2 mC9 (Ne.symm N2.out.2) mDp).trans mDw);clear S0 B2 hS;have S0:=n0_;have B2:=n1_;clear n0_ n1_;have c2:w3.cell? ⟨g,2,none⟩=some (.bool true):=(qA S0.out.1 2).trans rfl;have f2:=qD S0.out.1 2)
       | ((with_reducible refine qF (t:=4) (p:=62) (v:=.tmp 60) rfl ?_);refine qT rfl 4 (.tmp 62) (.tmp 60) rfl g 2 (.bool true) rfl rfl 87 #[.slice (some ad) b.length c,.int .i64 s2,.bool true] #[.slice (some ad) b.length c,.int .i64 s2,.bool true] mDo (show 2<3 by decide) z7 rfl rfl ?_;intro w4 hb hoth hsz hbel;have n0_:=am (KS_.self mDi hb hoth hsz hbel);have n1_:=am ((hoth g2 (Ne.symm N2.out.2)).trans mDw);clear B2;have B2:=n1_;clear n1_;clear S0 hb hoth hsz hbel;have S0:=n0_;clear n0_)
       | ((with_reducible refine qE (N:=65) rfl ?_);refine xn rfl (.tmp 64) rfl (IntKind.u32.wrap s1) rfl ?_)
       | ((with_reducible refine qF (t:=41) (p:=2) (v:=.tmp 65) rfl ?_);refine qV rfl 41 (.tmp 2) (.tmp 65) rfl g2 #[.int .u8 2,.int .u8 0,.int .u32 (IntKind.u32.wrap s1)] rfl rfl 41 _ B2.out xB rfl (all_oneCell_toArray (cs:=[.int .u8 2,.int .u8 0,.int .u32 (IntKind.u32.wrap s1)]) mCr) ?_;intro w8 hb hoth hsz hbel;have n0_:=am (S0.out.other N2.out.1 hoth hsz hbel);clear S0 B2 hoth hsz hbel;have S0:=n0_;have B2:=am hb;clear n0_ hb))
      try go_quiet (fail)
     exact mA6
   ·rw[if_pos ⟨hlt,rfl⟩] at h
    obtain rfl:=Option.some.inj h
    clear h SC0
    go_enter Tryd.func49,Tryd.ntmps49
    iterate 3
     go_wp2_with (first
      | ((with_reducible refine qE (N:=2) rfl ?_);refine qd rfl 41 rfl _ qBb ?_;intro g2 hg2 w1 hb hbl;have n0_:=am (S0.out.below hbl);have B2:=am hb;have N2:Aside0 (W.heap.size≤g2∧g≠g2):=⟨by have h8:=S0.out.2.2.2.1;have h9:W.heap.size≤g2:=mD9;omega⟩;clear S0 hg2 hb hbl;have S0:=n0_;clear n0_;have c0:w1.cell? ⟨g,0,none⟩=some (.slice (some ad) b.length c):=(qA S0.out.1 0).trans rfl;have c1:w1.cell? ⟨g,1,none⟩=some (.int .i64 at_):=(qA S0.out.1 1).trans rfl;have f1:=qD S0.out.1 1;have hx2:w1.cell? (ad.add at_.toNat)=some (.int .u8 (rd b at_)):=(S0.out.2.2.1.cell (World.block_lt_of_cell? w0 _ HX.out)).trans HX.out)
      | (go_at_call 57;refine(IS.out _).mono ?_;rintro e w2 ⟨rfl,hd⟩;have n0_:=am (KS_.below mDi hd.below);have n1_:=am (qG mDw hd.below);clear S0 B2 hd;have S0:=n0_;have B2:=n1_;clear n0_ n1_;have c1:w2.cell? ⟨g,1,none⟩=some (.int .i64 at_):=(qA S0.out.1 1).trans rfl;have f1:=qD S0.out.1 1)
      | ((with_reducible refine qF (t:=3) (p:=47) (v:=.tmp 45) rfl ?_);refine qT rfl 3 (.tmp 47) (.tmp 45) rfl g 1 (.int .i64 (at_+1)) rfl mCy 87 #[.slice (some ad) b.length c,.int .i64 at_,.bool bad] #[.slice (some ad) b.length c,.int .i64 (at_+1),.bool bad] mDo (show 1<3 by decide) qAa rfl rfl ?_;intro w3 hb hoth hsz hbel;have n0_:=am (KS_.self mDi hb hoth hsz hbel);have n1_:=am ((hoth g2 (Ne.symm N2.out.2)).trans mDw);clear B2;have B2:=n1_;clear n1_;clear S0 hb hoth hsz hbel;have S0:=n0_;clear n0_)
      | ((with_reducible refine qE (N:=49) rfl ?_);refine qDR rfl (.tmp 48) rfl (rd b at_) rfl ?_)
      | ((with_reducible refine qF (t:=41) (p:=2) (v:=.tmp 49) rfl ?_);refine qV rfl 41 (.tmp 2) (.tmp 49) rfl g2 #[.int .u8 1,.int .u8 (rd b at_),.int .u32 0] rfl rfl 41 _ B2.out xB rfl (all_oneCell_toArray (cs:=[.int .u8 1,.int .u8 (rd b at_),.int .u32 0]) mCr) ?_;intro w8 hb hoth hsz hbel;have n0_:=am (S0.out.other N2.out.1 hoth hsz hbel);clear S0 B2 hoth hsz hbel;have S0:=n0_;have B2:=am hb;clear n0_ hb))
     try go_quiet (fail)
    refine bodyPost_ret (yQ rfl _ _ g2 41 #[.int .u8 1,.int .u8 (rd b at_),.int .u32 0] (0,0) _ rfl B2.out Tryd.underlying41 rfl xB) rfl ?_
    exact⟨rfl,S0.out⟩
 ·have e1:decide (at_<(b.length:Int))=false:=decide_eq_false hlt
  clear hB hg hn hC hc w1eq
  rw[if_neg (fun h9=>hlt h9.1),if_neg (fun h9=>hlt h9.1)] at h
  obtain⟨⟨s1,s2,s3⟩,hs,h⟩:=Option.map_eq_some_iff.1 h
  subst h
  have SCN:=am (SC0 _ hs)
  obtain⟨nn,hnn⟩:=ey_ (decide (s1<0))
  show Calls _ _ _ _ fun e W'=>_∧KS_ w0 W W' g (oRd A c b s2 (s3 || decide (s1<0)))
  rw[hnn]
  clear SC0 hs
  cases s3
  ·go_enter Tryd.func49,Tryd.ntmps49
   iterate 2
    go_wp2_with (first
     | ((with_reducible refine qE (N:=2) rfl ?_);refine qd rfl 41 rfl _ qBb ?_;intro g2 hg2 w1 hb hbl;have n0_:=am (S0.out.below hbl);have B2:=am hb;have N2:Aside0 (W.heap.size≤g2∧g≠g2):=⟨by have h8:=S0.out.2.2.2.1;have h9:W.heap.size≤g2:=mD9;omega⟩;clear S0 hg2 hb hbl;have S0:=n0_;clear n0_;have c0:w1.cell? ⟨g,0,none⟩=some (.slice A b.length c):=(qA S0.out.1 0).trans rfl;have c1:w1.cell? ⟨g,1,none⟩=some (.int .i64 at_):=(qA S0.out.1 1).trans rfl;have f1:=qD S0.out.1 1)
     | (go_at_call 65;refine(SCN.out _ mDi).mono ?_;rintro e w3 ⟨rfl,hS⟩;have n0_:=am (KS_.call mDi hS.1 hS.2.1 hS.2.2.1);have n1_:=am ((hS.2.1.2 g2 mC9 (Ne.symm N2.out.2) mDp).trans mDw);clear S0 B2 hS;have S0:=n0_;have B2:=n1_;clear n0_ n1_;have c2:w3.cell? ⟨g,2,none⟩=some (.bool false):=(qA S0.out.1 2).trans rfl;have f2:=qD S0.out.1 2)
     | ((with_reducible refine qF (t:=4) (p:=62) (v:=.tmp 60) rfl ?_);refine qT rfl 4 (.tmp 62) (.tmp 60) rfl g 2 (.bool nn) rfl rfl 87 #[.slice A b.length c,.int .i64 s2,.bool false] #[.slice A b.length c,.int .i64 s2,.bool nn] mDo (show 2<3 by decide) z7 rfl rfl ?_;intro w4 hb hoth hsz hbel;have n0_:=am (KS_.self mDi hb hoth hsz hbel);have n1_:=am ((hoth g2 (Ne.symm N2.out.2)).trans mDw);clear B2;have B2:=n1_;clear n1_;clear S0 hb hoth hsz hbel;have S0:=n0_;clear n0_)
     | ((with_reducible refine qE (N:=65) rfl ?_);refine xn rfl (.tmp 64) rfl (IntKind.u32.wrap s1) rfl ?_)
     | ((with_reducible refine qF (t:=41) (p:=2) (v:=.tmp 65) rfl ?_);refine qV rfl 41 (.tmp 2) (.tmp 65) rfl g2 #[.int .u8 2,.int .u8 0,.int .u32 (IntKind.u32.wrap s1)] rfl rfl 41 _ B2.out xB rfl (all_oneCell_toArray (cs:=[.int .u8 2,.int .u8 0,.int .u32 (IntKind.u32.wrap s1)]) mCr) ?_;intro w8 hb hoth hsz hbel;have n0_:=am (S0.out.other N2.out.1 hoth hsz hbel);clear S0 B2 hoth hsz hbel;have S0:=n0_;have B2:=am hb;clear n0_ hb))
    try go_quiet (fail)
   exact mA6
  ·go_enter Tryd.func49,Tryd.ntmps49
   iterate 2
    go_wp2_with (first
     | ((with_reducible refine qE (N:=2) rfl ?_);refine qd rfl 41 rfl _ qBb ?_;intro g2 hg2 w1 hb hbl;have n0_:=am (S0.out.below hbl);have B2:=am hb;have N2:Aside0 (W.heap.size≤g2∧g≠g2):=⟨by have h8:=S0.out.2.2.2.1;have h9:W.heap.size≤g2:=mD9;omega⟩;clear S0 hg2 hb hbl;have S0:=n0_;clear n0_;have c0:w1.cell? ⟨g,0,none⟩=some (.slice A b.length c):=(qA S0.out.1 0).trans rfl;have c1:w1.cell? ⟨g,1,none⟩=some (.int .i64 at_):=(qA S0.out.1 1).trans rfl;have f1:=qD S0.out.1 1)
     | (go_at_call 65;refine(SCN.out _ mDi).mono ?_;rintro e w3 ⟨rfl,hS⟩;have n0_:=am (KS_.call mDi hS.1 hS.2.1 hS.2.2.1);have n1_:=am ((hS.2.1.2 g2 mC9 (Ne.symm N2.out.2) mDp).trans mDw);clear S0 B2 hS;have S0:=n0_;have B2:=n1_;clear n0_ n1_;have c2:w3.cell? ⟨g,2,none⟩=some (.bool true):=(qA S0.out.1 2).trans rfl;have f2:=qD S0.out.1 2)
     | ((with_reducible refine qF (t:=4) (p:=62) (v:=.tmp 60) rfl ?_);refine qT rfl 4 (.tmp 62) (.tmp 60) rfl g 2 (.bool true) rfl rfl 87 #[.slice A b.length c,.int .i64 s2,.bool true] #[.slice A b.length c,.int .i64 s2,.bool true] mDo (show 2<3 by decide) z7 rfl rfl ?_;intro w4 hb hoth hsz hbel;have n0_:=am (KS_.self mDi hb hoth hsz hbel);have n1_:=am ((hoth g2 (Ne.symm N2.out.2)).trans mDw);clear B2;have B2:=n1_;clear n1_;clear S0 hb hoth hsz hbel;have S0:=n0_;clear n0_)
     | ((with_reducible refine qE (N:=65) rfl ?_);refine xn rfl (.tmp 64) rfl (IntKind.u32.wrap s1) rfl ?_)
     | ((with_reducible refine qF (t:=41) (p:=2) (v:=.tmp 65) rfl ?_);refine qV rfl 41 (.tmp 2) (.tmp 65) rfl g2 #[.int .u8 2,.int .u8 0,.int .u32 (IntKind.u32.wrap s1)] rfl rfl 41 _ B2.out xB rfl (all_oneCell_toArray (cs:=[.int .u8 2,.int .u8 0,.int .u32 (IntKind.u32.wrap s1)]) mCr) ?_;intro w8 hb hoth hsz hbel;have n0_:=am (S0.out.other N2.out.1 hoth hsz hbel);clear S0 B2 hoth hsz hbel;have S0:=n0_;have B2:=am hb;clear n0_ hb))
    try go_quiet (fail)
   exact mA6
def KX_ (w0 W0 W:World)(g gx:Nat)(o ox:Obj):Prop:=W.heap[g]? = some o∧W.heap[gx]? = some ox∧qc W0 W g (some gx)∧Below w0.heap.size w0 W∧g<W0.heap.size∧gx<W0.heap.size∧w0.heap.size≤g∧w0.heap.size≤gx∧g≠gx
section
variable {w0 W0 W W1:World} {g gx:Nat} {o o1 ox ox1:Obj}
theorem KX_.bel (h:KX_ w0 W0 W g gx o ox):Below w0.heap.size w0 W:=h.2.2.2.1
theorem KX_.below (h:KX_ w0 W0 W g gx o ox)(hb:Below W.heap.size W W1):KX_ w0 W0 W1 g gx o ox:=
 ⟨(hb.block g (qN h.1)).trans h.1,(hb.block gx (qN h.2.1)).trans h.2.1,h.2.2.1.trans (qc.of_below hb g none |> fun k=>⟨k.1,fun i hi hg hr=>k.2 i hi hg mDp⟩) (.inl rfl),qB h.bel hb,h.2.2.2.2⟩
theorem KX_.call (h:KX_ w0 W0 W g gx o ox)(h1:W1.heap[g]? = some o1)(hk:qc W W1 g none)(hb:Below w0.heap.size w0 W1):KX_ w0 W0 W1 g gx o1 ox:=
 ⟨h1,(hk.2 gx (qN h.2.1) (Ne.symm h.2.2.2.2.2.2.2.2) mDp).trans h.2.1,⟨Nat.le_trans h.2.2.1.1 hk.1,fun i hi hg hr=>(hk.2 i (Nat.lt_of_lt_of_le hi h.2.2.1.1) hg mDp).trans (h.2.2.1.2 i hi hg hr)⟩,hb,h.2.2.2.2⟩
theorem KX_.put (h:KX_ w0 W0 W g gx o ox)(h1:W1.heap[gx]? = some ox1)(ho:∀ k,k≠gx→W1.heap[k]? = W.heap[k]?)(hs:W1.heap.size=W.heap.size)(hbel:∀ B (w0:World),B≤gx→Below B w0 W→Below B w0 W1):KX_ w0 W0 W1 g gx o ox1:=
 ⟨(ho g h.2.2.2.2.2.2.2.2).trans h.1,h1,⟨by rw[hs];exact h.2.2.1.1,fun i hi hg hr=>(ho i (fun e=>hr (by rw[e]))).trans (h.2.2.1.2 i hi hg hr)⟩,hbel _ _ h.2.2.2.2.2.2.2.1 h.bel,h.2.2.2.2⟩
theorem KX_.self (h:KX_ w0 W0 W g gx o ox)(h1:W1.heap[g]? = some o1)(ho:∀ k,k≠g→W1.heap[k]? = W.heap[k]?)(hs:W1.heap.size=W.heap.size)(hbel:∀ B (w0:World),B≤g→Below B w0 W→Below B w0 W1):KX_ w0 W0 W1 g gx o1 ox:=
 ⟨h1,(ho gx (Ne.symm h.2.2.2.2.2.2.2.2)).trans h.2.1,⟨by rw[hs];exact h.2.2.1.1,fun i hi hg hr=>(ho i hg).trans (h.2.2.1.2 i hi hg hr)⟩,hbel _ _ h.2.2.2.2.2.2.1 h.bel,h.2.2.2.2⟩
theorem KX_.grown {row:Option Nat}(h:KX_ w0 W0 W g gx o ox)(hg:W.grownBy W1 row)(hr:∀ k,row=some k→W0.heap.size≤k)(hb:Below w0.heap.size w0 W1):KX_ w0 W0 W1 g gx o ox:=by
 have hne:∀ i,i<W0.heap.size→some i≠row:=fun i hi e=>by have:=hr i e.symm;omega
 exact⟨(hg.block g (qN h.1) (hne g h.2.2.2.2.1)).trans h.1,(hg.block gx (qN h.2.1) (hne gx h.2.2.2.2.2.1)).trans h.2.1,⟨Nat.le_trans h.2.2.1.1 hg.size,fun i hi hig hir=>(hg.block i (Nat.lt_of_lt_of_le hi h.2.2.1.1) (hne i hi)).trans (h.2.2.1.2 i hi hig hir)⟩,hb,h.2.2.2.2⟩
end
def oX (x:I)(vl vt:Value):Obj:=.cells (qH x vl vt (.slice none 0 0) (.slice none 0 0)).toArray 43 (0,0)
def zop (o:Int):I:={zI with op:=o}
def yZ (w0 W:World)(g gx:Nat)(A:Option Addr)(c:Nat)(b:List Int)(r:I × Int × Bool)(e:Ending)(W':World):Prop:=
 ∃ vl vt,e = .returned (.tuple #[])∧KX_ w0 W W' g gx (oRd A c b r.2.1 r.2.2) (oX r.1 vl vt)∧(Kd.int .u32).R 34 W' w0.heap.size (fun q=>W.heap.size≤q) vl r.1.l∧(Kd.int .u8).R 39 W' w0.heap.size (fun q=>W.heap.size≤q) vt r.1.t
theorem KX_.st {w0 W:World}{g gx:Nat}{o ox:Obj}(hg:W.heap[g]? = some o)(hx:W.heap[gx]? = some ox)(hB:Below w0.heap.size w0 W)(hn:w0.heap.size≤g)(hnx:w0.heap.size≤gx)(hne:g≠gx):Aside0 (KX_ w0 W W g gx o ox):=⟨hg,hx,⟨Nat.le_refl _,fun _ _ _ _=>rfl⟩,hB,qN hg,qN hx,hn,hnx,hne⟩
def HR (w0 W:World)(g gx:Nat)(A:Option Addr)(c:Nat)(b:List Int)(at_:Int)(bad:Bool)(o:Int):Prop:=Below w0.heap.size w0 W∧W.heap[g]? = some (oRd A c b at_ bad)∧w0.heap.size≤g∧(Kd.int .u8).C w0 A b.length b∧b.length≤c∧0≤at_∧W.heap[gx]? = some (oX (zop o) (.slice none 0 0) (.slice none 0 0))∧w0.heap.size≤gx∧g≠gx
set_option maxRecDepth 100000 in
theorem qJJ (K k:Nat)(w0 W:World)(g gx:Nat)(A:Option Addr)(c:Nat)(b:List Int)(at_:Int)(bad:Bool)(o im:Int)(hh:HR w0 W g gx A c b at_ bad o)(him:im=2∨im=4∨im=6∨im=7∨im=8∨im=10∨im=12)(r1 r2:Int)(r3:Bool)(hr:uF K b at_ bad=some (r1,r2,r3)):
 Calls Tryd.prog 50 #[.pointer (some ⟨g,0,none⟩),.int .u8 im,.pointer (some ⟨gx,0,none⟩)] W (yZ w0 W g gx A c b ({zI with op:=o,a:=r1},r2,r3)):=by
 obtain⟨hB,hg,hn,hC,hc,h0,hx,hnx,hne⟩:=hh
 have S0:=KX_.st hg hx hB hn hnx hne
 have HV16:=am (rfl:zI.v.length=16)
 have U1:=am (fun(W1:World) (ox:Obj) (h9:KX_ w0 W W1 g gx (oRd A c b at_ bad) ox)=>z8 K w0 W1 g A c b at_ bad (r1,r2,r3) h9.bel h9.1 hn hC hc hr)
 clear hg hx hB hn hnx hne hC hc h0 hr
 rcases him with him|him|him|him|him|him|him
 all_goals
  have t2:=tst 2 him;have t4:=tst 4 him;have t6:=tst 6 him;have t7:=tst 7 him;have t8:=tst 8 him;have t10:=tst 10 him;have t12:=tst 12 him;have t13:=tst 13 him;have t5:=tst 5 him;have t9:=tst 9 him;have t11:=tst 11 him;have t3:=tst 3 him;have t14:=tst 14 him;have t15:=tst 15 him;have t16:=tst 16 him;have t17:=tst 17 him;have t18:=tst 18 him;have t19:=tst 19 him;have t24:=tst 24 him;have t20:=tst 20 him;have t22:=tst 22 him;have t21:=tst 21 him;have t23:=tst 23 him;have t25:=tst 25 him;have t26:=tst 26 him;clear him
  exact mAd
set_option maxRecDepth 100000 in
theorem qIZ (K k:Nat)(w0 W:World)(g gx:Nat)(A:Option Addr)(c:Nat)(b:List Int)(at_:Int)(bad:Bool)(o im:Int)(hh:HR w0 W g gx A c b at_ bad o)(him:im=5∨im=9∨im=11)(r1 r2:Int)(r3:Bool)(hr:uF K b at_ bad=some (r1,r2,r3))(q1 q2:Int)(q3:Bool)(hq:uF K b r2 r3=some (q1,q2,q3)):
 Calls Tryd.prog 50 #[.pointer (some ⟨g,0,none⟩),.int .u8 im,.pointer (some ⟨gx,0,none⟩)] W (yZ w0 W g gx A c b ({zI with op:=o,a:=r1,b:=q1},q2,q3)):=by
 obtain⟨hB,hg,hn,hC,hc,h0,hx,hnx,hne⟩:=hh
 have S0:=KX_.st hg hx hB hn hnx hne
 have HV16:=am (rfl:zI.v.length=16)
 have U1:=am (fun(W1:World) (ox:Obj) (h9:KX_ w0 W W1 g gx (oRd A c b at_ bad) ox)=>z8 K w0 W1 g A c b at_ bad (r1,r2,r3) h9.bel h9.1 hn hC hc hr)
 have U2:=am (fun(W1:World) (ox:Obj) (h9:KX_ w0 W W1 g gx (oRd A c b r2 r3) ox)=>z8 K w0 W1 g A c b r2 r3 (q1,q2,q3) h9.bel h9.1 hn hC hc hq)
 clear hg hx hB hn hnx hne hC hc h0 hr hq
 rcases him with him|him|him
 all_goals
  have t2:=tst 2 him;have t4:=tst 4 him;have t6:=tst 6 him;have t7:=tst 7 him;have t8:=tst 8 him;have t10:=tst 10 him;have t12:=tst 12 him;have t13:=tst 13 him;have t5:=tst 5 him;have t9:=tst 9 him;have t11:=tst 11 him;have t3:=tst 3 him;have t14:=tst 14 him;have t15:=tst 15 him;have t16:=tst 16 him;have t17:=tst 17 him;have t18:=tst 18 him;have t19:=tst 19 him;have t24:=tst 24 him;have t20:=tst 20 him;have t22:=tst 22 him;have t21:=tst 21 him;have t23:=tst 23 him;have t25:=tst 25 him;have t26:=tst 26 him;clear him
  exact mAd
set_option maxRecDepth 100000 in
theorem qIH (K k:Nat)(w0 W:World)(g gx:Nat)(A:Option Addr)(c:Nat)(b:List Int)(at_:Int)(bad:Bool)(o im:Int)(hh:HR w0 W g gx A c b at_ bad o)(him:im=15)(hz:0≤(zY b at_ bad).1):
 Calls Tryd.prog 50 #[.pointer (some ⟨g,0,none⟩),.int .u8 im,.pointer (some ⟨gx,0,none⟩)] W (yZ w0 W g gx A c b (zop o,(zY b (zY b at_ bad).1 (zY b at_ bad).2).1,(zY b (zY b at_ bad).1 (zY b at_ bad).2).2)):=by
 obtain⟨hB,hg,hn,hC,hc,h0,hx,hnx,hne⟩:=hh
 have S0:=KX_.st hg hx hB hn hnx hne
 have HV16:=am (rfl:zI.v.length=16)
 have Z1:=am (fun(W1:World) (ox:Obj) (h9:KX_ w0 W W1 g gx (oRd A c b at_ bad) ox)=>xj w0 W1 g A c b at_ bad h9.bel h9.1 hn hC hc h0)
 have Z2:=am (fun(W1:World) (ox:Obj) (h9:KX_ w0 W W1 g gx (oRd A c b (zY b at_ bad).1 (zY b at_ bad).2) ox)=>xj w0 W1 g A c b (zY b at_ bad).1 (zY b at_ bad).2 h9.bel h9.1 hn hC hc hz)
 clear hg hx hB hn hnx hne hC hc h0 hz
 have t2:=tst 2 him;have t4:=tst 4 him;have t6:=tst 6 him;have t7:=tst 7 him;have t8:=tst 8 him;have t10:=tst 10 him;have t12:=tst 12 him;have t13:=tst 13 him;have t5:=tst 5 him;have t9:=tst 9 him;have t11:=tst 11 him;have t3:=tst 3 him;have t14:=tst 14 him;have t15:=tst 15 him;have t16:=tst 16 him;have t17:=tst 17 him;have t18:=tst 18 him;have t19:=tst 19 him;have t24:=tst 24 him;have t20:=tst 20 him;have t22:=tst 22 him;have t21:=tst 21 him;have t23:=tst 23 him;have t25:=tst 25 him;have t26:=tst 26 him;clear him
 exact mAd
set_option maxRecDepth 100000 in
theorem qH8 (K k:Nat)(w0 W:World)(g gx:Nat)(A:Option Addr)(c:Nat)(b:List Int)(at_:Int)(bad:Bool)(o im:Int)(hh:HR w0 W g gx A c b at_ bad o)(him:im=14):
 Calls Tryd.prog 50 #[.pointer (some ⟨g,0,none⟩),.int .u8 im,.pointer (some ⟨gx,0,none⟩)] W (yZ w0 W g gx A c b (zop o,(zY b at_ bad).1,(zY b at_ bad).2)):=by
 obtain⟨hB,hg,hn,hC,hc,h0,hx,hnx,hne⟩:=hh
 have S0:=KX_.st hg hx hB hn hnx hne
 have HV16:=am (rfl:zI.v.length=16)
 have Z1:=am (fun(W1:World) (ox:Obj) (h9:KX_ w0 W W1 g gx (oRd A c b at_ bad) ox)=>xj w0 W1 g A c b at_ bad h9.bel h9.1 hn hC hc h0)
 clear hg hx hB hn hnx hne hC hc h0
 have t2:=tst 2 him;have t4:=tst 4 him;have t6:=tst 6 him;have t7:=tst 7 him;have t8:=tst 8 him;have t10:=tst 10 him;have t12:=tst 12 him;have t13:=tst 13 him;have t5:=tst 5 him;have t9:=tst 9 him;have t11:=tst 11 him;have t3:=tst 3 him;have t14:=tst 14 him;have t15:=tst 15 him;have t16:=tst 16 him;have t17:=tst 17 him;have t18:=tst 18 him;have t19:=tst 19 him;have t24:=tst 24 him;have t20:=tst 20 him;have t22:=tst 22 him;have t21:=tst 21 him;have t23:=tst 23 him;have t25:=tst 25 him;have t26:=tst 26 him;clear him
 exact mAd
set_option maxRecDepth 100000 in
theorem qIu (K k:Nat)(w0 W:World)(g gx:Nat)(A:Option Addr)(c:Nat)(b:List Int)(at_:Int)(bad:Bool)(o im:Int)(hh:HR w0 W g gx A c b at_ bad o)(him:im=13)(r1 r2:Int)(r3:Bool)(hr:uF K b at_ bad=some (r1,r2,r3))(hz:0≤r2):
 Calls Tryd.prog 50 #[.pointer (some ⟨g,0,none⟩),.int .u8 im,.pointer (some ⟨gx,0,none⟩)] W (yZ w0 W g gx A c b ({zI with op:=o,a:=r1},(zY b r2 r3).1,(zY b r2 r3).2)):=by
 obtain⟨hB,hg,hn,hC,hc,h0,hx,hnx,hne⟩:=hh
 have S0:=KX_.st hg hx hB hn hnx hne
 have HV16:=am (rfl:zI.v.length=16)
 have U1:=am (fun(W1:World) (ox:Obj) (h9:KX_ w0 W W1 g gx (oRd A c b at_ bad) ox)=>z8 K w0 W1 g A c b at_ bad (r1,r2,r3) h9.bel h9.1 hn hC hc hr)
 have Z1:=am (fun(W1:World) (ox:Obj) (h9:KX_ w0 W W1 g gx (oRd A c b r2 r3) ox)=>xj w0 W1 g A c b r2 r3 h9.bel h9.1 hn hC hc hz)
 clear hg hx hB hn hnx hne hC hc h0 hr hz
 have t2:=tst 2 him;have t4:=tst 4 him;have t6:=tst 6 him;have t7:=tst 7 him;have t8:=tst 8 him;have t10:=tst 10 him;have t12:=tst 12 him;have t13:=tst 13 him;have t5:=tst 5 him;have t9:=tst 9 him;have t11:=tst 11 him;have t3:=tst 3 him;have t14:=tst 14 him;have t15:=tst 15 him;have t16:=tst 16 him;have t17:=tst 17 him;have t18:=tst 18 him;have t19:=tst 19 him;have t24:=tst 24 him;have t20:=tst 20 him;have t22:=tst 22 him;have t21:=tst 21 him;have t23:=tst 23 him;have t25:=tst 25 him;have t26:=tst 26 him;clear him
 exact mAd
set_option maxRecDepth 100000 in
theorem qJk (K k:Nat)(w0 W:World)(g gx:Nat)(A:Option Addr)(c:Nat)(b:List Int)(at_:Int)(bad:Bool)(o im:Int)(hh:HR w0 W g gx A c b at_ bad o)(him:im=16)(r1 r2:Int)(r3:Bool)(hr:uF K b at_ bad=some (r1,r2,r3))(q1 q2:Int)(q3:Bool)(hq:uF K b r2 r3=some (q1,q2,q3)):
 Calls Tryd.prog 50 #[.pointer (some ⟨g,0,none⟩),.int .u8 im,.pointer (some ⟨gx,0,none⟩)] W (yZ w0 W g gx A c b ({zI with op:=o,a:=r1,n:=IntKind.u64.wrap q1},q2,q3)):=by
 obtain⟨hB,hg,hn,hC,hc,h0,hx,hnx,hne⟩:=hh
 have S0:=KX_.st hg hx hB hn hnx hne
 have HV16:=am (rfl:zI.v.length=16)
 have U1:=am (fun(W1:World) (ox:Obj) (h9:KX_ w0 W W1 g gx (oRd A c b at_ bad) ox)=>z8 K w0 W1 g A c b at_ bad (r1,r2,r3) h9.bel h9.1 hn hC hc hr)
 have U2:=am (fun(W1:World) (ox:Obj) (h9:KX_ w0 W W1 g gx (oRd A c b r2 r3) ox)=>z8 K w0 W1 g A c b r2 r3 (q1,q2,q3) h9.bel h9.1 hn hC hc hq)
 clear hg hx hB hn hnx hne hC hc h0 hr hq
 have t2:=tst 2 him;have t4:=tst 4 him;have t6:=tst 6 him;have t7:=tst 7 him;have t8:=tst 8 him;have t10:=tst 10 him;have t12:=tst 12 him;have t13:=tst 13 him;have t5:=tst 5 him;have t9:=tst 9 him;have t11:=tst 11 him;have t3:=tst 3 him;have t14:=tst 14 him;have t15:=tst 15 him;have t16:=tst 16 him;have t17:=tst 17 him;have t18:=tst 18 him;have t19:=tst 19 him;have t24:=tst 24 him;have t20:=tst 20 him;have t22:=tst 22 him;have t21:=tst 21 him;have t23:=tst 23 him;have t25:=tst 25 him;have t26:=tst 26 him;clear him
 exact mAd
set_option maxRecDepth 100000 in
theorem qIK (K k:Nat)(w0 W:World)(g gx:Nat)(A:Option Addr)(c:Nat)(b:List Int)(at_:Int)(bad:Bool)(o im:Int)(hh:HR w0 W g gx A c b at_ bad o)(him:im=17)(r1 r2:Int)(r3:Bool)(hr:uF K b at_ bad=some (r1,r2,r3))(q1 q2:Int)(q3:Bool)(hq:uF K b r2 r3=some (q1,q2,q3))(hz:0≤q2)(p1 p2:Int)(p3:Bool)(hp:q8 b q2 q3=(p1,p2,p3)):
 Calls Tryd.prog 50 #[.pointer (some ⟨g,0,none⟩),.int .u8 im,.pointer (some ⟨gx,0,none⟩)] W (yZ w0 W g gx A c b ({zI with op:=o,a:=r1,b:=IntKind.u32.wrap p1,n:=IntKind.u64.wrap q1},p2,p3)):=by
 obtain⟨hB,hg,hn,hC,hc,h0,hx,hnx,hne⟩:=hh
 have S0:=KX_.st hg hx hB hn hnx hne
 have HV16:=am (rfl:zI.v.length=16)
 have U1:=am (fun(W1:World) (ox:Obj) (h9:KX_ w0 W W1 g gx (oRd A c b at_ bad) ox)=>z8 K w0 W1 g A c b at_ bad (r1,r2,r3) h9.bel h9.1 hn hC hc hr)
 have U2:=am (fun(W1:World) (ox:Obj) (h9:KX_ w0 W W1 g gx (oRd A c b r2 r3) ox)=>z8 K w0 W1 g A c b r2 r3 (q1,q2,q3) h9.bel h9.1 hn hC hc hq)
 have O1:=am (fun(W1:World) (ox:Obj) (h9:KX_ w0 W W1 g gx (oRd A c b q2 q3) ox)=>jT w0 W1 g A c b q2 q3 h9.bel h9.1 hn hC hc hz)
 rw[hp] at O1
 clear hp
 clear hg hx hB hn hnx hne hC hc h0 hr hq hz
 have t2:=tst 2 him;have t4:=tst 4 him;have t6:=tst 6 him;have t7:=tst 7 him;have t8:=tst 8 him;have t10:=tst 10 him;have t12:=tst 12 him;have t13:=tst 13 him;have t5:=tst 5 him;have t9:=tst 9 him;have t11:=tst 11 him;have t3:=tst 3 him;have t14:=tst 14 him;have t15:=tst 15 him;have t16:=tst 16 him;have t17:=tst 17 him;have t18:=tst 18 him;have t19:=tst 19 him;have t24:=tst 24 him;have t20:=tst 20 him;have t22:=tst 22 him;have t21:=tst 21 him;have t23:=tst 23 him;have t25:=tst 25 him;have t26:=tst 26 him;clear him
 exact mAd
set_option maxRecDepth 100000 in
theorem qI5 (K k:Nat)(w0 W:World)(g gx:Nat)(A:Option Addr)(c:Nat)(b:List Int)(at_:Int)(bad:Bool)(o im:Int)(hh:HR w0 W g gx A c b at_ bad o)(him:im=18)(p1 p2:Int)(p3:Bool)(hp:q8 b at_ bad=(p1,p2,p3)):
 Calls Tryd.prog 50 #[.pointer (some ⟨g,0,none⟩),.int .u8 im,.pointer (some ⟨gx,0,none⟩)] W (yZ w0 W g gx A c b ({zI with op:=o,b:=IntKind.u32.wrap p1},p2,p3)):=by
 obtain⟨hB,hg,hn,hC,hc,h0,hx,hnx,hne⟩:=hh
 have S0:=KX_.st hg hx hB hn hnx hne
 have HV16:=am (rfl:zI.v.length=16)
 have O1:=am (fun(W1:World) (ox:Obj) (h9:KX_ w0 W W1 g gx (oRd A c b at_ bad) ox)=>jT w0 W1 g A c b at_ bad h9.bel h9.1 hn hC hc h0)
 rw[hp] at O1
 clear hp
 clear hg hx hB hn hnx hne hC hc h0
 have t2:=tst 2 him;have t4:=tst 4 him;have t6:=tst 6 him;have t7:=tst 7 him;have t8:=tst 8 him;have t10:=tst 10 him;have t12:=tst 12 him;have t13:=tst 13 him;have t5:=tst 5 him;have t9:=tst 9 him;have t11:=tst 11 him;have t3:=tst 3 him;have t14:=tst 14 him;have t15:=tst 15 him;have t16:=tst 16 him;have t17:=tst 17 him;have t18:=tst 18 him;have t19:=tst 19 him;have t24:=tst 24 him;have t20:=tst 20 him;have t22:=tst 22 him;have t21:=tst 21 him;have t23:=tst 23 him;have t25:=tst 25 him;have t26:=tst 26 him;clear him
 exact mAd
set_option maxRecDepth 100000 in
theorem qHm (K k:Nat)(w0 W:World)(g gx:Nat)(A:Option Addr)(c:Nat)(b:List Int)(at_:Int)(bad:Bool)(o im:Int)(hh:HR w0 W g gx A c b at_ bad o)(him:im=20)(r1 r2:Int)(r3:Bool)(hr:sF K b at_ 32 bad=some (r1,r2,r3)):
 Calls Tryd.prog 50 #[.pointer (some ⟨g,0,none⟩),.int .u8 im,.pointer (some ⟨gx,0,none⟩)] W (yZ w0 W g gx A c b ({zI with op:=o,n:=r1 % 4294967296},r2,r3)):=by
 obtain⟨hB,hg,hn,hC,hc,h0,hx,hnx,hne⟩:=hh
 have S0:=KX_.st hg hx hB hn hnx hne
 have HV16:=am (rfl:zI.v.length=16)
 have S1:=am (fun(W1:World) (ox:Obj) (h9:KX_ w0 W W1 g gx (oRd A c b at_ bad) ox)=>qB5 K w0 W1 g A c b at_ 32 bad (r1,r2,r3) h9.bel h9.1 hn hC hc hr)
 clear hg hx hB hn hnx hne hC hc h0 hr
 have t2:=tst 2 him;have t4:=tst 4 him;have t6:=tst 6 him;have t7:=tst 7 him;have t8:=tst 8 him;have t10:=tst 10 him;have t12:=tst 12 him;have t13:=tst 13 him;have t5:=tst 5 him;have t9:=tst 9 him;have t11:=tst 11 him;have t3:=tst 3 him;have t14:=tst 14 him;have t15:=tst 15 him;have t16:=tst 16 him;have t17:=tst 17 him;have t18:=tst 18 him;have t19:=tst 19 him;have t24:=tst 24 him;have t20:=tst 20 him;have t22:=tst 22 him;have t21:=tst 21 him;have t23:=tst 23 him;have t25:=tst 25 him;have t26:=tst 26 him;clear him
 exact mAd
set_option maxRecDepth 100000 in
theorem qG8 (K k:Nat)(w0 W:World)(g gx:Nat)(A:Option Addr)(c:Nat)(b:List Int)(at_:Int)(bad:Bool)(o im:Int)(hh:HR w0 W g gx A c b at_ bad o)(him:im=21)(r1 r2:Int)(r3:Bool)(hr:sF K b at_ 64 bad=some (r1,r2,r3)):
 Calls Tryd.prog 50 #[.pointer (some ⟨g,0,none⟩),.int .u8 im,.pointer (some ⟨gx,0,none⟩)] W (yZ w0 W g gx A c b ({zI with op:=o,n:=IntKind.u64.wrap r1},r2,r3)):=by
 obtain⟨hB,hg,hn,hC,hc,h0,hx,hnx,hne⟩:=hh
 have S0:=KX_.st hg hx hB hn hnx hne
 have HV16:=am (rfl:zI.v.length=16)
 have S1:=am (fun(W1:World) (ox:Obj) (h9:KX_ w0 W W1 g gx (oRd A c b at_ bad) ox)=>qB5 K w0 W1 g A c b at_ 64 bad (r1,r2,r3) h9.bel h9.1 hn hC hc hr)
 clear hg hx hB hn hnx hne hC hc h0 hr
 have t2:=tst 2 him;have t4:=tst 4 him;have t6:=tst 6 him;have t7:=tst 7 him;have t8:=tst 8 him;have t10:=tst 10 him;have t12:=tst 12 him;have t13:=tst 13 him;have t5:=tst 5 him;have t9:=tst 9 him;have t11:=tst 11 him;have t3:=tst 3 him;have t14:=tst 14 him;have t15:=tst 15 him;have t16:=tst 16 him;have t17:=tst 17 him;have t18:=tst 18 him;have t19:=tst 19 him;have t24:=tst 24 him;have t20:=tst 20 him;have t22:=tst 22 him;have t21:=tst 21 him;have t23:=tst 23 him;have t25:=tst 25 him;have t26:=tst 26 him;clear him
 exact mAd
set_option maxRecDepth 100000 in
theorem qHB (K k:Nat)(w0 W:World)(g gx:Nat)(A:Option Addr)(c:Nat)(b:List Int)(at_:Int)(bad:Bool)(o im:Int)(hh:HR w0 W g gx A c b at_ bad o)(him:im=22):
 Calls Tryd.prog 50 #[.pointer (some ⟨g,0,none⟩),.int .u8 im,.pointer (some ⟨gx,0,none⟩)] W (yZ w0 W g gx A c b ({zI with op:=o,n:=(xH b 4 0 0 at_ bad).1},(xH b 4 0 0 at_ bad).2.1,(xH b 4 0 0 at_ bad).2.2)):=by
 obtain⟨hB,hg,hn,hC,hc,h0,hx,hnx,hne⟩:=hh
 have S0:=KX_.st hg hx hB hn hnx hne
 have HV16:=am (rfl:zI.v.length=16)
 have L1:=am (fun(W1:World) (ox:Obj) (h9:KX_ w0 W W1 g gx (oRd A c b at_ bad) ox)=>qBP 4 mDl w0 W1 g A c b at_ bad h9.bel h9.1 hn hC hc h0 _ rfl)
 generalize xH b 4 0 0 at_ bad=lw at L1 ⊢
 clear hg hx hB hn hnx hne hC hc h0
 have t2:=tst 2 him;have t4:=tst 4 him;have t6:=tst 6 him;have t7:=tst 7 him;have t8:=tst 8 him;have t10:=tst 10 him;have t12:=tst 12 him;have t13:=tst 13 him;have t5:=tst 5 him;have t9:=tst 9 him;have t11:=tst 11 him;have t3:=tst 3 him;have t14:=tst 14 him;have t15:=tst 15 him;have t16:=tst 16 him;have t17:=tst 17 him;have t18:=tst 18 him;have t19:=tst 19 him;have t24:=tst 24 him;have t20:=tst 20 him;have t22:=tst 22 him;have t21:=tst 21 him;have t23:=tst 23 him;have t25:=tst 25 him;have t26:=tst 26 him;clear him
 exact mAd
set_option maxRecDepth 100000 in
theorem qHH (K k:Nat)(w0 W:World)(g gx:Nat)(A:Option Addr)(c:Nat)(b:List Int)(at_:Int)(bad:Bool)(o im:Int)(hh:HR w0 W g gx A c b at_ bad o)(him:im=23):
 Calls Tryd.prog 50 #[.pointer (some ⟨g,0,none⟩),.int .u8 im,.pointer (some ⟨gx,0,none⟩)] W (yZ w0 W g gx A c b ({zI with op:=o,n:=(xH b 8 0 0 at_ bad).1},(xH b 8 0 0 at_ bad).2.1,(xH b 8 0 0 at_ bad).2.2)):=by
 obtain⟨hB,hg,hn,hC,hc,h0,hx,hnx,hne⟩:=hh
 have S0:=KX_.st hg hx hB hn hnx hne
 have HV16:=am (rfl:zI.v.length=16)
 have L1:=am (fun(W1:World) (ox:Obj) (h9:KX_ w0 W W1 g gx (oRd A c b at_ bad) ox)=>qBP 8 mDl w0 W1 g A c b at_ bad h9.bel h9.1 hn hC hc h0 _ rfl)
 generalize xH b 8 0 0 at_ bad=lw at L1 ⊢
 clear hg hx hB hn hnx hne hC hc h0
 have t2:=tst 2 him;have t4:=tst 4 him;have t6:=tst 6 him;have t7:=tst 7 him;have t8:=tst 8 him;have t10:=tst 10 him;have t12:=tst 12 him;have t13:=tst 13 him;have t5:=tst 5 him;have t9:=tst 9 him;have t11:=tst 11 him;have t3:=tst 3 him;have t14:=tst 14 him;have t15:=tst 15 him;have t16:=tst 16 him;have t17:=tst 17 him;have t18:=tst 18 him;have t19:=tst 19 him;have t24:=tst 24 him;have t20:=tst 20 him;have t22:=tst 22 him;have t21:=tst 21 him;have t23:=tst 23 him;have t25:=tst 25 him;have t26:=tst 26 him;clear him
 exact mAd
set_option maxRecDepth 100000 in
theorem qI6 (K k:Nat)(w0 W:World)(g gx:Nat)(A:Option Addr)(c:Nat)(b:List Int)(at_:Int)(bad:Bool)(o im:Int)(hh:HR w0 W g gx A c b at_ bad o)(him:∀ k,k ∈ ([2,3,4,5,6,7,8,9,10,11,12,13,14,15,16,17,18,19,20,21,22,23,24,25,26]:List Int)→im≠k):
 Calls Tryd.prog 50 #[.pointer (some ⟨g,0,none⟩),.int .u8 im,.pointer (some ⟨gx,0,none⟩)] W (yZ w0 W g gx A c b (zop o,at_,bad)):=by
 obtain⟨hB,hg,hn,hC,hc,h0,hx,hnx,hne⟩:=hh
 have S0:=KX_.st hg hx hB hn hnx hne
 have HV16:=am (rfl:zI.v.length=16)
 clear hg hx hB hn hnx hne hC hc h0
 have t2:(im==2)=false:=beq_eq_false_iff_ne.2 (him 2 mDl);have t4:(im==4)=false:=beq_eq_false_iff_ne.2 (him 4 mDl);have t6:(im==6)=false:=beq_eq_false_iff_ne.2 (him 6 mDl);have t7:(im==7)=false:=beq_eq_false_iff_ne.2 (him 7 mDl);have t8:(im==8)=false:=beq_eq_false_iff_ne.2 (him 8 mDl);have t10:(im==10)=false:=beq_eq_false_iff_ne.2 (him 10 mDl);have t12:(im==12)=false:=beq_eq_false_iff_ne.2 (him 12 mDl);have t13:(im==13)=false:=beq_eq_false_iff_ne.2 (him 13 mDl);have t5:(im==5)=false:=beq_eq_false_iff_ne.2 (him 5 mDl);have t9:(im==9)=false:=beq_eq_false_iff_ne.2 (him 9 mDl);have t11:(im==11)=false:=beq_eq_false_iff_ne.2 (him 11 mDl);have t3:(im==3)=false:=beq_eq_false_iff_ne.2 (him 3 mDl);have t14:(im==14)=false:=beq_eq_false_iff_ne.2 (him 14 mDl);have t15:(im==15)=false:=beq_eq_false_iff_ne.2 (him 15 mDl);have t16:(im==16)=false:=beq_eq_false_iff_ne.2 (him 16 mDl);have t17:(im==17)=false:=beq_eq_false_iff_ne.2 (him 17 mDl);have t18:(im==18)=false:=beq_eq_false_iff_ne.2 (him 18 mDl);have t19:(im==19)=false:=beq_eq_false_iff_ne.2 (him 19 mDl);have t24:(im==24)=false:=beq_eq_false_iff_ne.2 (him 24 mDl);have t20:(im==20)=false:=beq_eq_false_iff_ne.2 (him 20 mDl);have t22:(im==22)=false:=beq_eq_false_iff_ne.2 (him 22 mDl);have t21:(im==21)=false:=beq_eq_false_iff_ne.2 (him 21 mDl);have t23:(im==23)=false:=beq_eq_false_iff_ne.2 (him 23 mDl);have t25:(im==25)=false:=beq_eq_false_iff_ne.2 (him 25 mDl);have t26:(im==26)=false:=beq_eq_false_iff_ne.2 (him 26 mDl);clear him
 go_enter Tryd.func50,Tryd.ntmps50
 go_wp2
 exact⟨rfl,.tuple #[],by first|rfl|simp[results,Tryd.f50],_,_,rfl,S0.out,Kd.R_nil _ _ _ _ _,Kd.R_nil _ _ _ _ _⟩
end Go.Proofs.YtobldeamemmokaaDoor.P
