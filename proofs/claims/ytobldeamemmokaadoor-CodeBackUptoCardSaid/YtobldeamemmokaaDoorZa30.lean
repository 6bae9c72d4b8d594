import Derived.Test.YtobldeamemmokaaDoorZa29
set_option linter.unusedVariables false
set_option linter.unusedSimpArgs false
set_option maxHeartbeats 64000000
namespace Go.Proofs.YtobldeamemmokaaDoor.P
open Go.RowKit Go.Proofs.YtobldeamemmokaaDoorW.PrintWords Go.Proofs.YtobldeamemmokaaDoorW.PrintLast Go.Proofs.YtobldeamemmokaaDoorW.PrintMore
def zA.T22:Bool × List (List Nat × List Nat):=(true,[([],[]),([0],[0]),([0],[0]),([0,0,1,2],[0])])
def zA.B22:List Nat:=[0,1,1,7]
theorem zA.tab22:jO .any (xL Tryd.f31 22)=zA.T22:=mDh
theorem zA.bits22:zc zA.T22.2 zA.B22=true:=mDh
def zA.T25:Bool × List (List Nat × List Nat):=(true,[([],[]),([],[]),([1],[1]),([2],[2]),([3],[3]),([],[]),([5],[5]),([4,6],[4,6]),([0,0,1,2,3,4,5,6,7],[0]),([8,0,1,2,3,4,5,6,7],[8]),([9,7,7,0,1,2,3,4,5,6,7],[7,9])])
def zA.B25:List Nat:=[0,0,2,6,14,0,32,126,255,511,1023]
theorem zA.tab25:jO .any (xL Tryd.f31 25)=zA.T25:=mDh
theorem zA.bits25:zc zA.T25.2 zA.B25=true:=mDh
theorem qI3:(Tryd.prog.info? 4).map (fun i=>i.zero)=some (some (.bool false)):=mDh
set_option maxRecDepth 100000 in
theorem qAK (K kl k:Nat)(A:Option Addr)(c:Nat)(b:List Int)(at0:Int)(w:World)(hT:YtobldeamemmokaaDoorTabs.Tab w)(hc:b.length≤c)(hC:(Kd.int .u8).C w A b.length b)(h0:0≤at0)(r:Option (List I × Int × Int × Bool))(h:zT K kl b k [zO] at0 0 false=some r):
 Calls Tryd.prog 31 #[.slice A b.length c,.int .i64 at0] w fun e w'=>qD6 w r e w'∧Below w.heap.size w w':=by
 have HT:=am hT
 have HC:=am hC
 have HCC:=am hc
 have H0:=am h0
 have HH:=am h
 have hbm:b.length≤9223372036854775807:=Kd.C_max hC
 have HB:=am (Below.refl w.heap.size w)
 clear hT hC hc h0 h
 go_enter Tryd.func31,Tryd.ntmps31
 go_wp2_with (first
  | ((with_reducible refine qE (N:=4) rfl ?_);refine qd rfl 65 rfl _ qA9 ?_;intro gg hgg w1 hb hbl;have GG:=am hb;have N1:=am (by rw[hgg];exact Nat.le_refl _:w.heap.size≤gg);have n0_:=am (qB HB.out hbl);clear HB hgg hb hbl;have HB:=n0_;clear n0_)
  | ((with_reducible refine qE (N:=14) rfl ?_);refine qIe rfl 87 _ rfl [.slice A b.length c,.int .i64 at0,.bool false] rfl ?_;intro gr hgr w2 hb hbl;have GR:=am hb;have n1_:=am (qG GG.out hbl);have N2:Aside0 (gg<gr∧w.heap.size≤gr):=⟨by have h1:=qN GG.out;have h2:=HB.out.size;have h3:w1.heap.size≤gr:=by {rw[hgr];exact Nat.le_refl _};omega⟩;have n0_:=am (qB HB.out hbl);clear HB GG hgr hb hbl;have HB:=n0_;have GG:=n1_;clear n0_ n1_)
  | ((with_reducible refine qE (N:=15) rfl ?_);refine qBA rfl 89 rfl _ qHw ?_)
  | ((with_reducible refine qE (N:=16) rfl ?_);refine qDx w.heap.size rfl (.tmp 15) rfl (qy zI (.slice none 0 0) (.slice none 0 0) (.slice none 0 0) (.slice none 0 0) (.slice none 0 0) false) rfl rfl (yw (o:=zO) (W:=w) (base:=0) (ok:=fun _=>True) (ok':=fun _=>True) rfl (Kd.R_nil _ _ _ _ _) (Kd.R_nil _ _ _ _ _)) HB.out.size ?_;intro A16 w3 hl16 hbl;have n1_:=am (qG GG.out hbl);have n2_:=am (qG GR.out hbl);have n0_:=am (qB HB.out hbl);have HL:=am hl16;clear HB GG GR hl16 hbl;have HB:=n0_;have GG:=n1_;have GR:=n2_;clear n0_ n1_ n2_))
 go_loopg [5,7] k (fun kq v5 v7 w'=>∃(css:List (List Value)) (at_ d:Int) (bad ds:Bool) (own:Nat→Nat) (os:List O_),Aside0 (PG w w' gg gr A c b v7 css at_ bad d ds own os [])∧Aside0 (kq≤k)∧Aside0 ((bad=true∧r=none)∨(bad=false∧0≤at_∧zT K kl b kq os at_ d ds=some r)))
 case atStart=>exact⟨_,at0,0,false,false,fun _=>0,[zO],⟨GG.out,GR.out,HL.out,⟨[],_,rfl,⟨.slice none 0 0,.slice none 0 0,rfl,rfl,rfl,rfl,rfl,Kd.R_nil _ _ _ _ _,Kd.R_nil _ _ _ _ _⟩,rfl⟩,HB.out,fun g hg=>by cases hg⟩,⟨Nat.le_refl _⟩,⟨.inr ⟨rfl,H0.out,HH.out⟩⟩⟩
 case round =>
  clear GG GR HL HB H0 HH
  obtain⟨css,at_,d,bad,ds,own,os,HP,HK,HR⟩:=hrel
  have r1:wr.cell? ⟨gr,1,none⟩=some (.int .i64 at_):=(qA HP.out.rd 1).trans rfl
  have r2_:wr.cell? ⟨gr,2,none⟩=some (.bool bad):=(qA HP.out.rd 2).trans rfl
  have fr1:=qD HP.out.rd 1
  rcases HR.out with ⟨rfl,rfl⟩|⟨rfl,hz0,hrun⟩
  ·clear HR
   exact mAw
  clear HR
  cases gk with
  | zero=>rw[zT] at hrun;cases hrun
  | succ k1 =>
  cases os with
  | nil=>rw[zT] at hrun;cases hrun
  | cons o os =>
  rcases qCl hrun with ⟨hlt,rfl⟩|⟨hlt,hos,hol,hcase⟩
  ·have e1:decide (at_<(b.length:Int))=false:=decide_eq_false hlt
   clear hrun
   exact mAw
  have e1:decide (at_<(b.length:Int))=true:=decide_eq_true hlt
  obtain⟨gs,cap,cells,vb,v,rfl,hcap,hmx,hgs,hcells,hrow,h16,hcl,hrv,hone⟩:=HP.out.row
  obtain⟨ad,rfl,hx⟩:=Kd.at_int HC.out at_ hz0 hlt
  have y0:wr.cell? (ad.add at_.toNat)=some (.int .u8 (rd b at_)):=(HP.out.bel.cell (World.block_lt_of_cell? w _ hx)).trans hx
  have w1eq:wrap64 (at_+1)=at_+1:=by clear hrun hcase;unfold wrap64;omega
  have HLT:=am hlt
  have HOS:=am hos
  have HCL:=am hcl
  have hz:0≤at_:=hz0
  obtain⟨AV,cV,rfl⟩:=Kd.R_slice hrv
  have HROW:=am (And.intro hrow (And.intro h16 hcells))
  clear hrun hcells hrow h16 hcl hrv hone hgs hx hz0
  rcases hcase with ⟨h11,rfl,rfl⟩|⟨h11,p,ps,rfl,hpl,hA⟩|⟨h5,h4,he,hA⟩|⟨h11,hn5,o1,im,a1,b1,hop,ha1,hI⟩
  ·-- the end
   rw[h11] at y0
   rw[List.length_nil,Nat.zero_add] at hcap hmx ⊢
   have n0_:Aside0 (PG w wr gg gr (some ad) c b (.slice (some ⟨gs,0,none⟩) 1 cap) css at_ false d ds own [o] []):=⟨HP.out⟩
   clear HP HROW
   have HP:=n0_
   clear n0_
   go_wp2_with (first
    | ((with_reducible refine qF (t:=3) (p:=51) (v:=.tmp 49) rfl ?_);refine qT rfl 3 (.tmp 51) (.tmp 49) rfl gr 1 (.int .i64 (at_+1)) rfl mCy 87 #[.slice (some ad) b.length c,.int .i64 at_,.bool false] #[.slice (some ad) b.length c,.int .i64 (at_+1),.bool false] HP.out.rd (show 1<3 by decide) qAa rfl rfl ?_;intro w4 hb hoth hsz hbel;have n0_:=am (HP.out.next (Nat.ne_of_lt N2.out.1) hb hoth hsz (hbel _ _ N2.out.2 HP.out.bel));clear HP hb hoth hsz hbel;have HP:=n0_;clear n0_)
    | (go_at_call 47;refine(qCL w _ gg gr gs (some ad) c b css (at_+1) d false ds own o cap N1.out (Nat.ne_of_lt N2.out.1) HP.out).mono ?_;rintro e w5 ⟨A1,c1,rfl,hg,hr,hrd,hb⟩;have GG:=am hg;have GR:=am hrd;have RL:=am hr;have HB:=am hb;have r1':w5.cell? ⟨gr,1,none⟩=some (.int .i64 (at_+1)):=(qA hrd 1).trans rfl;clear HP hg hrd hr hb)
    | ((with_reducible refine qF (t:=3) (p:=63) (v:=.tmp 62) rfl ?_);refine qT rfl 3 (.tmp 63) (.tmp 62) rfl gg 1 (.int .i64 (at_+1)) rfl rfl 65 #[.slice A1 o.l.length c1,.int .i64 0,.int .i64 d,.bool ds] #[.slice A1 o.l.length c1,.int .i64 (at_+1),.int .i64 d,.bool ds] GG.out (show 1<4 by decide) qAa rfl rfl ?_;intro w6 hb hoth hsz hbel;have n1_:=am (Kd.R_move RL.out (fun k hk=>hoth k hk));have n2_:=am (hbel _ _ N1.out HB.out);clear GG RL HB;have GG:=am hb;have RL:=n1_;have HB:=n2_;clear n1_ n2_ hb hoth hsz hbel)
    | ((with_reducible refine qE (N:=64) rfl ?_);refine wpList_load_mid rfl 65 (.tmp 4) rfl gg 0 rfl [.slice A1 o.l.length c1,.int .i64 (at_+1),.int .i64 d,.bool ds] _ (jw (n:=4) (cs:=[.slice A1 o.l.length c1,.int .i64 (at_+1),.int .i64 d,.bool ds]) GG.out rfl rfl) Tryd.underlying65 rfl xy ?_)
    | ((with_reducible refine qF (t:=65) (p:=4) (v:=.tmp 64) rfl ?_);refine qV rfl 65 (.tmp 4) (.tmp 64) rfl gg #[.slice A1 o.l.length c1,.int .i64 (at_+1),.int .i64 d,.bool ds] rfl rfl 65 _ GG.out xy rfl (all_oneCell_toArray (cs:=[.slice A1 o.l.length c1,.int .i64 (at_+1),.int .i64 d,.bool ds]) mCt) ?_;intro w7 hb hoth hsz hbel;have n1_:=am (Kd.R_move RL.out (fun k hk=>hoth k hk));have n2_:=am (hbel _ _ N1.out HB.out);clear GG RL HB;have GG:=am hb;have RL:=n1_;have HB:=n2_;clear n1_ n2_ hb hoth hsz hbel))
   refine bodyPost_ret (zL rfl _ _ gg 65 #[.slice A1 o.l.length c1,.int .i64 (at_+1),.int .i64 d,.bool ds] (0,0) _ rfl GG.out Tryd.underlying65 rfl xy) rfl ?_
   exact⟨⟨_,_,rfl,Kd.R_mono RL.out (fun _ _=>trivial)⟩,HB.out⟩
  ·-- a block's end
   try clear_value *
   as_aux_lemma =>
    rw[h11] at y0
    rw[List.length_cons] at hcap hmx ⊢
    obtain⟨m,hm⟩:=ex_ (ps.length)
    have n0_:=HP.out
    rw[List.length_cons,← hm] at n0_
    rw[← hm] at hcap hmx ⊢
    clear HP HROW
    have HP:=am n0_
    have HA:=am hA
    have HM:=am hm
    clear n0_ hA hm
    go_wp2_with (first
     | ((with_reducible refine qF (t:=3) (p:=51) (v:=.tmp 49) rfl ?_);refine qT rfl 3 (.tmp 51) (.tmp 49) rfl gr 1 (.int .i64 (at_+1)) rfl mCy 87 #[.slice (some ad) b.length c,.int .i64 at_,.bool false] #[.slice (some ad) b.length c,.int .i64 (at_+1),.bool false] HP.out.rd (show 1<3 by decide) qAa rfl rfl ?_;intro w4 hb hoth hsz hbel;have n0_:=am (HP.out.next (Nat.ne_of_lt N2.out.1) hb hoth hsz (hbel _ _ N2.out.2 HP.out.bel));clear HP hb hoth hsz hbel;have HP:=n0_;clear n0_)
     | (go_at_call 47;refine(qDf w _ gg gr gs (some ad) c b css (at_+1) d false ds own o p ps m cap HM.out hpl HP.out).mono ?_;rintro e w5 ⟨own2,css2,rfl,hp5⟩;have n0_:=am hp5;clear HP hp5;have HP:=n0_;clear n0_))
    go_roundg k1
    case measure=>omega
    case rel=>exact⟨css2,at_+1,d,false,ds,own2,_,HP,⟨by have:=HK.out;omega⟩,⟨.inr ⟨rfl,mDj,HA.out⟩⟩⟩
  ·-- an else
   try clear_value *
   as_aux_lemma =>
    rw[h5] at y0
    obtain⟨n,hn⟩:=ex_ (os.length)
    rw[← hn] at hcap hmx HROW HP ⊢
    have HN:=am hn
    have HA:=am hA
    have p0:wr.cell? ⟨gs,n*29,none⟩=some (.int .u16 4):=(zo HP.out.raw HROW.out.1).2.2 0 (.int .u16 4) (by rw[← h4];exact(zz o.x HROW.out.2.1 _ _ _ _ _ _).2.2)
    have p28:wr.cell? ⟨gs,n*29+28,none⟩=some (.bool false):=(zo HP.out.raw HROW.out.1).2.2 28 (.bool false) (by rw[← he];exact(zz o.x HROW.out.2.1 _ _ _ _ _ _).2.1)
    have HE:=am (And.intro h4 he)
    have HL:=am (show css.length=n+1 by rw[hn];exact HCL.out)
    clear hA HCL HOS h4 hn
    go_wp2_with (first
     | ((with_reducible refine qF (t:=3) (p:=95) (v:=.tmp 93) rfl ?_);refine qT rfl 3 (.tmp 95) (.tmp 93) rfl gr 1 (.int .i64 (at_+1)) rfl mCy 87 #[.slice (some ad) b.length c,.int .i64 at_,.bool false] #[.slice (some ad) b.length c,.int .i64 (at_+1),.bool false] HP.out.rd (show 1<3 by decide) qAa rfl rfl ?_;intro w4 hb hoth hsz hbel;have hgg:=hoth gs (by intro e;have h9:=HROW.out.2.2;rw[e,HP.out.rd] at h9;simp[oRd] at h9);have n1_:=am (hgg.trans HROW.out.2.2);have n0_:=am (HP.out.next (Nat.ne_of_lt N2.out.1) hb hoth hsz (hbel _ _ N2.out.2 HP.out.bel));clear HP hb hoth hsz hbel hgg;have HP:=n0_;have HCE:=n1_;clear n0_ n1_;have c25:w4.cell? ⟨gs,n*29+25,none⟩=some vb:=(zo HP.out.raw HROW.out.1).2.2 25 vb (qGS o.x HROW.out.2.1 _ _ _ _ _ _);have c27:w4.cell? ⟨gs,n*29+27,none⟩=some (.slice AV o.l.length cV):=(zo HP.out.raw HROW.out.1).2.2 27 _ (zz o.x HROW.out.2.1 _ _ _ _ _ _).1;have c28:w4.cell? ⟨gs,n*29+28,none⟩=some (.bool false):=(zo HP.out.raw HROW.out.1).2.2 28 (.bool false) (by rw[← HE.out.2];exact(zz o.x HROW.out.2.1 _ _ _ _ _ _).2.1);have f25:=qD HCE.out (n*29+25);have f27:=qD HCE.out (n*29+27);have f28:=qD HCE.out (n*29+28)))
    obtain⟨own2,css2,hp5⟩:=PG.else_ HP.out HE.out.2 (by rw[← HN.out];exact HROW.out.1) HROW.out.2.1 HCE.out
    rw[← HN.out] at hp5
    have HP5:=am hp5
    clear HP hp5 HCE HROW c25 c27 c28 f25 f27 f28
    go_roundg k1
    case measure=>omega
    case rel=>exact⟨css2,at_+1,d,false,ds,own2,_,HP5,⟨by have:=HK.out;omega⟩,⟨.inr ⟨rfl,mDj,HA.out⟩⟩⟩
  ·-- an instruction
   have HQP:∀(x:_) (a:Act) (w':World) (n:Option Nat) (v:Value),‹Exit→Act→World→Prop› (Exit.panic x) (a.put n v) w'→‹Exit→Act→World→Prop› (Exit.panic x) a w':=fun _ _ _ n _ h=>by cases n <;> exact h
   have e11:(rd b at_==11)=false:=by rw[beq_eq_false_iff_ne];exact h11
   have OP:=am (fun(W:World) (h9:PG w W gg gr (some ad) c b (.slice (some ⟨gs,0,none⟩) (os.length+1) cap) css at_ false d ds own (o::os) [])=>qFf K w W gr (some ad) c b at_ false h9.bel h9.rd N2.out.2 HC.out HCC.out hz HT.out (o1,im,a1,b1) hop)
   obtain⟨n,hn⟩:=ex_ (os.length)
   rw[← hn] at hcap hmx OP HROW HP ⊢
   have HN:=am hn
   have HL:=am (show css.length=n+1 by rw[hn];exact HCL.out)
   have HO2:=am (show n<1000000000 by rw[hn];exact hos)
   have HOL:=am hol
   have HA1:=am ha1
   have p0:wr.cell? ⟨gs,n*29,none⟩=some (.int .u16 o.x.op):=(zo HP.out.raw HROW.out.1).2.2 0 (.int .u16 o.x.op) (zz o.x HROW.out.2.1 _ _ _ _ _ _).2.2
   have p28:wr.cell? ⟨gs,n*29+28,none⟩=some (.bool o.e):=(zo HP.out.raw HROW.out.1).2.2 28 (.bool o.e) (zz o.x HROW.out.2.1 _ _ _ _ _ _).2.1
   have tri:(rd b at_==5)=false∨((rd b at_==5)=true∧(o.x.op==4)=false)∨((rd b at_==5)=true∧(o.x.op==4)=true∧o.e=true):=by
    by_cases k5:rd b at_=5
    ·by_cases k4:o.x.op=4
     ·exact .inr (.inr ⟨beq_iff_eq.2 k5,beq_iff_eq.2 k4,by cases he:o.e;exact absurd ⟨k5,k4,he⟩ hn5;rfl⟩)
     ·exact .inr (.inl ⟨beq_iff_eq.2 k5,beq_eq_false_iff_ne.2 k4⟩)
    ·exact .inl (beq_eq_false_iff_ne.2 k5)
   clear hn hop hos HCL HOS h11 hn5 ha1
   rcases hI with ⟨rfl,q1,q2,q3,a2,b2,hbk,hA⟩|⟨him,x,a2,b2,himm,hA⟩
   ·-- a block
    have HA:=am hA
    have BL:=am (fun(W:World) (hB:Below w.heap.size w W) (hg:W.heap[gr]? = some (oRd (some ad) c b a1 b1))=>qDT K w W gr (some ad) c b a1 b1 hB hg N2.out.2 HC.out HCC.out HA1.out (q1,q2,q3,a2,b2) hbk)
    have hd0:wr.cell? ⟨gg,2,none⟩=some (.int .i64 d):=(qA HP.out.got 2).trans rfl
    clear hA hbk hd0
    rcases tri with e5|⟨e5,e4⟩|⟨e5,e4,ee⟩
    all_goals
     try clear_value *
     as_aux_lemma =>
      try rw[ee] at p28
      go_wp2_with (first
       | (go_at_call 48;refine(OP.out _ (by first|exact HP.out|exact HP.out.drewN _)).mono ?_;rintro e w4 ⟨⟨r2,A3,n3,c3,A4,n4,c4,r6,r7,rfl⟩,hS⟩;have n0_:=am ((show PG w _ gg gr (some ad) c b (.slice (some ⟨gs,0,none⟩) (n+1) cap) css at_ false d ds own (o::os) [] by first|exact HP.out|exact HP.out.drewN _).call (Nat.ne_of_lt N2.out.1) hS.1 (.inl rfl) hS.2.1 hS.2.2.1);clear HP hS OP;have HP:=n0_;clear n0_)
       | ((with_reducible refine qE (N:=9) rfl ?_);refine qd rfl 79 rfl _ zh ?_;intro g9 hg9 w5 hb hbl;obtain⟨own1,hp1⟩:=HP.out.alloc hbl hg9 (qN hb);clear HP;have HP:=am hp1;have B9:=am hb;clear hp1 hg9 hb hbl)
       | ((with_reducible refine qF (t:=79) (p:=9) (v:=.tmp 111) rfl ?_);refine qV rfl 79 (.tmp 9) (.tmp 111) rfl g9 (jF o1 r2 1 (.slice A3 n3 c3) (.slice A4 n4 c4) r6 r7).toArray rfl rfl 79 _ B9.out zK rfl (xG _ _ _ _ _ _ _ _ _ _ _) ?_;intro w6 hb hoth hsz hbel;have n0_:=am (HP.out.store (List.mem_cons_self ..) hoth hsz hbel);clear HP B9;have HP:=n0_;have B9:=am hb;have c90:w6.cell? ⟨g9,0,none⟩=some (.int .u16 o1):=(qA hb 0).trans rfl;clear n0_ hb hoth hsz hbel)
       | ((with_reducible refine qE (N:=114) rfl ?_);refine jV rfl (.tmp 113) rfl o1 rfl ?_)
       | ((with_reducible refine qE (N:=10) rfl ?_);refine qd rfl 43 rfl _ jd ?_;intro g10 hg10 w7 hb hbl;obtain⟨own2,hp1⟩:=HP.out.alloc hbl hg10 (qN hb);have n1_:=am (qG B9.out hbl);have N10:Aside0 (g9≠g10):=⟨by have h1:=qN B9.out;have h3:w6.heap.size≤g10:=by {rw[hg10];exact Nat.le_refl _};omega⟩;clear HP B9;have HP:=am hp1;have B9:=n1_;have B10:=am hb;clear hp1 n1_ hg10 hb hbl)
       | ((with_reducible refine qF (t:=43) (p:=10) (v:=.tmp 114) rfl ?_);refine qV rfl 43 (.tmp 10) (.tmp 114) rfl g10 (qH (zop o1) (.slice none 0 0) (.slice none 0 0) (.slice none 0 0) (.slice none 0 0)).toArray rfl rfl 43 _ B10.out mD8 rfl (all_oneCell_toArray (kI.K_one (w:=w) (x:=zop o1) (yk w (zop o1) (Al:=none) (At:=none) (Ab:=none) (Ae:=none) (cl:=0) (ct:=0) (cb:=0) (ce:=0) rfl ⟨Nat.le_refl _,Kd.C_nil _ _⟩ ⟨Nat.le_refl _,Kd.C_nil _ _⟩ ⟨Nat.le_refl _,Kd.C_nil _ _⟩ ⟨Nat.le_refl _,Kd.C_nil _ _⟩))) ?_;intro w8 hb hoth hsz hbel;have n0_:=am (HP.out.store (List.mem_cons_self ..) hoth hsz hbel);have n1_:=am ((hoth _ N10.out).trans B9.out);clear HP B9 B10;have HP:=n0_;have B9:=n1_;have B10:=am hb;have c92:w8.cell? ⟨g9,2,none⟩=some (.int .u8 1):=(qA n1_.out 2).trans rfl;clear n0_ n1_ hb hoth hsz hbel)
       | (go_at_call 49;refine(BL.out _ HP.out.bel HP.out.rd).mono ?_;rintro e w9 ⟨rfl,hS⟩;have n0_:=am (HP.out.call (Nat.ne_of_lt N2.out.1) hS.1 (.inl rfl) hS.2.1 hS.2.2.1);have n1_:=am ((hS.2.1.2 g10 (qN B10.out) (HP.out.2.2.2.2.2 g10 (List.mem_cons_self ..)).2.2.1 mDp).trans B10.out);clear HP B10 hS BL;have HP:=n0_;have B10:=n1_;clear n0_ n1_)
       | ((with_reducible refine qF (t:=41) (p:=120) (v:=.tmp 119) rfl ?_);refine qCm rfl 41 (.tmp 120) (.tmp 119) rfl g10 22 [.int .u8 q1,.int .u8 q2,.int .u32 q3] rfl rfl 43 _ _ B10.out (show 22+3≤27 by decide) xB mCr (qBk (zop o1) rfl _ _ _ _ q1 q2 q3) ?_;intro w10 hb hoth hsz hbel;have n0_:=am (HP.out.store (List.mem_cons_self ..) hoth hsz hbel);have n1_:Aside0 (w10.heap[g10]? = some (.cells (qH (bkI o1 q1 q2 q3) (.slice none 0 0) (.slice none 0 0) (.slice none 0 0) (.slice none 0 0)).toArray 43 (0,0))):=⟨hb⟩;clear HP B10 hb hoth hsz hbel;have HP:=n0_;have B10:=n1_;clear n0_ n1_)
       | ((with_reducible refine qE (N:=122) rfl ?_);refine q7 rfl 43 (.tmp 10) rfl g10 0 27 (qH (bkI o1 q1 q2 q3) (.slice none 0 0) (.slice none 0 0) (.slice none 0 0) (.slice none 0 0)) (qH (bkI o1 q1 q2 q3) (.slice none 0 0) (.slice none 0 0) (.slice none 0 0) (.slice none 0 0)) _ rfl B10.out rfl rfl Tryd.underlying43 rfl zC ?_)
       | ((with_reducible refine qE (N:=123) rfl ?_);refine qDu rfl (.tmp 122) rfl o1 q1 q2 q3 rfl ?_)
       | ((with_reducible refine qE (N:=124) rfl ?_);refine qDx w.heap.size rfl (.tmp 123) rfl (qy (bkI o1 q1 q2 q3) (.slice none 0 0) (.slice none 0 0) (.slice none 0 0) (.slice none 0 0) (.slice none 0 0) false) rfl rfl (yw (o:=⟨(bkI o1 q1 q2 q3),[],false⟩) (W:=w) (base:=0) (ok:=fun _=>True) (ok':=fun _=>True) rfl (Kd.R_nil _ _ _ _ _) (Kd.R_nil _ _ _ _ _)) HP.out.bel.size ?_;intro A24 w11 hl24 hbl;have n0_:=am (HP.out.below hbl);have HL24:=am hl24;clear HP B10 hl24 hbl;have HP:=n0_;clear n0_)
       | ((with_reducible refine qZ (b:=.append) (xs:=#[.tmp 121,.tmp 124]) rfl ?_);at_builtin;refine Kd.R_append_rows y8 (w0:=w) w.heap.size rfl (.tmp 121) (.tmp 124) 90 89 (.agg (qy zI (.slice none 0 0) (.slice none 0 0) (.slice none 0 0) (.slice none 0 0) (.slice none 0 0) false).toArray) 176 rfl Tryd.underlying90 qHR rfl (show 0<29 by decide) mDl (.slice (some ⟨gs,0,none⟩) (n+1) cap) css [qy (bkI o1 q1 q2 q3) (.slice none 0 0) (.slice none 0 0) (.slice none 0 0) (.slice none 0 0) (.slice none 0 0) false] A24 1 1 (fun _=>True) (fun _=>False) rfl rfl HP.out.raw (Kd.R_reads' HL24.out).2.2 (fun _ _ h=>h) (fun _ hk=>hk.elim) (fun _ _=>trivial) HP.out.bel HP.out.bel.size ?aL ?_;(case aL=>have:=HL.out;have:=HO2.out;omega);intro v25 w12 ho hb hg hat;have n0_:=am (HP.out.push rfl rfl rfl rfl rfl ho hb hg);obtain⟨g25,c25,cells25,rfl,_,_,_,hm25⟩:=qDD ho mDp;have hl25:(css ++ [qy (bkI o1 q1 q2 q3) (.slice none 0 0) (.slice none 0 0) (.slice none 0 0) (.slice none 0 0) (.slice none 0 0) false]).length=n+2:=(by rw[List.length_append,HL.out];rfl);rw[hl25] at n0_ hm25 ⊢;clear HP HL24 ho hb hg hat hl25;have HP:=n0_;clear n0_;have hd2:w12.cell? ⟨gg,2,none⟩=some (.int .i64 d):=(qA HP.out.got 2).trans rfl)
       | ((with_reducible refine qF (t:=3) (p:=132) (v:=.tmp 131) rfl ?_);refine qT rfl 3 (.tmp 132) (.tmp 131) rfl gg 2 (.int .i64 (max d ((n:Int)+1))) rfl (by go_simp;rw[show(n:Int)+2 - 1=(n:Int)+1 by omega]) 65 #[.slice none 0 0,.int .i64 0,.int .i64 d,.bool ds] #[.slice none 0 0,.int .i64 0,.int .i64 (max d ((n:Int)+1)),.bool ds] HP.out.got (show 2<4 by decide) qAa rfl rfl ?_;intro w13 hb hoth hsz hbel;have n0_:=am (HP.out.gotten (Nat.ne_of_lt N2.out.1) hb hoth hsz (hbel _ _ N1.out HP.out.bel));clear HP hb hoth hsz hbel;have HP:=n0_;clear n0_))
      go_roundg k1
      case measure=>omega
      case rel =>
       refine⟨_,a2,max d ((n:Int)+1),b2,ds,_,_,HP,⟨by have:=HK.out;omega⟩,⟨?_⟩⟩
       rw[HN.out]
       exact HA.out
   ·-- none
    have HA:=am hA
    have IM:=am (fun(W:World) (gx:Nat) (hB:Below w.heap.size w W) (hg:W.heap[gr]? = some (oRd (some ad) c b a1 b1)) (hx:W.heap[gx]? = some (oX (zop o1) (.slice none 0 0) (.slice none 0 0))) (hw:w.heap.size≤gx) (hne:gr≠gx)=>qEs K kl w W gr gx (some ad) c b a1 b1 o1 im hB hg N2.out.2 HC.out HCC.out HA1.out hx hw hne (x,a2,b2) himm him)
    have HSH:=am (qEg himm)
    have e1_:(im==1)=false:=beq_eq_false_iff_ne.2 him
    clear hA himm him
    rcases tri with e5|⟨e5,e4⟩|⟨e5,e4,ee⟩
    all_goals
     try clear_value *
     as_aux_lemma =>
      try rw[ee] at p28
      go_wp2_with (first
       | (go_at_call 48;refine(OP.out _ (by first|exact HP.out|exact HP.out.drewN _)).mono ?_;rintro e w4 ⟨⟨r2,A3,n3,c3,A4,n4,c4,r6,r7,rfl⟩,hS⟩;have n0_:=am ((show PG w _ gg gr (some ad) c b (.slice (some ⟨gs,0,none⟩) (n+1) cap) css at_ false d ds own (o::os) [] by first|exact HP.out|exact HP.out.drewN _).call (Nat.ne_of_lt N2.out.1) hS.1 (.inl rfl) hS.2.1 hS.2.2.1);clear HP hS OP;have HP:=n0_;clear n0_)
       | ((with_reducible refine qE (N:=9) rfl ?_);refine qd rfl 79 rfl _ zh ?_;intro g9 hg9 w5 hb hbl;obtain⟨own1,hp1⟩:=HP.out.alloc hbl hg9 (qN hb);clear HP;have HP:=am hp1;have B9:=am hb;clear hp1 hg9 hb hbl)
       | ((with_reducible refine qF (t:=79) (p:=9) (v:=.tmp 111) rfl ?_);refine qV rfl 79 (.tmp 9) (.tmp 111) rfl g9 (jF o1 r2 im (.slice A3 n3 c3) (.slice A4 n4 c4) r6 r7).toArray rfl rfl 79 _ B9.out zK rfl (xG _ _ _ _ _ _ _ _ _ _ _) ?_;intro w6 hb hoth hsz hbel;have n0_:=am (HP.out.store (List.mem_cons_self ..) hoth hsz hbel);clear HP B9;have HP:=n0_;have B9:=am hb;have c90:w6.cell? ⟨g9,0,none⟩=some (.int .u16 o1):=(qA hb 0).trans rfl;clear n0_ hb hoth hsz hbel)
       | ((with_reducible refine qE (N:=114) rfl ?_);refine jV rfl (.tmp 113) rfl o1 rfl ?_)
       | ((with_reducible refine qE (N:=10) rfl ?_);refine qd rfl 43 rfl _ jd ?_;intro g10 hg10 w7 hb hbl;obtain⟨own2,hp1⟩:=HP.out.alloc hbl hg10 (qN hb);have n1_:=am (qG B9.out hbl);have N10:Aside0 (g9≠g10):=⟨by have h1:=qN B9.out;have h3:w6.heap.size≤g10:=by {rw[hg10];exact Nat.le_refl _};omega⟩;clear HP B9;have HP:=am hp1;have B9:=n1_;have B10:=am hb;clear hp1 n1_ hg10 hb hbl)
       | ((with_reducible refine qF (t:=43) (p:=10) (v:=.tmp 114) rfl ?_);refine qV rfl 43 (.tmp 10) (.tmp 114) rfl g10 (qH (zop o1) (.slice none 0 0) (.slice none 0 0) (.slice none 0 0) (.slice none 0 0)).toArray rfl rfl 43 _ B10.out mD8 rfl (all_oneCell_toArray (kI.K_one (w:=w) (x:=zop o1) (yk w (zop o1) (Al:=none) (At:=none) (Ab:=none) (Ae:=none) (cl:=0) (ct:=0) (cb:=0) (ce:=0) rfl ⟨Nat.le_refl _,Kd.C_nil _ _⟩ ⟨Nat.le_refl _,Kd.C_nil _ _⟩ ⟨Nat.le_refl _,Kd.C_nil _ _⟩ ⟨Nat.le_refl _,Kd.C_nil _ _⟩))) ?_;intro w8 hb hoth hsz hbel;have n0_:=am (HP.out.store (List.mem_cons_self ..) hoth hsz hbel);have n1_:=am ((hoth _ N10.out).trans B9.out);clear HP B9 B10;have HP:=n0_;have B9:=n1_;have B10:=am hb;have c92:w8.cell? ⟨g9,2,none⟩=some (.int .u8 im):=(qA n1_.out 2).trans rfl;clear n0_ n1_ hb hoth hsz hbel)
       | (go_at_call 50;obtain⟨own3,hp3,hS3,hL3⟩:=HP.out.mark2;refine(IM.out _ g10 hp3.bel hp3.rd B10.out (hp3.2.2.2.2.2 g10 (List.mem_cons_self ..)).2.2.2.2.1 (Ne.symm (hp3.2.2.2.2.2 g10 (List.mem_cons_self ..)).2.2.1)).mono ?_;rintro e w9 ⟨vl,vt,rfl,hK,hvl,hvt⟩;have n0_:=am (hp3.call (Nat.ne_of_lt N2.out.1) hK.1 (.inr ⟨g10,rfl,List.mem_cons_self ..⟩) hK.2.2.1 hK.bel);have n1_:=am ((hK.2.2.1.2 g9 (qN B9.out) (hp3.2.2.2.2.2 g9 (List.mem_cons_of_mem _ (List.mem_cons_self ..))).2.2.1 (fun e=>N10.out (Option.some.inj e))).trans B9.out);have HS3:=am (And.intro hS3 hL3);have HGZ:=am (qN hp3.got);have HVL:=am (And.intro hvl hvt);have n2_:Aside0 (w9.heap[g10]? = some (.cells (qH x vl vt (.slice none 0 0) (.slice none 0 0)).toArray 43 (0,0))):=⟨hK.2.1⟩;clear HP B9 B10 hp3 hS3 hL3 hK hvl hvt;have HP:=n0_;have B9:=n1_;have B10:=n2_;have c92:w9.cell? ⟨g9,2,none⟩=some (.int .u8 im):=(qA B9.out 2).trans rfl;have cg3:w9.cell? ⟨gg,3,none⟩=some (.bool ds):=(qA HP.out.got 3).trans rfl;clear n0_ n1_ n2_)
       | ((with_reducible refine qF (t:=4) (p:=149) (v:=.tmp 148) rfl ?_);refine qT rfl 4 (.tmp 149) (.tmp 148) rfl gg 3 (.bool (ds || (im==12 || im==13))) rfl (by first|rfl|(go_simp;done)|(go_simp;simp[*];done)|(simp[*];done)) 65 #[.slice none 0 0,.int .i64 0,.int .i64 d,.bool ds] #[.slice none 0 0,.int .i64 0,.int .i64 d,.bool (ds || (im==12 || im==13))] HP.out.got (show 3<4 by decide) z7 rfl rfl ?_;intro w10 hb hoth hsz hbel;have n0_:=am (HP.out.gotten (Nat.ne_of_lt N2.out.1) hb hoth hsz (hbel _ _ N1.out HP.out.bel));have n1_:=am ((hoth _ (HP.out.2.2.2.2.2 g10 (List.mem_cons_self ..)).2.1).trans B10.out);have n2_:=am (And.intro (Kd.R_move HVL.out.1 (fun k hk=>hoth k (Nat.ne_of_gt (Nat.lt_of_lt_of_le HGZ.out hk)))) (Kd.R_move HVL.out.2 (fun k hk=>hoth k (Nat.ne_of_gt (Nat.lt_of_lt_of_le HGZ.out hk)))));clear HP B9 B10 HVL hb hoth hsz hbel;have HP:=n0_;have B10:=n1_;have HVL:=n2_;clear n0_ n1_ n2_))
      all_goals
       try clear_value *
       as_aux_lemma =>
        obtain⟨dsx,hdsx⟩:∃ z,z=(ds || (im==12 || im==13)):=⟨_,rfl⟩
        rw[← hdsx] at HP HA
        obtain⟨cs0,vbp,vp,hcx,hcss,hlen,q16,ql,qt,qe⟩:=HP.out.toX2 HSH.out.1 HSH.out.2.1 HSH.out.2.2.1 HS3.out.1 HS3.out.2 HVL.out.1 HVL.out.2
        obtain⟨AP,cP,hvp⟩:=qIF hcx.rp
        subst hvp
        have hin:css[n]? = some (qy o.x (.slice none 0 0) (.slice none 0 0) vbp (.slice none 0 0) (.slice AP o.l.length cP) o.e):=by rw[hcss,List.getElem?_append_right (by rw[hlen,← HN.out];exact Nat.le_refl _),hlen,← HN.out,Nat.sub_self];rfl
        have C27:=am (fun(W1:World) (own':Nat→Nat) (loc':List Nat) (h1:CX w W1 gg gr gs (some ad) c b a2 b2 d dsx (n+1) cap css own' o os cs0 x vl vt vbp (.slice AP o.l.length cP) o.l loc')=>(zo h1.raw hin).2.2 27 (.slice AP o.l.length cP) (zz o.x q16 _ _ _ _ _ _).1)
        have HI:=am hin
        have HQ:=am (And.intro q16 (And.intro ql (And.intro qt (And.intro qe (And.intro hcss (show cs0.length=n by rw[hlen,HN.out]))))))
        have HX:=am (hcx.below (qP (Below.refl _ _)))
        have n1_:=am (za B10.out)
        clear HP B10 HVL HS3 hcx hin hcss hlen q16 ql qt qe hdsx c92 cg3
        have B10:=n1_
        clear n1_
        refine jQ (n:=4) (S:=fun w'=>True) (ds:=[]) #[false,false,false,false] mDh rfl rfl trivial (fun hHeld=>?_);refine zQ zA.tab22 zA.bits22 (fun HT_ HW_=>?_)
        refine jC (i:=0) (N:=some 150) #[true,false,false,false] rfl rfl (qq HT_.out mDh) mDl (fun K hK=>?_)
        refine jJ mD2 4 rfl _ qI3 ?_
        intro gb hgb w11 hb hbl
        obtain⟨own4,hx4⟩:=HX.out.alloc hbl hgb (qN hb)
        have n1_:=am (qG B10.out hbl)
        have NB:Aside0 (g10<gb):=⟨by rw[hgb];exact qN B10.out⟩
        clear HX B10
        have HX:=am hx4
        have B10:=n1_
        have FB:=am hb
        clear hx4 n1_ hgb hb hbl
        refine hK.out _ _ trivial (fun hHeld=>?_)
        clear hK K
        refine zJ (a':=?_) ?_ ?_
        rotate_left
        ·show Act.put _ (some 150) _=_
         exact mAe
        refine qGg (σ:=Unit) 1 #[true,true,true,false] (fun _=>[]) (fun _ w'=>∃ bb,w'.heap[gb]? = some (.cells #[.bool bb] 4 (0,0))∧(CX w w' gg gr gs (some ad) c b a2 b2 d dsx (n+1) cap css own4 o os cs0 x vl vt vbp (.slice AP o.l.length cP) o.l [gb,g10,g9])∧w'.heap[g10]? = some (.cells (qH x vl vt (.slice none 0 0) (.slice none 0 0)).toArray 43 (0,0))) ?_ ?_
        rotate_left
        ·intro hCont
         refine qHQ (i:=1) (j:=2) (Ni:=none) (Nj:=none) #[true,true,false,false] #[true,false,true,false] rfl rfl rfl rfl (qBR HT_.out mDh) mDl mDl (fun K hK=>?_) (fun K hK=>?_)
         ·refine zB mD2 4 (.tmp 150) (.const (.bool true)) rfl gb 0 (.bool true) rfl rfl 4 #[.bool false] #[.bool true] FB.out (show 0<1 by decide) z7 rfl rfl ?_
          intro wk hb hoth hsz hbel
          have n0_:=am (HX.out.store (List.mem_cons_self ..) hoth hsz hbel)
          have n1_:=am ((hoth _ (Nat.ne_of_lt NB.out)).trans B10.out)
          clear HX B10 FB
          have HX:=n0_
          have B10:=n1_
          have FB:=am hb
          clear n0_ n1_ hb hoth hsz hbel
          refine hK.out _ _ trivial (fun hHeld=>?_)
          clear hK K
          refine jC (i:=2) (N:=none) #[true,true,true,false] rfl rfl (qq HT_.out mDh) mDl (fun K hK=>?_)
          refine zB mD2 4 (.tmp 150) (.const (.bool false)) rfl gb 0 (.bool false) rfl rfl 4 #[.bool true] #[.bool false] FB.out (show 0<1 by decide) z7 rfl rfl ?_
          intro wk hb hoth hsz hbel
          exact mBe
         ·refine zB mD2 4 (.tmp 150) (.const (.bool false)) rfl gb 0 (.bool false) rfl rfl 4 #[.bool false] #[.bool false] FB.out (show 0<1 by decide) z7 rfl rfl ?_
          intro wk hb hoth hsz hbel
          have n0_:=am (HX.out.store (List.mem_cons_self ..) hoth hsz hbel)
          have n1_:=am ((hoth _ (Nat.ne_of_lt NB.out)).trans B10.out)
          clear HX B10 FB
          have HX:=n0_
          have B10:=n1_
          have FB:=am hb
          clear n0_ n1_ hb hoth hsz hbel
          refine hK.out _ _ trivial (fun hHeld=>?_)
          clear hK K
          refine jC (i:=1) (N:=none) #[true,true,true,false] rfl rfl (qq HT_.out mDh) mDl (fun K hK=>?_)
          refine zB mD2 4 (.tmp 150) (.const (.bool true)) rfl gb 0 (.bool true) rfl rfl 4 #[.bool false] #[.bool true] FB.out (show 0<1 by decide) z7 rfl rfl ?_
          intro wk hb hoth hsz hbel
          exact mBe
        rintro _ w12 ⟨bb,h1,h2,h3⟩
        refine zJ (a':=?_) ?_ ?_
        rotate_left
        ·exact mB0
        clear HX B10 FB
        have FB:=am h1
        have HX:=am h2
        have B10:=am h3
        have c0:w12.cell? ⟨gb,0,none⟩=some (.bool bb):=(qA h1 0).trans rfl
        clear h1 h2 h3
        refine jC (i:=3) (N:=some 151) #[true,true,true,true] rfl rfl (qq HT_.out mDh) mDl (fun K hK=>?_)
        refine qEi (w1:=?_) (v:=?_) mD2 rfl ?_ ?_
        rotate_left 2
        ·go_simp
         constructor
         ·rfl
         ·rfl
        refine hK.out _ _ trivial (fun hHeld=>?_)
        clear hK K
        refine zJ (a':=?_) ?_ ?_
        rotate_left
        ·show Act.put _ (some 151) _=_
         exact mAe
        refine xI (zu HT_.out mDh) ?_
        cases bb
        ·go_wp2
         have n0_:=am (HX.out.below (qP (Below.refl _ _)))
         have n1_:=am (za B10.out)
         clear HX B10 FB
         have HX:=n0_
         have B10:=n1_
         clear n0_ n1_
         refine jQ (n:=11) (S:=fun w'=>w'.cell? ⟨gs,n*29+27,none⟩=some (.slice AP o.l.length cP)∧w'.heap[g10]? = some (.cells (qH x vl vt (.slice none 0 0) (.slice none 0 0)).toArray 43 (0,0))) (ds:=[7,10]) #[false,false,false,false,false,false,false,false,false,false,false] mDh rfl rfl ⟨C27.out _ _ _ HX.out,B10.out⟩ (fun hHeld=>?_);refine zQ zA.tab25 zA.bits25 (fun HT_ HW_=>?_)
         generalize w12.drew=w13 at HX B10 hHeld ⊢
         refine qY (i:=0) (N:=some 163) (v:=?_) (a':=?_) #[true,false,false,false,false,false,false,false,false,false,false] rfl rfl (qS HT_.out mDh) (fun _ _ _ h=>HQP _ _ _ _ _ h) (Or.inl ⟨mD2,?_⟩) ?_ ?_
         rotate_left
         ·intro w'
          go_simp
          with_reducible rfl
         rotate_left
         ·exact mAe
         refine qY (i:=1) (N:=some 164) (v:=?_) (a':=?_) #[true,true,false,false,false,false,false,false,false,false,false] rfl rfl (qS HT_.out mDh) (fun _ _ _ h=>HQP _ _ _ _ _ h) (Or.inl ⟨mD2,?_⟩) ?_ ?_
         rotate_left
         ·intro w'
          go_simp
          with_reducible rfl
         rotate_left
         ·exact mAe
         refine qY (i:=2) (N:=some 165) (v:=?_) (a':=?_) #[true,true,true,false,false,false,false,false,false,false,false] rfl rfl (qS HT_.out mDh) (fun _ _ _ h=>HQP _ _ _ _ _ h) (Or.inl ⟨mD2,?_⟩) ?_ ?_
         rotate_left
         ·intro w'
          go_simp
          with_reducible rfl
         rotate_left
         ·exact mAe
         refine qY (i:=3) (N:=some 166) (v:=?_) (a':=?_) #[true,true,true,true,false,false,false,false,false,false,false] rfl rfl (qS HT_.out mDh) (fun _ _ _ h=>HQP _ _ _ _ _ h) (Or.inl ⟨mD2,?_⟩) ?_ ?_
         rotate_left
         ·intro w'
          go_simp
          with_reducible rfl
         rotate_left
         ·exact mAe
         refine take_ (i:=4) (N:=some 167) (v:=?_) (a':=?_) #[true,true,true,true,true,false,false,false,false,false,false] rfl rfl (qm HT_.out HW_.out mDh) (fun _ _ _ h=>HQP _ _ _ _ _ h) (Or.inl ⟨mD2,?_⟩) hHeld ?_ ?_
         rotate_left
         ·intro w' s0
          have c0:w'.cell? ⟨gs,n*29+27,none⟩=some (.slice AP o.l.length cP):=s0.1
          go_simp
          with_reducible rfl
         rotate_left
         ·exact mAe
         refine take_ (i:=5) (N:=some 168) (v:=.agg (qH x vl vt (.slice none 0 0) (.slice none 0 0)).toArray) (a':=?_) #[true,true,true,true,true,true,false,false,false,false,false] rfl rfl (qm HT_.out HW_.out mDh) (fun _ _ _ h=>HQP _ _ _ _ _ h) (yieldsIf_load_mid mD2 43 _ rfl g10 0 rfl (qH x vl vt (.slice none 0 0) (.slice none 0 0)) _ (fun W hW=>jw (n:=27) hW.2 (qBl _ HSH.out.1 _ _ _ _) (qL _ HSH.out.1 _ _ _ _)) Tryd.underlying43 rfl (by rw[qL _ HSH.out.1];exact zC)) hHeld ?_ ?_
         rotate_left
         ·exact mAe
         refine jC (i:=6) (N:=some 169) #[true,true,true,true,true,true,true,false,false,false,false] rfl rfl (qq HT_.out mDh) mDl (fun K hK=>?_)
         obtain⟨own5,hC2,hF2⟩:=HX.out.fresh
         have hne:some w13.heap.size≠(Value.slice AP o.l.length cP).ownBlock:=fun e=>Nat.lt_irrefl _ (Kd.R_lt hC2.rp _ e.symm)
         refine qEi mD2 rfl (qBx (.tmp 168) rfl (qH x vl vt (.slice none 0 0) (.slice none 0 0)) (qL _ HSH.out.1 _ _ _ _) rfl) ?_
         have ho:=qGH (W:=w13) (ok:=(fun k=>(own5 k=2*os.length+1∨own5 k=2*os.length+2)∧some k≠(Value.slice AP o.l.length cP).ownBlock)) w.heap.size (kI.M_mono (fun k hk=>⟨.inr hk,fun e=>by have h8:=hC2.hp k e.symm;have h9:own5 k=2*os.length+2:=hk;omega⟩) hC2.xm) (qL _ HSH.out.1 _ _ _ _) ⟨.inl (hF2 _ (Nat.le_refl _)),hne⟩ hC2.bel.size
         have hb:=qh (Below.refl w13.heap.size w13) (.cells (qH x vl vt (.slice none 0 0) (.slice none 0 0)).toArray 43 (0,0))
         have n0_:=am (hC2.below hb)
         have n1_:=am (qG B10.out hb)
         have HFR:=am (fun(k:Nat) (hk:(w13.alloc (.cells (qH x vl vt (.slice none 0 0) (.slice none 0 0)).toArray 43 (0,0))).heap.size≤k)=>hF2 k (Nat.le_trans hb.size hk))
         have HO69:=am ho
         clear HX B10 ho hb hC2 hF2 hne
         have HX:=n0_
         have B10:=n1_
         clear n0_ n1_
         generalize (w13.alloc (.cells (qH x vl vt (.slice none 0 0) (.slice none 0 0)).toArray 43 (0,0)))=w14 at HX B10 HO69 HFR ⊢
         generalize (some ⟨w13.heap.size,0,none⟩:Option Addr)=A69 at HO69 ⊢
         refine hK.out _ _ ⟨C27.out _ _ _ HX.out,B10.out⟩ (fun hHeld=>?_)
         clear hK K
         refine zJ (a':=?_) ?_ ?_
         rotate_left
         ·show Act.put _ (some 169) _=_
          exact mAe
         refine qAN (i:=7) (N:=some 170) #[true,true,true,true,true,true,true,true,false,false,false] rfl rfl (qq HT_.out mDh) mDl (fun K hK=>?_)
         refine Kd.R_append_rows_step kI (w0:=w) w.heap.size mD2 (.tmp 167) (.tmp 169) 22 43 (.agg (qH zI (.slice none 0 0) (.slice none 0 0) (.slice none 0 0) (.slice none 0 0)).toArray) 144 rfl Tryd.underlying22 qCX rfl (show 0<27 by decide) mDl (.slice AP o.l.length cP) o.l [x] A69 1 1 (fun k=>own5 k=2*os.length+1∨own5 k=2*os.length+2∨own5 k=2*os.length+3) (fun k=>(own5 k=2*os.length+1∨own5 k=2*os.length+2)∧some k≠(Value.slice AP o.l.length cP).ownBlock) rfl rfl HX.out.rp (qIO HO69.out) (fun _ _ h=>h) (fun k hk=>⟨by rcases hk.1 with h|h;exact .inl h;exact .inr (.inl h),hk.2⟩) (fun k hk=>.inl (HFR.out k hk)) HX.out.bel HX.out.bel.size (by have:=HOL.out;show(o.l.length+1)*144≤_;omega) ?_
         intro v70 w15 ho hb hg hat
         have n0_:=am (HX.out.grow HFR.out ho hb hg hat)
         obtain⟨gv,cv,hvv,_,_,_⟩:=Kd.R_form ho mDp
         rw[List.length_append,List.length_singleton] at hvv
         subst hvv
         clear HX HO69 HFR B10 ho hb hg hat
         have HX:=n0_
         clear n0_
         refine hK.out _ _ ?_
         clear hK K
         refine zJ (a':=?_) ?_ ?_
         rotate_left
         ·show Act.put _ (some 170) _=_
          exact mAe
         refine qY (i:=8) (N:=some 171) (v:=?_) (a':=?_) #[true,true,true,true,true,true,true,true,true,false,false] rfl rfl (qS HT_.out mDh) (fun _ _ _ h=>HQP _ _ _ _ _ h) (Or.inl ⟨mD2,?_⟩) ?_ ?_
         rotate_left
         ·intro w'
          go_simp
          with_reducible rfl
         rotate_left
         ·exact mAe
         refine qY (i:=9) (N:=some 172) (v:=?_) (a':=?_) #[true,true,true,true,true,true,true,true,true,true,false] rfl rfl (qS HT_.out mDh) (fun _ _ _ h=>HQP _ _ _ _ _ h) (Or.inl ⟨mD2,?_⟩) ?_ ?_
         rotate_left
         ·intro w'
          go_simp
          with_reducible rfl
         rotate_left
         ·exact mAe
         refine qAN (i:=10) (N:=none) #[true,true,true,true,true,true,true,true,true,true,true] rfl rfl (qq HT_.out mDh) mDl (fun K hK=>?_)
         obtain⟨cells2,hcl2⟩:=HX.out.gsb
         refine zB mD2 22 (.tmp 172) (.tmp 170) rfl gs (n*29+27) (.slice (some ⟨gv,0,none⟩) (o.l.length+1) cv) rfl rfl 89 cells2 _ hcl2 (qC2 HX.out.raw HI.out mDl hcl2) yJ rfl rfl ?_
         intro w16 hb hoth hsz hbel
         have n0_:=am (HX.out.top HI.out (show 27<29 by decide) rfl hcl2 hb hoth hsz hbel)
         clear HX hcl2 hb hoth hsz hbel
         have HX:=n0_
         clear n0_
         refine hK.out _ _ ?_
         clear hK K
         refine xI (zu HT_.out mDh) ?_
         try go_wp2
         exact mBi
        ·clear c0
         have hcx5:=HX.out.fresh
         obtain⟨own5,hC5,hF5⟩:=hcx5
         have c27:w12.cell? ⟨gs,n*29+27,none⟩=some (.slice AP o.l.length cP):=C27.out _ _ _ HX.out
         have hq:(o.l.length:Int)<(o.l.length:Int)+1:=mDj
         have hol2:o.l.length<1000000000:=HOL.out
         clear HX
         have HX:=am hC5
         have HF5:=am hF5
         clear hC5 hF5
         go_wp2_with (first
          | ((with_reducible refine qE (N:=157) rfl ?_);refine qCG (w0:=w) w.heap.size rfl _ rfl (qH zI (.slice none 0 0) (.slice none 0 0) (.slice none 0 0) (.slice none 0 0)) rfl rfl zI (fun k=>own5 k=2*os.length+1∧some k≠(Value.slice AP o.l.length cP).ownBlock) (qBa _ _ _ zI rfl (Kd.R_nil _ _ _ _ _) (Kd.R_nil _ _ _ _ _) (Kd.R_nil _ _ _ _ _) (Kd.R_nil _ _ _ _ _)) ⟨HF5.out _ (Nat.le_refl _),fun e=>Nat.lt_irrefl _ (Kd.R_lt HX.out.rp _ e.symm)⟩ HX.out.bel HX.out.bel.size ?_;intro v57 w13 ho hB hb;obtain⟨A57,c57,rfl⟩:=Kd.R_slice ho;have HO57:=am ho;have n0_:=am (HX.out.below hb);have n1_:=am (qG B10.out hb);have n2_:=am (fun(k:Nat) (hk:w13.heap.size≤k)=>HF5.out k (Nat.le_trans hb.size hk));clear HX B10 FB HF5 ho hB hb;have HX:=n0_;have B10:=n1_;have HFR:=n2_;clear n0_ n1_ n2_)
          | ((with_reducible refine qZ (b:=.append) (xs:=#[.tmp 155,.tmp 157]) rfl ?_);at_builtin;refine Kd.R_append_rows kI (w0:=w) w.heap.size rfl (.tmp 155) (.tmp 157) 22 43 (.agg (qH zI (.slice none 0 0) (.slice none 0 0) (.slice none 0 0) (.slice none 0 0)).toArray) 144 rfl Tryd.underlying22 qCX rfl (show 0<27 by decide) mDl (.slice AP o.l.length cP) o.l [zI] A57 1 c57 (fun k=>own5 k=2*os.length+1∨own5 k=2*os.length+2∨own5 k=2*os.length+3) (fun k=>own5 k=2*os.length+1∧some k≠(Value.slice AP o.l.length cP).ownBlock) rfl rfl HX.out.rp (qIO HO57.out) (fun _ _ h=>h) (fun k hk=>⟨.inl hk.1,hk.2⟩) (fun k hk=>.inl (HFR.out k hk)) HX.out.bel HX.out.bel.size ?aM ?_;(case aM=>have:=HOL.out;show(o.l.length+1)*144≤_;omega);intro v58 w14 ho hb hg hat;have n1_:=am ((hg.block g10 (qN B10.out) (fun e=>by have h7:=HX.out.hp g10 e.symm;have h8:=(HX.out.loc g10 (List.mem_cons_of_mem _ (List.mem_cons_self ..))).1;omega)).trans B10.out);have n0_:=am (HX.out.grow HFR.out ho hb hg hat);obtain⟨gv,cv,hvv,_,_,_⟩:=Kd.R_form ho mDp;rw[List.length_append,List.length_singleton] at hvv;subst hvv;clear HX B10 HO57 HFR ho hb hg hat;have HX:=n0_;have B10:=n1_;clear n0_ n1_)
          | ((with_reducible refine qF (t:=22) (p:=160) (v:=.tmp 158) rfl ?_);obtain⟨cells2,hcl2⟩:=HX.out.gsb;refine qT rfl 22 (.tmp 160) (.tmp 158) rfl gs (n*29+27) (.slice (some ⟨gv,0,none⟩) (o.l.length+1) cv) rfl rfl 89 cells2 _ hcl2 (qC2 HX.out.raw HI.out mDl hcl2) yJ rfl rfl ?_;intro w15 hb hoth hsz hbel;have n0_:=am (HX.out.top HI.out (show 27<29 by decide) rfl hcl2 hb hoth hsz hbel);have n1_:=am ((hoth g10 (HX.out.loc g10 (List.mem_cons_of_mem _ (List.mem_cons_self ..))).2.2.2.1).trans B10.out);clear HX B10 hcl2 hb hoth hsz hbel;have HX:=n0_;have B10:=n1_;clear n0_ n1_)
          | ((with_reducible refine qE (N:=161) rfl ?_);refine q7 rfl 43 (.tmp 10) rfl g10 0 27 (qH x vl vt (.slice none 0 0) (.slice none 0 0)) (qH x vl vt (.slice none 0 0) (.slice none 0 0)) _ rfl B10.out (qBl _ HSH.out.1 _ _ _ _) (qL _ HSH.out.1 _ _ _ _) Tryd.underlying43 rfl zC ?_)
          | ((with_reducible refine qF (t:=43) (p:=162) (v:=.tmp 161) rfl ?_);have hp2:=HX.out.put HSH.out.1;refine wpList_store_mid rfl 43 (.tmp 162) (.tmp 161) rfl gv (o.l.length*27) (qH x vl vt (.slice none 0 0) (.slice none 0 0)).toArray rfl rfl hp2.1 (by rw[List.size_toArray,qL _ HSH.out.1];exact zC) (all_oneCell_toArray (kI.K_one (kI.K_of_M HX.out.xm))) ?_;have n0_:=am hp2.2;clear HX hp2;have HX:=n0_;clear n0_))
         exact mBi
end Go.Proofs.YtobldeamemmokaaDoor.P
