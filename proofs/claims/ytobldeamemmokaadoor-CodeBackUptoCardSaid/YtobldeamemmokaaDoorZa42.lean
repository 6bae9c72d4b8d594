import Derived.Test.YtobldeamemmokaaDoorZa31
import Derived.Test.YtobldeamemmokaaDoorZa41
import Derived.Deep.Slices
import Derived.OpenShut
set_option linter.unusedVariables false
set_option linter.unusedSimpArgs false
set_option maxHeartbeats 64000000
namespace Go.Proofs.YtobldeamemmokaaDoor.P
open Go.RowKit Go.Proofs.YtobldeamemmokaaDoorW.PrintWords Go.Proofs.YtobldeamemmokaaDoorW.PrintLast Go.Proofs.YtobldeamemmokaaDoorW.PrintMore
theorem qAm (A:Option Addr)(n c:Nat)(w:World)(hn:n≤9223372036854775807):Calls Tryd.prog 18 #[.slice A n c] w fun e w'=>e = .returned (.bool (decide (20000<(n:Int))))∧Below w.heap.size w w':=by
 have HB:=am (Below.refl w.heap.size w)
 go_enter Tryd.func18,Tryd.ntmps18
 go_wp2
 go_ret
 exact mA5
theorem qDb (A:Option Addr)(c:Nat)(b:List Int)(w:World)(hc:b.length≤c)(hC:(Kd.int .u8).C w A b.length b)(hs:b.length≤1000000000):Calls Tryd.prog 13 #[.slice A b.length c] w fun e w'=>∃ v,e = .returned v∧(Kd.int .u8).R 5 w' w.heap.size (fun _=>True) v b∧Below w.heap.size w w':=by
 have HB:=am (Below.refl w.heap.size w)
 have HC:=am hC
 have HL:=am hs
 have HCC:=am hc
 have HV:=am (Kd.R_nil (Kd.int .u8) 5 w w.heap.size (fun _=>True))
 clear hC hs hc
 go_enter Tryd.func13,Tryd.ntmps13
 go_wp2_with (first
  | ((with_reducible refine qZ (b:=.append) (xs:=#[.tmp 4,.tmp 5]) rfl ?_);at_builtin;refine Kd.R_append_rows (Kd.int .u8) (w0:=w) w.heap.size rfl (.tmp 4) (.tmp 5) 24 5 (.int .u8 0) 1 rfl Tryd.underlying24 jM rfl mDl mDl (.slice none 0 0) [] b A b.length c (fun _=>True) (fun _=>False) rfl rfl HV.out HC.out (fun _ _ h=>h) (fun _ h=>h.elim) (fun _ _=>trivial) HB.out (Nat.le_refl _) ?aM ?_;(case aM=>have:=HL.out;simp only[List.length_nil];omega);intro v6 w1 ho hb hg hat;rw[List.nil_append] at ho;obtain⟨A6,c6,rfl⟩:=Kd.R_slice ho;have n0_:=am ho;have n1_:=am hb;clear HV HB ho hb hg hat;have HV:=n0_;have HB:=n1_;clear n0_ n1_))
 go_ret
 exact⟨_,rfl,by (with_reducible repeat (first|apply Kd.R_drewN|apply Kd.R_drew));exact HV.out,mCh⟩
theorem yU (A:Option Addr)(c:Nat)(l:List I)(w:World)(hT:YtobldeamemmokaaDoorTabs.Tab w)(hc:l.length≤c)(hl:kI.C w A l.length l)(hr:alL xM l)(hn:cL l≤1000000000):
 Calls Tryd.prog 19 #[.slice A l.length c] w fun e w'=>e = .returned (.bool (qB4 300 l))∧Below w.heap.size w w':=by
 obtain⟨d,h1,h2,_⟩:=qH3 ofK hr hn
 exact qBS 300 _ _ A c l d _ w hT hc hl h1 h2
theorem qAo (A:Option Addr)(c:Nat)(l:List I)(w:World)(hT:YtobldeamemmokaaDoorTabs.Tab w)(hc:l.length≤c)(hl:kI.C w A l.length l)(hr:alL xM l)(hn:cL l≤1000000000)(hm:qB4 300 l=true){bs:List Int}{kf:Nat}(hp:qF4 300 l bs kf):
 Calls Tryd.prog 10 #[.slice A l.length c] w fun e w'=>∃ v,e = .returned (.tuple #[v,.int .i64 0])∧(Kd.int .u8).R 5 w' w.heap.size (fun _=>True) v bs∧Below w.heap.size w w':=
 qBJ 300 kf A c l bs w hT hc hl (fun W hW=>by have h:=yU A c l W (hT.below hW) hc (Kd.C_below hl hW) hr hn;rw[hm] at h;exact h) hp.put
theorem qBT (A:Option Addr)(c:Nat)(l:List I)(w:World)(hT:YtobldeamemmokaaDoorTabs.Tab w)(hc:l.length≤c)(hl:kI.C w A l.length l)(hr:alL xM l)(hn:cL l≤1000000000)(hm:qB4 300 l=false):
 Calls Tryd.prog 10 #[.slice A l.length c] w fun e w'=>e = .returned (.tuple #[.slice none 0 0,.int .i64 2])∧Below w.heap.size w w':=by
 have HM:=am (fun(W:World) (hW:Below w.heap.size w W)=>by have h:=yU A c l W (hT.below hW) hc (Kd.C_below hl hW) hr hn;rw[hm] at h;exact h)
 clear hT hc hl hr hn hm
 go_enter Tryd.func10,Tryd.ntmps10
 go_wp2_with (first
  | (go_at_call 19;refine(HM.out _ mCl).mono ?_;rintro e w1 ⟨rfl,hb⟩;have HB0:=am (show Below w.heap.size w w1 from qB mCl hb);clear hb))
 go_ret2
 exact⟨rfl,by repeat (first|exact HB0.out|apply qJ|apply qP)⟩
namespace Q
def qJv:I:={zI with op:=65,n:=4294967295}
def qHo:I:={zI with op:=2}
def qCe:I:={zI with op:=2,body:=[qHo]}
theorem qJO:y7 300 20 [⟨[qCe],[]⟩] []=some [2,64,2,64,11,11,11]:=mDh
theorem qJ3:zT 300 300 [65,127,11] 10 [zO] 0 0 false=some (some ([qJv],3,0,false)):=mDh
theorem qJP:xg zU 20 [⟨[qCe],0,0⟩] 0=some 2:=mDh
theorem qJR:qGp 300 20 [qCe] 2=some true:=mDh
theorem qJr:qx.f 300 [2,64,2,64,11,11,11] [2,64,2,64,11,11,11]=some true:=mDh
theorem qGP (A:Option Addr)(c:Nat):Tryd.prog.built 43 [(0,.int .u16 2),(8,.slice A 1 c)]=some (qH qCe (.slice none 0 0) (.slice none 0 0) (.slice A 1 c) (.slice none 0 0)).toArray:=mDh
theorem qDG {ops:Array Oper}{rest:List Oper}{o:Oper}{a:Act}{w:World}{Q:Exit→Act→World→Prop}(hg:o.guard=none)(y:Operand)(ho:o.op = .build 43 #[(0,.const (.int .u16 2)),(8,y)])(A:Option Addr)(c:Nat)(hx:a.eval y = .slice A 1 c)
 (h:wpList Tryd.prog ops Q rest (a.put o.dst (.agg (qH qCe (.slice none 0 0) (.slice none 0 0) (.slice A 1 c) (.slice none 0 0)).toArray)) w):wpList Tryd.prog ops Q (o::rest) a w:=by
 refine Kd.event_run hg ?_ h
 have hk:a.eval (.const (.int .u16 2)) = .int .u16 2:=rfl
 unfold execOp
 simp only[ho,List.map_toArray,List.map_cons,List.map_nil,hk,hx,Sem.run_bind,run_build w 43 _ _ (qGP A c),Result.andThen_ok]
 rfl
set_option maxRecDepth 100000 in
theorem lives_calls (w:World)(hT:YtobldeamemmokaaDoorTabs.Tab w):Calls Tryd.prog 11 #[] w fun e w'=>e = .returned (.bool true)∧Below w.heap.size w w':=by
 have HT:=am hT
 have HB:=am (Below.refl w.heap.size w)
 clear hT
 go_enter Tryd.func11,Tryd.ntmps11
 go_wp2_with (first
  | ((with_reducible refine qE (N:=7) rfl ?_);refine Kd.R_lit (Kd.int .u8) (w0:=w) w.heap.size 5 ?hg (N:=7) ?hd (xs:=([65,127,11]:List Int)) (inner:=[.int .u8 65,.int .u8 127,.int .u8 11]) (ok:=fun _=>True) (okp:=fun _=>True) ?hr ?hp (fun _ hk=>hk) trivial HB.out (Nat.le_refl _) mDp ?_;(case hd=>rfl);(case hg=>rfl);(case hr=>first|(go_simp;done)|(go_simp;rfl));(case hp=>exact Reps.one (show Kd.M (Kd.int .u8) _ _ _ 65 [.int .u8 65] from rfl) (Reps.one (show Kd.M (Kd.int .u8) _ _ _ 127 [.int .u8 127] from rfl) (Reps.one (show Kd.M (Kd.int .u8) _ _ _ 11 [.int .u8 11] from rfl) (Reps.none _ _))));intro v7 w1 ho hb hg_ hnew_;obtain⟨A7,c7,rfl⟩:=Kd.R_slice ho;have RB:=am ho;clear HB ho hg_ hnew_;have HB:=am hb;clear hb)
  | (go_at_call 12;refine(xJ 300 300 10 A7 c7 [65,127,11] 0 _ (HT.out.below HB.out) (Kd.R_reads' RB.out).2.1 (Kd.R_reads' RB.out).2.2 mDl mDl _ qJ3).mono ?_;rintro e w2 ⟨h9,hb⟩;simp only[qAR] at h9;rw[if_neg mDl] at h9;obtain⟨AL,cAL,rfl,hr⟩:=h9;have RL:=am (Kd.R_lower hr HB.out.size);have n0_:=am (qB HB.out hb);clear HB RB hr hb;have HB:=n0_;clear n0_)
  | ((with_reducible refine qE (N:=13) rfl ?_);refine jV rfl (.const (.int .u16 2)) rfl 2 rfl ?_)
  | ((with_reducible refine qE (N:=14) rfl ?_);refine qCG (w0:=w) w.heap.size rfl (.tmp 13) rfl (qH qHo (.slice none 0 0) (.slice none 0 0) (.slice none 0 0) (.slice none 0 0)) rfl rfl qHo (fun _=>True) (qBa _ _ _ qHo rfl (Kd.R_nil _ _ _ _ _) (Kd.R_nil _ _ _ _ _) (Kd.R_nil _ _ _ _ _) (Kd.R_nil _ _ _ _ _)) trivial HB.out HB.out.size ?_;intro v14 w3 ho hB hb;obtain⟨A14,c14,rfl⟩:=Kd.R_slice ho;have R14:=am ho;have n1_:=am (Kd.R_below RL.out hb);clear HB RL ho hb;have HB:=am hB;have RL:=n1_;clear n1_ hB)
  | ((with_reducible refine qE (N:=15) rfl ?_);refine qDG rfl (.tmp 14) rfl A14 c14 rfl ?_)
  | ((with_reducible refine qE (N:=16) rfl ?_);refine qCG (w0:=w) w.heap.size rfl (.tmp 15) rfl (qH qCe (.slice none 0 0) (.slice none 0 0) (.slice A14 1 c14) (.slice none 0 0)) rfl rfl qCe (fun _=>True) (qBa _ _ _ qCe rfl (Kd.R_nil _ _ _ _ _) (Kd.R_nil _ _ _ _ _) R14.out (Kd.R_nil _ _ _ _ _)) trivial HB.out HB.out.size ?_;intro v16 w4 ho hB hb;obtain⟨A16,c16,rfl⟩:=Kd.R_slice ho;have R16:=am ho;have n1_:=am (Kd.R_below RL.out hb);clear HB RL R14 ho hb;have HB:=am hB;have RL:=n1_;clear n1_ hB)
  | (go_at_call 10;refine(qBJ 300 20 A16 c16 [qCe] [2,64,2,64,11,11,11] _ (HT.out.below HB.out) (Kd.R_reads' R16.out).2.1 (Kd.R_reads' R16.out).2.2 (fun W hW=>qBS 300 20 20 A16 c16 [qCe] 2 true W ((HT.out.below HB.out).below hW) (Kd.R_reads' R16.out).2.1 (Kd.C_below (Kd.R_reads' R16.out).2.2 hW) qJP qJR) qJO).mono ?_;rintro e w5 ⟨vP,rfl,hr,hb⟩;obtain⟨AP,cAP,rfl⟩:=Kd.R_slice hr;have RP:=am hr;have n1_:=am (Kd.R_below RL.out hb);have n0_:=am (qB HB.out hb);clear HB RL R16 hr hb;have HB:=n0_;have RL:=n1_;clear n0_ n1_;obtain⟨gl,cl,el,hgl,hll,hty⟩:=Kd.R_form RL.out mDl;obtain⟨cs,hcl,hM,hcc,hff⟩:=Kd.R_elem (by have h9:=RL.out;rw[el] at h9;exact h9) zI (0:Int) mDl mDl;obtain⟨vl,vt,vb,ve,rfl,_,_,_,_,_⟩:=qFX (show kI.M _ _ _ qJv cs from hM);have c3:w5.cell? ⟨gl,3,none⟩=some (.int .u64 4294967295):=hcc 3 _ rfl;clear hcc hff hM hcl hty hll hgl)
  | ((with_reducible refine qE (N:=44) rfl ?_);refine jS mD2 ?_;refine Kd.R_lit (Kd.int .u8) (w0:=w) w.heap.size 5 ?hg3 (N:=44) ?hd3 (xs:=([2,64,2,64,11,11,11]:List Int)) (inner:=[.int .u8 2,.int .u8 64,.int .u8 2,.int .u8 64,.int .u8 11,.int .u8 11,.int .u8 11]) (ok:=fun _=>True) (okp:=fun _=>True) ?hr3 ?hp3 (fun _ hk=>hk) trivial ?hb3 ?hs3 mDp ?_;(case hd3=>rfl);(case hg3=>rfl);(case hb3=>repeat (first|exact HB.out|apply qJ|apply qP));(case hs3=>exact HB.out.size);(case hr3=>first|(go_simp;done)|(go_simp;rfl));(case hp3=>exact Reps.one (show Kd.M (Kd.int .u8) _ _ _ 2 [.int .u8 2] from rfl) (Reps.one (show Kd.M (Kd.int .u8) _ _ _ 64 [.int .u8 64] from rfl) (Reps.one (show Kd.M (Kd.int .u8) _ _ _ 2 [.int .u8 2] from rfl) (Reps.one (show Kd.M (Kd.int .u8) _ _ _ 64 [.int .u8 64] from rfl) (Reps.one (show Kd.M (Kd.int .u8) _ _ _ 11 [.int .u8 11] from rfl) (Reps.one (show Kd.M (Kd.int .u8) _ _ _ 11 [.int .u8 11] from rfl) (Reps.one (show Kd.M (Kd.int .u8) _ _ _ 11 [.int .u8 11] from rfl) (Reps.none _ _))))))));intro v44 w6 ho hb hg_ hnew_;obtain⟨A44,c44,rfl⟩:=Kd.R_slice ho;have R44:=am ho;have n1_:=am (qDZ RP.out hg_);clear HB RP ho hg_ hnew_;have HB:=am hb;have RP:=n1_;clear hb n1_)
  | (go_at_call 16;refine(qx.calls 300 AP cAP [2,64,2,64,11,11,11] A44 c44 [2,64,2,64,11,11,11] true _ (Kd.R_reads' RP.out).2.2 (Kd.R_reads' RP.out).2.1 (Kd.R_reads' R44.out).2.2 (Kd.R_reads' R44.out).2.1 qJr).mono ?_;rintro e w7 ⟨rfl,⟨nd,rfl⟩⟩))
 go_ret
 exact mA5
end Q
end Go.Proofs.YtobldeamemmokaaDoor.P
namespace Go.Proofs.YtobldeamemmokaaDoor.P
open Go.RowKit Go.ChangeShapes Go.WideShapes Go.Proofs.YtobldeamemmokaaDoorW.PrintWords Go.Proofs.YtobldeamemmokaaDoorW.PrintLast Go.Proofs.YtobldeamemmokaaDoorW.PrintMore
variable {H:Type} {enc:TypeId × Value→H} {W:World}
structure rngW (x:I):Prop where
 o:(Lit.int .u16 x.op).wf=true
 a:(Lit.int .u32 x.a).wf=true
 b:(Lit.int .u32 x.b).wf=true
 n:(Lit.int .u64 x.n).wf=true
 v16:x.v.length=16
 v:∀ z ∈ x.v,(Lit.int .u8 z).wf=true
 l:∀ z ∈ x.l,(Lit.int .u32 z).wf=true
 t:∀ z ∈ x.t,(Lit.int .u8 z).wf=true
 k:(Lit.int .u8 x.bk).wf=true∧(Lit.int .u8 x.bv).wf=true∧(Lit.int .u32 x.bt).wf=true
theorem wf8 {z:Int}(h:(Lit.int .u8 z).wf=true):0≤z∧z<256:=by
 simp[Lit.wf] at h
 have h1:IntKind.u8.min=0:=rfl
 have h2:IntKind.u8.max=255:=rfl
 omega
theorem qJ7 {z:Int}(h:(Lit.int .u16 z).wf=true):0≤z∧z<65536:=by
 simp[Lit.wf] at h
 have h1:IntKind.u16.min=0:=rfl
 have h2:IntKind.u16.max=65535:=rfl
 omega
theorem qHF {z:Int}(h:(Lit.int .u32 z).wf=true):Du z:=by
 simp[Lit.wf] at h
 have h1:IntKind.u32.min=0:=rfl
 have h2:IntKind.u32.max=4294967295:=rfl
 unfold Du
 omega
theorem qJ6 {z:Int}(h:(Lit.int .u64 z).wf=true):0≤z∧z<18446744073709551616:=by
 simp[Lit.wf] at h
 have h1:IntKind.u64.min=0:=rfl
 have h2:IntKind.u64.max=18446744073709551615:=rfl
 omega
theorem qIG {x:I}(h:rngW x)(hl:x.l.length+x.t.length<2000000):xM x:=
 ⟨qJ7 h.o,qHF h.a,qHF h.b,qJ6 h.n,⟨h.v16,fun z hz=>wf8 (h.v z hz)⟩,fun z hz=>qHF (h.l z hz),fun z hz=>wf8 (h.t z hz),mDj,mDj,⟨wf8 h.k.1,wf8 h.k.2.1,qHF h.k.2.2⟩⟩
mutual
theorem qG9:∀(x:I),alI rngW x→wI x<2000000→alI xM x
 | ⟨o,a,b,n,v,l,t,bk,bv,bt,bd,e⟩,h,hw=>by
   rw[alI] at h ⊢
   rw[wI] at hw
   exact⟨qIG h.1 (show l.length+t.length<2000000 by omega),alL_rng bd h.2.1 mDj,alL_rng e h.2.2 mDj⟩
theorem alL_rng:∀(l:List I),alL rngW l→wL l<2000000→alL xM l
 | [],_,_=>by rw[alL];trivial
 | x::l,h,hw=>by
   rw[alL] at h ⊢
   rw[wL] at hw
   exact⟨qG9 x h.1 mDj,alL_rng l h.2 mDj⟩
end
theorem qEY {P:I→Prop}:∀(l:List I),(∀ x ∈ l,alI P x)→alL P l
 | [],_=>by rw[alL];trivial
 | x::l,h=>by rw[alL];exact⟨h x (List.mem_cons_self ..),qEY l (fun y hy=>h y (List.mem_cons_of_mem _ hy))⟩
theorem qDy (d:DataW H):1≤Rows.uptoBulk d:=by
 cases d with
 | lit l=>cases l <;> simp[Rows.uptoBulk]
 | nil=>simp[Rows.uptoBulk]
 | ptr d=>simp[Rows.uptoBulk]
 | slice elems spare=>simp[Rows.uptoBulk]
 | agg parts=>simp[Rows.uptoBulk]
 | iface t d=>simp[Rows.uptoBulk]
 | map entries=>simp[Rows.uptoBulk]
 | held h=>simp[Rows.uptoBulk]
theorem qF6 (l:List (DataW H)):l.length≤Rows.uptoBulkAll l:=by
 induction l with
 | nil=>simp[Rows.uptoBulkAll]
 | cons x r ih=>have:=qDy x;simp only[Rows.uptoBulkAll,List.length_cons];omega
theorem qED {k:IntKind}{t e:TypeId}{fuel:Nat}{cs:List Value}{x:DataW H × List MemPlace}(ht:Tryd.prog.underlying t=some (.slice e))(he:Tryd.prog.underlying e=some (.int k))(hc:Tryd.prog.cellsOf e=1)(h:DataW.trod enc Tryd.prog W 0 (fun _=>true) true fuel t cs=some x):
 ∃ A c l,cs = [.slice A l.length c]∧l.length≤c∧(Kd.int k).C W A l.length l∧l.length+1≤Rows.uptoBulk x.1∧∀ z ∈ l,(Lit.int k z).wf=true:=by
 rcases Go.Deep.open_slice1 ht hc h with ⟨rfl,rfl⟩|⟨a,len,cap,m,n,V,D,Pl,rfl,hb,hl,hm,hmm,rfl,hx⟩
 ·exact⟨none,0,[],rfl,Nat.le_refl _,Kd.C_nil _ _,by simp[Rows.uptoBulk],(fun _ h=>by cases h)⟩
 ·have hml:m=cap:=by rw[hmm];rfl
  have hz:∀ i,i<len→∃ z:Int,V i = .int k z∧(Lit.int k z).wf=true:=by
   intro i hi
   obtain⟨z,hz,_,hwf⟩:=DataW.trod_int he (hx i mDj).2
   exact⟨z,(List.cons.inj hz).1,hwf⟩
  obtain⟨f,hf⟩:=Go.Deep.choose_lt (α:=Int) hz
  refine⟨some a,cap,(List.range len).map f,mDp,by simpa using hl,?_,?_,?_⟩
  ·rw[List.length_map,List.length_range]
   refine⟨mDp,by unfold maxLen at hm;omega,fun hp=>⟨a,rfl,fun j p hj=>⟨[.int k p],rfl,rfl,fun i u hu=>?_⟩⟩⟩
   have hj2:j<len:=by have:=(List.getElem?_eq_some_iff.1 hj).1;simpa using this
   have hp2:p=f j:=by simpa [hj2] using hj.symm
   cases i with
   | succ i=>simp at hu
   | zero =>
     obtain rfl:=Option.some.inj hu
     have h9:=(hx j mDj).1
     rw[(hf j hj2).1,← hp2] at h9
     have e:j*1+0=j:=mDj
     show W.cell? (a.add (j*1+0))=_
     rw[e]
     exact h9
  ·rw[List.length_map,List.length_range]
   have h1:=qF6 ((List.range len).map D)
   rw[List.length_map,List.length_range] at h1
   simp only[Rows.uptoBulk]
   omega
  ·intro z hz
   obtain⟨i,hi,rfl⟩:=List.mem_map.1 hz
   exact(hf i (List.mem_range.1 hi)).2
theorem c33:Tryd.prog.cellsOf 33=1:=mDh
theorem c34:Tryd.prog.cellsOf 34=1:=mDh
theorem c35:Tryd.prog.cellsOf 35=1:=mDh
theorem c36:Tryd.prog.cellsOf 36=16:=mDh
theorem c37:Tryd.prog.cellsOf 37=1:=mDh
theorem c38:Tryd.prog.cellsOf 38=1:=mDh
theorem c39:Tryd.prog.cellsOf 39=1:=mDh
theorem c41:Tryd.prog.cellsOf 41=3:=mDh
theorem c22:Tryd.prog.cellsOf 22=1:=mDh
theorem c43:Tryd.prog.cellsOf 43=27:=mDh
theorem qJj:Tryd.prog.cellsOf 5=1:=mDh
theorem qJi {α:Type}{cs:List α}(h:cs.length=27):∃ c0 c1 c2 c3 c4 c5 c6 c7 c8 c9 c10 c11 c12 c13 c14 c15 c16 c17 c18 c19 c20 c21 c22 c23 c24 c25 c26,cs = [c0,c1,c2,c3,c4,c5,c6,c7,c8,c9,c10,c11,c12,c13,c14,c15,c16,c17,c18,c19,c20,c21,c22,c23,c24,c25,c26]:=by
 match cs,h with
 | [c0,c1,c2,c3,c4,c5,c6,c7,c8,c9,c10,c11,c12,c13,c14,c15,c16,c17,c18,c19,c20,c21,c22,c23,c24,c25,c26],_=>exact⟨c0,c1,c2,c3,c4,c5,c6,c7,c8,c9,c10,c11,c12,c13,c14,c15,c16,c17,c18,c19,c20,c21,c22,c23,c24,c25,c26,rfl⟩
theorem qJm {α:Type}{cs:List α}(h:cs.length=10):∃ c0 c1 c2 c3 c4 c5 c6 c7 c8 c9,cs = [c0,c1,c2,c3,c4,c5,c6,c7,c8,c9]:=by
 match cs,h with
 | [c0,c1,c2,c3,c4,c5,c6,c7,c8,c9],_=>exact⟨c0,c1,c2,c3,c4,c5,c6,c7,c8,c9,rfl⟩
theorem qJX {α:Type}{cs:List α}(h:cs.length=3):∃ c0 c1 c2,cs = [c0,c1,c2]:=by
 match cs,h with
 | [c0,c1,c2],_=>exact⟨c0,c1,c2,rfl⟩
theorem qIb {n:Nat}{cs:List Value}{x:DataW H × List MemPlace}(h:DataW.trod enc Tryd.prog W 0 (fun _=>true) true n 36 cs=some x):∃ v:List Int,v.length=16∧cs=zV (Value.int .u8) v∧∀ z ∈ v,(Lit.int .u8 z).wf=true:=by
 obtain⟨xs,m,rfl,rfl,hl,hxl,hx⟩:=DataW.trod_array Tryd.underlying36 h
 rw[c36] at hl
 have hz:∀ i,i<16→∃ z:Int,cs[i]? = some (.int .u8 z)∧(Lit.int .u8 z).wf=true:=by
  intro i hi
  have h1:=hx i hi
  rw[qJj,Nat.mul_one,List.getElem?_eq_getElem mDj] at h1
  obtain⟨z,hz,_,hwf⟩:=DataW.trod_int Tryd.underlying5 h1
  refine⟨z,?_,hwf⟩
  have h2:((cs.drop i).take 1)[0]? = some (.int .u8 z):=by rw[hz];rfl
  rw[List.getElem?_take_of_lt mDl,List.getElem?_drop,Nat.add_zero] at h2
  exact h2
 obtain⟨f,hf⟩:=Go.Deep.choose_lt (α:=Int) hz
 refine⟨(List.range 16).map f,mDp,?_,fun z hz=>by obtain⟨i,hi,rfl⟩:=List.mem_map.1 hz;exact(hf i (List.mem_range.1 hi)).2⟩
 apply List.ext_getElem?
 intro i
 by_cases hi:i<16
 ·rw[(hf i hi).1]
  simp[zV,hi]
 ·rw[List.getElem?_eq_none mDj,List.getElem?_eq_none (by simp[zV];omega)]
set_option maxRecDepth 100000 in
theorem qCQ:∀(n fuel:Nat),fuel≤n→(∀(cs:List Value) (x:DataW H × List MemPlace),DataW.trod enc Tryd.prog W 0 (fun _=>true) true fuel 22 cs=some x→∃ A c l,cs = [.slice A l.length c]∧l.length≤c∧kI.C W A l.length l∧wL l+1≤Rows.uptoBulk x.1∧alL rngW l)∧
 (∀(cs:List Value) (x:DataW H × List MemPlace),DataW.trod enc Tryd.prog W 0 (fun _=>true) true fuel 43 cs=some x→∃ y:I,kI.K W y cs∧wI y≤Rows.uptoBulk x.1∧alI rngW y)
 | 0,fuel,hn=>by
   obtain rfl:fuel=0:=mDj
   exact⟨fun cs x h=>by simp[DataW.trod] at h,fun cs x h=>by simp[DataW.trod] at h⟩
 | n+1,fuel,hn=>by
   refine⟨fun cs x h=>?_,fun cs x h=>?_⟩
   ·rcases DataW.trod_slice Tryd.underlying22 h with ⟨rfl,rfl⟩|⟨a,len,cap,elems,rest,m,rfl,rfl,rfl,hb,hl,hm,hlen,hel,_,_⟩
    ·exact⟨none,0,[],rfl,Nat.le_refl _,Kd.C_nil _ _,by simp[Rows.uptoBulk,wL],by rw[alL];trivial⟩
    ·have ih:=(qCQ n m mDj).2
     have hz:∀ i,i<len→∃ y:I,(∃ cs',W.cells? 0 (a.add (i*27)) 27=some cs'∧kI.K W y cs')∧∃ d,elems[i]? = some d∧wI y≤Rows.uptoBulk d.1∧alI rngW y:=by
      intro i hi
      have h1:=hel i hi
      rw[c43] at h1
      have he:elems[i]? = some elems[i]:=List.getElem?_eq_getElem mDj
      rw[he] at h1
      obtain⟨cs',h2,h3⟩:=Option.bind_eq_some_iff.1 h1
      obtain⟨y,hy,hw,hrw⟩:=ih cs' _ h3
      exact⟨y,⟨cs',h2,hy⟩,_,he,hw,hrw⟩
     obtain⟨f,hf⟩:=Go.Deep.choose_lt (α:=I) hz
     refine⟨some a,cap,(List.range len).map f,mDp,by simpa using hl,?_,?_,qEY _ (fun x hx=>by obtain⟨i,hi,rfl⟩:=List.mem_map.1 hx;obtain⟨_,_,_,_,hrw⟩:=hf i (List.mem_range.1 hi);exact hrw)⟩
     ·rw[List.length_map,List.length_range]
      refine⟨mDp,by unfold maxLen at hm;omega,fun hp=>⟨a,rfl,fun j p hj=>?_⟩⟩
      have hj2:j<len:=by have:=(List.getElem?_eq_some_iff.1 hj).1;simpa using this
      have hp2:p=f j:=by simpa [hj2] using hj.symm
      obtain⟨⟨cs',h2,h3⟩,_⟩:=hf j hj2
      rw[← hp2] at h3
      refine⟨cs',kI.K_len h3,h3,fun i u hu=>?_⟩
      obtain⟨_,hlen',hcell⟩:=World.cells?_some h2
      have hi:i<27:=by have h8:=(List.getElem?_eq_some_iff.1 hu).1;have:=kI.K_len h3;omega
      have h7:=hcell i hi
      rw[← Go.Deep.add_add]
      exact h7.trans hu
     ·have key:∀(k:Nat),k≤len→wL ((List.range k).map f)≤Rows.uptoBulkAll ((elems.take k).map (·.1)):=by
       intro k
       induction k with
       | zero=>intro _;simp[wL,Rows.uptoBulkAll]
       | succ k ih2 =>
         intro hk
         obtain⟨_,d,hd,hw⟩:=hf k mDj
         have h1:=ih2 mDj
         have wapp:∀(l:List I) (z:I),wL (l ++ [z])=wL l+wI z:=by
          intro l z
          induction l with
          | nil=>simp[wL]
          | cons y l ihl=>rw[List.cons_append,wL,ihl,wL];omega
         have bapp:∀(l:List (DataW H)) (z:DataW H),Rows.uptoBulkAll (l ++ [z])=Rows.uptoBulkAll l+Rows.uptoBulk z:=by
          intro l z
          induction l with
          | nil=>simp[Rows.uptoBulkAll]
          | cons y l ihl=>rw[List.cons_append,Rows.uptoBulkAll,ihl,Rows.uptoBulkAll];omega
         have hkl:k<elems.length:=mDj
         have hd2:elems[k]=d:=by rw[List.getElem?_eq_getElem hkl] at hd;exact Option.some.inj hd
         rw[List.range_succ,List.map_append,List.map_singleton,wapp,List.take_succ_eq_append_getElem hkl,List.map_append,List.map_singleton,bapp,hd2]
         omega
      have h2:=key len (Nat.le_refl _)
      rw[← hlen,List.take_length] at h2
      rw[hlen] at h2
      simp only[Rows.uptoBulk]
      omega
   ·obtain⟨xs,m,rfl,rfl,hl,hxl,hf⟩:=DataW.trod_struct Tryd.underlying43 h
    rw[c43] at hl
    have ihL:=(qCQ n m mDj).1
    have hxl':xs.length=10:=hxl
    obtain⟨x0,x1,x2,x3,x4,x5,x6,x7,x8,x9,rfl⟩:=qJm hxl'
    obtain⟨c0,c1,c2,c3,c4,c5,c6,c7,c8,c9,c10,c11,c12,c13,c14,c15,c16,c17,c18,c19,c20,c21,c22',c23,c24,c25,c26,rfl⟩:=qJi hl
    have f0:=hf 0 {name:= "Op", type:=33,offset:=0,embedded:=false,tag:= "", pkgPath:= "", byteOffset:=0} rfl
    have f1:=hf 1 {name:= "A", type:=34,offset:=1,embedded:=false,tag:= "", pkgPath:= "", byteOffset:=4} rfl
    have f2:=hf 2 {name:= "B", type:=34,offset:=2,embedded:=false,tag:= "", pkgPath:= "", byteOffset:=8} rfl
    have f3:=hf 3 {name:= "N", type:=35,offset:=3,embedded:=false,tag:= "", pkgPath:= "", byteOffset:=16} rfl
    have f4:=hf 4 {name:= "V", type:=36,offset:=4,embedded:=false,tag:= "", pkgPath:= "", byteOffset:=24} rfl
    have f5:=hf 5 {name:= "L", type:=37,offset:=20,embedded:=false,tag:= "", pkgPath:= "", byteOffset:=40} rfl
    have f6:=hf 6 {name:= "T", type:=38,offset:=21,embedded:=false,tag:= "", pkgPath:= "", byteOffset:=64} rfl
    have f7:=hf 7 {name:= "Block", type:=41,offset:=22,embedded:=false,tag:= "", pkgPath:= "", byteOffset:=88} rfl
    have f8:=hf 8 {name:= "Body", type:=22,offset:=25,embedded:=false,tag:= "", pkgPath:= "", byteOffset:=96} rfl
    have f9:=hf 9 {name:= "Else", type:=22,offset:=26,embedded:=false,tag:= "", pkgPath:= "", byteOffset:=120} rfl
    simp only[c33,c34,c35,c36,c37,c38,c41,c22] at f0 f1 f2 f3 f4 f5 f6 f7 f8 f9
    obtain⟨z0,e0,_,u0⟩:=DataW.trod_int Tryd.underlying33 f0
    obtain⟨z1,e1,_,u1⟩:=DataW.trod_int Tryd.underlying34 f1
    obtain⟨z2,e2,_,u2⟩:=DataW.trod_int Tryd.underlying34 f2
    obtain⟨z3,e3,_,u3⟩:=DataW.trod_int Tryd.underlying35 f3
    obtain⟨v,hv,e4,u4⟩:=qIb f4
    obtain⟨A5,k5,l5,e5,h5,C5,b5,u5⟩:=qED Tryd.underlying37 Tryd.underlying34 c34 f5
    obtain⟨A6,k6,l6,e6,h6,C6,b6,u6⟩:=qED Tryd.underlying38 Tryd.underlying39 c39 f6
    obtain⟨ys,m7,rfl,rfl,hl7,hyl,hf7⟩:=DataW.trod_struct Tryd.underlying41 f7
    obtain⟨y0,y1,y2,rfl⟩:=qJX (show ys.length=3 from hyl)
    have g0:=hf7 0 {name:= "Kind", type:=5,offset:=0,embedded:=false,tag:= "", pkgPath:= "", byteOffset:=0} rfl
    have g1:=hf7 1 {name:= "Val", type:=39,offset:=1,embedded:=false,tag:= "", pkgPath:= "", byteOffset:=1} rfl
    have g2:=hf7 2 {name:= "Type", type:=34,offset:=2,embedded:=false,tag:= "", pkgPath:= "", byteOffset:=4} rfl
    simp only[qJj,c39,c34] at g0 g1 g2
    obtain⟨k0,q0,_,y0u⟩:=DataW.trod_int Tryd.underlying5 g0
    obtain⟨k1,q1,_,y1u⟩:=DataW.trod_int Tryd.underlying39 g1
    obtain⟨k2,q2,_,y2u⟩:=DataW.trod_int Tryd.underlying34 g2
    obtain⟨A8,k8,l8,e8,h8,C8,b8,u8⟩:=ihL _ _ f8
    obtain⟨A9,k9,l9,e9,h9,C9,b9,u9⟩:=ihL _ _ f9
    refine⟨⟨z0,z1,z2,z3,v,l5,l6,k0,k1,k2,l8,l9⟩,?_,?_,by rw[alI];exact⟨⟨u0,u1,u2,u3,hv,u4,u5,u6,⟨y0u,y1u,y2u⟩⟩,u8,u9⟩⟩
    ·have hcs:[c0,c1,c2,c3,c4,c5,c6,c7,c8,c9,c10,c11,c12,c13,c14,c15,c16,c17,c18,c19,c20,c21,c22',c23,c24,c25,c26]=qH ⟨z0,z1,z2,z3,v,l5,l6,k0,k1,k2,l8,l9⟩ (.slice A5 l5.length k5) (.slice A6 l6.length k6) (.slice A8 l8.length k8) (.slice A9 l9.length k9):=by
      have e4':[c4,c5,c6,c7,c8,c9,c10,c11,c12,c13,c14,c15,c16,c17,c18,c19]=zV (Value.int .u8) v:=e4
      obtain rfl:=(List.cons.inj e0).1
      obtain rfl:=(List.cons.inj e1).1
      obtain rfl:=(List.cons.inj e2).1
      obtain rfl:=(List.cons.inj e3).1
      obtain rfl:=(List.cons.inj e5).1
      obtain rfl:=(List.cons.inj e6).1
      obtain rfl:=(List.cons.inj q0).1
      obtain rfl:=(List.cons.inj q1).1
      obtain rfl:=(List.cons.inj q2).1
      obtain rfl:=(List.cons.inj e8).1
      obtain rfl:=(List.cons.inj e9).1
      unfold qH
      rw[← e4']
      rfl
     rw[hcs]
     exact yk W ⟨z0,z1,z2,z3,v,l5,l6,k0,k1,k2,l8,l9⟩ hv ⟨h5,C5⟩ ⟨h6,C6⟩ ⟨h8,C8⟩ ⟨h9,C9⟩
    ·rw[wI]
     have i0:=qDy x0.1
     simp only[Rows.uptoBulk,Rows.uptoBulkAll,List.map_cons,List.map_nil] at b5 b6 b8 b9 ⊢
     omega
theorem open_L {fuel:Nat}{cs:List Value}{x:DataW H × List MemPlace}(h:DataW.trod enc Tryd.prog W 0 (fun _=>true) true fuel 22 cs=some x):∃ A c l,cs = [.slice A l.length c]∧l.length≤c∧kI.C W A l.length l∧wL l+1≤Rows.uptoBulk x.1∧alL rngW l:=
 (qCQ fuel fuel (Nat.le_refl _)).1 cs x h
end Go.Proofs.YtobldeamemmokaaDoor.P
