import Derived.Test.YtobldeamemmokaaDoorZa42
set_option linter.unusedVariables false
set_option linter.unusedSimpArgs false
set_option maxHeartbeats 64000000
namespace Go.Proofs.YtobldeamemmokaaDoor.P
open Go.RowKit Go.Proofs.YtobldeamemmokaaDoorW.PrintWords Go.Proofs.YtobldeamemmokaaDoorW.PrintLast Go.Proofs.YtobldeamemmokaaDoorW.PrintMore
theorem qEP {l:List I}(hr:alL xM l)(hw:wL l≤1048576)(hm:qB4 300 l=true):∃ bs kf,qF4 300 l bs kf∧bs.length≤62914561∧Bs bs:=by
 obtain⟨hd,hA⟩:=(qBK ofK hr).1 hm
 have hcl:=qCA l
 have hnl:=qEQ (k:=1999999) ofK rfl l hA
 obtain⟨bs,kf,hp⟩:=qEK (k:=1999999) ofK rfl hA mDj mDj
 have hl:=hp.len
 exact⟨bs,kf,hp,mDj,hp.by_,mDj⟩
set_option maxRecDepth 100000 in
theorem cut_calls (n0:Int)(A:Option Addr)(c:Nat)(l:List I)(w:World)(hT:YtobldeamemmokaaDoorTabs.Tab w)(hc:l.length≤c)(hl:kI.C w A l.length l)(hr:alL xM l)(hw:wL l≤1048576):
 Calls Tryd.prog 4 #[.slice A l.length c,.int .i64 n0] w fun e w'=>e = .returned (.bool true)∧Below w.heap.size w w':=by
 have hcl:cL l≤1000000000:=Nat.le_trans (qCA l) mDj
 have HQ:=am (fun(W:World) (hW:Below w.heap.size w W)=>Q.lives_calls W (hT.below hW))
 have HB:=am (Below.refl w.heap.size w)
 cases hm:qB4 300 l
 ·have HF:=am (fun(W:World) (hW:Below w.heap.size w W)=>qBT A c l W (hT.below hW) hc (Kd.C_below hl hW) hr hcl hm)
  clear hT hc hl hr hw hcl hm
  go_enter Tryd.func4,Tryd.ntmps4
  go_wp2_with (first
   | (go_at_call 10;refine(HF.out _ mCh).mono ?_;rintro e wn ⟨rfl,hb⟩;have n0_:=am (show Below w.heap.size w wn from qB mCh hb);clear HB hb;have HB:=n0_;clear n0_)
   | (go_at_call 11;refine(HQ.out _ mCh).mono ?_;rintro e wn ⟨rfl,hb⟩;have n0_:=am (show Below w.heap.size w wn from qB mCh hb);clear HB hb;have HB:=n0_;clear n0_))
  go_ret
  exact mA5
 ·obtain⟨bs,kf,hp,hbl,hBs⟩:=qEP hr hw hm
  obtain⟨T,hT3⟩:=ey_ (bs.length)
  have hT1:1≤T:=by have:=hp.len;omega
  have eu:IntKind.u64.wrap (T:Int)=(T:Int):=LebM.u64w mDj mDj
  obtain⟨M,hM,eM⟩:∃ M:Nat,M<T∧wrap64 ((IntKind.u64.wrap n0).tmod (T:Int))=(M:Int):=by
   have h1:0≤IntKind.u64.wrap n0:=by rw[LebM.u64m];omega
   have h2:=Int.emod_nonneg (IntKind.u64.wrap n0) (show(T:Int)≠0 by omega)
   have h3:=Int.emod_lt_of_pos (IntKind.u64.wrap n0) (show(0:Int)<T by omega)
   rw[Int.tmod_eq_emod_of_nonneg h1]
   refine⟨((IntKind.u64.wrap n0) % (T:Int)).toNat,mDj,?_⟩
   rw[Int.toNat_of_nonneg h2]
   unfold wrap64
   omega
  obtain⟨kr,hrun⟩:=hp.cut M mDj hBs
  obtain⟨B2,hB2⟩:=ex_ (bs.take M)
  have e7:B2.length=M:=by rw[hB2,List.length_take];omega
  rw[← hB2] at hrun
  have HX:=am (fun(W:World) (hW:Below w.heap.size w W) (A8:Option Addr) (c8:Nat) (h8:(Kd.int .u8).R 5 W w.heap.size (fun _=>True) (.slice A8 B2.length c8) B2)=>xJ 300 2000000 kr A8 c8 _ 0 W (hT.below hW) (Kd.R_reads' h8).2.1 (Kd.R_reads' h8).2.2 (Int.le_refl 0) mDj _ hrun)
  have HS:=am (fun(W:World) (hW:Below w.heap.size w W) (A8:Option Addr) (c8:Nat) (h8:(Kd.int .u8).R 5 W w.heap.size (fun _=>True) (.slice A8 B2.length c8) B2)=>qBe 300 2000000 kr A8 c8 _ 0 W (hT.below hW) (Kd.R_reads' h8).2.1 (Kd.R_reads' h8).2.2 (Int.le_refl 0) mDj _ hrun)
  rw[e7] at HX HS
  have HP:=am (fun(W:World) (hW:Below w.heap.size w W)=>qAo A c l W (hT.below hW) hc (Kd.C_below hl hW) hr hcl hm hp)
  have HT3:=am hT3
  have HB2:=am hB2
  have HMT:=am hM
  have d0:((T:Int)==0)=false:=beq_eq_false_iff_ne.2 mDj
  have hmx:T≤9223372036854775807:=mDj
  clear hT hc hl hr hw hcl hm hp hbl hBs hrun hT3 hB2 e7
  go_enter Tryd.func4,Tryd.ntmps4
  go_wp2_with (first
   | (go_at_call 10;refine(HP.out _ mCh).mono ?_;rintro e wn ⟨v,rfl,hv,hb⟩;obtain⟨A8,c8,rfl⟩:=Kd.R_slice hv;rw[HT3.out] at hv ⊢;have n0_:=am (show Below w.heap.size w wn from qB mCh hb);have hv2:=Kd.R_lower hv (show w.heap.size≤_ from by have h9:=HB.out.size;exact h9);have hm8:M≤c8:=(by have h1:=(Kd.R_reads' hv).2.1;have h2:=HMT.out;have h3:=HT3.out;omega);have hRT:=Kd.R_take (m:=M) hv2 (by have h2:=HMT.out;have h3:=HT3.out;omega);rw[← HB2.out] at hRT;have RT:=am hRT;clear HB hb hv hv2 hRT;have HB:=n0_;clear n0_)
   | (go_at_call 12;with_reducible refine(HX.out _ mCh A8 c8 (ky_ RT.out)).mono ?_;rintro e wn ⟨h9,hb⟩;simp only[qAR] at h9;subst h9;have n0_:=am (show Below w.heap.size w wn from qB mCh hb);have n2_:=am (Kd.R_below (show(Kd.int .u8).R 5 _ w.heap.size (fun _=>True) (.slice A8 M c8) B2 by (with_reducible repeat (first|apply Kd.R_drewN|apply Kd.R_drew));exact RT.out) hb);clear HB RT hb;have HB:=n0_;have RT:=n2_;clear n0_ n2_)
   | (go_at_call 17;with_reducible refine(HS.out _ mCh A8 c8 (ky_ RT.out)).mono ?_;rintro e wn ⟨h9,hb⟩;simp only[qFZ] at h9;subst h9;have n0_:=am (show Below w.heap.size w wn from qB mCh hb);clear HB RT hb;have HB:=n0_;clear n0_)
   | (go_at_call 11;refine(HQ.out _ mCh).mono ?_;rintro e wn ⟨rfl,hb⟩;have n0_:=am (show Below w.heap.size w wn from qB mCh hb);clear HB hb;have HB:=n0_;clear n0_))
  go_ret
  exact mA5
end Go.Proofs.YtobldeamemmokaaDoor.P
