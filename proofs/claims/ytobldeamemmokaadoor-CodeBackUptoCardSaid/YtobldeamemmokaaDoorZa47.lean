import Derived.Test.YtobldeamemmokaaDoorZa45
set_option linter.unusedVariables false
set_option linter.unusedSimpArgs false
set_option maxHeartbeats 64000000
namespace Go.Proofs.YtobldeamemmokaaDoor.P
open Go.RowKit Go.Proofs.YtobldeamemmokaaDoorW.PrintWords Go.Proofs.YtobldeamemmokaaDoorW.PrintLast Go.Proofs.YtobldeamemmokaaDoorW.PrintMore
theorem qE5 {l:List I}(hc:cL l≤1000000000)(hp:pL 0 l≤1000)(A:Option Addr)(c:Nat)(w:World)(h1:l.length≤c)(h2:kI.C w A l.length l):Calls Tryd.prog 21 #[.slice A l.length c] w fun e w'=>e = .returned (.int .i64 (pL 0 l:Int))∧Below w.heap.size w w':=by
 have h:=yg _ A c l w h1 h2 (qAT zU l 0 hc)
 rw[qFD l hc,show min (pL 0 l) 1001=pL 0 l by omega] at h
 exact h
theorem qFd {l:List I}(hc:cL l≤1000000000)(A:Option Addr)(c:Nat)(w:World)(h1:l.length≤c)(h2:kI.C w A l.length l):Calls Tryd.prog 25 #[.slice A l.length c] w fun e w'=>e = .returned (.bool (zf l))∧Below w.heap.size w w':=by
 have h:=qDt _ A c l w h1 h2 (qAT je l false hc)
 rw[yp] at h
 exact h
set_option maxRecDepth 100000 in
theorem back_calls (Al:Option Addr)(cl:Nat)(l:List I)(Aa:Option Addr)(ca:Nat)(a:List Int)(Ab:Option Addr)(cb:Nat)(b:List Int)(w:World)(hT:YtobldeamemmokaaDoorTabs.Tab w)(hcl:l.length≤cl)(hl:kI.C w Al l.length l)(hr:alL xM l)(hw:wL l≤1048576)
 (hca:a.length≤ca)(hCa:(Kd.int .u8).C w Aa a.length a)(ha:LebM.Bytes a)(hcb:b.length≤cb)(hCb:(Kd.int .u8).C w Ab b.length b)(hb:LebM.Bytes b):
 Calls Tryd.prog 8 #[.slice Al l.length cl,.slice Aa a.length ca,.slice Ab b.length cb] w fun e w'=>e = .returned (.bool true)∧Below w.heap.size w w':=by
 have hcn:cL l≤1000000000:=Nat.le_trans (qCA l) mDj
 have HQ:=am (fun(W:World) (hW:Below w.heap.size w W)=>Q.lives_calls W (hT.below hW))
 have HB:=am (Below.refl w.heap.size w)
 have hma:a.length≤9223372036854775807:=Kd.C_max hCa
 have hmb:b.length≤9223372036854775807:=Kd.C_max hCb
 have HLA:=am (fun(W:World) (hW:Below w.heap.size w W)=>qAm Aa a.length ca W hma)
 have HLB:=am (fun(W:World) (hW:Below w.heap.size w W)=>qAm Ab b.length cb W hmb)
 by_cases hla:20000<(a.length:Int)
 ·rw[decide_eq_true hla] at HLA
  clear hT hcl hl hr hw hca hCa ha hcb hCb hb hcn hma hmb hla
  exact mAa
 rw[decide_eq_false hla] at HLA
 by_cases hlb:20000<(b.length:Int)
 ·rw[decide_eq_true hlb] at HLB
  clear hT hcl hl hr hw hca hCa ha hcb hCb hb hcn hma hmb hla hlb
  exact mAa
 rw[decide_eq_false hlb] at HLB
 have HM:=am (fun(W:World) (hW:Below w.heap.size w W)=>yU Al cl l W (hT.below hW) hcl (Kd.C_below hl hW) hr hcn)
 cases hm:qB4 300 l
 ·rw[hm] at HM
  have HF:=am (fun(W:World) (hW:Below w.heap.size w W)=>qBT Al cl l W (hT.below hW) hcl (Kd.C_below hl hW) hr hcn hm)
  clear hT hcl hl hr hw hca hCa ha hcb hCb hb hcn hma hmb hla hlb hm
  exact mAa
 ·clear HM
  obtain⟨bs,kf,hp,hbl,hBs⟩:=qEP hr hw hm
  have hdeep:=((qBK ofK hr).1 hm).1
  obtain⟨T,hT3⟩:=ey_ (bs.length)
  obtain⟨NA,hNA⟩:=ey_ (a.length)
  obtain⟨ab,hab⟩:∃ x,x=a++bs:=⟨_,rfl⟩
  obtain⟨NB,hNB⟩:=ey_ (ab.length)
  obtain⟨all,hall⟩:∃ x,x=ab++b:=⟨_,rfl⟩
  obtain⟨NL,hNL⟩:=ey_ (all.length)
  have eNB:NB=NA+T:=by rw[← hNB,hab,List.length_append,hT3,hNA]
  have eNL:NL=NA+T+b.length:=by rw[← hNL,hall,List.length_append,hNB,eNB]
  have hBall:Bs all:=⟨by rw[hall,hab];exact LebM.bytes_app (LebM.bytes_app ha hBs.y) hb,mDj⟩
  obtain⟨kr,hrun⟩:=hp.back a b (by rw[← hab,← hall];exact hBall)
  rw[← hab,← hall,hNA,hT3] at hrun
  have HX:=am (fun(W:World) (hW:Below w.heap.size w W) (A8:Option Addr) (c8:Nat) (h8:(Kd.int .u8).R 5 W w.heap.size (fun _=>True) (.slice A8 all.length c8) all)=>xJ 300 2000000 kr A8 c8 all (NA:Int) W (hT.below hW) (Kd.R_reads' h8).2.1 (Kd.R_reads' h8).2.2 mDj mDj _ hrun)
  have HS:=am (fun(W:World) (hW:Below w.heap.size w W) (A8:Option Addr) (c8:Nat) (h8:(Kd.int .u8).R 5 W w.heap.size (fun _=>True) (.slice A8 all.length c8) all)=>qBe 300 2000000 kr A8 c8 all (NA:Int) W (hT.below hW) (Kd.R_reads' h8).2.1 (Kd.R_reads' h8).2.2 mDj mDj _ hrun)
  rw[hNL] at HX HS
  have HP:=am (fun(W:World) (hW:Below w.heap.size w W)=>qAo Al cl l W (hT.below hW) hcl (Kd.C_below hl hW) hr hcn hm hp)
  have HCP:=am (fun(W:World) (hW:Below w.heap.size w W)=>qDb Aa ca a W hca (Kd.C_below hCa hW) mDj)
  rw[hNA] at HCP
  have HSM:=am (fun(W:World) (hW:Below w.heap.size w W) (A8:Option Addr) (c8:Nat) (h8:kI.R 43 W w.heap.size (fun _=>True) (.slice A8 l.length c8) l)=>qBm A8 Al c8 cl l W (Kd.R_reads' h8).2.1 (Kd.R_reads' h8).2.2 hcl (Kd.C_below hl hW) hcn)
  have HDP:=am (fun(W:World) (hW:Below w.heap.size w W)=>qE5 hcn hdeep Al cl W hcl (Kd.C_below hl hW))
  have HDT:=am (fun(W:World) (hW:Below w.heap.size w W)=>qFd hcn Al cl W hcl (Kd.C_below hl hW))
  have HBC:=am (fun(W:World) (hW:Below w.heap.size w W)=>Kd.C_below hCb hW)
  have HSZ:=am (show NA+T≤100000000∧NB+b.length≤100000000 by omega)
  have HT3:=am hT3
  have HNA:=am hNA
  have HAB:=am (And.intro hab hNB)
  have HALL:=am (And.intro hall hNL)
  have HD:=am hdeep
  have hmT:T≤9223372036854775807:=mDj
  rw[hNA] at HLA
  rw[hNA]
  have hmA:NA≤9223372036854775807:=mDj
  have hmBb:b.length≤9223372036854775807:=hmb
  have wn:wrap64 ((NA:Int)+(T:Int))=(NA:Int)+(T:Int):=LebM.w64 mDj mDj
  clear hT hcl hl hr hw hca hCa ha hcb hCb hb hcn hma hmb hla hlb hm hp hbl hBs hdeep hrun hBall eNB eNL hT3 hNA hab hNB hall hNL
  exact mAa
end Go.Proofs.YtobldeamemmokaaDoor.P
