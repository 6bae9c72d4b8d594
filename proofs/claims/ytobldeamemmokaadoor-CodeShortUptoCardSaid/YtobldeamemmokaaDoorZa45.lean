import Derived.Test.YtobldeamemmokaaDoorZa43
set_option linter.unusedVariables false
set_option linter.unusedSimpArgs false
set_option maxHeartbeats 64000000
namespace Go.Proofs.YtobldeamemmokaaDoor.P
open Go.RowKit Go.Proofs.YtobldeamemmokaaDoorW.PrintWords Go.Proofs.YtobldeamemmokaaDoorW.PrintLast Go.Proofs.YtobldeamemmokaaDoorW.PrintMore
theorem qBm (A B:Option Addr)(c d:Nat)(l:List I)(w:World)(hc:l.length≤c)(hl:kI.C w A l.length l)(hd:l.length≤d)(hm:kI.C w B l.length l)(hn:cL l≤1000000000):
 Calls Tryd.prog 20 #[.slice A l.length c,.slice B l.length d] w fun e w'=>e = .returned (.bool true)∧Below w.heap.size w w':=by
 have h:=qFB l l hn
 rw[yG] at h
 exact qEk _ A B c d l l true w hc hl hd hm h
set_option maxRecDepth 100000 in
theorem short_calls (A:Option Addr)(c:Nat)(b:List Int)(w:World)(hT:YtobldeamemmokaaDoorTabs.Tab w)(hc:b.length≤c)(hC:(Kd.int .u8).C w A b.length b)(hb:Bs b):
 Calls Tryd.prog 5 #[.slice A b.length c] w fun e w'=>e = .returned (.bool true)∧Below w.heap.size w w':=by
 have HQ:=am (fun(W:World) (hW:Below w.heap.size w W)=>Q.lives_calls W (hT.below hW))
 have HB:=am (Below.refl w.heap.size w)
 have hmx:b.length≤9223372036854775807:=Kd.C_max hC
 have HL:=am (fun(W:World) (hW:Below w.heap.size w W)=>qAm A b.length c W hmx)
 by_cases hlong:20000<(b.length:Int)
 ·rw[decide_eq_true hlong] at HL
  clear hT hc hC hb hmx hlong
  go_enter Tryd.func5,Tryd.ntmps5
  go_wp2_with (first
   | (go_at_call 18;refine(HL.out _ mCh).mono ?_;rintro e wn ⟨rfl,hb⟩;have n0_:=am (show Below w.heap.size w wn from qB mCh hb);clear HB hb;have HB:=n0_;clear n0_)
   | (go_at_call 11;refine(HQ.out _ mCh).mono ?_;rintro e wn ⟨rfl,hb⟩;have n0_:=am (show Below w.heap.size w wn from qB mCh hb);clear HB hb;have HB:=n0_;clear n0_))
  go_ret
  exact mA5
 rw[decide_eq_false hlong] at HL
 obtain⟨kr,r,hrun,hR⟩:=qGR (k:=1999999) ofK rfl hb mDj
 have HX:=am (fun(W:World) (hW:Below w.heap.size w W)=>xJ 300 2000000 kr A c b 0 W (hT.below hW) hc (Kd.C_below hC hW) (Int.le_refl 0) mDj r hrun)
 have bad:(∃ err:Int,(err==0)=false∧∀ W e W',qAR W r e W'→e = .returned (.tuple #[.slice none 0 0,.int .i64 0,.int .i64 err]))→Calls Tryd.prog 5 #[.slice A b.length c] w fun e w'=>e = .returned (.bool true)∧Below w.heap.size w w':=by
  rintro⟨err,he,hbad⟩
  have HBAD:=am hbad
  clear hT hc hC hb hmx hlong hrun hR hbad
  go_enter Tryd.func5,Tryd.ntmps5
  go_wp2_with (first
   | (go_at_call 18;refine(HL.out _ mCh).mono ?_;rintro e wn ⟨rfl,hb⟩;have n0_:=am (show Below w.heap.size w wn from qB mCh hb);clear HB hb;have HB:=n0_;clear n0_)
   | (go_at_call 12;refine(HX.out _ mCh).mono ?_;rintro e wn ⟨h9,hb⟩;have h9:=HBAD.out _ _ _ h9;subst h9;have n0_:=am (show Below w.heap.size w wn from qB mCh hb);clear HB hb;have HB:=n0_;clear n0_)
   | (go_at_call 11;refine(HQ.out _ mCh).mono ?_;rintro e wn ⟨rfl,hb⟩;have n0_:=am (show Below w.heap.size w wn from qB mCh hb);clear HB hb;have HB:=n0_;clear n0_))
  go_ret
  exact mA5
 cases r with
 | none=>exact bad ⟨4,rfl,fun W e W' h=>h⟩
 | some R =>
   obtain⟨l,nx,dd,dds⟩:=R
   obtain⟨hA,hn1,hn2,hdd,hds⟩:=hR _ rfl
   simp only at hA hn1 hn2 hdd hds
   by_cases hdeep:1000<dd
   ·refine bad ⟨3,rfl,fun W e W' h=>?_⟩
    simp only[qAR,if_pos hdeep] at h
    exact h
   clear bad
   have hr:=qIo ofK hA
   have hcn:=qEv 300 l hA
   have hcl:cL l≤1000000000:=mDj
   have hm:qB4 300 l=true:=(qBK ofK hr).2 ⟨mDj,hA⟩
   obtain⟨bs,kf,hp⟩:=qEK (k:=1999999) ofK rfl hA mDj mDj
   have hpl:=hp.len
   obtain⟨T,hT3⟩:=ey_ (bs.length)
   have hBs:Bs bs:=⟨hp.by_,mDj⟩
   obtain⟨kr2,hrun2⟩:=hp.back [] [] (by rw[List.append_nil];exact hBs)
   rw[List.append_nil,List.nil_append,hT3] at hrun2
   simp only[List.length_nil] at hrun2
   have hrun2:zT 300 2000000 bs kr2 [zO] 0 0 false=some (some (l,(T:Int),(pL 0 l:Int),zf l)):=by
    have e0:((0:Nat):Int)+(T:Int)=(T:Int):=mDj
    rw[e0] at hrun2
    exact hrun2
   have hd2:¬ 1000<(pL 0 l:Int):=mDj
   have HP:=am (fun(W:World) (hW:Below w.heap.size w W) (A8:Option Addr) (c8:Nat) (h8:kI.R 43 W w.heap.size (fun _=>True) (.slice A8 l.length c8) l)=>qAo A8 c8 l W (hT.below hW) (Kd.R_reads' h8).2.1 (Kd.R_reads' h8).2.2 hr hcl hm hp)
   have HM:=am (fun(W:World) (hW:Below w.heap.size w W) (A8:Option Addr) (c8:Nat) (h8:kI.R 43 W w.heap.size (fun _=>True) (.slice A8 l.length c8) l)=>yU A8 c8 l W (hT.below hW) (Kd.R_reads' h8).2.1 (Kd.R_reads' h8).2.2 hr hcl)
   rw[hm] at HM
   have HX2:=am (fun(W:World) (hW:Below w.heap.size w W) (A8:Option Addr) (c8:Nat) (h8:(Kd.int .u8).R 5 W w.heap.size (fun _=>True) (.slice A8 bs.length c8) bs)=>xJ 300 2000000 kr2 A8 c8 bs 0 W (hT.below hW) (Kd.R_reads' h8).2.1 (Kd.R_reads' h8).2.2 (Int.le_refl 0) mDj _ hrun2)
   rw[hT3] at HX2
   have HSM:=am (fun(W:World) (A8 A9:Option Addr) (c8 c9:Nat) (h8:kI.R 43 W w.heap.size (fun _=>True) (.slice A8 l.length c8) l) (h9:kI.R 43 W w.heap.size (fun _=>True) (.slice A9 l.length c9) l)=>qBm A8 A9 c8 c9 l W (Kd.R_reads' h8).2.1 (Kd.R_reads' h8).2.2 (Kd.R_reads' h9).2.1 (Kd.R_reads' h9).2.2 hcl)
   have HT3:=am hT3
   have HD:=am (And.intro hdeep hd2)
   have dle:decide ((T:Int)≤nx)=true:=decide_eq_true mDj
   have hmT:T≤9223372036854775807:=mDj
   clear hT hc hC hb hmx hlong hrun hR hA hn1 hn2 hdd hds hdeep hr hcn hcl hm hp hpl hBs hrun2 hd2 hT3
   go_enter Tryd.func5,Tryd.ntmps5
   go_wp2_with (first
    | (go_at_call 18;refine(HL.out _ mCh).mono ?_;rintro e wn ⟨rfl,hb⟩;have n0_:=am (show Below w.heap.size w wn from qB mCh hb);clear HB hb HL;have HB:=n0_;clear n0_)
    | (go_at_call 12;refine(HX.out _ mCh).mono ?_;rintro e wn ⟨h9,hb⟩;simp only[qAR,if_neg (show ¬ 1000<dd by have h8:=HD.out.1;omega)] at h9;obtain⟨A1,c1,rfl,h9⟩:=h9;have RL:=am (Kd.R_lower h9 (show w.heap.size≤_ from by have h8:=HB.out.size;exact h8));have n0_:=am (show Below w.heap.size w wn from qB mCh hb);clear HB hb h9 HX;have HB:=n0_;clear n0_)
    | (go_at_call 10;refine(HP.out _ mCh A1 c1 (ky_ RL.out)).mono ?_;rintro e wn ⟨v,rfl,hv,hb⟩;obtain⟨A8,c8,rfl⟩:=Kd.R_slice hv;rw[HT3.out] at hv ⊢;have RB:=am (Kd.R_lower hv (show w.heap.size≤_ from by have h9:=HB.out.size;exact h9));have n0_:=am (show Below w.heap.size w wn from qB mCh hb);have n1_:=am (Kd.R_below (show kI.R 43 _ w.heap.size (fun _=>True) (.slice A1 l.length c1) l by (with_reducible repeat (first|apply Kd.R_drewN|apply Kd.R_drew));exact RL.out) hb);clear HB RL hb hv HP;have HB:=n0_;have RL:=n1_;clear n0_ n1_)
    | (go_at_call 12;refine(HX2.out _ mCh A8 c8 (ky_ RB.out)).mono ?_;rintro e wn ⟨h9,hb⟩;simp only[qAR,if_neg (show ¬ 1000<(pL 0 l:Int) by have h8:=HD.out.2;omega)] at h9;obtain⟨A2,c2,rfl,h9⟩:=h9;have RM:=am (Kd.R_lower h9 (show w.heap.size≤_ from by have h8:=HB.out.size;exact h8));have n0_:=am (show Below w.heap.size w wn from qB mCh hb);have n1_:=am (Kd.R_below (show kI.R 43 _ w.heap.size (fun _=>True) (.slice A1 l.length c1) l by (with_reducible repeat (first|apply Kd.R_drewN|apply Kd.R_drew));exact RL.out) hb);clear HB RL RB hb h9 HX2;have HB:=n0_;have RL:=n1_;clear n0_ n1_)
    | (go_at_call 19;refine(HM.out _ mCh A1 c1 (ky_ RL.out)).mono ?_;rintro e wn ⟨rfl,hb⟩;have n0_:=am (show Below w.heap.size w wn from qB mCh hb);have n1_:=am (Kd.R_below (show kI.R 43 _ w.heap.size (fun _=>True) (.slice A1 l.length c1) l by (with_reducible repeat (first|apply Kd.R_drewN|apply Kd.R_drew));exact RL.out) hb);have n2_:=am (Kd.R_below (show kI.R 43 _ w.heap.size (fun _=>True) (.slice A2 l.length c2) l by (with_reducible repeat (first|apply Kd.R_drewN|apply Kd.R_drew));exact RM.out) hb);clear HB RL RM hb HM;have HB:=n0_;have RL:=n1_;have RM:=n2_;clear n0_ n1_ n2_)
    | (go_at_call 20;refine(HSM.out _ A1 A2 c1 c2 (ky_ RL.out) (ky_ RM.out)).mono ?_;rintro e wn ⟨rfl,hb⟩;have n0_:=am (show Below w.heap.size w wn from qB mCh hb);clear HB RL RM hb HSM;have HB:=n0_;clear n0_)
    | (go_at_call 11;refine(HQ.out _ mCh).mono ?_;rintro e wn ⟨rfl,hb⟩;have n0_:=am (show Below w.heap.size w wn from qB mCh hb);clear HB hb;have HB:=n0_;clear n0_))
   go_ret
   exact mA5
end Go.Proofs.YtobldeamemmokaaDoor.P
