import Derived.Test.YtobldeamemmokaaDoorZa05
import Derived.Test.YtobldeamemmokaaDoorZa12
import Derived.Test.YtobldeamemmokaaDoorZa06
set_option linter.unusedVariables false
set_option linter.unusedSimpArgs false
set_option maxHeartbeats 64000000
namespace Go.Proofs.YtobldeamemmokaaDoor.P
open Go.Proofs.YtobldeamemmokaaDoorTabs
open Go.Proofs.YtobldeamemmokaaDoorCaps
open Go.RowKit Go.Proofs.YtobldeamemmokaaDoorW.PrintWords Go.Proofs.YtobldeamemmokaaDoorW.PrintLast Go.Proofs.YtobldeamemmokaaDoorW.PrintMore
attribute [local go_sem] jh jj xE xF jb jZ jv jt   -- for this text's walks alone
theorem jM:(Tryd.prog.info? 5).map (fun i=>(i.zero,i.size,i.bytes))=some (some (.int .u8 0),1,1):=mDh
theorem info39:(Tryd.prog.info? 39).map (fun i=>(i.zero,i.size,i.bytes))=some (some (.int .u8 0),1,1):=mDh
def qCh.f (l0:List Int):Option (List Int):=if ([]:List Int).length+l0.length<140737488355328 then (some (([]:List Int)++l0)) else (none)
def qX.l0:Nat→Int→List Int→Option (List Int)
 | 0,_,_=>none
 | k+1,x0,x3=>if x0≥128 then (if x3.length<140737488355328 then (qX.l0 k (x0 / 128) (x3 ++ [Go.bits .or .u8 ((x0) % 256) 128])) else (none)) else (if x3.length<140737488355328 then (some (x3 ++ [(x0) % 256])) else (none))
def qX.f (k:Nat)(a0:Int):Option (List Int):=qX.l0 k a0 ([]:List Int)
set_option maxRecDepth 100000 in
theorem qX.calls (k:Nat)(a0:Int)(r:List Int)(w:World)(h:qX.f k a0=some r):
 Calls Tryd.prog 41 #[.int .u64 a0] w fun e w'=>∃ v0_:Value,e = .returned (v0_)∧Kd.R (Kd.int .u8) 5 w' w.heap.size (fun _=>True) v0_ r∧Below w.heap.size w w':=by
 have HB:=am (Below.refl w.heap.size w)
 have H:=h
 unfold qX.f at H
 clear h
 have H':=am H
 clear H
 go_enter Tryd.func41,Tryd.ntmps41
 go_wp2
 go_loopg [0,3] k (fun kq v0 v3 w'=>∃(x0_1:Int) (x3_1:List Int),v0 = .int .u64 x0_1∧Aside0 (qX.l0 kq x0_1 x3_1=some r)∧Aside0 (kq≤k)∧Aside0 (Kd.R (Kd.int .u8) 5 w' w.heap.size (fun _=>True) v3 x3_1)∧Aside0 (Below w.heap.size w w'))
 case atStart=>exact⟨(a0),(([]:List Int)),mDm,H',⟨Nat.le_refl _⟩,⟨by first|exact Kd.R_nil _ _ _ _ _|exact Kd.N_nil _ _ _ _ _|exact Kd.V_nil _ _ _ _ _|exact Kd.Q_nil _ _ _ _ _|exact Kd.S_nil _ _ _ _ _⟩,⟨mCk⟩⟩
 case round =>
  clear H'
  obtain⟨x0_1,x3_1,rfl,HA,HK1,HO_3,HB⟩:=hrel
  cases gk with
  | zero=>exact absurd HA.out (by simp[qX.l0])
  | succ k1 =>
    have H:=HA.out
    clear HA
    simp only[qX.l0] at H
    by_cases c2:x0_1≥128
    ·rw[if_pos c2] at H
     have c2b0:decide (128≤x0_1)=true:=decide_eq_true c2
     clear c2
     by_cases c3:x3_1.length<140737488355328
     ·rw[if_pos c3] at H
      have LMc3:=am c3
      clear c3
      obtain⟨y104,hy104⟩:∃ y_:List Int,y_=(x3_1 ++ [Go.bits .or .u8 ((x0_1) % 256) 128]):=⟨_,rfl⟩
      replace H:(qX.l0 k1 (x0_1 / 128) y104)=some r:=by first|(rw[hy104];with_reducible exact H)|(have H2_:=(Option.bind_some _ _).symm.trans H;rw[hy104];with_reducible exact H2_)|(have H2_:=(Option.bind_some _ _).symm.trans H;with_reducible exact H2_)|with_reducible exact H|(rw[hy104];exact H)|exact H
      have Ny104:=am hy104
      clear hy104
      have H':=am H
      clear H
      go_wp2_with (first|((with_reducible refine qZ (b:=.append) (xs:=#[.tmp 8,.tmp 12]) rfl ?_);at_builtin;refine Kd.R_append (Kd.int .u8) (w0:=w) w.heap.size rfl (.tmp 8) (.tmp 12) 24 5 (.int .u8 0) 1 rfl Tryd.underlying24 jM rfl mDl mDj u3 x3_1 (Go.bits .or .u8 ((x0_1) % 256) 128) [.int .u8 (Go.bits .or .u8 ((x0_1) % 256) 128)] (fun _=>True) (fun _=>False) rfl rfl ?aP (fun _ hk=>hk.elim) ?aF ?aO ?aB ?aS ?aL ?_;(case aP=>exact rfl);(case aB=>exact mCk);(case aF=>exact(fun _ _=>trivial));(case aO=>exact(ky_ HO_3.out));(case aS=>exact(qM mCk));(case aL=>have:=LMc3.out;omega);intro v105 w4 ho hb hg hat;rw[← Ny104.out] at ho;have n0_:=am (hb);have n1_:=am (ho);clear HB;clear HO_3;have HB:=n0_;have HO106:=n1_;clear n0_ n1_;clear ho hb hg hat))
      go_roundg k1
      case measure=>have:=HK1.out;omega
      case rel=>exact⟨(x0_1 / 128),(y104),mDm,H',⟨by have:=HK1.out;omega⟩,⟨by (with_reducible repeat (first|apply Kd.R_alloc|apply Kd.R_drewN|apply Kd.R_drew));exact HO106.out⟩,⟨mCk⟩⟩
     ·rw[if_neg c3] at H
      exact absurd H mDp
    ·rw[if_neg c2] at H
     have c2b0:decide (128≤x0_1)=false:=decide_eq_false c2
     clear c2
     by_cases c5:x3_1.length<140737488355328
     ·rw[if_pos c5] at H
      have LMc5:=am c5
      clear c5
      obtain⟨y107,hy107⟩:∃ y_:List Int,y_=(x3_1 ++ [(x0_1) % 256]):=⟨_,rfl⟩
      replace H:(some y107)=some r:=by first|(rw[hy107];with_reducible exact H)|(have H2_:=(Option.bind_some _ _).symm.trans H;rw[hy107];with_reducible exact H2_)|(have H2_:=(Option.bind_some _ _).symm.trans H;with_reducible exact H2_)|with_reducible exact H|(rw[hy107];exact H)|exact H
      have Ny107:=am hy107
      clear hy107
      obtain rfl:=Option.some.inj H
      go_wp2_with (first|((with_reducible refine qZ (b:=.append) (xs:=#[.tmp 14,.tmp 17]) rfl ?_);at_builtin;refine Kd.R_append (Kd.int .u8) (w0:=w) w.heap.size rfl (.tmp 14) (.tmp 17) 24 5 (.int .u8 0) 1 rfl Tryd.underlying24 jM rfl mDl mDj u3 x3_1 ((x0_1) % 256) [.int .u8 ((x0_1) % 256)] (fun _=>True) (fun _=>False) rfl rfl ?aP (fun _ hk=>hk.elim) ?aF ?aO ?aB ?aS ?aL ?_;(case aP=>exact rfl);(case aB=>exact mCk);(case aF=>exact(fun _ _=>trivial));(case aO=>exact(ky_ HO_3.out));(case aS=>exact(qM mCk));(case aL=>have:=LMc5.out;omega);intro v108 w6 ho hb hg hat;rw[← Ny107.out] at ho;have n0_:=am (hb);have n1_:=am (ho);clear HB;clear HO_3;have HB:=n0_;have HO109:=n1_;clear n0_ n1_;clear ho hb hg hat))
      go_ret
      exact⟨_,by first|rfl|(simp[qk,qj] <;> rfl)|(simp[*,qk,qj] <;> rfl),ky_ HO109.out,mCk⟩
     exact mB3
def jE.f (k:Nat)(a0:Int):Option (List Int):=if a0<256 then (some (([(a0) % 256]:List Int))) else ((some (([(a0 / 256) % 256]:List Int):List Int)).bind fun y113=>((qX.f k (IntKind.u64.wrap (Go.bits .and .u16 a0 255))).bind fun t116=>(if y113.length+t116.length<140737488355328 then (some (y113++t116)) else (none))))
set_option maxRecDepth 100000 in
theorem jE.calls (k:Nat)(a0:Int)(r:List Int)(w:World)(h:jE.f k a0=some r):
 Calls Tryd.prog 28 #[.int .u16 a0] w fun e w'=>∃ v0_:Value,e = .returned (v0_)∧Kd.R (Kd.int .u8) 5 w' w.heap.size (fun _=>True) v0_ r∧Below w.heap.size w w':=by
 have HB:=am (Below.refl w.heap.size w)
 have H:=h
 unfold jE.f at H
 clear h
 by_cases c2:a0<256
 ·rw[if_pos c2] at H
  have c2b0:decide (a0<256)=true:=decide_eq_true c2
  clear c2
  obtain⟨y110,hy110⟩:∃ y_:List Int,y_=(([(a0) % 256]:List Int)):=⟨_,rfl⟩
  replace H:(some y110)=some r:=by first|(rw[hy110];with_reducible exact H)|(have H2_:=(Option.bind_some _ _).symm.trans H;rw[hy110];with_reducible exact H2_)|(have H2_:=(Option.bind_some _ _).symm.trans H;with_reducible exact H2_)|with_reducible exact H|(rw[hy110];exact H)|exact H
  have Ny110:=am hy110
  clear hy110
  obtain rfl:=Option.some.inj H
  go_enter Tryd.func28,Tryd.ntmps28
  go_wp2_with (first|((with_reducible refine qE (N:=7) rfl ?_);refine Kd.R_lit (Kd.int .u8) _ 5 ?hg (N:=7) ?hd (xs:=([(a0) % 256]:List Int)) (inner:=[.int .u8 ((a0) % 256)]) (ok:=fun _=>True) (okp:=fun _=>True) ?hr ?hp (fun _ hk=>hk) trivial (Below.refl _ _) (Nat.le_refl _) mDp ?_;(case hd=>rfl);(case hg=>rfl);(case hr=>first|(go_simp;done)|(go_simp;rfl));(case hp=>exact(Reps.one (show Kd.M (Kd.int .u8) _ _ _ ((a0) % 256) [.int .u8 ((a0) % 256)] from rfl) (Reps.none _ _)));intro v111 w3 ho4 hb hg_ hnew_;clear hg_ hnew_;(first|rw[← Ny110.out] at ho4|(simp only[Int.reduceToNat] at ho4;rw[← Ny110.out] at ho4));have n0_:=am (Kd.R_lower ho4 (qM mCk));have n1_:=am (qB mCk hb);clear HB;have HO112:=n0_;have HB:=n1_;clear n0_ n1_;clear hb ho4))
  go_ret
  exact⟨_,by first|rfl|(simp[qk,qj] <;> rfl)|(simp[*,qk,qj] <;> rfl),ky_ HO112.out,mCk⟩
 ·rw[if_neg c2] at H
  have c2b0:decide (a0<256)=false:=decide_eq_false c2
  clear c2
  obtain⟨y113,hy113⟩:∃ y_:List Int,y_=(([(a0 / 256) % 256]:List Int)):=⟨_,rfl⟩
  replace H:((qX.f k (IntKind.u64.wrap (Go.bits .and .u16 a0 255))).bind fun t116=>(if y113.length+t116.length<140737488355328 then (some (y113++t116)) else (none)))=some r:=by first|(rw[hy113];with_reducible exact H)|(have H2_:=(Option.bind_some _ _).symm.trans H;rw[hy113];with_reducible exact H2_)|(have H2_:=(Option.bind_some _ _).symm.trans H;with_reducible exact H2_)|with_reducible exact H|(rw[hy113];exact H)|exact H
  have Ny113:=am hy113
  clear hy113
  replace H:=Option.bind_eq_some_iff.mp H
  obtain⟨t116,A50,H⟩:=H
  try dsimp only at H
  have A5:=am A50
  clear A50
  by_cases c6:y113.length+t116.length<140737488355328
  ·rw[if_pos c6] at H
   have LMc6:=am c6
   clear c6
   obtain⟨y119,hy119⟩:∃ y_:List Int,y_=(y113++t116):=⟨_,rfl⟩
   replace H:(some y119)=some r:=by first|(rw[hy119];with_reducible exact H)|(have H2_:=(Option.bind_some _ _).symm.trans H;rw[hy119];with_reducible exact H2_)|(have H2_:=(Option.bind_some _ _).symm.trans H;with_reducible exact H2_)|with_reducible exact H|(rw[hy119];exact H)|exact H
   have Ny119:=am hy119
   clear hy119
   obtain rfl:=Option.some.inj H
   go_enter Tryd.func28,Tryd.ntmps28
   go_wp2_with (first|((with_reducible refine qE (N:=11) rfl ?_);refine Kd.R_lit (Kd.int .u8) _ 5 ?hg (N:=11) ?hd (xs:=([(a0 / 256) % 256]:List Int)) (inner:=[.int .u8 ((a0 / 256) % 256)]) (ok:=fun _=>True) (okp:=fun _=>True) ?hr ?hp (fun _ hk=>hk) trivial (Below.refl _ _) (Nat.le_refl _) mDp ?_;(case hd=>rfl);(case hg=>rfl);(case hr=>first|(go_simp;done)|(go_simp;rfl));(case hp=>exact(Reps.one (show Kd.M (Kd.int .u8) _ _ _ ((a0 / 256) % 256) [.int .u8 ((a0 / 256) % 256)] from rfl) (Reps.none _ _)));intro v114 w7 ho8 hb hg_ hnew_;clear hg_ hnew_;(first|rw[← Ny113.out] at ho8|(simp only[Int.reduceToNat] at ho8;rw[← Ny113.out] at ho8));have n0_:=am (Kd.R_lower ho8 (qM mCk));have n1_:=am (qB mCk hb);clear HB;have HO115:=n0_;have HB:=n1_;clear n0_ n1_;clear hb ho8)|((with_reducible refine qO (f:=41) rfl ?_);refine qo (some 15) rfl rfl Tryd.func41 mDh rfl #[.int .u64 (IntKind.u64.wrap (Go.bits .and .u16 a0 255))] rfl mCe ?_;(with_reducible refine(qX.calls k (IntKind.u64.wrap (Go.bits .and .u16 a0 255)) t116 _ A5.out).mono ?_);rintro e w9 ⟨v117,rfl,ho0,hb⟩;refine⟨_,rfl,?_⟩;have n0_:=am (Kd.R_elder' (ky_ HO115.out) (Kd.R_base ho0) hb);have n1_:=am (Kd.R_lower (Kd.R_new' ho0 (Kd.R_lt (ky_ HO115.out))) (qM mCk));have n2_:=am (qB mCk hb);clear HO115;clear HB;have HO115:=n0_;have HO118:=n1_;have HB:=n2_;clear n0_ n1_ n2_;(try clear hb);(try clear hb2);(try clear hk);(try clear hi);(try clear ho0);obtain⟨Ao11,co11,eo11⟩:=Kd.R_slice HO118.out;subst eo11)|((with_reducible refine qZ (b:=.append) (xs:=#[.tmp 11,.tmp 15]) rfl ?_);at_builtin;refine Kd.R_append_rows (Kd.int .u8) (w0:=w) w.heap.size rfl (.tmp 11) (.tmp 15) 24 5 (.int .u8 0) 1 rfl Tryd.underlying24 jM rfl mDl mDj v114 y113 t116 _ _ _ (fun k_=>some k_≠(.slice Ao11 t116.length co11:Value).ownBlock) (fun _=>False) rfl rfl ?aO ?aR (fun _ _ h=>h) (fun _ h=>h.elim) ?aF ?aB ?aS ?aL ?_;(case aR=>repeat (first|exact(Kd.R_reads' HO118.out).2.2|(with_reducible refine Kd.C_alloc ?_ _)|(with_reducible refine Kd.C_drewN ?_ _)|(with_reducible refine Kd.C_drew ?_)));(case aB=>exact mCk);(case aF=>exact(fun k_ hk=>Kd.fresh' (Kd.R_lt (ky_ HO118.out)) k_ hk));(case aO=>exact(by (with_reducible repeat (first|apply Kd.R_alloc|apply Kd.R_drewN|apply Kd.R_drew));exact Kd.R_mono HO115.out (fun _ hk=>hk.2)));(case aS=>exact(qM mCk));(case aL=>have:=LMc6.out;omega);intro v120 w10 ho hb hg hat;rw[← Ny119.out] at ho;have n0_:=am (Kd.R_after (ok:=(fun _=>True)) (ky_ HO118.out) hg hat);have n1_:=am (hb);have n2_:=am (ho);clear HO118;clear HB;clear HO115;have HO118:=n0_;have HB:=n1_;have HO121:=n2_;clear n0_ n1_ n2_;clear ho hb hg hat))
   go_ret
   exact⟨_,by first|rfl|(simp[qk,qj] <;> rfl)|(simp[*,qk,qj] <;> rfl),by (with_reducible repeat (first|apply Kd.R_alloc|apply Kd.R_drewN|apply Kd.R_drew));exact Kd.R_mono HO121.out (fun _ hk=>trivial),mCk⟩
  exact mB4
def qu.l0:Nat→Int→List Int→Option (List Int)
 | 0,_,_=>none
 | k+1,x0,x3=>if x0<(-64) then (if x3.length<140737488355328 then (qu.l0 k (x0 / 128) (x3 ++ [Go.bits .or .u8 ((x0) % 256) 128])) else (none)) else (if x0≥64 then (if x3.length<140737488355328 then (qu.l0 k (x0 / 128) (x3 ++ [Go.bits .or .u8 ((x0) % 256) 128])) else (none)) else (if x3.length<140737488355328 then (some (x3 ++ [Go.bits .and .u8 ((x0) % 256) 127])) else (none)))
def qu.f (k:Nat)(a0:Int):Option (List Int):=qu.l0 k a0 ([]:List Int)
set_option maxRecDepth 100000 in
theorem qu.calls (k:Nat)(a0:Int)(r:List Int)(w:World)(h:qu.f k a0=some r):
 Calls Tryd.prog 44 #[.int .i64 a0] w fun e w'=>∃ v0_:Value,e = .returned (v0_)∧Kd.R (Kd.int .u8) 5 w' w.heap.size (fun _=>True) v0_ r∧Below w.heap.size w w':=by
 have HB:=am (Below.refl w.heap.size w)
 have H:=h
 unfold qu.f at H
 clear h
 have H':=am H
 clear H
 go_enter Tryd.func44,Tryd.ntmps44
 go_wp2
 go_loopg [0,3] k (fun kq v0 v3 w'=>∃(x0_1:Int) (x3_1:List Int),v0 = .int .i64 x0_1∧Aside0 (qu.l0 kq x0_1 x3_1=some r)∧Aside0 (kq≤k)∧Aside0 (Kd.R (Kd.int .u8) 5 w' w.heap.size (fun _=>True) v3 x3_1)∧Aside0 (Below w.heap.size w w'))
 case atStart=>exact⟨(a0),(([]:List Int)),mDm,H',⟨Nat.le_refl _⟩,⟨by first|exact Kd.R_nil _ _ _ _ _|exact Kd.N_nil _ _ _ _ _|exact Kd.V_nil _ _ _ _ _|exact Kd.Q_nil _ _ _ _ _|exact Kd.S_nil _ _ _ _ _⟩,⟨mCk⟩⟩
 case round =>
  clear H'
  obtain⟨x0_1,x3_1,rfl,HA,HK1,HO_3,HB⟩:=hrel
  cases gk with
  | zero=>exact absurd HA.out (by simp[qu.l0])
  | succ k1 =>
    have H:=HA.out
    clear HA
    simp only[qu.l0] at H
    by_cases c2:x0_1<(-64)
    ·rw[if_pos c2] at H
     have c2b0:decide (x0_1<(-64))=true:=decide_eq_true c2
     clear c2
     by_cases c3:x3_1.length<140737488355328
     ·rw[if_pos c3] at H
      have LMc3:=am c3
      clear c3
      obtain⟨y241,hy241⟩:∃ y_:List Int,y_=(x3_1 ++ [Go.bits .or .u8 ((x0_1) % 256) 128]):=⟨_,rfl⟩
      replace H:(qu.l0 k1 (x0_1 / 128) y241)=some r:=by first|(rw[hy241];with_reducible exact H)|(have H2_:=(Option.bind_some _ _).symm.trans H;rw[hy241];with_reducible exact H2_)|(have H2_:=(Option.bind_some _ _).symm.trans H;with_reducible exact H2_)|with_reducible exact H|(rw[hy241];exact H)|exact H
      have Ny241:=am hy241
      clear hy241
      have H':=am H
      clear H
      go_wp2_with (first|((with_reducible refine qZ (b:=.append) (xs:=#[.tmp 12,.tmp 16]) rfl ?_);at_builtin;refine Kd.R_append (Kd.int .u8) (w0:=w) w.heap.size rfl (.tmp 12) (.tmp 16) 24 5 (.int .u8 0) 1 rfl Tryd.underlying24 jM rfl mDl mDj u3 x3_1 (Go.bits .or .u8 ((x0_1) % 256) 128) [.int .u8 (Go.bits .or .u8 ((x0_1) % 256) 128)] (fun _=>True) (fun _=>False) rfl rfl ?aP (fun _ hk=>hk.elim) ?aF ?aO ?aB ?aS ?aL ?_;(case aP=>exact rfl);(case aB=>exact mCk);(case aF=>exact(fun _ _=>trivial));(case aO=>exact(ky_ HO_3.out));(case aS=>exact(qM mCk));(case aL=>have:=LMc3.out;omega);intro v242 w4 ho hb hg hat;rw[← Ny241.out] at ho;have n0_:=am (hb);have n1_:=am (ho);clear HB;clear HO_3;have HB:=n0_;have HO243:=n1_;clear n0_ n1_;clear ho hb hg hat))
      go_roundg k1
      case measure=>have:=HK1.out;omega
      case rel=>exact⟨(x0_1 / 128),(y241),mDm,H',⟨by have:=HK1.out;omega⟩,⟨by (with_reducible repeat (first|apply Kd.R_alloc|apply Kd.R_drewN|apply Kd.R_drew));exact HO243.out⟩,⟨mCk⟩⟩
     ·rw[if_neg c3] at H
      exact absurd H mDp
    ·rw[if_neg c2] at H
     have c2b0:decide (x0_1<(-64))=false:=decide_eq_false c2
     clear c2
     by_cases c5:x0_1≥64
     ·rw[if_pos c5] at H
      have c5b0:decide (64≤x0_1)=true:=decide_eq_true c5
      clear c5
      by_cases c6:x3_1.length<140737488355328
      ·rw[if_pos c6] at H
       have LMc6:=am c6
       clear c6
       obtain⟨y244,hy244⟩:∃ y_:List Int,y_=(x3_1 ++ [Go.bits .or .u8 ((x0_1) % 256) 128]):=⟨_,rfl⟩
       replace H:(qu.l0 k1 (x0_1 / 128) y244)=some r:=by first|(rw[hy244];with_reducible exact H)|(have H2_:=(Option.bind_some _ _).symm.trans H;rw[hy244];with_reducible exact H2_)|(have H2_:=(Option.bind_some _ _).symm.trans H;with_reducible exact H2_)|with_reducible exact H|(rw[hy244];exact H)|exact H
       have Ny244:=am hy244
       clear hy244
       have H':=am H
       clear H
       go_wp2_with (first|((with_reducible refine qZ (b:=.append) (xs:=#[.tmp 12,.tmp 16]) rfl ?_);at_builtin;refine Kd.R_append (Kd.int .u8) (w0:=w) w.heap.size rfl (.tmp 12) (.tmp 16) 24 5 (.int .u8 0) 1 rfl Tryd.underlying24 jM rfl mDl mDj u3 x3_1 (Go.bits .or .u8 ((x0_1) % 256) 128) [.int .u8 (Go.bits .or .u8 ((x0_1) % 256) 128)] (fun _=>True) (fun _=>False) rfl rfl ?aP (fun _ hk=>hk.elim) ?aF ?aO ?aB ?aS ?aL ?_;(case aP=>exact rfl);(case aB=>exact mCk);(case aF=>exact(fun _ _=>trivial));(case aO=>exact(ky_ HO_3.out));(case aS=>exact(qM mCk));(case aL=>have:=LMc6.out;omega);intro v245 w7 ho hb hg hat;rw[← Ny244.out] at ho;have n0_:=am (hb);have n1_:=am (ho);clear HB;clear HO_3;have HB:=n0_;have HO246:=n1_;clear n0_ n1_;clear ho hb hg hat))
       go_roundg k1
       case measure=>have:=HK1.out;omega
       case rel=>exact⟨(x0_1 / 128),(y244),mDm,H',⟨by have:=HK1.out;omega⟩,⟨by (with_reducible repeat (first|apply Kd.R_alloc|apply Kd.R_drewN|apply Kd.R_drew));exact HO246.out⟩,⟨mCk⟩⟩
      exact mB4
     ·rw[if_neg c5] at H
      have c5b0:decide (64≤x0_1)=false:=decide_eq_false c5
      clear c5
      by_cases c8:x3_1.length<140737488355328
      ·rw[if_pos c8] at H
       have LMc8:=am c8
       clear c8
       obtain⟨y247,hy247⟩:∃ y_:List Int,y_=(x3_1 ++ [Go.bits .and .u8 ((x0_1) % 256) 127]):=⟨_,rfl⟩
       replace H:(some y247)=some r:=by first|(rw[hy247];with_reducible exact H)|(have H2_:=(Option.bind_some _ _).symm.trans H;rw[hy247];with_reducible exact H2_)|(have H2_:=(Option.bind_some _ _).symm.trans H;with_reducible exact H2_)|with_reducible exact H|(rw[hy247];exact H)|exact H
       have Ny247:=am hy247
       clear hy247
       obtain rfl:=Option.some.inj H
       go_wp2_with (first|((with_reducible refine qZ (b:=.append) (xs:=#[.tmp 18,.tmp 22]) rfl ?_);at_builtin;refine Kd.R_append (Kd.int .u8) (w0:=w) w.heap.size rfl (.tmp 18) (.tmp 22) 24 5 (.int .u8 0) 1 rfl Tryd.underlying24 jM rfl mDl mDj u3 x3_1 (Go.bits .and .u8 ((x0_1) % 256) 127) [.int .u8 (Go.bits .and .u8 ((x0_1) % 256) 127)] (fun _=>True) (fun _=>False) rfl rfl ?aP (fun _ hk=>hk.elim) ?aF ?aO ?aB ?aS ?aL ?_;(case aP=>exact rfl);(case aB=>exact mCk);(case aF=>exact(fun _ _=>trivial));(case aO=>exact(ky_ HO_3.out));(case aS=>exact(qM mCk));(case aL=>have:=LMc8.out;omega);intro v248 w9 ho hb hg hat;rw[← Ny247.out] at ho;have n0_:=am (hb);have n1_:=am (ho);clear HB;clear HO_3;have HB:=n0_;have HO249:=n1_;clear n0_ n1_;clear ho hb hg hat))
       go_ret
       exact⟨_,by first|rfl|(simp[qk,qj] <;> rfl)|(simp[*,qk,qj] <;> rfl),ky_ HO249.out,mCk⟩
      ·rw[if_neg c8] at H
       exact absurd H mDp
def zD.l0:Nat→Int→List Int→Int→Int→Option (List Int)
 | 0,_,_,_,_=>none
 | k+1,x0,x5,x7,x8=>if x8<x7 then (if 0≤(wrap64 (8*x8)) then (if x5.length<140737488355328 then (zD.l0 k x0 (x5 ++ [(shr .u64 x0 (wrap64 (8*x8))) % 256]) x7 (wrap64 (x8+1))) else (none)) else (none)) else (some x5)
def zD.f (k:Nat)(a0:Int)(a1:Int):Option (List Int):=zD.l0 k a0 ([]:List Int) a1 0
set_option maxRecDepth 100000 in
theorem zD.calls (k:Nat)(a0:Int)(a1:Int)(r:List Int)(w:World)(h:zD.f k a0 a1=some r):
 Calls Tryd.prog 46 #[.int .u64 a0,.int .i64 a1] w fun e w'=>∃ v0_:Value,e = .returned (v0_)∧Kd.R (Kd.int .u8) 5 w' w.heap.size (fun _=>True) v0_ r∧Below w.heap.size w w':=by
 have HB:=am (Below.refl w.heap.size w)
 have H:=h
 unfold zD.f at H
 clear h
 have H':=am H
 clear H
 go_enter Tryd.func46,Tryd.ntmps46
 go_wp2
 go_loopg [5,8] k (fun kq v5 v8 w'=>∃(x5_1:List Int) (x8_1:Int),v8 = .int .i64 x8_1∧Aside0 (zD.l0 kq a0 x5_1 a1 x8_1=some r)∧Aside0 (kq≤k)∧Aside0 (Kd.R (Kd.int .u8) 5 w' w.heap.size (fun _=>True) v5 x5_1)∧Aside0 (Below w.heap.size w w'))
 case atStart=>exact⟨(([]:List Int)),(0),mDm,H',⟨Nat.le_refl _⟩,⟨by first|exact Kd.R_nil _ _ _ _ _|exact Kd.N_nil _ _ _ _ _|exact Kd.V_nil _ _ _ _ _|exact Kd.Q_nil _ _ _ _ _|exact Kd.S_nil _ _ _ _ _⟩,⟨mCk⟩⟩
 case round =>
  clear H'
  try clear p2
  obtain⟨x5_1,x8_1,rfl,HA,HK1,HO_5,HB⟩:=hrel
  cases gk with
  | zero=>exact absurd HA.out (by simp[zD.l0])
  | succ k1 =>
    have H:=HA.out
    clear HA
    simp only[zD.l0] at H
    by_cases c3:x8_1<a1
    ·rw[if_pos c3] at H
     have c3b0:decide (x8_1<a1)=true:=decide_eq_true c3
     clear c3
     obtain⟨ji4,hji4⟩:∃ j_:Int,(wrap64 (8*x8_1))=j_:=⟨_,rfl⟩
     replace H:(if 0≤(ji4) then (if x5_1.length<140737488355328 then (zD.l0 k1 a0 (x5_1 ++ [(shr .u64 a0 (ji4)) % 256]) a1 (wrap64 (x8_1+1))) else (none)) else (none))=some r:=by first|(rw[hji4] at H;exact H)|(simp only[hji4] at H ⊢;exact H)
     have hji4w:(IntKind.i64.wrap (8*x8_1))=ji4:=(zX _).trans hji4
     by_cases c5:0≤(ji4)
     ·rw[if_pos c5] at H
      have c5b0:=eq_true c5
      have c5b1:decide (0≤(ji4))=true:=decide_eq_true c5
      clear c5
      obtain⟨ji6,hji6⟩:∃ j_:Int,(shr .u64 a0 (ji4))=j_:=⟨_,rfl⟩
      replace H:(if x5_1.length<140737488355328 then (zD.l0 k1 a0 (x5_1 ++ [(ji6) % 256]) a1 (wrap64 (x8_1+1))) else (none))=some r:=by first|(rw[hji6] at H;exact H)|(simp only[hji6] at H ⊢;exact H)
      have hji6_:(a0 / 2 ^ min (ji4).toNat 64)=ji6:=hji6
      have hji6z:(ji4)≤64→(a0 / 2 ^ (ji4).toNat)=ji6:=yB hji6
      by_cases c7:x5_1.length<140737488355328
      ·rw[if_pos c7] at H
       have LMc7:=am c7
       clear c7
       obtain⟨y250,hy250⟩:∃ y_:List Int,y_=(x5_1 ++ [(ji6) % 256]):=⟨_,rfl⟩
       replace H:(zD.l0 k1 a0 y250 a1 (wrap64 (x8_1+1)))=some r:=by first|(rw[hy250];with_reducible exact H)|(have H2_:=(Option.bind_some _ _).symm.trans H;rw[hy250];with_reducible exact H2_)|(have H2_:=(Option.bind_some _ _).symm.trans H;with_reducible exact H2_)|with_reducible exact H|(rw[hy250];exact H)|exact H
       have Ny250:=am hy250
       clear hy250
       have H':=am H
       clear H
       go_wp2_with (first|((with_reducible refine qZ (b:=.append) (xs:=#[.tmp 11,.tmp 17]) rfl ?_);at_builtin;refine Kd.R_append (Kd.int .u8) (w0:=w) w.heap.size rfl (.tmp 11) (.tmp 17) 24 5 (.int .u8 0) 1 rfl Tryd.underlying24 jM rfl mDl mDj u5 x5_1 ((ji6) % 256) [.int .u8 ((ji6) % 256)] (fun _=>True) (fun _=>False) rfl rfl ?aP (fun _ hk=>hk.elim) ?aF ?aO ?aB ?aS ?aL ?_;(case aP=>exact rfl);(case aB=>exact mCk);(case aF=>exact(fun _ _=>trivial));(case aO=>exact(ky_ HO_5.out));(case aS=>exact(qM mCk));(case aL=>have:=LMc7.out;omega);intro v251 w8 ho hb hg hat;rw[← Ny250.out] at ho;have n0_:=am (hb);have n1_:=am (ho);clear HB;clear HO_5;have HB:=n0_;have HO252:=n1_;clear n0_ n1_;clear ho hb hg hat))
       go_roundg k1
       case measure=>have:=HK1.out;omega
       case rel=>exact⟨(y250),(wrap64 (x8_1+1)),mDm,H',⟨by have:=HK1.out;omega⟩,⟨by (with_reducible repeat (first|apply Kd.R_alloc|apply Kd.R_drewN|apply Kd.R_drew));exact HO252.out⟩,⟨mCk⟩⟩
      exact mCc
     exact mB3
    ·rw[if_neg c3] at H
     have c3b0:decide (x8_1<a1)=false:=decide_eq_false c3
     clear c3
     obtain rfl:=Option.some.inj H
     go_wp2
     go_ret
     exact⟨_,by first|rfl|(simp[qk,qj] <;> rfl)|(simp[*,qk,qj] <;> rfl),ky_ HO_5.out,mCk⟩
def zw.f (a0:Int):Option (Bool):=if a0=127 then (some true) else (if a0=126 then (some true) else (if a0=125 then (some true) else (if a0=124 then (some true) else (if a0=123 then (some true) else (if a0=112 then (some true) else (if a0=111 then (some true) else (some false)))))))
set_option maxRecDepth 100000 in
theorem zw.calls (a0:Int)(r:Bool)(w:World)(h:zw.f a0=some r):
 Calls Tryd.prog 57 #[.int .u8 a0] w fun e w'=>e = .returned (.bool r)∧qf w w':=by
 have H:=h
 unfold zw.f at H
 clear h
 by_cases c2:a0=127
 ·rw[if_pos c2] at H
  have c2b0:(a0==127)=true:=beq_iff_eq.mpr c2
  have c2b1:(a0 != 127)=false:=bne_eq_false_iff_eq.mpr c2
  clear c2
  exact mA4
 ·rw[if_neg c2] at H
  have c2b0:(a0==127)=false:=beq_eq_false_iff_ne.mpr c2
  have c2b1:(a0 != 127)=true:=bne_iff_ne.mpr c2
  by_cases c3:a0=126
  ·rw[if_pos c3] at H
   have c3b0:(a0==126)=true:=beq_iff_eq.mpr c3
   have c3b1:(a0 != 126)=false:=bne_eq_false_iff_eq.mpr c3
   clear c3
   exact mA4
  ·rw[if_neg c3] at H
   have c3b0:(a0==126)=false:=beq_eq_false_iff_ne.mpr c3
   have c3b1:(a0 != 126)=true:=bne_iff_ne.mpr c3
   by_cases c4:a0=125
   ·rw[if_pos c4] at H
    have c4b0:(a0==125)=true:=beq_iff_eq.mpr c4
    have c4b1:(a0 != 125)=false:=bne_eq_false_iff_eq.mpr c4
    clear c4
    exact mA4
   ·rw[if_neg c4] at H
    have c4b0:(a0==125)=false:=beq_eq_false_iff_ne.mpr c4
    have c4b1:(a0 != 125)=true:=bne_iff_ne.mpr c4
    by_cases c5:a0=124
    ·rw[if_pos c5] at H
     have c5b0:(a0==124)=true:=beq_iff_eq.mpr c5
     have c5b1:(a0 != 124)=false:=bne_eq_false_iff_eq.mpr c5
     clear c5
     exact mA4
    ·rw[if_neg c5] at H
     have c5b0:(a0==124)=false:=beq_eq_false_iff_ne.mpr c5
     have c5b1:(a0 != 124)=true:=bne_iff_ne.mpr c5
     by_cases c6:a0=123
     ·rw[if_pos c6] at H
      have c6b0:(a0==123)=true:=beq_iff_eq.mpr c6
      have c6b1:(a0 != 123)=false:=bne_eq_false_iff_eq.mpr c6
      clear c6
      exact mA4
     ·rw[if_neg c6] at H
      have c6b0:(a0==123)=false:=beq_eq_false_iff_ne.mpr c6
      have c6b1:(a0 != 123)=true:=bne_iff_ne.mpr c6
      by_cases c7:a0=112
      ·rw[if_pos c7] at H
       have c7b0:(a0==112)=true:=beq_iff_eq.mpr c7
       have c7b1:(a0 != 112)=false:=bne_eq_false_iff_eq.mpr c7
       clear c7
       exact mA4
      ·rw[if_neg c7] at H
       have c7b0:(a0==112)=false:=beq_eq_false_iff_ne.mpr c7
       have c7b1:(a0 != 112)=true:=bne_iff_ne.mpr c7
       by_cases c8:a0=111
       ·rw[if_pos c8] at H
        have c8b0:(a0==111)=true:=beq_iff_eq.mpr c8
        have c8b1:(a0 != 111)=false:=bne_eq_false_iff_eq.mpr c8
        clear c8
        exact mA4
       ·rw[if_neg c8] at H
        have c8b0:(a0==111)=false:=beq_eq_false_iff_ne.mpr c8
        have c8b1:(a0 != 111)=true:=bne_iff_ne.mpr c8
        exact mA4
def jI.f (a0:Int):Option (Bool):=if a0=112 then (some true) else (some (a0==111))
set_option maxRecDepth 100000 in
theorem jI.calls (a0:Int)(r:Bool)(w:World)(h:jI.f a0=some r):
 Calls Tryd.prog 54 #[.int .u8 a0] w fun e w'=>e = .returned (.bool r)∧qf w w':=by
 have H:=h
 unfold jI.f at H
 clear h
 by_cases c2:a0=112
 ·rw[if_pos c2] at H
  have c2b0:(a0==112)=true:=beq_iff_eq.mpr c2
  have c2b1:(a0 != 112)=false:=bne_eq_false_iff_eq.mpr c2
  clear c2
  obtain rfl:=Option.some.inj H
  go_enter Tryd.func54,Tryd.ntmps54
  go_wp2
  go_ret
  exact mAm
 ·rw[if_neg c2] at H
  have c2b0:(a0==112)=false:=beq_eq_false_iff_ne.mpr c2
  have c2b1:(a0 != 112)=true:=bne_iff_ne.mpr c2
  obtain rfl:=Option.some.inj H
  go_enter Tryd.func54,Tryd.ntmps54
  go_wp2
  go_ret
  exact mAm
def qx.l0:Nat→List Int→List Int→Int→Option (Bool)
 | 0,_,_,_=>none
 | k+1,x0,x1,x5=>if x5<(x0.length:Int) then (if 0≤x5 then (if x5<(x1.length:Int) then (if (rd x0 x5)=(rd x1 x5) then (qx.l0 k x0 x1 (wrap64 (x5+1))) else (some false)) else (none)) else (none)) else (some true)
def qx.f (k:Nat)(l0:List Int)(l1:List Int):Option (Bool):=if (l0.length:Int)=(l1.length:Int) then (qx.l0 k l0 l1 0) else (some false)
set_option maxRecDepth 100000 in
theorem qx.calls (k:Nat)(A0:Option Addr)(c0:Nat)(l0:List Int)(A1:Option Addr)(c1:Nat)(l1:List Int)(r:Bool)(w:World)(hr0:Kd.C (Kd.int .u8) w A0 l0.length l0)(hc0:l0.length≤c0)(hr1:Kd.C (Kd.int .u8) w A1 l1.length l1)(hc1:l1.length≤c1)(h:qx.f k l0 l1=some r):
 Calls Tryd.prog 16 #[.slice A0 l0.length c0,.slice A1 l1.length c1] w fun e w'=>e = .returned (.bool r)∧qf w w':=by
 have HR0:=am hr0
 have HC0:=am hc0
 clear hr0 hc0
 have HR1:=am hr1
 have HC1:=am hc1
 clear hr1 hc1
 have H:=h
 unfold qx.f at H
 clear h
 by_cases c3:(l0.length:Int)=(l1.length:Int)
 ·rw[if_pos c3] at H
  have c3b0:((l0.length:Int)==(l1.length:Int))=true:=beq_iff_eq.mpr c3
  have c3b1:((l0.length:Int) != (l1.length:Int))=false:=bne_eq_false_iff_eq.mpr c3
  have c3b2:(l0.length==l1.length)=true:=by first|simpa using c3|(simp at c3 ⊢;omega)
  clear c3
  have H':=am H
  clear H
  go_enter Tryd.func16,Tryd.ntmps16
  go_wp2
  repeat (go_quiet (fail);try go_wp2)
  go_loopg [5] k (fun kq v5 w'=>∃(x5_1:Int),v5 = .int .i64 x5_1∧Aside0 (qx.l0 kq l0 l1 x5_1=some r)∧Aside0 (kq≤k)∧qf w w')
  case atStart=>exact⟨(0),mDm,H',⟨Nat.le_refl _⟩,by repeat (first|exact qf.refl _|apply qf.step)⟩
  case round =>
   clear H'
   try clear c1
   try clear p2
   try clear c3
   try clear c3b0
   try clear c3b1
   try clear c3b2
   obtain⟨x5_1,rfl,HA,HK1,⟨m1,rfl⟩⟩:=hrel
   cases gk with
   | zero=>exact absurd HA.out (by simp[qx.l0])
   | succ k1 =>
     have H:=HA.out
     clear HA
     simp only[qx.l0] at H
     by_cases c4:x5_1<(l0.length:Int)
     ·rw[if_pos c4] at H
      have c4b0:decide (x5_1<(l0.length:Int))=true:=decide_eq_true c4
      clear c4
      by_cases c5:0≤x5_1
      ·rw[if_pos c5] at H
       have c5b0:decide (0≤x5_1)=true:=decide_eq_true c5
       clear c5
       by_cases c6:x5_1<(l1.length:Int)
       ·rw[if_pos c6] at H
        have c6b0:decide (x5_1<(l1.length:Int))=true:=decide_eq_true c6
        clear c6
        by_cases c7:(rd l0 x5_1)=(rd l1 x5_1)
        ·rw[if_pos c7] at H
         have c7b0:((rd l0 x5_1)==(rd l1 x5_1))=true:=beq_iff_eq.mpr c7
         have c7b1:((rd l0 x5_1) != (rd l1 x5_1))=false:=bne_eq_false_iff_eq.mpr c7
         clear c7
         have H':=am H
         clear H
         have p287:0≤(x5_1:Int):=of_decide_eq_true mDk
         have q287:x5_1<(l0.length:Int):=of_decide_eq_true mDk
         obtain⟨ad287,e287,hx287_0⟩:=Kd.at_int HR0.out x5_1 p287 q287
         cases e287
         replace p287:=eq_true p287
         replace q287:=eq_true q287
         have p288:0≤(x5_1:Int):=of_decide_eq_true mDk
         have q288:x5_1<(l1.length:Int):=of_decide_eq_true mDk
         obtain⟨ad288,e288,hx288_0⟩:=Kd.at_int HR1.out x5_1 p288 q288
         cases e288
         replace p288:=eq_true p288
         replace q288:=eq_true q288
         go_wp2
         repeat (go_quiet (fail);try go_wp2)
         go_roundg k1
         case measure=>have:=HK1.out;omega
         case rel=>exact⟨(wrap64 (x5_1+1)),mDm,H',⟨by have:=HK1.out;omega⟩,by repeat (first|exact qf.refl _|apply qf.step)⟩
        ·rw[if_neg c7] at H
         have c7b0:((rd l0 x5_1)==(rd l1 x5_1))=false:=beq_eq_false_iff_ne.mpr c7
         have c7b1:((rd l0 x5_1) != (rd l1 x5_1))=true:=bne_iff_ne.mpr c7
         obtain rfl:=Option.some.inj H
         have p287:0≤(x5_1:Int):=of_decide_eq_true mDk
         have q287:x5_1<(l0.length:Int):=of_decide_eq_true mDk
         obtain⟨ad287,e287,hx287_0⟩:=Kd.at_int HR0.out x5_1 p287 q287
         cases e287
         replace p287:=eq_true p287
         replace q287:=eq_true q287
         have p288:0≤(x5_1:Int):=of_decide_eq_true mDk
         have q288:x5_1<(l1.length:Int):=of_decide_eq_true mDk
         obtain⟨ad288,e288,hx288_0⟩:=Kd.at_int HR1.out x5_1 p288 q288
         cases e288
         replace p288:=eq_true p288
         replace q288:=eq_true q288
         exact mBc
       exact mB4
      exact mB3
     ·rw[if_neg c4] at H
      have c4b0:decide (x5_1<(l0.length:Int))=false:=decide_eq_false c4
      clear c4
      obtain rfl:=Option.some.inj H
      exact mBc
 ·rw[if_neg c3] at H
  have c3b0:((l0.length:Int)==(l1.length:Int))=false:=beq_eq_false_iff_ne.mpr c3
  have c3b1:((l0.length:Int) != (l1.length:Int))=true:=bne_iff_ne.mpr c3
  have c3b2:(l0.length==l1.length)=false:=by first|simpa using c3|(simp at c3 ⊢;omega)
  obtain rfl:=Option.some.inj H
  go_enter Tryd.func16,Tryd.ntmps16
  exact mBc
end Go.Proofs.YtobldeamemmokaaDoor.P
