import Derived.Lib.OthersKept
import Derived.Laws.RangeAny
import Derived.Test.YtobldeamemmokaaDoorZa05
set_option linter.unusedVariables false
set_option linter.unusedSimpArgs false
set_option maxHeartbeats 64000000
namespace Go.Proofs.YtobldeamemmokaaDoor.P
open Go.RowKit Go.Proofs.YtobldeamemmokaaDoorW.PrintWords Go.Proofs.YtobldeamemmokaaDoorW.PrintLast Go.Proofs.YtobldeamemmokaaDoorW.PrintMore
theorem info39:(Tryd.prog.info? 39).map (fun i=>(i.zero,i.size,i.bytes))=some (some (.int .u8 0),1,1):=mDh
def qr.l:Nat→ByteArray→Nat→List Int→Option (List Int)
 | 0,_,_,_=>none
 | k+1,s,pos,out=>if pos<s.size then (if ((Utf8.decode s pos).1:Int)=105 then (if out.length<140737488355328 then qr.l k s (pos+(Utf8.decode s pos).2) (out ++ [127]) else none) else (if ((Utf8.decode s pos).1:Int)=108 then (if out.length<140737488355328 then qr.l k s (pos+(Utf8.decode s pos).2) (out ++ [126]) else none) else (if ((Utf8.decode s pos).1:Int)=102 then (if out.length<140737488355328 then qr.l k s (pos+(Utf8.decode s pos).2) (out ++ [125]) else none) else (if ((Utf8.decode s pos).1:Int)=100 then (if out.length<140737488355328 then qr.l k s (pos+(Utf8.decode s pos).2) (out ++ [124]) else none) else (if ((Utf8.decode s pos).1:Int)=118 then (if out.length<140737488355328 then qr.l k s (pos+(Utf8.decode s pos).2) (out ++ [123]) else none) else qr.l k s (pos+(Utf8.decode s pos).2) out))))) else some out
def qr.f (k:Nat)(a0:ByteArray):Option (List Int):=qr.l k a0 0 []
theorem yf {w' W w1:World}{it:Nat}{s:ByteArray}{pos:Nat}{row:Option Nat}(hi:w'.heap[it]? = some (.stringIter s pos))(hW:Below w'.heap.size w' W)(hg:W.grownBy w1 row)(hne:some it≠row):w1.heap[it]? = some (.stringIter s pos):=by
 have hlt:it<w'.heap.size:=(Array.getElem?_eq_some_iff.1 hi).1
 exact(hg.block it (Nat.lt_of_lt_of_le hlt hW.size) hne).trans ((hW.block it hlt).trans hi)
theorem qJd {w':World}{it:Nat}{s:ByteArray}{pos:Nat}(hi:w'.heap[it]? = some (.stringIter s pos)):it<w'.heap.size:=(Array.getElem?_eq_some_iff.1 hi).1
set_option maxRecDepth 100000 in
theorem qr.calls (k:Nat)(a0:ByteArray)(r:List Int)(w:World)(h:qr.f k a0=some r):
 Calls Tryd.prog 62 #[.string a0] w fun e w'=>∃ v0_:Value,e = .returned (v0_)∧Kd.R (Kd.int .u8) 39 w' w.heap.size (fun _=>True) v0_ r∧Below w.heap.size w w':=by
 have H0:=am (show qr.l k a0 0 []=some r from h)
 clear h
 go_enter Tryd.func62,Tryd.ntmps62
 go_wp2
 go_loopg [3] k (fun kq v3 w'=>∃(x3:List Int) (pos:Nat),Aside0 (qr.l kq a0 pos x3=some r)∧Aside0 (kq≤k)∧Aside0 (w'.heap[w.heap.size]? = some (.stringIter a0 pos))∧Aside0 (Kd.R (Kd.int .u8) 39 w' w.heap.size (fun j=>j≠w.heap.size) v3 x3)∧Aside0 (Below w.heap.size w w'))
 case atStart=>exact⟨[],0,H0,⟨Nat.le_refl _⟩,⟨World.iter_heap w _ 0⟩,⟨Kd.R_nil _ _ _ _ _⟩,⟨qh (Below.refl _ _) _⟩⟩
 case round =>
  clear H0
  obtain⟨x3,pos,HA,HK1,HI,HO_3,HB⟩:=hrel
  cases gk with
  | zero=>exact absurd HA.out (by simp[qr.l])
  | succ k1 =>
    have H:=HA.out
    clear HA
    simp only[qr.l] at H
    by_cases hp:pos<a0.size
    ·rw[if_pos hp] at H
     have hnx:∀ ty,(Instr.next (.pointer (some ⟨w.heap.size,0,none⟩)) true ty).run Tryd.prog _=_:=fun ty=>Lib.run_next_any_at _ _ _ pos ty HI.out hp
     obtain⟨c,hc⟩:∃ c:Int,((Utf8.decode a0 pos).1:Int)=c:=⟨_,rfl⟩
     obtain⟨pw,hpw⟩:∃ pw:Nat,pos+(Utf8.decode a0 pos).2=pw:=⟨_,rfl⟩
     rw[hpw] at H
     simp only[hc] at H
     simp only[hc,hpw] at hnx
     have HI2:=am (Lib.iterAt_heap _ _ _ _ pw HI.out)
     have HL:=am (qJd HI.out)
     ·skip
      by_cases d0:c=105
      ·rw[if_pos d0] at H
       have t0:(c==105)=true:=beq_iff_eq.mpr d0
       by_cases c6:x3.length<140737488355328
       ·rw[if_pos c6] at H
        have LM:=am c6
        clear c6 d0
        have H':=am H
        clear H
        go_wp2_with (first|((with_reducible refine qZ (b:=.append) (xs:=#[.tmp 14,.tmp 15]) rfl ?_);at_builtin;refine Kd.R_append (Kd.int .u8) (w0:=w) w.heap.size rfl (.tmp 14) (.tmp 15) 38 39 (.int .u8 0) 1 rfl Tryd.underlying38 info39 rfl mDl mDj u3 x3 127 [.int .u8 127] (fun j=>j≠w.heap.size) (fun _=>False) rfl rfl ?aP (fun _ hk=>hk.elim) ?aF ?aO ?aB ?aS ?aL ?_;(case aP=>exact rfl);(case aB=>exact mCo);(case aF=>exact(fun j hj=>Nat.ne_of_gt (Nat.lt_of_lt_of_le HL.out (Nat.le_trans (Nat.le_of_eq (Lib.iterAt_size _ _ _ _).symm) (Nat.le_trans (Below.size (B:=0) mCz) hj)))));(case aO=>exact mCv);(case aS=>exact(qM mCo));(case aL=>have:=LM.out;omega);intro v212 w8 ho hb hg hat;have n0_:=am (hb);have n1_:=am (ho);have n2_:=am (yf HI2.out mC4 hg (Kd.R_away HO_3.out (fun _ h=>h)));clear HB;clear HO_3;have HB:=n0_;have HO213:=n1_;have HI8:=n2_;clear n0_ n1_ n2_;clear ho hb hg hat))
        go_roundg k1
        case measure=>have:=HK1.out;omega
        case rel=>exact⟨x3 ++ [127],pw,H',⟨by have:=HK1.out;omega⟩,HI8,HO213,HB⟩
       exact mBz
      rw[if_neg d0] at H
      have t0:(c==105)=false:=beq_eq_false_iff_ne.mpr d0
      clear d0
      by_cases d1:c=108
      ·rw[if_pos d1] at H
       have t1:(c==108)=true:=beq_iff_eq.mpr d1
       by_cases c6:x3.length<140737488355328
       ·rw[if_pos c6] at H
        have LM:=am c6
        clear c6 d1
        have H':=am H
        clear H
        go_wp2_with (first|((with_reducible refine qZ (b:=.append) (xs:=#[.tmp 19,.tmp 20]) rfl ?_);at_builtin;refine Kd.R_append (Kd.int .u8) (w0:=w) w.heap.size rfl (.tmp 19) (.tmp 20) 38 39 (.int .u8 0) 1 rfl Tryd.underlying38 info39 rfl mDl mDj u3 x3 126 [.int .u8 126] (fun j=>j≠w.heap.size) (fun _=>False) rfl rfl ?aP (fun _ hk=>hk.elim) ?aF ?aO ?aB ?aS ?aL ?_;(case aP=>exact rfl);(case aB=>exact mCo);(case aF=>exact(fun j hj=>Nat.ne_of_gt (Nat.lt_of_lt_of_le HL.out (Nat.le_trans (Nat.le_of_eq (Lib.iterAt_size _ _ _ _).symm) (Nat.le_trans (Below.size (B:=0) mCz) hj)))));(case aO=>exact mCv);(case aS=>exact(qM mCo));(case aL=>have:=LM.out;omega);intro v212 w8 ho hb hg hat;have n0_:=am (hb);have n1_:=am (ho);have n2_:=am (yf HI2.out mC4 hg (Kd.R_away HO_3.out (fun _ h=>h)));clear HB;clear HO_3;have HB:=n0_;have HO213:=n1_;have HI8:=n2_;clear n0_ n1_ n2_;clear ho hb hg hat))
        go_roundg k1
        case measure=>have:=HK1.out;omega
        case rel=>exact⟨x3 ++ [126],pw,H',⟨by have:=HK1.out;omega⟩,HI8,HO213,HB⟩
       exact mBz
      rw[if_neg d1] at H
      have t1:(c==108)=false:=beq_eq_false_iff_ne.mpr d1
      clear d1
      by_cases d2:c=102
      ·rw[if_pos d2] at H
       have t2:(c==102)=true:=beq_iff_eq.mpr d2
       by_cases c6:x3.length<140737488355328
       ·rw[if_pos c6] at H
        have LM:=am c6
        clear c6 d2
        have H':=am H
        clear H
        go_wp2_with (first|((with_reducible refine qZ (b:=.append) (xs:=#[.tmp 24,.tmp 25]) rfl ?_);at_builtin;refine Kd.R_append (Kd.int .u8) (w0:=w) w.heap.size rfl (.tmp 24) (.tmp 25) 38 39 (.int .u8 0) 1 rfl Tryd.underlying38 info39 rfl mDl mDj u3 x3 125 [.int .u8 125] (fun j=>j≠w.heap.size) (fun _=>False) rfl rfl ?aP (fun _ hk=>hk.elim) ?aF ?aO ?aB ?aS ?aL ?_;(case aP=>exact rfl);(case aB=>exact mCo);(case aF=>exact(fun j hj=>Nat.ne_of_gt (Nat.lt_of_lt_of_le HL.out (Nat.le_trans (Nat.le_of_eq (Lib.iterAt_size _ _ _ _).symm) (Nat.le_trans (Below.size (B:=0) mCz) hj)))));(case aO=>exact mCv);(case aS=>exact(qM mCo));(case aL=>have:=LM.out;omega);intro v212 w8 ho hb hg hat;have n0_:=am (hb);have n1_:=am (ho);have n2_:=am (yf HI2.out mC4 hg (Kd.R_away HO_3.out (fun _ h=>h)));clear HB;clear HO_3;have HB:=n0_;have HO213:=n1_;have HI8:=n2_;clear n0_ n1_ n2_;clear ho hb hg hat))
        go_roundg k1
        case measure=>have:=HK1.out;omega
        case rel=>exact⟨x3 ++ [125],pw,H',⟨by have:=HK1.out;omega⟩,HI8,HO213,HB⟩
       exact mBz
      rw[if_neg d2] at H
      have t2:(c==102)=false:=beq_eq_false_iff_ne.mpr d2
      clear d2
      by_cases d3:c=100
      ·rw[if_pos d3] at H
       have t3:(c==100)=true:=beq_iff_eq.mpr d3
       by_cases c6:x3.length<140737488355328
       ·rw[if_pos c6] at H
        have LM:=am c6
        clear c6 d3
        have H':=am H
        clear H
        go_wp2_with (first|((with_reducible refine qZ (b:=.append) (xs:=#[.tmp 29,.tmp 30]) rfl ?_);at_builtin;refine Kd.R_append (Kd.int .u8) (w0:=w) w.heap.size rfl (.tmp 29) (.tmp 30) 38 39 (.int .u8 0) 1 rfl Tryd.underlying38 info39 rfl mDl mDj u3 x3 124 [.int .u8 124] (fun j=>j≠w.heap.size) (fun _=>False) rfl rfl ?aP (fun _ hk=>hk.elim) ?aF ?aO ?aB ?aS ?aL ?_;(case aP=>exact rfl);(case aB=>exact mCo);(case aF=>exact(fun j hj=>Nat.ne_of_gt (Nat.lt_of_lt_of_le HL.out (Nat.le_trans (Nat.le_of_eq (Lib.iterAt_size _ _ _ _).symm) (Nat.le_trans (Below.size (B:=0) mCz) hj)))));(case aO=>exact mCv);(case aS=>exact(qM mCo));(case aL=>have:=LM.out;omega);intro v212 w8 ho hb hg hat;have n0_:=am (hb);have n1_:=am (ho);have n2_:=am (yf HI2.out mC4 hg (Kd.R_away HO_3.out (fun _ h=>h)));clear HB;clear HO_3;have HB:=n0_;have HO213:=n1_;have HI8:=n2_;clear n0_ n1_ n2_;clear ho hb hg hat))
        go_roundg k1
        case measure=>have:=HK1.out;omega
        case rel=>exact⟨x3 ++ [124],pw,H',⟨by have:=HK1.out;omega⟩,HI8,HO213,HB⟩
       exact mBz
      rw[if_neg d3] at H
      have t3:(c==100)=false:=beq_eq_false_iff_ne.mpr d3
      clear d3
      by_cases d4:c=118
      ·rw[if_pos d4] at H
       have t4:(c==118)=true:=beq_iff_eq.mpr d4
       by_cases c6:x3.length<140737488355328
       ·rw[if_pos c6] at H
        have LM:=am c6
        clear c6 d4
        have H':=am H
        clear H
        go_wp2_with (first|((with_reducible refine qZ (b:=.append) (xs:=#[.tmp 34,.tmp 35]) rfl ?_);at_builtin;refine Kd.R_append (Kd.int .u8) (w0:=w) w.heap.size rfl (.tmp 34) (.tmp 35) 38 39 (.int .u8 0) 1 rfl Tryd.underlying38 info39 rfl mDl mDj u3 x3 123 [.int .u8 123] (fun j=>j≠w.heap.size) (fun _=>False) rfl rfl ?aP (fun _ hk=>hk.elim) ?aF ?aO ?aB ?aS ?aL ?_;(case aP=>exact rfl);(case aB=>exact mCo);(case aF=>exact(fun j hj=>Nat.ne_of_gt (Nat.lt_of_lt_of_le HL.out (Nat.le_trans (Nat.le_of_eq (Lib.iterAt_size _ _ _ _).symm) (Nat.le_trans (Below.size (B:=0) mCz) hj)))));(case aO=>exact mCv);(case aS=>exact(qM mCo));(case aL=>have:=LM.out;omega);intro v212 w8 ho hb hg hat;have n0_:=am (hb);have n1_:=am (ho);have n2_:=am (yf HI2.out mC4 hg (Kd.R_away HO_3.out (fun _ h=>h)));clear HB;clear HO_3;have HB:=n0_;have HO213:=n1_;have HI8:=n2_;clear n0_ n1_ n2_;clear ho hb hg hat))
        go_roundg k1
        case measure=>have:=HK1.out;omega
        case rel=>exact⟨x3 ++ [123],pw,H',⟨by have:=HK1.out;omega⟩,HI8,HO213,HB⟩
       exact mBz
      rw[if_neg d4] at H
      have t4:(c==118)=false:=beq_eq_false_iff_ne.mpr d4
      clear d4
      have H':=am H
      clear H
      go_wp2
      go_roundg k1
      case measure=>have:=HK1.out;omega
      case rel=>exact⟨x3,pw,H',⟨by have:=HK1.out;omega⟩,HI2,⟨Kd.R_step HO_3.out (fun j hj _=>Lib.iterAt_other _ _ _ _ _ hj)⟩,⟨Lib.below_iterAt HB.out (Nat.le_refl _) _ _⟩⟩
    ·rw[if_neg hp] at H
     obtain rfl:=Option.some.inj H
     have hnx:∀ ty,(Instr.next (.pointer (some ⟨w.heap.size,0,none⟩)) true ty).run Tryd.prog _=_:=fun ty=>Lib.run_next_end_at _ _ _ pos ty HI.out hp
     go_wp2
     go_ret
     exact⟨_,mDm,by (with_reducible repeat (first|apply rA|apply rN|apply rD));exact Kd.R_mono HO_3.out (fun _ _=>trivial),by repeat (first|exact HB.out|apply bA|apply bN|apply bD)⟩
end Go.Proofs.YtobldeamemmokaaDoor.P
