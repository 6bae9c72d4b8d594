import Derived.Test.YtobldeamemmokaaDoorZa15
set_option linter.unusedVariables false
set_option linter.unusedSimpArgs false
set_option maxHeartbeats 64000000
namespace Go.Proofs.YtobldeamemmokaaDoor.P
open Go.Proofs.YtobldeamemmokaaDoorTabs
open Go.Proofs.YtobldeamemmokaaDoorCaps
open Go.RowKit Go.Proofs.YtobldeamemmokaaDoorW.PrintWords Go.Proofs.YtobldeamemmokaaDoorW.PrintLast Go.Proofs.YtobldeamemmokaaDoorW.PrintMore
attribute [local go_sem] jh jj xE xF jb jZ jv jt   -- for this text's walks alone
mutual
def qI.j0:Nat→Int→Int→ByteArray→ByteArray→ByteArray→Bool→Option (ByteArray × ByteArray)
 | 0,_,_,_,_,_,_=>none
 | k+1,x0,x1,x6,x7,x8,x21=>if x21=true then ((qR.f (⟨#[97,108,108,95,116,114,117,101,32,98,105,116,109,97,115,107]⟩:ByteArray) (wrap64 (x1 - 3))).bind fun t126=>(some (t126,(⟨#[118,58,105]⟩:ByteArray)))) else (if x1=5 then (qI.j1 k x0 x1 x6 x7 x8 (decide (x0<2))) else (if x1=6 then (qI.j1 k x0 x1 x6 x7 x8 (decide (x0<2))) else (qI.j1 k x0 x1 x6 x7 x8 false)))
def qI.j1:Nat→Int→Int→ByteArray→ByteArray→ByteArray→Bool→Option (ByteArray × ByteArray)
 | 0,_,_,_,_,_,_=>none
 | k+1,x0,x1,x6,x7,x8,x31=>if x31=true then (if 7+x7.size≤9223372036854775807 then (if ((⟨#[110,97,114,114,111,119,95]⟩:ByteArray)++x7).size+1≤9223372036854775807 then ((qR.f (⟨#[115,32,117]⟩:ByteArray) (wrap64 (x1 - 5))).bind fun t127=>(if (((⟨#[110,97,114,114,111,119,95]⟩:ByteArray)++x7)++(⟨#[95]⟩:ByteArray)).size+t127.size≤9223372036854775807 then (some ((((⟨#[110,97,114,114,111,119,95]⟩:ByteArray)++x7)++(⟨#[95]⟩:ByteArray))++t127,(⟨#[118,118,58,118]⟩:ByteArray))) else (none))) else (none)) else (none)) else (if x1≥7 then (if x1≤10 then (qI.j2 k x0 x1 x6 x8 (decide (x0 > 0))) else (qI.j2 k x0 x1 x6 x8 false)) else (qI.j2 k x0 x1 x6 x8 false))
def qI.j2:Nat→Int→Int→ByteArray→ByteArray→Bool→Option (ByteArray × ByteArray)
 | 0,_,_,_,_,_=>none
 | k+1,x0,x1,x6,x8,x49=>if x49=true then ((qR.f (⟨#[101,120,116,101,110,100,95,108,111,119,32,101,120,116,101,110,100,95,104,105,103,104,32,101,120,116,101,110,100,95,108,111,119,32,101,120,116,101,110,100,95,104,105,103,104]⟩:ByteArray) (wrap64 (x1 - 7))).bind fun t128=>(if t128.size+1≤9223372036854775807 then (if (t128++(⟨#[95]⟩:ByteArray)).size+x6.size≤9223372036854775807 then (if ((t128++(⟨#[95]⟩:ByteArray))++x6).size+1≤9223372036854775807 then ((qR.f (⟨#[115,32,115,32,117,32,117]⟩:ByteArray) (wrap64 (x1 - 7))).bind fun t129=>(if (((t128++(⟨#[95]⟩:ByteArray))++x6)++(⟨#[95]⟩:ByteArray)).size+t129.size≤9223372036854775807 then (some ((((t128++(⟨#[95]⟩:ByteArray))++x6)++(⟨#[95]⟩:ByteArray))++t129,(⟨#[118,58,118]⟩:ByteArray))) else (none))) else (none)) else (none)) else (none))) else (if x1≥11 then (qI.j3 k x0 x1 x6 x8 (decide (x1≤13))) else (qI.j3 k x0 x1 x6 x8 false))
def qI.j3:Nat→Int→Int→ByteArray→ByteArray→Bool→Option (ByteArray × ByteArray)
 | 0,_,_,_,_,_=>none
 | k+1,x0,x1,x6,x8,x71=>if x71=true then ((qR.f (⟨#[115,104,108,32,115,104,114,95,115,32,115,104,114,95,117]⟩:ByteArray) (wrap64 (x1 - 11))).bind fun t130=>(some (t130,(⟨#[118,105,58,118]⟩:ByteArray)))) else (if x1=14 then (qI.j4 k x0 x1 x6 x8 true) else (qI.j4 k x0 x1 x6 x8 (x1==17)))
def qI.j4:Nat→Int→Int→ByteArray→ByteArray→Bool→Option (ByteArray × ByteArray)
 | 0,_,_,_,_,_=>none
 | k+1,x0,x1,x6,x8,x81=>if x81=true then ((qR.f (⟨#[97,100,100,32,45,32,45,32,115,117,98]⟩:ByteArray) (wrap64 (x1 - 14))).bind fun t131=>(some (t131,(⟨#[118,118,58,118]⟩:ByteArray)))) else (if x1≥15 then (if x1≤19 then (qI.j5 k x0 x1 x6 x8 (decide (x0<2))) else (qI.j5 k x0 x1 x6 x8 false)) else (qI.j5 k x0 x1 x6 x8 false))
def qI.j5:Nat→Int→Int→ByteArray→ByteArray→Bool→Option (ByteArray × ByteArray)
 | 0,_,_,_,_,_=>none
 | k+1,x0,x1,x6,x8,x91=>if x91=true then ((qR.f (⟨#[97,100,100,95,115,97,116,95,32,97,100,100,95,115,97,116,95,32,45,32,115,117,98,95,115,97,116,95,32,115,117,98,95,115,97,116,95]⟩:ByteArray) (wrap64 (x1 - 15))).bind fun t132=>((qR.f (⟨#[115,32,117,32,45,32,115,32,117]⟩:ByteArray) (wrap64 (x1 - 15))).bind fun t133=>(if t132.size+t133.size≤9223372036854775807 then (some (t132++t133,(⟨#[118,118,58,118]⟩:ByteArray))) else (none)))) else (if x1=21 then (qI.j6 k x0 x1 x6 x8 (decide (x0 > 0))) else (qI.j6 k x0 x1 x6 x8 false))
def qI.j6:Nat→Int→Int→ByteArray→ByteArray→Bool→Option (ByteArray × ByteArray)
 | 0,_,_,_,_,_=>none
 | k+1,x0,x1,x6,x8,x109=>if x109=true then (some ((⟨#[109,117,108]⟩:ByteArray),(⟨#[118,118,58,118]⟩:ByteArray))) else (if x1≥22 then (if x1≤25 then (qI.j7 k x0 x1 x6 x8 (decide (x0<3))) else (qI.j7 k x0 x1 x6 x8 false)) else (qI.j7 k x0 x1 x6 x8 false))
def qI.j7:Nat→Int→Int→ByteArray→ByteArray→Bool→Option (ByteArray × ByteArray)
 | 0,_,_,_,_,_=>none
 | k+1,x0,x1,x6,x8,x116=>if x116=true then ((qR.f (⟨#[109,105,110,95,32,109,105,110,95,32,109,97,120,95,32,109,97,120,95]⟩:ByteArray) (wrap64 (x1 - 22))).bind fun t134=>(if t134.size+x8.size≤9223372036854775807 then (some (t134++x8,(⟨#[118,118,58,118]⟩:ByteArray))) else (none))) else (if x1=27 then (qI.j8 k x0 x1 x6 (decide (x0<2))) else (qI.j8 k x0 x1 x6 false))
def qI.j8:Nat→Int→Int→ByteArray→Bool→Option (ByteArray × ByteArray)
 | 0,_,_,_,_=>none
 | k+1,x0,x1,x6,x132=>if x132=true then (some ((⟨#[97,118,103,114,95,117]⟩:ByteArray),(⟨#[118,118,58,118]⟩:ByteArray))) else (if x1≥28 then (qI.j9 k x1 x6 (decide (x0 > 0))) else (qI.j9 k x1 x6 false))
def qI.j9:Nat→Int→ByteArray→Bool→Option (ByteArray × ByteArray)
 | 0,_,_,_=>none
 | k+1,x1,x6,x139=>if x139=true then ((qR.f (⟨#[101,120,116,109,117,108,95,108,111,119,32,101,120,116,109,117,108,95,104,105,103,104,32,101,120,116,109,117,108,95,108,111,119,32,101,120,116,109,117,108,95,104,105,103,104]⟩:ByteArray) (wrap64 (x1 - 28))).bind fun t135=>(if t135.size+1≤9223372036854775807 then (if (t135++(⟨#[95]⟩:ByteArray)).size+x6.size≤9223372036854775807 then (if ((t135++(⟨#[95]⟩:ByteArray))++x6).size+1≤9223372036854775807 then ((qR.f (⟨#[115,32,115,32,117,32,117]⟩:ByteArray) (wrap64 (x1 - 28))).bind fun t136=>(if (((t135++(⟨#[95]⟩:ByteArray))++x6)++(⟨#[95]⟩:ByteArray)).size+t136.size≤9223372036854775807 then (some ((((t135++(⟨#[95]⟩:ByteArray))++x6)++(⟨#[95]⟩:ByteArray))++t136,(⟨#[118,118,58,118]⟩:ByteArray))) else (none))) else (none)) else (none)) else (none))) else (some ((⟨#[]⟩:ByteArray),(⟨#[]⟩:ByteArray)))
end
def qI.f (k:Nat)(a0:Int)(a1:Int):Option (ByteArray × ByteArray):=(qR.f (⟨#[45,32,105,56,120,49,54,32,105,49,54,120,56,32,105,51,50,120,52]⟩:ByteArray) a0).bind fun t122=>((qR.f (⟨#[105,49,54,120,56,32,105,51,50,120,52,32,45,32,45]⟩:ByteArray) a0).bind fun t123=>((qR.f (⟨#[115,32,117]⟩:ByteArray) (Go.bits .and .i64 a1 1)).bind fun t124=>(if a1<2 then ((qR.f (⟨#[97,98,115,32,110,101,103]⟩:ByteArray) a1).bind fun t125=>(some (t125,(⟨#[118,58,118]⟩:ByteArray)))) else (if a1=3 then (qI.j0 k a0 a1 t122 t123 t124 true) else (qI.j0 k a0 a1 t122 t123 t124 (a1==4))))))
set_option maxRecDepth 100000 in
theorem qI.calls (k:Nat)(a0:Int)(a1:Int)(r1:ByteArray)(r2:ByteArray)(w:World)(hT:YtobldeamemmokaaDoorTabs.Tab w)(h:qI.f k a0 a1=some (r1,r2)):
 Calls Tryd.prog 82 #[.int .i64 a0,.int .i64 a1] w fun e w'=>e = .returned (.tuple #[.string r1,.string r2])∧Below w.heap.size w w':=by
 have HT:=am hT
 clear hT
 have HB:=am (Below.refl w.heap.size w)
 have H:=h
 unfold qI.f at H
 clear h
 replace H:=Option.bind_eq_some_iff.mp H
 obtain⟨t122,A30,H⟩:=H
 try dsimp only at H
 have A3:=am A30
 clear A30
 replace H:=Option.bind_eq_some_iff.mp H
 obtain⟨t123,A40,H⟩:=H
 try dsimp only at H
 have A4:=am A40
 clear A40
 replace H:=Option.bind_eq_some_iff.mp H
 obtain⟨t124,A50,H⟩:=H
 try dsimp only at H
 have A5:=am A50
 clear A50
 by_cases c6:a1<2
 ·rw[if_pos c6] at H
  have c6b0:decide (a1<2)=true:=decide_eq_true c6
  clear c6
  replace H:=Option.bind_eq_some_iff.mp H
  obtain⟨t125,A70,H⟩:=H
  try dsimp only at H
  have A7:=am A70
  clear A70
  simp only[Option.some.injEq,Prod.mk.injEq] at H
  obtain⟨rfl,rfl⟩:=H
  go_enter Tryd.func82,Tryd.ntmps82
  go_wp2_with (first|((with_reducible refine qO (f:=83) rfl ?_);refine qo (some 10) rfl rfl Tryd.func83 mDh rfl #[.string (⟨#[45,32,105,56,120,49,54,32,105,49,54,120,56,32,105,51,50,120,52]⟩:ByteArray),.int .i64 a0] rfl mCe ?_;(with_reducible refine(qR.calls (hT:=mCd) (⟨#[45,32,105,56,120,49,54,32,105,49,54,120,56,32,105,51,50,120,52]⟩:ByteArray) a0 t122 _ A3.out).mono ?_);rintro e w8 ⟨rfl,hb⟩;refine⟨_,rfl,?_⟩;have n0_:=am (qB mCf hb);clear HB;have HB:=n0_;clear n0_;(try clear hb);(try clear hb2);(try clear hk);(try clear hi))|((with_reducible refine qO (f:=83) rfl ?_);refine qo (some 12) rfl rfl Tryd.func83 mDh rfl #[.string (⟨#[105,49,54,120,56,32,105,51,50,120,52,32,45,32,45]⟩:ByteArray),.int .i64 a0] rfl mCe ?_;(with_reducible refine(qR.calls (hT:=mCd) (⟨#[105,49,54,120,56,32,105,51,50,120,52,32,45,32,45]⟩:ByteArray) a0 t123 _ A4.out).mono ?_);rintro e w9 ⟨rfl,hb⟩;refine⟨_,rfl,?_⟩;have n0_:=am (qB mCf hb);clear HB;have HB:=n0_;clear n0_;(try clear hb);(try clear hb2);(try clear hk);(try clear hi))|((with_reducible refine qO (f:=83) rfl ?_);refine qo (some 15) rfl rfl Tryd.func83 mDh rfl #[.string (⟨#[115,32,117]⟩:ByteArray),.int .i64 (Go.bits .and .i64 a1 1)] rfl mCe ?_;(with_reducible refine(qR.calls (hT:=mCd) (⟨#[115,32,117]⟩:ByteArray) (Go.bits .and .i64 a1 1) t124 _ A5.out).mono ?_);rintro e w10 ⟨rfl,hb⟩;refine⟨_,rfl,?_⟩;have n0_:=am (qB mCf hb);clear HB;have HB:=n0_;clear n0_;(try clear hb);(try clear hb2);(try clear hk);(try clear hi))|((with_reducible refine qO (f:=83) rfl ?_);refine qo (some 20) rfl rfl Tryd.func83 mDh rfl #[.string (⟨#[97,98,115,32,110,101,103]⟩:ByteArray),.int .i64 a1] rfl mCe ?_;(with_reducible refine(qR.calls (hT:=mCd) (⟨#[97,98,115,32,110,101,103]⟩:ByteArray) a1 t125 _ A7.out).mono ?_);rintro e w11 ⟨rfl,hb⟩;refine⟨_,rfl,?_⟩;have n0_:=am (qB mCf hb);clear HB;have HB:=n0_;clear n0_;(try clear hb);(try clear hb2);(try clear hk);(try clear hi)))
  go_ret2
  exact mAo
 ·rw[if_neg c6] at H
  have c6b0:decide (a1<2)=false:=decide_eq_false c6
  clear c6
  have HC12:=am H
  clear H
  go_enter Tryd.func82,Tryd.ntmps82
  go_upto_region 6 with (first|((with_reducible refine qO (f:=83) rfl ?_);refine qo (some 10) rfl rfl Tryd.func83 mDh rfl #[.string (⟨#[45,32,105,56,120,49,54,32,105,49,54,120,56,32,105,51,50,120,52]⟩:ByteArray),.int .i64 a0] rfl mCe ?_;(with_reducible refine(qR.calls (hT:=mCd) (⟨#[45,32,105,56,120,49,54,32,105,49,54,120,56,32,105,51,50,120,52]⟩:ByteArray) a0 t122 _ A3.out).mono ?_);rintro e w13 ⟨rfl,hb⟩;refine⟨_,rfl,?_⟩;have n0_:=am (qB mCf hb);clear HB;have HB:=n0_;clear n0_;(try clear hb);(try clear hb2);(try clear hk);(try clear hi))|((with_reducible refine qO (f:=83) rfl ?_);refine qo (some 12) rfl rfl Tryd.func83 mDh rfl #[.string (⟨#[105,49,54,120,56,32,105,51,50,120,52,32,45,32,45]⟩:ByteArray),.int .i64 a0] rfl mCe ?_;(with_reducible refine(qR.calls (hT:=mCd) (⟨#[105,49,54,120,56,32,105,51,50,120,52,32,45,32,45]⟩:ByteArray) a0 t123 _ A4.out).mono ?_);rintro e w14 ⟨rfl,hb⟩;refine⟨_,rfl,?_⟩;have n0_:=am (qB mCf hb);clear HB;have HB:=n0_;clear n0_;(try clear hb);(try clear hb2);(try clear hk);(try clear hi))|((with_reducible refine qO (f:=83) rfl ?_);refine qo (some 15) rfl rfl Tryd.func83 mDh rfl #[.string (⟨#[115,32,117]⟩:ByteArray),.int .i64 (Go.bits .and .i64 a1 1)] rfl mCe ?_;(with_reducible refine(qR.calls (hT:=mCd) (⟨#[115,32,117]⟩:ByteArray) (Go.bits .and .i64 a1 1) t124 _ A5.out).mono ?_);rintro e w15 ⟨rfl,hb⟩;refine⟨_,rfl,?_⟩;have n0_:=am (qB mCf hb);clear HB;have HB:=n0_;clear n0_;(try clear hb);(try clear hb2);(try clear hk);(try clear hi)))
  (try simp only[Act.put,List.setIfInBounds_toArray,List.set_cons_zero,List.set_cons_succ])
  go_cut [21] (fun v21 wc=>∃(kq:Nat) (x21_11:Bool),v21 = .bool x21_11∧Aside0 (qI.j0 kq a0 a1 t122 t123 t124 x21_11=some (r1,r2))∧Aside0 (kq≤k)∧Aside0 (Below w.heap.size w wc))
  case first =>
   as_aux_lemma =>
    have H:=HC12.out
    clear HC12
    by_cases c16:a1=3
    ·rw[if_pos c16] at H
     have c16b0:(a1==3)=true:=beq_iff_eq.mpr c16
     have c16b1:(a1 != 3)=false:=bne_eq_false_iff_eq.mpr c16
     clear c16
     (first|rw[c16b0]|(simp only[zX,zn];rw[c16b0])|skip)
     have H':=am H
     clear H
     go_wp2
     go_meet
     case rel=>exact⟨_,(true),mDm,H',⟨by first|omega|exact Nat.le_refl _⟩,⟨mCf⟩⟩
    ·rw[if_neg c16] at H
     have c16b0:(a1==3)=false:=beq_eq_false_iff_ne.mpr c16
     have c16b1:(a1 != 3)=true:=bne_iff_ne.mpr c16
     (first|rw[c16b0]|(simp only[zX,zn];rw[c16b0])|skip)
     have H':=am H
     clear H
     go_wp2
     go_meet
     case rel=>exact⟨_,((a1==4)),mDm,H',⟨by first|omega|exact Nat.le_refl _⟩,⟨mCf⟩⟩
  case rest =>
   as_aux_lemma =>
    clear HC12
    try clear c1
    try clear p2
    try clear c4
    try clear c6
    try clear c6b0
    try clear c16
    try clear c16b0
    try clear c16b1
    obtain⟨kq,x21_11,rfl,HA,HJ11,HB⟩:=hcut
    cases kq with
    | zero=>exact absurd HA.out (by simp[qI.j0])
    | succ kj11 =>
      have H:=HA.out
      clear HA
      simp only[qI.j0] at H
      by_cases c17:x21_11=true
      ·subst c17
       rw[if_pos rfl] at H
       try dsimp only at H
       replace H:=Option.bind_eq_some_iff.mp H
       obtain⟨t126,A180,H⟩:=H
       try dsimp only at H
       have A18:=am A180
       clear A180
       simp only[Option.some.injEq,Prod.mk.injEq] at H
       obtain⟨rfl,rfl⟩:=H
       go_wp2_with (first|((with_reducible refine qO (f:=83) rfl ?_);refine qo (some 30) rfl rfl Tryd.func83 mDh rfl #[.string (⟨#[97,108,108,95,116,114,117,101,32,98,105,116,109,97,115,107]⟩:ByteArray),.int .i64 (wrap64 (a1 - 3))] rfl mCe ?_;(with_reducible refine(qR.calls (hT:=mCd) (⟨#[97,108,108,95,116,114,117,101,32,98,105,116,109,97,115,107]⟩:ByteArray) (wrap64 (a1 - 3)) t126 _ A18.out).mono ?_);rintro e w19 ⟨rfl,hb⟩;refine⟨_,rfl,?_⟩;have n0_:=am (qB mCf hb);clear HB;have HB:=n0_;clear n0_;(try clear hb);(try clear hb2);(try clear hk);(try clear hi)))
       go_ret2
       exact mAo
      ·replace c17:=Bool.eq_false_iff.mpr c17
       subst c17
       rw[if_neg (show ¬(false=true) by decide)] at H
       try dsimp only at H
       have HC20:=am H
       clear H
       go_upto_region 8 with (fail)
       go_cut [31] (fun v31 wc=>∃(kq:Nat) (x31_19:Bool),v31 = .bool x31_19∧Aside0 (qI.j1 kq a0 a1 t122 t123 t124 x31_19=some (r1,r2))∧Aside0 (kq≤kj11)∧Aside0 (Below w.heap.size w wc))
       case first =>
        as_aux_lemma =>
         have H:=HC20.out
         clear HC20
         by_cases c21:a1=5
         ·rw[if_pos c21] at H
          have c21b0:(a1==5)=true:=beq_iff_eq.mpr c21
          have c21b1:(a1 != 5)=false:=bne_eq_false_iff_eq.mpr c21
          clear c21
          (first|rw[c21b0]|(simp only[zX,zn];rw[c21b0])|skip)
          exact mBl
         ·rw[if_neg c21] at H
          have c21b0:(a1==5)=false:=beq_eq_false_iff_ne.mpr c21
          have c21b1:(a1 != 5)=true:=bne_iff_ne.mpr c21
          (first|rw[c21b0]|(simp only[zX,zn];rw[c21b0])|skip)
          by_cases c22:a1=6
          ·rw[if_pos c22] at H
           have c22b0:(a1==6)=true:=beq_iff_eq.mpr c22
           have c22b1:(a1 != 6)=false:=bne_eq_false_iff_eq.mpr c22
           clear c22
           exact mBl
          ·rw[if_neg c22] at H
           have c22b0:(a1==6)=false:=beq_eq_false_iff_ne.mpr c22
           have c22b1:(a1 != 6)=true:=bne_iff_ne.mpr c22
           have H':=am H
           clear H
           go_wp2
           go_meet
           case rel=>exact⟨_,(false),mDm,H',⟨by have:=HJ11.out;first|omega|exact Nat.le_refl _⟩,⟨mCf⟩⟩
       case rest =>
        as_aux_lemma =>
         clear HC20
         try clear c1
         try clear c2
         try clear p2
         try clear c4
         try clear c6
         try clear c6b0
         try clear p6
         try clear c16
         try clear c16b0
         try clear c16b1
         try clear c17
         try clear c21
         try clear c21b0
         try clear c21b1
         try clear c22
         try clear c22b0
         try clear c22b1
         try clear p2
         obtain⟨kq,x31_19,rfl,HA,HJ19,HB⟩:=hcut
         cases kq with
         | zero=>exact absurd HA.out (by simp[qI.j1])
         | succ kj19 =>
           have H:=HA.out
           clear HA
           simp only[qI.j1] at H
           by_cases c23:x31_19=true
           ·subst c23
            rw[if_pos rfl] at H
            try dsimp only at H
            by_cases c24:7+t123.size≤9223372036854775807
            ·rw[if_pos c24] at H
             have c24b0:=eq_true c24
             have c24b1:decide (7+t123.size≤9223372036854775807)=true:=decide_eq_true c24
             try have c24b2:(9223372036854775807<7+t123.size)=False:=eq_false (Nat.not_lt.2 c24)
             by_cases c25:((⟨#[110,97,114,114,111,119,95]⟩:ByteArray)++t123).size+1≤9223372036854775807
             ·rw[if_pos c25] at H
              have c25b0:=eq_true c25
              have c25b1:decide (((⟨#[110,97,114,114,111,119,95]⟩:ByteArray)++t123).size+1≤9223372036854775807)=true:=decide_eq_true c25
              try have c25b2:(9223372036854775807<((⟨#[110,97,114,114,111,119,95]⟩:ByteArray)++t123).size+1)=False:=eq_false (Nat.not_lt.2 c25)
              have c25b3:(9223372036854775807<7+t123.size+1)=False:=eq_false (Nat.not_lt.2 (by have h_:=c25;simp only[ByteArray.size_append] at h_;exact h_))
              replace H:=Option.bind_eq_some_iff.mp H
              obtain⟨t127,A260,H⟩:=H
              try dsimp only at H
              have A26:=am A260
              clear A260
              by_cases c27:(((⟨#[110,97,114,114,111,119,95]⟩:ByteArray)++t123)++(⟨#[95]⟩:ByteArray)).size+t127.size≤9223372036854775807
              ·rw[if_pos c27] at H
               have c27b0:=eq_true c27
               have c27b1:decide ((((⟨#[110,97,114,114,111,119,95]⟩:ByteArray)++t123)++(⟨#[95]⟩:ByteArray)).size+t127.size≤9223372036854775807)=true:=decide_eq_true c27
               try have c27b2:(9223372036854775807<(((⟨#[110,97,114,114,111,119,95]⟩:ByteArray)++t123)++(⟨#[95]⟩:ByteArray)).size+t127.size)=False:=eq_false (Nat.not_lt.2 c27)
               have c27b3:(9223372036854775807<7+t123.size+1+t127.size)=False:=eq_false (Nat.not_lt.2 (by have h_:=c27;simp only[ByteArray.size_append] at h_;exact h_))
               simp only[Option.some.injEq,Prod.mk.injEq] at H
               obtain⟨rfl,rfl⟩:=H
               go_wp2_with (first|((with_reducible refine qO (f:=83) rfl ?_);refine qo (some 47) rfl rfl Tryd.func83 mDh rfl #[.string (⟨#[115,32,117]⟩:ByteArray),.int .i64 (wrap64 (a1 - 5))] rfl mCe ?_;(with_reducible refine(qR.calls (hT:=mCd) (⟨#[115,32,117]⟩:ByteArray) (wrap64 (a1 - 5)) t127 _ A26.out).mono ?_);rintro e w28 ⟨rfl,hb⟩;refine⟨_,rfl,?_⟩;have n0_:=am (qB mCf hb);clear HB;have HB:=n0_;clear n0_;(try clear hb);(try clear hb2);(try clear hk);(try clear hi)))
               go_ret2
               exact mAo
              ·rw[if_neg c27] at H
               exact absurd H mDp
             ·rw[if_neg c25] at H
              exact absurd H mDp
            ·rw[if_neg c24] at H
             exact absurd H mDp
           ·replace c23:=Bool.eq_false_iff.mpr c23
            subst c23
            rw[if_neg (show ¬(false=true) by decide)] at H
            try dsimp only at H
            have HC29:=am H
            clear H
            go_upto_region 10 with (fail)
            go_cut [49] (fun v49 wc=>∃(kq:Nat) (x49_28:Bool),v49 = .bool x49_28∧Aside0 (qI.j2 kq a0 a1 t122 t124 x49_28=some (r1,r2))∧Aside0 (kq≤kj19)∧Aside0 (Below w.heap.size w wc))
            case first =>
             as_aux_lemma =>
              have H:=HC29.out
              clear HC29
              by_cases c30:a1≥7
              ·rw[if_pos c30] at H
               have c30b0:decide (7≤a1)=true:=decide_eq_true c30
               clear c30
               (first|rw[c30b0]|(simp only[zX,zn];rw[c30b0])|skip)
               by_cases c31:a1≤10
               ·rw[if_pos c31] at H
                have c31b0:decide (a1≤10)=true:=decide_eq_true c31
                clear c31
                have H':=am H
                clear H
                go_wp2
                go_meet
                case rel=>exact⟨_,(decide (a0 > 0)),mDm,H',⟨by have:=HJ11.out;have:=HJ19.out;first|omega|exact Nat.le_refl _⟩,⟨mCf⟩⟩
               ·rw[if_neg c31] at H
                have c31b0:decide (a1≤10)=false:=decide_eq_false c31
                clear c31
                exact mBk
              ·rw[if_neg c30] at H
               have c30b0:decide (7≤a1)=false:=decide_eq_false c30
               clear c30
               (first|rw[c30b0]|(simp only[zX,zn];rw[c30b0])|skip)
               exact mBk
            case rest =>
             as_aux_lemma =>
              clear HC29
              try clear c1
              try clear c2
              try clear p2
              try clear c3
              try clear c4
              try clear c6
              try clear c6b0
              try clear p6
              try clear c16
              try clear c16b0
              try clear c16b1
              try clear c17
              try clear c21
              try clear c21b0
              try clear c21b1
              try clear c22
              try clear c22b0
              try clear c22b1
              try clear c23
              try clear c24
              try clear c24b0
              try clear c24b1
              try clear c24b2
              try clear c25
              try clear c25b0
              try clear c25b1
              try clear c25b2
              try clear c27
              try clear c27b0
              try clear c27b1
              try clear c27b2
              try clear c30
              try clear c30b0
              try clear c31
              try clear c31b0
              try clear p2
              try clear p6
              obtain⟨kq,x49_28,rfl,HA,HJ28,HB⟩:=hcut
              cases kq with
              | zero=>exact absurd HA.out (by simp[qI.j2])
              | succ kj28 =>
                have H:=HA.out
                clear HA
                simp only[qI.j2] at H
                by_cases c32:x49_28=true
                ·subst c32
                 rw[if_pos rfl] at H
                 try dsimp only at H
                 replace H:=Option.bind_eq_some_iff.mp H
                 obtain⟨t128,A330,H⟩:=H
                 try dsimp only at H
                 have A33:=am A330
                 clear A330
                 by_cases c34:t128.size+1≤9223372036854775807
                 ·rw[if_pos c34] at H
                  have c34b0:=eq_true c34
                  have c34b1:decide (t128.size+1≤9223372036854775807)=true:=decide_eq_true c34
                  try have c34b2:(9223372036854775807<t128.size+1)=False:=eq_false (Nat.not_lt.2 c34)
                  by_cases c35:(t128++(⟨#[95]⟩:ByteArray)).size+t122.size≤9223372036854775807
                  ·rw[if_pos c35] at H
                   have c35b0:=eq_true c35
                   have c35b1:decide ((t128++(⟨#[95]⟩:ByteArray)).size+t122.size≤9223372036854775807)=true:=decide_eq_true c35
                   try have c35b2:(9223372036854775807<(t128++(⟨#[95]⟩:ByteArray)).size+t122.size)=False:=eq_false (Nat.not_lt.2 c35)
                   have c35b3:(9223372036854775807<t128.size+1+t122.size)=False:=eq_false (Nat.not_lt.2 (by have h_:=c35;simp only[ByteArray.size_append] at h_;exact h_))
                   by_cases c36:((t128++(⟨#[95]⟩:ByteArray))++t122).size+1≤9223372036854775807
                   ·rw[if_pos c36] at H
                    have c36b0:=eq_true c36
                    have c36b1:decide (((t128++(⟨#[95]⟩:ByteArray))++t122).size+1≤9223372036854775807)=true:=decide_eq_true c36
                    try have c36b2:(9223372036854775807<((t128++(⟨#[95]⟩:ByteArray))++t122).size+1)=False:=eq_false (Nat.not_lt.2 c36)
                    have c36b3:(9223372036854775807<t128.size+1+t122.size+1)=False:=eq_false (Nat.not_lt.2 (by have h_:=c36;simp only[ByteArray.size_append] at h_;exact h_))
                    replace H:=Option.bind_eq_some_iff.mp H
                    obtain⟨t129,A370,H⟩:=H
                    try dsimp only at H
                    have A37:=am A370
                    clear A370
                    by_cases c38:(((t128++(⟨#[95]⟩:ByteArray))++t122)++(⟨#[95]⟩:ByteArray)).size+t129.size≤9223372036854775807
                    ·rw[if_pos c38] at H
                     have c38b0:=eq_true c38
                     have c38b1:decide ((((t128++(⟨#[95]⟩:ByteArray))++t122)++(⟨#[95]⟩:ByteArray)).size+t129.size≤9223372036854775807)=true:=decide_eq_true c38
                     try have c38b2:(9223372036854775807<(((t128++(⟨#[95]⟩:ByteArray))++t122)++(⟨#[95]⟩:ByteArray)).size+t129.size)=False:=eq_false (Nat.not_lt.2 c38)
                     have c38b3:(9223372036854775807<t128.size+1+t122.size+1+t129.size)=False:=eq_false (Nat.not_lt.2 (by have h_:=c38;simp only[ByteArray.size_append] at h_;exact h_))
                     simp only[Option.some.injEq,Prod.mk.injEq] at H
                     obtain⟨rfl,rfl⟩:=H
                     go_wp2_with (first|((with_reducible refine qO (f:=83) rfl ?_);refine qo (some 62) rfl rfl Tryd.func83 mDh rfl #[.string (⟨#[101,120,116,101,110,100,95,108,111,119,32,101,120,116,101,110,100,95,104,105,103,104,32,101,120,116,101,110,100,95,108,111,119,32,101,120,116,101,110,100,95,104,105,103,104]⟩:ByteArray),.int .i64 (wrap64 (a1 - 7))] rfl mCe ?_;(with_reducible refine(qR.calls (hT:=mCd) (⟨#[101,120,116,101,110,100,95,108,111,119,32,101,120,116,101,110,100,95,104,105,103,104,32,101,120,116,101,110,100,95,108,111,119,32,101,120,116,101,110,100,95,104,105,103,104]⟩:ByteArray) (wrap64 (a1 - 7)) t128 _ A33.out).mono ?_);rintro e w39 ⟨rfl,hb⟩;refine⟨_,rfl,?_⟩;have n0_:=am (qB mCf hb);clear HB;have HB:=n0_;clear n0_;(try clear hb);(try clear hb2);(try clear hk);(try clear hi))|((with_reducible refine qO (f:=83) rfl ?_);refine qo (some 69) rfl rfl Tryd.func83 mDh rfl #[.string (⟨#[115,32,115,32,117,32,117]⟩:ByteArray),.int .i64 (wrap64 (a1 - 7))] rfl mCe ?_;(with_reducible refine(qR.calls (hT:=mCd) (⟨#[115,32,115,32,117,32,117]⟩:ByteArray) (wrap64 (a1 - 7)) t129 _ A37.out).mono ?_);rintro e w40 ⟨rfl,hb⟩;refine⟨_,rfl,?_⟩;have n0_:=am (qB mCf hb);clear HB;have HB:=n0_;clear n0_;(try clear hb);(try clear hb2);(try clear hk);(try clear hi)))
                     go_ret2
                     exact mAo
                    ·rw[if_neg c38] at H
                     exact absurd H mDp
                   ·rw[if_neg c36] at H
                    exact absurd H mDp
                  ·rw[if_neg c35] at H
                   exact absurd H mDp
                 ·rw[if_neg c34] at H
                  exact absurd H mDp
                ·replace c32:=Bool.eq_false_iff.mpr c32
                 subst c32
                 rw[if_neg (show ¬(false=true) by decide)] at H
                 try dsimp only at H
                 have HC41:=am H
                 clear H
                 go_upto_region 12 with (fail)
                 go_cut [71] (fun v71 wc=>∃(kq:Nat) (x71_40:Bool),v71 = .bool x71_40∧Aside0 (qI.j3 kq a0 a1 t122 t124 x71_40=some (r1,r2))∧Aside0 (kq≤kj28)∧Aside0 (Below w.heap.size w wc))
                 case first =>
                  as_aux_lemma =>
                   have H:=HC41.out
                   clear HC41
                   by_cases c42:a1≥11
                   ·rw[if_pos c42] at H
                    have c42b0:decide (11≤a1)=true:=decide_eq_true c42
                    clear c42
                    (first|rw[c42b0]|(simp only[zX,zn];rw[c42b0])|skip)
                    have H':=am H
                    clear H
                    go_wp2
                    go_meet
                    case rel=>exact⟨_,(decide (a1≤13)),mDm,H',⟨by have:=HJ11.out;have:=HJ19.out;have:=HJ28.out;first|omega|exact Nat.le_refl _⟩,⟨mCf⟩⟩
                   ·rw[if_neg c42] at H
                    have c42b0:decide (11≤a1)=false:=decide_eq_false c42
                    clear c42
                    (first|rw[c42b0]|(simp only[zX,zn];rw[c42b0])|skip)
                    have H':=am H
                    clear H
                    go_wp2
                    go_meet
                    case rel=>exact⟨_,(false),mDm,H',⟨by have:=HJ11.out;have:=HJ19.out;have:=HJ28.out;first|omega|exact Nat.le_refl _⟩,⟨mCf⟩⟩
                 case rest =>
                  as_aux_lemma =>
                   clear HC41
                   try clear c1
                   try clear c2
                   try clear p2
                   try clear c3
                   try clear c4
                   try clear c6
                   try clear c6b0
                   try clear p6
                   try clear c16
                   try clear c16b0
                   try clear c16b1
                   try clear c17
                   try clear c21
                   try clear c21b0
                   try clear c21b1
                   try clear c22
                   try clear c22b0
                   try clear c22b1
                   try clear c23
                   try clear c24
                   try clear c24b0
                   try clear c24b1
                   try clear c24b2
                   try clear c25
                   try clear c25b0
                   try clear c25b1
                   try clear c25b2
                   try clear c27
                   try clear c27b0
                   try clear c27b1
                   try clear c27b2
                   try clear c30
                   try clear c30b0
                   try clear c31
                   try clear c31b0
                   try clear c32
                   try clear c34
                   try clear c34b0
                   try clear c34b1
                   try clear c34b2
                   try clear c35
                   try clear c35b0
                   try clear c35b1
                   try clear c35b2
                   try clear c36
                   try clear c36b0
                   try clear c36b1
                   try clear c36b2
                   try clear c38
                   try clear c38b0
                   try clear c38b1
                   try clear c38b2
                   try clear c42
                   try clear c42b0
                   try clear p2
                   try clear p6
                   obtain⟨kq,x71_40,rfl,HA,HJ40,HB⟩:=hcut
                   cases kq with
                   | zero=>exact absurd HA.out (by simp[qI.j3])
                   | succ kj40 =>
                     have H:=HA.out
                     clear HA
                     simp only[qI.j3] at H
                     by_cases c43:x71_40=true
                     ·subst c43
                      rw[if_pos rfl] at H
                      try dsimp only at H
                      replace H:=Option.bind_eq_some_iff.mp H
                      obtain⟨t130,A440,H⟩:=H
                      try dsimp only at H
                      have A44:=am A440
                      clear A440
                      simp only[Option.some.injEq,Prod.mk.injEq] at H
                      obtain⟨rfl,rfl⟩:=H
                      go_wp2_with (first|((with_reducible refine qO (f:=83) rfl ?_);refine qo (some 80) rfl rfl Tryd.func83 mDh rfl #[.string (⟨#[115,104,108,32,115,104,114,95,115,32,115,104,114,95,117]⟩:ByteArray),.int .i64 (wrap64 (a1 - 11))] rfl mCe ?_;(with_reducible refine(qR.calls (hT:=mCd) (⟨#[115,104,108,32,115,104,114,95,115,32,115,104,114,95,117]⟩:ByteArray) (wrap64 (a1 - 11)) t130 _ A44.out).mono ?_);rintro e w45 ⟨rfl,hb⟩;refine⟨_,rfl,?_⟩;have n0_:=am (qB mCf hb);clear HB;have HB:=n0_;clear n0_;(try clear hb);(try clear hb2);(try clear hk);(try clear hi)))
                      go_ret2
                      exact mAo
                     ·replace c43:=Bool.eq_false_iff.mpr c43
                      subst c43
                      rw[if_neg (show ¬(false=true) by decide)] at H
                      try dsimp only at H
                      have HC46:=am H
                      clear H
                      go_upto_region 14 with (fail)
                      go_cut [81] (fun v81 wc=>∃(kq:Nat) (x81_45:Bool),v81 = .bool x81_45∧Aside0 (qI.j4 kq a0 a1 t122 t124 x81_45=some (r1,r2))∧Aside0 (kq≤kj40)∧Aside0 (Below w.heap.size w wc))
                      case first =>
                       as_aux_lemma =>
                        have H:=HC46.out
                        clear HC46
                        by_cases c47:a1=14
                        ·rw[if_pos c47] at H
                         have c47b0:(a1==14)=true:=beq_iff_eq.mpr c47
                         have c47b1:(a1 != 14)=false:=bne_eq_false_iff_eq.mpr c47
                         clear c47
                         (first|rw[c47b0]|(simp only[zX,zn];rw[c47b0])|skip)
                         have H':=am H
                         clear H
                         go_wp2
                         go_meet
                         case rel=>exact⟨_,(true),mDm,H',⟨by have:=HJ11.out;have:=HJ19.out;have:=HJ28.out;have:=HJ40.out;first|omega|exact Nat.le_refl _⟩,⟨mCf⟩⟩
                        ·rw[if_neg c47] at H
                         have c47b0:(a1==14)=false:=beq_eq_false_iff_ne.mpr c47
                         have c47b1:(a1 != 14)=true:=bne_iff_ne.mpr c47
                         (first|rw[c47b0]|(simp only[zX,zn];rw[c47b0])|skip)
                         have H':=am H
                         clear H
                         go_wp2
                         go_meet
                         case rel=>exact⟨_,((a1==17)),mDm,H',⟨by have:=HJ11.out;have:=HJ19.out;have:=HJ28.out;have:=HJ40.out;first|omega|exact Nat.le_refl _⟩,⟨mCf⟩⟩
                      case rest =>
                       as_aux_lemma =>
                        clear HC46
                        try clear c1
                        try clear c2
                        try clear p2
                        try clear c3
                        try clear c4
                        try clear c6
                        try clear c6b0
                        try clear p6
                        try clear c16
                        try clear c16b0
                        try clear c16b1
                        try clear c17
                        try clear c21
                        try clear c21b0
                        try clear c21b1
                        try clear c22
                        try clear c22b0
                        try clear c22b1
                        try clear c23
                        try clear c24
                        try clear c24b0
                        try clear c24b1
                        try clear c24b2
                        try clear c25
                        try clear c25b0
                        try clear c25b1
                        try clear c25b2
                        try clear c27
                        try clear c27b0
                        try clear c27b1
                        try clear c27b2
                        try clear c30
                        try clear c30b0
                        try clear c31
                        try clear c31b0
                        try clear c32
                        try clear c34
                        try clear c34b0
                        try clear c34b1
                        try clear c34b2
                        try clear c35
                        try clear c35b0
                        try clear c35b1
                        try clear c35b2
                        try clear c36
                        try clear c36b0
                        try clear c36b1
                        try clear c36b2
                        try clear c38
                        try clear c38b0
                        try clear c38b1
                        try clear c38b2
                        try clear c42
                        try clear c42b0
                        try clear c43
                        try clear c44
                        try clear c45
                        try clear c47
                        try clear c47b0
                        try clear c47b1
                        try clear p2
                        try clear p6
                        obtain⟨kq,x81_45,rfl,HA,HJ45,HB⟩:=hcut
                        cases kq with
                        | zero=>exact absurd HA.out (by simp[qI.j4])
                        | succ kj45 =>
                          have H:=HA.out
                          clear HA
                          simp only[qI.j4] at H
                          by_cases c48:x81_45=true
                          ·subst c48
                           rw[if_pos rfl] at H
                           try dsimp only at H
                           replace H:=Option.bind_eq_some_iff.mp H
                           obtain⟨t131,A490,H⟩:=H
                           try dsimp only at H
                           have A49:=am A490
                           clear A490
                           simp only[Option.some.injEq,Prod.mk.injEq] at H
                           obtain⟨rfl,rfl⟩:=H
                           go_wp2_with (first|((with_reducible refine qO (f:=83) rfl ?_);refine qo (some 90) rfl rfl Tryd.func83 mDh rfl #[.string (⟨#[97,100,100,32,45,32,45,32,115,117,98]⟩:ByteArray),.int .i64 (wrap64 (a1 - 14))] rfl mCe ?_;(with_reducible refine(qR.calls (hT:=mCd) (⟨#[97,100,100,32,45,32,45,32,115,117,98]⟩:ByteArray) (wrap64 (a1 - 14)) t131 _ A49.out).mono ?_);rintro e w50 ⟨rfl,hb⟩;refine⟨_,rfl,?_⟩;have n0_:=am (qB mCf hb);clear HB;have HB:=n0_;clear n0_;(try clear hb);(try clear hb2);(try clear hk);(try clear hi)))
                           go_ret2
                           exact mAo
                          ·replace c48:=Bool.eq_false_iff.mpr c48
                           subst c48
                           rw[if_neg (show ¬(false=true) by decide)] at H
                           try dsimp only at H
                           have HC51:=am H
                           clear H
                           go_upto_region 16 with (fail)
                           go_cut [91] (fun v91 wc=>∃(kq:Nat) (x91_50:Bool),v91 = .bool x91_50∧Aside0 (qI.j5 kq a0 a1 t122 t124 x91_50=some (r1,r2))∧Aside0 (kq≤kj45)∧Aside0 (Below w.heap.size w wc))
                           case first =>
                            as_aux_lemma =>
                             have H:=HC51.out
                             clear HC51
                             by_cases c52:a1≥15
                             ·rw[if_pos c52] at H
                              have c52b0:decide (15≤a1)=true:=decide_eq_true c52
                              clear c52
                              (first|rw[c52b0]|(simp only[zX,zn];rw[c52b0])|skip)
                              by_cases c53:a1≤19
                              ·rw[if_pos c53] at H
                               have c53b0:decide (a1≤19)=true:=decide_eq_true c53
                               clear c53
                               have H':=am H
                               clear H
                               go_wp2
                               go_meet
                               case rel=>exact⟨_,(decide (a0<2)),mDm,H',⟨by have:=HJ11.out;have:=HJ19.out;have:=HJ28.out;have:=HJ40.out;have:=HJ45.out;first|omega|exact Nat.le_refl _⟩,⟨mCf⟩⟩
                              ·rw[if_neg c53] at H
                               have c53b0:decide (a1≤19)=false:=decide_eq_false c53
                               clear c53
                               exact mBg
                             ·rw[if_neg c52] at H
                              have c52b0:decide (15≤a1)=false:=decide_eq_false c52
                              clear c52
                              (first|rw[c52b0]|(simp only[zX,zn];rw[c52b0])|skip)
                              exact mBg
                           case rest =>
                            as_aux_lemma =>
                             clear HC51
                             try clear c1
                             try clear c2
                             try clear p2
                             try clear c3
                             try clear c4
                             try clear c5
                             try clear c6
                             try clear c6b0
                             try clear p6
                             try clear c16
                             try clear c16b0
                             try clear c16b1
                             try clear c17
                             try clear c21
                             try clear c21b0
                             try clear c21b1
                             try clear c22
                             try clear c22b0
                             try clear c22b1
                             try clear c23
                             try clear c24
                             try clear c24b0
                             try clear c24b1
                             try clear c24b2
                             try clear c25
                             try clear c25b0
                             try clear c25b1
                             try clear c25b2
                             try clear c27
                             try clear c27b0
                             try clear c27b1
                             try clear c27b2
                             try clear c30
                             try clear c30b0
                             try clear c31
                             try clear c31b0
                             try clear c32
                             try clear c34
                             try clear c34b0
                             try clear c34b1
                             try clear c34b2
                             try clear c35
                             try clear c35b0
                             try clear c35b1
                             try clear c35b2
                             try clear c36
                             try clear c36b0
                             try clear c36b1
                             try clear c36b2
                             try clear c38
                             try clear c38b0
                             try clear c38b1
                             try clear c38b2
                             try clear c42
                             try clear c42b0
                             try clear c43
                             try clear c44
                             try clear c45
                             try clear c47
                             try clear c47b0
                             try clear c47b1
                             try clear c48
                             try clear c52
                             try clear c52b0
                             try clear c53
                             try clear c53b0
                             try clear p2
                             try clear p6
                             obtain⟨kq,x91_50,rfl,HA,HJ50,HB⟩:=hcut
                             cases kq with
                             | zero=>exact absurd HA.out (by simp[qI.j5])
                             | succ kj50 =>
                               have H:=HA.out
                               clear HA
                               simp only[qI.j5] at H
                               by_cases c54:x91_50=true
                               ·subst c54
                                rw[if_pos rfl] at H
                                try dsimp only at H
                                replace H:=Option.bind_eq_some_iff.mp H
                                obtain⟨t132,A550,H⟩:=H
                                try dsimp only at H
                                have A55:=am A550
                                clear A550
                                replace H:=Option.bind_eq_some_iff.mp H
                                obtain⟨t133,A560,H⟩:=H
                                try dsimp only at H
                                have A56:=am A560
                                clear A560
                                by_cases c57:t132.size+t133.size≤9223372036854775807
                                ·rw[if_pos c57] at H
                                 have c57b0:=eq_true c57
                                 have c57b1:decide (t132.size+t133.size≤9223372036854775807)=true:=decide_eq_true c57
                                 try have c57b2:(9223372036854775807<t132.size+t133.size)=False:=eq_false (Nat.not_lt.2 c57)
                                 simp only[Option.some.injEq,Prod.mk.injEq] at H
                                 obtain⟨rfl,rfl⟩:=H
                                 go_wp2_with (first|((with_reducible refine qO (f:=83) rfl ?_);refine qo (some 104) rfl rfl Tryd.func83 mDh rfl #[.string (⟨#[97,100,100,95,115,97,116,95,32,97,100,100,95,115,97,116,95,32,45,32,115,117,98,95,115,97,116,95,32,115,117,98,95,115,97,116,95]⟩:ByteArray),.int .i64 (wrap64 (a1 - 15))] rfl mCe ?_;(with_reducible refine(qR.calls (hT:=mCd) (⟨#[97,100,100,95,115,97,116,95,32,97,100,100,95,115,97,116,95,32,45,32,115,117,98,95,115,97,116,95,32,115,117,98,95,115,97,116,95]⟩:ByteArray) (wrap64 (a1 - 15)) t132 _ A55.out).mono ?_);rintro e w58 ⟨rfl,hb⟩;refine⟨_,rfl,?_⟩;have n0_:=am (qB mCf hb);clear HB;have HB:=n0_;clear n0_;(try clear hb);(try clear hb2);(try clear hk);(try clear hi))|((with_reducible refine qO (f:=83) rfl ?_);refine qo (some 107) rfl rfl Tryd.func83 mDh rfl #[.string (⟨#[115,32,117,32,45,32,115,32,117]⟩:ByteArray),.int .i64 (wrap64 (a1 - 15))] rfl mCe ?_;(with_reducible refine(qR.calls (hT:=mCd) (⟨#[115,32,117,32,45,32,115,32,117]⟩:ByteArray) (wrap64 (a1 - 15)) t133 _ A56.out).mono ?_);rintro e w59 ⟨rfl,hb⟩;refine⟨_,rfl,?_⟩;have n0_:=am (qB mCf hb);clear HB;have HB:=n0_;clear n0_;(try clear hb);(try clear hb2);(try clear hk);(try clear hi)))
                                 go_ret2
                                 exact mAo
                                ·rw[if_neg c57] at H
                                 exact absurd H mDp
                               ·replace c54:=Bool.eq_false_iff.mpr c54
                                subst c54
                                rw[if_neg (show ¬(false=true) by decide)] at H
                                try dsimp only at H
                                have HC60:=am H
                                clear H
                                go_upto_region 18 with (fail)
                                go_cut [109] (fun v109 wc=>∃(kq:Nat) (x109_59:Bool),v109 = .bool x109_59∧Aside0 (qI.j6 kq a0 a1 t122 t124 x109_59=some (r1,r2))∧Aside0 (kq≤kj50)∧Aside0 (Below w.heap.size w wc))
                                case first =>
                                 as_aux_lemma =>
                                  have H:=HC60.out
                                  clear HC60
                                  by_cases c61:a1=21
                                  ·rw[if_pos c61] at H
                                   have c61b0:(a1==21)=true:=beq_iff_eq.mpr c61
                                   have c61b1:(a1 != 21)=false:=bne_eq_false_iff_eq.mpr c61
                                   clear c61
                                   (first|rw[c61b0]|(simp only[zX,zn];rw[c61b0])|skip)
                                   have H':=am H
                                   clear H
                                   go_wp2
                                   go_meet
                                   case rel=>exact⟨_,(decide (a0 > 0)),mDm,H',⟨by have:=HJ11.out;have:=HJ19.out;have:=HJ28.out;have:=HJ40.out;have:=HJ45.out;have:=HJ50.out;first|omega|exact Nat.le_refl _⟩,⟨mCf⟩⟩
                                  ·rw[if_neg c61] at H
                                   have c61b0:(a1==21)=false:=beq_eq_false_iff_ne.mpr c61
                                   have c61b1:(a1 != 21)=true:=bne_iff_ne.mpr c61
                                   (first|rw[c61b0]|(simp only[zX,zn];rw[c61b0])|skip)
                                   have H':=am H
                                   clear H
                                   go_wp2
                                   go_meet
                                   case rel=>exact⟨_,(false),mDm,H',⟨by have:=HJ11.out;have:=HJ19.out;have:=HJ28.out;have:=HJ40.out;have:=HJ45.out;have:=HJ50.out;first|omega|exact Nat.le_refl _⟩,⟨mCf⟩⟩
                                case rest =>
                                 as_aux_lemma =>
                                  clear HC60
                                  try clear c1
                                  try clear c2
                                  try clear p2
                                  try clear c3
                                  try clear c4
                                  try clear c5
                                  try clear c6
                                  try clear c6b0
                                  try clear p6
                                  try clear c16
                                  try clear c16b0
                                  try clear c16b1
                                  try clear c17
                                  try clear c21
                                  try clear c21b0
                                  try clear c21b1
                                  try clear c22
                                  try clear c22b0
                                  try clear c22b1
                                  try clear c23
                                  try clear c24
                                  try clear c24b0
                                  try clear c24b1
                                  try clear c24b2
                                  try clear c25
                                  try clear c25b0
                                  try clear c25b1
                                  try clear c25b2
                                  try clear c27
                                  try clear c27b0
                                  try clear c27b1
                                  try clear c27b2
                                  try clear c30
                                  try clear c30b0
                                  try clear c31
                                  try clear c31b0
                                  try clear c32
                                  try clear c34
                                  try clear c34b0
                                  try clear c34b1
                                  try clear c34b2
                                  try clear c35
                                  try clear c35b0
                                  try clear c35b1
                                  try clear c35b2
                                  try clear c36
                                  try clear c36b0
                                  try clear c36b1
                                  try clear c36b2
                                  try clear c38
                                  try clear c38b0
                                  try clear c38b1
                                  try clear c38b2
                                  try clear c42
                                  try clear c42b0
                                  try clear c43
                                  try clear c44
                                  try clear c45
                                  try clear c47
                                  try clear c47b0
                                  try clear c47b1
                                  try clear c48
                                  try clear c52
                                  try clear c52b0
                                  try clear c53
                                  try clear c53b0
                                  try clear c54
                                  try clear c57
                                  try clear c57b0
                                  try clear c57b1
                                  try clear c57b2
                                  try clear c61
                                  try clear c61b0
                                  try clear c61b1
                                  try clear p2
                                  try clear p6
                                  obtain⟨kq,x109_59,rfl,HA,HJ59,HB⟩:=hcut
                                  cases kq with
                                  | zero=>exact absurd HA.out (by simp[qI.j6])
                                  | succ kj59 =>
                                    have H:=HA.out
                                    clear HA
                                    simp only[qI.j6] at H
                                    by_cases c62:x109_59=true
                                    ·subst c62
                                     rw[if_pos rfl] at H
                                     exact mEt
                                    ·replace c62:=Bool.eq_false_iff.mpr c62
                                     subst c62
                                     rw[if_neg (show ¬(false=true) by decide)] at H
                                     try dsimp only at H
                                     have HC63:=am H
                                     clear H
                                     go_upto_region 20 with (fail)
                                     go_cut [116] (fun v116 wc=>∃(kq:Nat) (x116_62:Bool),v116 = .bool x116_62∧Aside0 (qI.j7 kq a0 a1 t122 t124 x116_62=some (r1,r2))∧Aside0 (kq≤kj59)∧Aside0 (Below w.heap.size w wc))
                                     case first =>
                                      as_aux_lemma =>
                                       have H:=HC63.out
                                       clear HC63
                                       by_cases c64:a1≥22
                                       ·rw[if_pos c64] at H
                                        have c64b0:decide (22≤a1)=true:=decide_eq_true c64
                                        clear c64
                                        (first|rw[c64b0]|(simp only[zX,zn];rw[c64b0])|skip)
                                        by_cases c65:a1≤25
                                        ·rw[if_pos c65] at H
                                         have c65b0:decide (a1≤25)=true:=decide_eq_true c65
                                         clear c65
                                         have H':=am H
                                         clear H
                                         go_wp2
                                         go_meet
                                         case rel=>exact⟨_,(decide (a0<3)),mDm,H',⟨by have:=HJ11.out;have:=HJ19.out;have:=HJ28.out;have:=HJ40.out;have:=HJ45.out;have:=HJ50.out;have:=HJ59.out;first|omega|exact Nat.le_refl _⟩,⟨mCf⟩⟩
                                        ·rw[if_neg c65] at H
                                         have c65b0:decide (a1≤25)=false:=decide_eq_false c65
                                         clear c65
                                         exact mBd
                                       ·rw[if_neg c64] at H
                                        have c64b0:decide (22≤a1)=false:=decide_eq_false c64
                                        clear c64
                                        (first|rw[c64b0]|(simp only[zX,zn];rw[c64b0])|skip)
                                        exact mBd
                                     case rest =>
                                      as_aux_lemma =>
                                       clear HC63
                                       try clear c1
                                       try clear c2
                                       try clear p2
                                       try clear c3
                                       try clear c4
                                       try clear c5
                                       try clear c6
                                       try clear c6b0
                                       try clear p6
                                       try clear c16
                                       try clear c16b0
                                       try clear c16b1
                                       try clear c17
                                       try clear c21
                                       try clear c21b0
                                       try clear c21b1
                                       try clear c22
                                       try clear c22b0
                                       try clear c22b1
                                       try clear c23
                                       try clear c24
                                       try clear c24b0
                                       try clear c24b1
                                       try clear c24b2
                                       try clear c25
                                       try clear c25b0
                                       try clear c25b1
                                       try clear c25b2
                                       try clear c27
                                       try clear c27b0
                                       try clear c27b1
                                       try clear c27b2
                                       try clear c30
                                       try clear c30b0
                                       try clear c31
                                       try clear c31b0
                                       try clear c32
                                       try clear c34
                                       try clear c34b0
                                       try clear c34b1
                                       try clear c34b2
                                       try clear c35
                                       try clear c35b0
                                       try clear c35b1
                                       try clear c35b2
                                       try clear c36
                                       try clear c36b0
                                       try clear c36b1
                                       try clear c36b2
                                       try clear c38
                                       try clear c38b0
                                       try clear c38b1
                                       try clear c38b2
                                       try clear c42
                                       try clear c42b0
                                       try clear c43
                                       try clear c44
                                       try clear c45
                                       try clear c47
                                       try clear c47b0
                                       try clear c47b1
                                       try clear c48
                                       try clear c52
                                       try clear c52b0
                                       try clear c53
                                       try clear c53b0
                                       try clear c54
                                       try clear c57
                                       try clear c57b0
                                       try clear c57b1
                                       try clear c57b2
                                       try clear c61
                                       try clear c61b0
                                       try clear c61b1
                                       try clear c62
                                       try clear c64
                                       try clear c64b0
                                       try clear p64
                                       try clear c65
                                       try clear c65b0
                                       try clear p2
                                       try clear p6
                                       obtain⟨kq,x116_62,rfl,HA,HJ62,HB⟩:=hcut
                                       cases kq with
                                       | zero=>exact absurd HA.out (by simp[qI.j7])
                                       | succ kj62 =>
                                         have H:=HA.out
                                         clear HA
                                         simp only[qI.j7] at H
                                         by_cases c66:x116_62=true
                                         ·subst c66
                                          rw[if_pos rfl] at H
                                          try dsimp only at H
                                          replace H:=Option.bind_eq_some_iff.mp H
                                          obtain⟨t134,A670,H⟩:=H
                                          try dsimp only at H
                                          have A67:=am A670
                                          clear A670
                                          by_cases c68:t134.size+t124.size≤9223372036854775807
                                          ·rw[if_pos c68] at H
                                           have c68b0:=eq_true c68
                                           have c68b1:decide (t134.size+t124.size≤9223372036854775807)=true:=decide_eq_true c68
                                           try have c68b2:(9223372036854775807<t134.size+t124.size)=False:=eq_false (Nat.not_lt.2 c68)
                                           simp only[Option.some.injEq,Prod.mk.injEq] at H
                                           obtain⟨rfl,rfl⟩:=H
                                           go_wp2_with (first|((with_reducible refine qO (f:=83) rfl ?_);refine qo (some 129) rfl rfl Tryd.func83 mDh rfl #[.string (⟨#[109,105,110,95,32,109,105,110,95,32,109,97,120,95,32,109,97,120,95]⟩:ByteArray),.int .i64 (wrap64 (a1 - 22))] rfl mCe ?_;(with_reducible refine(qR.calls (hT:=mCd) (⟨#[109,105,110,95,32,109,105,110,95,32,109,97,120,95,32,109,97,120,95]⟩:ByteArray) (wrap64 (a1 - 22)) t134 _ A67.out).mono ?_);rintro e w69 ⟨rfl,hb⟩;refine⟨_,rfl,?_⟩;have n0_:=am (qB mCf hb);clear HB;have HB:=n0_;clear n0_;(try clear hb);(try clear hb2);(try clear hk);(try clear hi)))
                                           go_ret2
                                           exact mAo
                                          ·rw[if_neg c68] at H
                                           exact absurd H mDp
                                         ·replace c66:=Bool.eq_false_iff.mpr c66
                                          subst c66
                                          rw[if_neg (show ¬(false=true) by decide)] at H
                                          try dsimp only at H
                                          have HC70:=am H
                                          clear H
                                          go_upto_region 22 with (fail)
                                          go_cut [132] (fun v132 wc=>∃(kq:Nat) (x132_69:Bool),v132 = .bool x132_69∧Aside0 (qI.j8 kq a0 a1 t122 x132_69=some (r1,r2))∧Aside0 (kq≤kj62)∧Aside0 (Below w.heap.size w wc))
                                          case first =>
                                           as_aux_lemma =>
                                            have H:=HC70.out
                                            clear HC70
                                            by_cases c71:a1=27
                                            ·rw[if_pos c71] at H
                                             have c71b0:(a1==27)=true:=beq_iff_eq.mpr c71
                                             have c71b1:(a1 != 27)=false:=bne_eq_false_iff_eq.mpr c71
                                             clear c71
                                             (first|rw[c71b0]|(simp only[zX,zn];rw[c71b0])|skip)
                                             have H':=am H
                                             clear H
                                             go_wp2
                                             go_meet
                                             case rel=>exact⟨_,(decide (a0<2)),mDm,H',⟨by have:=HJ11.out;have:=HJ19.out;have:=HJ28.out;have:=HJ40.out;have:=HJ45.out;have:=HJ50.out;have:=HJ59.out;have:=HJ62.out;first|omega|exact Nat.le_refl _⟩,⟨mCf⟩⟩
                                            ·rw[if_neg c71] at H
                                             have c71b0:(a1==27)=false:=beq_eq_false_iff_ne.mpr c71
                                             have c71b1:(a1 != 27)=true:=bne_iff_ne.mpr c71
                                             (first|rw[c71b0]|(simp only[zX,zn];rw[c71b0])|skip)
                                             have H':=am H
                                             clear H
                                             go_wp2
                                             go_meet
                                             case rel=>exact⟨_,(false),mDm,H',⟨by have:=HJ11.out;have:=HJ19.out;have:=HJ28.out;have:=HJ40.out;have:=HJ45.out;have:=HJ50.out;have:=HJ59.out;have:=HJ62.out;first|omega|exact Nat.le_refl _⟩,⟨mCf⟩⟩
                                          case rest =>
                                           as_aux_lemma =>
                                            clear HC70
                                            try clear c1
                                            try clear c2
                                            try clear p2
                                            try clear c3
                                            try clear c4
                                            try clear c5
                                            try clear c6
                                            try clear c6b0
                                            try clear p6
                                            try clear c7
                                            try clear c16
                                            try clear c16b0
                                            try clear c16b1
                                            try clear c17
                                            try clear c21
                                            try clear c21b0
                                            try clear c21b1
                                            try clear c22
                                            try clear c22b0
                                            try clear c22b1
                                            try clear c23
                                            try clear c24
                                            try clear c24b0
                                            try clear c24b1
                                            try clear c24b2
                                            try clear c25
                                            try clear c25b0
                                            try clear c25b1
                                            try clear c25b2
                                            try clear c27
                                            try clear c27b0
                                            try clear c27b1
                                            try clear c27b2
                                            try clear c30
                                            try clear c30b0
                                            try clear c31
                                            try clear c31b0
                                            try clear c32
                                            try clear c34
                                            try clear c34b0
                                            try clear c34b1
                                            try clear c34b2
                                            try clear c35
                                            try clear c35b0
                                            try clear c35b1
                                            try clear c35b2
                                            try clear c36
                                            try clear c36b0
                                            try clear c36b1
                                            try clear c36b2
                                            try clear c38
                                            try clear c38b0
                                            try clear c38b1
                                            try clear c38b2
                                            try clear c42
                                            try clear c42b0
                                            try clear c43
                                            try clear c44
                                            try clear c45
                                            try clear c47
                                            try clear c47b0
                                            try clear c47b1
                                            try clear c48
                                            try clear c52
                                            try clear c52b0
                                            try clear c53
                                            try clear c53b0
                                            try clear c54
                                            try clear c57
                                            try clear c57b0
                                            try clear c57b1
                                            try clear c57b2
                                            try clear c61
                                            try clear c61b0
                                            try clear c61b1
                                            try clear c62
                                            try clear c64
                                            try clear c64b0
                                            try clear p64
                                            try clear c65
                                            try clear c65b0
                                            try clear c66
                                            try clear c68
                                            try clear c68b0
                                            try clear c68b1
                                            try clear c68b2
                                            try clear c71
                                            try clear c71b0
                                            try clear c71b1
                                            try clear p2
                                            try clear p6
                                            try clear p64
                                            obtain⟨kq,x132_69,rfl,HA,HJ69,HB⟩:=hcut
                                            cases kq with
                                            | zero=>exact absurd HA.out (by simp[qI.j8])
                                            | succ kj69 =>
                                              have H:=HA.out
                                              clear HA
                                              simp only[qI.j8] at H
                                              by_cases c72:x132_69=true
                                              ·subst c72
                                               rw[if_pos rfl] at H
                                               exact mEt
                                              ·replace c72:=Bool.eq_false_iff.mpr c72
                                               subst c72
                                               rw[if_neg (show ¬(false=true) by decide)] at H
                                               try dsimp only at H
                                               have HC73:=am H
                                               clear H
                                               go_upto_region 24 with (fail)
                                               go_cut [139] (fun v139 wc=>∃(kq:Nat) (x139_72:Bool),v139 = .bool x139_72∧Aside0 (qI.j9 kq a1 t122 x139_72=some (r1,r2))∧Aside0 (kq≤kj69)∧Aside0 (Below w.heap.size w wc))
                                               case first =>
                                                as_aux_lemma =>
                                                 have H:=HC73.out
                                                 clear HC73
                                                 by_cases c74:a1≥28
                                                 ·rw[if_pos c74] at H
                                                  have c74b0:decide (28≤a1)=true:=decide_eq_true c74
                                                  clear c74
                                                  (first|rw[c74b0]|(simp only[zX,zn];rw[c74b0])|skip)
                                                  have H':=am H
                                                  clear H
                                                  go_wp2
                                                  go_meet
                                                  case rel=>exact⟨_,(decide (a0 > 0)),mDm,H',⟨by have:=HJ11.out;have:=HJ19.out;have:=HJ28.out;have:=HJ40.out;have:=HJ45.out;have:=HJ50.out;have:=HJ59.out;have:=HJ62.out;have:=HJ69.out;first|omega|exact Nat.le_refl _⟩,⟨mCf⟩⟩
                                                 ·rw[if_neg c74] at H
                                                  have c74b0:decide (28≤a1)=false:=decide_eq_false c74
                                                  clear c74
                                                  (first|rw[c74b0]|(simp only[zX,zn];rw[c74b0])|skip)
                                                  have H':=am H
                                                  clear H
                                                  go_wp2
                                                  go_meet
                                                  case rel=>exact⟨_,(false),mDm,H',⟨by have:=HJ11.out;have:=HJ19.out;have:=HJ28.out;have:=HJ40.out;have:=HJ45.out;have:=HJ50.out;have:=HJ59.out;have:=HJ62.out;have:=HJ69.out;first|omega|exact Nat.le_refl _⟩,⟨mCf⟩⟩
                                               case rest =>
                                                as_aux_lemma =>
                                                 clear HC73
                                                 try clear c1
                                                 try clear c2
                                                 try clear p2
                                                 try clear c3
                                                 try clear c4
                                                 try clear c5
                                                 try clear c6
                                                 try clear c6b0
                                                 try clear p6
                                                 try clear c7
                                                 try clear c16
                                                 try clear c16b0
                                                 try clear c16b1
                                                 try clear c17
                                                 try clear c21
                                                 try clear c21b0
                                                 try clear c21b1
                                                 try clear c22
                                                 try clear c22b0
                                                 try clear c22b1
                                                 try clear c23
                                                 try clear c24
                                                 try clear c24b0
                                                 try clear c24b1
                                                 try clear c24b2
                                                 try clear c25
                                                 try clear c25b0
                                                 try clear c25b1
                                                 try clear c25b2
                                                 try clear c27
                                                 try clear c27b0
                                                 try clear c27b1
                                                 try clear c27b2
                                                 try clear c30
                                                 try clear c30b0
                                                 try clear c31
                                                 try clear c31b0
                                                 try clear c32
                                                 try clear c34
                                                 try clear c34b0
                                                 try clear c34b1
                                                 try clear c34b2
                                                 try clear c35
                                                 try clear c35b0
                                                 try clear c35b1
                                                 try clear c35b2
                                                 try clear c36
                                                 try clear c36b0
                                                 try clear c36b1
                                                 try clear c36b2
                                                 try clear c38
                                                 try clear c38b0
                                                 try clear c38b1
                                                 try clear c38b2
                                                 try clear c42
                                                 try clear c42b0
                                                 try clear c43
                                                 try clear c44
                                                 try clear c45
                                                 try clear c47
                                                 try clear c47b0
                                                 try clear c47b1
                                                 try clear c48
                                                 try clear c52
                                                 try clear c52b0
                                                 try clear c53
                                                 try clear c53b0
                                                 try clear c54
                                                 try clear c57
                                                 try clear c57b0
                                                 try clear c57b1
                                                 try clear c57b2
                                                 try clear c61
                                                 try clear c61b0
                                                 try clear c61b1
                                                 try clear c62
                                                 try clear c64
                                                 try clear c64b0
                                                 try clear p64
                                                 try clear c65
                                                 try clear c65b0
                                                 try clear c66
                                                 try clear c68
                                                 try clear c68b0
                                                 try clear c68b1
                                                 try clear c68b2
                                                 try clear c71
                                                 try clear c71b0
                                                 try clear c71b1
                                                 try clear c72
                                                 try clear c74
                                                 try clear c74b0
                                                 try clear p2
                                                 try clear p6
                                                 try clear p64
                                                 obtain⟨kq,x139_72,rfl,HA,HJ72,HB⟩:=hcut
                                                 cases kq with
                                                 | zero=>exact absurd HA.out (by simp[qI.j9])
                                                 | succ kj72 =>
                                                   have H:=HA.out
                                                   clear HA
                                                   simp only[qI.j9] at H
                                                   by_cases c75:x139_72=true
                                                   ·subst c75
                                                    rw[if_pos rfl] at H
                                                    try dsimp only at H
                                                    replace H:=Option.bind_eq_some_iff.mp H
                                                    obtain⟨t135,A760,H⟩:=H
                                                    try dsimp only at H
                                                    have A76:=am A760
                                                    clear A760
                                                    by_cases c77:t135.size+1≤9223372036854775807
                                                    ·rw[if_pos c77] at H
                                                     have c77b0:=eq_true c77
                                                     have c77b1:decide (t135.size+1≤9223372036854775807)=true:=decide_eq_true c77
                                                     try have c77b2:(9223372036854775807<t135.size+1)=False:=eq_false (Nat.not_lt.2 c77)
                                                     by_cases c78:(t135++(⟨#[95]⟩:ByteArray)).size+t122.size≤9223372036854775807
                                                     ·rw[if_pos c78] at H
                                                      have c78b0:=eq_true c78
                                                      have c78b1:decide ((t135++(⟨#[95]⟩:ByteArray)).size+t122.size≤9223372036854775807)=true:=decide_eq_true c78
                                                      try have c78b2:(9223372036854775807<(t135++(⟨#[95]⟩:ByteArray)).size+t122.size)=False:=eq_false (Nat.not_lt.2 c78)
                                                      have c78b3:(9223372036854775807<t135.size+1+t122.size)=False:=eq_false (Nat.not_lt.2 (by have h_:=c78;simp only[ByteArray.size_append] at h_;exact h_))
                                                      by_cases c79:((t135++(⟨#[95]⟩:ByteArray))++t122).size+1≤9223372036854775807
                                                      ·rw[if_pos c79] at H
                                                       have c79b0:=eq_true c79
                                                       have c79b1:decide (((t135++(⟨#[95]⟩:ByteArray))++t122).size+1≤9223372036854775807)=true:=decide_eq_true c79
                                                       try have c79b2:(9223372036854775807<((t135++(⟨#[95]⟩:ByteArray))++t122).size+1)=False:=eq_false (Nat.not_lt.2 c79)
                                                       have c79b3:(9223372036854775807<t135.size+1+t122.size+1)=False:=eq_false (Nat.not_lt.2 (by have h_:=c79;simp only[ByteArray.size_append] at h_;exact h_))
                                                       replace H:=Option.bind_eq_some_iff.mp H
                                                       obtain⟨t136,A800,H⟩:=H
                                                       try dsimp only at H
                                                       have A80:=am A800
                                                       clear A800
                                                       by_cases c81:(((t135++(⟨#[95]⟩:ByteArray))++t122)++(⟨#[95]⟩:ByteArray)).size+t136.size≤9223372036854775807
                                                       ·rw[if_pos c81] at H
                                                        have c81b0:=eq_true c81
                                                        have c81b1:decide ((((t135++(⟨#[95]⟩:ByteArray))++t122)++(⟨#[95]⟩:ByteArray)).size+t136.size≤9223372036854775807)=true:=decide_eq_true c81
                                                        try have c81b2:(9223372036854775807<(((t135++(⟨#[95]⟩:ByteArray))++t122)++(⟨#[95]⟩:ByteArray)).size+t136.size)=False:=eq_false (Nat.not_lt.2 c81)
                                                        have c81b3:(9223372036854775807<t135.size+1+t122.size+1+t136.size)=False:=eq_false (Nat.not_lt.2 (by have h_:=c81;simp only[ByteArray.size_append] at h_;exact h_))
                                                        simp only[Option.some.injEq,Prod.mk.injEq] at H
                                                        obtain⟨rfl,rfl⟩:=H
                                                        go_wp2_with (first|((with_reducible refine qO (f:=83) rfl ?_);refine qo (some 148) rfl rfl Tryd.func83 mDh rfl #[.string (⟨#[101,120,116,109,117,108,95,108,111,119,32,101,120,116,109,117,108,95,104,105,103,104,32,101,120,116,109,117,108,95,108,111,119,32,101,120,116,109,117,108,95,104,105,103,104]⟩:ByteArray),.int .i64 (wrap64 (a1 - 28))] rfl mCe ?_;(with_reducible refine(qR.calls (hT:=mCd) (⟨#[101,120,116,109,117,108,95,108,111,119,32,101,120,116,109,117,108,95,104,105,103,104,32,101,120,116,109,117,108,95,108,111,119,32,101,120,116,109,117,108,95,104,105,103,104]⟩:ByteArray) (wrap64 (a1 - 28)) t135 _ A76.out).mono ?_);rintro e w82 ⟨rfl,hb⟩;refine⟨_,rfl,?_⟩;have n0_:=am (qB mCf hb);clear HB;have HB:=n0_;clear n0_;(try clear hb);(try clear hb2);(try clear hk);(try clear hi))|((with_reducible refine qO (f:=83) rfl ?_);refine qo (some 155) rfl rfl Tryd.func83 mDh rfl #[.string (⟨#[115,32,115,32,117,32,117]⟩:ByteArray),.int .i64 (wrap64 (a1 - 28))] rfl mCe ?_;(with_reducible refine(qR.calls (hT:=mCd) (⟨#[115,32,115,32,117,32,117]⟩:ByteArray) (wrap64 (a1 - 28)) t136 _ A80.out).mono ?_);rintro e w83 ⟨rfl,hb⟩;refine⟨_,rfl,?_⟩;have n0_:=am (qB mCf hb);clear HB;have HB:=n0_;clear n0_;(try clear hb);(try clear hb2);(try clear hk);(try clear hi)))
                                                        go_ret2
                                                        exact mAo
                                                       ·rw[if_neg c81] at H
                                                        exact absurd H mDp
                                                      ·rw[if_neg c79] at H
                                                       exact absurd H mDp
                                                     ·rw[if_neg c78] at H
                                                      exact absurd H mDp
                                                    ·rw[if_neg c77] at H
                                                     exact absurd H mDp
                                                   ·replace c75:=Bool.eq_false_iff.mpr c75
                                                    subst c75
                                                    rw[if_neg (show ¬(false=true) by decide)] at H
                                                    exact mEt
end Go.Proofs.YtobldeamemmokaaDoor.P
