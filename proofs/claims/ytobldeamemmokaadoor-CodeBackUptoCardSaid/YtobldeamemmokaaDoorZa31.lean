import Derived.Test.YtobldeamemmokaaDoorZa30
set_option linter.unusedVariables false
set_option linter.unusedSimpArgs false
set_option maxHeartbeats 64000000
namespace Go.Proofs.YtobldeamemmokaaDoor.P
open Go.RowKit Go.Proofs.YtobldeamemmokaaDoorW.PrintWords Go.Proofs.YtobldeamemmokaaDoorW.PrintLast Go.Proofs.YtobldeamemmokaaDoorW.PrintMore
theorem xJ (K kl k:Nat)(A:Option Addr)(c:Nat)(b:List Int)(at0:Int)(w:World)(hT:YtobldeamemmokaaDoorTabs.Tab w)(hc:b.length≤c)(hC:(Kd.int .u8).C w A b.length b)(h0:0≤at0)(h1:at0≤b.length)(r:Option (List I × Int × Int × Bool))(h:zT K kl b k [zO] at0 0 false=some r):
 Calls Tryd.prog 12 #[.slice A b.length c,.int .i64 at0] w fun e w'=>qAR w r e w'∧Below w.heap.size w w':=by
 have HP:=am (fun(W:World) (hW:Below w.heap.size w W)=>qAK K kl k A c b at0 W (hT.below hW) hc (Kd.C_below hC hW) h0 r h)
 have d0:decide (at0<0)=false:=decide_eq_false mDj
 have d1:decide ((b.length:Int)<at0)=false:=decide_eq_false mDj
 clear hT hc hC h h0 h1
 cases r with
 | none =>
   go_enter Tryd.func12,Tryd.ntmps12
   go_wp2_with (first
    | (go_at_call 31;refine(HP.out _ mCl).mono ?_;rintro e w1 ⟨h9,hb⟩;rw[show qD6 _ none e w1=(e=_) from rfl] at h9;subst h9;have HB:=am (show Below w.heap.size w w1 from qB mCl hb);clear hb)
    | ((with_reducible refine qE (N:=7) rfl ?_);refine qd rfl 65 rfl _ qA9 ?_;intro g7 hg7 w2 hb hbl;have B7:=am hb;have N7:Aside0 (w.heap.size≤g7):=⟨by rw[hg7];exact HB.out.size⟩;have n0_:=am (qB HB.out hbl);clear HB hg7 hb hbl;have HB:=n0_;clear n0_)
    | ((with_reducible refine qF (t:=65) (p:=7) (v:=.tmp 21) rfl ?_);refine qV rfl 65 (.tmp 7) (.tmp 21) rfl g7 #[.slice none 0 0,.int .i64 0,.int .i64 0,.bool false] rfl rfl 65 _ B7.out xy rfl (all_oneCell_toArray (cs:=[.slice none 0 0,.int .i64 0,.int .i64 0,.bool false]) mCt) ?_;intro w3 hb hoth hsz hbel;have n2_:=am (hbel _ _ N7.out HB.out);clear B7 HB;have HB:=n2_;have c0:w3.cell? ⟨g7,0,none⟩=some (.slice none 0 0):=(qA hb 0).trans rfl;have c1:w3.cell? ⟨g7,1,none⟩=some (.int .i64 0):=(qA hb 1).trans rfl;have c2:w3.cell? ⟨g7,2,none⟩=some (.int .i64 0):=(qA hb 2).trans rfl;have c3:w3.cell? ⟨g7,3,none⟩=some (.bool false):=(qA hb 3).trans rfl;clear hb hoth hsz hbel))
   go_ret3
   exact mA5
 | some q =>
   unfold qAR
   by_cases hd:1000<q.2.2.1
   ·simp only[if_pos hd]
    have d2:decide (1000<q.2.2.1)=true:=decide_eq_true hd
    go_enter Tryd.func12,Tryd.ntmps12
    go_wp2_with (first
    | (go_at_call 31;refine(HP.out _ mCl).mono ?_;rintro e w1 ⟨⟨A1,c1,rfl,hr⟩,hb⟩;have HB:=am (show Below w.heap.size w w1 from qB mCl hb);have RL:=am (Kd.R_lower hr (show w.heap.size≤_ from(show Below w.heap.size w _ by repeat (first|exact Below.refl _ _|apply qJ|apply qP)).size));clear hr hb)
    | ((with_reducible refine qE (N:=7) rfl ?_);refine qd rfl 65 rfl _ qA9 ?_;intro g7 hg7 w2 hb hbl;have B7:=am hb;have n1_:=am (Kd.R_mono (Kd.R_below (Kd.R_bound RL.out) hbl) (fun k hk=>(by have:=hk.2.2.1;have h3:w1.heap.size≤g7:=by {rw[hg7];exact Nat.le_refl _};omega:k≠g7)));have N7:Aside0 (w.heap.size≤g7):=⟨by rw[hg7];exact HB.out.size⟩;have n0_:=am (qB HB.out hbl);clear HB RL hg7 hb hbl;have HB:=n0_;have RL:=n1_;clear n0_ n1_)
    | ((with_reducible refine qF (t:=65) (p:=7) (v:=.tmp 21) rfl ?_);refine qV rfl 65 (.tmp 7) (.tmp 21) rfl g7 #[.slice A1 q.1.length c1,.int .i64 q.2.1,.int .i64 q.2.2.1,.bool q.2.2.2] rfl rfl 65 _ B7.out xy rfl (all_oneCell_toArray (cs:=[.slice A1 q.1.length c1,.int .i64 q.2.1,.int .i64 q.2.2.1,.bool q.2.2.2]) mCt) ?_;intro w3 hb hoth hsz hbel;have n1_:=am (Kd.R_move RL.out (fun k hk=>hoth k hk));have n2_:=am (hbel _ _ N7.out HB.out);clear B7 RL HB;have RL:=n1_;have HB:=n2_;have c0:w3.cell? ⟨g7,0,none⟩=some (.slice A1 q.1.length c1):=(qA hb 0).trans rfl;have c1:w3.cell? ⟨g7,1,none⟩=some (.int .i64 q.2.1):=(qA hb 1).trans rfl;have c2:w3.cell? ⟨g7,2,none⟩=some (.int .i64 q.2.2.1):=(qA hb 2).trans rfl;have c3:w3.cell? ⟨g7,3,none⟩=some (.bool q.2.2.2):=(qA hb 3).trans rfl;clear hb hoth hsz hbel))
    go_ret3
    exact mA5
   ·simp only[if_neg hd]
    have d2:decide (1000<q.2.2.1)=false:=decide_eq_false hd
    go_enter Tryd.func12,Tryd.ntmps12
    go_wp2_with (first
    | (go_at_call 31;refine(HP.out _ mCl).mono ?_;rintro e w1 ⟨⟨A1,c1,rfl,hr⟩,hb⟩;have HB:=am (show Below w.heap.size w w1 from qB mCl hb);have RL:=am (Kd.R_lower hr (show w.heap.size≤_ from(show Below w.heap.size w _ by repeat (first|exact Below.refl _ _|apply qJ|apply qP)).size));clear hr hb)
    | ((with_reducible refine qE (N:=7) rfl ?_);refine qd rfl 65 rfl _ qA9 ?_;intro g7 hg7 w2 hb hbl;have B7:=am hb;have n1_:=am (Kd.R_mono (Kd.R_below (Kd.R_bound RL.out) hbl) (fun k hk=>(by have:=hk.2.2.1;have h3:w1.heap.size≤g7:=by {rw[hg7];exact Nat.le_refl _};omega:k≠g7)));have N7:Aside0 (w.heap.size≤g7):=⟨by rw[hg7];exact HB.out.size⟩;have n0_:=am (qB HB.out hbl);clear HB RL hg7 hb hbl;have HB:=n0_;have RL:=n1_;clear n0_ n1_)
    | ((with_reducible refine qF (t:=65) (p:=7) (v:=.tmp 21) rfl ?_);refine qV rfl 65 (.tmp 7) (.tmp 21) rfl g7 #[.slice A1 q.1.length c1,.int .i64 q.2.1,.int .i64 q.2.2.1,.bool q.2.2.2] rfl rfl 65 _ B7.out xy rfl (all_oneCell_toArray (cs:=[.slice A1 q.1.length c1,.int .i64 q.2.1,.int .i64 q.2.2.1,.bool q.2.2.2]) mCt) ?_;intro w3 hb hoth hsz hbel;have n1_:=am (Kd.R_move RL.out (fun k hk=>hoth k hk));have n2_:=am (hbel _ _ N7.out HB.out);clear B7 RL HB;have RL:=n1_;have HB:=n2_;have c0:w3.cell? ⟨g7,0,none⟩=some (.slice A1 q.1.length c1):=(qA hb 0).trans rfl;have c1:w3.cell? ⟨g7,1,none⟩=some (.int .i64 q.2.1):=(qA hb 1).trans rfl;have c2:w3.cell? ⟨g7,2,none⟩=some (.int .i64 q.2.2.1):=(qA hb 2).trans rfl;have c3:w3.cell? ⟨g7,3,none⟩=some (.bool q.2.2.2):=(qA hb 3).trans rfl;clear hb hoth hsz hbel))
    go_quiet (fail)
    go_wp2
    go_ret3
    exact⟨⟨_,_,rfl,by (with_reducible repeat (first|apply Kd.R_alloc|apply Kd.R_drewN|apply Kd.R_drew));exact Kd.R_mono RL.out (fun _ _=>trivial)⟩,mCh⟩
theorem qBe (K kl k:Nat)(A:Option Addr)(c:Nat)(b:List Int)(at0:Int)(w:World)(hT:YtobldeamemmokaaDoorTabs.Tab w)(hc:b.length≤c)(hC:(Kd.int .u8).C w A b.length b)(h0:0≤at0)(h1:at0≤b.length)(r:Option (List I × Int × Int × Bool))(h:zT K kl b k [zO] at0 0 false=some r):
 Calls Tryd.prog 17 #[.slice A b.length c,.int .i64 at0] w fun e w'=>e = .returned (qFZ r)∧Below w.heap.size w w':=by
 have HP:=am (fun(W:World) (hW:Below w.heap.size w W)=>qAK K kl k A c b at0 W (hT.below hW) hc (Kd.C_below hC hW) h0 r h)
 have d0:decide (at0<0)=false:=decide_eq_false mDj
 have d1:decide ((b.length:Int)<at0)=false:=decide_eq_false mDj
 clear hT hc hC h h0 h1
 cases r with
 | none =>
   go_enter Tryd.func17,Tryd.ntmps17
   go_wp2_with (first
    | (go_at_call 31;refine(HP.out _ mCl).mono ?_;rintro e w1 ⟨h9,hb⟩;rw[show qD6 _ none e w1=(e=_) from rfl] at h9;subst h9;have HB:=am (show Below w.heap.size w w1 from qB mCl hb);clear hb)
    | ((with_reducible refine qE (N:=8) rfl ?_);refine qd rfl 65 rfl _ qA9 ?_;intro g7 hg7 w2 hb hbl;have B7:=am hb;have N7:Aside0 (w.heap.size≤g7):=⟨by rw[hg7];exact HB.out.size⟩;have n0_:=am (qB HB.out hbl);clear HB hg7 hb hbl;have HB:=n0_;clear n0_)
    | ((with_reducible refine qF (t:=65) (p:=8) (v:=.tmp 22) rfl ?_);refine qV rfl 65 (.tmp 8) (.tmp 22) rfl g7 #[.slice none 0 0,.int .i64 0,.int .i64 0,.bool false] rfl rfl 65 _ B7.out xy rfl (all_oneCell_toArray (cs:=[.slice none 0 0,.int .i64 0,.int .i64 0,.bool false]) mCt) ?_;intro w3 hb hoth hsz hbel;have n2_:=am (hbel _ _ N7.out HB.out);clear B7 HB;have HB:=n2_;have c0:w3.cell? ⟨g7,0,none⟩=some (.slice none 0 0):=(qA hb 0).trans rfl;have c1:w3.cell? ⟨g7,1,none⟩=some (.int .i64 0):=(qA hb 1).trans rfl;have c2:w3.cell? ⟨g7,2,none⟩=some (.int .i64 0):=(qA hb 2).trans rfl;have c3:w3.cell? ⟨g7,3,none⟩=some (.bool false):=(qA hb 3).trans rfl;clear hb hoth hsz hbel))
   (try simp only[Exit.inBlock,Exit.then])
   refine bodyPost_ret (qAI rfl _ _ _) rfl ?_
   exact mA5
 | some q =>
   go_enter Tryd.func17,Tryd.ntmps17
   go_wp2_with (first
    | (go_at_call 31;refine(HP.out _ mCl).mono ?_;rintro e w1 ⟨⟨A1,c1,rfl,hr⟩,hb⟩;have HB:=am (show Below w.heap.size w w1 from qB mCl hb);have RL:=am (Kd.R_lower hr (show w.heap.size≤_ from(show Below w.heap.size w _ by repeat (first|exact Below.refl _ _|apply qJ|apply qP)).size));clear hr hb)
    | ((with_reducible refine qE (N:=8) rfl ?_);refine qd rfl 65 rfl _ qA9 ?_;intro g7 hg7 w2 hb hbl;have B7:=am hb;have n1_:=am (Kd.R_mono (Kd.R_below (Kd.R_bound RL.out) hbl) (fun k hk=>(by have:=hk.2.2.1;have h3:w1.heap.size≤g7:=by {rw[hg7];exact Nat.le_refl _};omega:k≠g7)));have N7:Aside0 (w.heap.size≤g7):=⟨by rw[hg7];exact HB.out.size⟩;have n0_:=am (qB HB.out hbl);clear HB RL hg7 hb hbl;have HB:=n0_;have RL:=n1_;clear n0_ n1_)
    | ((with_reducible refine qF (t:=65) (p:=8) (v:=.tmp 22) rfl ?_);refine qV rfl 65 (.tmp 8) (.tmp 22) rfl g7 #[.slice A1 q.1.length c1,.int .i64 q.2.1,.int .i64 q.2.2.1,.bool q.2.2.2] rfl rfl 65 _ B7.out xy rfl (all_oneCell_toArray (cs:=[.slice A1 q.1.length c1,.int .i64 q.2.1,.int .i64 q.2.2.1,.bool q.2.2.2]) mCt) ?_;intro w3 hb hoth hsz hbel;have n1_:=am (Kd.R_move RL.out (fun k hk=>hoth k hk));have n2_:=am (hbel _ _ N7.out HB.out);clear B7 RL HB;have RL:=n1_;have HB:=n2_;have c0:w3.cell? ⟨g7,0,none⟩=some (.slice A1 q.1.length c1):=(qA hb 0).trans rfl;have c1:w3.cell? ⟨g7,1,none⟩=some (.int .i64 q.2.1):=(qA hb 1).trans rfl;have c2:w3.cell? ⟨g7,2,none⟩=some (.int .i64 q.2.2.1):=(qA hb 2).trans rfl;have c3:w3.cell? ⟨g7,3,none⟩=some (.bool q.2.2.2):=(qA hb 3).trans rfl;clear hb hoth hsz hbel))
   go_quiet (fail)
   go_wp2
   (try simp only[Exit.inBlock,Exit.then])
   refine bodyPost_ret (qAI rfl _ _ _) rfl ?_
   exact mA5
end Go.Proofs.YtobldeamemmokaaDoor.P
