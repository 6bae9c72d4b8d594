import Derived.Test.YtobldeamemmokaaDoorZa20
set_option linter.unusedVariables false
set_option linter.unusedSimpArgs false
set_option maxHeartbeats 64000000
namespace Go.Proofs.YtobldeamemmokaaDoor.LebM
open Go.RowKit Go.Proofs.YtobldeamemmokaaDoorW.PrintWords Go.Proofs.YtobldeamemmokaaDoorW.PrintLast Go.Proofs.YtobldeamemmokaaDoorW.PrintMore Go.Proofs.YtobldeamemmokaaDoor.P
def Bytes (l:List Int):Prop:=∀ x ∈ l,0≤x∧x<256
theorem bytes_wf {l:List Int}(h:∀ x ∈ l,(Lit.int .u8 x).wf=true):Bytes l:=by
 intro x hx
 have:=h x hx
 simp[Lit.wf,IntKind.min,IntKind.max,IntKind.signed,IntKind.bits] at this
 omega
theorem w64 {x:Int}(h1 : -9223372036854775808≤x)(h2:x≤9223372036854775807):wrap64 x=x:=by
 unfold wrap64;omega
theorem u64w {x:Int}(h1:0≤x)(h2:x≤18446744073709551615):IntKind.u64.wrap x=x:=by
 simp[IntKind.wrap,IntKind.signed,IntKind.bits];omega
theorem u64m (x:Int):IntKind.u64.wrap x=x % 18446744073709551616:=by
 simp[IntKind.wrap,IntKind.signed,IntKind.bits]
theorem qEp {x:Int}(h0:0≤x)(h1:x<256):Go.bits .and .u8 x 127=x % 128:=by
 have h:∀ n:Fin 256,Go.bits .and .u8 (n.val:Int) 127=(n.val:Int) % 128:=by decide +kernel
 exact mBq
theorem qJz {x:Int}(h0:0≤x)(h1:x<256):Go.bits .and .u8 x 64=if x % 128<64 then 0 else 64:=by
 have h:∀ n:Fin 256,Go.bits .and .u8 (n.val:Int) 64=if (n.val:Int) % 128<64 then 0 else 64:=by decide +kernel
 exact mBq
theorem qJY {x:Int}(h0:0≤x)(h1:x<256):Go.bits .xor .u8 x 0=x:=by
 have h:∀ n:Fin 256,Go.bits .xor .u8 (n.val:Int) 0=(n.val:Int):=by decide +kernel
 exact mBq
theorem qIk {x:Int}(h0:0≤x)(h1:x<256):Go.bits .and .u8 (Go.bits .xor .u8 x 127) 127=127 - x % 128:=by
 have h:∀ n:Fin 256,Go.bits .and .u8 (Go.bits .xor .u8 (n.val:Int) 127) 127=127 - (n.val:Int) % 128:=by decide +kernel
 exact mBq
theorem qF2 {x:Int}(h0:0≤x)(h1:x<256):Go.bits .or .u8 x 128=x % 128+128:=by
 have h:∀ n:Fin 256,Go.bits .or .u8 (n.val:Int) 128=(n.val:Int) % 128+128:=by decide +kernel
 exact mBq
theorem qEe (x y:Int):Go.bits .xor .u64 x y=IntKind.u64.wrap ((BitVec.ofInt 64 x ^^^ BitVec.ofInt 64 y).toNat:Int):=rfl
theorem qFv (x y:Int):Go.bits .or .u64 x y=IntKind.u64.wrap ((BitVec.ofInt 64 x ||| BitVec.ofInt 64 y).toNat:Int):=rfl
theorem qA7 (n:Nat):(BitVec.ofInt 64 (n:Int):BitVec 64)=BitVec.ofNat 64 n:=mDp
theorem qI1 {u:Int}(h0:0≤u)(h1:u≤18446744073709551615):Go.bits .xor .u64 18446744073709551615 u=18446744073709551615 - u:=by
 obtain⟨n,rfl⟩:=Int.eq_ofNat_of_zero_le h0
 have e:(BitVec.ofInt 64 18446744073709551615:BitVec 64)=BitVec.allOnes 64:=mDl
 rw[qEe,e,qA7,BitVec.allOnes_xor,BitVec.toNat_not,BitVec.toNat_ofNat,Nat.mod_eq_of_lt mDj,u64w] <;> omega
theorem qHA (m i:Nat):((m:Int)*2 ^ i)=((m*2 ^ i:Nat):Int):=by rw[Int.natCast_mul,Int.natCast_pow];rfl
theorem orAdd {x:Int}(a:Int)(i:Nat)(hx0:0≤x)(hx:x<2 ^ i)(ha:0≤a)(h:a*2 ^ i+x≤18446744073709551615):Go.bits .or .u64 x (a*2 ^ i)=x+a*2 ^ i:=by
 obtain⟨n,rfl⟩:=Int.eq_ofNat_of_zero_le hx0
 obtain⟨m,rfl⟩:=Int.eq_ofNat_of_zero_le ha
 have hn:n<2 ^ i:=by
  have e:((2:Int) ^ i)=((2 ^ i:Nat):Int):=by rw[Int.natCast_pow];rfl
  rw[e] at hx;omega
 rw[qHA] at h ⊢
 generalize hp:m*2 ^ i=p at *
 have hor:p ||| n=p+n:=by rw[← hp,Nat.mul_comm];exact(Nat.two_pow_add_eq_or_of_lt hn m).symm
 rw[qFv,qA7,qA7,BitVec.toNat_or,BitVec.toNat_ofNat,BitVec.toNat_ofNat,Nat.mod_eq_of_lt mDj,Nat.mod_eq_of_lt mDj,Nat.or_comm,hor,u64w] <;> omega
def cnt:Nat→List Int→Option Nat
 | 0,_=>none
 | _+1,[]=>none
 | m+1,c::l=>if c<128 then some 1 else (cnt m l).map (· + 1)
def val:List Int→Int
 | []=>0
 | d::ds=>d+128*val ds
def xZ (l:List Int):Prop:=∀ x ∈ l,0≤x∧x<128
def dig (l:List Int)(n:Nat):List Int:=(l.take n).map (· % 128)
theorem cnt_bd:∀ {m l n},cnt m l=some n→1≤n∧n≤m∧n≤l.length:=by
 intro m
 induction m with
 | zero=>intro l n h;simp[cnt] at h
 | succ m ih =>
   intro l n h
   cases l with
   | nil=>simp[cnt] at h
   | cons c l =>
     simp only[cnt] at h
     split at h
     ·cases h;simp
     ·rcases hc:cnt m l with _|k
      ·rw[hc] at h;simp at h
      ·rw[hc] at h;simp at h;subst h
       have:=ih hc
       simp;omega
theorem dig_digits (l:List Int)(n:Nat):xZ (dig l n):=by
 intro x hx
 simp only[dig,List.mem_map] at hx
 obtain⟨y,_,rfl⟩:=hx
 omega
theorem dig_length {l:List Int}{n:Nat}(h:n≤l.length):(dig l n).length=n:=by simp[dig];omega
theorem val_nonneg:∀ {l:List Int},xZ l→0≤val l
 | [],_=>by simp[val]
 | d::ds,h=>by
   have h1:=h d mDp
   have h2:=val_nonneg (l:=ds) (fun x hx=>h x (by simp[hx]))
   simp only[val];omega
theorem qAi (l r:List Int):val (l++r)=val l+128 ^ l.length*val r:=by
 induction l with
 | nil=>simp[val]
 | cons d l ih =>
   simp only[List.cons_append,val,ih,List.length_cons,Int.pow_succ]
   rw[Int.mul_add,← Int.mul_assoc,Int.mul_comm (128 ^ l.length) 128]
   omega
theorem val_lt:∀ {l:List Int},xZ l→val l<128 ^ l.length
 | [],_=>by simp[val]
 | d::ds,h=>by
   have h1:=h d mDp
   have h2:=val_lt (l:=ds) (fun x hx=>h x (by simp[hx]))
   simp only[val,List.length_cons,Int.pow_succ];omega
theorem qE9 (i:Nat):(128:Int) ^ i=2 ^ (7*i):=by rw[Int.pow_mul];rfl
theorem jX {l:List Int}(h:xZ l)(n:Nat):xZ (l.take n):=fun x hx=>h x (List.mem_of_mem_take hx)
theorem qDz {l:List Int}(h:xZ l)(n:Nat):xZ (l.drop n):=fun x hx=>h x (List.mem_of_mem_drop hx)
theorem qFj (l:List Int)(i:Nat)(h:i≤l.length):val l=val (l.take i)+2 ^ (7*i)*val (l.drop i):=by
 rw[← qE9]
 have:=qAi (l.take i) (l.drop i)
 rw[List.take_append_drop,List.length_take,Nat.min_eq_left h] at this
 exact this
theorem rd_get {l:List Int}{i:Nat}(h:i<l.length):rd l (i:Int)=l[i]:=by
 simp[rd,h]
theorem xv {l:List Int}{i:Nat}(h:i<l.length):val (l.take (i+1))=val (l.take i)+l[i]*2 ^ (7*i):=by
 rw[List.take_succ_eq_append_getElem h,qAi,List.length_take,Nat.min_eq_left mDj,qE9]
 simp only[val]
 rw[Int.mul_comm];simp
def jq (w:Int):Nat:=((w+6) / 7).toNat
def Us (l:List Int)(a w:Int):Int × Int × Int:=
 if 1≤w∧w≤64∧0≤a∧a≤l.length then
  match cnt (jq w) (l.drop a.toNat) with
  | none=>(0,0,4)
  | some n=>if val (dig (l.drop a.toNat) n)<2 ^ w.toNat then (val (dig (l.drop a.toNat) n),a+n,0) else (0,0,4)
 else (0,0,2)
def turn (neg:Bool)(ds:List Int):List Int:=if neg then ds.map (127 - ·) else ds
def neg (l:List Int)(n:Nat):Bool:=decide (64≤l.getD (n - 1) 0 % 128)
def Ss (l:List Int)(a w:Int):Int × Int × Int:=
 if 1≤w∧w≤64∧0≤a∧a≤l.length then
  match cnt (jq w) (l.drop a.toNat) with
  | none=>(0,0,4)
  | some n =>
    let b:=neg (l.drop a.toNat) n
    let v:=val (turn b (dig (l.drop a.toNat) n))
    if v<2 ^ (w.toNat - 1) then (if b then -v - 1 else v,a+n,0) else (0,0,4)
 else (0,0,2)
theorem qAL {w:Int}(h1:1≤w)(h2:w≤64):1≤jq w∧jq w≤10∧7*((jq w:Int) - 1)≤w - 1∧w≤7*(jq w:Int):=by
 unfold jq;omega
theorem qFu {w:Int}(h1:1≤w)(h2:w≤64):wrap64 (Int.tdiv (wrap64 (w+6)) 7)=(jq w:Int):=by
 have e:wrap64 (w+6)=w+6:=w64 mDj mDj
 rw[e,Int.tdiv_eq_ediv_of_nonneg mDj,w64 mDj mDj];unfold jq;omega
theorem p2_le {a b:Nat}(h:a≤b):(2:Int) ^ a≤2 ^ b:=by
 have:=Nat.pow_le_pow_right (n:=2) mDl h
 exact_mod_cast this
theorem qC3 (l:List Int)(a w:Int):zq.f l a w=some (decide (1≤w∧w≤64∧0≤a∧a≤l.length)):=by
 unfold zq.f
 by_cases h1:w≥1 <;> by_cases h2:w≤64 <;> by_cases h3:a≥0 <;> simp[h1,h2,h3] <;> omega
def qAb (m:Nat)(l:List Int)(at_:Int):Int:=match cnt m l with|none=>-1|some n=>at_+n
theorem qF5 (l:List Int)(hl:l.length≤140737488351232)(a:Nat)(M:Nat)(hM:M≤10)(d:Nat):
 ∀(k:Nat) (i:Nat),i≤M→M - i=d→a+i≤l.length→d<k →
  zE.l0 k l (a:Int) (M:Int) (i:Int)=some (qAb (M - i) (l.drop (a+i)) ((a:Int)+i)):=by
 induction d with
 | zero =>
   intro k i h0 h1 h2 hk
   obtain⟨k,rfl⟩:∃ m,k=m+1:=⟨k - 1,mDj⟩
   simp only[zE.l0];rw[if_neg mDj,h1];simp[qAb,cnt]
 | succ d ih =>
   intro k i h0 h1 h2 hk
   obtain⟨k,rfl⟩:∃ m,k=m+1:=⟨k - 1,mDj⟩
   have e1:wrap64 ((a:Int)+i)=(a:Int)+i:=w64 mDj mDj
   simp only[zE.l0];rw[if_pos mDj,e1,h1]
   by_cases hlt:a+i<l.length
   ·rw[if_neg mDj,if_pos mDj,if_pos mDj]
    have hr:rd l ((a:Int)+i)=l[a+i]:=by
     have:=rd_get (l:=l) (i:=a+i) hlt
     simpa using this
    rw[hr,List.drop_eq_getElem_cons hlt]
    by_cases hc:l[a+i]<128
    ·rw[if_pos hc,w64 mDj mDj];simp[qAb,cnt,hc]
    ·rw[if_neg hc,w64 mDj mDj]
     have:=ih k (i+1) mDj mDj mDj mDj
     have e3:((i+1:Nat):Int)=(i:Int)+1:=mDj
     rw[e3] at this
     rw[this]
     have e2:M - (i+1)=d:=mDj
     rw[e2]
     simp only[qAb,cnt,if_neg hc,Nat.add_assoc]
     rcases cnt d (l.drop (a+(i+1))) with _|n
     ·rfl
     ·simp;omega
   ·rw[if_pos mDj]
    have:l.drop (a+i) = []:=List.drop_eq_nil_of_le mDj
    rw[this];simp[qAb,cnt]
theorem qFP {l:List Int}(hl:l.length≤140737488351232){a w:Int}(h1:1≤w)(h2:w≤64)(h3:0≤a)(h4:a≤l.length):
 ∀ k,11≤k→zE.f k l a w=some (qAb (jq w) (l.drop a.toNat) a):=by
 have hb:=qAL h1 h2
 intro k hk
 obtain⟨n,rfl⟩:=Int.eq_ofNat_of_zero_le h3
 unfold zE.f
 rw[qFu h1 h2]
 have:=qF5 l hl n (jq w) mDj (jq w) k 0 mDj mDj mDj mDj
 simpa using this
theorem qEE {d:Int}{i b:Nat}(h0:0≤d)(hi:7*i≤63)(hb:b≤63):
 (shr .u64 (shl .u64 d (7*(i:Int))) (7*(i:Int))=d∧shr .u64 (shl .u64 d (7*(i:Int))) (b:Int)=0∧shl .u64 d (7*(i:Int))=d*2 ^ (7*i)∧d*2 ^ (7*i)<2 ^ b)∨
 (2 ^ b≤d*2 ^ (7*i)∧(shr .u64 (shl .u64 d (7*(i:Int))) (7*(i:Int))≠d∨shr .u64 (shl .u64 d (7*(i:Int))) (b:Int)≠0)):=by
 have hp:(0:Int)<2 ^ (7*i):=Int.pow_pos mDl
 have hp2:(0:Int)<2 ^ b:=Int.pow_pos mDl
 have e1:shl .u64 d (7*(i:Int))=(d*2 ^ (7*i)) % 18446744073709551616:=by
  have:min (7*(i:Int)).toNat IntKind.u64.bits=7*i:=by simp only[IntKind.bits];omega
  unfold shl;rw[this,u64m]
 have e2:∀ x,shr .u64 x (7*(i:Int))=x / 2 ^ (7*i):=by
  intro x
  have:min (7*(i:Int)).toNat IntKind.u64.bits=7*i:=by simp only[IntKind.bits];omega
  unfold shr;rw[this]
 have e3:∀ x,shr .u64 x (b:Int)=x / 2 ^ b:=by
  intro x
  have:min (b:Int).toNat IntKind.u64.bits=b:=by simp only[IntKind.bits];omega
  unfold shr;rw[this]
 rw[e2,e3,e1]
 have hn:0≤d*2 ^ (7*i):=Int.mul_nonneg h0 mDj
 by_cases hs:d*2 ^ (7*i)<18446744073709551616
 ·rw[Int.emod_eq_of_lt hn hs]
  by_cases hw:d*2 ^ (7*i)<2 ^ b
  ·exact .inl ⟨Int.mul_ediv_cancel _ mDj,Int.ediv_eq_zero_of_lt hn hw,rfl,hw⟩
  ·refine .inr ⟨mDj,.inr ?_⟩
   have h:=Int.le_ediv_of_mul_le (a:=1) hp2 (mDj:1*2 ^ b≤d*2 ^ (7*i))
   omega
 ·have hb2:(2:Int) ^ b≤2 ^ 63:=p2_le hb
  refine .inr ⟨mDj,.inl ?_⟩
  intro h
  exact mBm
theorem qFo {d:Int}{i:Nat}(h0:0≤d)(hi:7*i≤63):
 (shr .u64 (shl .u64 d (7*(i:Int))) (7*(i:Int))=d∧shl .u64 d (7*(i:Int))=d*2 ^ (7*i)∧d*2 ^ (7*i)<2 ^ 64)∨
 (2 ^ 64≤d*2 ^ (7*i)∧shr .u64 (shl .u64 d (7*(i:Int))) (7*(i:Int))≠d):=by
 have hp:(0:Int)<2 ^ (7*i):=Int.pow_pos mDl
 have hm:min (7*(i:Int)).toNat IntKind.u64.bits=7*i:=by simp only[IntKind.bits];omega
 have e1:shl .u64 d (7*(i:Int))=(d*2 ^ (7*i)) % 18446744073709551616:=by
  unfold shl;rw[hm,u64m]
 have e2:∀ x,shr .u64 x (7*(i:Int))=x / 2 ^ (7*i):=by
  intro x;unfold shr;rw[hm]
 rw[e2,e1]
 have hn:0≤d*2 ^ (7*i):=Int.mul_nonneg h0 mDj
 by_cases hs:d*2 ^ (7*i)<18446744073709551616
 ·rw[Int.emod_eq_of_lt hn hs]
  exact .inl ⟨Int.mul_ediv_cancel _ mDj,rfl,mDj⟩
 ·refine .inr ⟨mDj,?_⟩
  intro h
  exact mBm
theorem qGL {acc d:Int}{i b:Nat}(ha:acc<2 ^ (7*i))(h:d*2 ^ (7*i)<2 ^ b)(hi:7*i≤b):acc+d*2 ^ (7*i)<2 ^ b:=by
 have hp:(0:Int)<2 ^ (7*i):=Int.pow_pos mDl
 have e:(2:Int) ^ b=2 ^ (b - 7*i)*2 ^ (7*i):=by rw[← Int.pow_add];congr 1;omega
 rw[e] at h ⊢
 have h1:d<2 ^ (b - 7*i):=Int.lt_of_mul_lt_mul_right h mDj
 have h2:(d+1)*2 ^ (7*i)≤2 ^ (b - 7*i)*2 ^ (7*i):=Int.mul_le_mul_of_nonneg_right mDj mDj
 rw[Int.add_mul] at h2
 omega
theorem qAC {l:List Int}(hd:xZ l){i:Nat}(h:i<l.length):l[i]*2 ^ (7*i)≤val l:=by
 have e:=qFj l (i+1) mDj
 have h1:=val_nonneg (jX hd i)
 have h2:=val_nonneg (qDz hd (i+1))
 rw[xv h] at e
 have h3:(0:Int)≤2 ^ (7*(i+1))*val (l.drop (i+1)):=Int.mul_nonneg (Int.le_of_lt (Int.pow_pos mDl)) h2
 omega
theorem qFE {i:Nat}(hi:7*i≤63):IntKind.u64.wrap (7*IntKind.u64.wrap (i:Int))=7*(i:Int):=by
 rw[u64w (x:=(i:Int)) mDj mDj,u64w mDj mDj]
theorem dig_get {L:List Int}{n i:Nat}(hn:n≤L.length)(hi:i<n):(dig L n)[i]'(by rw[dig_length hn];exact hi)=L[i]'mDj % 128:=by
 simp[dig]
theorem qIE {L:List Int}(hL:Bytes L)(n:Nat)(hn:L.length=n){w:Int}(h1:1≤w)(h2:w≤64)(h7:7*((n:Int) - 1)≤w - 1)(nxt:Int)(d:Nat):
 ∀(k i:Nat) (acc:Int),i≤n→n - i=d→acc=val ((dig L n).take i)→acc<2 ^ w.toNat→d<k →
  zp.l0 k w acc nxt L (n:Int) (i:Int)=some (if val (dig L n)<2 ^ w.toNat then (val (dig L n),nxt,0) else (0,0,4)):=by
 have hdg:=dig_digits L n
 have hdl:=dig_length (l:=L) (n:=n) mDj
 induction d with
 | zero =>
   intro k i acc h0 h3 ha hb hk
   obtain⟨k,rfl⟩:∃ m,k=m+1:=⟨k - 1,mDj⟩
   have hi:i=n:=mDj
   subst hi
   simp only[zp.l0];rw[if_neg mDj]
   rw[List.take_of_length_le mDj] at ha
   rw[← ha,if_pos hb]
 | succ d ih =>
   intro k i acc h0 h3 ha hb hk
   obtain⟨k,rfl⟩:∃ m,k=m+1:=⟨k - 1,mDj⟩
   have hi:i<n:=mDj
   have hc:=hL L[i] (List.getElem_mem _)
   have hr:rd L (i:Int)=L[i]:=rd_get mDj
   have hd:(dig L n)[i]'mDj=L[i] % 128:=dig_get mDj hi
   have hacc:acc<2 ^ (7*i):=by
    have:=val_lt (jX hdg i)
    rw[← ha,qE9,List.length_take,Nat.min_eq_left mDj] at this
    exact this
   have hacc0:0≤acc:=by rw[ha];exact val_nonneg (jX hdg i)
   have hge:=qAC hdg (i:=i) mDj
   have hsucc:acc+L[i] % 128*2 ^ (7*i)=val ((dig L n).take (i+1)):=by rw[xv mDj,← ha,hd]
   have e3:((i+1:Nat):Int)=(i:Int)+1:=mDj
   have go:∀ X,X=L[i] % 128*2 ^ (7*i)→X<2 ^ w.toNat →
    zp.l0 k w (Go.bits .or .u64 acc X) nxt L (n:Int) (wrap64 ((i:Int)+1))=some (if val (dig L n)<2 ^ w.toNat then (val (dig L n),nxt,0) else (0,0,4)):=by
    intro X hX hX2
    subst hX
    have hnew:=qGL hacc hX2 mDj
    have hle:(2:Int) ^ w.toNat≤2 ^ 64:=p2_le mDj
    rw[orAdd _ _ hacc0 hacc mDj mDj,w64 mDj mDj,← e3]
    exact ih k (i+1) _ mDj mDj hsucc hnew mDj
   have hm:L[i] % 128≤18446744073709551615:=mDj
   simp only[zp.l0]
   rw[if_pos mDj,if_pos mDj,if_pos mDj,hr,qEp hc.1 hc.2,u64w (x:=L[i] % 128) mDj hm,qFE mDj,if_pos mDj]
   rw[hd] at hge
   by_cases hw:w<64
   ·have ew:IntKind.u64.wrap w=(w.toNat:Int):=by rw[u64w mDj mDj];omega
    rw[if_pos hw,ew,if_pos (mDj:(0:Int)≤(w.toNat:Int))]
    rcases qEE (d:=L[i] % 128) (i:=i) (b:=w.toNat) mDj mDj mDj with ⟨q1,q2,q3,q4⟩|⟨q1,q2⟩
    ·rw[if_pos q1,if_pos q2]
     exact go _ q3 (by rw[q3];exact q4)
    ·rw[if_neg (c:=val (dig L n)<2 ^ w.toNat) mDj]
     by_cases q:shr .u64 (shl .u64 (L[i] % 128) (7*(i:Int))) (7*(i:Int))=L[i] % 128
     ·rw[if_pos q,if_neg (by rcases q2 with q2|q2;exact absurd q q2;exact q2)]
     ·rw[if_neg q]
   ·have e64:w.toNat=64:=mDj
    rw[if_neg hw]
    rcases qFo (d:=L[i] % 128) (i:=i) mDj mDj with ⟨q1,q3,q4⟩|⟨q1,q2⟩
    ·rw[if_pos q1]
     exact go _ q3 (by rw[q3,e64];exact q4)
    ·rw[if_neg q2,if_neg (by rw[e64];omega)]
theorem qAP (l:List Int)(a n:Nat):(l.take (a+n)).drop a=(l.drop a).take n:=by
 rw[List.drop_take];congr 1;omega
theorem qBV {l:List Int}(h:Bytes l)(n:Nat):Bytes (l.drop n):=fun x hx=>h x (List.mem_of_mem_drop hx)
theorem bytes_take {l:List Int}(h:Bytes l)(n:Nat):Bytes (l.take n):=fun x hx=>h x (List.mem_of_mem_take hx)
theorem qDe (l:List Int)(n:Nat):dig (l.take n) n=dig l n:=by simp only[dig,List.take_take,Nat.min_self]
theorem U_ev {l:List Int}(hb:Bytes l)(hl:l.length≤140737488351232)(a w:Int):
 ∀ k,40≤k→zp.f k l a w=some (Us l a w):=by
 unfold Us
 by_cases hm:1≤w∧w≤64∧0≤a∧a≤l.length
 ·obtain⟨h1,h2,h3,h4⟩:=hm
  rw[if_pos ⟨h1,h2,h3,h4⟩]
  have hK:=qFP hl h1 h2 h3 h4
  have hr:=qAL h1 h2
  intro k hk
  have he:=hK k mDj
  have hmay:zq.f l a w=some true:=by rw[qC3];simp[h1,h2,h3,h4]
  simp only[zp.f,hmay,Option.bind_some,if_true,he]
  rcases hc:cnt (jq w) (l.drop a.toNat) with _|n
  ·simp only[qAb,hc];rw[if_pos mDj]
  ·have hn:=cnt_bd hc
   simp only[List.length_drop] at hn
   simp only[qAb,hc]
   obtain⟨q,rfl⟩:=Int.eq_ofNat_of_zero_le h3
   have e1:((q:Int)+n).toNat=q+n:=mDj
   have e2:((q:Int)).toNat=q:=mDj
   rw[if_neg mDj,if_pos mDj,if_pos mDj,if_pos mDj]
   simp only[e1,e2] at hn ⊢
   rw[qAP]
   have hlen:((l.drop q).take n).length=n:=by simp;omega
   have:=qIE (L:=(l.drop q).take n) (bytes_take (qBV hb q) n) n hlen h1 h2 mDj ((q:Int)+n) n k 0 0 mDj mDj (by simp[val]) (Int.pow_pos mDl) mDj
   rw[hlen]
   rw[qDe] at this
   exact this
 ·rw[if_neg hm]
  intro k _
  have hmay:zq.f l a w=some false:=by rw[qC3];simp only[decide_eq_false hm]
  simp[zp.f,hmay]
theorem qG6 {w:Nat}(h:w≤64):(2:Int) ^ w≤18446744073709551616:=by
 have:=p2_le h
 have e:(2:Int) ^ 64=18446744073709551616:=mDl
 omega
theorem turn_digits (b:Bool){ds:List Int}(h:xZ ds):xZ (turn b ds):=by
 unfold turn
 split
 ·intro x hx
  simp only[List.mem_map] at hx
  obtain⟨y,hy,rfl⟩:=hx
  have:=h y hy
  omega
 ·exact h
theorem turn_length (b:Bool)(ds:List Int):(turn b ds).length=ds.length:=by unfold turn;split <;> simp
theorem turn_get (b:Bool){ds:List Int}{i:Nat}(h:i<ds.length):(turn b ds)[i]'(by rw[turn_length];exact h)=if b then 127 - ds[i] else ds[i]:=by
 cases b <;> simp[turn]
theorem qIf {L:List Int}(hL:Bytes L)(n:Nat)(hn:L.length=n){w:Int}(h1:1≤w)(h2:w≤64)(h7:7*((n:Int) - 1)≤w - 1)(nxt:Int)(b:Bool)(d:Nat):
 ∀(k i:Nat) (acc:Int),i≤n→n - i=d→acc=val ((turn b (dig L n)).take i)→acc<2 ^ (w.toNat - 1)→d<k →
  zR.l0 k w nxt b (if b then 127 else 0) acc L (n:Int) (i:Int)=some (if val (turn b (dig L n))<2 ^ (w.toNat - 1) then (if b then - val (turn b (dig L n)) - 1 else val (turn b (dig L n)),nxt,0) else (0,0,4)):=by
 have hdg:=turn_digits b (dig_digits L n)
 have hdl:(turn b (dig L n)).length=n:=by rw[turn_length];exact dig_length (l:=L) (n:=n) mDj
 have hdl0:(dig L n).length=n:=dig_length (l:=L) (n:=n) mDj
 induction d with
 | zero =>
   intro k i acc h0 h3 ha hb hk
   obtain⟨k,rfl⟩:∃ m,k=m+1:=⟨k - 1,mDj⟩
   have hi:i=n:=mDj
   subst hi
   simp only[zR.l0];rw[if_neg mDj]
   have hacc0:0≤acc:=by rw[ha];exact val_nonneg (jX hdg i)
   rw[List.take_of_length_le mDj] at ha
   have h63:(2:Int) ^ (w.toNat - 1)≤2 ^ 63:=p2_le mDj
   have e63:(2:Int) ^ 63=9223372036854775808:=mDl
   rw[← ha,if_pos hb]
   cases b
   ·rw[if_neg mDl,w64 mDj mDj];simp
   ·rw[if_pos rfl,qI1 hacc0 mDj]
    have:wrap64 (18446744073709551615 - acc) = -acc - 1:=by unfold wrap64;omega
    rw[this];simp
 | succ d ih =>
   intro k i acc h0 h3 ha hb hk
   obtain⟨k,rfl⟩:∃ m,k=m+1:=⟨k - 1,mDj⟩
   have hi:i<n:=mDj
   have hc:=hL L[i] (List.getElem_mem _)
   have hr:rd L (i:Int)=L[i]:=rd_get mDj
   have hd0:(dig L n)[i]'mDj=L[i] % 128:=dig_get mDj hi
   obtain⟨D,hD⟩:∃ D:Int,D=(turn b (dig L n))[i]'mDj:=⟨_,rfl⟩
   have hD2:=turn_get b (ds:=dig L n) (i:=i) mDj
   rw[← hD,hd0] at hD2
   have hDb:0≤D∧D<128:=by rw[hD];exact hdg _ (List.getElem_mem _)
   have hacc:acc<2 ^ (7*i):=by
    have:=val_lt (jX hdg i)
    rw[← ha,qE9,List.length_take,Nat.min_eq_left mDj] at this
    exact this
   have hacc0:0≤acc:=by rw[ha];exact val_nonneg (jX hdg i)
   have hge:=qAC hdg (i:=i) mDj
   rw[← hD] at hge
   have hsucc:acc+D*2 ^ (7*i)=val ((turn b (dig L n)).take (i+1)):=by rw[xv mDj,← ha,← hD]
   have e3:((i+1:Nat):Int)=(i:Int)+1:=mDj
   have hbits:IntKind.u64.wrap (Go.bits .and .u8 (Go.bits .xor .u8 (rd L (i:Int)) (if b then 127 else 0)) 127)=D:=by
    rw[hr,hD2]
    cases b
    ·rw[if_neg mDl,qJY hc.1 hc.2,qEp hc.1 hc.2,u64w mDj mDj];simp
    ·rw[if_pos rfl,qIk hc.1 hc.2,u64w mDj mDj];simp
   have ew:IntKind.u64.wrap (wrap64 (w - 1))=((w.toNat - 1:Nat):Int):=by rw[w64 mDj mDj,u64w mDj mDj];omega
   simp only[zR.l0]
   rw[if_pos mDj,if_pos mDj,if_pos mDj,hbits,qFE mDj,if_pos mDj,ew,if_pos (mDj:(0:Int)≤((w.toNat - 1:Nat):Int))]
   rcases qEE (d:=D) (i:=i) (b:=w.toNat - 1) mDj mDj mDj with ⟨q1,q2,q3,q4⟩|⟨q1,q2⟩
   ·rw[if_pos q1,if_pos q2,q3]
    have hnew:=qGL hacc q4 mDj
    have hle:(2:Int) ^ (w.toNat - 1)≤2 ^ 64:=p2_le mDj
    rw[orAdd _ _ hacc0 hacc mDj mDj,w64 mDj mDj,← e3]
    exact ih k (i+1) _ mDj mDj hsucc hnew mDj
   ·rw[if_neg (c:=val (turn b (dig L n))<2 ^ (w.toNat - 1)) mDj]
    by_cases q:shr .u64 (shl .u64 D (7*(i:Int))) (7*(i:Int))=D
    ·rw[if_pos q,if_neg (by rcases q2 with q2|q2;exact absurd q q2;exact q2)]
    ·rw[if_neg q]
theorem S_ev {l:List Int}(hb:Bytes l)(hl:l.length≤140737488351232)(a w:Int):
 ∀ k,40≤k→zR.f k l a w=some (Ss l a w):=by
 unfold Ss
 by_cases hm:1≤w∧w≤64∧0≤a∧a≤l.length
 ·obtain⟨h1,h2,h3,h4⟩:=hm
  rw[if_pos ⟨h1,h2,h3,h4⟩]
  have hK:=qFP hl h1 h2 h3 h4
  have hr:=qAL h1 h2
  intro k hk
  have he:=hK k mDj
  have hmay:zq.f l a w=some true:=by rw[qC3];simp[h1,h2,h3,h4]
  simp only[zR.f,hmay,Option.bind_some,if_true,he]
  rcases hc:cnt (jq w) (l.drop a.toNat) with _|n
  ·simp only[qAb,hc];rw[if_pos mDj]
  ·have hn:=cnt_bd hc
   simp only[List.length_drop] at hn
   simp only[qAb,hc]
   obtain⟨q,rfl⟩:=Int.eq_ofNat_of_zero_le h3
   have e1:((q:Int)+n).toNat=q+n:=mDj
   have e2:((q:Int)).toNat=q:=mDj
   have e4:wrap64 ((q:Int)+n - 1)=((q+(n - 1):Nat):Int):=by rw[w64 mDj mDj];omega
   have hlast:q+(n - 1)<l.length:=mDj
   have hr2:rd l ((q+(n - 1):Nat):Int)=l[q+(n - 1)]:=rd_get hlast
   have hcb:=hb l[q+(n - 1)] (List.getElem_mem _)
   have hng:neg (l.drop q) n=decide (64≤l[q+(n - 1)] % 128):=by
    unfold neg;congr 2;simp[hlast]
   rw[if_neg mDj,e4,if_pos mDj,if_pos mDj,hr2,qJz hcb.1 hcb.2]
   simp only[e2] at hn ⊢
   have hlen:((l.drop q).take n).length=n:=by simp;omega
   obtain⟨k,rfl⟩:∃ m,k=m+1:=⟨k - 1,mDj⟩
   have key:∀ b,zR.j0 (k+1) l (q:Int) w ((q:Int)+n) b (if b then 127 else 0)=some (if val (turn b (dig (l.drop q) n))<2 ^ (w.toNat - 1) then (if b then - val (turn b (dig (l.drop q) n)) - 1 else val (turn b (dig (l.drop q) n)),(q:Int)+n,0) else (0,0,4)):=by
    intro b
    simp only[zR.j0]
    rw[if_pos mDj,if_pos mDj,if_pos mDj]
    simp only[e1,e2]
    rw[qAP,hlen]
    have:=qIf (L:=(l.drop q).take n) (bytes_take (qBV hb q) n) n hlen h1 h2 mDj ((q:Int)+n) b n k 0 0 mDj mDj (by simp[val]) (Int.pow_pos mDl) mDj
    rw[qDe] at this
    exact this
   rw[hng]
   by_cases hs:l[q+(n - 1)] % 128<64
   ·have hd:decide (64≤l[q+(n - 1)] % 128)=false:=decide_eq_false mDj
    have:=key false
    simp only[hd,if_pos hs]
    simpa using this
   ·have hd:decide (64≤l[q+(n - 1)] % 128)=true:=decide_eq_true mDj
    have:=key true
    simp only[hd,if_neg hs]
    simpa using this
 ·rw[if_neg hm]
  intro k _
  have hmay:zq.f l a w=some false:=by rw[qC3];simp only[decide_eq_false hm]
  simp[zR.f,hmay]
def putU:Nat→Int→List Int
 | 0,x=>[x]
 | f+1,x=>if x<128 then [x] else (x % 128+128)::putU f (x / 128)
def putS:Nat→Int→List Int
 | 0,x=>[x % 128]
 | f+1,x=>if -64≤x∧x<64 then [x % 128] else (x % 128+128)::putS f (x / 128)
theorem putU_len (f:Nat):∀ x,1≤(putU f x).length∧(putU f x).length≤f+1:=by
 induction f with
 | zero=>intro x;simp[putU]
 | succ f ih =>
   intro x
   simp only[putU]
   split
   ·simp
   ·have:=ih (x / 128);simp;omega
theorem putS_len (f:Nat):∀ x,1≤(putS f x).length∧(putS f x).length≤f+1:=by
 induction f with
 | zero=>intro x;simp[putS]
 | succ f ih =>
   intro x
   simp only[putS]
   split
   ·simp
   ·have:=ih (x / 128);simp;omega
theorem qFq (f:Nat):∀(k:Nat) (x:Int) (out:List Int),0≤x→x<128 ^ (f+1)→out.length+f≤100→f<k →
 qX.l0 k x out=some (out++putU f x):=by
 induction f with
 | zero =>
   intro k x out h0 h1 h2 hk
   obtain⟨k,rfl⟩:∃ m,k=m+1:=⟨k - 1,mDj⟩
   simp only[qX.l0]
   rw[if_neg mDj,if_pos mDj,Int.emod_eq_of_lt h0 mDj]
   simp[putU]
 | succ f ih =>
   intro k x out h0 h1 h2 hk
   obtain⟨k,rfl⟩:∃ m,k=m+1:=⟨k - 1,mDj⟩
   simp only[qX.l0,putU]
   by_cases hx:x<128
   ·rw[if_neg mDj,if_pos mDj,if_pos hx,Int.emod_eq_of_lt h0 mDj]
   ·have e:x % 256 % 128=x % 128:=mDj
    rw[if_pos mDj,if_pos mDj,if_neg hx,qF2 mDj mDj,e]
    rw[ih k (x / 128) _ mDj (by rw[Int.pow_succ] at h1;omega) (by simp;omega) mDj]
    simp
theorem u64_lt {x:Int}(h:x≤18446744073709551615):x<128 ^ 10:=by
 have e:(128:Int) ^ 10=1180591620717411303424:=mDl
 omega
theorem PutU_ev {x:Int}(h0:0≤x)(h1:x≤18446744073709551615):∀ k,40≤k→qX.f k x=some (putU 9 x):=by
 intro k hk
 have:=qFq 9 k x [] h0 (u64_lt h1) mDp mDj
 simpa [qX.f] using this
theorem qE8 (f:Nat):∀(k:Nat) (x:Int) (out:List Int),-(64*128 ^ f)≤x→x<64*128 ^ f→out.length+f≤100→f<k →
 qu.l0 k x out=some (out++putS f x):=by
 have last:∀ x:Int,Go.bits .and .u8 (x % 256) 127=x % 128:=fun x=>by rw[qEp mDj mDj];omega
 induction f with
 | zero =>
   intro k x out h0 h1 h2 hk
   obtain⟨k,rfl⟩:∃ m,k=m+1:=⟨k - 1,mDj⟩
   simp only[qu.l0]
   rw[if_neg mDj,if_neg mDj,if_pos mDj,last]
   simp[putS]
 | succ f ih =>
   intro k x out h0 h1 h2 hk
   obtain⟨k,rfl⟩:∃ m,k=m+1:=⟨k - 1,mDj⟩
   have e:x % 256 % 128=x % 128:=mDj
   rw[Int.pow_succ] at h0 h1
   have st:=ih k (x / 128) (out ++ [x % 128+128]) mDj mDj (by simp;omega) mDj
   simp only[qu.l0,putS]
   by_cases hx:x < -64
   ·rw[if_pos hx,if_pos mDj,if_neg mDj,qF2 mDj mDj,e,st]
    simp
   ·by_cases hy:x≥64
    ·rw[if_neg hx,if_pos hy,if_pos mDj,if_neg mDj,qF2 mDj mDj,e,st]
     simp
    ·rw[if_neg hx,if_neg hy,if_pos mDj,if_pos mDj,last]
theorem PutS_ev {x:Int}(h0 : -9223372036854775808≤x)(h1:x≤9223372036854775807):∀ k,40≤k→qu.f k x=some (putS 9 x):=by
 intro k hk
 have e:(128:Int) ^ 9=9223372036854775808:=mDl
 have:=qE8 9 k x [] mDj mDj mDp mDj
 simpa [qu.f] using this
theorem Us_ok {l:List Int}{a w:Int}(h:(Us l a w).2.2=0):1≤w∧w≤64∧0≤a∧a≤l.length∧∃ n,cnt (jq w) (l.drop a.toNat)=some n∧val (dig (l.drop a.toNat) n)<2 ^ w.toNat∧Us l a w=(val (dig (l.drop a.toNat) n),a+n,0):=by
 unfold Us at h ⊢
 by_cases hm:1≤w∧w≤64∧0≤a∧a≤l.length
 ·rw[if_pos hm] at h ⊢
  refine⟨hm.1,hm.2.1,hm.2.2.1,hm.2.2.2,?_⟩
  rcases hc:cnt (jq w) (l.drop a.toNat) with _|n
  ·rw[hc] at h;simp at h
  ·rw[hc] at h
   simp only at h ⊢
   by_cases hv:val (dig (l.drop a.toNat) n)<2 ^ w.toNat
   ·exact⟨n,rfl,hv,by rw[if_pos hv]⟩
   ·rw[if_neg hv] at h;simp at h
 ·rw[if_neg hm] at h;simp at h
theorem Us_mk {l:List Int}{a w:Int}{n:Nat}(h1:1≤w)(h2:w≤64)(h3:0≤a)(h4:a≤l.length)(hc:cnt (jq w) (l.drop a.toNat)=some n)(hv:val (dig (l.drop a.toNat) n)<2 ^ w.toNat):
 Us l a w=(val (dig (l.drop a.toNat) n),a+n,0):=by
 unfold Us
 rw[if_pos ⟨h1,h2,h3,h4⟩,hc]
 simp only[if_pos hv]
def sgn (b:Bool)(v:Int):Int:=if b then -v - 1 else v
theorem Ss_ok {l:List Int}{a w:Int}(h:(Ss l a w).2.2=0):1≤w∧w≤64∧0≤a∧a≤l.length∧∃ n,cnt (jq w) (l.drop a.toNat)=some n∧val (turn (neg (l.drop a.toNat) n) (dig (l.drop a.toNat) n))<2 ^ (w.toNat - 1)∧
 Ss l a w=(sgn (neg (l.drop a.toNat) n) (val (turn (neg (l.drop a.toNat) n) (dig (l.drop a.toNat) n))),a+n,0):=by
 unfold Ss at h ⊢
 by_cases hm:1≤w∧w≤64∧0≤a∧a≤l.length
 ·rw[if_pos hm] at h ⊢
  refine⟨hm.1,hm.2.1,hm.2.2.1,hm.2.2.2,?_⟩
  rcases hc:cnt (jq w) (l.drop a.toNat) with _|n
  ·rw[hc] at h;simp at h
  ·rw[hc] at h
   simp only at h ⊢
   by_cases hv:val (turn (neg (l.drop a.toNat) n) (dig (l.drop a.toNat) n))<2 ^ (w.toNat - 1)
   ·exact⟨n,rfl,hv,by rw[if_pos hv];rfl⟩
   ·rw[if_neg hv] at h;simp at h
 ·rw[if_neg hm] at h;simp at h
theorem Ss_mk {l:List Int}{a w:Int}{n:Nat}(h1:1≤w)(h2:w≤64)(h3:0≤a)(h4:a≤l.length)(hc:cnt (jq w) (l.drop a.toNat)=some n)(hv:val (turn (neg (l.drop a.toNat) n) (dig (l.drop a.toNat) n))<2 ^ (w.toNat - 1)):
 Ss l a w=(sgn (neg (l.drop a.toNat) n) (val (turn (neg (l.drop a.toNat) n) (dig (l.drop a.toNat) n))),a+n,0):=by
 unfold Ss
 rw[if_pos ⟨h1,h2,h3,h4⟩,hc]
 simp only[if_pos hv];rfl
theorem putU_short (f:Nat):∀(x:Int) (c:Nat),0≤x→x<128 ^ c→1≤c→(putU f x).length≤c:=by
 induction f with
 | zero=>intro x c _ _ h;simp[putU];omega
 | succ f ih =>
   intro x c h0 h1 hc
   simp only[putU]
   split
   ·simp;omega
   ·obtain⟨c,rfl⟩:∃ q,c=q+1:=⟨c - 1,mDj⟩
    rw[Int.pow_succ] at h1
    have h2:1≤c:=by
     rcases c with _|c
     ·simp at h1;omega
     ·omega
    have:=ih (x / 128) c mDj mDj h2
    simp;omega
theorem putS_short (f:Nat):∀(x:Int) (c:Nat),-(64*128 ^ (c - 1))≤x→x<64*128 ^ (c - 1)→1≤c→(putS f x).length≤c:=by
 induction f with
 | zero=>intro x c _ _ h;simp[putS];omega
 | succ f ih =>
   intro x c h0 h1 hc
   simp only[putS]
   split
   ·simp;omega
   ·obtain⟨c,rfl⟩:∃ q,c=q+1:=⟨c - 1,mDj⟩
    rcases c with _|c
    ·simp at h0 h1;omega
    ·simp only[Nat.add_sub_cancel] at h0 h1
     rw[Int.pow_succ] at h0 h1
     have:=ih (x / 128) (c+1) (by simp only[Nat.add_sub_cancel];omega) (by simp only[Nat.add_sub_cancel];omega) mDj
     simp;omega
theorem val_last {ds:List Int}(hd:xZ ds)(n:Nat)(hn:ds.length=n+1)(hl:ds[n]'mDj<64):val ds<64*128 ^ n:=by
 have e:ds=ds.take n ++ [ds[n]'mDj]:=by
  have:=List.take_succ_eq_append_getElem (l:=ds) (i:=n) mDj
  rw[List.take_of_length_le mDj] at this
  exact this
 have h1:=val_lt (jX hd n)
 rw[List.length_take,Nat.min_eq_left mDj] at h1
 have hp:(0:Int)<128 ^ n:=Int.pow_pos mDl
 have h2:ds[n]'mDj*128 ^ n≤63*128 ^ n:=Int.mul_le_mul_of_nonneg_right mDj mDj
 have h3:val ds=val (ds.take n)+ds[n]'mDj*128 ^ n:=by
  conv=>lhs;rw[e]
  rw[qAi,List.length_take,Nat.min_eq_left mDj]
  simp only[val];rw[Int.mul_comm];simp
 omega
theorem qCP (c:Int)(l:List Int):dig (c::l) 1 = [c % 128]:=by simp[dig]
theorem qDC (c:Int)(l:List Int)(n:Nat):dig (c::l) (n+1)=c % 128::dig l n:=by simp[dig]
theorem putU_bytes (f:Nat):∀ x:Int,0≤x→x<128 ^ (f+1)→Bytes (putU f x):=by
 induction f with
 | zero=>intro x h0 h1 y hy;simp[putU] at hy;subst hy;simp at h1;omega
 | succ f ih =>
   intro x h0 h1 y hy
   simp only[putU] at hy
   split at hy
   ·simp at hy;omega
   ·rcases List.mem_cons.1 hy with rfl|hy
    ·omega
    ·rw[Int.pow_succ] at h1
     exact ih (x / 128) mDj mDj y hy
theorem putS_bytes (f:Nat):∀ x:Int,Bytes (putS f x):=by
 induction f with
 | zero=>intro x y hy;simp[putS] at hy;subst hy;omega
 | succ f ih =>
   intro x y hy
   simp only[putS] at hy
   split at hy
   ·simp at hy;omega
   ·rcases List.mem_cons.1 hy with rfl|hy
    ·omega
    ·exact ih (x / 128) y hy
theorem qFK (f:Nat):∀(x:Int) (rest:List Int) (m:Nat),0≤x→x<128 ^ (f+1)→(putU f x).length≤m →
 cnt m (putU f x++rest)=some (putU f x).length∧val (dig (putU f x++rest) (putU f x).length)=x:=by
 induction f with
 | zero =>
   intro x rest m h0 h1 hm
   simp only[putU,List.length_singleton] at hm ⊢
   obtain⟨m,rfl⟩:∃ q,m=q+1:=⟨m - 1,mDj⟩
   simp at h1
   refine⟨by simp[cnt,h1],?_⟩
   simp only[List.singleton_append,qCP,val];omega
 | succ f ih =>
   intro x rest m h0 h1 hm
   simp only[putU] at hm ⊢
   by_cases hx:x<128
   ·simp only[if_pos hx,List.length_singleton] at hm ⊢
    obtain⟨m,rfl⟩:∃ q,m=q+1:=⟨m - 1,mDj⟩
    refine⟨by simp[cnt,hx],?_⟩
    simp only[List.singleton_append,qCP,val];omega
   ·simp only[if_neg hx,List.length_cons] at hm ⊢
    obtain⟨m,rfl⟩:∃ q,m=q+1:=⟨m - 1,mDj⟩
    rw[Int.pow_succ] at h1
    obtain⟨i1,i2⟩:=ih (x / 128) rest m mDj mDj mDj
    refine⟨?_,?_⟩
    ·simp only[List.cons_append,cnt]
     rw[if_neg mDj,i1];rfl
    ·simp only[List.cons_append,qDC,val,i2];omega
theorem qGu (c:Int)(l:List Int)(n:Nat)(h:1≤n):neg (c::l) (n+1)=neg l n:=by
 obtain⟨n,rfl⟩:∃ q,n=q+1:=⟨n - 1,mDj⟩
 simp[neg]
theorem qFr (b:Bool)(d:Int)(ds:List Int):turn b (d::ds)=(if b then 127 - d else d)::turn b ds:=by cases b <;> simp[turn]
theorem qF7 (f:Nat):∀(x:Int) (rest:List Int) (m:Nat),-(64*128 ^ f)≤x→x<64*128 ^ f→(putS f x).length≤m →
 cnt m (putS f x++rest)=some (putS f x).length∧neg (putS f x++rest) (putS f x).length=decide (x<0)∧
 val (turn (decide (x<0)) (dig (putS f x++rest) (putS f x).length))=if x<0 then -x - 1 else x:=by
 have base:∀(x:Int) (rest:List Int) (m:Nat),-64≤x→x<64→1≤m →
  cnt m ([x % 128]++rest)=some 1∧neg ([x % 128]++rest) 1=decide (x<0)∧val (turn (decide (x<0)) (dig ([x % 128]++rest) 1))=if x<0 then -x - 1 else x:=by
  intro x rest m h0 h1 hm
  obtain⟨m,rfl⟩:∃ q,m=q+1:=⟨m - 1,mDj⟩
  refine⟨?_,?_,?_⟩
  ·simp only[List.singleton_append,cnt];rw[if_pos mDj]
  ·simp only[neg,List.singleton_append]
   simp only[Nat.sub_self,List.getD_cons_zero]
   rw[decide_eq_decide];omega
  ·simp only[List.singleton_append,qCP,turn]
   by_cases hx:x<0
   ·simp[hx,val];omega
   ·simp[hx,val];omega
 induction f with
 | zero =>
   intro x rest m h0 h1 hm
   simp only[putS,List.length_singleton] at hm ⊢
   exact base x rest m mDj mDj hm
 | succ f ih =>
   intro x rest m h0 h1 hm
   simp only[putS] at hm ⊢
   by_cases hx : -64≤x∧x<64
   ·simp only[if_pos hx,List.length_singleton] at hm ⊢
    exact base x rest m hx.1 hx.2 hm
   ·simp only[if_neg hx,List.length_cons] at hm ⊢
    obtain⟨m,rfl⟩:∃ q,m=q+1:=⟨m - 1,mDj⟩
    rw[Int.pow_succ] at h0 h1
    obtain⟨i1,i2,i3⟩:=ih (x / 128) rest m mDj mDj mDj
    have hd:decide (x / 128<0)=decide (x<0):=by rw[decide_eq_decide];omega
    rw[hd] at i2 i3
    have hl:=putS_len f (x / 128)
    refine⟨?_,?_,?_⟩
    ·simp only[List.cons_append,cnt]
     rw[if_neg mDj,i1];rfl
    ·simp only[List.cons_append]
     rw[qGu _ _ _ hl.1];exact i2
    ·simp only[List.cons_append,qDC,qFr,val,i3]
     by_cases hn:x<0
     ·rw[if_pos hn,if_pos (c:=x / 128<0) mDj,if_pos (by simpa using hn)];omega
     ·rw[if_neg hn,if_neg (c:=x / 128<0) mDj,if_neg (by simpa using hn)];omega
theorem Us_put {x w:Int}(h1:1≤w)(h2:w≤64)(h0:0≤x)(hx:x<2 ^ w.toNat)(ahead rest:List Int):
 Us (ahead++putU 9 x++rest) ahead.length w=(x,(ahead.length:Int)+((putU 9 x).length:Int),0)∧(putU 9 x).length≤jq w:=by
 have hr:=qAL h1 h2
 have hp:(2:Int) ^ w.toNat≤2 ^ (7*jq w):=p2_le mDj
 have hs:=putU_short 9 x (jq w) h0 (by rw[qE9];omega) mDj
 have hb:=qG6 (w:=w.toNat) mDj
 obtain⟨c1,c2⟩:=qFK 9 x rest (jq w) h0 (u64_lt mDj) hs
 have hd:(ahead++putU 9 x++rest).drop ((ahead.length:Int)).toNat=putU 9 x++rest:=mDp
 refine⟨?_,hs⟩
 have:=Us_mk (l:=ahead++putU 9 x++rest) (a:=ahead.length) (w:=w) (n:=(putU 9 x).length) h1 h2 mDj (by simp;omega) (by rw[hd];exact c1) (by rw[hd,c2];exact hx)
 rw[this,hd,c2]
theorem Ss_put {x w:Int}(h1:1≤w)(h2:w≤64)(h0 : -(2 ^ (w.toNat - 1))≤x)(hx:x<2 ^ (w.toNat - 1))(ahead rest:List Int):
 Ss (ahead++putS 9 x++rest) ahead.length w=(x,(ahead.length:Int)+((putS 9 x).length:Int),0)∧(putS 9 x).length≤jq w:=by
 have hr:=qAL h1 h2
 have hp:(2:Int) ^ (w.toNat - 1)≤2 ^ (6+7*(jq w - 1)):=p2_le mDj
 have e6:(2:Int) ^ (6+7*(jq w - 1))=64*128 ^ (jq w - 1):=by rw[Int.pow_add,qE9];rfl
 rw[e6] at hp
 have hs:=putS_short 9 x (jq w) mDj mDj mDj
 have h63:(2:Int) ^ (w.toNat - 1)≤2 ^ 63:=p2_le mDj
 have e63:(2:Int) ^ 63=9223372036854775808:=mDl
 have e9:(128:Int) ^ 9=9223372036854775808:=mDl
 obtain⟨c1,c2,c3⟩:=qF7 9 x rest (jq w) mDj mDj hs
 have hd:(ahead++putS 9 x++rest).drop ((ahead.length:Int)).toNat=putS 9 x++rest:=mDp
 refine⟨?_,hs⟩
 have:=Ss_mk (l:=ahead++putS 9 x++rest) (a:=ahead.length) (w:=w) (n:=(putS 9 x).length) h1 h2 mDj (by simp;omega) (by rw[hd];exact c1) (by rw[hd,c2,c3];split <;> omega)
 rw[this,hd,c2,c3]
 unfold sgn
 by_cases hn:x<0
 ·simp only[hn,decide_true,if_true];congr 1;omega
 ·simp[hn]
theorem bytes_app {l r:List Int}(h:Bytes l)(k:Bytes r):Bytes (l++r):=fun x hx=>(List.mem_append.1 hx).elim (h x) (k x)
end Go.Proofs.YtobldeamemmokaaDoor.LebM
