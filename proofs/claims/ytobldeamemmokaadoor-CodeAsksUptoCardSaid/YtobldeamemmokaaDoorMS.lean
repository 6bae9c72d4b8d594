import Derived.Test.YtobldeamemmokaaDoorKU
import Derived.Test.YtobldeamemmokaaDoorKG
import Derived.Test.YtobldeamemmokaaDoorKS
/-! Plain: how many there are. -/
namespace Go.Proofs.YtobldeamemmokaaDoor.P
open Go.RowKit Go.Proofs.YtobldeamemmokaaDoorW.PrintWords
set_option linter.unusedVariables false
set_option linter.unusedSimpArgs false
mutual
def cI : I → Nat
  | ⟨_, _, _, _, _, _, _, _, _, _, b, e⟩ => 1 + cL b + cL e
def cL : List I → Nat
  | [] => 0
  | x :: l => cI x + cL l
end
theorem cI_eq (x : I) : cI x = 1 + cL x.body + cL x.els := by cases x; rw [cI]
def mP : List P_ → Nat
  | [] => 0
  | p :: rs => 3 * cL (p.l.drop p.at_) + 1 + mP rs
def cP : List P_ → Nat
  | [] => 0
  | p :: rs => cL (p.l.drop p.at_) + cP rs
theorem eachL_count : ∀ (k : Nat) (ps : List P_) (n : Nat), mP ps < k → (∀ p ∈ ps, p.at_ ≤ p.l.length) → n + cP ps ≤ 1000000000 → ps.length + 2 * cP ps < 1000000000 → eachL sCount k ps (n : Int) = some ((n + cP ps : Nat) : Int)
  | 0, ps, n, h, _, _, _ => by omega
  | k + 1, [], n, h, _, _, _ => by simp [eachL, cP]
  | k + 1, p :: rs, n, h, hp, hb, hs => by
    have h0 := hp p (List.mem_cons_self ..)
    have hrs : ∀ q ∈ rs, q.at_ ≤ q.l.length := fun q hq => hp q (List.mem_cons_of_mem _ hq)
    rw [eachL]
    simp only [mP, cP, List.length_cons] at h hb hs ⊢
    by_cases e : p.at_ = p.l.length
    · rw [if_pos e]
      have e2 : p.l.drop p.at_ = [] := List.drop_eq_nil_of_le (by omega)
      rw [e2, cL] at h hb hs ⊢
      rw [eachL_count k rs n (by omega) hrs (by omega) (by omega), Nat.zero_add]
    · have hlt : p.at_ < p.l.length := by omega
      rw [if_neg e, if_pos hlt]
      rw [drop_getD hlt, cL, cI_eq] at h hb hs ⊢
      obtain ⟨x, hx⟩ : ∃ x, p.l.getD p.at_ zI = x := ⟨_, rfl⟩
      rw [hx] at h hb hs ⊢
      rw [if_pos (show (sCount (n : Int) x p.high).2 = true from rfl), if_pos (by generalize cP rs = C at hs; generalize cL x.body = B at hs; generalize cL x.els = E at hs; generalize cL (p.l.drop (p.at_ + 1)) = R at hs; omega)]
      have en : (sCount (n : Int) x p.high).1 = ((n + 1 : Nat) : Int) := by
        show wrap64 ((n : Int) + 1) = _
        unfold wrap64
        have hn : n ≤ 1000000000 := Nat.le_trans (Nat.le_add_right _ _) hb
        clear h hb hs
        omega
      rw [en]
      generalize (if isBlk x.op = true then wrap64 (p.high + 1) else p.high) = hh
      have e1 : ∀ (l : List I), (if 0 < l.length then [(⟨l, 0, hh⟩ : P_)] else []) = [] ∧ cL l = 0 ∨ (if 0 < l.length then [(⟨l, 0, hh⟩ : P_)] else []) = [⟨l, 0, hh⟩] := by
        intro l
        cases l with
        | nil => exact .inl ⟨rfl, rfl⟩
        | cons a l => exact .inr (if_pos (by simp))
      have hq : ∀ q ∈ (⟨p.l, p.at_ + 1, p.high⟩ : P_) :: rs, q.at_ ≤ q.l.length := by
        intro q hq
        rcases List.mem_cons.1 hq with rfl | hq
        · exact hlt
        · exact hrs q hq
      have f1 := e1 x.body
      have f2 := e1 x.els
      clear e1
      obtain ⟨B, hB⟩ : ∃ B, cL x.body = B := ⟨_, rfl⟩
      obtain ⟨E, hE⟩ : ∃ E, cL x.els = E := ⟨_, rfl⟩
      obtain ⟨R, hR⟩ : ∃ R, cL (p.l.drop (p.at_ + 1)) = R := ⟨_, rfl⟩
      obtain ⟨M, hM⟩ : ∃ M, mP rs = M := ⟨_, rfl⟩
      obtain ⟨C, hC⟩ : ∃ C, cP rs = C := ⟨_, rfl⟩
      rw [hB] at f1
      rw [hE] at f2
      rw [hB, hE, hR, hM] at h
      rw [hB, hE, hR, hC] at hb hs ⊢
      obtain ⟨L, hL⟩ : ∃ L, rs.length = L := ⟨_, rfl⟩
      rw [hL] at hs
      clear hx e h0 hrs hp en
      rcases f1 with ⟨b1, b2⟩ | b1 <;> rcases f2 with ⟨c1, c2⟩ | c1 <;> rw [b1, c1] <;>
        (rw [eachL_count k _ (n + 1)]
         · simp only [List.nil_append, List.cons_append, cP, List.drop_zero, hB, hE, hR, hC]
           congr 2
           omega
         · simp only [List.nil_append, List.cons_append, mP, List.drop_zero, hB, hE, hR, hM]
           omega
         · intro q hqq
           simp only [List.nil_append, List.cons_append, List.mem_cons] at hqq
           first
             | (rcases hqq with rfl | rfl | hqq
                · exact Nat.zero_le _
                · exact Nat.zero_le _
                · exact hq q (by simpa using hqq))
             | (rcases hqq with rfl | hqq
                · exact Nat.zero_le _
                · exact hq q (by simpa using hqq))
             | exact hq q (by simpa using hqq)
         · simp only [List.nil_append, List.cons_append, cP, List.drop_zero, hB, hE, hR, hC]
           omega
         · simp only [List.nil_append, List.cons_append, cP, List.drop_zero, List.length_cons, hB, hE, hR, hC, hL]
           omega)
end Go.Proofs.YtobldeamemmokaaDoor.P

/-! Plain: the document's count, and the program's. -/
namespace Go.Proofs.YtobldeamemmokaaDoor.P
open Go.RowKit Go.Proofs.YtobldeamemmokaaDoorW.PrintWords
set_option linter.unusedVariables false
set_option linter.unusedSimpArgs false
theorem wrap_small (a b c n : Nat) (h : n + (1 + a + b) + c ≤ 1000000000) : wrap64 (wrap64 (wrap64 ((n : Int) + 1) + (a : Int)) + (b : Int)) = ((n + (1 + a + b) : Nat) : Int) := by
  unfold wrap64
  omega
theorem cntI_eq (f : List I → Option Int) (k : Nat) (hf : ∀ l, cL l < k → cL l ≤ 1000000000 → f l = some ((cL l : Nat) : Int)) : ∀ (l : List I) (n : Nat), cL l ≤ k → n + cL l ≤ 1000000000 → cntI f l (n : Int) = some ((n + cL l : Nat) : Int)
  | [], n, _, _ => by rw [cntI, cL, Nat.add_zero]
  | x :: l, n, h, h2 => by
    rw [cL, cI_eq] at h h2 ⊢
    have ih := cntI_eq f k hf l (n + (1 + cL x.body + cL x.els))
    have f1 := hf x.body
    have f2 := hf x.els
    rw [cntI]
    generalize cL x.body = B at *
    generalize cL x.els = E at *
    generalize cL l = R at *
    rw [f1 (by omega) (by omega), f2 (by omega) (by omega)]
    simp only [Option.bind_some]
    rw [wrap_small B E R n (by omega), ih (by omega) (by omega)]
    congr 2
    omega
theorem cntR_eq : ∀ (k : Nat) (l : List I), cL l < k → cL l ≤ 1000000000 → cntR k l = some ((cL l : Nat) : Int)
  | 0, l, h, _ => absurd h (Nat.not_lt_zero _)
  | k + 1, l, h, h2 => by
    have h3 := cntI_eq (cntR k) k (fun m => cntR_eq k m) l 0 (Nat.le_of_lt_succ h) (by rw [Nat.zero_add]; exact h2)
    rw [Nat.zero_add] at h3
    exact h3
end Go.Proofs.YtobldeamemmokaaDoor.P

/-! Plain: what each goes over, as a list. -/
namespace Go.Proofs.YtobldeamemmokaaDoor.P
open Go.RowKit Go.Proofs.YtobldeamemmokaaDoorW.PrintWords
set_option linter.unusedVariables false
set_option linter.unusedSimpArgs false
def inn (h : Int) (o : Int) : Int := if isBlk o = true then wrap64 (h + 1) else h
mutual
def seqI : Int → I → List (I × Int)
  | h, ⟨o, a, b, n, v, l, t, bk, bv, bt, bd, e⟩ => (⟨o, a, b, n, v, l, t, bk, bv, bt, bd, e⟩, h) :: (seqL (inn h o) bd ++ seqL (inn h o) e)
def seqL : Int → List I → List (I × Int)
  | _, [] => []
  | h, x :: l => seqI h x ++ seqL h l
end
theorem seqI_eq (h : Int) (x : I) : seqI h x = (x, h) :: (seqL (inn h x.op) x.body ++ seqL (inn h x.op) x.els) := by cases x; rw [seqI]
/-- Over a list, left when told so. -/
def foldE {σ : Type} (step : σ → I → Int → σ × Bool) : List (I × Int) → σ → σ × Bool
  | [], s => (s, true)
  | q :: qs, s => if (step s q.1 q.2).2 = true then foldE step qs (step s q.1 q.2).1 else ((step s q.1 q.2).1, false)
theorem foldE_append {σ : Type} (step : σ → I → Int → σ × Bool) : ∀ (xs ys : List (I × Int)) (s : σ), foldE step (xs ++ ys) s = if (foldE step xs s).2 = true then foldE step ys (foldE step xs s).1 else foldE step xs s
  | [], ys, s => by simp [foldE]
  | q :: xs, ys, s => by
    rw [List.cons_append, foldE, foldE]
    by_cases h : (step s q.1 q.2).2 = true
    · rw [if_pos h, if_pos h, foldE_append step xs ys]
    · rw [if_neg h, if_neg h, if_neg (by simp)]
def seqP : List P_ → List (I × Int)
  | [] => []
  | p :: rs => seqL p.high (p.l.drop p.at_) ++ seqP rs
theorem seqP_if (b : List I) (h : Int) (rs : List P_) : seqP ((if 0 < b.length then [(⟨b, 0, h⟩ : P_)] else []) ++ rs) = seqL h b ++ seqP rs := by
  cases b with
  | nil => simp [seqL]
  | cons x b => rw [if_pos (by simp)]; rfl
theorem mP_if (b : List I) (h : Int) (rs : List P_) : mP ((if 0 < b.length then [(⟨b, 0, h⟩ : P_)] else []) ++ rs) ≤ 3 * cL b + 1 + mP rs := by
  cases b with
  | nil => simp [mP, cL]
  | cons x b => rw [if_pos (by simp)]; exact Nat.le_refl _
theorem cP_if (b : List I) (h : Int) (rs : List P_) : cP ((if 0 < b.length then [(⟨b, 0, h⟩ : P_)] else []) ++ rs) = cL b + cP rs := by
  cases b with
  | nil => simp [cL]
  | cons x b => rw [if_pos (by simp)]; rfl
theorem len_if (b : List I) (h : Int) (rs : List P_) : ((if 0 < b.length then [(⟨b, 0, h⟩ : P_)] else []) ++ rs).length ≤ 1 + rs.length := by
  by_cases hb : 0 < b.length
  · rw [if_pos hb]; simp; omega
  · rw [if_neg hb]; simp
theorem eachL_seq {σ : Type} (step : σ → I → Int → σ × Bool) : ∀ (k : Nat) (ps : List P_) (s : σ), mP ps < k → (∀ p ∈ ps, p.at_ ≤ p.l.length) → ps.length + 2 * cP ps < 1000000000000 → eachL step k ps s = some (foldE step (seqP ps) s).1
  | 0, ps, s, h, _, _ => absurd h (Nat.not_lt_zero _)
  | k + 1, [], s, h, _, _ => by simp [eachL, seqP, foldE]
  | k + 1, p :: rs, s, h, hp, hs => by
    have h0 := hp p (List.mem_cons_self ..)
    have hrs : ∀ q ∈ rs, q.at_ ≤ q.l.length := fun q hq => hp q (List.mem_cons_of_mem _ hq)
    rw [eachL]
    simp only [mP, cP, List.length_cons] at h hs
    rw [seqP]
    by_cases e : p.at_ = p.l.length
    · rw [if_pos e]
      have e2 : p.l.drop p.at_ = [] := List.drop_eq_nil_of_le (by omega)
      rw [e2, cL] at h hs
      rw [e2, seqL, List.nil_append]
      exact eachL_seq step k rs s (by generalize mP rs = M at h ⊢; omega) hrs (by generalize cP rs = C at hs ⊢; omega)
    · have hlt : p.at_ < p.l.length := by omega
      rw [if_neg e, if_pos hlt]
      rw [drop_getD hlt, cL, cI_eq] at h hs
      rw [drop_getD hlt, seqL, seqI_eq]
      obtain ⟨x, hx⟩ : ∃ x, p.l.getD p.at_ zI = x := ⟨_, rfl⟩
      rw [hx] at h hs ⊢
      rw [List.cons_append, List.cons_append, foldE]
      by_cases hst : (step s x p.high).2 = true
      · rw [if_pos hst, if_pos hst, if_pos (by generalize cP rs = C at hs; generalize cL x.body = B at hs; generalize cL x.els = E at hs; generalize cL (p.l.drop (p.at_ + 1)) = R at hs; omega)]
        have e5 := eachL_seq step k ((if 0 < x.body.length then [⟨x.body, 0, (if isBlk x.op = true then wrap64 (p.high + 1) else p.high)⟩] else []) ++
          ((if 0 < x.els.length then [⟨x.els, 0, (if isBlk x.op = true then wrap64 (p.high + 1) else p.high)⟩] else []) ++ ⟨p.l, p.at_ + 1, p.high⟩ :: rs)) (step s x p.high).1 ?_ ?_ ?_
        · rw [e5, seqP_if, seqP_if, seqP]
          simp only [inn, List.append_assoc]
        · have q1 := mP_if x.body (if isBlk x.op = true then wrap64 (p.high + 1) else p.high) ((if 0 < x.els.length then [⟨x.els, 0, (if isBlk x.op = true then wrap64 (p.high + 1) else p.high)⟩] else []) ++ ⟨p.l, p.at_ + 1, p.high⟩ :: rs)
          have q2 := mP_if x.els (if isBlk x.op = true then wrap64 (p.high + 1) else p.high) (⟨p.l, p.at_ + 1, p.high⟩ :: rs)
          simp only [mP] at q2
          refine Nat.lt_of_le_of_lt q1 (Nat.lt_of_le_of_lt (Nat.add_le_add_left q2 _) ?_)
          clear q1 q2
          generalize mP rs = M at h ⊢
          generalize cL x.body = B at h ⊢
          generalize cL x.els = E at h ⊢
          generalize cL (p.l.drop (p.at_ + 1)) = R at h ⊢
          omega
        · intro q hq
          rcases List.mem_append.1 hq with hq | hq
          · split at hq
            · rcases List.mem_singleton.1 hq with rfl
              exact Nat.zero_le _
            · cases hq
          · rcases List.mem_append.1 hq with hq | hq
            · split at hq
              · rcases List.mem_singleton.1 hq with rfl
                exact Nat.zero_le _
              · cases hq
            · rcases List.mem_cons.1 hq with rfl | hq
              · exact hlt
              · exact hrs q hq
        · rw [cP_if, cP_if, cP]
          have q1 := len_if x.body (if isBlk x.op = true then wrap64 (p.high + 1) else p.high) ((if 0 < x.els.length then [⟨x.els, 0, (if isBlk x.op = true then wrap64 (p.high + 1) else p.high)⟩] else []) ++ ⟨p.l, p.at_ + 1, p.high⟩ :: rs)
          have q2 := len_if x.els (if isBlk x.op = true then wrap64 (p.high + 1) else p.high) (⟨p.l, p.at_ + 1, p.high⟩ :: rs)
          rw [List.length_cons] at q2
          refine Nat.lt_of_le_of_lt (Nat.add_le_add_right (Nat.le_trans q1 (Nat.add_le_add_left q2 _)) _) ?_
          clear q1 q2
          show 1 + (1 + (rs.length + 1)) + 2 * (cL x.body + (cL x.els + (cL (p.l.drop (p.at_ + 1)) + cP rs))) < _
          generalize cP rs = C at hs ⊢
          generalize cL x.body = B at hs ⊢
          generalize cL x.els = E at hs ⊢
          generalize cL (p.l.drop (p.at_ + 1)) = R at hs ⊢
          omega
      · rw [if_neg hst, if_neg hst]
theorem eachL_one {σ : Type} (step : σ → I → Int → σ × Bool) (l : List I) (s : σ) (h : cL l ≤ 1000000000) : eachL step (3 * cL l + 2) [⟨l, 0, 0⟩] s = some (foldE step (seqL 0 l) s).1 := by
  rw [eachL_seq step (3 * cL l + 2) [⟨l, 0, 0⟩] s (by simp only [mP, List.drop_zero]; omega) (by intro q hq; rcases List.mem_singleton.1 hq with rfl; exact Nat.zero_le _) (by simp only [cP, List.drop_zero, List.length_singleton]; omega)]
  rw [seqP, seqP, List.drop_zero, List.append_nil]
end Go.Proofs.YtobldeamemmokaaDoor.P

/-! Plain: how deep they are; whether a data segment is named. -/
namespace Go.Proofs.YtobldeamemmokaaDoor.P
open Go.RowKit Go.Proofs.YtobldeamemmokaaDoorW.PrintWords
set_option linter.unusedVariables false
set_option linter.unusedSimpArgs false
mutual
def datX : I → Bool
  | ⟨o, _, _, _, _, _, _, _, _, _, b, e⟩ => o == 64520 || (o == 64521 || (datL b || datL e))
def datL : List I → Bool
  | [] => false
  | x :: l => datX x || datL l
end
theorem datX_eq (x : I) : datX x = (x.op == 64520 || (x.op == 64521 || (datL x.body || datL x.els))) := by cases x; rw [datX]
mutual
theorem foldI_dat : ∀ (h : Int) (x : I), foldE sDatas (seqI h x) false = (datX x, !datX x)
  | h, ⟨o, a, b, n, v, l, t, bk, bv, bt, bd, e⟩ => by
    have hb := foldL_dat (inn h o) bd
    have he := foldL_dat (inn h o) e
    rw [seqI, datX, foldE, foldE_append]
    simp only [sDatas, Bool.false_or]
    cases o == 64520 <;> cases o == 64521 <;> cases hbd : datL bd <;> cases hed : datL e <;> rw [hbd] at hb <;> rw [hed] at he <;> simp [hb, he]
theorem foldL_dat : ∀ (h : Int) (l : List I), foldE sDatas (seqL h l) false = (datL l, !datL l)
  | h, [] => rfl
  | h, x :: l => by
    have hx := foldI_dat h x
    have hl := foldL_dat h l
    rw [seqL, datL, foldE_append]
    cases hxd : datX x <;> cases hld : datL l <;> rw [hxd] at hx <;> rw [hld] at hl <;> simp [hx, hl]
end
theorem datI_eq (f : List I → Option Bool) (k : Nat) (hf : ∀ l, cL l < k → f l = some (datL l)) : ∀ (l : List I), cL l ≤ k → datI f l = some (datL l)
  | [], _ => by rw [datI, datL]
  | x :: l, h => by
    rw [cL, cI_eq] at h
    have ih := datI_eq f k hf l
    have f1 := hf x.body
    have f2 := hf x.els
    rw [datI, datL, datX_eq]
    generalize cL x.body = B at *
    generalize cL x.els = E at *
    generalize cL l = R at *
    rw [f1 (by omega), f2 (by omega), ih (by omega)]
    simp only [Option.bind_some]
    cases x.op == 64520 <;> cases x.op == 64521 <;> cases datL x.body <;> cases datL x.els <;> rfl
theorem datR_eq : ∀ (k : Nat) (l : List I), cL l < k → datR k l = some (datL l)
  | 0, l, h => absurd h (Nat.not_lt_zero _)
  | k + 1, l, h => datI_eq (datR k) k (fun m => datR_eq k m) l (Nat.le_of_lt_succ h)
/- How deep: a list that stands h deep reaches down to .. (0, if there is no block in it). -/
mutual
def pI : Nat → I → Nat
  | h, ⟨o, _, _, _, _, _, _, _, _, _, b, e⟩ => if isBlk o = true then max (h + 1) (max (pL (h + 1) b) (pL (h + 1) e)) else max (pL h b) (pL h e)
def pL : Nat → List I → Nat
  | _, [] => 0
  | h, x :: l => max (pI h x) (pL h l)
end
theorem pI_eq (h : Nat) (x : I) : pI h x = if isBlk x.op = true then max (h + 1) (max (pL (h + 1) x.body) (pL (h + 1) x.els)) else max (pL h x.body) (pL h x.els) := by cases x; rw [pI]
mutual
theorem pI_add : ∀ (h : Nat) (x : I), pI h x = if pI 0 x = 0 then 0 else h + pI 0 x
  | h, ⟨o, _, _, _, _, _, _, _, _, _, b, e⟩ => by
    rw [pI, pI]
    have b1 := pL_add (h + 1) b
    have e1 := pL_add (h + 1) e
    have b2 := pL_add h b
    have e2 := pL_add h e
    have b3 := pL_add (0 + 1) b
    have e3 := pL_add (0 + 1) e
    generalize pL (h + 1) b = b4 at *
    generalize pL (h + 1) e = e4 at *
    generalize pL h b = b5 at *
    generalize pL h e = e5 at *
    generalize pL (0 + 1) b = b6 at *
    generalize pL (0 + 1) e = e6 at *
    generalize pL 0 b = b0 at *
    generalize pL 0 e = e0 at *
    split at b1 <;> split at e1 <;> split at b2 <;> split at e2 <;> split at b3 <;> split at e3 <;> split <;> split <;> omega
theorem pL_add : ∀ (h : Nat) (l : List I), pL h l = if pL 0 l = 0 then 0 else h + pL 0 l
  | h, [] => by simp [pL]
  | h, x :: l => by
    rw [pL, pL]
    have a1 := pI_add h x
    have a2 := pL_add h l
    generalize pI h x = a3 at *
    generalize pL h l = a4 at *
    generalize pI 0 x = a5 at *
    generalize pL 0 l = a6 at *
    split at a1 <;> split at a2 <;> split <;> omega
end
/-- What a walk over a part comes to: d before, m in it. -/
def DepOut (p : Int × Bool) (d m : Nat) : Prop := (p = (((max d m : Nat) : Int), true) ∧ max d m ≤ 1000) ∨ (∃ r : Nat, p = ((r : Int), false) ∧ 1000 < r ∧ 1000 < max d m)
theorem DepOut.append {xs ys : List (I × Int)} {d m n : Nat} (h1 : DepOut (foldE sDepth xs (d : Int)) d m) (h2 : max d m ≤ 1000 → DepOut (foldE sDepth ys ((max d m : Nat) : Int)) (max d m) n) : DepOut (foldE sDepth (xs ++ ys) (d : Int)) d (max m n) := by
  rw [foldE_append]
  rcases h1 with ⟨e, hd⟩ | ⟨r, e, hr, hd⟩
  · rw [e, if_pos rfl]
    have h3 := h2 hd
    rcases h3 with ⟨e2, hd2⟩ | ⟨r, e2, hr, hd2⟩
    · exact .inl ⟨by rw [e2, Nat.max_assoc], by rw [← Nat.max_assoc]; exact hd2⟩
    · exact .inr ⟨r, e2, hr, by rw [← Nat.max_assoc]; exact hd2⟩
  · rw [e, if_neg (by simp)]
    exact .inr ⟨r, rfl, hr, by omega⟩
theorem inn_nat (h : Nat) (o : Int) (hb : h < 1000000000) : inn (h : Int) o = ((if isBlk o = true then h + 1 else h : Nat) : Int) := by
  unfold inn
  split
  · unfold wrap64
    omega
  · rfl
mutual
theorem foldI_dep : ∀ (h : Nat) (x : I) (d : Nat), d ≤ 1000 → h + cI x ≤ 1000000000 → DepOut (foldE sDepth (seqI (h : Int) x) (d : Int)) d (pI h x)
  | h, ⟨o, a, b, n, v, l, t, bk, bv, bt, bd, e⟩, d, hd, hb => by
    rw [cI] at hb
    rw [seqI, pI, inn_nat h o (by omega), foldE]
    have hc : h + 1 + cL bd ≤ 1000000000 ∧ h + 1 + cL e ≤ 1000000000 := by
      generalize cL bd = B at hb ⊢
      generalize cL e = E at hb ⊢
      omega
    cases hbk : isBlk o
    · have e1 : sDepth (d : Int) ⟨o, a, b, n, v, l, t, bk, bv, bt, bd, e⟩ (h : Int) = ((d : Int), true) := by
        simp only [sDepth, hbk, Bool.false_eq_true, if_false]
        rw [show decide ((d : Int) ≤ 1000) = true from decide_eq_true (by omega)]
      rw [e1, if_pos rfl]
      simp only [Bool.false_eq_true, if_false]
      exact DepOut.append (foldL_dep h bd d hd (by generalize cL bd = B at hc ⊢; omega)) (fun h9 => foldL_dep h e _ h9 (by generalize cL e = E at hc ⊢; omega))
    · have e1 : sDepth (d : Int) ⟨o, a, b, n, v, l, t, bk, bv, bt, bd, e⟩ (h : Int) = (((max d (h + 1) : Nat) : Int), decide (max d (h + 1) ≤ 1000)) := by
        simp only [sDepth, hbk, if_true]
        have e2 : wrap64 ((h : Int) + 1) = ((h + 1 : Nat) : Int) := by unfold wrap64; omega
        rw [e2]
        have e3 : max (d : Int) ((h + 1 : Nat) : Int) = ((max d (h + 1) : Nat) : Int) := by omega
        rw [e3]
        have e4 : decide (((max d (h + 1) : Nat) : Int) ≤ 1000) = decide (max d (h + 1) ≤ 1000) := decide_eq_decide.2 (by omega)
        rw [e4]
      rw [e1]
      simp only [if_true]
      by_cases h3 : max d (h + 1) ≤ 1000
      · rw [decide_eq_true h3, if_pos rfl]
        have h4 := DepOut.append (foldL_dep (h + 1) bd (max d (h + 1)) h3 hc.1) (fun h9 => foldL_dep (h + 1) e _ h9 hc.2)
        rcases h4 with ⟨e2, hd2⟩ | ⟨r, e2, hr, hd2⟩
        · exact .inl ⟨by rw [e2, Nat.max_assoc], by rw [← Nat.max_assoc]; exact hd2⟩
        · exact .inr ⟨r, e2, hr, by rw [← Nat.max_assoc]; exact hd2⟩
      · rw [decide_eq_false h3, if_neg (by simp)]
        exact .inr ⟨_, rfl, by omega, by omega⟩
theorem foldL_dep : ∀ (h : Nat) (l : List I) (d : Nat), d ≤ 1000 → h + cL l ≤ 1000000000 → DepOut (foldE sDepth (seqL (h : Int) l) (d : Int)) d (pL h l)
  | h, [], d, hd, _ => .inl ⟨by show ((d : Int), true) = _; rw [pL, Nat.max_zero], by rw [pL, Nat.max_zero]; exact hd⟩
  | h, x :: l, d, hd, hb => by
    rw [cL] at hb
    rw [seqL, pL]
    exact DepOut.append (foldI_dep h x d hd (by omega)) (fun h9 => foldL_dep h l _ h9 (by omega))
end
theorem dep_eq (l : List I) (hb : cL l ≤ 1000000000) : min (foldE sDepth (seqL 0 l) 0).1 1001 = ((min (pL 0 l) 1001 : Nat) : Int) := by
  have h := foldL_dep 0 l 0 (by omega) (by omega)
  rcases h with ⟨e, hd⟩ | ⟨r, e, hr, hd⟩
  · have e' : foldE sDepth (seqL 0 l) 0 = (((max 0 (pL 0 l) : Nat) : Int), true) := e
    rw [e']
    show min ((max 0 (pL 0 l) : Nat) : Int) 1001 = _
    omega
  · have e' : foldE sDepth (seqL 0 l) 0 = ((r : Int), false) := e
    rw [e']
    show min (r : Int) 1001 = _
    omega
theorem mx_nat (a b : Nat) : mx (a : Int) (b : Int) = ((max a b : Nat) : Int) := by
  unfold mx
  split <;> omega
theorem depI_eq (f : List I → Option Int) (k : Nat) (hf : ∀ l, cL l < k → f l = some ((min (pL 0 l) 1001 : Nat) : Int)) : ∀ (l : List I) (d m : Nat), cL l ≤ k → min d 1001 = min m 1001 → d ≤ 1002 → ∃ r : Nat, depI f l (d : Int) = some (r : Int) ∧ min r 1001 = min (max m (pL 0 l)) 1001
  | [], d, m, _, hm, _ => ⟨d, by rw [depI], by rw [pL, Nat.max_zero]; exact hm⟩
  | x :: l, d, m, h, hm, hd => by
    rw [cL, cI_eq] at h
    have f1 := hf x.body
    have f2 := hf x.els
    have g1 := pL_add (0 + 1) x.body
    have g2 := pL_add (0 + 1) x.els
    rw [depI, pL, pI_eq]
    rw [f1 (by generalize cL x.body = B at *; generalize cL x.els = E at *; generalize cL l = R at *; omega), f2 (by generalize cL x.body = B at *; generalize cL x.els = E at *; generalize cL l = R at *; omega)]
    simp only [Option.bind_some]
    rw [mx_nat]
    have hl : cL l ≤ k := by generalize cL x.body = B at *; generalize cL x.els = E at *; generalize cL l = R at *; omega
    generalize pL (0 + 1) x.body = b1 at *
    generalize pL (0 + 1) x.els = b2 at *
    generalize pL 0 x.body = b3 at *
    generalize pL 0 x.els = b4 at *
    cases hbk : isBlk x.op
    · simp only [Bool.false_eq_true, if_false]
      rw [mx_nat]
      obtain ⟨r, h1, h2⟩ := depI_eq f k hf l (max d (max (min b3 1001) (min b4 1001))) (max m (max b3 b4)) hl (by omega) (by omega)
      exact ⟨r, h1, by rw [h2, Nat.max_assoc]⟩
    · simp only [if_true]
      have e5 : wrap64 (((max (min b3 1001) (min b4 1001) : Nat) : Int) + 1) = ((max (min b3 1001) (min b4 1001) + 1 : Nat) : Int) := by unfold wrap64; omega
      rw [e5, mx_nat]
      obtain ⟨r, h1, h2⟩ := depI_eq f k hf l (max d (max (min b3 1001) (min b4 1001) + 1)) (max m (max (0 + 1) (max b1 b2))) hl (by split at g1 <;> split at g2 <;> omega) (by omega)
      exact ⟨r, h1, by rw [h2, Nat.max_assoc]⟩
theorem depR_eq : ∀ (k : Nat) (l : List I), cL l < k → depR k l = some ((min (pL 0 l) 1001 : Nat) : Int)
  | 0, l, h => absurd h (Nat.not_lt_zero _)
  | k + 1, l, h => by
    obtain ⟨r, h1, h2⟩ := depI_eq (depR k) k (fun m => depR_eq k m) l 0 0 (Nat.le_of_lt_succ h) rfl (by omega)
    have h1' : depI (depR k) l 0 = some (r : Int) := h1
    rw [depR, h1', Option.bind_some]
    congr 1
    split <;> omega
end Go.Proofs.YtobldeamemmokaaDoor.P

/-! Plain: whether two lists are the same. -/
namespace Go.Proofs.YtobldeamemmokaaDoor.P
open Go.RowKit Go.Proofs.YtobldeamemmokaaDoorW.PrintWords
set_option linter.unusedVariables false
set_option linter.unusedSimpArgs false
def samI (f : List I → List I → Option Bool) : List I → List I → Option Bool
  | [], _ => some true
  | x :: a, [] => some false
  | x :: a, y :: b => if flatB x y = true then (f x.body y.body).bind fun p => if p = true then (f x.els y.els).bind fun q => if q = true then samI f a b else some false else some false else some false
def samR : Nat → List I → List I → Option Bool
  | 0, _, _ => none
  | k + 1, a, b => if a.length = b.length then samI (samR k) a b else some false
mutual
def sameX : I → I → Bool
  | ⟨o, a, b, n, v, l, t, bk, bv, bt, bd, e⟩, y => flatB ⟨o, a, b, n, v, l, t, bk, bv, bt, bd, e⟩ y && (sameB bd y.body && sameB e y.els)
def sameB : List I → List I → Bool
  | [], [] => true
  | [], _ :: _ => false
  | _ :: _, [] => false
  | x :: a, y :: b => sameX x y && sameB a b
end
theorem sameX_eq (x y : I) : sameX x y = (flatB x y && (sameB x.body y.body && sameB x.els y.els)) := by cases x; rw [sameX]
theorem sameB_len : ∀ (a b : List I), sameB a b = true → a.length = b.length
  | [], [], _ => rfl
  | [], _ :: _, h => by simp [sameB] at h
  | _ :: _, [], h => by simp [sameB] at h
  | x :: a, y :: b, h => by
    rw [sameB, Bool.and_eq_true] at h
    rw [List.length_cons, List.length_cons, sameB_len a b h.2]
theorem sameB_ne {a b : List I} (h : a.length ≠ b.length) : sameB a b = false := by
  cases e : sameB a b
  · rfl
  · exact absurd (sameB_len a b e) h
theorem samI_eq (f : List I → List I → Option Bool) (k : Nat) (hf : ∀ l m, cL l < k → f l m = some (sameB l m)) : ∀ (a b : List I), a.length = b.length → cL a ≤ k → samI f a b = some (sameB a b)
  | [], [], _, _ => by rw [samI, sameB]
  | [], y :: b, hl, _ => by simp at hl
  | x :: a, [], hl, _ => by simp at hl
  | x :: a, y :: b, hl, h => by
    rw [cL, cI_eq] at h
    have ih := samI_eq f k hf a b (by simpa using hl)
    have f1 := hf x.body y.body
    have f2 := hf x.els y.els
    rw [samI, sameB, sameX_eq]
    generalize cL x.body = B at *
    generalize cL x.els = E at *
    generalize cL a = R at *
    rw [f1 (by omega), f2 (by omega), ih (by omega)]
    simp only [Option.bind_some]
    cases flatB x y <;> cases sameB x.body y.body <;> cases sameB x.els y.els <;> rfl
theorem samR_eq : ∀ (k : Nat) (a b : List I), cL a < k → samR k a b = some (sameB a b)
  | 0, l, _, h => absurd h (Nat.not_lt_zero _)
  | k + 1, a, b, h => by
    rw [samR]
    by_cases e : a.length = b.length
    · rw [if_pos e]
      exact samI_eq (samR k) k (fun l m => samR_eq k l m) a b e (Nat.le_of_lt_succ h)
    · rw [if_neg e, sameB_ne e]
def mS : List Pr → Nat
  | [] => 0
  | p :: rs => 2 * cL p.a + 1 + mS rs
def allS : List Pr → Bool
  | [] => true
  | p :: rs => sameB p.a p.b && allS rs
theorem pushL_none : ∀ (a b : List I) (st : List Pr), a.length = b.length → pushL a b st = none → sameB a b = false
  | [], [], _, _, h => by rw [pushL] at h; cases h
  | [], y :: b, _, hl, _ => by simp at hl
  | x :: a, [], _, hl, _ => by simp at hl
  | x :: a, y :: b, st, hl, h => by
    rw [pushL] at h
    rw [sameB, sameX_eq]
    cases hf : flatB x y
    · rfl
    · rw [if_pos hf] at h
      rw [pushL_none a b _ (by simpa using hl) h, Bool.and_false]
theorem pushL_some : ∀ (a b : List I) (st s2 : List Pr), a.length = b.length → pushL a b st = some s2 → allS s2 = (sameB a b && allS st) ∧ mS s2 = 2 * cL a + mS st ∧ s2.length = st.length + 2 * a.length
  | [], [], st, s2, _, h => by
    rw [pushL] at h
    obtain rfl := Option.some.inj h
    simp [sameB, cL]
  | [], y :: b, _, _, hl, _ => by simp at hl
  | x :: a, [], _, _, hl, _ => by simp at hl
  | x :: a, y :: b, st, s2, hl, h => by
    rw [pushL] at h
    cases hf : flatB x y
    · rw [if_neg (by rw [hf]; simp)] at h
      cases h
    · rw [if_pos hf] at h
      obtain ⟨h1, h2, h3⟩ := pushL_some a b _ s2 (by simpa using hl) h
      refine ⟨?_, ?_, ?_⟩
      · rw [h1, sameB, sameX_eq, hf, allS, allS]
        cases sameB x.body y.body <;> cases sameB x.els y.els <;> cases sameB a b <;> cases allS st <;> rfl
      · rw [h2, cL, cI_eq, mS, mS]
        show 2 * cL a + (2 * cL x.els + 1 + (2 * cL x.body + 1 + mS st)) = _
        generalize cL x.body = B
        generalize cL x.els = E
        generalize cL a = R
        generalize mS st = M
        omega
      · rw [h3, List.length_cons, List.length_cons, List.length_cons]
        omega
theorem cL_len : ∀ (l : List I), l.length ≤ cL l
  | [] => Nat.zero_le _
  | x :: l => by
    have := cL_len l
    rw [cL, cI_eq, List.length_cons]
    generalize cL x.body = B
    generalize cL x.els = E
    omega
theorem mS_len : ∀ (st : List Pr), st.length ≤ mS st
  | [] => Nat.le_refl _
  | p :: rs => by
    have := mS_len rs
    rw [mS, List.length_cons]
    generalize cL p.a = B
    omega
theorem sameL_eq : ∀ (k : Nat) (st : List Pr), mS st < k → mS st < 1000000000000 → sameL k st = some (allS st)
  | 0, st, h, _ => absurd h (Nat.not_lt_zero _)
  | k + 1, [], _, _ => by rw [sameL, allS]
  | k + 1, p :: rs, h, h2 => by
    rw [mS] at h h2
    rw [sameL, allS]
    by_cases e : p.a.length = p.b.length
    · have hlen := cL_len p.a
      have hml := mS_len rs
      rw [if_pos e, if_pos (by generalize cL p.a = B at *; generalize mS rs = M at *; omega)]
      cases hp : pushL p.a p.b rs with
      | none => simp only; rw [pushL_none p.a p.b rs e hp, Bool.false_and]
      | some s2 =>
        obtain ⟨h3, h4, h5⟩ := pushL_some p.a p.b rs s2 e hp
        simp only
        rw [sameL_eq k s2 (by rw [h4]; generalize cL p.a = B at *; generalize mS rs = M at *; omega) (by rw [h4]; generalize cL p.a = B at *; generalize mS rs = M at *; omega), h3]
    · rw [if_neg e, sameB_ne e, Bool.false_and]
theorem sameL_one (a b : List I) (h : cL a ≤ 1000000000) : sameL (2 * cL a + 2) [⟨a, b⟩] = some (sameB a b) := by
  rw [sameL_eq _ _ (by rw [mS, mS]; generalize cL a = B at *; omega) (by rw [mS, mS]; generalize cL a = B at *; omega), allS, allS, Bool.and_true]
theorem flatB_self (x : I) : flatB x x = true := by
  simp [flatB]
mutual
theorem sameX_self : ∀ (x : I), sameX x x = true
  | ⟨o, a, b, n, v, l, t, bk, bv, bt, bd, e⟩ => by
    rw [sameX, flatB_self]
    show (true && (sameB bd bd && sameB e e)) = true
    rw [sameB_self bd, sameB_self e]
    rfl
theorem sameB_self : ∀ (l : List I), sameB l l = true
  | [] => by rw [sameB]
  | x :: l => by rw [sameB, sameX_self x, sameB_self l]; rfl
end
end Go.Proofs.YtobldeamemmokaaDoor.P

