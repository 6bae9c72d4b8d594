import Derived.Test.YtobldeamemmokaaDoorKR
import Derived.Test.YtobldeamemmokaaDoorKG
/-! Plain: how many there are. -/
namespace Go.Proofs.YtobldeamemmokaaDoor.P
open Go.RowKit Go.Proofs.YtobldeamemmokaaDoorW.PrintWords
set_option linter.unusedVariables false
set_option linter.unusedSimpArgs false
mutual
def cI : I → Nat
  | ⟨_, _, _, _, _, _, _, _, _, _, b, e⟩ => 1 + cL b + cL e
def cL : List I → Nat
  | [] => 0
  | x :: l => cI x + cL l
end
theorem cI_eq (x : I) : cI x = 1 + cL x.body + cL x.els := by cases x; rw [cI]
def mP : List P_ → Nat
  | [] => 0
  | p :: rs => 3 * cL (p.l.drop p.at_) + 1 + mP rs
def cP : List P_ → Nat
  | [] => 0
  | p :: rs => cL (p.l.drop p.at_) + cP rs
theorem eachL_count : ∀ (k : Nat) (ps : List P_) (n : Nat), mP ps < k → (∀ p ∈ ps, p.at_ ≤ p.l.length) → n + cP ps ≤ 1000000000 → ps.length + 2 * cP ps < 1000000000 → eachL sCount k ps (n : Int) = some ((n + cP ps : Nat) : Int)
  | 0, ps, n, h, _, _, _ => by omega
  | k + 1, [], n, h, _, _, _ => by simp [eachL, cP]
  | k + 1, p :: rs, n, h, hp, hb, hs => by
    have h0 := hp p (List.mem_cons_self ..)
    have hrs : ∀ q ∈ rs, q.at_ ≤ q.l.length := fun q hq => hp q (List.mem_cons_of_mem _ hq)
    rw [eachL]
    simp only [mP, cP, List.length_cons] at h hb hs ⊢
    by_cases e : p.at_ = p.l.length
    · rw [if_pos e]
      have e2 : p.l.drop p.at_ = [] := List.drop_eq_nil_of_le (by omega)
      rw [e2, cL] at h hb hs ⊢
      rw [eachL_count k rs n (by omega) hrs (by omega) (by omega), Nat.zero_add]
    · have hlt : p.at_ < p.l.length := by omega
      rw [if_neg e, if_pos hlt]
      rw [drop_getD hlt, cL, cI_eq] at h hb hs ⊢
      obtain ⟨x, hx⟩ : ∃ x, p.l.getD p.at_ zI = x := ⟨_, rfl⟩
      rw [hx] at h hb hs ⊢
      rw [if_pos (show (sCount (n : Int) x p.high).2 = true from rfl), if_pos (by generalize cP rs = C at hs; generalize cL x.body = B at hs; generalize cL x.els = E at hs; generalize cL (p.l.drop (p.at_ + 1)) = R at hs; omega)]
      have en : (sCount (n : Int) x p.high).1 = ((n + 1 : Nat) : Int) := by
        show wrap64 ((n : Int) + 1) = _
        unfold wrap64
        have hn : n ≤ 1000000000 := Nat.le_trans (Nat.le_add_right _ _) hb
        clear h hb hs
        omega
      rw [en]
      generalize (if isBlk x.op = true then wrap64 (p.high + 1) else p.high) = hh
      have e1 : ∀ (l : List I), (if 0 < l.length then [(⟨l, 0, hh⟩ : P_)] else []) = [] ∧ cL l = 0 ∨ (if 0 < l.length then [(⟨l, 0, hh⟩ : P_)] else []) = [⟨l, 0, hh⟩] := by
        intro l
        cases l with
        | nil => exact .inl ⟨rfl, rfl⟩
        | cons a l => exact .inr (if_pos (by simp))
      have hq : ∀ q ∈ (⟨p.l, p.at_ + 1, p.high⟩ : P_) :: rs, q.at_ ≤ q.l.length := by
        intro q hq
        rcases List.mem_cons.1 hq with rfl | hq
        · exact hlt
        · exact hrs q hq
      have f1 := e1 x.body
      have f2 := e1 x.els
      clear e1
      obtain ⟨B, hB⟩ : ∃ B, cL x.body = B := ⟨_, rfl⟩
      obtain ⟨E, hE⟩ : ∃ E, cL x.els = E := ⟨_, rfl⟩
      obtain ⟨R, hR⟩ : ∃ R, cL (p.l.drop (p.at_ + 1)) = R := ⟨_, rfl⟩
      obtain ⟨M, hM⟩ : ∃ M, mP rs = M := ⟨_, rfl⟩
      obtain ⟨C, hC⟩ : ∃ C, cP rs = C := ⟨_, rfl⟩
      rw [hB] at f1
      rw [hE] at f2
      rw [hB, hE, hR, hM] at h
      rw [hB, hE, hR, hC] at hb hs ⊢
      obtain ⟨L, hL⟩ : ∃ L, rs.length = L := ⟨_, rfl⟩
      rw [hL] at hs
      clear hx e h0 hrs hp en
      rcases f1 with ⟨b1, b2⟩ | b1 <;> rcases f2 with ⟨c1, c2⟩ | c1 <;> rw [b1, c1] <;>
        (rw [eachL_count k _ (n + 1)]
         · simp only [List.nil_append, List.cons_append, cP, List.drop_zero, hB, hE, hR, hC]
           congr 2
           omega
         · simp only [List.nil_append, List.cons_append, mP, List.drop_zero, hB, hE, hR, hM]
           omega
         · intro q hqq
           simp only [List.nil_append, List.cons_append, List.mem_cons] at hqq
           first
             | (rcases hqq with rfl | rfl | hqq
                · exact Nat.zero_le _
                · exact Nat.zero_le _
                · exact hq q (by simpa using hqq))
             | (rcases hqq with rfl | hqq
                · exact Nat.zero_le _
                · exact hq q (by simpa using hqq))
             | exact hq q (by simpa using hqq)
         · simp only [List.nil_append, List.cons_append, cP, List.drop_zero, hB, hE, hR, hC]
           omega
         · simp only [List.nil_append, List.cons_append, cP, List.drop_zero, List.length_cons, hB, hE, hR, hC, hL]
           omega)
end Go.Proofs.YtobldeamemmokaaDoor.P

/-! Plain: what each goes over, as a list. -/
namespace Go.Proofs.YtobldeamemmokaaDoor.P
open Go.RowKit Go.Proofs.YtobldeamemmokaaDoorW.PrintWords
set_option linter.unusedVariables false
set_option linter.unusedSimpArgs false
def inn (h : Int) (o : Int) : Int := if isBlk o = true then wrap64 (h + 1) else h
mutual
def seqI : Int → I → List (I × Int)
  | h, ⟨o, a, b, n, v, l, t, bk, bv, bt, bd, e⟩ => (⟨o, a, b, n, v, l, t, bk, bv, bt, bd, e⟩, h) :: (seqL (inn h o) bd ++ seqL (inn h o) e)
def seqL : Int → List I → List (I × Int)
  | _, [] => []
  | h, x :: l => seqI h x ++ seqL h l
end
theorem seqI_eq (h : Int) (x : I) : seqI h x = (x, h) :: (seqL (inn h x.op) x.body ++ seqL (inn h x.op) x.els) := by cases x; rw [seqI]
/-- Over a list, left when told so. -/
def foldE {σ : Type} (step : σ → I → Int → σ × Bool) : List (I × Int) → σ → σ × Bool
  | [], s => (s, true)
  | q :: qs, s => if (step s q.1 q.2).2 = true then foldE step qs (step s q.1 q.2).1 else ((step s q.1 q.2).1, false)
theorem foldE_append {σ : Type} (step : σ → I → Int → σ × Bool) : ∀ (xs ys : List (I × Int)) (s : σ), foldE step (xs ++ ys) s = if (foldE step xs s).2 = true then foldE step ys (foldE step xs s).1 else foldE step xs s
  | [], ys, s => by simp [foldE]
  | q :: xs, ys, s => by
    rw [List.cons_append, foldE, foldE]
    by_cases h : (step s q.1 q.2).2 = true
    · rw [if_pos h, if_pos h, foldE_append step xs ys]
    · rw [if_neg h, if_neg h, if_neg (by simp)]
def seqP : List P_ → List (I × Int)
  | [] => []
  | p :: rs => seqL p.high (p.l.drop p.at_) ++ seqP rs
theorem seqP_if (b : List I) (h : Int) (rs : List P_) : seqP ((if 0 < b.length then [(⟨b, 0, h⟩ : P_)] else []) ++ rs) = seqL h b ++ seqP rs := by
  cases b with
  | nil => simp [seqL]
  | cons x b => rw [if_pos (by simp)]; rfl
theorem mP_if (b : List I) (h : Int) (rs : List P_) : mP ((if 0 < b.length then [(⟨b, 0, h⟩ : P_)] else []) ++ rs) ≤ 3 * cL b + 1 + mP rs := by
  cases b with
  | nil => simp [mP, cL]
  | cons x b => rw [if_pos (by simp)]; exact Nat.le_refl _
theorem cP_if (b : List I) (h : Int) (rs : List P_) : cP ((if 0 < b.length then [(⟨b, 0, h⟩ : P_)] else []) ++ rs) = cL b + cP rs := by
  cases b with
  | nil => simp [cL]
  | cons x b => rw [if_pos (by simp)]; rfl
theorem len_if (b : List I) (h : Int) (rs : List P_) : ((if 0 < b.length then [(⟨b, 0, h⟩ : P_)] else []) ++ rs).length ≤ 1 + rs.length := by
  by_cases hb : 0 < b.length
  · rw [if_pos hb]; simp; omega
  · rw [if_neg hb]; simp
theorem eachL_seq {σ : Type} (step : σ → I → Int → σ × Bool) : ∀ (k : Nat) (ps : List P_) (s : σ), mP ps < k → (∀ p ∈ ps, p.at_ ≤ p.l.length) → ps.length + 2 * cP ps < 1000000000000 → eachL step k ps s = some (foldE step (seqP ps) s).1
  | 0, ps, s, h, _, _ => absurd h (Nat.not_lt_zero _)
  | k + 1, [], s, h, _, _ => by simp [eachL, seqP, foldE]
  | k + 1, p :: rs, s, h, hp, hs => by
    have h0 := hp p (List.mem_cons_self ..)
    have hrs : ∀ q ∈ rs, q.at_ ≤ q.l.length := fun q hq => hp q (List.mem_cons_of_mem _ hq)
    rw [eachL]
    simp only [mP, cP, List.length_cons] at h hs
    rw [seqP]
    by_cases e : p.at_ = p.l.length
    · rw [if_pos e]
      have e2 : p.l.drop p.at_ = [] := List.drop_eq_nil_of_le (by omega)
      rw [e2, cL] at h hs
      rw [e2, seqL, List.nil_append]
      exact eachL_seq step k rs s (by generalize mP rs = M at h ⊢; omega) hrs (by generalize cP rs = C at hs ⊢; omega)
    · have hlt : p.at_ < p.l.length := by omega
      rw [if_neg e, if_pos hlt]
      rw [drop_getD hlt, cL, cI_eq] at h hs
      rw [drop_getD hlt, seqL, seqI_eq]
      obtain ⟨x, hx⟩ : ∃ x, p.l.getD p.at_ zI = x := ⟨_, rfl⟩
      rw [hx] at h hs ⊢
      rw [List.cons_append, List.cons_append, foldE]
      by_cases hst : (step s x p.high).2 = true
      · rw [if_pos hst, if_pos hst, if_pos (by generalize cP rs = C at hs; generalize cL x.body = B at hs; generalize cL x.els = E at hs; generalize cL (p.l.drop (p.at_ + 1)) = R at hs; omega)]
        have e5 := eachL_seq step k ((if 0 < x.body.length then [⟨x.body, 0, (if isBlk x.op = true then wrap64 (p.high + 1) else p.high)⟩] else []) ++
          ((if 0 < x.els.length then [⟨x.els, 0, (if isBlk x.op = true then wrap64 (p.high + 1) else p.high)⟩] else []) ++ ⟨p.l, p.at_ + 1, p.high⟩ :: rs)) (step s x p.high).1 ?_ ?_ ?_
        · rw [e5, seqP_if, seqP_if, seqP]
          simp only [inn, List.append_assoc]
        · have q1 := mP_if x.body (if isBlk x.op = true then wrap64 (p.high + 1) else p.high) ((if 0 < x.els.length then [⟨x.els, 0, (if isBlk x.op = true then wrap64 (p.high + 1) else p.high)⟩] else []) ++ ⟨p.l, p.at_ + 1, p.high⟩ :: rs)
          have q2 := mP_if x.els (if isBlk x.op = true then wrap64 (p.high + 1) else p.high) (⟨p.l, p.at_ + 1, p.high⟩ :: rs)
          simp only [mP] at q2
          refine Nat.lt_of_le_of_lt q1 (Nat.lt_of_le_of_lt (Nat.add_le_add_left q2 _) ?_)
          clear q1 q2
          generalize mP rs = M at h ⊢
          generalize cL x.body = B at h ⊢
          generalize cL x.els = E at h ⊢
          generalize cL (p.l.drop (p.at_ + 1)) = R at h ⊢
          omega
        · intro q hq
          rcases List.mem_append.1 hq with hq | hq
          · split at hq
            · rcases List.mem_singleton.1 hq with rfl
              exact Nat.zero_le _
            · cases hq
          · rcases List.mem_append.1 hq with hq | hq
            · split at hq
              · rcases List.mem_singleton.1 hq with rfl
                exact Nat.zero_le _
              · cases hq
            · rcases List.mem_cons.1 hq with rfl | hq
              · exact hlt
              · exact hrs q hq
        · rw [cP_if, cP_if, cP]
          have q1 := len_if x.body (if isBlk x.op = true then wrap64 (p.high + 1) else p.high) ((if 0 < x.els.length then [⟨x.els, 0, (if isBlk x.op = true then wrap64 (p.high + 1) else p.high)⟩] else []) ++ ⟨p.l, p.at_ + 1, p.high⟩ :: rs)
          have q2 := len_if x.els (if isBlk x.op = true then wrap64 (p.high + 1) else p.high) (⟨p.l, p.at_ + 1, p.high⟩ :: rs)
          rw [List.length_cons] at q2
          refine Nat.lt_of_le_of_lt (Nat.add_le_add_right (Nat.le_trans q1 (Nat.add_le_add_left q2 _)) _) ?_
          clear q1 q2
          show 1 + (1 + (rs.length + 1)) + 2 * (cL x.body + (cL x.els + (cL (p.l.drop (p.at_ + 1)) + cP rs))) < _
          generalize cP rs = C at hs ⊢
          generalize cL x.body = B at hs ⊢
          generalize cL x.els = E at hs ⊢
          generalize cL (p.l.drop (p.at_ + 1)) = R at hs ⊢
          omega
      · rw [if_neg hst, if_neg hst]
theorem eachL_one {σ : Type} (step : σ → I → Int → σ × Bool) (l : List I) (s : σ) (h : cL l ≤ 1000000000) : eachL step (3 * cL l + 2) [⟨l, 0, 0⟩] s = some (foldE step (seqL 0 l) s).1 := by
  rw [eachL_seq step (3 * cL l + 2) [⟨l, 0, 0⟩] s (by simp only [mP, List.drop_zero]; omega) (by intro q hq; rcases List.mem_singleton.1 hq with rfl; exact Nat.zero_le _) (by simp only [cP, List.drop_zero, List.length_singleton]; omega)]
  rw [seqP, seqP, List.drop_zero, List.append_nil]
end Go.Proofs.YtobldeamemmokaaDoor.P

/-! Plain: how deep they are; whether a data segment is named. -/
namespace Go.Proofs.YtobldeamemmokaaDoor.P
open Go.RowKit Go.Proofs.YtobldeamemmokaaDoorW.PrintWords
set_option linter.unusedVariables false
set_option linter.unusedSimpArgs false
/- How deep: a list that stands h deep reaches down to .. (0, if there is no block in it). -/
mutual
def pI : Nat → I → Nat
  | h, ⟨o, _, _, _, _, _, _, _, _, _, b, e⟩ => if isBlk o = true then max (h + 1) (max (pL (h + 1) b) (pL (h + 1) e)) else max (pL h b) (pL h e)
def pL : Nat → List I → Nat
  | _, [] => 0
  | h, x :: l => max (pI h x) (pL h l)
end
theorem pI_eq (h : Nat) (x : I) : pI h x = if isBlk x.op = true then max (h + 1) (max (pL (h + 1) x.body) (pL (h + 1) x.els)) else max (pL h x.body) (pL h x.els) := by cases x; rw [pI]
/-- What a walk over a part comes to: d before, m in it. -/
def DepOut (p : Int × Bool) (d m : Nat) : Prop := (p = (((max d m : Nat) : Int), true) ∧ max d m ≤ 1000) ∨ (∃ r : Nat, p = ((r : Int), false) ∧ 1000 < r ∧ 1000 < max d m)
theorem DepOut.append {xs ys : List (I × Int)} {d m n : Nat} (h1 : DepOut (foldE sDepth xs (d : Int)) d m) (h2 : max d m ≤ 1000 → DepOut (foldE sDepth ys ((max d m : Nat) : Int)) (max d m) n) : DepOut (foldE sDepth (xs ++ ys) (d : Int)) d (max m n) := by
  rw [foldE_append]
  rcases h1 with ⟨e, hd⟩ | ⟨r, e, hr, hd⟩
  · rw [e, if_pos rfl]
    have h3 := h2 hd
    rcases h3 with ⟨e2, hd2⟩ | ⟨r, e2, hr, hd2⟩
    · exact .inl ⟨by rw [e2, Nat.max_assoc], by rw [← Nat.max_assoc]; exact hd2⟩
    · exact .inr ⟨r, e2, hr, by rw [← Nat.max_assoc]; exact hd2⟩
  · rw [e, if_neg (by simp)]
    exact .inr ⟨r, rfl, hr, by omega⟩
theorem inn_nat (h : Nat) (o : Int) (hb : h < 1000000000) : inn (h : Int) o = ((if isBlk o = true then h + 1 else h : Nat) : Int) := by
  unfold inn
  split
  · unfold wrap64
    omega
  · rfl
mutual
theorem foldI_dep : ∀ (h : Nat) (x : I) (d : Nat), d ≤ 1000 → h + cI x ≤ 1000000000 → DepOut (foldE sDepth (seqI (h : Int) x) (d : Int)) d (pI h x)
  | h, ⟨o, a, b, n, v, l, t, bk, bv, bt, bd, e⟩, d, hd, hb => by
    rw [cI] at hb
    rw [seqI, pI, inn_nat h o (by omega), foldE]
    have hc : h + 1 + cL bd ≤ 1000000000 ∧ h + 1 + cL e ≤ 1000000000 := by
      generalize cL bd = B at hb ⊢
      generalize cL e = E at hb ⊢
      omega
    cases hbk : isBlk o
    · have e1 : sDepth (d : Int) ⟨o, a, b, n, v, l, t, bk, bv, bt, bd, e⟩ (h : Int) = ((d : Int), true) := by
        simp only [sDepth, hbk, Bool.false_eq_true, if_false]
        rw [show decide ((d : Int) ≤ 1000) = true from decide_eq_true (by omega)]
      rw [e1, if_pos rfl]
      simp only [Bool.false_eq_true, if_false]
      exact DepOut.append (foldL_dep h bd d hd (by generalize cL bd = B at hc ⊢; omega)) (fun h9 => foldL_dep h e _ h9 (by generalize cL e = E at hc ⊢; omega))
    · have e1 : sDepth (d : Int) ⟨o, a, b, n, v, l, t, bk, bv, bt, bd, e⟩ (h : Int) = (((max d (h + 1) : Nat) : Int), decide (max d (h + 1) ≤ 1000)) := by
        simp only [sDepth, hbk, if_true]
        have e2 : wrap64 ((h : Int) + 1) = ((h + 1 : Nat) : Int) := by unfold wrap64; omega
        rw [e2]
        have e3 : max (d : Int) ((h + 1 : Nat) : Int) = ((max d (h + 1) : Nat) : Int) := by omega
        rw [e3]
        have e4 : decide (((max d (h + 1) : Nat) : Int) ≤ 1000) = decide (max d (h + 1) ≤ 1000) := decide_eq_decide.2 (by omega)
        rw [e4]
      rw [e1]
      simp only [if_true]
      by_cases h3 : max d (h + 1) ≤ 1000
      · rw [decide_eq_true h3, if_pos rfl]
        have h4 := DepOut.append (foldL_dep (h + 1) bd (max d (h + 1)) h3 hc.1) (fun h9 => foldL_dep (h + 1) e _ h9 hc.2)
        rcases h4 with ⟨e2, hd2⟩ | ⟨r, e2, hr, hd2⟩
        · exact .inl ⟨by rw [e2, Nat.max_assoc], by rw [← Nat.max_assoc]; exact hd2⟩
        · exact .inr ⟨r, e2, hr, by rw [← Nat.max_assoc]; exact hd2⟩
      · rw [decide_eq_false h3, if_neg (by simp)]
        exact .inr ⟨_, rfl, by omega, by omega⟩
theorem foldL_dep : ∀ (h : Nat) (l : List I) (d : Nat), d ≤ 1000 → h + cL l ≤ 1000000000 → DepOut (foldE sDepth (seqL (h : Int) l) (d : Int)) d (pL h l)
  | h, [], d, hd, _ => .inl ⟨by show ((d : Int), true) = _; rw [pL, Nat.max_zero], by rw [pL, Nat.max_zero]; exact hd⟩
  | h, x :: l, d, hd, hb => by
    rw [cL] at hb
    rw [seqL, pL]
    exact DepOut.append (foldI_dep h x d hd (by omega)) (fun h9 => foldL_dep h l _ h9 (by omega))
end
theorem dep_eq (l : List I) (hb : cL l ≤ 1000000000) : min (foldE sDepth (seqL 0 l) 0).1 1001 = ((min (pL 0 l) 1001 : Nat) : Int) := by
  have h := foldL_dep 0 l 0 (by omega) (by omega)
  rcases h with ⟨e, hd⟩ | ⟨r, e, hr, hd⟩
  · have e' : foldE sDepth (seqL 0 l) 0 = (((max 0 (pL 0 l) : Nat) : Int), true) := e
    rw [e']
    show min ((max 0 (pL 0 l) : Nat) : Int) 1001 = _
    omega
  · have e' : foldE sDepth (seqL 0 l) 0 = ((r : Int), false) := e
    rw [e']
    show min (r : Int) 1001 = _
    omega
end Go.Proofs.YtobldeamemmokaaDoor.P

