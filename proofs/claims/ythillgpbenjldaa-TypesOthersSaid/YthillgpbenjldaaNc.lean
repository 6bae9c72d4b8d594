/- Which values are of their types, which limits and tables fit: the words 'Hs', and that the program's and the document's come to them. -/
import Derived.Test.YthillgpbenjldaaPx10
import Derived.Test.YthillgpbenjldaaPx13
import Derived.Test.YthillgpbenjldaaPx15
import Derived.Test.YthillgpbenjldaaNb
namespace Go.Proofs.Ythillgpbenjldaa.LebM
open Go.RowKit Go.Proofs.YthillgpbenjldaaW.PrintWords Go.Proofs.YthillgpbenjldaaW.PrintLast Go.Proofs.YthillgpbenjldaaW.PrintMore Go.Proofs.Ythillgpbenjldaa.P

def Hs (t lo hi : Int) : Bool :=
  if t = 123 then true else if t = 127 ∨ t = 125 then decide (lo ≤ 4294967295) && (hi == 0) else if t = 126 ∨ t = 124 then hi == 0 else if t = 112 ∨ t = 111 then (hi == 0) && decide (lo ≤ 4294967296) else false
theorem has_eq (k : Nat) (t : Int) {lo : Int} (hi : Int) (h0 : 0 ≤ lo) : types_Has.f (k + 2) t lo hi = some (Hs t lo hi) := by
  have e : (lo == lo % 4294967296) = decide (lo ≤ 4294967295) := by
    rw [Bool.eq_iff_iff]; simp; omega
  have hs : (if hi = 0 then some (decide (lo ≤ 4294967296)) else some false) = some ((hi == 0) && decide (lo ≤ 4294967296)) := by
    by_cases h : hi = 0 <;> simp [h]
  unfold types_Has.f Hs
  by_cases h1 : t = 123
  · simp [h1]
  · rw [if_neg h1, if_neg h1]
    by_cases h2 : t = 127
    · subst h2; simp [types_Has.j0, e]
    · rw [if_neg h2]
      by_cases h3 : t = 125
      · subst h3; simp [types_Has.j0, e]
      · have e3 : (t == 125) = false := by simpa using h3
        rw [e3, if_neg (by omega)]
        simp only [types_Has.j0]
        rw [if_neg (by decide)]
        by_cases h4 : t = 126
        · subst h4; simp [types_Has.j1]
        · rw [if_neg h4]
          by_cases h5 : t = 124
          · subst h5; simp [types_Has.j1]
          · have e5 : (t == 124) = false := by simpa using h5
            rw [e5, if_neg (by omega)]
            simp only [types_Has.j1]
            rw [if_neg (by decide), hs]
            by_cases h6 : t = 112
            · rw [if_pos h6, if_pos (.inl h6)]
            · rw [if_neg h6]
              by_cases h7 : t = 111
              · rw [if_pos h7, if_pos (.inr h7)]
              · rw [if_neg h7, if_neg (by omega)]
theorem refHas_eq (k : Nat) (t lo hi : Int) : jacquardref09_Has.f (k + 2) t lo hi = some (Hs t lo hi) := by
  have hl : (if lo ≤ 4294967295 then some (hi == 0) else some false) = some (decide (lo ≤ 4294967295) && (hi == 0)) := by
    by_cases h : lo ≤ 4294967295 <;> simp [h]
  have hs : (if lo ≤ 4294967296 then some (hi == 0) else some false) = some ((hi == 0) && decide (lo ≤ 4294967296)) := by
    by_cases h : lo ≤ 4294967296 <;> simp [h]
  unfold jacquardref09_Has.f Hs
  by_cases h2 : t = 127
  · subst h2; simp only [if_true, jacquardref09_Has.j0, hl]; simp
  · rw [if_neg h2]
    by_cases h3 : t = 125
    · subst h3; simp only [jacquardref09_Has.j0, hl]; simp
    · have e3 : (t == 125) = false := by simpa using h3
      rw [e3]
      simp only [jacquardref09_Has.j0]
      rw [if_neg (by decide)]
      by_cases h4 : t = 126
      · subst h4; simp [jacquardref09_Has.j1]
      · rw [if_neg h4]
        by_cases h5 : t = 124
        · subst h5; simp [jacquardref09_Has.j1]
        · have e5 : (t == 124) = false := by simpa using h5
          rw [e5]
          simp only [jacquardref09_Has.j1]
          rw [if_neg (by decide), hs]
          by_cases h6 : t = 112
          · subst h6; simp
          · rw [if_neg h6]
            by_cases h7 : t = 111
            · subst h7; simp
            · rw [if_neg h7]
              by_cases h1 : t = 123
              · simp [h1]
              · have e1 : (t == 123) = false := by simpa using h1
                rw [e1, if_neg h1, if_neg (by omega), if_neg (by omega), if_neg (by omega)]

def Fit (min max : Int) (b : Bool) (min' max' : Int) (b' : Bool) : Bool := decide (min ≥ min') && (!b' || (b && decide (max ≤ max')))
theorem fit_eq (a b : Int) (c : Bool) (a' b' : Int) (c' : Bool) : types_Fit.f a b c a' b' c' = some (Fit a b c a' b' c') := by
  unfold types_Fit.f Fit
  by_cases h : a < a'
  · have : decide (a ≥ a') = false := decide_eq_false (by omega)
    rw [if_pos h, this]; rfl
  · have : decide (a ≥ a') = true := decide_eq_true (by omega)
    rw [if_neg h, this]
    cases c <;> cases c' <;> simp
theorem refFit_eq (a b : Int) (c : Bool) (a' b' : Int) (c' : Bool) : jacquardref09_Fit.f a b c a' b' c' = some (Fit a b c a' b' c') := by
  unfold jacquardref09_Fit.f Fit
  by_cases h : a ≥ a'
  · rw [if_pos h, decide_eq_true h]
    cases c <;> cases c' <;> simp
  · rw [if_neg h, decide_eq_false h]; rfl
def FitT (e a b : Int) (c : Bool) (e' a' b' : Int) (c' : Bool) : Bool := decide (e = e') && Fit a b c a' b' c'
theorem fitTable_eq (e a b : Int) (c : Bool) (e' a' b' : Int) (c' : Bool) : types_FitTable.f e a b c e' a' b' c' = some (FitT e a b c e' a' b' c') := by
  unfold types_FitTable.f FitT
  by_cases h : e = e' <;> simp [h, fit_eq]
theorem refFitTable_eq (e a b : Int) (c : Bool) (e' a' b' : Int) (c' : Bool) : jacquardref09_FitTable.f e a b c e' a' b' c' = some (FitT e a b c e' a' b' c') := by
  unfold jacquardref09_FitTable.f FitT
  by_cases h : e = e' <;> simp [h, refFit_eq]
theorem Fit_refl (a b : Int) (c : Bool) : Fit a b c a b c = true := by unfold Fit; cases c <;> simp
theorem Fit_trans {a b a' b' a'' b'' : Int} {c c' c'' : Bool} (h : Fit a b c a' b' c' = true) (h' : Fit a' b' c' a'' b'' c'' = true) : Fit a b c a'' b'' c'' = true := by
  unfold Fit at *
  cases c <;> cases c' <;> cases c'' <;> simp_all <;> omega

def MayL (a b : Int) (c : Bool) (n : Int) : Bool := if c then decide (a ≤ b) && decide (b ≤ n) else decide (a ≤ n) && decide (b = 0)
theorem may_lim {a b : Int} (c : Bool) (n : Int) (ha : 0 ≤ a ∧ a ≤ 4294967295) (hb : 0 ≤ b ∧ b ≤ 4294967295) : types_May.f a b c n = some (MayL a b c n) := by
  unfold types_May.f MayL
  rw [u64w (x := a) (by omega) (by omega), u64w (x := b) (by omega) (by omega)]
  cases c
  · by_cases h : b = 0 <;> simp [h]
  · by_cases h : a > b
    · have q1 : decide (a ≤ b) = false := decide_eq_false (by omega)
      simp only [if_true, if_pos h, q1, Bool.false_and]
    · have q1 : decide (a ≤ b) = true := decide_eq_true (by omega)
      by_cases h2 : b > n
      · have q2 : decide (b ≤ n) = false := decide_eq_false (by omega)
        simp only [if_true, if_neg h, if_pos h2, q1, q2, Bool.true_and]
      · have q2 : decide (b ≤ n) = true := decide_eq_true (by omega)
        have q3 : decide (a ≤ n) = true := decide_eq_true (by omega)
        simp only [if_true, if_neg h, if_neg h2, q1, q2, q3, Bool.true_and]
theorem refMay_lim {a b : Int} (c : Bool) (n : Int) (ha : 0 ≤ a ∧ a ≤ 4294967295) (hb : 0 ≤ b ∧ b ≤ 4294967295) : jacquardref09_May.f a b c n = some (MayL a b c n) := by
  unfold jacquardref09_May.f MayL
  rw [u64w (x := a) (by omega) (by omega), u64w (x := b) (by omega) (by omega)]
  cases c
  · by_cases h : a ≤ n
    · simp only [h, if_true]; simp [Bool.beq_eq_decide_eq]
    · simp [h]
  · by_cases h : a ≤ b <;> simp [h]
theorem mayTable_eq (e : Int) {a b : Int} (c : Bool) (ha : 0 ≤ a ∧ a ≤ 4294967295) (hb : 0 ≤ b ∧ b ≤ 4294967295) : types_MayTable.f e a b c = some (isR e && MayL a b c 4294967295) := by
  unfold types_MayTable.f
  rw [isRef_eq]
  cases h : isR e <;> simp [may_lim c _ ha hb]
theorem refMayTable_eq (e : Int) {a b : Int} (c : Bool) (ha : 0 ≤ a ∧ a ≤ 4294967295) (hb : 0 ≤ b ∧ b ≤ 4294967295) : jacquardref09_MayTable.f e a b c = some (isR e && MayL a b c 4294967295) := by
  unfold jacquardref09_MayTable.f
  rw [refIsRef_eq]
  cases h : isR e <;> simp [refMay_lim c _ ha hb]

theorem eq_loop {l r : List Int} (hlr : l.length = r.length) (hl : l.length ≤ 9223372036854775807) (d : Nat) :
    ∀ (k i : Nat), i ≤ l.length → l.length - i = d → d < k → api_ValType.l0 k l r (l.length : Int) (i : Int) = some (decide (l.drop i = r.drop i)) := by
  induction d with
  | zero =>
    intro k i h0 h1 hk
    obtain ⟨k, rfl⟩ : ∃ m, k = m + 1 := ⟨k - 1, by omega⟩
    simp only [api_ValType.l0]
    rw [if_neg (by omega), List.drop_eq_nil_of_le (by omega), List.drop_eq_nil_of_le (by omega)]; simp
  | succ d ih =>
    intro k i h0 h1 hk
    obtain ⟨k, rfl⟩ : ∃ m, k = m + 1 := ⟨k - 1, by omega⟩
    simp only [api_ValType.l0]
    rw [if_pos (by omega), if_pos (by omega), if_pos (by omega), if_pos (by omega), rd_get (show i < l.length by omega), rd_get (show i < r.length by omega), List.drop_eq_getElem_cons (show i < l.length by omega), List.drop_eq_getElem_cons (show i < r.length by omega)]
    by_cases h : l[i]'(by omega) = r[i]'(by omega)
    · rw [if_pos h, w64 (by omega) (by omega)]
      have := ih k (i + 1) (by omega) (by omega) (by omega)
      have e3 : ((i + 1 : Nat) : Int) = (i : Int) + 1 := by omega
      rw [e3] at this
      rw [this, h]
      simp only [List.cons.injEq, true_and]
    · rw [if_neg h]; simp only [List.cons.injEq, h, false_and, decide_false]
theorem eq_ev {l r : List Int} (hl : l.length ≤ 9223372036854775807) : Ev (fun k => api_ValType.f k l r) (decide (l = r)) := by
  by_cases h : l.length = r.length
  · refine ⟨l.length + 1, fun k hk => ?_⟩
    have := eq_loop h hl l.length k 0 (by omega) (by omega) (by omega)
    simp only [api_ValType.f]
    rw [if_pos (by omega)]
    simpa using this
  · refine ⟨0, fun k _ => ?_⟩
    simp only [api_ValType.f]
    rw [if_neg (by omega)]
    have : l ≠ r := fun e => h (by rw [e])
    simp [this]
theorem same_ev {x y x' y' : List Int} (hx : x.length ≤ 9223372036854775807) (hy : y.length ≤ 9223372036854775807) : Ev (fun k => types_Same.f k x y x' y') (decide (x = x') && decide (y = y')) := by
  obtain ⟨K1, h1⟩ := eq_ev (r := x') hx
  obtain ⟨K2, h2⟩ := eq_ev (r := y') hy
  refine ⟨K1 + K2, fun k hk => ?_⟩
  have e1 : api_ValType.f k x x' = some (decide (x = x')) := h1 _ (by omega)
  have e2 : api_ValType.f k y y' = some (decide (y = y')) := h2 _ (by omega)
  simp only [types_Same.f, e1, e2, Option.bind_some]
  by_cases h : x = x' <;> simp [h]
end Go.Proofs.Ythillgpbenjldaa.LebM
