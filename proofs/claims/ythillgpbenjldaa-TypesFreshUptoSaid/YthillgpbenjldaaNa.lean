/- What the readers of types answer, as plain functions on lists ('Vs', 'Ls', 'Fs'); that the program's and the document's come to them. -/
import Derived.Test.YthillgpbenjldaaPx5
import Derived.Test.YthillgpbenjldaaPx6
import Derived.Test.YthillgpbenjldaaPx7
import Derived.Test.YthillgpbenjldaaMc
namespace Go.Proofs.Ythillgpbenjldaa.LebM
open Go.RowKit Go.Proofs.YthillgpbenjldaaW.PrintWords Go.Proofs.YthillgpbenjldaaW.PrintLast Go.Proofs.YthillgpbenjldaaW.PrintMore Go.Proofs.Ythillgpbenjldaa.P

/-- is a byte a type of values? -/
def isT (c : Int) : Bool := c == 127 || c == 126 || c == 125 || c == 124 || c == 123 || c == 112 || c == 111
def Vs (l : List Int) (a : Int) : Int × Int × Int :=
  if 0 ≤ a ∧ a ≤ l.length then (if a < l.length then (if isT (l.getD a.toNat 0) then (l.getD a.toNat 0, a + 1, 0) else (0, 0, 4)) else (0, 0, 4)) else (0, 0, 2)
theorem is_eq (c : Int) : types_Is.f c = some (isT c) := by
  unfold types_Is.f isT
  by_cases h1 : c = 127 <;> by_cases h2 : c = 126 <;> by_cases h3 : c = 125 <;> by_cases h4 : c = 124 <;> by_cases h5 : c = 123 <;> by_cases h6 : c = 112 <;> by_cases h7 : c = 111 <;> simp_all
def isR (c : Int) : Bool := c == 112 || c == 111
theorem isRef_eq (c : Int) : types_IsRef.f c = some (isR c) := by
  unfold types_IsRef.f isR
  by_cases h : c = 112 <;> simp [h]
/-- the byte at a place -/
def Bs (l : List Int) (a : Int) : Int × Int := if 0 ≤ a ∧ a ≤ l.length then (if a < l.length then (l.getD a.toNat 0, 0) else (0, 4)) else (0, 2)
theorem byteAt_eq (l : List Int) (a : Int) (k : Nat) : types_byteAt.f (k + 1) l a = some (Bs l a) := by
  unfold types_byteAt.f Bs
  by_cases h1 : a < 0
  · rw [if_pos h1, if_neg (by omega)]; simp [types_byteAt.j0]
  · rw [if_neg h1]
    by_cases h2 : a > (l.length : Int)
    · rw [decide_eq_true h2, if_neg (by omega)]; simp [types_byteAt.j0]
    · rw [decide_eq_false h2, if_pos (by omega)]
      simp only [types_byteAt.j0]
      rw [if_neg (by decide)]
      by_cases h3 : a = (l.length : Int)
      · rw [if_pos h3, if_neg (by omega)]
      · rw [if_neg h3, if_pos (by omega), if_pos (by omega), if_pos (by omega)]; rfl
theorem val_eq {l : List Int} (hl : l.length ≤ 140737488351232) (a : Int) (k : Nat) : types_Val.f (k + 1) l a = some (Vs l a) := by
  unfold types_Val.f Vs
  rw [byteAt_eq]
  simp only [Option.bind_some]
  unfold Bs
  by_cases h : 0 ≤ a ∧ a ≤ l.length
  · simp only [if_pos h]
    by_cases h3 : a < (l.length : Int)
    · simp only [if_pos h3, is_eq, Option.bind_some, if_true]
      rw [w64 (by omega) (by omega)]
      cases isT (l.getD a.toNat 0) <;> simp
    · simp only [if_neg h3]; simp
  · simp only [if_neg h]; simp
/-- so many types at a place -/
def take (l : List Int) (p r : Nat) : List Int × Int × Int :=
  if r ≤ l.length - p ∧ ((l.drop p).take r).all isT = true then ((l.drop p).take r, (p : Int) + r, 0) else ([], 0, 4)
theorem take_zero (l : List Int) (p : Nat) : take l p 0 = ([], (p : Int), 0) := by simp [take]
theorem take_end {l : List Int} {p r : Nat} (h : l.length ≤ p) : take l p (r + 1) = ([], 0, 4) := by
  unfold take; rw [if_neg (by omega)]
theorem take_bad {l : List Int} {p r : Nat} (h : p < l.length) (ht : isT l[p] = false) : take l p (r + 1) = ([], 0, 4) := by
  unfold take
  rw [List.drop_eq_getElem_cons h, List.take_succ_cons, List.all_cons, ht]
  simp
theorem take_succ {l : List Int} {p r : Nat} (h : p < l.length) (ht : isT l[p] = true) :
    take l p (r + 1) = if (take l (p + 1) r).2.2 = 0 then (l[p] :: (take l (p + 1) r).1, (take l (p + 1) r).2.1, 0) else ([], 0, 4) := by
  unfold take
  rw [List.drop_eq_getElem_cons h, List.take_succ_cons, List.all_cons, ht, Bool.true_and]
  by_cases q : r ≤ l.length - (p + 1) ∧ ((l.drop (p + 1)).take r).all isT = true
  · rw [if_pos ⟨by omega, q.2⟩, if_pos q]; simp; omega
  · rw [if_neg q, if_neg (fun z => q ⟨by omega, z.2⟩)]; simp
theorem Vs_at {l : List Int} {p : Nat} (h : p < l.length) : Vs l p = if isT l[p] then (l[p], (p : Int) + 1, 0) else (0, 0, 4) := by
  unfold Vs
  rw [if_pos (by omega), if_pos (by omega)]
  simp [h]
theorem Vs_end {l : List Int} {p : Nat} (h : p = l.length) : Vs l p = (0, 0, 4) := by
  unfold Vs
  rw [if_pos (by omega), if_neg (by omega)]
/-- what a loop makes of it: with what was read ahead -/
def on (out : List Int) (x : List Int × Int × Int) : List Int × Int × Int := if x.2.2 = 0 then (out ++ x.1, x.2.1, 0) else ([], 0, 4)

theorem take_err (l : List Int) (p r : Nat) : (take l p r).2.2 = 0 ∨ (take l p r).2.2 = 4 := by unfold take; split <;> simp

theorem list_loop {l : List Int} (hl : l.length ≤ 140737488351232) (n : Int) (hn : n ≤ 18446744073709551615) (d : Nat) :
    ∀ (k p r : Nat) (i : Int) (out : List Int), l.length - p = d → p ≤ l.length → 0 ≤ i → n - i = r → out.length ≤ p → d + 2 ≤ k →
      types_list.l0 k l (p : Int) out n i = some (on out (take l p r)) := by
  induction d with
  | zero =>
    intro k p r i out hd hp hi hr ho hk
    obtain ⟨k, rfl⟩ : ∃ m, k = m + 2 := ⟨k - 2, by omega⟩
    rw [types_list.l0]
    rcases r with _ | r
    · rw [if_neg (by omega), take_zero]; simp [on]
    · rw [if_pos (by omega), val_eq hl, Vs_end (by omega), take_end (by omega)]; simp [on]
  | succ d ih =>
    intro k p r i out hd hp hi hr ho hk
    obtain ⟨k, rfl⟩ : ∃ m, k = m + 2 := ⟨k - 2, by omega⟩
    rw [types_list.l0]
    rcases r with _ | r
    · rw [if_neg (by omega), take_zero]; simp [on]
    · have hlt : p < l.length := by omega
      rw [if_pos (by omega), val_eq hl, Vs_at hlt]
      by_cases ht : isT l[p] = true
      · rw [if_pos ht]
        simp only [Option.bind_some, if_true]
        rw [if_pos (by omega), u64w (by omega) (by omega)]
        have := ih (k + 1) (p + 1) r (i + 1) (out ++ [l[p]]) (by omega) (by omega) (by omega) (by omega) (by simp; omega) (by omega)
        have e3 : ((p + 1 : Nat) : Int) = (p : Int) + 1 := by omega
        rw [e3] at this
        rw [this, take_succ hlt ht]
        rcases take_err l (p + 1) r with q | q
        · simp [on, q]
        · simp [on, q]
      · rw [if_neg ht, take_bad hlt (by simpa using ht)]; simp [on]

/-- a counted list of types -/
def Ls (l : List Int) (a : Int) : List Int × Int × Int :=
  if (Us l a 32).2.2 = 0 then take l (Us l a 32).2.1.toNat (Us l a 32).1.toNat else ([], 0, (Us l a 32).2.2)

theorem Us_bd {l : List Int} {a w : Int} (h : (Us l a w).2.2 = 0) : 0 ≤ (Us l a w).1 ∧ (Us l a w).1 < 2 ^ w.toNat ∧ a < (Us l a w).2.1 ∧ 0 ≤ a ∧ (Us l a w).2.1 ≤ l.length := by
  unfold Us at h ⊢
  by_cases hm : 1 ≤ w ∧ w ≤ 64 ∧ 0 ≤ a ∧ a ≤ l.length
  · rw [if_pos hm] at h ⊢
    rcases hc : cnt (room w) (l.drop a.toNat) with _ | n
    · rw [hc] at h; simp at h
    · rw [hc] at h
      have hn := cnt_bd hc
      simp only [List.length_drop] at hn
      simp only at h ⊢
      by_cases hv : val (dig (l.drop a.toNat) n) < 2 ^ w.toNat
      · rw [if_pos hv]
        exact ⟨val_nonneg (dig_digits _ _), hv, by simp only; omega, by omega, by simp only; omega⟩
      · rw [if_neg hv] at h; simp at h
  · rw [if_neg hm] at h; simp at h

theorem on_nil (l : List Int) (p r : Nat) : on [] (take l p r) = take l p r := by unfold on take; split <;> simp_all
theorem list_ev {l : List Int} (hb : Bytes l) (hl : l.length ≤ 140737488351232) (a : Int) : Ev (fun k => types_list.f k l a) (Ls l a) := by
  obtain ⟨K, hK⟩ := U_ev hb hl a 32
  refine ⟨K + l.length + 2, fun k hk => ?_⟩
  have h1 : leb_U.f k l a 32 = some (Us l a 32) := hK k (by omega)
  simp only [types_list.f, h1, Option.bind_some]
  unfold Ls
  by_cases h : (Us l a 32).2.2 = 0
  · obtain ⟨b1, b2, b3, b4, b5⟩ := Us_bd h
    have e32 : (2 : Int) ^ (32 : Int).toNat = 4294967296 := by decide
    rw [if_pos h, if_pos h]
    have := list_loop hl (Us l a 32).1 (by omega) (l.length - (Us l a 32).2.1.toNat) k (Us l a 32).2.1.toNat (Us l a 32).1.toNat 0 [] rfl (by omega) (by omega) (by omega) (by simp) (by omega)
    rw [Int.toNat_of_nonneg (by omega), on_nil] at this
    exact this
  · rw [if_neg h, if_neg h]
/-- a function's type at a place -/
def Fs (l : List Int) (a : Int) : List Int × List Int × Int × Int :=
  if (Bs l a).2 = 0 then
    (if (Bs l a).1 = 96 then
      (if (Ls l (a + 1)).2.2 = 0 then
        (if (Ls l (Ls l (a + 1)).2.1).2.2 = 0 then ((Ls l (a + 1)).1, (Ls l (Ls l (a + 1)).2.1).1, (Ls l (Ls l (a + 1)).2.1).2.1, 0) else ([], [], 0, 4))
      else ([], [], 0, 4))
    else ([], [], 0, 4))
  else ([], [], 0, (Bs l a).2)
theorem func_ev {l : List Int} (hb : Bytes l) (hl : l.length ≤ 140737488351232) {a : Int} (ha : a ≤ 9223372036854775807) : Ev (fun k => types_Func.f k l a) (Fs l a) := by
  unfold Fs
  by_cases h : (Bs l a).2 = 0
  · have hr : 0 ≤ a ∧ a < l.length := by
      unfold Bs at h
      by_cases q : 0 ≤ a ∧ a ≤ l.length
      · rw [if_pos q] at h
        by_cases q2 : a < l.length
        · omega
        · rw [if_neg q2] at h; simp at h
      · rw [if_neg q] at h; simp at h
    obtain ⟨K, hK⟩ := list_ev hb hl (a + 1)
    obtain ⟨K2, hK2⟩ := list_ev hb hl (Ls l (a + 1)).2.1
    refine ⟨K + K2 + 1, fun k hk => ?_⟩
    obtain ⟨k, rfl⟩ : ∃ m, k = m + 1 := ⟨k - 1, by omega⟩
    have h1 : types_list.f (k + 1) l (a + 1) = some (Ls l (a + 1)) := hK _ (by omega)
    have h2 : types_list.f (k + 1) l (Ls l (a + 1)).2.1 = some (Ls l (Ls l (a + 1)).2.1) := hK2 _ (by omega)
    have ew : wrap64 (a + 1) = a + 1 := w64 (by omega) (by omega)
    simp only [types_Func.f, byteAt_eq, Option.bind_some, if_pos h, ew, h1, h2]
    split
    · split
      · split <;> rfl
      · rfl
    · rfl
  · refine ⟨1, fun k hk => ?_⟩
    obtain ⟨k, rfl⟩ : ∃ m, k = m + 1 := ⟨k - 1, by omega⟩
    simp only [types_Func.f, byteAt_eq, Option.bind_some, if_neg h]
end Go.Proofs.Ythillgpbenjldaa.LebM
