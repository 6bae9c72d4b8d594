/- Lists of types that are compared; the example that the document tells. -/
import Derived.Test.YthillgpbenjldaaPx6
import Derived.Test.YthillgpbenjldaaPx7
import Derived.Test.YthillgpbenjldaaPx8
import Derived.Test.YthillgpbenjldaaNa
namespace Go.Proofs.Ythillgpbenjldaa.LebM
open Go.RowKit Go.Proofs.YthillgpbenjldaaW.PrintWords Go.Proofs.YthillgpbenjldaaW.PrintLast Go.Proofs.YthillgpbenjldaaW.PrintMore Go.Proofs.Ythillgpbenjldaa.P

theorem Types_loop {l r : List Int} (hlr : l.length = r.length) (hl : l.length ≤ 9223372036854775807) (d : Nat) :
    ∀ (k i : Nat), i ≤ l.length → l.length - i = d → d < k → jacquardref00_Types.l0 k l r (i : Int) = some (decide (l.drop i = r.drop i)) := by
  induction d with
  | zero =>
    intro k i h0 h1 hk
    obtain ⟨k, rfl⟩ : ∃ m, k = m + 1 := ⟨k - 1, by omega⟩
    simp only [jacquardref00_Types.l0]
    rw [if_neg (by omega), List.drop_eq_nil_of_le (by omega), List.drop_eq_nil_of_le (by omega)]; simp
  | succ d ih =>
    intro k i h0 h1 hk
    obtain ⟨k, rfl⟩ : ∃ m, k = m + 1 := ⟨k - 1, by omega⟩
    simp only [jacquardref00_Types.l0]
    rw [if_pos (by omega), if_pos (by omega), if_pos (by omega), rd_get (show i < l.length by omega), rd_get (show i < r.length by omega), List.drop_eq_getElem_cons (show i < l.length by omega), List.drop_eq_getElem_cons (show i < r.length by omega)]
    by_cases h : l[i]'(by omega) = r[i]'(by omega)
    · rw [if_pos h, w64 (by omega) (by omega)]
      have := ih k (i + 1) (by omega) (by omega) (by omega)
      have e3 : ((i + 1 : Nat) : Int) = (i : Int) + 1 := by omega
      rw [e3] at this
      rw [this, h]
      simp only [List.cons.injEq, true_and]
    · rw [if_neg h]; simp only [List.cons.injEq, h, false_and, decide_false]
theorem Types_ev {l r : List Int} (hl : l.length ≤ 9223372036854775807) : Ev (fun k => jacquardref00_Types.f k l r) (decide (l = r)) := by
  by_cases h : l.length = r.length
  · refine ⟨l.length + 1, fun k hk => ?_⟩
    have := Types_loop h hl l.length k 0 (by omega) (by omega) (by omega)
    simp only [jacquardref00_Types.f]
    rw [if_pos (by omega)]
    simpa using this
  · refine ⟨0, fun k _ => ?_⟩
    simp only [jacquardref00_Types.f]
    rw [if_neg (by omega)]
    have : l ≠ r := fun e => h (by rw [e])
    simp [this]
theorem funcSame_ev {x y x' y' : List Int} (hx : x.length ≤ 9223372036854775807) (hy : y.length ≤ 9223372036854775807) : Ev (fun k => jacquardref00_Func.f k x y x' y') (decide (x = x') && decide (y = y')) := by
  obtain ⟨K1, h1⟩ := Types_ev (r := x') hx
  obtain ⟨K2, h2⟩ := Types_ev (r := y') hy
  refine ⟨K1 + K2, fun k hk => ?_⟩
  have e1 : jacquardref00_Types.f k x x' = some (decide (x = x')) := h1 _ (by omega)
  have e2 : jacquardref00_Types.f k y y' = some (decide (y = y')) := h2 _ (by omega)
  simp only [jacquardref00_Func.f, e1, e2, Option.bind_some]
  by_cases h : x = x' <;> simp [h]

theorem take_len {l : List Int} (p r : Nat) : (take l p r).1.length ≤ l.length := by
  unfold take; split
  · simp; omega
  · simp
theorem Ls_len {l : List Int} (a : Int) : (Ls l a).1.length ≤ l.length := by
  unfold Ls; split
  · exact take_len _ _
  · simp
theorem Fs_len {l : List Int} (hl : l.length ≤ 140737488351232) {a : Int} : (Fs l a).1.length ≤ 140737488351232 ∧ (Fs l a).2.1.length ≤ 140737488351232 := by
  have h1 := Ls_len (l := l) (a + 1)
  have h2 := Ls_len (l := l) (Ls l (a + 1)).2.1
  unfold Fs
  repeat' split
  all_goals simp
  omega

theorem works_ev : Ev (fun k => jacquardlaw09_works.f k) true := by
  have b1 : Bytes [96, 1, 127, 2, 126, 123] := by intro x hx; simp at hx; omega
  obtain ⟨K, hK⟩ := func_ev b1 (by simp) (a := 0) (by omega)
  have e1 : Fs [96, 1, 127, 2, 126, 123] 0 = ([127], [126, 123], 6, 0) := by decide
  rw [e1] at hK
  obtain ⟨K2, hK2⟩ := funcSame_ev (x := [127]) (y := [126, 123]) (x' := [127]) (y' := [126, 123]) (by simp) (by simp)
  refine ⟨K + K2, fun k hk => ?_⟩
  have h1 : types_Func.f k [96, 1, 127, 2, 126, 123] 0 = some ([127], [126, 123], 6, 0) := hK _ (by omega)
  have h2 : jacquardref00_Func.f k [127] [126, 123] [127] [126, 123] = some _ := hK2 _ (by omega)
  simp only [jacquardlaw09_works.f, h1, h2, isRef_eq, Option.bind_some]
  simp [isR]
end Go.Proofs.Ythillgpbenjldaa.LebM
