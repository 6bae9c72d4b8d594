/- Limits, tables' types, globals' types at a place: the words 'Lm', 'Tb', 'Gl'; that the program's and the document's come to them. -/
import Derived.Test.YthillgpbenjldaaPx5
import Derived.Test.YthillgpbenjldaaPx18
import Derived.Test.YthillgpbenjldaaNc
namespace Go.Proofs.Ythillgpbenjldaa.LebM
open Go.RowKit Go.Proofs.YthillgpbenjldaaW.PrintWords Go.Proofs.YthillgpbenjldaaW.PrintLast Go.Proofs.YthillgpbenjldaaW.PrintMore Go.Proofs.Ythillgpbenjldaa.P

def Lm (l : List Int) (a : Int) : Int × Int × Bool × Int × Int :=
  if (Bs l a).2 = 0 then
    (if (Bs l a).1 > 1 then (0, 0, false, 0, 4)
    else if (Us l (a + 1) 32).2.2 = 0 then
      (if (Bs l a).1 = 1 then
        (if (Us l (Us l (a + 1) 32).2.1 32).2.2 = 0 then ((Us l (a + 1) 32).1, (Us l (Us l (a + 1) 32).2.1 32).1, true, (Us l (Us l (a + 1) 32).2.1 32).2.1, 0)
        else (0, 0, false, 0, (Us l (Us l (a + 1) 32).2.1 32).2.2))
      else ((Us l (a + 1) 32).1, 0, false, (Us l (a + 1) 32).2.1, 0))
    else (0, 0, false, 0, (Us l (a + 1) 32).2.2))
  else (0, 0, false, 0, (Bs l a).2)
theorem Bs_bd {l : List Int} {a : Int} (h : (Bs l a).2 = 0) : 0 ≤ a ∧ a < l.length ∧ (Bs l a).1 = l.getD a.toNat 0 := by
  unfold Bs at h ⊢
  by_cases q : 0 ≤ a ∧ a ≤ l.length
  · rw [if_pos q] at h ⊢
    by_cases q2 : a < l.length
    · rw [if_pos q2]; exact ⟨q.1, q2, rfl⟩
    · rw [if_neg q2] at h; simp at h
  · rw [if_neg q] at h; simp at h
theorem Us_32 {l : List Int} {a : Int} (h : (Us l a 32).2.2 = 0) : (Us l a 32).1 % 4294967296 = (Us l a 32).1 := by
  obtain ⟨b1, b2, _⟩ := Us_bd h
  have e32 : (2 : Int) ^ (32 : Int).toNat = 4294967296 := by decide
  omega
theorem limits_ev {l : List Int} (hb : Bytes l) (hl : l.length ≤ 140737488351232) (a : Int) : Ev (fun k => types_Limits.f k l a) (Lm l a) := by
  unfold Lm
  by_cases h : (Bs l a).2 = 0
  · obtain ⟨a0, a1, _⟩ := Bs_bd h
    obtain ⟨K, hK⟩ := U_ev hb hl (a + 1) 32
    obtain ⟨K2, hK2⟩ := U_ev hb hl (Us l (a + 1) 32).2.1 32
    refine ⟨K + K2 + 1, fun k hk => ?_⟩
    obtain ⟨k, rfl⟩ : ∃ m, k = m + 1 := ⟨k - 1, by omega⟩
    have h1 : leb_U.f (k + 1) l (a + 1) 32 = some (Us l (a + 1) 32) := hK _ (by omega)
    have h2 : leb_U.f (k + 1) l (Us l (a + 1) 32).2.1 32 = some (Us l (Us l (a + 1) 32).2.1 32) := hK2 _ (by omega)
    have ew : wrap64 (a + 1) = a + 1 := w64 (by omega) (by omega)
    simp only [types_Limits.f, byteAt_eq, Option.bind_some, if_pos h, ew, h1, h2]
    by_cases q1 : (Bs l a).1 > 1
    · rw [if_pos q1, if_pos q1]
    · rw [if_neg q1, if_neg q1]
      by_cases q2 : (Us l (a + 1) 32).2.2 = 0
      · rw [if_pos q2, if_pos q2, Us_32 q2]
        by_cases q3 : (Bs l a).1 = 1
        · rw [if_pos q3, if_pos q3]
          by_cases q4 : (Us l (Us l (a + 1) 32).2.1 32).2.2 = 0
          · rw [if_pos q4, if_pos q4, Us_32 q4, q3]; simp
          · rw [if_neg q4, if_neg q4]
        · have : ((Bs l a).1 == 1) = false := by simpa using q3
          rw [if_neg q3, if_neg q3, this]
      · rw [if_neg q2, if_neg q2]
  · refine ⟨1, fun k hk => ?_⟩
    obtain ⟨k, rfl⟩ : ∃ m, k = m + 1 := ⟨k - 1, by omega⟩
    simp only [types_Limits.f, byteAt_eq, Option.bind_some, if_neg h]
end Go.Proofs.Ythillgpbenjldaa.LebM
