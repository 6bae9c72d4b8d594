/- Limits, tables' types, globals' types at a place: the words 'Lm', 'Tb', 'Gl'; that the program's and the document's come to them. -/
import Derived.Test.YthillgpbenjldaaPx5
import Derived.Test.YthillgpbenjldaaPx7
import Derived.Test.YthillgpbenjldaaPx18
import Derived.Test.YthillgpbenjldaaNc
namespace Go.Proofs.Ythillgpbenjldaa.LebM
open Go.RowKit Go.Proofs.YthillgpbenjldaaW.PrintWords Go.Proofs.YthillgpbenjldaaW.PrintLast Go.Proofs.YthillgpbenjldaaW.PrintMore Go.Proofs.Ythillgpbenjldaa.P

def Lm (l : List Int) (a : Int) : Int × Int × Bool × Int × Int :=
  if (Bs l a).2 = 0 then
    (if (Bs l a).1 > 1 then (0, 0, false, 0, 4)
    else if (Us l (a + 1) 32).2.2 = 0 then
      (if (Bs l a).1 = 1 then
        (if (Us l (Us l (a + 1) 32).2.1 32).2.2 = 0 then ((Us l (a + 1) 32).1, (Us l (Us l (a + 1) 32).2.1 32).1, true, (Us l (Us l (a + 1) 32).2.1 32).2.1, 0)
        else (0, 0, false, 0, (Us l (Us l (a + 1) 32).2.1 32).2.2))
      else ((Us l (a + 1) 32).1, 0, false, (Us l (a + 1) 32).2.1, 0))
    else (0, 0, false, 0, (Us l (a + 1) 32).2.2))
  else (0, 0, false, 0, (Bs l a).2)
theorem Bs_bd {l : List Int} {a : Int} (h : (Bs l a).2 = 0) : 0 ≤ a ∧ a < l.length ∧ (Bs l a).1 = l.getD a.toNat 0 := by
  unfold Bs at h ⊢
  by_cases q : 0 ≤ a ∧ a ≤ l.length
  · rw [if_pos q] at h ⊢
    by_cases q2 : a < l.length
    · rw [if_pos q2]; exact ⟨q.1, q2, rfl⟩
    · rw [if_neg q2] at h; simp at h
  · rw [if_neg q] at h; simp at h
theorem Us_32 {l : List Int} {a : Int} (h : (Us l a 32).2.2 = 0) : (Us l a 32).1 % 4294967296 = (Us l a 32).1 := by
  obtain ⟨b1, b2, _⟩ := Us_bd h
  have e32 : (2 : Int) ^ (32 : Int).toNat = 4294967296 := by decide
  omega
theorem limits_ev {l : List Int} (hb : Bytes l) (hl : l.length ≤ 140737488351232) (a : Int) : Ev (fun k => types_Limits.f k l a) (Lm l a) := by
  unfold Lm
  by_cases h : (Bs l a).2 = 0
  · obtain ⟨a0, a1, _⟩ := Bs_bd h
    obtain ⟨K, hK⟩ := U_ev hb hl (a + 1) 32
    obtain ⟨K2, hK2⟩ := U_ev hb hl (Us l (a + 1) 32).2.1 32
    refine ⟨K + K2 + 1, fun k hk => ?_⟩
    obtain ⟨k, rfl⟩ : ∃ m, k = m + 1 := ⟨k - 1, by omega⟩
    have h1 : leb_U.f (k + 1) l (a + 1) 32 = some (Us l (a + 1) 32) := hK _ (by omega)
    have h2 : leb_U.f (k + 1) l (Us l (a + 1) 32).2.1 32 = some (Us l (Us l (a + 1) 32).2.1 32) := hK2 _ (by omega)
    have ew : wrap64 (a + 1) = a + 1 := w64 (by omega) (by omega)
    simp only [types_Limits.f, byteAt_eq, Option.bind_some, if_pos h, ew, h1, h2]
    by_cases q1 : (Bs l a).1 > 1
    · rw [if_pos q1, if_pos q1]
    · rw [if_neg q1, if_neg q1]
      by_cases q2 : (Us l (a + 1) 32).2.2 = 0
      · rw [if_pos q2, if_pos q2, Us_32 q2]
        by_cases q3 : (Bs l a).1 = 1
        · rw [if_pos q3, if_pos q3]
          by_cases q4 : (Us l (Us l (a + 1) 32).2.1 32).2.2 = 0
          · rw [if_pos q4, if_pos q4, Us_32 q4, q3]; simp
          · rw [if_neg q4, if_neg q4]
        · have : ((Bs l a).1 == 1) = false := by simpa using q3
          rw [if_neg q3, if_neg q3, this]
      · rw [if_neg q2, if_neg q2]
  · refine ⟨1, fun k hk => ?_⟩
    obtain ⟨k, rfl⟩ : ∃ m, k = m + 1 := ⟨k - 1, by omega⟩
    simp only [types_Limits.f, byteAt_eq, Option.bind_some, if_neg h]
theorem refLimits_ev {l : List Int} (hb : Bytes l) (hl : l.length ≤ 140737488351232) (a : Int) : Ev (fun k => jacquardref09_Limits.f k l a) (Lm l a) := by
  unfold Lm
  by_cases h : (Bs l a).2 = 0
  · obtain ⟨a0, a1, hbs⟩ := Bs_bd h
    have hc : 0 ≤ rd l a ∧ rd l a < 256 := hb (l.getD a.toNat 0) (by
      rw [List.getD_eq_getElem?_getD, List.getElem?_eq_getElem (by omega), Option.getD_some]; exact List.getElem_mem _)
    replace hbs : (Bs l a).1 = rd l a := hbs
    obtain ⟨K, hK⟩ := refU_ev hb hl (a + 1) 32
    obtain ⟨K2, hK2⟩ := refU_ev hb hl (Us l (a + 1) 32).2.1 32
    refine ⟨K + K2 + 2, fun k hk => ?_⟩
    obtain ⟨k, rfl⟩ : ∃ m, k = m + 2 := ⟨k - 2, by omega⟩
    have h1 : jacquardref01_U.f k l (a + 1) 32 = some (Us l (a + 1) 32) := hK _ (by omega)
    have h2 : jacquardref01_U.f k l (Us l (a + 1) 32).2.1 32 = some (Us l (Us l (a + 1) 32).2.1 32) := hK2 _ (by omega)
    have ew : wrap64 (a + 1) = a + 1 := w64 (by omega) (by omega)
    have hdec : decide (a > (l.length : Int)) = false := decide_eq_false (by omega)
    have hne : ¬ a = (l.length : Int) := by omega
    have hnl : ¬ a < 0 := by omega
    simp only [jacquardref09_Limits.f, if_neg hnl, hdec, jacquardref09_Limits.j0, if_neg hne, if_pos a0, if_pos a1, jacquardref09_Limits.j1, ew, h1, h2, Option.bind_some, if_pos h, hbs, decide_eq_true_eq]
    rw [if_neg (by decide)]
    by_cases q1 : rd l a > 1
    · rw [if_pos q1, if_pos q1]
    · rw [if_neg q1, if_neg q1]
      by_cases q2 : (Us l (a + 1) 32).2.2 = 0
      · rw [if_pos q2, if_pos q2, Us_32 q2]
        by_cases q3 : rd l a = 1
        · rw [if_neg (by omega), if_pos q3]
          by_cases q4 : (Us l (Us l (a + 1) 32).2.1 32).2.2 = 0
          · rw [if_pos q4, if_pos q4, Us_32 q4]
          · rw [if_neg q4, if_neg q4]
        · rw [if_pos (by omega), if_neg q3]
      · rw [if_neg q2, if_neg q2]
  · refine ⟨2, fun k hk => ?_⟩
    obtain ⟨k, rfl⟩ : ∃ m, k = m + 2 := ⟨k - 2, by omega⟩
    rw [if_neg h]
    unfold Bs at h ⊢
    by_cases q : 0 ≤ a ∧ a ≤ l.length
    · simp only [if_pos q] at h ⊢
      by_cases q2 : a < l.length
      · rw [if_pos q2] at h; simp at h
      · have hdec : decide (a > (l.length : Int)) = false := decide_eq_false (by omega)
        simp only [jacquardref09_Limits.f, if_neg (show ¬ a < 0 by omega), hdec, jacquardref09_Limits.j0, if_pos (show a = (l.length : Int) by omega), jacquardref09_Limits.j1, if_neg q2]
        simp
    · simp only [if_neg q]
      by_cases h1 : a < 0
      · simp [jacquardref09_Limits.f, h1, jacquardref09_Limits.j0]
      · have hdec : decide (a > (l.length : Int)) = true := decide_eq_true (by omega)
        simp only [jacquardref09_Limits.f, if_neg h1, hdec]; simp [jacquardref09_Limits.j0]

def Tb (l : List Int) (a : Int) : Int × Int × Int × Bool × Int × Int :=
  if (Vs l a).2.2 = 0 then
    (if isR (Vs l a).1 = true then
      (if (Lm l (Vs l a).2.1).2.2.2.2 = 0 then ((Vs l a).1, (Lm l (Vs l a).2.1).1, (Lm l (Vs l a).2.1).2.1, (Lm l (Vs l a).2.1).2.2.1, (Lm l (Vs l a).2.1).2.2.2.1, 0)
      else (0, 0, 0, false, 0, (Lm l (Vs l a).2.1).2.2.2.2))
    else (0, 0, 0, false, 0, 4))
  else (0, 0, 0, false, 0, (Vs l a).2.2)
theorem table_ev {l : List Int} (hb : Bytes l) (hl : l.length ≤ 140737488351232) (a : Int) : Ev (fun k => types_Table.f k l a) (Tb l a) := by
  obtain ⟨K, hK⟩ := limits_ev hb hl (Vs l a).2.1
  refine ⟨K + 1, fun k hk => ?_⟩
  obtain ⟨k, rfl⟩ : ∃ m, k = m + 1 := ⟨k - 1, by omega⟩
  have h1 : types_Limits.f (k + 1) l (Vs l a).2.1 = some _ := hK _ (by omega)
  simp only [types_Table.f, val_eq hl, isRef_eq, h1, Option.bind_some]
  unfold Tb
  split
  · split
    · split <;> rfl
    · rfl
  · rfl
theorem refTable_ev {l : List Int} (hb : Bytes l) (hl : l.length ≤ 140737488351232) (a : Int) : Ev (fun k => jacquardref09_Table.f k l a) (Tb l a) := by
  obtain ⟨K, hK⟩ := refLimits_ev hb hl (Vs l a).2.1
  refine ⟨K + 1, fun k hk => ?_⟩
  obtain ⟨k, rfl⟩ : ∃ m, k = m + 1 := ⟨k - 1, by omega⟩
  have h1 : jacquardref09_Limits.f (k + 1) l (Vs l a).2.1 = some _ := hK _ (by omega)
  simp only [jacquardref09_Table.f, refVal_eq hl, refIsRef_eq, h1, Option.bind_some]
  unfold Tb
  split
  · split
    · split <;> rfl
    · rfl
  · rfl
theorem Vs_bd {l : List Int} {a : Int} (h : (Vs l a).2.2 = 0) : (Vs l a).2.1 = a + 1 ∧ 0 ≤ a ∧ a < l.length := by
  unfold Vs at h ⊢
  by_cases q : 0 ≤ a ∧ a ≤ l.length
  · rw [if_pos q] at h ⊢
    by_cases q2 : a < l.length
    · rw [if_pos q2] at h ⊢
      by_cases q3 : isT (l.getD a.toNat 0) = true
      · rw [if_pos q3]; exact ⟨rfl, q.1, q2⟩
      · rw [if_neg q3] at h; simp at h
    · rw [if_neg q2] at h; simp at h
  · rw [if_neg q] at h; simp at h
def Gl (l : List Int) (a : Int) : Int × Bool × Int × Int :=
  if (Vs l a).2.2 = 0 then
    (if (Bs l (a + 1)).2 = 0 then (if (Bs l (a + 1)).1 > 1 then (0, false, 0, 4) else ((Vs l a).1, (Bs l (a + 1)).1 == 1, a + 2, 0)) else (0, false, 0, 4))
  else (0, false, 0, (Vs l a).2.2)
theorem global_eq {l : List Int} (hl : l.length ≤ 140737488351232) (a : Int) (k : Nat) : types_Global.f (k + 1) l a = some (Gl l a) := by
  simp only [types_Global.f, val_eq hl, Option.bind_some]
  unfold Gl
  by_cases h : (Vs l a).2.2 = 0
  · obtain ⟨e, a0, a1⟩ := Vs_bd h
    have ew : wrap64 (a + 1 + 1) = a + 2 := by rw [w64] <;> omega
    simp only [if_pos h, e, byteAt_eq, Option.bind_some, ew]
    split
    · split <;> rfl
    · rfl
  · simp only [if_neg h]
theorem refGlobal_eq {l : List Int} (hl : l.length ≤ 140737488351232) (a : Int) (k : Nat) : jacquardref09_Global.f (k + 1) l a = some (Gl l a) := by
  simp only [jacquardref09_Global.f, refVal_eq hl, Option.bind_some]
  unfold Gl
  by_cases h : (Vs l a).2.2 = 0
  · obtain ⟨e, a0, a1⟩ := Vs_bd h
    have ew : wrap64 (a + 1 + 1) = a + 2 := by rw [w64] <;> omega
    simp only [if_pos h, e, ew]
    by_cases q : a + 1 = (l.length : Int)
    · have hB : (Bs l (a + 1)).2 = 4 := by unfold Bs; rw [if_pos (by omega), if_neg (by omega)]
      rw [if_pos q, hB]; simp
    · have hB : Bs l (a + 1) = (l.getD (a + 1).toNat 0, 0) := by unfold Bs; rw [if_pos (by omega), if_pos (by omega)]
      rw [if_neg q, if_pos (by omega), if_pos (by omega), hB, rd_getD]
      simp only [if_true]
      split <;> rfl
  · simp only [if_neg h]
end Go.Proofs.Ythillgpbenjldaa.LebM
