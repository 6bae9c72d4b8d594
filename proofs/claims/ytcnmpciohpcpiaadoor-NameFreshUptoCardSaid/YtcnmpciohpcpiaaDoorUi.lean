/- Counted rows: both sides read the same. -/
import Derived.Test.YtcnmpciohpcpiaaDoorUh
import Derived.Test.YtcnmpciohpcpiaaDoorMc
namespace Go.Proofs.YtcnmpciohpcpiaaDoor.LebM
set_option linter.unusedVariables false
set_option linter.unusedSimpArgs false
open Go.RowKit Go.Proofs.YtcnmpciohpcpiaaDoorW.PrintWords Go.Proofs.YtcnmpciohpcpiaaDoorW.PrintLast Go.Proofs.YtcnmpciohpcpiaaDoorW.PrintMore Go.Proofs.YtcnmpciohpcpiaaDoor.P
/-- the counted row at a place, its end, the error -/
def Rw (l : List Int) (a : Int) : List Int × Int × Int :=
  let u := Us l a 32
  if u.2.2 = 0 then (if u.1 > l.length - u.2.1 then ([], 0, 4) else ((l.drop u.2.1.toNat).take u.1.toNat, u.2.1 + u.1, 0)) else ([], 0, u.2.2)
theorem Us_ok {l : List Int} {a : Int} (h : (Us l a 32).2.2 = 0) : 0 ≤ (Us l a 32).1 ∧ (Us l a 32).1 < 4294967296 ∧ 0 ≤ (Us l a 32).2.1 ∧ (Us l a 32).2.1 ≤ l.length := by
  unfold Us at h ⊢
  split at h
  · rename_i hm
    rw [if_pos hm]
    cases hc : cnt (room 32) (l.drop a.toNat) with
    | none => rw [hc] at h; simp at h
    | some n =>
      rw [hc] at h
      simp only [] at h ⊢
      have hn := cnt_bd hc
      simp only [List.length_drop] at hn
      split at h
      · rename_i hv
        rw [if_pos hv]
        have h0 := val_nonneg (dig_digits (l.drop a.toNat) n)
        simp only [] at hv ⊢
        have : (2 : Int) ^ (32 : Int).toNat = 4294967296 := by decide
        omega
      · simp at h
  · simp at h
theorem row_tail {l : List Int} (hl : l.length ≤ 140737488351232) (a : Int) : (if (Us l a 32).2.2 = 0 then (if (Us l a 32).1 > (IntKind.u64.wrap (wrap64 ((l.length : Int) - (Us l a 32).2.1))) then (some (([] : List Int), (0 : Int), (4 : Int))) else (if 0 ≤ (Us l a 32).2.1 then (if (Us l a 32).2.1 ≤ (wrap64 ((Us l a 32).2.1 + (wrap64 ((Us l a 32).1)))) then (if (wrap64 ((Us l a 32).2.1 + (wrap64 ((Us l a 32).1)))) ≤ (l.length : Int) then (if ([] : List Int).length + ((l.take ((wrap64 ((Us l a 32).2.1 + (wrap64 ((Us l a 32).1)))) : Int).toNat).drop ((Us l a 32).2.1 : Int).toNat).length < 140737488355328 then (some ((([] : List Int) ++ ((l.take ((wrap64 ((Us l a 32).2.1 + (wrap64 ((Us l a 32).1)))) : Int).toNat).drop ((Us l a 32).2.1 : Int).toNat)), wrap64 ((Us l a 32).2.1 + (wrap64 ((Us l a 32).1))), 0)) else (none)) else (none)) else (none)) else (none))) else (some (([] : List Int), 0, (Us l a 32).2.2))) = some (Rw l a) := by
  unfold Rw
  simp only []
  by_cases h : (Us l a 32).2.2 = 0
  · obtain ⟨h0, h1, h2, h3⟩ := Us_ok h
    rw [if_pos h, if_pos h]
    generalize (Us l a 32).1 = n at *
    generalize (Us l a 32).2.1 = m at *
    rw [w64 (x := (l.length : Int) - m) (by omega) (by omega), u64w (by omega) (by omega), w64 (x := n) (by omega) (by omega), w64 (x := m + n) (by omega) (by omega)]
    by_cases c : n > l.length - m
    · rw [if_pos c, if_pos c]
    · rw [if_neg c, if_neg c, if_pos h2, if_pos (by omega), if_pos (by omega)]
      have e : (m + n).toNat = m.toNat + n.toNat := by omega
      rw [e, drop_take_eq, if_pos (by simp only [List.length_nil, List.length_take, List.length_drop]; omega)]
      simp
  · rw [if_neg h, if_neg h]
theorem Row_ev {l : List Int} (hb : Bytes l) (hl : l.length ≤ 140737488351232) (a : Int) : Ev (fun k => name_Row.f k l a) (Rw l a) := by
  obtain ⟨K, hK⟩ := U_ev hb (by omega : l.length ≤ 140737488351232) a 32
  refine ⟨K, fun k hk => ?_⟩
  have e : leb_U.f k l a 32 = some _ := hK k hk
  show name_Row.f k l a = _
  unfold name_Row.f
  rw [e, Option.bind_some]
  exact row_tail hl a
theorem refRow_ev {l : List Int} (hb : Bytes l) (hl : l.length ≤ 140737488351232) (a : Int) : Ev (fun k => jacquardref02_Row.f k l a) (Rw l a) := by
  obtain ⟨K, hK⟩ := refU_ev hb (by omega : l.length ≤ 140737488351232) a 32
  refine ⟨K, fun k hk => ?_⟩
  have e : jacquardref01_U.f k l a 32 = some _ := hK k hk
  show jacquardref02_Row.f k l a = _
  unfold jacquardref02_Row.f
  rw [e, Option.bind_some]
  exact row_tail hl a
end Go.Proofs.YtcnmpciohpcpiaaDoor.LebM
