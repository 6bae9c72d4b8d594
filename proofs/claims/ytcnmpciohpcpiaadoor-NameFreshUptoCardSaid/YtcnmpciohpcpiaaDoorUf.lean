/- A range over a string reads the letters, where the bytes are a text; name.Letters. -/
import Derived.Test.YtcnmpciohpcpiaaDoorUe
namespace Go.Proofs.YtcnmpciohpcpiaaDoor.LebM
set_option linter.unusedVariables false
set_option linter.unusedSimpArgs false
open Go.RowKit Go.Proofs.YtcnmpciohpcpiaaDoorW.PrintWords Go.Proofs.YtcnmpciohpcpiaaDoorW.PrintLast Go.Proofs.YtcnmpciohpcpiaaDoorW.PrintMore Go.Proofs.YtcnmpciohpcpiaaDoor.P
theorem get_eq {l : List Int} (hb : Bytes l) (i : Nat) : ((strOfNums l).get! i).toNat = (rd l (i : Int)).toNat := by
  simp only [strOfNums, ByteArray.get!, rd, Int.toNat_natCast, List.getD]
  by_cases h : i < l.length
  · rw [getElem!_pos _ _ (by simpa using h)]
    simp only [List.getElem_toArray, List.getElem_map, List.getElem?_eq_getElem h, Option.getD_some]
    have := hb l[i] (List.getElem_mem h)
    simp
    omega
  · rw [getElem!_neg _ _ (by simpa using h), List.getElem?_eq_none (by omega)]
    rfl
theorem decode_one {l : List Int} (hb : Bytes l) {a : Nat} (ha : a < l.length) (h : (one (l.drop a)).2 ≠ 0) :
    Utf8.decode (strOfNums l) a = ((one (l.drop a)).1.toNat, (one (l.drop a)).2.toNat) := by
  have b0 := rd_bd hb (a : Int)
  have b1 := rd_bd hb ((a : Int) + 1)
  have b2 := rd_bd hb ((a : Int) + 2)
  have b3 := rd_bd hb ((a : Int) + 3)
  have g0 := get_eq hb a
  have g1 := get_eq hb (a + 1)
  have g2 := get_eq hb (a + 2)
  have g3 := get_eq hb (a + 3)
  rw [show ((a + 1 : Nat) : Int) = (a : Int) + 1 from rfl] at g1
  rw [show ((a + 2 : Nat) : Int) = (a : Int) + 2 from rfl] at g2
  rw [show ((a + 3 : Nat) : Int) = (a : Int) + 3 from rfl] at g3
  have hlen : ((l.drop a).length : Int) = l.length - a := by simp; omega
  have hsz := strOfNums_size l
  unfold one at h ⊢
  rw [hlen, rd0, rd1, rd2, rd3] at h
  rw [hlen, rd0, rd1, rd2, rd3]
  unfold Utf8.decode
  simp only [Nat.add_zero, g0, g1, g2, g3, hsz]
  generalize rd l (a : Int) = c at *
  generalize rd l ((a : Int) + 1) = d1 at *
  generalize rd l ((a : Int) + 2) = d2 at *
  generalize rd l ((a : Int) + 3) = d3 at *
  obtain ⟨c, rfl⟩ := Int.eq_ofNat_of_zero_le b0.1
  obtain ⟨d1, rfl⟩ := Int.eq_ofNat_of_zero_le b1.1
  obtain ⟨d2, rfl⟩ := Int.eq_ofNat_of_zero_le b2.1
  obtain ⟨d3, rfl⟩ := Int.eq_ofNat_of_zero_le b3.1
  simp only [Int.toNat_natCast]
  clear g0 g1 g2 g3
  by_cases c1 : (c : Int) < 128
  · rw [if_pos c1, if_pos (by omega)]
    simp
  rw [if_neg c1] at h ⊢
  rw [if_neg (by omega)]
  split at h
  · rename_i q
    rw [if_pos q]
    rw [if_pos (by simp only [Bool.and_eq_true, beq_iff_eq, decide_eq_true_eq]; omega), if_pos (by omega)]
    simp only [Prod.mk.injEq]
    omega
  rename_i q1
  rw [if_neg q1]
  split at h
  · rename_i q
    rw [if_pos q, if_neg (by simp only [Bool.and_eq_true, beq_iff_eq, decide_eq_true_eq]; omega), if_pos (by simp only [Bool.and_eq_true, beq_iff_eq, decide_eq_true_eq]; omega)]
    rw [if_pos (by simp only [Utf8.valid, Bool.and_eq_true, Bool.or_eq_true, decide_eq_true_eq]; omega)]
    simp only [Prod.mk.injEq]
    omega
  rename_i q2
  rw [if_neg q2]
  split at h
  · rename_i q
    rw [if_pos q, if_neg (by simp only [Bool.and_eq_true, beq_iff_eq, decide_eq_true_eq]; omega), if_neg (by simp only [Bool.and_eq_true, beq_iff_eq, decide_eq_true_eq]; omega), if_pos (by simp only [Bool.and_eq_true, beq_iff_eq, decide_eq_true_eq]; omega)]
    rw [if_pos (by simp only [Utf8.valid, Bool.and_eq_true, Bool.or_eq_true, decide_eq_true_eq]; omega)]
    simp only [Prod.mk.injEq]
    omega
  · exact absurd rfl h
theorem one_nonneg {l : List Int} (hb : Bytes l) (h : (one l).2 ≠ 0) : 0 ≤ (one l).1 := by
  have b0 := rd_bd hb 0
  unfold one at h ⊢
  repeat' split
  all_goals (simp only []; omega)
theorem name_loop {l : List Int} (hb : Bytes l) (hl : l.length ≤ 35184372087808) (d : Nat) :
    ∀ (k a : Nat) (out o : List Int), l.length - a = d → a ≤ l.length → d + 1 ≤ k → out.length ≤ a → D (l.drop a) = some o →
      name_Letters.l k (strOfNums l) a out = some (out ++ o, 0) := by
  induction d using Nat.strongRecOn with
  | ind d ih =>
    intro k a out o h0 h1 hk ho hD
    obtain ⟨k, rfl⟩ : ∃ m, k = m + 1 := ⟨k - 1, by omega⟩
    simp only [name_Letters.l]
    rw [strOfNums_size]
    by_cases hc : a < l.length
    · have hn : l.drop a ≠ [] := by intro e; have := congrArg List.length e; simp at this; omega
      have h2 : (one (l.drop a)).2 ≠ 0 := by intro e; rw [D_bad hn e] at hD; cases hD
      rw [D_ok hn h2] at hD
      obtain ⟨o', hD', rfl⟩ := Option.map_eq_some_iff.1 hD
      have hs := one_size (l.drop a)
      have hf := one_fits hn
      have h0' := one_nonneg (bytesDrop hb a) h2
      simp only [List.length_drop] at hf
      rw [if_pos hc, if_pos (by omega), decode_one hb hc h2]
      simp only []
      rw [List.drop_drop] at hD'
      rw [ih (l.length - (a + (one (l.drop a)).2.toNat)) (by omega) k (a + (one (l.drop a)).2.toNat) _ o' rfl (by omega) (by omega) (by simp; omega) hD']
      rw [Int.toNat_of_nonneg h0']
      simp
    · rw [if_neg hc]
      rw [List.drop_eq_nil_of_le (by omega), D_nil] at hD
      cases hD
      simp
theorem Letters_ev {l : List Int} (hb : Bytes l) (hl : l.length ≤ 35184372087808) : Ev (fun k => name_Letters.f k l) (Lt l) := by
  obtain ⟨K, hK⟩ := Is_ev hb
  refine ⟨K + l.length + 1, fun k hk => ?_⟩
  have e : name_Is.f k l = _ := hK k (by omega)
  show (name_Is.f k l).bind _ = _
  rw [e, Option.bind_some]
  unfold Lt
  cases hD : D l with
  | none => rfl
  | some o =>
    have := name_loop hb hl (l.length - 0) k 0 [] o rfl (by omega) (by omega) (by simp) (by simpa using hD)
    simpa using this
end Go.Proofs.YtcnmpciohpcpiaaDoor.LebM
