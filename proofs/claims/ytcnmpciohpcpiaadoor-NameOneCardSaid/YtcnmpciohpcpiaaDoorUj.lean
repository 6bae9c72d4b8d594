/- Letters and their bytes: what is put is read, what is read is put so; a text cut. -/
import Derived.Test.YtcnmpciohpcpiaaDoorUh
namespace Go.Proofs.YtcnmpciohpcpiaaDoor.LebM
set_option linter.unusedVariables false
set_option linter.unusedSimpArgs false
open Go.RowKit Go.Proofs.YtcnmpciohpcpiaaDoorW.PrintWords Go.Proofs.YtcnmpciohpcpiaaDoorW.PrintLast Go.Proofs.YtcnmpciohpcpiaaDoorW.PrintMore Go.Proofs.YtcnmpciohpcpiaaDoor.P
theorem rc0 (a : Int) (l : List Int) : rd (a :: l) 0 = a := by simp [rd]
theorem rc1 (a b : Int) (l : List Int) : rd (a :: b :: l) 1 = b := by simp [rd]
theorem rc2 (a b c : Int) (l : List Int) : rd (a :: b :: c :: l) 2 = c := by simp [rd]
theorem rc3 (a b c d : Int) (l : List Int) : rd (a :: b :: c :: d :: l) 3 = d := by simp [rd]
theorem one_enc {r : Int} (h : let_ r) (t : List Int) : one (enc r ++ t) = (r, ((enc r).length : Int)) := by
  unfold let_ at h
  unfold enc
  by_cases c1 : r < 128
  · rw [if_pos c1]
    simp only [List.cons_append, List.nil_append, one, rc0, List.length_cons, List.length_nil]
    rw [if_pos c1]
    rfl
  rw [if_neg c1]
  by_cases c2 : r < 2048
  · rw [if_pos c2]
    simp only [List.cons_append, List.nil_append, one, rc0, rc1, List.length_cons, List.length_nil]
    rw [if_neg (by omega), if_pos (by omega)]
    congr 1; omega
  rw [if_neg c2]
  by_cases c3 : r < 65536
  · rw [if_pos c3]
    simp only [List.cons_append, List.nil_append, one, rc0, rc1, rc2, List.length_cons, List.length_nil]
    rw [if_neg (by omega), if_neg (by omega), if_pos (by omega)]
    congr 1; omega
  rw [if_neg c3]
  simp only [List.cons_append, List.nil_append, one, rc0, rc1, rc2, rc3, List.length_cons, List.length_nil]
  rw [if_neg (by omega), if_neg (by omega), if_neg (by omega), if_pos (by omega)]
  congr 1; omega
theorem len_pos {l : List Int} (h : l ≠ []) : 1 ≤ l.length := List.length_pos_iff.2 h
theorem at0 {l : List Int} (h : 1 ≤ l.length) : l = rd l 0 :: l.drop 1 := by have := rd_at (l := l) (i := 0) (by omega); simpa using this
theorem at1 {l : List Int} (h : 2 ≤ l.length) : l.drop 1 = rd l 1 :: l.drop 2 := by simpa using rd_at (l := l) (i := 1) (by omega)
theorem at2 {l : List Int} (h : 3 ≤ l.length) : l.drop 2 = rd l 2 :: l.drop 3 := by simpa using rd_at (l := l) (i := 2) (by omega)
theorem at3 {l : List Int} (h : 4 ≤ l.length) : l.drop 3 = rd l 3 :: l.drop 4 := by simpa using rd_at (l := l) (i := 3) (by omega)
theorem enc_one {l : List Int} (hb : Bytes l) (hn : l ≠ []) (h : (one l).2 ≠ 0) : let_ (one l).1 ∧ l = enc (one l).1 ++ l.drop (one l).2.toNat := by
  have b0 := rd_bd hb 0
  have hp := len_pos hn
  have e0 := at0 hp
  unfold one at h ⊢
  unfold let_
  by_cases c1 : rd l 0 < 128
  · simp only [if_pos c1]
    refine ⟨by omega, ?_⟩
    unfold enc
    rw [if_pos c1]
    exact e0
  simp only [if_neg c1] at h ⊢
  split at h
  · rename_i c2
    rw [if_pos c2]
    refine ⟨by simp only []; omega, ?_⟩
    have e1 := at1 (l := l) (by omega)
    simp only [enc]
    rw [if_neg (by omega), if_pos (by omega)]
    rw [e1] at e0
    show l = [_, _] ++ l.drop 2
    rw [show 192 + (64 * (rd l 0 - 192) + (rd l 1 - 128)) / 64 = rd l 0 by omega, show 128 + (64 * (rd l 0 - 192) + (rd l 1 - 128)) % 64 = rd l 1 by omega]
    exact e0
  · rename_i c2
    rw [if_neg c2]
    split at h
    · rename_i c3
      rw [if_pos c3]
      refine ⟨by simp only []; omega, ?_⟩
      have e1 := at1 (l := l) (by omega)
      have e2 := at2 (l := l) (by omega)
      rw [e1, e2] at e0
      simp only [enc]
      generalize hv : 4096 * (rd l 0 - 224) + 64 * (rd l 1 - 128) + (rd l 2 - 128) = v at *
      rw [if_neg (by omega), if_neg (by omega), if_pos (by omega)]
      show l = [_, _, _] ++ l.drop 3
      rw [show 224 + v / 4096 = rd l 0 by omega, show 128 + v / 64 % 64 = rd l 1 by omega, show 128 + v % 64 = rd l 2 by omega]
      exact e0
    · rename_i c3
      rw [if_neg c3]
      split at h
      · rename_i c4
        rw [if_pos c4]
        refine ⟨by simp only []; omega, ?_⟩
        have e1 := at1 (l := l) (by omega)
        have e2 := at2 (l := l) (by omega)
        have e3 := at3 (l := l) (by omega)
        rw [e1, e2, e3] at e0
        simp only [enc]
        generalize hv : 262144 * (rd l 0 - 240) + 4096 * (rd l 1 - 128) + 64 * (rd l 2 - 128) + (rd l 3 - 128) = v at *
        rw [if_neg (by omega), if_neg (by omega), if_neg (by omega)]
        show l = [_, _, _, _] ++ l.drop 4
        rw [show 240 + v / 262144 = rd l 0 by omega, show 128 + v / 4096 % 64 = rd l 1 by omega, show 128 + v / 64 % 64 = rd l 2 by omega, show 128 + v % 64 = rd l 3 by omega]
        exact e0
      · exact absurd rfl h
theorem enc_ne (r : Int) : enc r ≠ [] := by
  unfold enc
  repeat' split
  all_goals simp
theorem enc_pos (r : Int) : 1 ≤ (enc r).length := len_pos (enc_ne r)
theorem D_enc {r : Int} (h : let_ r) (t : List Int) : D (enc r ++ t) = (D t).map (r :: ·) := by
  have h1 := one_enc h t
  have hp := enc_pos r
  rw [D_ok (by simp [enc_ne]) (by rw [h1]; simp only []; omega), h1]
  simp
theorem D_put : ∀ {l o : List Int} (t : List Int), Pt l = some o → D (o ++ t) = (D t).map (l ++ ·)
  | [], o, t, h => by cases h; rw [List.nil_append]; cases D t <;> rfl
  | n :: l, o, t, h => by
    simp only [Pt] at h
    split at h
    · rename_i hn
      obtain ⟨o', h', rfl⟩ := Option.map_eq_some_iff.1 h
      rw [List.append_assoc, D_enc hn, D_put t h']
      cases D t <;> simp
    · cases h
theorem put_D (n : Nat) : ∀ {l o : List Int}, l.length ≤ n → Bytes l → D l = some o → Pt o = some l := by
  induction n with
  | zero =>
    intro l o hl hb h
    obtain rfl : l = [] := List.eq_nil_of_length_eq_zero (by omega)
    rw [D_nil] at h
    cases h
    rfl
  | succ n ih =>
    intro l o hl hb h
    by_cases hn : l = []
    · subst hn; rw [D_nil] at h; cases h; rfl
    · by_cases h2 : (one l).2 = 0
      · rw [D_bad hn h2] at h; cases h
      · rw [D_ok hn h2] at h
        obtain ⟨o', h', rfl⟩ := Option.map_eq_some_iff.1 h
        have hs := one_size l
        have := len_pos hn
        obtain ⟨e1, e2⟩ := enc_one hb hn h2
        have := ih (l := l.drop (one l).2.toNat) (by simp only [List.length_drop]; omega) (fun x hx => hb x (List.mem_of_mem_drop hx)) h'
        simp only [Pt]
        rw [if_pos e1, this, Option.map_some, ← e2]
theorem enc_cut {r : Int} (h : let_ r) {a : Nat} (h1 : 0 < a) (h2 : a < (enc r).length) (t : List Int) : (one ((enc r).take a)).2 = 0 ∧ (one ((enc r).drop a ++ t)).2 = 0 := by
  unfold let_ at h
  unfold enc at h2 ⊢
  by_cases c1 : r < 128
  · rw [if_pos c1] at h2; simp at h2; omega
  rw [if_neg c1] at h2 ⊢
  have key : ∀ (x : Int) (y : List Int), 128 ≤ x → x < 192 → (one (x :: y)).2 = 0 := by
    intro x y h1 h2
    simp only [one, rc0]
    rw [if_neg (by omega), if_neg (by omega), if_neg (by omega), if_neg (by omega)]
  by_cases c2 : r < 2048
  · rw [if_pos c2] at h2 ⊢
    simp only [List.length_cons, List.length_nil] at h2
    obtain rfl : a = 1 := by omega
    refine ⟨?_, key _ _ (by omega) (by omega)⟩
    show (one [_]).2 = 0
    simp only [one, rc0, List.length_cons, List.length_nil]
    rw [if_neg (by omega), if_neg (by omega), if_neg (by omega), if_neg (by omega)]
  rw [if_neg c2] at h2 ⊢
  by_cases c3 : r < 65536
  · rw [if_pos c3] at h2 ⊢
    simp only [List.length_cons, List.length_nil] at h2
    rcases (by omega : a = 1 ∨ a = 2) with rfl | rfl
    · refine ⟨?_, key _ _ (by omega) (by omega)⟩
      show (one [_]).2 = 0
      simp only [one, rc0, List.length_cons, List.length_nil]
      rw [if_neg (by omega), if_neg (by omega), if_neg (by omega), if_neg (by omega)]
    · refine ⟨?_, key _ _ (by omega) (by omega)⟩
      show (one [_, _]).2 = 0
      simp only [one, rc0, List.length_cons, List.length_nil]
      rw [if_neg (by omega), if_neg (by omega), if_neg (by omega), if_neg (by omega)]
  rw [if_neg c3] at h2 ⊢
  simp only [List.length_cons, List.length_nil] at h2
  rcases (by omega : a = 1 ∨ a = 2 ∨ a = 3) with rfl | rfl | rfl
  · refine ⟨?_, key _ _ (by omega) (by omega)⟩
    show (one [_]).2 = 0
    simp only [one, rc0, List.length_cons, List.length_nil]
    rw [if_neg (by omega), if_neg (by omega), if_neg (by omega), if_neg (by omega)]
  · refine ⟨?_, key _ _ (by omega) (by omega)⟩
    show (one [_, _]).2 = 0
    simp only [one, rc0, List.length_cons, List.length_nil]
    rw [if_neg (by omega), if_neg (by omega), if_neg (by omega), if_neg (by omega)]
  · refine ⟨?_, key _ _ (by omega) (by omega)⟩
    show (one [_, _, _]).2 = 0
    simp only [one, rc0, List.length_cons, List.length_nil]
    rw [if_neg (by omega), if_neg (by omega), if_neg (by omega), if_neg (by omega)]
theorem map_some {o : Option (List Int)} (f : List Int → List Int) : (o.map f).isSome = o.isSome := by cases o <;> rfl
theorem cut_text : ∀ {l o : List Int} (a : Nat), Pt l = some o → a ≤ o.length → (D (o.take a)).isSome = (D (o.drop a)).isSome
  | [], o, a, h, ha => by cases h; simp [D_nil]
  | n :: l, o, a, h, ha => by
    have h0 := h
    simp only [Pt] at h
    split at h
    · rename_i hn
      obtain ⟨o', h', rfl⟩ := Option.map_eq_some_iff.1 h
      by_cases c0 : a = 0
      · subst c0
        have := D_put [] h0
        rw [List.append_nil] at this
        simp [D_nil, this]
      by_cases c1 : a < (enc n).length
      · obtain ⟨q1, q2⟩ := enc_cut hn (by omega) c1 o'
        rw [List.take_append_of_le_length (by omega), List.drop_append_of_le_length (by omega), D_bad (by intro e; have := congrArg List.length e; simp only [List.length_take, List.length_nil] at this; omega) q1, D_bad (by intro e; have := congrArg List.length e; simp only [List.length_append, List.length_drop, List.length_nil] at this; omega) q2]
      · have e1 : (enc n ++ o').take a = enc n ++ o'.take (a - (enc n).length) := by
          rw [List.take_append, List.take_of_length_le (by omega)]
        have e2 : (enc n ++ o').drop a = o'.drop (a - (enc n).length) := by
          rw [List.drop_append, List.drop_eq_nil_of_le (by omega), List.nil_append]
        rw [e1, e2, D_enc hn, map_some]
        simp only [List.length_append] at ha
        exact cut_text (a - (enc n).length) h' (by omega)
    · cases h
theorem enc_bytes {r : Int} (h : let_ r) : Bytes (enc r) := by
  unfold let_ at h
  intro x hx
  unfold enc at hx
  repeat' split at hx
  all_goals (simp only [List.mem_cons, List.not_mem_nil, or_false] at hx; omega)
theorem Pt_bytes : ∀ {l o : List Int}, Pt l = some o → Bytes o
  | [], o, h => by cases h; intro x hx; simp at hx
  | n :: l, o, h => by
    simp only [Pt] at h
    split at h
    · rename_i hn
      obtain ⟨o', h', rfl⟩ := Option.map_eq_some_iff.1 h
      intro x hx
      rcases List.mem_append.1 hx with hx | hx
      · exact enc_bytes hn x hx
      · exact Pt_bytes h' x hx
    · cases h
end Go.Proofs.YtcnmpciohpcpiaaDoor.LebM
