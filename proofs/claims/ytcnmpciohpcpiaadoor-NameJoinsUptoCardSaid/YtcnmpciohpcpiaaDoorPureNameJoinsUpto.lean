/- Two texts, one behind the other, are one, whose letters are those of both; a text cut within a letter is none. Condition: what comes in is of bulk at most 1048576. -/
import Derived.Test.YtcnmpciohpcpiaaDoorPx9
import Derived.Test.YtcnmpciohpcpiaaDoorUj
import Derived.Test.YtcnmpciohpcpiaaDoorUi
namespace Go.Proofs.YtcnmpciohpcpiaaDoor.Pure
set_option linter.unusedVariables false
set_option linter.unusedSimpArgs false
open Go.RowKit Go.Proofs.YtcnmpciohpcpiaaDoor.P Go.Proofs.YtcnmpciohpcpiaaDoorW.PrintWords Go.Proofs.YtcnmpciohpcpiaaDoorW.PrintLast Go.Proofs.YtcnmpciohpcpiaaDoorW.PrintMore Go.Proofs.YtcnmpciohpcpiaaDoor.LebM
theorem joins_short (k : Nat) (h : jacquardlaw02_works.f k = some true) (l m : List Int) (c : Int) (a b : List Int) : jacquardlaw02_NameJoins.j0 (k + 1) l m c a b true = some true := by
  simp [jacquardlaw02_NameJoins.j0, h]
theorem Pt_app : ∀ {l m a b : List Int}, Pt l = some a → Pt m = some b → Pt (l ++ m) = some (a ++ b)
  | [], m, a, b, h, h2 => by cases h; simpa using h2
  | n :: l, m, a, b, h, h2 => by
    simp only [Pt] at h
    split at h
    · rename_i hn
      obtain ⟨o', h', rfl⟩ := Option.map_eq_some_iff.1 h
      simp only [List.cons_append, Pt]
      rw [if_pos hn, Pt_app h' h2]
      simp
    · cases h
theorem u8_wf {a : Int} (h : (Lit.int .u8 a).wf = true) : 0 ≤ a ∧ a < 256 := by
  have := bytes_wf (l := [a]) (by intro x hx; simp at hx; subst hx; exact h)
  exact this a (by simp)
theorem joins_cut {l o : List Int} (h : Pt l = some o) (ho : o.length ≤ 8388608) {c : Int} (h0 : 0 ≤ c) (h1 : c < 256) : Ev (fun k => jacquardlaw02_NameJoins.j1 k c o false) true := by
  have hB := Pt_bytes h
  obtain ⟨n, hn⟩ : ∃ n : Nat, Int.tmod c ((o.length : Int) + 1) = n ∧ n ≤ o.length := by
    rw [Int.tmod_eq_emod_of_nonneg h0]
    have q0 := Int.emod_nonneg c (b := (o.length : Int) + 1) (by omega)
    have q1 := Int.emod_lt_of_pos c (b := (o.length : Int) + 1) (by omega)
    exact ⟨(c % ((o.length : Int) + 1)).toNat, by omega, by omega⟩
  obtain ⟨K1, h1'⟩ := Is_ev (bytes_take hB n)
  obtain ⟨K2, h2⟩ := Is_ev (bytes_drop hB n)
  obtain ⟨K3, h3⟩ := works_ev
  refine ⟨K1 + K2 + K3 + 1, fun k hk => ?_⟩
  obtain ⟨k, rfl⟩ : ∃ m, k = m + 1 := ⟨k - 1, by omega⟩
  have e1 : name_Is.f k (o.take n) = some _ := h1' k (by omega)
  have e2 : name_Is.f k (o.drop n) = some _ := h2 k (by omega)
  have e3 : jacquardlaw02_works.f k = some true := h3 k (by omega)
  show jacquardlaw02_NameJoins.j1 (k + 1) c o false = _
  have w1 : wrap64 ((o.length : Int) + 1) = (o.length : Int) + 1 := w64 (by omega) (by omega)
  have w2 : wrap64 c = c := w64 (by omega) (by omega)
  have hc := cut_text n h hn.2
  simp only [jacquardlaw02_NameJoins.j1]
  rw [w1, w2, hn.1, Int.toNat_natCast, e1, e2, hc]
  rw [if_neg (by decide), if_neg (by omega), if_pos (by omega), if_pos (by omega)]
  simp [e3]
theorem NameJoinsUpto : ∀ (l0 : List Int) (l1 : List Int) (a2 : Int), l0.length ≤ maxLen → l0.length * 4 ≤ 140737488351232 → (∀ x ∈ l0, (Lit.int .i32 x).wf = true) → l1.length ≤ maxLen → l1.length * 4 ≤ 140737488351232 → (∀ x ∈ l1, (Lit.int .i32 x).wf = true) → (Lit.int .u8 a2).wf = true → l0.length + l1.length ≤ 1048576 → ∃ k, jacquardlaw02_NameJoins.f k l0 l1 a2 = some true := by
  intro l m c _ _ hl _ _ hm hc hlen
  obtain ⟨c0, c1⟩ := u8_wf hc
  obtain ⟨K1, h1⟩ := Put_ev (l := l) (by omega)
  obtain ⟨K2, h2⟩ := Put_ev (l := m) (by omega)
  obtain ⟨K3, h3⟩ := works_ev
  have bad : ∀ a b, Ev (fun k => jacquardlaw02_NameJoins.j0 k l m c a b true) true := fun a b => ⟨K3 + 1, fun k hk => by
    obtain ⟨k, rfl⟩ : ∃ m, k = m + 1 := ⟨k - 1, by omega⟩
    exact joins_short k (h3 k (by omega)) l m c a b⟩
  obtain ⟨K4, h4⟩ := bad (Pa l).1 (Pa m).1
  cases hP : Pt l with
  | none =>
    have eP : (Pa l).2 = 2 := by unfold Pa; rw [hP]
    obtain ⟨k, hk⟩ : ∃ k, k = K1 + K2 + K4 := ⟨_, rfl⟩
    refine ⟨k, ?_⟩
    have e1 : name_Put.f k l = some _ := h1 k (by omega)
    have e2 : name_Put.f k m = some _ := h2 k (by omega)
    have e4 : jacquardlaw02_NameJoins.j0 k l m c (Pa l).1 (Pa m).1 true = some true := h4 k (by omega)
    simp only [jacquardlaw02_NameJoins.f, e1, e2, Option.bind_some]
    rw [eP, if_neg (by decide)]
    exact e4
  | some a =>
    have eP : Pa l = (a, 0) := by unfold Pa; rw [hP]
    cases hQ : Pt m with
    | none =>
      have eQ : (Pa m).2 = 2 := by unfold Pa; rw [hQ]
      obtain ⟨k, hk⟩ : ∃ k, k = K1 + K2 + K4 := ⟨_, rfl⟩
      refine ⟨k, ?_⟩
      have e1 : name_Put.f k l = some _ := h1 k (by omega)
      have e2 : name_Put.f k m = some _ := h2 k (by omega)
      have e4 : jacquardlaw02_NameJoins.j0 k l m c (Pa l).1 (Pa m).1 true = some true := h4 k (by omega)
      simp only [jacquardlaw02_NameJoins.f, e1, e2, Option.bind_some]
      rw [eQ, if_pos (by rw [eP])]
      exact e4
    | some b =>
      have eQ : Pa m = (b, 0) := by unfold Pa; rw [hQ]
      have ha := Pt_length hP
      have hb := Pt_length hQ
      have hPP := Pt_app hP hQ
      have hB := Pt_bytes hPP
      have hD : D (a ++ b) = some (l ++ m) := by have := D_put [] hPP; rw [List.append_nil, D_nil] at this; simpa using this
      have eL : Lt (a ++ b) = (l ++ m, 0) := by unfold Lt; rw [hD]
      have hab : (a ++ b).length = a.length + b.length := List.length_append
      have hlm : (l ++ m).length = l.length + m.length := List.length_append
      obtain ⟨K5, h5⟩ := Letters_ev hB (by omega)
      obtain ⟨K6, h6⟩ := runes_self (l := l ++ m) (by omega)
      obtain ⟨K7, h7⟩ := joins_cut hPP (by omega) c0 c1
      obtain ⟨k, hk⟩ : ∃ k, k = K1 + K2 + K5 + K6 + K7 := ⟨_, rfl⟩
      refine ⟨k + 1, ?_⟩
      have e1 : name_Put.f (k + 1) l = some _ := h1 (k + 1) (by omega)
      have e2 : name_Put.f (k + 1) m = some _ := h2 (k + 1) (by omega)
      have e5 : name_Letters.f k (a ++ b) = some _ := h5 k (by omega)
      have e6 : jacquardref00_Runes.f k (l ++ m) (l ++ m) = some true := h6 k (by omega)
      have e7 : jacquardlaw02_NameJoins.j1 k c (a ++ b) false = some true := h7 k (by omega)
      simp only [jacquardlaw02_NameJoins.f, e1, e2, eP, eQ, Option.bind_some, if_true]
      show jacquardlaw02_NameJoins.j0 (k + 1) l m c a b false = _
      simp only [jacquardlaw02_NameJoins.j0, Option.bind_some, List.nil_append, List.length_nil]
      rw [if_neg (by decide), if_pos (by omega), if_pos (by omega), e5, eL]
      simp only [Option.bind_some]
      rw [if_pos (by omega), if_pos (by omega), if_pos trivial, e6]
      simpa using e7
end Go.Proofs.YtcnmpciohpcpiaaDoor.Pure
