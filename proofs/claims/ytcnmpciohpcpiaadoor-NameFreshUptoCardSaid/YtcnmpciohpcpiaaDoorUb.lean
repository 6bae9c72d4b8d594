/- All letters of bytes ('D'); the document's Letters and Is; the program's Letters where the bytes are a text. -/
import Derived.Test.YtcnmpciohpcpiaaDoorUa
namespace Go.Proofs.YtcnmpciohpcpiaaDoor.LebM
open Go.RowKit Go.Proofs.YtcnmpciohpcpiaaDoorW.PrintWords Go.Proofs.YtcnmpciohpcpiaaDoorW.PrintLast Go.Proofs.YtcnmpciohpcpiaaDoorW.PrintMore Go.Proofs.YtcnmpciohpcpiaaDoor.P
theorem one_size (l : List Int) : (one l).2 = 0 ∨ (one l).2 = 1 ∨ (one l).2 = 2 ∨ (one l).2 = 3 ∨ (one l).2 = 4 := by
  unfold one
  repeat' split
  all_goals simp
theorem one_fits {l : List Int} (h : l ≠ []) : (one l).2 ≤ l.length := by
  have : 1 ≤ l.length := List.length_pos_iff.2 h
  unfold one
  repeat' split
  all_goals (simp only []; omega)
set_option linter.unusedVariables false
def D (l : List Int) : Option (List Int) :=
  if h : l = [] then some [] else if h2 : (one l).2 = 0 then none else (D (l.drop (one l).2.toNat)).map ((one l).1 :: ·)
termination_by l.length
decreasing_by
  have := List.length_pos_iff.2 h
  have := one_size l
  simp only [List.length_drop]
  omega
theorem D_nil : D [] = some [] := by rw [D]; simp
theorem D_bad {l : List Int} (h : l ≠ []) (h2 : (one l).2 = 0) : D l = none := by rw [D]; simp [h, h2]
theorem D_ok {l : List Int} (h : l ≠ []) (h2 : (one l).2 ≠ 0) : D l = (D (l.drop (one l).2.toNat)).map ((one l).1 :: ·) := by rw [D]; simp [h, h2]
theorem D_length (n : Nat) : ∀ {l o : List Int}, l.length ≤ n → D l = some o → o.length ≤ l.length := by
  induction n with
  | zero =>
    intro l o hl h
    obtain rfl : l = [] := List.eq_nil_of_length_eq_zero (by omega)
    rw [D_nil] at h
    cases h
    simp
  | succ n ih =>
    intro l o hl h
    by_cases hn : l = []
    · subst hn; rw [D_nil] at h; cases h; simp
    · by_cases h2 : (one l).2 = 0
      · rw [D_bad hn h2] at h; cases h
      · rw [D_ok hn h2] at h
        obtain ⟨o', h', rfl⟩ := Option.map_eq_some_iff.1 h
        have hs := one_size l
        have := ih (l := l.drop (one l).2.toNat) (by have := List.length_pos_iff.2 hn; simp only [List.length_drop]; omega) h'
        have := List.length_pos_iff.2 hn
        simp only [List.length_drop, List.length_cons] at *
        omega
def Lt (l : List Int) : List Int × Int := match D l with | some o => (o, 0) | none => ([], 4)
theorem letters_loop {l : List Int} (hb : Bytes l) (hl : l.length ≤ 35184372087808) (d : Nat) :
    ∀ (k a : Nat) (out : List Int), l.length - a = d → a ≤ l.length → d + 9 ≤ k → out.length ≤ a →
      jacquardref02_Letters.l0 k l out (a : Int) = some (match D (l.drop a) with | some o => (out ++ o, 0) | none => ([], 4)) := by
  induction d using Nat.strongRecOn with
  | ind d ih =>
    intro k a out h0 h1 hk ho
    obtain ⟨k, rfl⟩ : ∃ m, k = m + 1 := ⟨k - 1, by omega⟩
    simp only [jacquardref02_Letters.l0]
    by_cases hc : a < l.length
    · have hn : l.drop a ≠ [] := by intro e; have := congrArg List.length e; simp at this; omega
      by_cases hk9 : 9 ≤ k
      · obtain ⟨m, rfl⟩ : ∃ m, k = m + 9 := ⟨k - 9, by omega⟩
        rw [if_pos (by omega), first_eq hb (by omega) hc m, Option.bind_some]
        by_cases h2 : (one (l.drop a)).2 = 0
        · rw [if_pos h2, D_bad hn h2]
        · have hs := one_size (l.drop a)
          have hf := one_fits hn
          simp only [List.length_drop] at hf
          rw [if_neg h2, if_pos (by omega), D_ok hn h2, w64 (by omega) (by omega)]
          have ea : (a : Int) + (one (l.drop a)).2 = ((a + (one (l.drop a)).2.toNat : Nat) : Int) := by omega
          rw [ea, ih (l.length - (a + (one (l.drop a)).2.toNat)) (by omega) (m + 9) (a + (one (l.drop a)).2.toNat) _ rfl (by omega) (by omega) (by simp; omega)]
          rw [List.drop_drop]
          congr 1
          rcases D (l.drop (a + (one (l.drop a)).2.toNat)) with _ | o
          · rfl
          · simp
      · omega
    · rw [if_neg (by omega), List.drop_eq_nil_of_le (by omega), D_nil]
      simp
theorem refLetters_ev {l : List Int} (hb : Bytes l) (hl : l.length ≤ 35184372087808) : Ev (fun k => jacquardref02_Letters.f k l) (Lt l) := by
  refine ⟨l.length + 9, fun k hk => ?_⟩
  unfold jacquardref02_Letters.f
  have := letters_loop hb hl (l.length - 0) k 0 [] rfl (by omega) (by omega) (by simp)
  rw [show ((0 : Nat) : Int) = 0 from rfl] at this
  show jacquardref02_Letters.l0 k l [] 0 = _
  rw [this]
  simp [Lt]
theorem refIs_ev {l : List Int} (hb : Bytes l) (hl : l.length ≤ 35184372087808) : Ev (fun k => jacquardref02_Is.f k l) (D l).isSome := by
  obtain ⟨K, hK⟩ := refLetters_ev hb hl
  refine ⟨K, fun k hk => ?_⟩
  have e : jacquardref02_Letters.f k l = some _ := hK k hk
  show (jacquardref02_Letters.f k l).bind _ = _
  rw [e, Option.bind_some]
  unfold Lt
  cases D l <;> rfl
end Go.Proofs.YtcnmpciohpcpiaaDoor.LebM
