/- The walk of the law TypesFresh: what is handed in stays, the room behind it, too; what is answered is new memory. Condition: what comes in is of bulk at most 1048576. -/
import Derived.Test.YthillgpbenjldaaGTF
import Derived.Test.YthillgpbenjldaaStmTypesFreshUpto
import Derived.Test.YthillgpbenjldaaNe
namespace Go.Proofs.Ythillgpbenjldaa.Wlk
set_option linter.unusedVariables false
set_option linter.unusedSimpArgs false
open Go.RowKit Go.Proofs.Ythillgpbenjldaa.P Go.Proofs.YthillgpbenjldaaW.PrintWords Go.Proofs.YthillgpbenjldaaW.PrintLast Go.Proofs.Ythillgpbenjldaa.LebM
theorem copy_eq {l : List Int} (hl : l.length ≤ 1048576) : jacquardref00_CopyTypes.f l = some l := by
  unfold jacquardref00_CopyTypes.f
  rw [if_pos (by simp only [List.length_nil]; omega), List.nil_append]
theorem fresh_l0 {l p r : List Int} (hl : l.length ≤ 140737488351232) (hp : p.length ≤ 1048576) (hr : r.length ≤ 1048576) (K : Nat)
    (e1 : ∀ k, K ≤ k → types_Put.f k p r = some (Pf p r)) (e2 : ∀ k, K ≤ k → jacquardref09_Put.f k p r = some (Pf p r)) (e3 : ∀ k, K ≤ k → jacquardref00_Same.f k l l = some true) (e4 : ∀ k, K ≤ k → jacquardref00_Same.f k (Pf p r) (Pf p r) = some true)
    (e5 : ∀ k, K ≤ k → jacquardref00_Func.f k p r p r = some true) (e6 : ∀ k, K ≤ k → jacquardlaw09_works.f k = some true) (y : List Int) :
    ∀ (n i : Nat) (x : List Int), x.length ≤ 140737488351232 → i + n = x.length → ∀ k, n + 1 + K ≤ k → jacquardlaw09_TypesFresh.l0 k l l (i : Int) p r x y = some true := by
  intro n
  induction n with
  | zero =>
    intro i x hx hi k hk
    obtain ⟨k, rfl⟩ : ∃ m, k = m + 1 := ⟨k - 1, by omega⟩
    simp only [jacquardlaw09_TypesFresh.l0]
    rw [if_neg (by omega)]
    simp only [copy_eq hp, copy_eq hr, e1 k (by omega), e2 k (by omega), e3 k (by omega), e4 k (by omega), e5 k (by omega), e6 k (by omega), Option.bind_some, if_true]
  | succ n ih =>
    intro i x hx hi k hk
    obtain ⟨k, rfl⟩ : ∃ m, k = m + 1 := ⟨k - 1, by omega⟩
    simp only [jacquardlaw09_TypesFresh.l0]
    have hw : wrap64 ((i : Int) + 1) = ((i + 1 : Nat) : Int) := by unfold wrap64; omega
    rw [if_pos (by omega), if_pos (by omega), hw]
    exact ih (i + 1) _ (by rw [List.length_set]; exact hx) (by rw [List.length_set]; omega) k (by omega)
theorem TypesFreshUpto : Stm.TypesFreshUpto := by
  intro A0 c0 l A1 c1 p A2 c2 r w r0 q0 _ hw r1 q1 _ _ r2 q2 _ _ hlen
  have hB := bytes_wf hw
  have hl : l.length ≤ 140737488351232 := by omega
  have x1 := Pf_len p r
  have x2 := Pk_len p
  have x3 := Pk_len r
  obtain ⟨K0, h0⟩ := func_ev hB hl (a := 0) (by omega)
  obtain ⟨f1, f2⟩ := Fs_len hl (a := 0)
  obtain ⟨K1, h1⟩ := Put_ev (p := p) (r := r) (by omega) (by omega)
  obtain ⟨K2, h2⟩ := refPut_ev (p := p) (r := r) (by omega) (by omega)
  obtain ⟨K3, h3⟩ := same_self (l := l) hl
  obtain ⟨K4, h4⟩ := same_self (l := Pf p r) (by omega)
  obtain ⟨K5, h5⟩ := funcSame_ev (x := p) (y := r) (x' := p) (y' := r) (by omega) (by omega)
  obtain ⟨K6, h6⟩ := works_ev
  have h5' : ∀ k, K5 ≤ k → jacquardref00_Func.f k p r p r = some true := fun k hk => by
    have := h5 k hk
    simpa using this
  have key := fresh_l0 hl (p := p) (r := r) (by omega) (by omega) (K1 + K2 + K3 + K4 + K5 + K6) (fun k hk => h1 k (by omega)) (fun k hk => h2 k (by omega)) (fun k hk => h3 k (by omega)) (fun k hk => h4 k (by omega)) (fun k hk => h5' k (by omega)) (fun k hk => h6 k (by omega)) (Fs l 0).2.1 (Fs l 0).1.length 0 (Fs l 0).1 f1 (by omega)
  obtain ⟨K, hK⟩ : ∃ K, K = K0 + (Fs l 0).1.length + 1 + (K1 + K2 + K3 + K4 + K5 + K6) := ⟨_, rfl⟩
  have h : jacquardlaw09_TypesFresh.f K l p r = some true := by
    unfold jacquardlaw09_TypesFresh.f
    rw [show types_Func.f K l 0 = some (Fs l 0) from h0 K (by omega), Option.bind_some]
    exact key K (by omega)
  refine (jacquardlaw09_TypesFresh.calls K _ _ l _ _ p _ _ r w r0 q0 r1 q1 r2 q2 hl h).mono ?_
  rintro e w' ⟨rfl, hd⟩
  exact ⟨rfl, hd⟩
end Go.Proofs.Ythillgpbenjldaa.Wlk
