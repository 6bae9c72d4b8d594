import Derived.Test.YtfbdmgdbamjjhaaDoorPx14
import Derived.Test.YtfbdmgdbamjjhaaDoorOe
namespace Go.Proofs.YtfbdmgdbamjjhaaDoor.Pure
open Go Go.Proofs Go.RowKit Go.Proofs.YtfbdmgdbamjjhaaDoor.P Go.Proofs.YtfbdmgdbamjjhaaDoor.Ops
theorem j0_true (k : Nat) (hk : 400 ≤ k) (x0 x1 a0 : Int) (a1 : ByteArray) (a2 : Int) (a3 a4 : List Int) (a5 : Int) (a6 : Bool) (b0 : Int) (b1 : ByteArray) (b2 : Int) (b3 b4 : List Int) (b5 : Int) (b6 : Bool) :
    jacquardlaw10_OpsUnlike.j0 (k + 1) x0 x1 true a0 a1 a2 a3 a4 a5 a6 b0 b1 b2 b3 b4 b5 b6 = some true := by
  simp only [jacquardlaw10_OpsUnlike.j0]
  rw [if_pos trivial, works_k k hk]
  rfl
theorem OpsUnlike : jacquardlaw10_OpsUnlike.Pure := by
  intro a0 a1 h0 h1
  obtain ⟨o, ho, rfl⟩ := u16 h0
  obtain ⟨p, hp, rfl⟩ := u16 h1
  refine ⟨400 + 1, ?_⟩
  unfold jacquardlaw10_OpsUnlike.f
  rw [Of_k o ho _ (by omega), Option.bind_some, Of_k p hp _ (by omega), Option.bind_some]
  cases h2 : tbl o with
  | none =>
    rw [if_neg (show ¬ (ans (o : Int) none).2.2.2.2.2.2.2 = 0 from fun h => absurd (show (11 : Int) = 0 from h) (by decide))]
    exact j0_true 400 (by omega) _ _ _ _ _ _ _ _ _ _ _ _ _ _ _ _
  | some r =>
    rw [if_pos (show (ans (o : Int) (some r)).2.2.2.2.2.2.2 = 0 from rfl)]
    cases h3 : tbl p with
    | none => exact j0_true 400 (by omega) _ _ _ _ _ _ _ _ _ _ _ _ _ _ _ _
    | some s =>
      have e1 : nm o = r.1 := by unfold nm; rw [h2]
      have e2 : nm p = s.1 := by unfold nm; rw [h3]
      obtain ⟨n1, m1, f1, t1, b1, p1⟩ := r
      obtain ⟨n2, m2, f2, t2, b2, p2⟩ := s
      have key : ((n1.toList == n2.toList) == ((o : Int) == (p : Int))) = true := by
        by_cases e : o = p
        · subst e
          rw [h2] at h3
          cases h3
          simp
        · have hn : n1.toList ≠ n2.toList := fun h => e (nm_inj ((mem_allN o).2 (by rw [h2]; rfl)) ((mem_allN p).2 (by rw [h3]; rfl)) (by rw [e1, e2]; exact tl_inj h))
          have hi : ¬ (o : Int) = (p : Int) := by omega
          rw [beq_eq_false_iff_ne.2 hn, beq_eq_false_iff_ne.2 hi]
          rfl
      show jacquardlaw10_OpsUnlike.j0 (400 + 1) (o : Int) (p : Int) false (o : Int) n1 m1 f1 t1 b1 p1 (p : Int) n2 m2 f2 t2 b2 p2 = some true
      simp only [jacquardlaw10_OpsUnlike.j0]
      rw [if_neg (by decide), if_pos key, works_k 400 (by omega)]
      rfl
end Go.Proofs.YtfbdmgdbamjjhaaDoor.Pure
