import Derived.Test.YtfbdmgdbamjjhaaDoorOc
import Derived.Test.YtfbdmgdbamjjhaaDoorPx9
/-! The document's Of at whatever number. -/
namespace Go.Proofs.YtfbdmgdbamjjhaaDoor.Ops
open Go Go.Proofs Go.RowKit Go.Proofs.YtfbdmgdbamjjhaaDoor.P Go.Proofs.YtfbdmgdbamjjhaaDoorW.PrintWords
set_option maxRecDepth 100000
def rat_ (o : Nat) : Bool := decide (jacquardref10_Of.f 1000 (o : Int) = some (ans (o : Int) (tbl o)))
theorem rat0 : (List.range 128).all (fun n => rat_ n) = true := by decide +kernel
theorem rat1 : (List.range 128).all (fun n => rat_ (n + 128)) = true := by decide +kernel
theorem rat2 : (List.range 256).all (fun n => rat_ (n + 64512)) = true := by decide +kernel
theorem rat3 : (List.range 128).all (fun n => rat_ (n + 64768)) = true := by decide +kernel
theorem rat4 : (List.range 145).all (fun n => rat_ (n + 64896)) = true := by decide +kernel
def fams : List (List S52) := (jacquardref10_families.f).getD []
theorem fams_eq : jacquardref10_families.f = some fams := by kernel_rfl
def far (s : S52) : Bool := decide (0 ≤ s.f0) && (decide (s.f0 + 20 < 256) || decide (64512 ≤ s.f0)) && decide (s.f0 + 20 ≤ 65040)
theorem fams_far : (List.range fams.length).all (fun i => (List.range (rd_L10 fams i).length).all fun j => far (rd_T52 (rd_L10 fams i) j)) = true := by decide +kernel
theorem fams_short : fams.length < 100 ∧ (List.range fams.length).all (fun i => decide ((rd_L10 fams i).length < 1000)) = true := by decide +kernel
theorem w16 {n : Int} (h0 : 0 ≤ n) (h : n < 65536) : IntKind.u16.wrap n = n := by
  simp [IntKind.wrap, IntKind.bits, IntKind.signed]
  omega
theorem l1_skip (o : Int) (F : List (List S52)) (i : Nat) (hi : i < F.length) (hl : (rd_L10 F i).length < 1000)
    (hrow : ∀ j : Nat, j < (rd_L10 F i).length → o < (rd_T52 (rd_L10 F i) j).f0 ∨ IntKind.u16.wrap ((rd_T52 (rd_L10 F i) j).f0 + 20) < o) :
    ∀ (n j k : Nat), j + n = (rd_L10 F i).length → jacquardref10_Of.l1 (2 * n + 1 + k) o F i j = jacquardref10_Of.l0 k o F (wrap64 ((i : Int) + 1)) := by
  intro n
  induction n with
  | zero =>
    intro j k hj
    rw [show 2 * 0 + 1 + k = k + 1 by omega]
    simp only [jacquardref10_Of.l1]
    rw [if_pos (by omega), if_pos (by omega), if_neg (by omega)]
  | succ n ih =>
    intro j k hj
    have hw : wrap64 ((j : Int) + 1) = ((j + 1 : Nat) : Int) := by rw [w64 (by omega) (by omega)]; omega
    rw [show 2 * (n + 1) + 1 + k = (2 * n + 1 + k) + 1 + 1 by omega]
    simp only [jacquardref10_Of.l1]
    rw [if_pos (by omega), if_pos (by omega), if_pos (by omega), if_pos (by omega)]
    have hr := hrow j (by omega)
    by_cases hlt : o < (rd_T52 (rd_L10 F i) j).f0
    · rw [if_pos hlt]
      simp only [jacquardref10_Of.j2]
      rw [if_pos trivial, hw]
      exact ih (j + 1) k (by omega)
    · rw [if_neg hlt]
      have hd : decide (o > IntKind.u16.wrap ((rd_T52 (rd_L10 F i) j).f0 + 20)) = true := decide_eq_true (by omega)
      rw [hd]
      simp only [jacquardref10_Of.j2]
      rw [if_pos trivial, hw]
      exact ih (j + 1) k (by omega)
theorem l0_skip (o : Int) (F : List (List S52)) (hF : F.length < 100) (hl : ∀ i : Nat, i < F.length → (rd_L10 F i).length < 1000)
    (hrow : ∀ i j : Nat, i < F.length → j < (rd_L10 F i).length → o < (rd_T52 (rd_L10 F i) j).f0 ∨ IntKind.u16.wrap ((rd_T52 (rd_L10 F i) j).f0 + 20) < o) :
    ∀ (m i : Nat), i + m = F.length → ∃ K, jacquardref10_Of.l0 K o F i = some bad := by
  intro m
  induction m with
  | zero =>
    intro i hi
    refine ⟨1, ?_⟩
    simp only [jacquardref10_Of.l0]
    rw [if_neg (by omega)]
    rfl
  | succ m ih =>
    intro i hi
    obtain ⟨K, hK⟩ := ih (i + 1) (by omega)
    refine ⟨(2 * (rd_L10 F i).length + 1 + K) + 1, ?_⟩
    simp only [jacquardref10_Of.l0]
    rw [if_pos (by omega)]
    have := l1_skip o F i (by omega) (hl i (by omega)) (fun j hj => hrow i j (by omega) hj) (rd_L10 F i).length 0 K (by omega)
    rw [show wrap64 ((i : Int) + 1) = ((i + 1 : Nat) : Int) by rw [w64 (by omega) (by omega)]; omega] at this
    exact this.trans hK
theorem rOf_out (o : Int) (h : 256 ≤ o ∧ o < 64512 ∨ 65041 ≤ o) : ∃ K, jacquardref10_Of.f K o = some bad := by
  obtain ⟨K, hK⟩ := l0_skip o fams fams_short.1 (fun i hi => of_decide_eq_true (all_range fams_short.2 i hi)) (fun i j hi hj => by
    have h1 := all_range (all_range fams_far i hi) j hj
    simp only [far, Bool.and_eq_true, Bool.or_eq_true, decide_eq_true_eq] at h1
    rw [w16 (by omega) (by omega)]
    omega) fams.length 0 (by omega)
  refine ⟨K, ?_⟩
  unfold jacquardref10_Of.f
  rw [fams_eq]
  exact hK
theorem rOf_at (o : Nat) (ho : o < 65536) : ∃ K, ∀ k, K ≤ k → jacquardref10_Of.f k (o : Int) = some (ans (o : Int) (tbl o)) := by
  have key : ∃ K, jacquardref10_Of.f K (o : Int) = some (ans (o : Int) (tbl o)) := by
    by_cases h1 : o < 128
    · exact ⟨1000, of_decide_eq_true (all_range rat0 o h1)⟩
    by_cases h2 : o < 256
    · have := all_range rat1 (o - 128) (by omega)
      rw [show o - 128 + 128 = o by omega] at this
      exact ⟨1000, of_decide_eq_true this⟩
    by_cases h3 : o < 64512
    · have e : tbl o = none := by unfold tbl; rw [if_neg (by omega), if_pos h3]
      rw [e]
      exact rOf_out _ (by omega)
    by_cases h4 : o < 64768
    · have := all_range rat2 (o - 64512) (by omega)
      rw [show o - 64512 + 64512 = o by omega] at this
      exact ⟨1000, of_decide_eq_true this⟩
    by_cases h5 : o < 64896
    · have := all_range rat3 (o - 64768) (by omega)
      rw [show o - 64768 + 64768 = o by omega] at this
      exact ⟨1000, of_decide_eq_true this⟩
    by_cases h6 : o < 65041
    · have := all_range rat4 (o - 64896) (by omega)
      rw [show o - 64896 + 64896 = o by omega] at this
      exact ⟨1000, of_decide_eq_true this⟩
    · have e : tbl o = none := by
        unfold tbl
        rw [if_neg h2, if_neg h3, if_neg h4, getD_out (by rw [pd_len]; omega)]
      rw [e]
      exact rOf_out _ (by omega)
  obtain ⟨K, hK⟩ := key
  exact ⟨K, up (f := fun k => jacquardref10_Of.f k (o : Int)) (fun k => jacquardref10_Of.mono _ k) hK⟩
end Go.Proofs.YtfbdmgdbamjjhaaDoor.Ops
