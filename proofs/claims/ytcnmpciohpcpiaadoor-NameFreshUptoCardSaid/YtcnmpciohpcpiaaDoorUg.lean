/- Lists that are compared; the law's own 'works'. -/
import Derived.Test.YtcnmpciohpcpiaaDoorUf
import Derived.Test.YtcnmpciohpcpiaaDoorPx4
namespace Go.Proofs.YtcnmpciohpcpiaaDoor.LebM
set_option linter.unusedVariables false
set_option linter.unusedSimpArgs false
open Go.RowKit Go.Proofs.YtcnmpciohpcpiaaDoorW.PrintWords Go.Proofs.YtcnmpciohpcpiaaDoorW.PrintLast Go.Proofs.YtcnmpciohpcpiaaDoorW.PrintMore Go.Proofs.YtcnmpciohpcpiaaDoor.P
theorem runes_loop (l : List Int) (hl : l.length ≤ 140737488351232) (d : Nat) : ∀ (k i : Nat), l.length - i = d → i ≤ l.length → d < k → jacquardref00_Runes.l0 k l l (i : Int) = some true := by
  induction d with
  | zero =>
    intro k i h0 h1 hk
    obtain ⟨k, rfl⟩ : ∃ m, k = m + 1 := ⟨k - 1, by omega⟩
    simp only [jacquardref00_Runes.l0]
    rw [if_neg (by omega)]
  | succ d ih =>
    intro k i h0 h1 hk
    obtain ⟨k, rfl⟩ : ∃ m, k = m + 1 := ⟨k - 1, by omega⟩
    simp only [jacquardref00_Runes.l0]
    rw [if_pos (by omega), if_pos (by omega), if_pos (by omega), if_pos trivial, w64 (by omega) (by omega)]
    exact ih k (i + 1) (by omega) (by omega) (by omega)
theorem runes_self {l : List Int} (hl : l.length ≤ 140737488351232) : Ev (fun k => jacquardref00_Runes.f k l l) true := by
  refine ⟨l.length + 1, fun k hk => ?_⟩
  show jacquardref00_Runes.f k l l = _
  unfold jacquardref00_Runes.f
  rw [if_pos rfl]
  exact runes_loop l hl (l.length - 0) k 0 rfl (by omega) (by omega)
theorem D_works : D [36, 194, 162, 226, 130, 172] = some [36, 162, 8364] := by
  have e1 : one [36, 194, 162, 226, 130, 172] = (36, 1) := by decide +kernel
  have e2 : one [194, 162, 226, 130, 172] = (162, 2) := by decide +kernel
  have e3 : one [226, 130, 172] = (8364, 3) := by decide +kernel
  rw [D_ok (by simp) (by rw [e1]; show (1 : Int) ≠ 0; decide), e1]
  show (D [194, 162, 226, 130, 172]).map _ = _
  rw [D_ok (by simp) (by rw [e2]; show (2 : Int) ≠ 0; decide), e2]
  show ((D [226, 130, 172]).map _).map _ = _
  rw [D_ok (by simp) (by rw [e3]; show (3 : Int) ≠ 0; decide), e3]
  show (((D []).map _).map _).map _ = _
  rw [D_nil]
  rfl
theorem D_bad2 : D [192, 128] = none := by
  have e1 : one [192, 128] = (0, 0) := by decide +kernel
  exact D_bad (by simp) (by rw [e1])
theorem works_ev : Ev (fun k => jacquardlaw02_works.f k) true := by
  have b1 : Bytes [36, 194, 162, 226, 130, 172] := by intro x hx; simp at hx; omega
  have b2 : Bytes [192, 128] := by intro x hx; simp at hx; omega
  have b3 : Bytes [] := by intro x hx; simp at hx
  obtain ⟨K1, h1⟩ := Letters_ev b1 (by simp)
  obtain ⟨K2, h2⟩ := runes_self (l := [36, 162, 8364]) (by simp)
  obtain ⟨K3, h3⟩ := Is_ev b2
  obtain ⟨K4, h4⟩ := Is_ev b3
  refine ⟨K1 + K2 + K3 + K4, fun k hk => ?_⟩
  have e1 : name_Letters.f k [36, 194, 162, 226, 130, 172] = some _ := h1 k (by omega)
  have e2 : jacquardref00_Runes.f k [36, 162, 8364] [36, 162, 8364] = some true := h2 k (by omega)
  have e3 : name_Is.f k [192, 128] = some _ := h3 k (by omega)
  have e4 : name_Is.f k [] = some _ := h4 k (by omega)
  simp only [Lt, D_works] at e1
  rw [D_bad2] at e3
  rw [D_nil] at e4
  show jacquardlaw02_works.f k = _
  simp [jacquardlaw02_works.f, e1, e2, e3, e4]
end Go.Proofs.YtcnmpciohpcpiaaDoor.LebM
