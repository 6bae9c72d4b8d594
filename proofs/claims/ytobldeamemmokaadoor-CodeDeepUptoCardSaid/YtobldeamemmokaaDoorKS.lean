import Derived.Test.YtobldeamemmokaaDoorKW
import Derived.Test.YtobldeamemmokaaDoorKF
/-! code.Same. -/
namespace Go.Proofs.YtobldeamemmokaaDoor.P
open Go.RowKit Go.Proofs.YtobldeamemmokaaDoorW.PrintWords Go.Proofs.YtobldeamemmokaaDoorW.PrintLast Go.Proofs.YtobldeamemmokaaDoorW.PrintMore
set_option linter.unusedVariables false
set_option linter.unusedSimpArgs false
/-- Two lists that are held against one another. -/
structure Pr where
  a : List I
  b : List I
def zPr : Pr := ⟨[], []⟩
def kPr (w0 : World) : Kd Pr := Kd.iso (Kd.pair (Kd.fixed (Kd.slice 43 kI) w0) (Kd.fixed (Kd.slice 43 kI) w0)) (fun x : Pr => (x.a, x.b))
theorem kPr_openM {w0 w : World} {base : Nat} {ok : Nat → Prop} {x : Pr} {cs : List Value} (h : (kPr w0).M w base ok x cs) : ∃ A c B d, cs = [.slice A x.a.length c, .slice B x.b.length d] ∧ x.a.length ≤ c ∧ kI.C w0 A x.a.length x.a ∧ x.b.length ≤ d ∧ kI.C w0 B x.b.length x.b := by
  obtain ⟨_, _, rfl, ⟨A, c, rfl, hl, hc⟩, ⟨B, d, rfl, hl', hc'⟩⟩ := h
  exact ⟨A, c, B, d, rfl, hl, hc, hl', hc'⟩
theorem kPr_mkM (w0 w : World) (base : Nat) (ok : Nat → Prop) (x : Pr) {A B : Option Addr} {c d : Nat} (hl : x.a.length ≤ c) (hc : kI.C w0 A x.a.length x.a) (hl' : x.b.length ≤ d) (hc' : kI.C w0 B x.b.length x.b) : (kPr w0).M w base ok x [.slice A x.a.length c, .slice B x.b.length d] :=
  ⟨[.slice A x.a.length c], [.slice B x.b.length d], rfl, ⟨A, c, rfl, hl, hc⟩, ⟨B, d, rfl, hl', hc'⟩⟩
theorem C_addr {w : World} {A : Option Addr} {n : Nat} {xs : List I} (h : kI.C w A n xs) (hn : 0 < n) : ∃ b o, A = some ⟨b, o, none⟩ := by
  obtain ⟨ad, cx, rfl, hl, hK, hc⟩ := Kd.C_get h zI (0 : Int) (by omega) (by omega)
  obtain ⟨_, _, _, _, _, _, _, _, rfl, _, _, _, _, _⟩ := kI_open hK
  have h0 := hc 0 _ rfl
  have e : ad.add ((0 : Int).toNat * kI.sz + 0) = ad := by
    rw [Int.toNat_zero, Nat.zero_mul]
    exact Addr.add_zero' ad
  rw [e] at h0
  obtain ⟨b, o, s⟩ := ad
  cases s with
  | none => exact ⟨b, o, rfl⟩
  | some s =>
    unfold World.cell? at h0
    split at h0
    · simp at h0
    · cases h0
theorem kPr_KM {w0 w : World} {base : Nat} {ok : Nat → Prop} {x : Pr} {cs : List Value} (h : (kPr w0).K w x cs) : (kPr w0).M w base ok x cs := by
  obtain ⟨_, _, rfl, ⟨A, c, rfl, hl, hc⟩, ⟨B, d, rfl, hl', hc'⟩⟩ := h
  exact kPr_mkM w0 w base ok x hl hc hl' hc'
theorem zero43 : (Tryd.prog.info? 43).map (fun i => i.zero) = some (some (.agg (cellsI zI (.slice none 0 0) (.slice none 0 0) (.slice none 0 0) (.slice none 0 0)).toArray)) := by kernel_rfl
end Go.Proofs.YtobldeamemmokaaDoor.P

