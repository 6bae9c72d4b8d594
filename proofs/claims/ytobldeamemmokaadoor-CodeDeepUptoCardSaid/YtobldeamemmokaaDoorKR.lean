import Derived.Test.YtobldeamemmokaaDoorKS
/-! jacquardref11.Count. -/
namespace Go.Proofs.YtobldeamemmokaaDoor.P
open Go.RowKit Go.Proofs.YtobldeamemmokaaDoorW.PrintWords Go.Proofs.YtobldeamemmokaaDoorW.PrintLast Go.Proofs.YtobldeamemmokaaDoorW.PrintMore
set_option linter.unusedVariables false
set_option linter.unusedSimpArgs false
theorem drop_getD {l : List I} {i : Nat} (hi : i < l.length) : l.drop i = l.getD i zI :: l.drop (i + 1) := by
  rw [List.getD_eq_getElem?_getD, List.getElem?_eq_getElem hi]
  exact List.drop_eq_getElem_cons hi
/-- The i-th instruction of a list: its address, and what lies there. -/
theorem I_at {w : World} {A : Option Addr} {l : List I} (h : kI.C w A l.length l) {i : Nat} (hi : i < l.length) : ∃ b o Al cl At ct Ab cb Ae ce, A = some ⟨b, o, none⟩ ∧ w.rangeAt b (o + i * 27) (cellsI (l.getD i zI) (.slice Al (l.getD i zI).l.length cl) (.slice At (l.getD i zI).t.length ct) (.slice Ab (l.getD i zI).body.length cb) (.slice Ae (l.getD i zI).els.length ce)) ∧ (l.getD i zI).v.length = 16 ∧
    ((l.getD i zI).l.length ≤ cl ∧ (Kd.int .u32).C w Al (l.getD i zI).l.length (l.getD i zI).l) ∧ ((l.getD i zI).t.length ≤ ct ∧ (Kd.int .u8).C w At (l.getD i zI).t.length (l.getD i zI).t) ∧ ((l.getD i zI).body.length ≤ cb ∧ kI.C w Ab (l.getD i zI).body.length (l.getD i zI).body) ∧ (l.getD i zI).els.length ≤ ce ∧ kI.C w Ae (l.getD i zI).els.length (l.getD i zI).els := by
  obtain ⟨b, o, rfl⟩ := C_addr h (by omega)
  obtain ⟨ad, cx, had, hxl, hxK, hxc⟩ := Kd.C_get h zI (i : Int) (by omega) (by omega)
  obtain rfl := Option.some.inj had
  rw [Int.toNat_natCast] at hxK
  obtain ⟨Al, cl, At, ct, Ab, cb, Ae, ce, rfl, h16, h1, h2, h3, h4⟩ := kI_open hxK
  refine ⟨b, o, Al, cl, At, ct, Ab, cb, Ae, ce, rfl, fun j u hj => ?_, h16, h1, h2, h3, h4⟩
  have := hxc j u hj
  rw [show ((i : Int)).toNat * kI.sz + j = i * 27 + j from rfl, Addr.add_mid, ← Nat.add_assoc] at this
  exact this
end Go.Proofs.YtobldeamemmokaaDoor.P

