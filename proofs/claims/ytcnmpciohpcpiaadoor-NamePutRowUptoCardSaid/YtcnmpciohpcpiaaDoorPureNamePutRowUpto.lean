/- A counted row is laid as the document says, and is read so. Condition: what comes in is of bulk at most 1048576. -/
import Derived.Test.YtcnmpciohpcpiaaDoorPx11
import Derived.Test.YtcnmpciohpcpiaaDoorUk
namespace Go.Proofs.YtcnmpciohpcpiaaDoor.Pure
set_option linter.unusedVariables false
set_option linter.unusedSimpArgs false
open Go.RowKit Go.Proofs.YtcnmpciohpcpiaaDoor.P Go.Proofs.YtcnmpciohpcpiaaDoorW.PrintWords Go.Proofs.YtcnmpciohpcpiaaDoorW.PrintLast Go.Proofs.YtcnmpciohpcpiaaDoorW.PrintMore Go.Proofs.YtcnmpciohpcpiaaDoor.LebM
theorem lims3 {b l r p : List Int} (h : b.length + l.length + r.length ≤ 1048576) (hp : p.length ≤ 10) : 0 + l.length < 140737488355328 ∧ l.length + (p ++ b).length < 140737488355328 ∧ (l ++ (p ++ b)).length + r.length < 140737488355328 ∧ p.length + b.length < 140737488355328 := by
  simp only [List.length_append]
  omega
theorem NamePutRowUpto : ∀ (l0 : List Int) (l1 : List Int) (l2 : List Int), l0.length ≤ maxLen → l0.length * 1 ≤ 140737488351232 → (∀ x ∈ l0, (Lit.int .u8 x).wf = true) → l1.length ≤ maxLen → l1.length * 1 ≤ 140737488351232 → (∀ x ∈ l1, (Lit.int .u8 x).wf = true) → l2.length ≤ maxLen → l2.length * 1 ≤ 140737488351232 → (∀ x ∈ l2, (Lit.int .u8 x).wf = true) → l0.length + l1.length + l2.length ≤ 1048576 → ∃ k, jacquardlaw02_NamePutRow.f k l0 l1 l2 = some true := by
  intro b l r _ _ hb _ _ hl _ _ hr hlen
  have hB := bytes_wf hb
  have hL := bytes_wf hl
  have hR := bytes_wf hr
  have eW : IntKind.u64.wrap (b.length : Int) = (b.length : Int) := u64w (by omega) (by omega)
  obtain ⟨K1, h1⟩ := PutU_ev (x := (b.length : Int)) (by omega) (by omega)
  obtain ⟨K2, h2⟩ := refPutU_ev (x := (b.length : Int)) (by omega) (by omega)
  have hq := putU_len 9 (b.length : Int)
  have hU := putU_bytes 9 (b.length : Int) (by omega) (u64_lt (by omega))
  have hRw := rw_put (b := b) (by omega) l r
  generalize putU 9 (b.length : Int) = p at *
  have hall : Bytes (l ++ p ++ b ++ r) := bytes_app (bytes_app (bytes_app hL hU) hB) hR
  have hsz : (l ++ p ++ b ++ r).length = l.length + p.length + b.length + r.length := by simp only [List.length_append]
  have hpb : (p ++ b).length = p.length + b.length := by simp
  obtain ⟨K3, h3⟩ := same_self (l := p ++ b) (by omega)
  obtain ⟨K4, h4⟩ := Row_ev hall (by omega) l.length
  obtain ⟨K5, h5⟩ := same_self (l := b) (by omega)
  obtain ⟨K6, h6⟩ := works_ev
  obtain ⟨k, hk⟩ : ∃ k, k = K1 + K2 + K3 + K4 + K5 + K6 := ⟨_, rfl⟩
  refine ⟨k, ?_⟩
  have e1 : leb_PutU.f k (b.length : Int) = some _ := h1 k (by omega)
  have e2 : jacquardref01_PutU.f k (b.length : Int) = some _ := h2 k (by omega)
  have e3 : jacquardref00_Same.f k (p ++ b) (p ++ b) = some true := h3 k (by omega)
  have e4 : name_Row.f k (l ++ p ++ b ++ r) (l.length : Int) = some _ := h4 k (by omega)
  have e5 : jacquardref00_Same.f k b b = some true := h5 k (by omega)
  have e6 : jacquardlaw02_works.f k = some true := h6 k (by omega)
  have f1 : name_PutRow.f k b = some (p ++ b) := by
    unfold name_PutRow.f
    rw [eW, e1, Option.bind_some, if_pos (lims3 hlen hq.2).2.2.2]
  have f2 : jacquardref02_PutRow.f k b = some (p ++ b) := by
    unfold jacquardref02_PutRow.f
    rw [eW, e2, Option.bind_some, if_pos (lims3 hlen hq.2).2.2.2]
  have ew : wrap64 ((l.length : Int) + ((p ++ b).length : Int)) = (l.length : Int) + (p.length : Int) + (b.length : Int) := by rw [w64 (by omega) (by omega), hpb]; omega
  have ea : (l ++ (p ++ b)).length = l.length + p.length + b.length := by simp; omega
  unfold jacquardlaw02_NamePutRow.f
  simp only [f1, f2, Option.bind_some, e3, if_true, List.nil_append, List.length_nil]
  rw [if_pos (lims3 hlen hq.2).1, if_pos (lims3 hlen hq.2).2.1, if_pos (lims3 hlen hq.2).2.2.1, ← List.append_assoc, e4, hRw]
  simp only [Option.bind_some, if_true]
  rw [e5, Option.bind_some, if_pos rfl, ew, if_pos rfl, e6]
  rfl
end Go.Proofs.YtcnmpciohpcpiaaDoor.Pure
