/- The counted row, and the counted text, at whatever place of whatever bytes, are the document's, or its errors.. -/
import Derived.Test.YtcnmpciohpcpiaaDoorPx13
import Derived.Test.YtcnmpciohpcpiaaDoorUi
namespace Go.Proofs.YtcnmpciohpcpiaaDoor.Pure
open Go.RowKit Go.Proofs.YtcnmpciohpcpiaaDoor.P Go.Proofs.YtcnmpciohpcpiaaDoorW.PrintWords Go.Proofs.YtcnmpciohpcpiaaDoorW.PrintLast Go.Proofs.YtcnmpciohpcpiaaDoorW.PrintMore Go.Proofs.YtcnmpciohpcpiaaDoor.LebM
theorem rw_bytes {l : List Int} (hb : Bytes l) (a : Int) : Bytes (Rw l a).1 ∧ (Rw l a).1.length ≤ 4294967296 := by
  unfold Rw
  simp only []
  split
  · rename_i h
    obtain ⟨h0, h1, h2, h3⟩ := Us_ok h
    split
    · exact ⟨fun x hx => by simp at hx, by simp⟩
    · exact ⟨fun x hx => hb x (List.mem_of_mem_drop (List.mem_of_mem_take hx)), by rw [List.length_take]; omega⟩
  · exact ⟨fun x hx => by simp at hx, by simp⟩
theorem NameRows : ∀ (l0 : List Int) (a1 : Int), l0.length ≤ maxLen → l0.length * 1 ≤ 140737488351232 → (∀ x ∈ l0, (Lit.int .u8 x).wf = true) → (Lit.int .i64 a1).wf = true → ∃ k, jacquardlaw02_NameRows.f k l0 a1 = some true := by
  intro l a _ hl hw _
  have hb := bytes_wf hw
  obtain ⟨hb2, hl2⟩ := rw_bytes hb a
  obtain ⟨K1, h1⟩ := Row_ev hb (by omega) a
  obtain ⟨K2, h2⟩ := refRow_ev hb (by omega) a
  obtain ⟨K3, h3⟩ := same_self (l := (Rw l a).1) (by omega)
  obtain ⟨K4, h4⟩ := Is_ev hb2
  obtain ⟨K5, h5⟩ := refIs_ev hb2 (by omega)
  obtain ⟨K6, h6⟩ := works_ev
  obtain ⟨k, hk⟩ : ∃ k, k = K1 + K2 + K3 + K4 + K5 + K6 := ⟨_, rfl⟩
  refine ⟨k, ?_⟩
  have e1 : name_Row.f k l a = some _ := h1 _ (by omega)
  have e2 : jacquardref02_Row.f k l a = some _ := h2 _ (by omega)
  have e3 : jacquardref00_Same.f k (Rw l a).1 (Rw l a).1 = some true := h3 _ (by omega)
  have e4 : name_Is.f k (Rw l a).1 = some _ := h4 _ (by omega)
  have e5 : jacquardref02_Is.f k (Rw l a).1 = some _ := h5 _ (by omega)
  have e6 : jacquardlaw02_works.f k = some true := h6 _ (by omega)
  have en : name_Name.f k l a = jacquardref02_Name.f k l a := by simp only [name_Name.f, jacquardref02_Name.f, e1, e2, e4, e5, Option.bind_some]
  have es : ∃ z, jacquardref02_Name.f k l a = some z := by
    simp only [jacquardref02_Name.f, e2, e5, Option.bind_some]
    split
    · split <;> exact ⟨_, rfl⟩
    · exact ⟨_, rfl⟩
  obtain ⟨z, hz⟩ := es
  rw [hz] at en
  simp [jacquardlaw02_NameRows.f, e1, e2, e3, e6, en, hz]
end Go.Proofs.YtcnmpciohpcpiaaDoor.Pure
