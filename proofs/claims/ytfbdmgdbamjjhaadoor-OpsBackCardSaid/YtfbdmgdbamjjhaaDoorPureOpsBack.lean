import Derived.Test.YtfbdmgdbamjjhaaDoorPx21
import Derived.Test.YtfbdmgdbamjjhaaDoorOh
import Derived.Test.YtfbdmgdbamjjhaaDoorOf
namespace Go.Proofs.YtfbdmgdbamjjhaaDoor.Pure
open Go Go.Proofs Go.RowKit Go.Proofs.YtfbdmgdbamjjhaaDoor.P Go.Proofs.YtfbdmgdbamjjhaaDoor.Ops
theorem OpsBack : jacquardlaw10_OpsBack.Pure := by
  intro a0 h0
  obtain ⟨o, ho, rfl⟩ := u16 h0
  refine ⟨1500, ?_⟩
  unfold jacquardlaw10_OpsBack.f
  rw [Of_k o ho _ (by omega), Option.bind_some]
  have hw := works_k 1500 (by omega)
  cases h2 : tbl o with
  | none =>
    rw [if_neg (show ¬ (ans (o : Int) none).2.2.2.2.2.2.2 = 0 from fun h => absurd (show (11 : Int) = 0 from h) (by decide))]
    have h3 := info_self bad (by decide) (by decide) 1500 (by omega)
    have h4 : jacquardref00_Info.f 1500 (ans (o : Int) none).1 (ans (o : Int) none).2.1 (ans (o : Int) none).2.2.1 (ans (o : Int) none).2.2.2.1 (ans (o : Int) none).2.2.2.2.1 (ans (o : Int) none).2.2.2.2.2.1 (ans (o : Int) none).2.2.2.2.2.2.1 0 (⟨#[]⟩ : ByteArray) 0 ([] : List Int) ([] : List Int) 0 false = some true := h3
    rw [h4, Option.bind_some, if_pos rfl, hw]
    rfl
  | some r =>
    have hm : o ∈ allN := (mem_allN o).2 (by rw [h2]; rfl)
    have e1 : nm o = r.1 := by unfold nm; rw [h2]
    obtain ⟨n, m, f, t, b, p⟩ := r
    have e2 : nm o = n := e1
    have e3 : ¬ n.toList = [] := by
      intro h
      have h5 := List.all_eq_true.1 nm_ne o hm
      rw [e2] at h5
      rw [ByteArray.toList_eq] at h
      rw [h] at h5
      cases h5
    show (if (0 : Int) = 0 then ((ops_Named.f 1500 n).bind fun bt1000 => (if bt1000.2 = 0 then (if bt1000.1 = (o : Int) then (if (o : Int) = (o : Int) then (if n.toList = ([] : List UInt8) then (some false) else ((jacquardlaw10_works.f 1500).bind fun t1002 => (some t1002))) else (some false)) else (some false)) else (some false))) else _) = some true
    rw [if_pos rfl, Named_hit n o hm e2 1500 (by omega), Option.bind_some, if_pos rfl, if_pos rfl, if_pos rfl, if_neg e3, hw]
    rfl
end Go.Proofs.YtfbdmgdbamjjhaaDoor.Pure
