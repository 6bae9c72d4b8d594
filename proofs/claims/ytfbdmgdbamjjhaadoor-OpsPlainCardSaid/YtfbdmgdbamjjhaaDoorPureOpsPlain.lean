import Derived.Test.YtfbdmgdbamjjhaaDoorPx13
import Derived.Test.YtfbdmgdbamjjhaaDoorOc
namespace Go.Proofs.YtfbdmgdbamjjhaaDoor.Pure
open Go Go.Proofs Go.RowKit Go.Proofs.YtfbdmgdbamjjhaaDoor.P Go.Proofs.YtfbdmgdbamjjhaaDoor.Ops
set_option maxRecDepth 100000
def plainOf (k : Nat) (bt : Ans) : Option Bool := (if bt.2.2.2.2.2.2.2 = 0 then (if bt.2.2.1 = 20 then (jacquardlaw10_OpsPlain.j0 k true bt.1 bt.2.1 bt.2.2.1 bt.2.2.2.1 bt.2.2.2.2.1 bt.2.2.2.2.2.1 bt.2.2.2.2.2.2.1) else (if bt.2.2.1 = 21 then (jacquardlaw10_OpsPlain.j0 k true bt.1 bt.2.1 bt.2.2.1 bt.2.2.2.1 bt.2.2.2.2.1 bt.2.2.2.2.2.1 bt.2.2.2.2.2.2.1) else (if bt.2.2.1 = 22 then (jacquardlaw10_OpsPlain.j0 k true bt.1 bt.2.1 bt.2.2.1 bt.2.2.2.1 bt.2.2.2.2.1 bt.2.2.2.2.2.1 bt.2.2.2.2.2.2.1) else (if bt.2.2.1 = 23 then (jacquardlaw10_OpsPlain.j0 k true bt.1 bt.2.1 bt.2.2.1 bt.2.2.2.1 bt.2.2.2.2.1 bt.2.2.2.2.2.1 bt.2.2.2.2.2.2.1) else (jacquardlaw10_OpsPlain.j0 k (bt.2.2.1 == 24) bt.1 bt.2.1 bt.2.2.1 bt.2.2.2.1 bt.2.2.2.2.1 bt.2.2.2.2.2.1 bt.2.2.2.2.2.2.1))))) else ((jacquardlaw10_works.f k).bind fun t808 => (some t808)))
def plainAt (o : Nat) : Bool := plainOf 410 (ans (o : Int) (tbl o)) == some true
theorem plain0 : (List.range 256).all (fun n => plainAt n) = true := by decide +kernel
theorem plain1 : (List.range 256).all (fun n => plainAt (n + 64512)) = true := by decide +kernel
theorem plain2 : (List.range 256).all (fun n => plainAt (n + 64768)) = true := by decide +kernel
theorem OpsPlain : jacquardlaw10_OpsPlain.Pure := by
  intro a0 h0
  obtain ⟨o, ho, rfl⟩ := u16 h0
  refine ⟨410, ?_⟩
  show (ops_Of.f 410 (o : Int)).bind (plainOf 410) = some true
  rw [Of_k o ho 410 (by decide), Option.bind_some]
  cases ht : tbl o with
  | none =>
    have h : plainOf 410 bad = (jacquardlaw10_works.f 410).bind fun t808 => (some t808) := rfl
    show plainOf 410 bad = some true
    rw [h, works_k 410 (by decide)]
    rfl
  | some r =>
    rw [← ht]
    have h1 := tbl_some ht
    have key : plainAt o = true := by
      rcases h1 with h1 | h1 | h1
      · exact all_range plain0 o h1
      · have := all_range plain1 (o - 64512) (by omega)
        rwa [show o - 64512 + 64512 = o by omega] at this
      · have := all_range plain2 (o - 64768) (by omega)
        rwa [show o - 64768 + 64768 = o by omega] at this
    exact eq_of_beq key
end Go.Proofs.YtfbdmgdbamjjhaaDoor.Pure
