import Derived.Test.YtcnmpciohpcpiaaDoorRows
import Derived.Test.YtcnmpciohpcpiaaDoorTabs
import Derived.Lib.LaidU8T
/-! What a row's list of tables gives: the world holds them. And a world that holds them, for the witness. -/
namespace Go.Proofs.YtcnmpciohpcpiaaDoor.laids
set_option linter.unusedVariables false
set_option linter.unusedSimpArgs false
open Go Go.Proofs Go.Lib Go.Shelf
open Go.Proofs.YtcnmpciohpcpiaaDoorTabs Go.Proofs.YtcnmpciohpcpiaaDoorW.PrintWords
def ren : Ren := ⟨fun x => x, fun x => if x = 119 then 57 else if x = 138 then 59 else if x = 139 then 60 else x, fun x => if x = 3 then 0 else if x = 4 then 1 else x⟩
theorem types : U8Types Tryd.prog ren := ⟨by kernel_rfl, by kernel_rfl, by kernel_rfl, by kernel_rfl⟩
theorem extra : U8Extra Tryd.prog ren := ⟨by kernel_rfl, by kernel_rfl, by kernel_rfl, by kernel_rfl, by kernel_rfl, by kernel_rfl, by kernel_rfl⟩
theorem firsts : Rows.laid_unicode_utf8_first = firstData := by kernel_rfl
theorem accepts : Rows.laid_unicode_utf8_acceptRanges (H := Unit) = acceptData := by kernel_rfl
theorem firstL : ∀ n : Fin 256, rd uFL (n.val : Int) = (firstT n.val : Int) := by decide +kernel
theorem accL : ∀ n : Fin 16, rd aLL (n.val : Int) = (accLo n.val : Int) ∧ rd aHL (n.val : Int) = (accHi n.val : Int) := by decide +kernel
theorem tab {W : World} (h : laidMetH Tryd.prog [("unicode/utf8.acceptRanges", Rows.laid_unicode_utf8_acceptRanges), ("unicode/utf8.first", Rows.laid_unicode_utf8_first)] W) : Tab W := by
  have h' : laidMet Tryd.prog [("unicode/utf8.acceptRanges", Rows.laid_unicode_utf8_acceptRanges), ("unicode/utf8.first", Rows.laid_unicode_utf8_first)] W := h
  have r1 : VarReads Tryd.prog W "unicode/utf8.first" firstData := firsts ▸ laidMet.reads h' (.tail _ (.head _))
  have r2 : VarReads Tryd.prog W "unicode/utf8.acceptRanges" acceptData := accepts ▸ laidMet.reads h' (.head _)
  obtain ⟨t1, t2⟩ := utf8Tabs_of_readsT types extra r1 r2
  refine ⟨fun i h0 h1 => ?_, fun i h0 h1 => ?_, fun i h0 h1 => ?_⟩
  · obtain ⟨n, rfl⟩ := Int.eq_ofNat_of_zero_le h0
    have e := t1 n (by omega)
    have f := firstL ⟨n, by omega⟩
    simp only [Int.toNat_natCast]
    rw [f]
    exact e
  · obtain ⟨n, rfl⟩ := Int.eq_ofNat_of_zero_le h0
    have e := (t2 n (by omega)).1
    have f := (accL ⟨n, by omega⟩).1
    simp only [Int.toNat_natCast]
    rw [f, Nat.mul_comm]
    exact e
  · obtain ⟨n, rfl⟩ := Int.eq_ofNat_of_zero_le h0
    have e := (t2 n (by omega)).2
    have f := (accL ⟨n, by omega⟩).2
    simp only [Int.toNat_natCast]
    rw [f, Nat.mul_comm]
    exact e
/-- A world for the witness. -/
noncomputable def laidWorld (os : Os) : World :=
  let w0 := World.holding Tryd.prog os ⟨#[], #[], []⟩
  let put (h : Array Obj) (g : Nat) (cs : Array Value) : Array Obj := h.modify g fun
    | .cells _ t frozen => .cells cs t frozen
    | o => o
  let h1 := put w0.heap 0 (Lib.firstTab.map fun z => Value.int .u8 z).toArray
  let h2 := put h1 1 ((List.range 16).flatMap fun i => [Value.int .u8 (Lib.accLo i), Value.int .u8 (Lib.accHi i)]).toArray
  { w0 with heap := h2 }
theorem laid_met (os : Os) (args : Array Value) : laidMet Tryd.prog [("unicode/utf8.acceptRanges", Rows.laid_unicode_utf8_acceptRanges), ("unicode/utf8.first", Rows.laid_unicode_utf8_first)] ((laidWorld os).forCall (fun _ _ => 0) ⟨#[], args, []⟩).memory :=
  laidMet_of_run' 8 (by kernel_rfl) (by kernel_rfl)
end Go.Proofs.YtcnmpciohpcpiaaDoor.laids
