/- The law CodeShort, where what comes in is of bulk at most 1048576: its tied card, out of the walk (short_calls). Condition: the bulk. -/
import Derived.WalkKit
import Derived.ProofKit
import Derived.OpenShut
import Derived.ShutString
import Derived.ChangeOld
import Derived.Below
import Derived.JoinedCond
import Derived.Deep.DeepHandedRow
import Derived.Deep.DeepWitnessRowRef
import Derived.Test.YtobldeamemmokaaDoorZa02
import Derived.Test.YtobldeamemmokaaDoorRows
import Derived.Test.YtobldeamemmokaaDoorZa45
import Derived.Test.YtobldeamemmokaaDoorZa42
import Derived.Test.YtobldeamemmokaaDoorZa20
import Derived.Test.YtobldeamemmokaaDoorCards
import Derived.Test.YtobldeamemmokaaDoorTie
import Derived.Test.YtobldeamemmokaaDoorZa23
namespace Go.Proofs.YtobldeamemmokaaDoor.codeShortUpto
open Go.ChangeShapes Go.WideShapes Go.ChangeAt Go.RowKit Go.Proofs.YtobldeamemmokaaDoorW.PrintWords Go.Proofs.YtobldeamemmokaaDoorW.PrintLast Go.Proofs.YtobldeamemmokaaDoorW.PrintMore
open Go.ChangeMaps (open_string shut_string)
set_option linter.unusedVariables false
theorem own : ownKnob Tryd.prog.godebug = none := mDh
theorem laidOut : laidOutB Tryd.prog = true := mDh
def IsRow (k : IntKind) (w : World) (a : Option Addr) (len cap : Nat) (zs : List Int) : Prop :=
 (a = none ∧ len = 0 ∧ cap = 0 ∧ zs = []) ∨
 ∃ x, a = some x ∧ len ≤ cap ∧ cap ≤ maxLen ∧ zs.length = cap ∧ (∀ i, i < zs.length → w.cell? (x.add i) = some (.int k (zs.getD i 0))) ∧ ∀ n ∈ zs, (Lit.int k n).wf = true
set_option maxRecDepth 100000 in
theorem contract (H : Type) (enc : TypeId × Value → H) (W : World) (base : Nat) (args : Array Value) (ds gs : List (DataW H)) (before : List MemPlace)
 (hval : ∀ (j : Nat) t v, Tryd.f5.params[j]? = some t → args[j]? = some v → Value.okWide Tryd.prog W .any base t v)
 (hW : DataW.Whole enc Tryd.prog Tryd.f5.params.toList Rows.codeShortSpec.vars false W args.toList ds gs before) (hk : Rows.uptoSmall H (ds ++ gs) = true) (hL : laidMetH Tryd.prog Rows.codeShortUptoRow.laid W) (hsh : W.ShapedOpen Tryd.prog) :
 Calls Tryd.prog 5 args W fun e W' => ∃ v, e = .returned v ∧ Rows.codeShortSpec.post enc Tryd.prog Tryd.f5 false true false false W args v W' := by
 have hW' := hW
 obtain ⟨p, q, hA0, hV, rfl, hfz, hnd⟩ := hW
 have hA : DataW.TrodAll enc Tryd.prog W 0 (fun _ => true) true Tryd.f5.params.toList args.toList ds p := hA0
 rw [Tryd.params5] at hA hval
 obtain ⟨v0, vs0, d0, ds0, p0, q0, hargs, rfl, rfl, h0, r0⟩ := trodAll_cons hA
 obtain ⟨rfl, rfl, rfl⟩ := trodAll_nil r0
 obtain rfl : args = #[v0] := by cases args; simp_all
 obtain ⟨rfl, rfl⟩ := trodVars_none hV
 obtain ⟨a0, len0, cap0, rfl⟩ := okWide_slice Tryd.underlying24 (hval 0 24 v0 rfl rfl)
 have k0 := h0
 have lt0 : ∀ x ∈ p0, x.block < W.heap.size := by obtain ⟨m, hm⟩ := k0; exact DataW.trod_lt m _ _ _ hm
 obtain ⟨z0, w0⟩ : ∃ zs, IsRow .u8 W a0 len0 cap0 zs := by
  obtain ⟨fuel, hf⟩ := h0
  exact mAz
 have b0 : len0 + 1 ≤ Rows.uptoBulk d0 := bulks.ints Tryd.underlying24 Tryd.underlying5 mDh h0
 clear hA0
 simp only [List.append_nil] at hW' hk
 have hB := bulks.bound hk
 simp only [Rows.uptoBulkAll] at hB
 obtain ⟨l0, rfl, hr0, hm0, hy00, hc0⟩ := zg.ofRowC w0
 have hR0 := Kd.C_of_reads (d := (0 : Int)) (h1 := fun _ => rfl) hr0
 have hy0 : LebM.Bytes l0 := LebM.bytes_wf hy00
 have hn0 : l0.length ≤ 1048576 := mDj
 refine (P.short_calls a0 _ l0 W (laids.tab hL hsh) hc0 hR0 ⟨hy0, mDj⟩).mono fun e W' ⟨he, bel⟩ => ?_
 subst he
 exact ⟨_, rfl, _, _, _, [], _, [], hW', trodAll_mk1 (shut_bool Tryd.underlying4 _), (trodAll_cons_mk (Below.trod laidOut mDh (of_decide_eq_true mDh) k0 bel lt0) trodAll_mk0), rfl, bel.frame _, fun h => by cases h⟩
theorem reads (os : Os) {H : Type} (enc : TypeId × Value → H) : ∃ places, DataW.whole enc Tryd.prog ((laids.laidWorld os).forCall (fun _ _ => 0) ⟨#[], #[.slice none 0 0], []⟩).memory Tryd.f5.params.toList Rows.codeShortSpec.vars false (#[.slice none 0 0] : Array Value).toList 8 = some ([.nil], [], places) :=
 ⟨[], mDh⟩
set_option maxRecDepth 100000 in
theorem lifted (os : Os) (started : os.Started) (H : Type) (enc : TypeId × Value → H) (F : Stop.Interp) :
 ReturnsInHanded {} Tryd.checked os 5 .any ((Rows.OpenSpec.upto Rows.codeShortSpec).preRow enc Tryd.prog Tryd.f5 Rows.codeShortUptoRow.domain false Rows.codeShortUptoRow.laid) (((Rows.OpenSpec.upto Rows.codeShortSpec).at F).post enc Tryd.prog Tryd.f5 false true false false) := by
 obtain ⟨places, hx⟩ := reads os enc
 refine returnsInHanded_of_row (C := Tryd.checked) (s := Rows.OpenSpec.upto Rows.codeShortSpec) own started mDh Tryd.func5
  (witness_row_atRef (enc := enc) (C := Tryd.checked) false (laids.laidWorld os) #[.slice none 0 0] rfl mDh mDh mDh
   (OpenSpec.preRow_of_cond 8 hx mDh (fun k hk => by cases hk; kernel_rfl) mDh (laids.laid_met os #[.slice none 0 0]))) ?_
 intro W base args ds gs before hval hW _ hc _ hL hsh _
 exact contract H enc W base args ds gs before hval hW (hc _ rfl) hL hsh
theorem saidUpto : Rows.CodeShortUptoSaid :=
 OpenClaim.holds_of_cond 5 Tryd.f5 rfl rfl rfl rfl rfl rfl rfl ⟨rfl, rfl, rfl, rfl, rfl⟩ rfl rfl rfl rfl rfl mDh Tryd.func5 mDh
  (of_decide_eq_true mDh) mC5
  (fun os started H enc _ F => by rw [OpenClaim.pre_eq_preRow]; exact lifted os started H enc F)
theorem plain (f : FuncId) (fn : Func) (hf : Tryd.pinned.checked.prog.funcNamed "jacquard/jacquardlaw11.CodeShort" = some f) (hfn : Tryd.pinned.checked.prog.funcs[f]? = some fn) :
 false = Tryd.pinned.checked.prog.looks [] ∧ ∀ (j : Nat) t, fn.params[j]? = some t → Tryd.pinned.checked.prog.wantsStandIn t = false := by
 obtain rfl : f = 5 := Option.some.inj ((show Tryd.prog.funcNamed "jacquard/jacquardlaw11.CodeShort" = some 5 by kernel_rfl).symm.trans hf) |>.symm
 obtain rfl : fn = Tryd.f5 := (Option.some.inj (Tryd.func5.symm.trans hfn)).symm
 refine ⟨mDh, fun j t ht => ?_⟩
 rw [Tryd.params5] at ht
 have hm := Array.mem_of_getElem? ht
 simp only [List.mem_toArray, List.mem_cons, List.not_mem_nil, or_false] at hm
 subst hm; (show Tryd.prog.wantsStandIn _ = false; kernel_rfl)
end Go.Proofs.YtobldeamemmokaaDoor.codeShortUpto
namespace Go.Proofs.YtobldeamemmokaaDoor
/-- The tied card of the second form. -/
theorem codeShortUptoCard_holds : Rows.CodeShortUptoCardSaid :=
 Claim7.holds_tied_plain_at .later [] _ _ _ _ codeShortUpto.saidUpto (fun _ h => by cases h) mDh (fun _ h => by cases h) codeShortUpto_row_tie rfl ⟨rfl, rfl⟩ mDh rfl codeShortUpto.plain mDh
end Go.Proofs.YtobldeamemmokaaDoor
