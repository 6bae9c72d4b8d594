/- The law CodeCut, where what comes in is of bulk at most 1048576: its tied card, out of the walk (cut_calls). Condition: the bulk. -/
import Derived.WalkKit
import Derived.ProofKit
import Derived.OpenShut
import Derived.ShutString
import Derived.ChangeOld
import Derived.Below
import Derived.JoinedCond
import Derived.Deep.DeepHandedRow
import Derived.Deep.DeepWitnessRowRef
import Derived.Test.YtobldeamemmokaaDoorZa02
import Derived.Test.YtobldeamemmokaaDoorRows
import Derived.Test.YtobldeamemmokaaDoorZa43
import Derived.Test.YtobldeamemmokaaDoorZa42
import Derived.Test.YtobldeamemmokaaDoorZa20
import Derived.Test.YtobldeamemmokaaDoorCards
import Derived.Test.YtobldeamemmokaaDoorTie
import Derived.Test.YtobldeamemmokaaDoorZa23
namespace Go.Proofs.YtobldeamemmokaaDoor.codeCutUpto
open Go.ChangeShapes Go.WideShapes Go.ChangeAt Go.RowKit Go.Proofs.YtobldeamemmokaaDoorW.PrintWords Go.Proofs.YtobldeamemmokaaDoorW.PrintLast Go.Proofs.YtobldeamemmokaaDoorW.PrintMore
open Go.ChangeMaps (open_string shut_string)
set_option linter.unusedVariables false
theorem own : ownKnob Tryd.prog.godebug = none := mDh
theorem laidOut : laidOutB Tryd.prog = true := mDh
theorem opened {H : Type} {enc : TypeId × Value → H} {W : World} {a0 : Option Addr} {len0 cap0 : Nat} {d : DataW H} {p : List MemPlace} (h : DataW.Trod enc Tryd.prog W 0 (fun _ => true) true 22 (.slice a0 len0 cap0) d p) : ∃ l : List P.I, len0 = l.length ∧ l.length ≤ cap0 ∧ P.kI.C W a0 l.length l ∧ P.wL l + 1 ≤ Rows.uptoBulk d ∧ P.alL P.rngW l := by
 exact mBr
set_option maxRecDepth 100000 in
theorem contract (H : Type) (enc : TypeId × Value → H) (W : World) (base : Nat) (args : Array Value) (ds gs : List (DataW H)) (before : List MemPlace)
 (hval : ∀ (j : Nat) t v, Tryd.f4.params[j]? = some t → args[j]? = some v → Value.okWide Tryd.prog W .any base t v)
 (hW : DataW.Whole enc Tryd.prog Tryd.f4.params.toList Rows.codeCutSpec.vars false W args.toList ds gs before) (hk : Rows.uptoSmall H (ds ++ gs) = true) (hL : laidMetH Tryd.prog Rows.codeCutUptoRow.laid W) (hsh : W.ShapedOpen Tryd.prog) :
 Calls Tryd.prog 4 args W fun e W' => ∃ v, e = .returned v ∧ Rows.codeCutSpec.post enc Tryd.prog Tryd.f4 false true false false W args v W' := by
 have hW' := hW
 obtain ⟨p, q, hA0, hV, rfl, hfz, hnd⟩ := hW
 have hA : DataW.TrodAll enc Tryd.prog W 0 (fun _ => true) true Tryd.f4.params.toList args.toList ds p := hA0
 rw [Tryd.params4] at hA hval
 obtain ⟨v0, vs0, d0, ds0, p0, q0, hargs, rfl, rfl, h0, r0⟩ := trodAll_cons hA
 obtain ⟨v1, vs1, d1, ds1, p1, q1, rfl, rfl, rfl, h1, r1⟩ := trodAll_cons r0
 obtain ⟨rfl, rfl, rfl⟩ := trodAll_nil r1
 obtain rfl : args = #[v0, v1] := by cases args; simp_all
 obtain ⟨rfl, rfl⟩ := trodVars_none hV
 obtain ⟨a0, len0, cap0, rfl⟩ := okWide_slice Tryd.underlying22 (hval 0 22 v0 rfl rfl)
 have k0 := h0
 have lt0 : ∀ x ∈ p0, x.block < W.heap.size := by obtain ⟨m, hm⟩ := k0; exact DataW.trod_lt m _ _ _ hm
 obtain ⟨l0, rfl, hc0, hC0, b0, g0⟩ := opened h0
 obtain ⟨a1, rfl, rfl, rfl, w1⟩ := open_int Tryd.underlying3 (hval 1 3 v1 rfl rfl) h1
 clear hA0
 simp only [List.append_nil] at hW' hk
 have hB := bulks.bound hk
 simp only [Rows.uptoBulkAll] at hB
 have hw0 : P.wL l0 ≤ 1048576 := mDj
 have hr0 := P.alL_rng l0 g0 mDj
 refine (P.cut_calls a1 a0 _ l0 W (laids.tab hL hsh) hc0 hC0 hr0 hw0).mono fun e W' ⟨he, bel⟩ => ?_
 subst he
 exact ⟨_, rfl, _, _, _, [], _, [], hW', trodAll_mk1 (shut_bool Tryd.underlying4 _), (trodAll_cons_mk (Below.trod laidOut mDh (of_decide_eq_true mDh) k0 bel lt0) (trodAll_cons_mk (shut_int Tryd.underlying3 w1) trodAll_mk0)), rfl, bel.frame _, fun h => by cases h⟩
theorem reads (os : Os) {H : Type} (enc : TypeId × Value → H) : ∃ places, DataW.whole enc Tryd.prog ((laids.laidWorld os).forCall (fun _ _ => 0) ⟨#[], #[.slice none 0 0, .int .i64 0], []⟩).memory Tryd.f4.params.toList Rows.codeCutSpec.vars false (#[.slice none 0 0, .int .i64 0] : Array Value).toList 8 = some ([.nil, .lit (.int .i64 0)], [], places) :=
 ⟨[], mDh⟩
set_option maxRecDepth 100000 in
theorem lifted (os : Os) (started : os.Started) (H : Type) (enc : TypeId × Value → H) (F : Stop.Interp) :
 ReturnsInHanded {} Tryd.checked os 4 .any ((Rows.OpenSpec.upto Rows.codeCutSpec).preRow enc Tryd.prog Tryd.f4 Rows.codeCutUptoRow.domain false Rows.codeCutUptoRow.laid) (((Rows.OpenSpec.upto Rows.codeCutSpec).at F).post enc Tryd.prog Tryd.f4 false true false false) := by
 obtain ⟨places, hx⟩ := reads os enc
 refine returnsInHanded_of_row (C := Tryd.checked) (s := Rows.OpenSpec.upto Rows.codeCutSpec) own started mDh Tryd.func4
  (witness_row_atRef (enc := enc) (C := Tryd.checked) false (laids.laidWorld os) #[.slice none 0 0, .int .i64 0] rfl mDh mDh mDh
   (OpenSpec.preRow_of_cond 8 hx mDh (fun k hk => by cases hk; kernel_rfl) mDh (laids.laid_met os #[.slice none 0 0, .int .i64 0]))) ?_
 intro W base args ds gs before hval hW _ hc _ hL hsh _
 exact contract H enc W base args ds gs before hval hW (hc _ rfl) hL hsh
theorem saidUpto : Rows.CodeCutUptoSaid :=
 OpenClaim.holds_of_cond 4 Tryd.f4 rfl rfl rfl rfl rfl rfl rfl ⟨rfl, rfl, rfl, rfl, rfl⟩ rfl rfl rfl rfl rfl mDh Tryd.func4 mDh
  (of_decide_eq_true mDh) mC5
  (fun os started H enc _ F => by rw [OpenClaim.pre_eq_preRow]; exact lifted os started H enc F)
theorem plain (f : FuncId) (fn : Func) (hf : Tryd.pinned.checked.prog.funcNamed "jacquard/jacquardlaw11.CodeCut" = some f) (hfn : Tryd.pinned.checked.prog.funcs[f]? = some fn) :
 false = Tryd.pinned.checked.prog.looks [] ∧ ∀ (j : Nat) t, fn.params[j]? = some t → Tryd.pinned.checked.prog.wantsStandIn t = false := by
 obtain rfl : f = 4 := Option.some.inj ((show Tryd.prog.funcNamed "jacquard/jacquardlaw11.CodeCut" = some 4 by kernel_rfl).symm.trans hf) |>.symm
 obtain rfl : fn = Tryd.f4 := (Option.some.inj (Tryd.func4.symm.trans hfn)).symm
 refine ⟨mDh, fun j t ht => ?_⟩
 rw [Tryd.params4] at ht
 have hm := Array.mem_of_getElem? ht
 simp only [List.mem_toArray, List.mem_cons, List.not_mem_nil, or_false] at hm
 rcases hm with rfl | rfl <;> (show Tryd.prog.wantsStandIn _ = false; kernel_rfl)
end Go.Proofs.YtobldeamemmokaaDoor.codeCutUpto
namespace Go.Proofs.YtobldeamemmokaaDoor
/-- The tied card of the second form. -/
theorem codeCutUptoCard_holds : Rows.CodeCutUptoCardSaid :=
 Claim7.holds_tied_plain_at .later [] _ _ _ _ codeCutUpto.saidUpto (fun _ h => by cases h) mDh (fun _ h => by cases h) codeCutUpto_row_tie rfl ⟨rfl, rfl⟩ mDh rfl codeCutUpto.plain mDh
end Go.Proofs.YtobldeamemmokaaDoor
