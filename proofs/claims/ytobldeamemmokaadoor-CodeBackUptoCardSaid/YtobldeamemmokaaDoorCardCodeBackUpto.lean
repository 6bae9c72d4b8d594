/- The law CodeBack, where what comes in is of bulk at most 1048576: its tied card, out of the walk (back_calls). Condition: the bulk. -/
import Derived.WalkKit
import Derived.ProofKit
import Derived.OpenShut
import Derived.ShutString
import Derived.ChangeOld
import Derived.Below
import Derived.JoinedCond
import Derived.Deep.DeepHandedRow
import Derived.Deep.DeepWitnessRowRef
import Derived.Test.YtobldeamemmokaaDoorZa02
import Derived.Test.YtobldeamemmokaaDoorRows
import Derived.Test.YtobldeamemmokaaDoorZa47
import Derived.Test.YtobldeamemmokaaDoorZa42
import Derived.Test.YtobldeamemmokaaDoorZa20
import Derived.Test.YtobldeamemmokaaDoorCards
import Derived.Test.YtobldeamemmokaaDoorTie
import Derived.Test.YtobldeamemmokaaDoorZa23
namespace Go.Proofs.YtobldeamemmokaaDoor.codeBackUpto
open Go.ChangeShapes Go.WideShapes Go.ChangeAt Go.RowKit Go.Proofs.YtobldeamemmokaaDoorW.PrintWords Go.Proofs.YtobldeamemmokaaDoorW.PrintLast Go.Proofs.YtobldeamemmokaaDoorW.PrintMore
open Go.ChangeMaps (open_string shut_string)
set_option linter.unusedVariables false
theorem own : ownKnob Tryd.prog.godebug = none := mDh
theorem laidOut : laidOutB Tryd.prog = true := mDh
def IsRow (k : IntKind) (w : World) (a : Option Addr) (len cap : Nat) (zs : List Int) : Prop :=
 (a = none ∧ len = 0 ∧ cap = 0 ∧ zs = []) ∨
 ∃ x, a = some x ∧ len ≤ cap ∧ cap ≤ maxLen ∧ zs.length = cap ∧ (∀ i, i < zs.length → w.cell? (x.add i) = some (.int k (zs.getD i 0))) ∧ ∀ n ∈ zs, (Lit.int k n).wf = true
theorem opened {H : Type} {enc : TypeId × Value → H} {W : World} {a0 : Option Addr} {len0 cap0 : Nat} {d : DataW H} {p : List MemPlace} (h : DataW.Trod enc Tryd.prog W 0 (fun _ => true) true 22 (.slice a0 len0 cap0) d p) : ∃ l : List P.I, len0 = l.length ∧ l.length ≤ cap0 ∧ P.kI.C W a0 l.length l ∧ P.wL l + 1 ≤ Rows.uptoBulk d ∧ P.alL P.rngW l := by
 exact mBr
set_option maxRecDepth 100000 in
theorem contract (H : Type) (enc : TypeId × Value → H) (W : World) (base : Nat) (args : Array Value) (ds gs : List (DataW H)) (before : List MemPlace)
 (hval : ∀ (j : Nat) t v, Tryd.f8.params[j]? = some t → args[j]? = some v → Value.okWide Tryd.prog W .any base t v)
 (hW : DataW.Whole enc Tryd.prog Tryd.f8.params.toList Rows.codeBackSpec.vars false W args.toList ds gs before) (hk : Rows.uptoSmall H (ds ++ gs) = true) (hL : laidMetH Tryd.prog Rows.codeBackUptoRow.laid W) (hsh : W.ShapedOpen Tryd.prog) :
 Calls Tryd.prog 8 args W fun e W' => ∃ v, e = .returned v ∧ Rows.codeBackSpec.post enc Tryd.prog Tryd.f8 false true false false W args v W' := by
 have hW' := hW
 obtain ⟨p, q, hA0, hV, rfl, hfz, hnd⟩ := hW
 have hA : DataW.TrodAll enc Tryd.prog W 0 (fun _ => true) true Tryd.f8.params.toList args.toList ds p := hA0
 rw [Tryd.params8] at hA hval
 obtain ⟨v0, vs0, d0, ds0, p0, q0, hargs, rfl, rfl, h0, r0⟩ := trodAll_cons hA
 obtain ⟨v1, vs1, d1, ds1, p1, q1, rfl, rfl, rfl, h1, r1⟩ := trodAll_cons r0
 obtain ⟨v2, vs2, d2, ds2, p2, q2, rfl, rfl, rfl, h2, r2⟩ := trodAll_cons r1
 obtain ⟨rfl, rfl, rfl⟩ := trodAll_nil r2
 obtain rfl : args = #[v0, v1, v2] := by cases args; simp_all
 obtain ⟨rfl, rfl⟩ := trodVars_none hV
 obtain ⟨a0, len0, cap0, rfl⟩ := okWide_slice Tryd.underlying22 (hval 0 22 v0 rfl rfl)
 have k0 := h0
 have lt0 : ∀ x ∈ p0, x.block < W.heap.size := by obtain ⟨m, hm⟩ := k0; exact DataW.trod_lt m _ _ _ hm
 obtain ⟨l0, rfl, hc0, hC0, b0, g0⟩ := opened h0
 obtain ⟨a1, len1, cap1, rfl⟩ := okWide_slice Tryd.underlying24 (hval 1 24 v1 rfl rfl)
 have k1 := h1
 have lt1 : ∀ x ∈ p1, x.block < W.heap.size := by obtain ⟨m, hm⟩ := k1; exact DataW.trod_lt m _ _ _ hm
 obtain ⟨z1, w1⟩ : ∃ zs, IsRow .u8 W a1 len1 cap1 zs := by
  obtain ⟨fuel, hf⟩ := h1
  exact mAz
 have b1 : len1 + 1 ≤ Rows.uptoBulk d1 := bulks.ints Tryd.underlying24 Tryd.underlying5 mDh h1
 obtain ⟨a2, len2, cap2, rfl⟩ := okWide_slice Tryd.underlying24 (hval 2 24 v2 rfl rfl)
 have k2 := h2
 have lt2 : ∀ x ∈ p2, x.block < W.heap.size := by obtain ⟨m, hm⟩ := k2; exact DataW.trod_lt m _ _ _ hm
 obtain ⟨z2, w2⟩ : ∃ zs, IsRow .u8 W a2 len2 cap2 zs := by
  obtain ⟨fuel, hf⟩ := h2
  exact mAz
 have b2 : len2 + 1 ≤ Rows.uptoBulk d2 := bulks.ints Tryd.underlying24 Tryd.underlying5 mDh h2
 clear hA0
 simp only [List.append_nil] at hW' hk
 have hB := bulks.bound hk
 simp only [Rows.uptoBulkAll] at hB
 have hw0 : P.wL l0 ≤ 1048576 := mDj
 have hr0 := P.alL_rng l0 g0 mDj
 obtain ⟨l1, rfl, hr1, hm1, hy01, hc1⟩ := zg.ofRowC w1
 have hR1 := Kd.C_of_reads (d := (0 : Int)) (h1 := fun _ => rfl) hr1
 have hy1 : LebM.Bytes l1 := LebM.bytes_wf hy01
 have hn1 : l1.length ≤ 1048576 := mDj
 obtain ⟨l2, rfl, hr2, hm2, hy02, hc2⟩ := zg.ofRowC w2
 have hR2 := Kd.C_of_reads (d := (0 : Int)) (h1 := fun _ => rfl) hr2
 have hy2 : LebM.Bytes l2 := LebM.bytes_wf hy02
 have hn2 : l2.length ≤ 1048576 := mDj
 refine (P.back_calls a0 _ l0 a1 _ l1 a2 _ l2 W (laids.tab hL hsh) hc0 hC0 hr0 hw0 hc1 hR1 hy1 hc2 hR2 hy2).mono fun e W' ⟨he, bel⟩ => ?_
 subst he
 exact ⟨_, rfl, _, _, _, [], _, [], hW', trodAll_mk1 (shut_bool Tryd.underlying4 _), (trodAll_cons_mk (Below.trod laidOut mDh (of_decide_eq_true mDh) k0 bel lt0) (trodAll_cons_mk (Below.trod laidOut mDh (of_decide_eq_true mDh) k1 bel lt1) (trodAll_cons_mk (Below.trod laidOut mDh (of_decide_eq_true mDh) k2 bel lt2) trodAll_mk0))), rfl, bel.frame _, fun h => by cases h⟩
theorem reads (os : Os) {H : Type} (enc : TypeId × Value → H) : ∃ places, DataW.whole enc Tryd.prog ((laids.laidWorld os).forCall (fun _ _ => 0) ⟨#[], #[.slice none 0 0, .slice none 0 0, .slice none 0 0], []⟩).memory Tryd.f8.params.toList Rows.codeBackSpec.vars false (#[.slice none 0 0, .slice none 0 0, .slice none 0 0] : Array Value).toList 8 = some ([.nil, .nil, .nil], [], places) :=
 ⟨[], mDh⟩
set_option maxRecDepth 100000 in
theorem lifted (os : Os) (started : os.Started) (H : Type) (enc : TypeId × Value → H) (F : Stop.Interp) :
 ReturnsInHanded {} Tryd.checked os 8 .any ((Rows.OpenSpec.upto Rows.codeBackSpec).preRow enc Tryd.prog Tryd.f8 Rows.codeBackUptoRow.domain false Rows.codeBackUptoRow.laid) (((Rows.OpenSpec.upto Rows.codeBackSpec).at F).post enc Tryd.prog Tryd.f8 false true false false) := by
 obtain ⟨places, hx⟩ := reads os enc
 refine returnsInHanded_of_row (C := Tryd.checked) (s := Rows.OpenSpec.upto Rows.codeBackSpec) own started mDh Tryd.func8
  (witness_row_atRef (enc := enc) (C := Tryd.checked) false (laids.laidWorld os) #[.slice none 0 0, .slice none 0 0, .slice none 0 0] rfl mDh mDh mDh
   (OpenSpec.preRow_of_cond 8 hx mDh (fun k hk => by cases hk; kernel_rfl) mDh (laids.laid_met os #[.slice none 0 0, .slice none 0 0, .slice none 0 0]))) ?_
 intro W base args ds gs before hval hW _ hc _ hL hsh _
 exact contract H enc W base args ds gs before hval hW (hc _ rfl) hL hsh
theorem saidUpto : Rows.CodeBackUptoSaid :=
 OpenClaim.holds_of_cond 8 Tryd.f8 rfl rfl rfl rfl rfl rfl rfl ⟨rfl, rfl, rfl, rfl, rfl⟩ rfl rfl rfl rfl rfl mDh Tryd.func8 mDh
  (of_decide_eq_true mDh) mC5
  (fun os started H enc _ F => by rw [OpenClaim.pre_eq_preRow]; exact lifted os started H enc F)
theorem plain (f : FuncId) (fn : Func) (hf : Tryd.pinned.checked.prog.funcNamed "jacquard/jacquardlaw11.CodeBack" = some f) (hfn : Tryd.pinned.checked.prog.funcs[f]? = some fn) :
 false = Tryd.pinned.checked.prog.looks [] ∧ ∀ (j : Nat) t, fn.params[j]? = some t → Tryd.pinned.checked.prog.wantsStandIn t = false := by
 obtain rfl : f = 8 := Option.some.inj ((show Tryd.prog.funcNamed "jacquard/jacquardlaw11.CodeBack" = some 8 by kernel_rfl).symm.trans hf) |>.symm
 obtain rfl : fn = Tryd.f8 := (Option.some.inj (Tryd.func8.symm.trans hfn)).symm
 refine ⟨mDh, fun j t ht => ?_⟩
 rw [Tryd.params8] at ht
 have hm := Array.mem_of_getElem? ht
 simp only [List.mem_toArray, List.mem_cons, List.not_mem_nil, or_false] at hm
 rcases hm with rfl | rfl | rfl <;> (show Tryd.prog.wantsStandIn _ = false; kernel_rfl)
end Go.Proofs.YtobldeamemmokaaDoor.codeBackUpto
namespace Go.Proofs.YtobldeamemmokaaDoor
/-- The tied card of the second form. -/
theorem codeBackUptoCard_holds : Rows.CodeBackUptoCardSaid :=
 Claim7.holds_tied_plain_at .later [] _ _ _ _ codeBackUpto.saidUpto (fun _ h => by cases h) mDh (fun _ h => by cases h) codeBackUpto_row_tie rfl ⟨rfl, rfl⟩ mDh rfl codeBackUpto.plain mDh
end Go.Proofs.YtobldeamemmokaaDoor
