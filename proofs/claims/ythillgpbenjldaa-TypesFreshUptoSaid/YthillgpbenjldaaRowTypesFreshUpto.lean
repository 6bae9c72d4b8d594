/- The row of the law TypesFresh, where what comes in is of bulk at most 1048576, out of the walk that is typed by hand (Wlk.TypesFreshUpto). Condition: the bulk. -/
import Derived.Test.YthillgpbenjldaaRows
import Derived.Test.YthillgpbenjldaaWlkTypesFreshUpto
import Derived.WalkKit
import Derived.ProofKit
import Derived.OpenShut
import Derived.ShutString
import Derived.ChangeOld
import Derived.Below
import Derived.JoinedCond
import Derived.Test.YthillgpbenjldaaBulk
namespace Go.Proofs.Ythillgpbenjldaa.typesFreshUptoRow
open Go.ChangeShapes Go.WideShapes Go.ChangeAt Go.RowKit Go.Proofs.YthillgpbenjldaaW.PrintWords Go.Proofs.YthillgpbenjldaaW.PrintLast Go.Proofs.YthillgpbenjldaaW.PrintMore
open Go.ChangeMaps (open_string shut_string)
set_option linter.unusedVariables false
theorem own : ownKnob Try.prog.godebug = none := by kernel_rfl
theorem laidOut : laidOutB Try.prog = true := by kernel_rfl
def IsRow (k : IntKind) (w : World) (a : Option Addr) (len cap : Nat) (zs : List Int) : Prop :=
  (a = none ∧ len = 0 ∧ cap = 0 ∧ zs = []) ∨
  ∃ x, a = some x ∧ len ≤ cap ∧ cap ≤ maxLen ∧ zs.length = cap ∧ (∀ i, i < zs.length → w.cell? (x.add i) = some (.int k (zs.getD i 0))) ∧ ∀ n ∈ zs, (Lit.int k n).wf = true
theorem openInts {H : Type} {enc : TypeId × Value → H} {P : Program} {W : World} {t e : TypeId} {k : IntKind} {fuel : Nat} {cs : List Value} {x : DataW H × List MemPlace} (ht : P.underlying t = some (.slice e)) (he : P.underlying e = some (.int k)) (hc : P.cellsOf e = 1)
    (h : DataW.trod enc P W 0 (fun _ => true) true fuel t cs = some x) : ∃ (A : Option Addr) (n c : Nat) (zs : List Int), cs = [.slice A n c] ∧ True ∧ IsRow k W A n c zs ∧ n + 1 ≤ Rows.uptoBulk x.1 := by
  rcases open_ints ht he hc h with ⟨hcs, hx⟩ | ⟨a, l, c, zs, hcs, _, hl, hm, hz, hx, hcell, hwz⟩
  · exact ⟨none, 0, 0, [], hcs, trivial, .inl ⟨rfl, rfl, rfl, rfl⟩, bulks.one_le _⟩
  · refine ⟨some a, l, c, zs, hcs, trivial, .inr ⟨_, rfl, hl, hm, by simpa using hz, hcell, hwz⟩, ?_⟩
    rw [hx]
    have hz2 : zs.length = c := by simpa using hz
    have h1 := bulks.length_le (lits (H := H) k (zs.take l))
    have h2 : (lits (H := H) k (zs.take l)).length = l := by simp [lits]; omega
    simp only [Rows.uptoBulk]
    omega
theorem arr2 {cs : Array Value} (h : cs.size = 2) : ∃ c0 c1, cs = #[c0, c1] := by
  match cs, h with
  | ⟨[c0, c1]⟩, _ => exact ⟨c0, c1, rfl⟩
theorem lst2 {α : Type} {cs : List α} (h : cs.length = 2) : ∃ c0 c1, cs = [c0, c1] := by
  match cs, h with
  | [c0, c1], _ => exact ⟨c0, c1, rfl⟩
theorem contract (H : Type) (enc : TypeId × Value → H) (W : World) (base : Nat) (args : Array Value) (ds gs : List (DataW H)) (before : List MemPlace)
    (hval : ∀ (j : Nat) t v, Try.f8.params[j]? = some t → args[j]? = some v → Value.okWide Try.prog W .any base t v)
    (hW : DataW.Whole enc Try.prog Try.f8.params.toList Rows.typesFreshSpec.vars false W args.toList ds gs before) (hk : Rows.uptoSmall H (ds ++ gs) = true) :
    Calls Try.prog 8 args W fun e W' => ∃ v, e = .returned v ∧ Rows.typesFreshSpec.post enc Try.prog Try.f8 false true false false W args v W' := by
  have hW' := hW
  obtain ⟨p, q, hA0, hV, rfl, hfz, hnd⟩ := hW
  have hA : DataW.TrodAll enc Try.prog W 0 (fun _ => true) true Try.f8.params.toList args.toList ds p := hA0
  rw [Try.params8] at hA hval
  obtain ⟨v0, vs0, d0, ds0, p0, q0, hargs, rfl, rfl, h0, r0⟩ := trodAll_cons hA
  obtain ⟨v1, vs1, d1, ds1, p1, q1, rfl, rfl, rfl, h1, r1⟩ := trodAll_cons r0
  obtain ⟨rfl, rfl, rfl⟩ := trodAll_nil r1
  obtain rfl : args = #[v0, v1] := by cases args; simp_all
  obtain ⟨rfl, rfl⟩ := trodVars_none hV
  have k0 := h0
  have lt0 : ∀ x ∈ p0, x.block < W.heap.size := by obtain ⟨m, hm⟩ := k0; exact DataW.trod_lt m _ _ _ hm
  obtain ⟨A0, n0, c0, rfl⟩ := okWide_slice Try.underlying22 (hval 0 22 v0 rfl rfl)
  obtain ⟨fu0, hh0⟩ := h0
  replace hh0 : DataW.trod enc Try.prog W 0 (fun _ => true) true fu0 22 [.slice A0 n0 c0] = some (d0, p0) := hh0
  obtain ⟨_, _, _, z0, e0, y0, w0, bu0⟩ := openInts Try.underlying22 Try.underlying5 (by kernel_rfl) hh0
  obtain ⟨rfl, rfl, rfl⟩ := Value.slice.inj (List.cons.inj e0).1
  obtain ⟨l0, rfl, hr0, hm0, hw0, hc0⟩ := ReadsInt.ofRowC w0
  have k1 := h1
  have lt1 : ∀ x ∈ p1, x.block < W.heap.size := by obtain ⟨m, hm⟩ := k1; exact DataW.trod_lt m _ _ _ hm
  obtain ⟨cs1, rfl, hs1⟩ := okWide_struct Try.underlying25 (hval 1 25 v1 rfl rfl)
  obtain ⟨b1_0, b1_1, rfl⟩ := arr2 (hs1.trans (by kernel_rfl : Try.prog.cellsOf 25 = 2))
  obtain ⟨fu1, hh1⟩ := h1
  replace hh1 : DataW.trod enc Try.prog W 0 (fun _ => true) true fu1 25 [b1_0, b1_1] = some (d1, p1) := hh1
  obtain ⟨xs1, n1, _, hx1, _, hl1, hf1⟩ := DataW.trod_struct Try.underlying25 hh1
  obtain ⟨q1_0, q1_1, rfl⟩ := lst2 (hl1.trans rfl)
  simp only [List.map_cons, List.map_nil] at hx1
  have g1_0 := hf1 0 _ rfl
  replace g1_0 : DataW.trod enc Try.prog W 0 (fun _ => true) true n1 23 [b1_0] = some q1_0 := g1_0
  obtain ⟨A1_0, n1_0, c1_0, z1_0, e1_0, y1_0, w1_0, bu1_0⟩ := openInts Try.underlying23 Try.underlying29 (by kernel_rfl) g1_0
  obtain rfl := (List.cons.inj e1_0).1
  obtain ⟨l1_0, rfl, hr1_0, hm1_0, hw1_0, hc1_0⟩ := ReadsInt.ofRowC w1_0
  have g1_1 := hf1 1 _ rfl
  replace g1_1 : DataW.trod enc Try.prog W 0 (fun _ => true) true n1 23 [b1_1] = some q1_1 := g1_1
  obtain ⟨A1_1, n1_1, c1_1, z1_1, e1_1, y1_1, w1_1, bu1_1⟩ := openInts Try.underlying23 Try.underlying29 (by kernel_rfl) g1_1
  obtain rfl := (List.cons.inj e1_1).1
  obtain ⟨l1_1, rfl, hr1_1, hm1_1, hw1_1, hc1_1⟩ := ReadsInt.ofRowC w1_1
  clear hA0
  simp only [List.append_nil] at hW' hk
  have hB := bulks.bound hk
  simp only [Rows.uptoBulkAll] at hB
  have bhx1 := bulks.agg (Prod.mk.inj hx1).1
  simp only [Rows.uptoBulkAll] at bhx1
  refine (Wlk.TypesFreshUpto A0 c0 l0 A1_0 c1_0 l1_0 A1_1 c1_1 l1_1 W (Kd.C_of_reads (d := (0 : Int)) (h1 := fun _ => rfl) hr0) hc0 hm0 hw0 (Kd.C_of_reads (d := (0 : Int)) (h1 := fun _ => rfl) hr1_0) hc1_0 hm1_0 hw1_0 (Kd.C_of_reads (d := (0 : Int)) (h1 := fun _ => rfl) hr1_1) hc1_1 hm1_1 hw1_1 (by simp only [] at *; omega)).mono fun e W' ⟨he, bel⟩ => ?_
  subst he
  exact ⟨_, rfl, _, _, _, [], _, [], hW', trodAll_mk1 (shut_bool Try.underlying4 _), (trodAll_cons_mk (Below.trod laidOut (by kernel_rfl) (of_decide_eq_true (by kernel_rfl)) k0 bel lt0) (trodAll_cons_mk (Below.trod laidOut (by kernel_rfl) (of_decide_eq_true (by kernel_rfl)) k1 bel lt1) trodAll_mk0)), rfl, bel.frame _, fun h => by cases h⟩

set_option maxRecDepth 100000 in
theorem lifted (os : Os) (started : os.Started) (H : Type) (enc : TypeId × Value → H) (F : Stop.Interp) :
    ReturnsInHanded {} Try.checked os 8 .any ((Rows.OpenSpec.upto Rows.typesFreshSpec).pre6 enc Try.prog Try.f8 Rows.typesFreshUptoRow.domain false) (((Rows.OpenSpec.upto Rows.typesFreshSpec).at F).post enc Try.prog Try.f8 false true false false) := by
  refine returnsInHanded_of_cond (C := Try.checked) (s := Rows.OpenSpec.upto Rows.typesFreshSpec) (k := Rows.uptoSmall) rfl own started (by kernel_rfl) Try.func8
    (OpenSpec.witness (enc := enc) (C := Try.checked) (s := Rows.OpenSpec.upto Rows.typesFreshSpec) (k := Rows.uptoSmall) rfl false ⟨#[], #[.slice none 0 0, .agg #[.slice none 0 0, .slice none 0 0]], []⟩ 8 (by kernel_rfl) (by kernel_rfl) (by kernel_rfl)
      (x := ([.nil, .agg [.nil, .nil]], [], [])) (by kernel_rfl) rfl (by kernel_rfl)) ?_
  intro W base args ds gs before hval hW _ hk _
  exact contract H enc W base args ds gs before hval hW hk
theorem proved : Rows.TypesFreshUptoSaid :=
  OpenClaim.holds_of_cond 8 Try.f8 rfl rfl rfl rfl rfl rfl rfl ⟨rfl, rfl, rfl, rfl, rfl⟩ rfl rfl rfl rfl rfl (by kernel_rfl) Try.func8 (by kernel_rfl)
    (of_decide_eq_true (by kernel_rfl)) (by unfold Func.isWrapper; first | (rw [if_pos (by decide +kernel)]; kernel_rfl) | (rw [if_neg (by decide +kernel)]; exact ⟨rfl, rfl⟩))
    (fun os started H enc _ F => lifted os started H enc F)
end Go.Proofs.Ythillgpbenjldaa.typesFreshUptoRow
namespace Go.Proofs.Ythillgpbenjldaa
/-- The row, under a short name, for the claim. -/
theorem typesFreshUpto_holds : Rows.TypesFreshUptoSaid := typesFreshUptoRow.proved
end Go.Proofs.Ythillgpbenjldaa
