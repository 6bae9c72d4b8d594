/- The row of the law TypesBack, where what comes in is of bulk at most 1048576, out of the walk that is typed by hand (Wlk.TypesBackUpto). Condition: the bulk. -/
import Derived.Test.YthillgpbenjldaaRows
import Derived.Test.YthillgpbenjldaaWlkTypesBackUpto
import Derived.WalkKit
import Derived.ProofKit
import Derived.OpenShut
import Derived.ShutString
import Derived.ChangeOld
import Derived.Below
import Derived.JoinedCond
import Derived.Test.YthillgpbenjldaaBulk
namespace Go.Proofs.Ythillgpbenjldaa.typesBackUptoRow
open Go.ChangeShapes Go.WideShapes Go.ChangeAt Go.RowKit Go.Proofs.YthillgpbenjldaaW.PrintWords Go.Proofs.YthillgpbenjldaaW.PrintLast Go.Proofs.YthillgpbenjldaaW.PrintMore
open Go.ChangeMaps (open_string shut_string)
set_option linter.unusedVariables false
theorem own : ownKnob Try.prog.godebug = none := by kernel_rfl
theorem laidOut : laidOutB Try.prog = true := by kernel_rfl
def IsRow (k : IntKind) (w : World) (a : Option Addr) (len cap : Nat) (zs : List Int) : Prop :=
  (a = none ∧ len = 0 ∧ cap = 0 ∧ zs = []) ∨
  ∃ x, a = some x ∧ len ≤ cap ∧ cap ≤ maxLen ∧ zs.length = cap ∧ (∀ i, i < zs.length → w.cell? (x.add i) = some (.int k (zs.getD i 0))) ∧ ∀ n ∈ zs, (Lit.int k n).wf = true
theorem openInts {H : Type} {enc : TypeId × Value → H} {P : Program} {W : World} {t e : TypeId} {k : IntKind} {fuel : Nat} {cs : List Value} {x : DataW H × List MemPlace} (ht : P.underlying t = some (.slice e)) (he : P.underlying e = some (.int k)) (hc : P.cellsOf e = 1)
    (h : DataW.trod enc P W 0 (fun _ => true) true fuel t cs = some x) : ∃ (A : Option Addr) (n c : Nat) (zs : List Int), cs = [.slice A n c] ∧ True ∧ IsRow k W A n c zs ∧ n + 1 ≤ Rows.uptoBulk x.1 := by
  rcases open_ints ht he hc h with ⟨hcs, hx⟩ | ⟨a, l, c, zs, hcs, _, hl, hm, hz, hx, hcell, hwz⟩
  · exact ⟨none, 0, 0, [], hcs, trivial, .inl ⟨rfl, rfl, rfl, rfl⟩, bulks.one_le _⟩
  · refine ⟨some a, l, c, zs, hcs, trivial, .inr ⟨_, rfl, hl, hm, by simpa using hz, hcell, hwz⟩, ?_⟩
    rw [hx]
    have hz2 : zs.length = c := by simpa using hz
    have h1 := bulks.length_le (lits (H := H) k (zs.take l))
    have h2 : (lits (H := H) k (zs.take l)).length = l := by simp [lits]; omega
    simp only [Rows.uptoBulk]
    omega
theorem arr2 {cs : Array Value} (h : cs.size = 2) : ∃ c0 c1, cs = #[c0, c1] := by
  match cs, h with
  | ⟨[c0, c1]⟩, _ => exact ⟨c0, c1, rfl⟩
theorem arr3 {cs : Array Value} (h : cs.size = 3) : ∃ c0 c1 c2, cs = #[c0, c1, c2] := by
  match cs, h with
  | ⟨[c0, c1, c2]⟩, _ => exact ⟨c0, c1, c2, rfl⟩
theorem lst2 {α : Type} {cs : List α} (h : cs.length = 2) : ∃ c0 c1, cs = [c0, c1] := by
  match cs, h with
  | [c0, c1], _ => exact ⟨c0, c1, rfl⟩
theorem lst3 {α : Type} {cs : List α} (h : cs.length = 3) : ∃ c0 c1 c2, cs = [c0, c1, c2] := by
  match cs, h with
  | [c0, c1, c2], _ => exact ⟨c0, c1, c2, rfl⟩
theorem contract (H : Type) (enc : TypeId × Value → H) (W : World) (base : Nat) (args : Array Value) (ds gs : List (DataW H)) (before : List MemPlace)
    (hval : ∀ (j : Nat) t v, Try.f11.params[j]? = some t → args[j]? = some v → Value.okWide Try.prog W .any base t v)
    (hW : DataW.Whole enc Try.prog Try.f11.params.toList Rows.typesBackSpec.vars false W args.toList ds gs before) (hk : Rows.uptoSmall H (ds ++ gs) = true) :
    Calls Try.prog 11 args W fun e W' => ∃ v, e = .returned v ∧ Rows.typesBackSpec.post enc Try.prog Try.f11 false true false false W args v W' := by
  have hW' := hW
  obtain ⟨p, q, hA0, hV, rfl, hfz, hnd⟩ := hW
  have hA : DataW.TrodAll enc Try.prog W 0 (fun _ => true) true Try.f11.params.toList args.toList ds p := hA0
  rw [Try.params11] at hA hval
  obtain ⟨v0, vs0, d0, ds0, p0, q0, hargs, rfl, rfl, h0, r0⟩ := trodAll_cons hA
  obtain ⟨v1, vs1, d1, ds1, p1, q1, rfl, rfl, rfl, h1, r1⟩ := trodAll_cons r0
  obtain ⟨v2, vs2, d2, ds2, p2, q2, rfl, rfl, rfl, h2, r2⟩ := trodAll_cons r1
  obtain ⟨v3, vs3, d3, ds3, p3, q3, rfl, rfl, rfl, h3, r3⟩ := trodAll_cons r2
  obtain ⟨rfl, rfl, rfl⟩ := trodAll_nil r3
  obtain rfl : args = #[v0, v1, v2, v3] := by cases args; simp_all
  obtain ⟨rfl, rfl⟩ := trodVars_none hV
  have k0 := h0
  have lt0 : ∀ x ∈ p0, x.block < W.heap.size := by obtain ⟨m, hm⟩ := k0; exact DataW.trod_lt m _ _ _ hm
  obtain ⟨cs0, rfl, hs0⟩ := okWide_struct Try.underlying25 (hval 0 25 v0 rfl rfl)
  obtain ⟨b0_0, b0_1, rfl⟩ := arr2 (hs0.trans (by kernel_rfl : Try.prog.cellsOf 25 = 2))
  obtain ⟨fu0, hh0⟩ := h0
  replace hh0 : DataW.trod enc Try.prog W 0 (fun _ => true) true fu0 25 [b0_0, b0_1] = some (d0, p0) := hh0
  obtain ⟨xs0, n0, _, hx0, _, hl0, hf0⟩ := DataW.trod_struct Try.underlying25 hh0
  obtain ⟨q0_0, q0_1, rfl⟩ := lst2 (hl0.trans rfl)
  simp only [List.map_cons, List.map_nil] at hx0
  have g0_0 := hf0 0 _ rfl
  replace g0_0 : DataW.trod enc Try.prog W 0 (fun _ => true) true n0 23 [b0_0] = some q0_0 := g0_0
  obtain ⟨A0_0, n0_0, c0_0, z0_0, e0_0, y0_0, w0_0, bu0_0⟩ := openInts Try.underlying23 Try.underlying29 (by kernel_rfl) g0_0
  obtain rfl := (List.cons.inj e0_0).1
  obtain ⟨l0_0, rfl, hr0_0, hm0_0, hw0_0, hc0_0⟩ := ReadsInt.ofRowC w0_0
  have g0_1 := hf0 1 _ rfl
  replace g0_1 : DataW.trod enc Try.prog W 0 (fun _ => true) true n0 23 [b0_1] = some q0_1 := g0_1
  obtain ⟨A0_1, n0_1, c0_1, z0_1, e0_1, y0_1, w0_1, bu0_1⟩ := openInts Try.underlying23 Try.underlying29 (by kernel_rfl) g0_1
  obtain rfl := (List.cons.inj e0_1).1
  obtain ⟨l0_1, rfl, hr0_1, hm0_1, hw0_1, hc0_1⟩ := ReadsInt.ofRowC w0_1
  have k1 := h1
  have lt1 : ∀ x ∈ p1, x.block < W.heap.size := by obtain ⟨m, hm⟩ := k1; exact DataW.trod_lt m _ _ _ hm
  obtain ⟨cs1, rfl, hs1⟩ := okWide_struct Try.underlying45 (hval 1 45 v1 rfl rfl)
  obtain ⟨b1_0, b1_1, b1_2, rfl⟩ := arr3 (hs1.trans (by kernel_rfl : Try.prog.cellsOf 45 = 3))
  obtain ⟨fu1, hh1⟩ := h1
  replace hh1 : DataW.trod enc Try.prog W 0 (fun _ => true) true fu1 45 [b1_0, b1_1, b1_2] = some (d1, p1) := hh1
  obtain ⟨xs1, n1, _, hx1, _, hl1, hf1⟩ := DataW.trod_struct Try.underlying45 hh1
  obtain ⟨q1_0, q1_1, q1_2, rfl⟩ := lst3 (hl1.trans rfl)
  simp only [List.map_cons, List.map_nil] at hx1
  have g1_0 := hf1 0 _ rfl
  replace g1_0 : DataW.trod enc Try.prog W 0 (fun _ => true) true n1 43 [b1_0] = some q1_0 := g1_0
  obtain ⟨a1_0, e1_0, _, wa1_0⟩ := DataW.trod_int Try.underlying43 g1_0
  obtain rfl := (List.cons.inj e1_0).1
  have g1_1 := hf1 1 _ rfl
  replace g1_1 : DataW.trod enc Try.prog W 0 (fun _ => true) true n1 43 [b1_1] = some q1_1 := g1_1
  obtain ⟨a1_1, e1_1, _, wa1_1⟩ := DataW.trod_int Try.underlying43 g1_1
  obtain rfl := (List.cons.inj e1_1).1
  have g1_2 := hf1 2 _ rfl
  replace g1_2 : DataW.trod enc Try.prog W 0 (fun _ => true) true n1 4 [b1_2] = some q1_2 := g1_2
  obtain ⟨a1_2, e1_2, _⟩ := DataW.trod_bool Try.underlying4 g1_2
  obtain rfl := (List.cons.inj e1_2).1
  have k2 := h2
  have lt2 : ∀ x ∈ p2, x.block < W.heap.size := by obtain ⟨m, hm⟩ := k2; exact DataW.trod_lt m _ _ _ hm
  obtain ⟨A2, n2, c2, rfl⟩ := okWide_slice Try.underlying22 (hval 2 22 v2 rfl rfl)
  obtain ⟨fu2, hh2⟩ := h2
  replace hh2 : DataW.trod enc Try.prog W 0 (fun _ => true) true fu2 22 [.slice A2 n2 c2] = some (d2, p2) := hh2
  obtain ⟨_, _, _, z2, e2, y2, w2, bu2⟩ := openInts Try.underlying22 Try.underlying5 (by kernel_rfl) hh2
  obtain ⟨rfl, rfl, rfl⟩ := Value.slice.inj (List.cons.inj e2).1
  obtain ⟨l2, rfl, hr2, hm2, hw2, hc2⟩ := ReadsInt.ofRowC w2
  have k3 := h3
  have lt3 : ∀ x ∈ p3, x.block < W.heap.size := by obtain ⟨m, hm⟩ := k3; exact DataW.trod_lt m _ _ _ hm
  obtain ⟨A3, n3, c3, rfl⟩ := okWide_slice Try.underlying22 (hval 3 22 v3 rfl rfl)
  obtain ⟨fu3, hh3⟩ := h3
  replace hh3 : DataW.trod enc Try.prog W 0 (fun _ => true) true fu3 22 [.slice A3 n3 c3] = some (d3, p3) := hh3
  obtain ⟨_, _, _, z3, e3, y3, w3, bu3⟩ := openInts Try.underlying22 Try.underlying5 (by kernel_rfl) hh3
  obtain ⟨rfl, rfl, rfl⟩ := Value.slice.inj (List.cons.inj e3).1
  obtain ⟨l3, rfl, hr3, hm3, hw3, hc3⟩ := ReadsInt.ofRowC w3
  clear hA0
  simp only [List.append_nil] at hW' hk
  have hB := bulks.bound hk
  simp only [Rows.uptoBulkAll] at hB
  have bhx0 := bulks.agg (Prod.mk.inj hx0).1
  simp only [Rows.uptoBulkAll] at bhx0
  have bhx1 := bulks.agg (Prod.mk.inj hx1).1
  simp only [Rows.uptoBulkAll] at bhx1
  refine (Wlk.TypesBackUpto A0_0 c0_0 l0_0 A0_1 c0_1 l0_1 a1_0 a1_1 a1_2 A2 c2 l2 A3 c3 l3 W (Kd.C_of_reads (d := (0 : Int)) (h1 := fun _ => rfl) hr0_0) hc0_0 hm0_0 hw0_0 (Kd.C_of_reads (d := (0 : Int)) (h1 := fun _ => rfl) hr0_1) hc0_1 hm0_1 hw0_1 wa1_0 wa1_1 (Kd.C_of_reads (d := (0 : Int)) (h1 := fun _ => rfl) hr2) hc2 hm2 hw2 (Kd.C_of_reads (d := (0 : Int)) (h1 := fun _ => rfl) hr3) hc3 hm3 hw3 (by simp only [] at *; omega)).mono fun e W' ⟨he, bel⟩ => ?_
  subst he
  exact ⟨_, rfl, _, _, _, [], _, [], hW', trodAll_mk1 (shut_bool Try.underlying4 _), (trodAll_cons_mk (Below.trod laidOut (by kernel_rfl) (of_decide_eq_true (by kernel_rfl)) k0 bel lt0) (trodAll_cons_mk (Below.trod laidOut (by kernel_rfl) (of_decide_eq_true (by kernel_rfl)) k1 bel lt1) (trodAll_cons_mk (Below.trod laidOut (by kernel_rfl) (of_decide_eq_true (by kernel_rfl)) k2 bel lt2) (trodAll_cons_mk (Below.trod laidOut (by kernel_rfl) (of_decide_eq_true (by kernel_rfl)) k3 bel lt3) trodAll_mk0)))), rfl, bel.frame _, fun h => by cases h⟩

set_option maxRecDepth 100000 in
theorem lifted (os : Os) (started : os.Started) (H : Type) (enc : TypeId × Value → H) (F : Stop.Interp) :
    ReturnsInHanded {} Try.checked os 11 .any ((Rows.OpenSpec.upto Rows.typesBackSpec).pre6 enc Try.prog Try.f11 Rows.typesBackUptoRow.domain false) (((Rows.OpenSpec.upto Rows.typesBackSpec).at F).post enc Try.prog Try.f11 false true false false) := by
  refine returnsInHanded_of_cond (C := Try.checked) (s := Rows.OpenSpec.upto Rows.typesBackSpec) (k := Rows.uptoSmall) rfl own started (by kernel_rfl) Try.func11
    (OpenSpec.witness (enc := enc) (C := Try.checked) (s := Rows.OpenSpec.upto Rows.typesBackSpec) (k := Rows.uptoSmall) rfl false ⟨#[], #[.agg #[.slice none 0 0, .slice none 0 0], .agg #[.int .u32 0, .int .u32 0, .bool false], .slice none 0 0, .slice none 0 0], []⟩ 8 (by kernel_rfl) (by kernel_rfl) (by kernel_rfl)
      (x := ([.agg [.nil, .nil], .agg [.lit (.int .u32 0), .lit (.int .u32 0), .lit (.bool false)], .nil, .nil], [], [])) (by kernel_rfl) rfl (by kernel_rfl)) ?_
  intro W base args ds gs before hval hW _ hk _
  exact contract H enc W base args ds gs before hval hW hk
theorem proved : Rows.TypesBackUptoSaid :=
  OpenClaim.holds_of_cond 11 Try.f11 rfl rfl rfl rfl rfl rfl rfl ⟨rfl, rfl, rfl, rfl, rfl⟩ rfl rfl rfl rfl rfl (by kernel_rfl) Try.func11 (by kernel_rfl)
    (of_decide_eq_true (by kernel_rfl)) (by unfold Func.isWrapper; first | (rw [if_pos (by decide +kernel)]; kernel_rfl) | (rw [if_neg (by decide +kernel)]; exact ⟨rfl, rfl⟩))
    (fun os started H enc _ F => lifted os started H enc F)
end Go.Proofs.Ythillgpbenjldaa.typesBackUptoRow
namespace Go.Proofs.Ythillgpbenjldaa
/-- The row, under a short name, for the claim. -/
theorem typesBackUpto_holds : Rows.TypesBackUptoSaid := typesBackUptoRow.proved
end Go.Proofs.Ythillgpbenjldaa
