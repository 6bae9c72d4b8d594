/- The row of the law TypesLimits, out of the walk that is typed by hand (Wlk.TypesLimits). No condition. -/
import Derived.Test.YthillgpbenjldaaRows
import Derived.Test.YthillgpbenjldaaWlkTypesLimits
import Derived.WalkKit
import Derived.ProofKit
import Derived.OpenShut
import Derived.ShutString
import Derived.ChangeOld
import Derived.Below
import Derived.JoinedCond
import Derived.Test.YthillgpbenjldaaBulk
namespace Go.Proofs.Ythillgpbenjldaa.typesLimitsRow
open Go.ChangeShapes Go.WideShapes Go.ChangeAt Go.RowKit Go.Proofs.YthillgpbenjldaaW.PrintWords Go.Proofs.YthillgpbenjldaaW.PrintLast Go.Proofs.YthillgpbenjldaaW.PrintMore
open Go.ChangeMaps (open_string shut_string)
set_option linter.unusedVariables false
theorem own : ownKnob Try.prog.godebug = none := by kernel_rfl
theorem laidOut : laidOutB Try.prog = true := by kernel_rfl
def IsRow (k : IntKind) (w : World) (a : Option Addr) (len cap : Nat) (zs : List Int) : Prop :=
  (a = none ∧ len = 0 ∧ cap = 0 ∧ zs = []) ∨
  ∃ x, a = some x ∧ len ≤ cap ∧ cap ≤ maxLen ∧ zs.length = cap ∧ (∀ i, i < zs.length → w.cell? (x.add i) = some (.int k (zs.getD i 0))) ∧ ∀ n ∈ zs, (Lit.int k n).wf = true
theorem openInts {H : Type} {enc : TypeId × Value → H} {P : Program} {W : World} {t e : TypeId} {k : IntKind} {fuel : Nat} {cs : List Value} {x : DataW H × List MemPlace} (ht : P.underlying t = some (.slice e)) (he : P.underlying e = some (.int k)) (hc : P.cellsOf e = 1)
    (h : DataW.trod enc P W 0 (fun _ => true) true fuel t cs = some x) : ∃ (A : Option Addr) (n c : Nat) (zs : List Int), cs = [.slice A n c] ∧ True ∧ IsRow k W A n c zs ∧ n + 1 ≤ Rows.uptoBulk x.1 := by
  rcases open_ints ht he hc h with ⟨hcs, hx⟩ | ⟨a, l, c, zs, hcs, _, hl, hm, hz, hx, hcell, hwz⟩
  · exact ⟨none, 0, 0, [], hcs, trivial, .inl ⟨rfl, rfl, rfl, rfl⟩, bulks.one_le _⟩
  · refine ⟨some a, l, c, zs, hcs, trivial, .inr ⟨_, rfl, hl, hm, by simpa using hz, hcell, hwz⟩, ?_⟩
    rw [hx]
    have hz2 : zs.length = c := by simpa using hz
    have h1 := bulks.length_le (lits (H := H) k (zs.take l))
    have h2 : (lits (H := H) k (zs.take l)).length = l := by simp [lits]; omega
    simp only [Rows.uptoBulk]
    omega
theorem arr2 {cs : Array Value} (h : cs.size = 2) : ∃ c0 c1, cs = #[c0, c1] := by
  match cs, h with
  | ⟨[c0, c1]⟩, _ => exact ⟨c0, c1, rfl⟩
theorem arr4 {cs : Array Value} (h : cs.size = 4) : ∃ c0 c1 c2 c3, cs = #[c0, c1, c2, c3] := by
  match cs, h with
  | ⟨[c0, c1, c2, c3]⟩, _ => exact ⟨c0, c1, c2, c3, rfl⟩
theorem lst2 {α : Type} {cs : List α} (h : cs.length = 2) : ∃ c0 c1, cs = [c0, c1] := by
  match cs, h with
  | [c0, c1], _ => exact ⟨c0, c1, rfl⟩
theorem lst3 {α : Type} {cs : List α} (h : cs.length = 3) : ∃ c0 c1 c2, cs = [c0, c1, c2] := by
  match cs, h with
  | [c0, c1, c2], _ => exact ⟨c0, c1, c2, rfl⟩
theorem contract (H : Type) (enc : TypeId × Value → H) (W : World) (base : Nat) (args : Array Value) (ds gs : List (DataW H)) (before : List MemPlace)
    (hval : ∀ (j : Nat) t v, Try.f7.params[j]? = some t → args[j]? = some v → Value.okWide Try.prog W .any base t v)
    (hW : DataW.Whole enc Try.prog Try.f7.params.toList Rows.typesLimitsSpec.vars false W args.toList ds gs before) :
    Calls Try.prog 7 args W fun e W' => ∃ v, e = .returned v ∧ Rows.typesLimitsSpec.post enc Try.prog Try.f7 false true false false W args v W' := by
  have hW' := hW
  obtain ⟨p, q, hA0, hV, rfl, hfz, hnd⟩ := hW
  have hA : DataW.TrodAll enc Try.prog W 0 (fun _ => true) true Try.f7.params.toList args.toList ds p := hA0
  rw [Try.params7] at hA hval
  obtain ⟨v0, vs0, d0, ds0, p0, q0, hargs, rfl, rfl, h0, r0⟩ := trodAll_cons hA
  obtain ⟨v1, vs1, d1, ds1, p1, q1, rfl, rfl, rfl, h1, r1⟩ := trodAll_cons r0
  obtain ⟨v2, vs2, d2, ds2, p2, q2, rfl, rfl, rfl, h2, r2⟩ := trodAll_cons r1
  obtain ⟨v3, vs3, d3, ds3, p3, q3, rfl, rfl, rfl, h3, r3⟩ := trodAll_cons r2
  obtain ⟨v4, vs4, d4, ds4, p4, q4, rfl, rfl, rfl, h4, r4⟩ := trodAll_cons r3
  obtain ⟨rfl, rfl, rfl⟩ := trodAll_nil r4
  obtain rfl : args = #[v0, v1, v2, v3, v4] := by cases args; simp_all
  obtain ⟨rfl, rfl⟩ := trodVars_none hV
  have k0 := h0
  have lt0 : ∀ x ∈ p0, x.block < W.heap.size := by obtain ⟨m, hm⟩ := k0; exact DataW.trod_lt m _ _ _ hm
  obtain ⟨cs0, rfl, hs0⟩ := okWide_struct Try.underlying47 (hval 0 47 v0 rfl rfl)
  obtain ⟨b0_0, b0_1, b0_2, b0_3, rfl⟩ := arr4 (hs0.trans (by kernel_rfl : Try.prog.cellsOf 47 = 4))
  obtain ⟨fu0, hh0⟩ := h0
  replace hh0 : DataW.trod enc Try.prog W 0 (fun _ => true) true fu0 47 [b0_0, b0_1, b0_2, b0_3] = some (d0, p0) := hh0
  obtain ⟨xs0, n0, _, hx0, _, hl0, hf0⟩ := DataW.trod_struct Try.underlying47 hh0
  obtain ⟨q0_0, q0_1, rfl⟩ := lst2 (hl0.trans rfl)
  simp only [List.map_cons, List.map_nil] at hx0
  have g0_0 := hf0 0 _ rfl
  replace g0_0 : DataW.trod enc Try.prog W 0 (fun _ => true) true n0 29 [b0_0] = some q0_0 := g0_0
  obtain ⟨a0_0, e0_0, _, wa0_0⟩ := DataW.trod_int Try.underlying29 g0_0
  obtain rfl := (List.cons.inj e0_0).1
  have g0_1 := hf0 1 _ rfl
  replace g0_1 : DataW.trod enc Try.prog W 0 (fun _ => true) true n0 45 [b0_1, b0_2, b0_3] = some q0_1 := g0_1
  obtain ⟨xs0_1, n0_1, _, hx0_1, _, hl0_1, hf0_1⟩ := DataW.trod_struct Try.underlying45 g0_1
  obtain ⟨q0_1_0, q0_1_1, q0_1_2, rfl⟩ := lst3 (hl0_1.trans rfl)
  simp only [List.map_cons, List.map_nil] at hx0_1
  have g0_1_0 := hf0_1 0 _ rfl
  replace g0_1_0 : DataW.trod enc Try.prog W 0 (fun _ => true) true n0_1 43 [b0_1] = some q0_1_0 := g0_1_0
  obtain ⟨a0_1_0, e0_1_0, _, wa0_1_0⟩ := DataW.trod_int Try.underlying43 g0_1_0
  obtain rfl := (List.cons.inj e0_1_0).1
  have g0_1_1 := hf0_1 1 _ rfl
  replace g0_1_1 : DataW.trod enc Try.prog W 0 (fun _ => true) true n0_1 43 [b0_2] = some q0_1_1 := g0_1_1
  obtain ⟨a0_1_1, e0_1_1, _, wa0_1_1⟩ := DataW.trod_int Try.underlying43 g0_1_1
  obtain rfl := (List.cons.inj e0_1_1).1
  have g0_1_2 := hf0_1 2 _ rfl
  replace g0_1_2 : DataW.trod enc Try.prog W 0 (fun _ => true) true n0_1 4 [b0_3] = some q0_1_2 := g0_1_2
  obtain ⟨a0_1_2, e0_1_2, _⟩ := DataW.trod_bool Try.underlying4 g0_1_2
  obtain rfl := (List.cons.inj e0_1_2).1
  have k1 := h1
  have lt1 : ∀ x ∈ p1, x.block < W.heap.size := by obtain ⟨m, hm⟩ := k1; exact DataW.trod_lt m _ _ _ hm
  obtain ⟨cs1, rfl, hs1⟩ := okWide_struct Try.underlying47 (hval 1 47 v1 rfl rfl)
  obtain ⟨b1_0, b1_1, b1_2, b1_3, rfl⟩ := arr4 (hs1.trans (by kernel_rfl : Try.prog.cellsOf 47 = 4))
  obtain ⟨fu1, hh1⟩ := h1
  replace hh1 : DataW.trod enc Try.prog W 0 (fun _ => true) true fu1 47 [b1_0, b1_1, b1_2, b1_3] = some (d1, p1) := hh1
  obtain ⟨xs1, n1, _, hx1, _, hl1, hf1⟩ := DataW.trod_struct Try.underlying47 hh1
  obtain ⟨q1_0, q1_1, rfl⟩ := lst2 (hl1.trans rfl)
  simp only [List.map_cons, List.map_nil] at hx1
  have g1_0 := hf1 0 _ rfl
  replace g1_0 : DataW.trod enc Try.prog W 0 (fun _ => true) true n1 29 [b1_0] = some q1_0 := g1_0
  obtain ⟨a1_0, e1_0, _, wa1_0⟩ := DataW.trod_int Try.underlying29 g1_0
  obtain rfl := (List.cons.inj e1_0).1
  have g1_1 := hf1 1 _ rfl
  replace g1_1 : DataW.trod enc Try.prog W 0 (fun _ => true) true n1 45 [b1_1, b1_2, b1_3] = some q1_1 := g1_1
  obtain ⟨xs1_1, n1_1, _, hx1_1, _, hl1_1, hf1_1⟩ := DataW.trod_struct Try.underlying45 g1_1
  obtain ⟨q1_1_0, q1_1_1, q1_1_2, rfl⟩ := lst3 (hl1_1.trans rfl)
  simp only [List.map_cons, List.map_nil] at hx1_1
  have g1_1_0 := hf1_1 0 _ rfl
  replace g1_1_0 : DataW.trod enc Try.prog W 0 (fun _ => true) true n1_1 43 [b1_1] = some q1_1_0 := g1_1_0
  obtain ⟨a1_1_0, e1_1_0, _, wa1_1_0⟩ := DataW.trod_int Try.underlying43 g1_1_0
  obtain rfl := (List.cons.inj e1_1_0).1
  have g1_1_1 := hf1_1 1 _ rfl
  replace g1_1_1 : DataW.trod enc Try.prog W 0 (fun _ => true) true n1_1 43 [b1_2] = some q1_1_1 := g1_1_1
  obtain ⟨a1_1_1, e1_1_1, _, wa1_1_1⟩ := DataW.trod_int Try.underlying43 g1_1_1
  obtain rfl := (List.cons.inj e1_1_1).1
  have g1_1_2 := hf1_1 2 _ rfl
  replace g1_1_2 : DataW.trod enc Try.prog W 0 (fun _ => true) true n1_1 4 [b1_3] = some q1_1_2 := g1_1_2
  obtain ⟨a1_1_2, e1_1_2, _⟩ := DataW.trod_bool Try.underlying4 g1_1_2
  obtain rfl := (List.cons.inj e1_1_2).1
  have k2 := h2
  have lt2 : ∀ x ∈ p2, x.block < W.heap.size := by obtain ⟨m, hm⟩ := k2; exact DataW.trod_lt m _ _ _ hm
  obtain ⟨b2, rfl⟩ := okWide_int Try.underlying35 (hval 2 35 v2 rfl rfl)
  obtain ⟨fu2, hh2⟩ := h2
  replace hh2 : DataW.trod enc Try.prog W 0 (fun _ => true) true fu2 35 [.int .u64 b2] = some (d2, p2) := hh2
  obtain ⟨a2, e2, _, wa2⟩ := DataW.trod_int Try.underlying35 hh2
  obtain rfl : b2 = a2 := (Value.int.inj (List.cons.inj e2).1).2
  have k3 := h3
  have lt3 : ∀ x ∈ p3, x.block < W.heap.size := by obtain ⟨m, hm⟩ := k3; exact DataW.trod_lt m _ _ _ hm
  obtain ⟨cs3, rfl, hs3⟩ := okWide_struct Try.underlying25 (hval 3 25 v3 rfl rfl)
  obtain ⟨b3_0, b3_1, rfl⟩ := arr2 (hs3.trans (by kernel_rfl : Try.prog.cellsOf 25 = 2))
  obtain ⟨fu3, hh3⟩ := h3
  replace hh3 : DataW.trod enc Try.prog W 0 (fun _ => true) true fu3 25 [b3_0, b3_1] = some (d3, p3) := hh3
  obtain ⟨xs3, n3, _, hx3, _, hl3, hf3⟩ := DataW.trod_struct Try.underlying25 hh3
  obtain ⟨q3_0, q3_1, rfl⟩ := lst2 (hl3.trans rfl)
  simp only [List.map_cons, List.map_nil] at hx3
  have g3_0 := hf3 0 _ rfl
  replace g3_0 : DataW.trod enc Try.prog W 0 (fun _ => true) true n3 23 [b3_0] = some q3_0 := g3_0
  obtain ⟨A3_0, n3_0, c3_0, z3_0, e3_0, y3_0, w3_0, bu3_0⟩ := openInts Try.underlying23 Try.underlying29 (by kernel_rfl) g3_0
  obtain rfl := (List.cons.inj e3_0).1
  obtain ⟨l3_0, rfl, hr3_0, hm3_0, hw3_0, hc3_0⟩ := ReadsInt.ofRowC w3_0
  have g3_1 := hf3 1 _ rfl
  replace g3_1 : DataW.trod enc Try.prog W 0 (fun _ => true) true n3 23 [b3_1] = some q3_1 := g3_1
  obtain ⟨A3_1, n3_1, c3_1, z3_1, e3_1, y3_1, w3_1, bu3_1⟩ := openInts Try.underlying23 Try.underlying29 (by kernel_rfl) g3_1
  obtain rfl := (List.cons.inj e3_1).1
  obtain ⟨l3_1, rfl, hr3_1, hm3_1, hw3_1, hc3_1⟩ := ReadsInt.ofRowC w3_1
  have k4 := h4
  have lt4 : ∀ x ∈ p4, x.block < W.heap.size := by obtain ⟨m, hm⟩ := k4; exact DataW.trod_lt m _ _ _ hm
  obtain ⟨cs4, rfl, hs4⟩ := okWide_struct Try.underlying25 (hval 4 25 v4 rfl rfl)
  obtain ⟨b4_0, b4_1, rfl⟩ := arr2 (hs4.trans (by kernel_rfl : Try.prog.cellsOf 25 = 2))
  obtain ⟨fu4, hh4⟩ := h4
  replace hh4 : DataW.trod enc Try.prog W 0 (fun _ => true) true fu4 25 [b4_0, b4_1] = some (d4, p4) := hh4
  obtain ⟨xs4, n4, _, hx4, _, hl4, hf4⟩ := DataW.trod_struct Try.underlying25 hh4
  obtain ⟨q4_0, q4_1, rfl⟩ := lst2 (hl4.trans rfl)
  simp only [List.map_cons, List.map_nil] at hx4
  have g4_0 := hf4 0 _ rfl
  replace g4_0 : DataW.trod enc Try.prog W 0 (fun _ => true) true n4 23 [b4_0] = some q4_0 := g4_0
  obtain ⟨A4_0, n4_0, c4_0, z4_0, e4_0, y4_0, w4_0, bu4_0⟩ := openInts Try.underlying23 Try.underlying29 (by kernel_rfl) g4_0
  obtain rfl := (List.cons.inj e4_0).1
  obtain ⟨l4_0, rfl, hr4_0, hm4_0, hw4_0, hc4_0⟩ := ReadsInt.ofRowC w4_0
  have g4_1 := hf4 1 _ rfl
  replace g4_1 : DataW.trod enc Try.prog W 0 (fun _ => true) true n4 23 [b4_1] = some q4_1 := g4_1
  obtain ⟨A4_1, n4_1, c4_1, z4_1, e4_1, y4_1, w4_1, bu4_1⟩ := openInts Try.underlying23 Try.underlying29 (by kernel_rfl) g4_1
  obtain rfl := (List.cons.inj e4_1).1
  obtain ⟨l4_1, rfl, hr4_1, hm4_1, hw4_1, hc4_1⟩ := ReadsInt.ofRowC w4_1
  clear hA0
  refine (Wlk.TypesLimits a0_0 a0_1_0 a0_1_1 a0_1_2 a1_0 a1_1_0 a1_1_1 a1_1_2 b2 A3_0 c3_0 l3_0 A3_1 c3_1 l3_1 A4_0 c4_0 l4_0 A4_1 c4_1 l4_1 W wa0_0 wa0_1_0 wa0_1_1 wa1_0 wa1_1_0 wa1_1_1 wa2 (Kd.C_of_reads (d := (0 : Int)) (h1 := fun _ => rfl) hr3_0) hc3_0 hm3_0 hw3_0 (Kd.C_of_reads (d := (0 : Int)) (h1 := fun _ => rfl) hr3_1) hc3_1 hm3_1 hw3_1 (Kd.C_of_reads (d := (0 : Int)) (h1 := fun _ => rfl) hr4_0) hc4_0 hm4_0 hw4_0 (Kd.C_of_reads (d := (0 : Int)) (h1 := fun _ => rfl) hr4_1) hc4_1 hm4_1 hw4_1).mono fun e W' ⟨he, bel⟩ => ?_
  subst he
  exact ⟨_, rfl, _, _, _, [], _, [], hW', trodAll_mk1 (shut_bool Try.underlying4 _), (trodAll_cons_mk (Below.trod laidOut (by kernel_rfl) (of_decide_eq_true (by kernel_rfl)) k0 bel lt0) (trodAll_cons_mk (Below.trod laidOut (by kernel_rfl) (of_decide_eq_true (by kernel_rfl)) k1 bel lt1) (trodAll_cons_mk (Below.trod laidOut (by kernel_rfl) (of_decide_eq_true (by kernel_rfl)) k2 bel lt2) (trodAll_cons_mk (Below.trod laidOut (by kernel_rfl) (of_decide_eq_true (by kernel_rfl)) k3 bel lt3) (trodAll_cons_mk (Below.trod laidOut (by kernel_rfl) (of_decide_eq_true (by kernel_rfl)) k4 bel lt4) trodAll_mk0))))), rfl, bel.frame _, fun h => by cases h⟩

set_option maxRecDepth 100000 in
theorem lifted (os : Os) (started : os.Started) (H : Type) (enc : TypeId × Value → H) :
    ReturnsInHanded {} Try.checked os 7 .any (Rows.typesLimitsSpec.pre6 enc Try.prog Try.f7 Rows.typesLimitsRow.domain false) (Rows.typesLimitsSpec.post enc Try.prog Try.f7 false true false false) := by
  refine returnsInHanded_of_change (C := Try.checked) own started (by kernel_rfl) Try.func7
    (ChangeSpec.witness6 (enc := enc) (C := Try.checked) false ⟨#[], #[.agg #[.int .u8 0, .int .u32 0, .int .u32 0, .bool false], .agg #[.int .u8 0, .int .u32 0, .int .u32 0, .bool false], .int .u64 0, .agg #[.slice none 0 0, .slice none 0 0], .agg #[.slice none 0 0, .slice none 0 0]], []⟩ 8 (by kernel_rfl) (by kernel_rfl) (by kernel_rfl) (by kernel_rfl)) ?_
  intro W base args ds gs before hval hW _ _
  exact contract H enc W base args ds gs before hval hW
theorem proved : Rows.TypesLimitsSaid :=
  (OpenClaim.holds_of_wide 7 Try.f7 rfl rfl rfl rfl rfl rfl rfl ⟨rfl, rfl, rfl, rfl, rfl⟩ rfl rfl rfl rfl rfl (by kernel_rfl) Try.func7 (by kernel_rfl)
    (of_decide_eq_true (by kernel_rfl)) (by unfold Func.isWrapper; first | (rw [if_pos (by decide +kernel)]; kernel_rfl) | (rw [if_neg (by decide +kernel)]; exact ⟨rfl, rfl⟩))
    (fun os started H enc _ => lifted os started H enc))
end Go.Proofs.Ythillgpbenjldaa.typesLimitsRow
namespace Go.Proofs.Ythillgpbenjldaa
/-- The row, under a short name, for the claim. -/
theorem typesLimits_holds : Rows.TypesLimitsSaid := typesLimitsRow.proved
end Go.Proofs.Ythillgpbenjldaa
