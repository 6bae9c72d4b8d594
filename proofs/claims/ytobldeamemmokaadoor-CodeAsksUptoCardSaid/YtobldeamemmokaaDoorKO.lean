import Derived.Test.YtobldeamemmokaaDoorKZa
import Derived.Test.YtobldeamemmokaaDoorRows
import Derived.Deep.Slices
import Derived.OpenShut
/-! What comes in: a list of instructions, opened. -/
namespace Go.Proofs.YtobldeamemmokaaDoor.P
open Go.RowKit Go.ChangeShapes Go.WideShapes Go.Proofs.YtobldeamemmokaaDoorW.PrintWords Go.Proofs.YtobldeamemmokaaDoorW.PrintLast Go.Proofs.YtobldeamemmokaaDoorW.PrintMore
set_option linter.unusedVariables false
set_option linter.unusedSimpArgs false
variable {H : Type} {enc : TypeId × Value → H} {W : World}
theorem bulk_one (d : DataW H) : 1 ≤ Rows.uptoBulk d := by
  cases d with
  | lit l => cases l <;> simp [Rows.uptoBulk]
  | nil => simp [Rows.uptoBulk]
  | ptr d => simp [Rows.uptoBulk]
  | slice elems spare => simp [Rows.uptoBulk]
  | agg parts => simp [Rows.uptoBulk]
  | iface t d => simp [Rows.uptoBulk]
  | map entries => simp [Rows.uptoBulk]
  | held h => simp [Rows.uptoBulk]
theorem bulk_len (l : List (DataW H)) : l.length ≤ Rows.uptoBulkAll l := by
  induction l with
  | nil => simp [Rows.uptoBulkAll]
  | cons x r ih => have := bulk_one x; simp only [Rows.uptoBulkAll, List.length_cons]; omega
theorem open_IC {k : IntKind} {t e : TypeId} {fuel : Nat} {cs : List Value} {x : DataW H × List MemPlace} (ht : Tryd.prog.underlying t = some (.slice e)) (he : Tryd.prog.underlying e = some (.int k)) (hc : Tryd.prog.cellsOf e = 1) (h : DataW.trod enc Tryd.prog W 0 (fun _ => true) true fuel t cs = some x) :
    ∃ A c l, cs = [.slice A l.length c] ∧ l.length ≤ c ∧ (Kd.int k).C W A l.length l ∧ l.length + 1 ≤ Rows.uptoBulk x.1 := by
  rcases Go.Deep.open_slice1 ht hc h with ⟨rfl, rfl⟩ | ⟨a, len, cap, m, n, V, D, Pl, rfl, hb, hl, hm, hmm, rfl, hx⟩
  · exact ⟨none, 0, [], rfl, Nat.le_refl _, Kd.C_nil _ _, by simp [Rows.uptoBulk]⟩
  · have hml : m = cap := by rw [hmm]; rfl
    have hz : ∀ i, i < len → ∃ z : Int, V i = .int k z := by
      intro i hi
      obtain ⟨z, hz, _, _⟩ := DataW.trod_int he (hx i (by omega)).2
      exact ⟨z, (List.cons.inj hz).1⟩
    obtain ⟨f, hf⟩ := Go.Deep.choose_lt (α := Int) hz
    refine ⟨some a, cap, (List.range len).map f, by simp, by simpa using hl, ?_, ?_⟩
    · rw [List.length_map, List.length_range]
      refine ⟨by simp, by unfold maxLen at hm; omega, fun hp => ⟨a, rfl, fun j p hj => ⟨[.int k p], rfl, rfl, fun i u hu => ?_⟩⟩⟩
      have hj2 : j < len := by have := (List.getElem?_eq_some_iff.1 hj).1; simpa using this
      have hp2 : p = f j := by simpa [hj2] using hj.symm
      cases i with
      | succ i => simp at hu
      | zero =>
        obtain rfl := Option.some.inj hu
        have h9 := (hx j (by omega)).1
        rw [hf j hj2, ← hp2] at h9
        have e : j * 1 + 0 = j := by omega
        show W.cell? (a.add (j * 1 + 0)) = _
        rw [e]
        exact h9
    · rw [List.length_map, List.length_range]
      have h1 := bulk_len ((List.range len).map D)
      rw [List.length_map, List.length_range] at h1
      simp only [Rows.uptoBulk]
      omega
theorem c33 : Tryd.prog.cellsOf 33 = 1 := by kernel_rfl
theorem c34 : Tryd.prog.cellsOf 34 = 1 := by kernel_rfl
theorem c35 : Tryd.prog.cellsOf 35 = 1 := by kernel_rfl
theorem c36 : Tryd.prog.cellsOf 36 = 16 := by kernel_rfl
theorem c37 : Tryd.prog.cellsOf 37 = 1 := by kernel_rfl
theorem c38 : Tryd.prog.cellsOf 38 = 1 := by kernel_rfl
theorem c39 : Tryd.prog.cellsOf 39 = 1 := by kernel_rfl
theorem c41 : Tryd.prog.cellsOf 41 = 3 := by kernel_rfl
theorem c22 : Tryd.prog.cellsOf 22 = 1 := by kernel_rfl
theorem c43 : Tryd.prog.cellsOf 43 = 27 := by kernel_rfl
theorem cel5 : Tryd.prog.cellsOf 5 = 1 := by kernel_rfl
theorem lst27 {α : Type} {cs : List α} (h : cs.length = 27) : ∃ c0 c1 c2 c3 c4 c5 c6 c7 c8 c9 c10 c11 c12 c13 c14 c15 c16 c17 c18 c19 c20 c21 c22 c23 c24 c25 c26, cs = [c0, c1, c2, c3, c4, c5, c6, c7, c8, c9, c10, c11, c12, c13, c14, c15, c16, c17, c18, c19, c20, c21, c22, c23, c24, c25, c26] := by
  match cs, h with
  | [c0, c1, c2, c3, c4, c5, c6, c7, c8, c9, c10, c11, c12, c13, c14, c15, c16, c17, c18, c19, c20, c21, c22, c23, c24, c25, c26], _ => exact ⟨c0, c1, c2, c3, c4, c5, c6, c7, c8, c9, c10, c11, c12, c13, c14, c15, c16, c17, c18, c19, c20, c21, c22, c23, c24, c25, c26, rfl⟩
theorem lst10 {α : Type} {cs : List α} (h : cs.length = 10) : ∃ c0 c1 c2 c3 c4 c5 c6 c7 c8 c9, cs = [c0, c1, c2, c3, c4, c5, c6, c7, c8, c9] := by
  match cs, h with
  | [c0, c1, c2, c3, c4, c5, c6, c7, c8, c9], _ => exact ⟨c0, c1, c2, c3, c4, c5, c6, c7, c8, c9, rfl⟩
theorem lst3 {α : Type} {cs : List α} (h : cs.length = 3) : ∃ c0 c1 c2, cs = [c0, c1, c2] := by
  match cs, h with
  | [c0, c1, c2], _ => exact ⟨c0, c1, c2, rfl⟩
/-- Sixteen bytes. -/
theorem open_V {n : Nat} {cs : List Value} {x : DataW H × List MemPlace} (h : DataW.trod enc Tryd.prog W 0 (fun _ => true) true n 36 cs = some x) : ∃ v : List Int, v.length = 16 ∧ cs = encs (Value.int .u8) v := by
  obtain ⟨xs, m, rfl, rfl, hl, hxl, hx⟩ := DataW.trod_array Tryd.underlying36 h
  rw [c36] at hl
  have hz : ∀ i, i < 16 → ∃ z : Int, cs[i]? = some (.int .u8 z) := by
    intro i hi
    have h1 := hx i hi
    rw [cel5, Nat.mul_one, List.getElem?_eq_getElem (by omega)] at h1
    obtain ⟨z, hz, _, _⟩ := DataW.trod_int Tryd.underlying5 h1
    refine ⟨z, ?_⟩
    have h2 : ((cs.drop i).take 1)[0]? = some (.int .u8 z) := by rw [hz]; rfl
    rw [List.getElem?_take_of_lt (by decide), List.getElem?_drop, Nat.add_zero] at h2
    exact h2
  obtain ⟨f, hf⟩ := Go.Deep.choose_lt (α := Int) hz
  refine ⟨(List.range 16).map f, by simp, ?_⟩
  apply List.ext_getElem?
  intro i
  by_cases hi : i < 16
  · rw [hf i hi]
    simp [encs, hi]
  · rw [List.getElem?_eq_none (by omega), List.getElem?_eq_none (by simp [encs]; omega)]
set_option maxHeartbeats 4000000 in
set_option maxRecDepth 100000 in
/-- An instruction, and a list of instructions, opened. -/
theorem open_IL : ∀ (n fuel : Nat), fuel ≤ n → (∀ (cs : List Value) (x : DataW H × List MemPlace), DataW.trod enc Tryd.prog W 0 (fun _ => true) true fuel 22 cs = some x → ∃ A c l, cs = [.slice A l.length c] ∧ l.length ≤ c ∧ kI.C W A l.length l ∧ wL l + 1 ≤ Rows.uptoBulk x.1) ∧
    (∀ (cs : List Value) (x : DataW H × List MemPlace), DataW.trod enc Tryd.prog W 0 (fun _ => true) true fuel 43 cs = some x → ∃ y : I, kI.K W y cs ∧ wI y ≤ Rows.uptoBulk x.1)
  | 0, fuel, hn => by
    obtain rfl : fuel = 0 := by omega
    exact ⟨fun cs x h => by simp [DataW.trod] at h, fun cs x h => by simp [DataW.trod] at h⟩
  | n + 1, fuel, hn => by
    refine ⟨fun cs x h => ?_, fun cs x h => ?_⟩
    · rcases DataW.trod_slice Tryd.underlying22 h with ⟨rfl, rfl⟩ | ⟨a, len, cap, elems, rest, m, rfl, rfl, rfl, hb, hl, hm, hlen, hel, _, _⟩
      · exact ⟨none, 0, [], rfl, Nat.le_refl _, Kd.C_nil _ _, by simp [Rows.uptoBulk, wL]⟩
      · have ih := (open_IL n m (by omega)).2
        have hz : ∀ i, i < len → ∃ y : I, (∃ cs', W.cells? 0 (a.add (i * 27)) 27 = some cs' ∧ kI.K W y cs') ∧ ∃ d, elems[i]? = some d ∧ wI y ≤ Rows.uptoBulk d.1 := by
          intro i hi
          have h1 := hel i hi
          rw [c43] at h1
          have he : elems[i]? = some elems[i] := List.getElem?_eq_getElem (by omega)
          rw [he] at h1
          obtain ⟨cs', h2, h3⟩ := Option.bind_eq_some_iff.1 h1
          obtain ⟨y, hy, hw⟩ := ih cs' _ h3
          exact ⟨y, ⟨cs', h2, hy⟩, _, he, hw⟩
        obtain ⟨f, hf⟩ := Go.Deep.choose_lt (α := I) hz
        refine ⟨some a, cap, (List.range len).map f, by simp, by simpa using hl, ?_, ?_⟩
        · rw [List.length_map, List.length_range]
          refine ⟨by simp, by unfold maxLen at hm; omega, fun hp => ⟨a, rfl, fun j p hj => ?_⟩⟩
          have hj2 : j < len := by have := (List.getElem?_eq_some_iff.1 hj).1; simpa using this
          have hp2 : p = f j := by simpa [hj2] using hj.symm
          obtain ⟨⟨cs', h2, h3⟩, _⟩ := hf j hj2
          rw [← hp2] at h3
          refine ⟨cs', kI.K_len h3, h3, fun i u hu => ?_⟩
          obtain ⟨_, hlen', hcell⟩ := World.cells?_some h2
          have hi : i < 27 := by have h8 := (List.getElem?_eq_some_iff.1 hu).1; have := kI.K_len h3; omega
          have h7 := hcell i hi
          rw [← Go.Deep.add_add]
          exact h7.trans hu
        · have key : ∀ (k : Nat), k ≤ len → wL ((List.range k).map f) ≤ Rows.uptoBulkAll ((elems.take k).map (·.1)) := by
            intro k
            induction k with
            | zero => intro _; simp [wL, Rows.uptoBulkAll]
            | succ k ih2 =>
              intro hk
              obtain ⟨_, d, hd, hw⟩ := hf k (by omega)
              have h1 := ih2 (by omega)
              have wapp : ∀ (l : List I) (z : I), wL (l ++ [z]) = wL l + wI z := by
                intro l z
                induction l with
                | nil => simp [wL]
                | cons y l ihl => rw [List.cons_append, wL, ihl, wL]; omega
              have bapp : ∀ (l : List (DataW H)) (z : DataW H), Rows.uptoBulkAll (l ++ [z]) = Rows.uptoBulkAll l + Rows.uptoBulk z := by
                intro l z
                induction l with
                | nil => simp [Rows.uptoBulkAll]
                | cons y l ihl => rw [List.cons_append, Rows.uptoBulkAll, ihl, Rows.uptoBulkAll]; omega
              have hkl : k < elems.length := by omega
              have hd2 : elems[k] = d := by rw [List.getElem?_eq_getElem hkl] at hd; exact Option.some.inj hd
              rw [List.range_succ, List.map_append, List.map_singleton, wapp, List.take_succ_eq_append_getElem hkl, List.map_append, List.map_singleton, bapp, hd2]
              omega
          have h2 := key len (Nat.le_refl _)
          rw [← hlen, List.take_length] at h2
          rw [hlen] at h2
          simp only [Rows.uptoBulk]
          omega
    · obtain ⟨xs, m, rfl, rfl, hl, hxl, hf⟩ := DataW.trod_struct Tryd.underlying43 h
      rw [c43] at hl
      have ihL := (open_IL n m (by omega)).1
      have hxl' : xs.length = 10 := hxl
      obtain ⟨x0, x1, x2, x3, x4, x5, x6, x7, x8, x9, rfl⟩ := lst10 hxl'
      obtain ⟨c0, c1, c2, c3, c4, c5, c6, c7, c8, c9, c10, c11, c12, c13, c14, c15, c16, c17, c18, c19, c20, c21, c22', c23, c24, c25, c26, rfl⟩ := lst27 hl
      have f0 := hf 0 { name := "Op", type := 33, offset := 0, embedded := false, tag := "", pkgPath := "", byteOffset := 0 } rfl
      have f1 := hf 1 { name := "A", type := 34, offset := 1, embedded := false, tag := "", pkgPath := "", byteOffset := 4 } rfl
      have f2 := hf 2 { name := "B", type := 34, offset := 2, embedded := false, tag := "", pkgPath := "", byteOffset := 8 } rfl
      have f3 := hf 3 { name := "N", type := 35, offset := 3, embedded := false, tag := "", pkgPath := "", byteOffset := 16 } rfl
      have f4 := hf 4 { name := "V", type := 36, offset := 4, embedded := false, tag := "", pkgPath := "", byteOffset := 24 } rfl
      have f5 := hf 5 { name := "L", type := 37, offset := 20, embedded := false, tag := "", pkgPath := "", byteOffset := 40 } rfl
      have f6 := hf 6 { name := "T", type := 38, offset := 21, embedded := false, tag := "", pkgPath := "", byteOffset := 64 } rfl
      have f7 := hf 7 { name := "Block", type := 41, offset := 22, embedded := false, tag := "", pkgPath := "", byteOffset := 88 } rfl
      have f8 := hf 8 { name := "Body", type := 22, offset := 25, embedded := false, tag := "", pkgPath := "", byteOffset := 96 } rfl
      have f9 := hf 9 { name := "Else", type := 22, offset := 26, embedded := false, tag := "", pkgPath := "", byteOffset := 120 } rfl
      simp only [c33, c34, c35, c36, c37, c38, c41, c22] at f0 f1 f2 f3 f4 f5 f6 f7 f8 f9
      obtain ⟨z0, e0, _, _⟩ := DataW.trod_int Tryd.underlying33 f0
      obtain ⟨z1, e1, _, _⟩ := DataW.trod_int Tryd.underlying34 f1
      obtain ⟨z2, e2, _, _⟩ := DataW.trod_int Tryd.underlying34 f2
      obtain ⟨z3, e3, _, _⟩ := DataW.trod_int Tryd.underlying35 f3
      obtain ⟨v, hv, e4⟩ := open_V f4
      obtain ⟨A5, k5, l5, e5, h5, C5, b5⟩ := open_IC Tryd.underlying37 Tryd.underlying34 c34 f5
      obtain ⟨A6, k6, l6, e6, h6, C6, b6⟩ := open_IC Tryd.underlying38 Tryd.underlying39 c39 f6
      obtain ⟨ys, m7, rfl, rfl, hl7, hyl, hf7⟩ := DataW.trod_struct Tryd.underlying41 f7
      obtain ⟨y0, y1, y2, rfl⟩ := lst3 (show ys.length = 3 from hyl)
      have g0 := hf7 0 { name := "Kind", type := 5, offset := 0, embedded := false, tag := "", pkgPath := "", byteOffset := 0 } rfl
      have g1 := hf7 1 { name := "Val", type := 39, offset := 1, embedded := false, tag := "", pkgPath := "", byteOffset := 1 } rfl
      have g2 := hf7 2 { name := "Type", type := 34, offset := 2, embedded := false, tag := "", pkgPath := "", byteOffset := 4 } rfl
      simp only [cel5, c39, c34] at g0 g1 g2
      obtain ⟨k0, q0, _, _⟩ := DataW.trod_int Tryd.underlying5 g0
      obtain ⟨k1, q1, _, _⟩ := DataW.trod_int Tryd.underlying39 g1
      obtain ⟨k2, q2, _, _⟩ := DataW.trod_int Tryd.underlying34 g2
      obtain ⟨A8, k8, l8, e8, h8, C8, b8⟩ := ihL _ _ f8
      obtain ⟨A9, k9, l9, e9, h9, C9, b9⟩ := ihL _ _ f9
      refine ⟨⟨z0, z1, z2, z3, v, l5, l6, k0, k1, k2, l8, l9⟩, ?_, ?_⟩
      · have hcs : [c0, c1, c2, c3, c4, c5, c6, c7, c8, c9, c10, c11, c12, c13, c14, c15, c16, c17, c18, c19, c20, c21, c22', c23, c24, c25, c26] = cellsI ⟨z0, z1, z2, z3, v, l5, l6, k0, k1, k2, l8, l9⟩ (.slice A5 l5.length k5) (.slice A6 l6.length k6) (.slice A8 l8.length k8) (.slice A9 l9.length k9) := by
          have e4' : [c4, c5, c6, c7, c8, c9, c10, c11, c12, c13, c14, c15, c16, c17, c18, c19] = encs (Value.int .u8) v := e4
          obtain rfl := (List.cons.inj e0).1
          obtain rfl := (List.cons.inj e1).1
          obtain rfl := (List.cons.inj e2).1
          obtain rfl := (List.cons.inj e3).1
          obtain rfl := (List.cons.inj e5).1
          obtain rfl := (List.cons.inj e6).1
          obtain rfl := (List.cons.inj q0).1
          obtain rfl := (List.cons.inj q1).1
          obtain rfl := (List.cons.inj q2).1
          obtain rfl := (List.cons.inj e8).1
          obtain rfl := (List.cons.inj e9).1
          unfold cellsI
          rw [← e4']
          rfl
        rw [hcs]
        exact kI_mk W ⟨z0, z1, z2, z3, v, l5, l6, k0, k1, k2, l8, l9⟩ hv ⟨h5, C5⟩ ⟨h6, C6⟩ ⟨h8, C8⟩ ⟨h9, C9⟩
      · rw [wI]
        have i0 := bulk_one x0.1
        simp only [Rows.uptoBulk, Rows.uptoBulkAll, List.map_cons, List.map_nil] at b5 b6 b8 b9 ⊢
        omega
theorem open_L {fuel : Nat} {cs : List Value} {x : DataW H × List MemPlace} (h : DataW.trod enc Tryd.prog W 0 (fun _ => true) true fuel 22 cs = some x) : ∃ A c l, cs = [.slice A l.length c] ∧ l.length ≤ c ∧ kI.C W A l.length l ∧ wL l + 1 ≤ Rows.uptoBulk x.1 :=
  (open_IL fuel fuel (Nat.le_refl _)).1 cs x h
end Go.Proofs.YtobldeamemmokaaDoor.P

