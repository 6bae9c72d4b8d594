import Derived.Test.YthillgpbenjldaaT8
import Derived.Test.YthillgpbenjldaaPx18
/-! The contracts of jacquardref00.Spoil and Wide, by hand. -/
namespace Go.Proofs.Ythillgpbenjldaa.P
open Go.RowKit Go.Proofs.YthillgpbenjldaaW.PrintWords Go.Proofs.YthillgpbenjldaaW.PrintLast Go.Proofs.YthillgpbenjldaaW.PrintMore
set_option linter.unusedVariables false
set_option linter.unusedSimpArgs false
theorem cutAll (A : Option Addr) (n c : Nat) (hc : c ≤ maxLen) (W : World) : (Instr.slice 22 (.slice A n c) none (some (.int .i64 (c : Int))) none).run Try.prog W = .ok (.slice A c c) W := by
  have ha : (A.map fun x => x.add 0) = A := by cases A <;> simp [Addr.add]
  have hel : Try.prog.elem 22 = 5 := by simp [Program.elem, Try.underlying22]
  obtain ⟨i, hi, hz⟩ := Option.map_eq_some_iff.1 info5
  rw [run_slice_h W 22 A n c (by rw [hel]; exact Try.underlying22) .i64 (c : Int) (by omega) (by omega), hel]
  simp [sizeOf, typeInfo, hi, sliced, Result.andThen, ha]
set_option maxHeartbeats 8000000 in
set_option maxRecDepth 100000 in
theorem spoil_calls (v : Value) (xs : List Int) (y : Int) (base : Nat) (w : World) (hT : T8 w base (fun _ => True) v xs) (hbase : base ≤ w.heap.size) :
    Calls Try.prog 37 #[v, .int .u8 y] w fun e w' => e = .returned (.tuple #[]) ∧ Below base w w' := by
  rcases T8_open hT with ⟨rfl, rfl⟩ | ⟨g, ys, rfl, hle, hm, hbg, HR0⟩
  · have HB := Aside0.mk (Below.refl base w)
    have d0 : decide ((0 : Int) < 0) = false := rfl
    go_enter Try.func37, Try.ntmps37
    go_wp2
    go_loopg [4] 0 (fun kq v4 w' => v4 = .int .i64 0 ∧ Aside0 (Below base w w'))
    case atStart => exact ⟨rfl, HB⟩
    case round =>
      obtain ⟨rfl, HB2⟩ := hrel
      go_wp2
      exact ⟨rfl, .tuple #[], by first | rfl | simp [results, Try.f37], rfl, HB2.out⟩
  · have HB := Aside0.mk (Below.refl base w)
    have hcut := cutAll (some ⟨g, 0, none⟩) xs.length ys.length hm
    have hys : (ys.length : Int) ≤ 9223372036854775807 := by unfold maxLen at hm; omega
    have HR := Aside0.mk HR0
    clear HR0 hT
    go_enter Try.func37, Try.ntmps37
    go_wp2
    go_loopg [4] (ys.length + 1) (fun kq v4 w' => ∃ (i : Int) (zs : List Int), v4 = .int .i64 i ∧ Aside0 (0 ≤ i ∧ i + kq = ys.length + 1) ∧ Aside0 (zs.length = ys.length) ∧ Aside0 ((Kd.int .u8).R 5 w' base (fun _ => True) (.slice (some ⟨g, 0, none⟩) ys.length ys.length) zs) ∧ Aside0 (Below base w w'))
    case atStart => exact ⟨0, ys, rfl, ⟨by omega, by omega⟩, ⟨rfl⟩, HR, HB⟩
    case round =>
      clear HR HB
      obtain ⟨i, zs, rfl, HK, HL, HR, HB⟩ := hrel
      by_cases c : i < (ys.length : Int)
      · have c1 : decide (i < (ys.length : Int)) = true := decide_eq_true c
        have p0 : (0 ≤ i) = True := eq_true HK.out.1
        have q0 : (i < (ys.length : Int)) = True := eq_true c
        have hR := HR.out
        rw [← HL.out] at hR
        obtain ⟨k1, rfl⟩ : ∃ k1, gk = k1 + 1 := ⟨gk - 1, by have := HK.out; omega⟩
        obtain ⟨hcell, hfroz⟩ := Kd.R_cell (0 : Int) hR i HK.out.1 (by rw [HL.out]; exact c)
        obtain ⟨x, hx⟩ : ∃ x, x = rdOf 0 zs i := ⟨_, rfl⟩
        rw [← hx] at hcell
        have hw1 : wrap64 (i + 1) = i + 1 := by unfold wrap64; have := HK.out; omega
        go_wp2
        obtain ⟨hput, hgrown⟩ := Kd.R_put hR i (Go.bits .xor .u8 (rdOf 0 zs i) y)
        go_roundg k1
        case measure => omega
        case rel =>
          refine ⟨i + 1, zs.set i.toNat (Go.bits .xor .u8 (rdOf 0 zs i) y), by rw [hw1], ⟨by have := HK.out; omega, by have := HK.out; omega⟩, ⟨by rw [List.length_set]; exact HL.out⟩, ⟨?_⟩, ⟨HB.out.setCell hbg _⟩⟩
          rw [HL.out] at hput
          exact hput
      · have c1 : decide (i < (ys.length : Int)) = false := decide_eq_false c
        go_wp2
        exact ⟨rfl, .tuple #[], by first | rfl | simp [results, Try.f37], rfl, HB.out⟩
theorem wcut (A : Option Addr) (n m c : Nat) (h : n ≤ c) (W : World) : (Instr.slice 22 (.slice A m c) none (some (.int .i64 (n : Int))) none).run Try.prog W = .ok (.slice A n c) W := by
  have ha : (A.map fun x => x.add 0) = A := by cases A <;> simp [Addr.add]
  have hel : Try.prog.elem 22 = 5 := by simp [Program.elem, Try.underlying22]
  obtain ⟨i, hi, hz⟩ := Option.map_eq_some_iff.1 info5
  rw [run_slice_h W 22 A m c (by rw [hel]; exact Try.underlying22) .i64 (n : Int) (by omega) (by omega), hel]
  simp [sizeOf, typeInfo, hi, sliced, Result.andThen, ha]
theorem R_shape {w : World} {base : Nat} {ok : Nat → Prop} {v : Value} {xs : List Int} (h : (Kd.int .u8).R 5 w base ok v xs) (hn : 0 < xs.length) : ∃ g c, v = .slice (some ⟨g, 0, none⟩) xs.length c ∧ xs.length ≤ c ∧ base ≤ g := by
  have hown := Kd.own_of_R h
  rcases hown.2 with ⟨rfl, h0⟩ | ⟨g, cap, cur, rfl, hbg, hg, hnc, _⟩
  · omega
  · exact ⟨g, cap, rfl, hnc, hbg⟩
theorem sevens (l : List Int) (j : Nat) (h : j < 3) : (l ++ List.replicate j 7 ++ List.replicate (3 - j) 0).set (l.length + j) 7 = l ++ List.replicate (j + 1) 7 ++ List.replicate (3 - (j + 1)) (0 : Int) := by
  rcases (by omega : j = 0 ∨ j = 1 ∨ j = 2) with rfl | rfl | rfl <;> simp [List.set_append, List.replicate]
theorem sevens_len (l : List Int) (j : Nat) (h : j ≤ 3) : (l ++ List.replicate j 7 ++ List.replicate (3 - j) (0 : Int)).length = l.length + 3 := by
  simp only [List.length_append, List.length_replicate]
  omega
theorem w64_ {x : Int} (h1 : -9223372036854775808 ≤ x) (h2 : x ≤ 9223372036854775807) : wrap64 x = x := by
  unfold wrap64
  omega
theorem zeros3 (l : List Int) : l ++ [0, 0, 0] = l ++ List.replicate 0 7 ++ List.replicate (3 - 0) 0 := by simp [List.replicate]
theorem sevens3 (l : List Int) : l ++ List.replicate 3 7 ++ List.replicate (3 - 3) 0 = l ++ [7, 7, 7] := by simp [List.replicate]
theorem wide_list (l : List Int) : l.take (min l.length (List.replicate ((l.length : Int) + 3).toNat (0 : Int)).length) ++ (List.replicate ((l.length : Int) + 3).toNat (0 : Int)).drop (min l.length (List.replicate ((l.length : Int) + 3).toNat (0 : Int)).length) = l ++ [0, 0, 0] ∧ min l.length (List.replicate ((l.length : Int) + 3).toNat (0 : Int)).length = l.length := by
  have e : ((l.length : Int) + 3).toNat = l.length + 3 := by omega
  have e2 : min l.length (List.replicate (l.length + 3) (0 : Int)).length = l.length := by rw [List.length_replicate]; omega
  rw [e, e2, List.take_length, List.drop_replicate]
  have e3 : l.length + 3 - l.length = 3 := by omega
  rw [e3]
  exact ⟨rfl, rfl⟩
set_option maxHeartbeats 8000000 in
set_option maxRecDepth 100000 in
theorem wide_calls (A0 : Option Addr) (c0 : Nat) (l0 : List Int) (w : World) (hr0 : Kd.C (Kd.int .u8) w A0 l0.length l0) (hc0 : l0.length ≤ c0) (hl : l0.length ≤ 140737488351232) :
    Calls Try.prog 34 #[.slice A0 l0.length c0] w fun e w' => ∃ g c, e = .returned (.slice (some ⟨g, 0, none⟩) l0.length c) ∧ l0.length + 3 ≤ c ∧ w.heap.size ≤ g ∧ (Kd.int .u8).R 5 w' w.heap.size (fun _ => True) (.slice (some ⟨g, 0, none⟩) (l0.length + 3) c) (l0 ++ [7, 7, 7]) ∧ Below w.heap.size w w' := by
  have HB := Aside0.mk (Below.refl w.heap.size w)
  have HR0 := Aside0.mk hr0
  clear hr0
  have hw3 : wrap64 ((l0.length : Int) + 3) = (l0.length : Int) + 3 := by unfold wrap64; omega
  obtain ⟨hcopy, hmin⟩ := wide_list l0
  go_enter Try.func34, Try.ntmps34
  go_wp2_with (first
    | ((with_reducible refine gate_dst (N := 9) rfl ?_); refine Kd.R_make (Kd.int .u8) (w0 := w) w.heap.size 5 ?hg (N := 9) ?hd 22 (.tmp 8) (.tmp 8) rfl ((l0.length : Int) + 3) rfl rfl Try.underlying22 (.int .u8 0) 1 info5 rfl (by decide) (by omega) 0 (ok := fun _ => True) (okp := fun _ => False) rfl (fun _ h => h.elim) trivial (by omega) (by omega) HB.out (Nat.le_refl _) ?_; (case hg => rfl); (case hd => rfl); intro v1 w1 ho hb hg hat; have n0_ := Aside0.mk hb; have HO := Aside0.mk ho; clear HB ho hb hg hat; have HB := n0_; clear n0_)
    | ((with_reducible refine gate_builtin (b := .copy) (xs := #[.tmp 10, .tmp 11]) rfl ?_); refine Kd.R_copy (0 : Int) (w0 := w) w.heap.size rfl (.tmp 10) (.tmp 11) 22 22 5 rfl Try.underlying22 (by kernel_rfl) v1 _ l0 A0 l0.length c0 (fun _ => True) rfl rfl HO.out (Kd.C_below HR0.out HB.out) HB.out (below_size HB.out) ?_; intro w2 ho hb hg; rw [hcopy] at ho; rw [hmin]; have n0_ := Aside0.mk hb; have n1_ := Aside0.mk ho; clear HB HO ho hb hg; have HB := n0_; have HO := n1_; clear n0_ n1_))
  have hol : (l0 ++ [0, 0, 0]).length = l0.length + 3 := by simp
  obtain ⟨g, c, hv, hlc, hbg⟩ := R_shape HO.out (by rw [hol]; omega)
  rw [hol] at hv hlc
  subst hv
  go_loopg [5] 4 (fun kq v5 w' => ∃ (i : Int) (j : Nat), v5 = .int .i64 i ∧ Aside0 (i = (l0.length : Int) + j ∧ j + kq = 4 ∧ j ≤ 3) ∧ Aside0 ((Kd.int .u8).R 5 w' w.heap.size (fun _ => True) (.slice (some ⟨g, 0, none⟩) (l0.length + 3) c) (l0 ++ List.replicate j 7 ++ List.replicate (3 - j) 0)) ∧ Aside0 (Below w.heap.size w w'))
  case atStart => exact ⟨(l0.length : Int), 0, rfl, ⟨by omega, by omega, by omega⟩, ⟨by have := HO.out; rwa [zeros3 l0] at this⟩, HB⟩
  case round =>
    clear HO HB
    obtain ⟨i, j, rfl, HK, HO, HB⟩ := hrel
    have hll := sevens_len l0 j HK.out.2.2
    by_cases c3 : j < 3
    · have q0 : i < (l0.length : Int) + 3 := by have := HK.out.1; omega
      have p0 : 0 ≤ i := by have := HK.out.1; omega
      have HN : Aside0 (i.toNat = l0.length + j) := ⟨by have := HK.out.1; omega⟩
      have c1 : decide (i < (l0.length : Int) + 3) = true := decide_eq_true q0
      obtain ⟨k1, rfl⟩ : ∃ k1, gk = k1 + 1 := ⟨gk - 1, by have := HK.out.2; omega⟩
      have hR := HO.out
      rw [← hll] at hR
      obtain ⟨hcell, hfroz⟩ := Kd.R_cell (0 : Int) hR i p0 (by rw [hll]; omega)
      have hw1 : wrap64 (i + 1) = i + 1 := w64_ (by omega) (by omega)
      obtain ⟨hput, hgrown⟩ := Kd.R_put hR i 7
      rw [hll, HN.out, sevens l0 j c3, ← HN.out] at hput
      replace p0 := eq_true p0
      replace q0 := eq_true q0
      clear hgrown hR
      go_wp2
      go_roundg k1
      case measure => omega
      case rel => exact ⟨i + 1, j + 1, by rw [hw1], ⟨by have := HK.out.1; omega, by have := HK.out.2; omega, by omega⟩, ⟨hput⟩, ⟨HB.out.setCell hbg _⟩⟩
    · have hj : j = 3 := by have := HK.out.2; omega
      subst hj
      have c1 : decide (i < (l0.length : Int) + 3) = false := decide_eq_false (by have := HK.out.1; omega)
      have hcut := wcut (some ⟨g, 0, none⟩) l0.length (l0.length + 3) c (by omega)
      go_wp2
      go_ret
      exact ⟨g, c, rfl, hlc, hbg, by have := HO.out; rwa [sevens3 l0] at this, HB.out⟩
theorem wide_C {w : World} {base : Nat} {ok : Nat → Prop} {g c : Nat} {l : List Int} (h : (Kd.int .u8).R 5 w base ok (.slice (some ⟨g, 0, none⟩) (l.length + 3) c) (l ++ [7, 7, 7])) : (Kd.int .u8).C w (some ⟨g, 0, none⟩) (l.length + 3) (l ++ [7, 7, 7]) := by
  have h' := (Kd.R_reads' h).2.2
  have e : (l ++ [7, 7, 7]).length = l.length + 3 := by rw [List.length_append]; rfl
  rw [e] at h'
  exact h'
theorem lcut (A : Option Addr) (n c : Nat) (h : n + 3 ≤ c) (W : World) : (Instr.slice 22 (.slice A n c) none (some (.int .i64 ((n : Int) + 3))) none).run Try.prog W = .ok (.slice A (n + 3) c) W := by
  have := wcut A (n + 3) n c h W
  rwa [show (((n + 3 : Nat) : Int)) = (n : Int) + 3 from rfl] at this
theorem C_head {w : World} {A : Option Addr} {l z : List Int} {n : Nat} (h : (Kd.int .u8).C w A n (l ++ z)) : (Kd.int .u8).C w A l.length l := by
  have h' := Kd.reads_of_C (enc := Value.int .u8) (d := (0 : Int)) (h1 := fun _ => rfl) h
  have hn := h'.1
  simp only [List.length_append] at hn
  have := h'.take_ l.length (by omega)
  rw [List.take_left] at this
  exact Kd.C_of_reads (d := (0 : Int)) (h1 := fun _ => rfl) this
theorem rd7 (l : List Int) (j : Nat) (h : j < 3) : rd (l ++ [7, 7, 7]) ((l.length : Int) + j) = 7 := by
  unfold rd
  have e : ((l.length : Int) + (j : Int)).toNat = l.length + j := by omega
  rw [e, List.getD_eq_getElem?_getD, List.getElem?_append_right (by omega), Nat.add_sub_cancel_left]
  rcases (by omega : j = 0 ∨ j = 1 ∨ j = 2) with rfl | rfl | rfl <;> rfl
theorem cells7 {w : World} {g : Nat} {l : List Int} (h : (Kd.int .u8).C w (some ⟨g, 0, none⟩) (l.length + 3) (l ++ [7, 7, 7])) : w.cell? ⟨g, l.length, none⟩ = some (.int .u8 7) ∧ w.cell? ⟨g, l.length + 1, none⟩ = some (.int .u8 7) ∧ w.cell? ⟨g, l.length + 2, none⟩ = some (.int .u8 7) ∧ w.cell? ⟨g, ((l.length : Int) + 1).toNat, none⟩ = some (.int .u8 7) ∧ w.cell? ⟨g, ((l.length : Int) + 2).toNat, none⟩ = some (.int .u8 7) := by
  have key : ∀ j : Nat, j < 3 → w.cell? ⟨g, l.length + j, none⟩ = some (.int .u8 7) := by
    intro j hj
    obtain ⟨ad, e, hx⟩ := Kd.at_int h ((l.length : Int) + j) (by omega) (by omega)
    cases e
    rw [rd7 l j hj, show ((l.length : Int) + (j : Int)).toNat = l.length + j by omega] at hx
    rw [Addr.add_lit, Nat.zero_add] at hx
    exact hx
  have e1 : ((l.length : Int) + 1).toNat = l.length + 1 := by omega
  have e2 : ((l.length : Int) + 2).toNat = l.length + 2 := by omega
  rw [e1, e2]
  exact ⟨key 0 (by omega), key 1 (by omega), key 2 (by omega), key 1 (by omega), key 2 (by omega)⟩
set_option maxHeartbeats 8000000 in
set_option maxRecDepth 100000 in
theorem left_calls (k : Nat) (g c : Nat) (A1 : Option Addr) (c1 : Nat) (l : List Int) (w : World) (hr : Kd.C (Kd.int .u8) w (some ⟨g, 0, none⟩) (l.length + 3) (l ++ [7, 7, 7])) (hc : l.length + 3 ≤ c) (hr1 : Kd.C (Kd.int .u8) w A1 l.length l) (hc1 : l.length ≤ c1) (hl : l.length ≤ 140737488351232) (h : jacquardref00_Same.f k l l = some true) :
    Calls Try.prog 38 #[.slice (some ⟨g, 0, none⟩) l.length c, .slice A1 l.length c1] w fun e w' => e = .returned (.bool true) ∧ Below w.heap.size w w' := by
  have HB := Aside0.mk (Below.refl w.heap.size w)
  have HR := Aside0.mk hr
  have HR1 := Aside0.mk hr1
  have HC := Aside0.mk (show l.length ≤ c by omega)
  have hw3 : wrap64 ((l.length : Int) + 3) = (l.length : Int) + 3 := w64_ (by omega) (by omega)
  have hw1 : wrap64 ((l.length : Int) + 1) = (l.length : Int) + 1 := w64_ (by omega) (by omega)
  have hw2 : wrap64 ((l.length : Int) + 2) = (l.length : Int) + 2 := w64_ (by omega) (by omega)
  have hcut := lcut (some ⟨g, 0, none⟩) l.length c hc
  have d0 : decide ((c : Int) < (l.length : Int) + 3) = false := decide_eq_false (by omega)
  clear hr hr1
  go_enter Try.func38, Try.ntmps38
  go_wp2_with (first
    | ((with_reducible refine gate_callee (f := 39) rfl ?_); refine goesL_ (some 8) rfl rfl Try.func39 (by kernel_rfl) rfl #[.slice (some ⟨g, 0, none⟩) l.length c, .slice A1 l.length c1] rfl (by (try simp only [List.map_toArray, List.map_cons, List.map_nil]); first | done | rfl) ?_; (with_reducible refine (jacquardref00_Same.calls k _ _ l _ _ l true _ ?side1 ?side2 ?side3 ?side4 h).mono ?_); (case side1 => exact C_head HR.out); (case side2 => exact HC.out); (case side3 => exact HR1.out); (case side4 => exact hc1); rintro e w3 ⟨rfl, hb⟩; refine ⟨_, rfl, ?_⟩; have n0_ := Aside0.mk (below_step HB.out (by first | exact hb.below | exact hb)); clear HB hb; have HB := n0_; clear n0_; obtain ⟨hx0, hx1, hx2, hy1, hy2⟩ := cells7 (Kd.C_below HR.out HB.out)))
  go_ret
  exact ⟨rfl, HB.out⟩
end Go.Proofs.Ythillgpbenjldaa.P
