/- The walk of the law NameOne: a text of one to four bytes has the letter that Put lays so. No condition. -/
import Derived.Test.YtcnmpciohpcpiaaDoorPx4
import Derived.Test.YtcnmpciohpcpiaaDoorPx6
import Derived.Test.YtcnmpciohpcpiaaDoorGLetters
import Derived.Test.YtcnmpciohpcpiaaDoorUj
namespace Go.Proofs.YtcnmpciohpcpiaaDoor.Wlk
set_option linter.unusedVariables false
set_option linter.unusedSimpArgs false
open Go.Proofs.YtcnmpciohpcpiaaDoorTabs
open Go.RowKit Go.Proofs.YtcnmpciohpcpiaaDoor.P Go.Proofs.YtcnmpciohpcpiaaDoorW.PrintWords Go.Proofs.YtcnmpciohpcpiaaDoorW.PrintLast Go.Proofs.YtcnmpciohpcpiaaDoorW.PrintMore Go.Proofs.YtcnmpciohpcpiaaDoor.LebM
theorem arrLen : Tryd.prog.arrayLen 36 = 4 := by kernel_rfl
theorem arrElem : Tryd.prog.elem 36 = 5 := by kernel_rfl
theorem slAt (g m : Nat) (hm : m ≤ 4) (W : World) : (Instr.sliceAt 36 (.pointer (some ⟨g, 0, none⟩)) none (some (.int .i64 (m : Int))) none).run Tryd.prog W = .ok (.slice (some ⟨g, 0, none⟩) m 4) W := by
  obtain ⟨i, hi, hz⟩ := Option.map_eq_some_iff.1 info5
  rw [run_sliceAt_array_h W 36 ⟨g, 0, none⟩ (by rw [arrLen, arrElem]; exact Tryd.underlying36) .i64 (m : Int) (by omega) (by rw [arrLen]; omega), arrLen, arrElem]
  simp [sizeOf, typeInfo, hi, slicedAt, Result.andThen, Addr.add]
theorem at_zero {w : World} {ad : Addr} {x : Int} {k : IntKind} (h : w.cell? (ad.add (0 : Int).toNat) = some (.int k (rd [x] 0))) : w.cell? ad = some (.int k x) := by
  have e : ad.add (0 : Int).toNat = ad := by simp [Addr.add]
  rw [e] at h
  exact h
theorem rd_x {l : List Int} {x : Int} (h : l = [x]) : rd l 0 = x := by rw [h]; rfl
theorem arr_C {w W : World} {b0 b1 b2 b3 : Int} (h : W.heap[w.heap.size]? = some (.cells #[.int .u8 b0, .int .u8 b1, .int .u8 b2, .int .u8 b3] 36 (0, 0))) (m : Nat) (hm : m ≤ 4) : (Kd.int .u8).C W (some ⟨w.heap.size, 0, none⟩) ([b0, b1, b2, b3].take m).length ([b0, b1, b2, b3].take m) := by
  refine Kd.C_of_reads (d := (0 : Int)) (h1 := fun _ => rfl) ⟨rfl, by rw [List.length_take]; simp only [List.length_cons, List.length_nil]; omega, fun _ => ⟨_, rfl, fun j hj => ?_⟩⟩
  have hj4 : j < 4 := by rw [List.length_take] at hj; simp only [List.length_cons, List.length_nil] at hj; omega
  have hjm : j < m := by rw [List.length_take] at hj; omega
  rw [Addr.add_lit, Nat.zero_add, cell_of_row W _ j _ 36 (0, 0) h]
  have e : ([b0, b1, b2, b3].take m).getD j 0 = [b0, b1, b2, b3].getD j 0 := by
    rw [List.getD_eq_getElem?_getD, List.getD_eq_getElem?_getD, List.getElem?_take, if_pos hjm]
  rw [e]
  rcases (by omega : j = 0 ∨ j = 1 ∨ j = 2 ∨ j = 3) with rfl | rfl | rfl | rfl <;> rfl
set_option maxHeartbeats 8000000 in
set_option maxRecDepth 100000 in
theorem NameOne (b0 b1 b2 b3 n : Int) (w : World) (hT : Tab w) (h0 : 0 ≤ b0 ∧ b0 < 256) (h1 : 0 ≤ b1 ∧ b1 < 256) (h2 : 0 ≤ b2 ∧ b2 < 256) (h3 : 0 ≤ b3 ∧ b3 < 256) (hn : 0 ≤ n ∧ n < 256) : Calls Tryd.prog 7 #[.agg #[.int .u8 b0, .int .u8 b1, .int .u8 b2, .int .u8 b3], .int .u8 n] w fun e w' => e = .returned (.bool true) ∧ Below w.heap.size w w' := by
  obtain ⟨m, hm, hm1, hm4⟩ : ∃ m : Nat, wrap64 (1 + (wrap64 n).tmod 4) = (m : Int) ∧ 1 ≤ m ∧ m ≤ 4 := by
    have e : wrap64 n = n := by unfold wrap64; omega
    rw [e, Int.tmod_eq_emod_of_nonneg hn.1]
    refine ⟨(1 + n % 4).toNat, ?_, by omega, by omega⟩
    unfold wrap64
    omega
  obtain ⟨L, hL⟩ : ∃ L, L = [b0, b1, b2, b3].take m := ⟨_, rfl⟩
  have hlen : L.length = m := by rw [hL, List.length_take]; simp only [List.length_cons, List.length_nil]; omega
  have hB : Bytes L := by
    intro x hx
    rw [hL] at hx
    have := List.mem_of_mem_take hx
    simp only [List.mem_cons, List.not_mem_nil, or_false] at this
    rcases this with rfl | rfl | rfl | rfl <;> assumption
  have HT := Aside0.mk hT
  rw [← hlen] at hm
  have hsl := slAt w.heap.size L.length (by omega)
  have HL4 := Aside0.mk (show L.length ≤ 4 by omega)
  have HB := Aside0.mk (below_alloc (Below.refl w.heap.size w) (.cells #[.int .u8 b0, .int .u8 b1, .int .u8 b2, .int .u8 b3] 36))
  have HC : Aside0 ((Kd.int .u8).C (w.alloc (.cells #[.int .u8 b0, .int .u8 b1, .int .u8 b2, .int .u8 b3] 36)) (some ⟨w.heap.size, 0, none⟩) L.length L) := ⟨by rw [hL]; exact arr_C (heap_alloc_new w _) m hm4⟩
  obtain ⟨K1, e1⟩ := Letters_ev hB (by omega)
  obtain ⟨K5, e5⟩ := works_ev
  cases hD : D L with
  | none =>
    have eL : Lt L = ([], 4) := by unfold Lt; rw [hD]
    obtain ⟨K, hK⟩ : ∃ K, K = K1 + K5 := ⟨_, rfl⟩
    have E1 := Aside0.mk (show name_Letters.f K L = some ([], 4) from eL ▸ e1 _ (by omega))
    have E5 := Aside0.mk (show jacquardlaw02_works.f K = some true from e5 _ (by omega))
    clear e1 e5 hK hT h0 h1 h2 h3 hn hD eL hB hL hlen hm1 hm4
    go_enter Tryd.func7, Tryd.ntmps7
    go_wp2_with (first
    | ((with_reducible refine gate_callee (f := 11) rfl ?_); (try (refine gate_guard (by rfl) ?_; dsimp only)); refine goesL_ (some 17) rfl rfl Tryd.func11 (by kernel_rfl) rfl #[.slice (some ⟨w.heap.size, 0, none⟩) L.length 4] rfl (by (try simp only [List.map_toArray, List.map_cons, List.map_nil]); first | done | rfl) ?_; (with_reducible refine (name_Letters.calls K _ _ L [] 4 _ (Tab.below HT.out HB.out) HC.out HL4.out E1.out).mono ?_); rintro e w2 ⟨v1, rfl, ho, hb⟩; obtain ⟨A1, c1, rfl, hl1, hC1⟩ := Kd.R_reads ho; refine ⟨_, rfl, ?_⟩; have HC1 := Aside0.mk hC1; have n1_ := Aside0.mk (Kd.C_below HC.out hb); clear HC ho hC1; have HC := n1_; clear n1_; have n0_ := Aside0.mk (below_step HB.out hb); clear HB; have HB := n0_; clear n0_; clear hb)
    | ((with_reducible refine gate_callee (f := 16) rfl ?_); (try (refine gate_guard (by rfl) ?_; dsimp only)); refine goesL_ (some 27) rfl rfl Tryd.func16 (by kernel_rfl) rfl #[] rfl (by (try simp only [List.map_toArray, List.map_cons, List.map_nil]); first | done | rfl) ?_; (with_reducible refine (jacquardlaw02_works.calls K true _ (Tab.below HT.out HB.out) E5.out).mono ?_); rintro e w3 ⟨rfl, hb⟩; refine ⟨_, rfl, ?_⟩; have n0_ := Aside0.mk (below_step HB.out hb); clear HB; have HB := n0_; clear n0_; clear hb))
    go_ret
    exact ⟨rfl, HB.out⟩
  | some o =>
    have eL : Lt L = (o, 0) := by unfold Lt; rw [hD]
    by_cases ho1 : o.length = 1
    · obtain ⟨x, rfl⟩ : ∃ x, o = [x] := List.length_eq_one_iff.1 ho1
      have hP := put_D L.length (Nat.le_refl _) hB hD
      have eP : Pa [x] = (L, 0) := by unfold Pa; rw [hP]
      have hx : let_ x := by
        simp only [Pt] at hP
        split at hP
        · assumption
        · cases hP
      obtain ⟨K2, e2⟩ := Put_ev (l := [x]) (by simp)
      obtain ⟨K3, e3⟩ := same_self (l := L) (by omega)
      obtain ⟨K, hK⟩ : ∃ K, K = K1 + K2 + K3 + K5 := ⟨_, rfl⟩
      have E1 := Aside0.mk (show name_Letters.f K L = some ([x], 0) from eL ▸ e1 _ (by omega))
      have E2 := Aside0.mk (show name_Put.f K [x] = some (L, 0) from eP ▸ e2 _ (by omega))
      have E3 := Aside0.mk (show jacquardref00_Same.f K L L = some true from e3 _ (by omega))
      have E5 := Aside0.mk (show jacquardlaw02_works.f K = some true from e5 _ (by omega))
      clear e1 e2 e3 e5 hK hT h0 h1 h2 h3 hn hD eL hB hL hlen hm1 hm4 hP eP ho1
      unfold let_ at hx
      have d1 : decide (x ≥ 0) = true := decide_eq_true (by omega)
      have d1b : decide (0 ≤ x) = true := decide_eq_true (by omega)
      have d2 : decide (x ≤ 1114111) = true := decide_eq_true (by omega)
      by_cases hx3 : x < 55296
      · have d3 : decide (x < 55296) = true := decide_eq_true hx3
        go_enter Tryd.func7, Tryd.ntmps7
        go_wp2_with (first
        | ((with_reducible refine gate_callee (f := 11) rfl ?_); (try (refine gate_guard (by rfl) ?_; dsimp only)); refine goesL_ (some 17) rfl rfl Tryd.func11 (by kernel_rfl) rfl #[.slice (some ⟨w.heap.size, 0, none⟩) L.length 4] rfl (by (try simp only [List.map_toArray, List.map_cons, List.map_nil]); first | done | rfl) ?_; (with_reducible refine (name_Letters.calls K _ _ L [x] 0 _ (Tab.below HT.out HB.out) HC.out HL4.out E1.out).mono ?_); rintro e w2 ⟨v1, rfl, ho, hb⟩; obtain ⟨A1, c1, rfl, hl1, hC1⟩ := Kd.R_reads ho; refine ⟨_, rfl, ?_⟩; have HC1 := Aside0.mk hC1; have n1_ := Aside0.mk (Kd.C_below HC.out hb); clear HC ho hC1; have HC := n1_; clear n1_; have n0_ := Aside0.mk (below_step HB.out hb); clear HB; have HB := n0_; clear n0_; clear hb)
        | ((with_reducible refine gate_callee (f := 17) rfl ?_); (try (refine gate_guard (by rfl) ?_; dsimp only)); refine goesL_ (some 30) rfl rfl Tryd.func17 (by kernel_rfl) rfl #[.slice A1 ([x] : List Int).length c1] rfl (by (try simp only [List.map_toArray, List.map_cons, List.map_nil]); first | done | rfl) ?_; (with_reducible refine (name_Put.calls K _ _ [x] L 0 _ HC1.out hl1 E2.out).mono ?_); rintro e w4 ⟨v2, rfl, ho, hb⟩; obtain ⟨A2, c2, rfl, hl2, hC2⟩ := Kd.R_reads ho; refine ⟨_, rfl, ?_⟩; have HC2 := Aside0.mk hC2; have n1_ := Aside0.mk (Kd.C_below HC.out hb); have n2_ := Aside0.mk (Kd.C_below HC1.out hb); clear HC HC1 ho hC2; have HC := n1_; have HC1 := n2_; clear n1_ n2_; have n0_ := Aside0.mk (below_step HB.out hb); clear HB; have HB := n0_; clear n0_; clear hb)
        | ((with_reducible refine gate_callee (f := 19) rfl ?_); (try (refine gate_guard (by rfl) ?_; dsimp only)); refine goesL_ (some 38) rfl rfl Tryd.func19 (by kernel_rfl) rfl #[.slice A2 L.length c2, .slice (some ⟨w.heap.size, 0, none⟩) L.length 4] rfl (by (try simp only [List.map_toArray, List.map_cons, List.map_nil]); first | done | rfl) ?_; (with_reducible refine (jacquardref00_Same.calls K _ _ L _ _ L true _ HC2.out hl2 HC.out HL4.out E3.out).mono ?_); rintro e w5 ⟨rfl, hd⟩; refine ⟨_, rfl, ?_⟩; have n1_ := Aside0.mk (Kd.C_below HC1.out hd.below); clear HC1; have HC1 := n1_; clear n1_; have n0_ := Aside0.mk (below_step HB.out hd.below); clear HB; have HB := n0_; clear n0_; clear hd; obtain ⟨ad, ead, hx⟩ := Kd.at_int HC1.out 0 (by omega) (by simp); cases ead; have hx0 := at_zero hx)
        | ((with_reducible refine gate_callee (f := 16) rfl ?_); (try (refine gate_guard (by rfl) ?_; dsimp only)); refine goesL_ (some 65) rfl rfl Tryd.func16 (by kernel_rfl) rfl #[] rfl (by (try simp only [List.map_toArray, List.map_cons, List.map_nil]); first | done | rfl) ?_; (with_reducible refine (jacquardlaw02_works.calls K true _ (Tab.below HT.out HB.out) E5.out).mono ?_); rintro e w6 ⟨rfl, hb⟩; refine ⟨_, rfl, ?_⟩; have n0_ := Aside0.mk (below_step HB.out hb); clear HB; have HB := n0_; clear n0_; clear hb))
        go_ret
        exact ⟨rfl, HB.out⟩
      · have d3 : decide (x < 55296) = false := decide_eq_false hx3
        have d4 : decide (x > 57343) = true := decide_eq_true (by omega)
        have d4b : decide (57343 < x) = true := decide_eq_true (by omega)
        go_enter Tryd.func7, Tryd.ntmps7
        go_wp2_with (first
        | ((with_reducible refine gate_callee (f := 11) rfl ?_); (try (refine gate_guard (by rfl) ?_; dsimp only)); refine goesL_ (some 17) rfl rfl Tryd.func11 (by kernel_rfl) rfl #[.slice (some ⟨w.heap.size, 0, none⟩) L.length 4] rfl (by (try simp only [List.map_toArray, List.map_cons, List.map_nil]); first | done | rfl) ?_; (with_reducible refine (name_Letters.calls K _ _ L [x] 0 _ (Tab.below HT.out HB.out) HC.out HL4.out E1.out).mono ?_); rintro e w2 ⟨v1, rfl, ho, hb⟩; obtain ⟨A1, c1, rfl, hl1, hC1⟩ := Kd.R_reads ho; refine ⟨_, rfl, ?_⟩; have HC1 := Aside0.mk hC1; have n1_ := Aside0.mk (Kd.C_below HC.out hb); clear HC ho hC1; have HC := n1_; clear n1_; have n0_ := Aside0.mk (below_step HB.out hb); clear HB; have HB := n0_; clear n0_; clear hb)
        | ((with_reducible refine gate_callee (f := 17) rfl ?_); (try (refine gate_guard (by rfl) ?_; dsimp only)); refine goesL_ (some 30) rfl rfl Tryd.func17 (by kernel_rfl) rfl #[.slice A1 ([x] : List Int).length c1] rfl (by (try simp only [List.map_toArray, List.map_cons, List.map_nil]); first | done | rfl) ?_; (with_reducible refine (name_Put.calls K _ _ [x] L 0 _ HC1.out hl1 E2.out).mono ?_); rintro e w4 ⟨v2, rfl, ho, hb⟩; obtain ⟨A2, c2, rfl, hl2, hC2⟩ := Kd.R_reads ho; refine ⟨_, rfl, ?_⟩; have HC2 := Aside0.mk hC2; have n1_ := Aside0.mk (Kd.C_below HC.out hb); have n2_ := Aside0.mk (Kd.C_below HC1.out hb); clear HC HC1 ho hC2; have HC := n1_; have HC1 := n2_; clear n1_ n2_; have n0_ := Aside0.mk (below_step HB.out hb); clear HB; have HB := n0_; clear n0_; clear hb)
        | ((with_reducible refine gate_callee (f := 19) rfl ?_); (try (refine gate_guard (by rfl) ?_; dsimp only)); refine goesL_ (some 38) rfl rfl Tryd.func19 (by kernel_rfl) rfl #[.slice A2 L.length c2, .slice (some ⟨w.heap.size, 0, none⟩) L.length 4] rfl (by (try simp only [List.map_toArray, List.map_cons, List.map_nil]); first | done | rfl) ?_; (with_reducible refine (jacquardref00_Same.calls K _ _ L _ _ L true _ HC2.out hl2 HC.out HL4.out E3.out).mono ?_); rintro e w5 ⟨rfl, hd⟩; refine ⟨_, rfl, ?_⟩; have n1_ := Aside0.mk (Kd.C_below HC1.out hd.below); clear HC1; have HC1 := n1_; clear n1_; have n0_ := Aside0.mk (below_step HB.out hd.below); clear HB; have HB := n0_; clear n0_; clear hd; obtain ⟨ad, ead, hx⟩ := Kd.at_int HC1.out 0 (by omega) (by simp); cases ead; have hx0 := at_zero hx)
        | ((with_reducible refine gate_callee (f := 16) rfl ?_); (try (refine gate_guard (by rfl) ?_; dsimp only)); refine goesL_ (some 65) rfl rfl Tryd.func16 (by kernel_rfl) rfl #[] rfl (by (try simp only [List.map_toArray, List.map_cons, List.map_nil]); first | done | rfl) ?_; (with_reducible refine (jacquardlaw02_works.calls K true _ (Tab.below HT.out HB.out) E5.out).mono ?_); rintro e w6 ⟨rfl, hb⟩; refine ⟨_, rfl, ?_⟩; have n0_ := Aside0.mk (below_step HB.out hb); clear HB; have HB := n0_; clear n0_; clear hb))
        go_ret
        exact ⟨rfl, HB.out⟩
    · obtain ⟨K, hK⟩ : ∃ K, K = K1 + K5 := ⟨_, rfl⟩
      have E1 := Aside0.mk (show name_Letters.f K L = some (o, 0) from eL ▸ e1 _ (by omega))
      have E5 := Aside0.mk (show jacquardlaw02_works.f K = some true from e5 _ (by omega))
      have d5 : decide ((o.length : Int) = 1) = false := decide_eq_false (by omega)
      have d6 : ((o.length : Int) == 1) = false := beq_eq_false_iff_ne.2 (by omega)
      have d7 : ¬ ((o.length : Int) = 1) := by omega
      clear e1 e5 hK hT h0 h1 h2 h3 hn hD eL hB hL hlen hm1 hm4
      go_enter Tryd.func7, Tryd.ntmps7
      go_wp2_with (first
      | ((with_reducible refine gate_callee (f := 11) rfl ?_); (try (refine gate_guard (by rfl) ?_; dsimp only)); refine goesL_ (some 17) rfl rfl Tryd.func11 (by kernel_rfl) rfl #[.slice (some ⟨w.heap.size, 0, none⟩) L.length 4] rfl (by (try simp only [List.map_toArray, List.map_cons, List.map_nil]); first | done | rfl) ?_; (with_reducible refine (name_Letters.calls K _ _ L o 0 _ (Tab.below HT.out HB.out) HC.out HL4.out E1.out).mono ?_); rintro e w2 ⟨v1, rfl, ho, hb⟩; obtain ⟨A1, c1, rfl, hl1, hC1⟩ := Kd.R_reads ho; refine ⟨_, rfl, ?_⟩; have HC1 := Aside0.mk hC1; have n1_ := Aside0.mk (Kd.C_below HC.out hb); clear HC ho hC1; have HC := n1_; clear n1_; have n0_ := Aside0.mk (below_step HB.out hb); clear HB; have HB := n0_; clear n0_; clear hb)
      | ((with_reducible refine gate_callee (f := 16) rfl ?_); (try (refine gate_guard (by rfl) ?_; dsimp only)); refine goesL_ (some 27) rfl rfl Tryd.func16 (by kernel_rfl) rfl #[] rfl (by (try simp only [List.map_toArray, List.map_cons, List.map_nil]); first | done | rfl) ?_; (with_reducible refine (jacquardlaw02_works.calls K true _ (Tab.below HT.out HB.out) E5.out).mono ?_); rintro e w3 ⟨rfl, hb⟩; refine ⟨_, rfl, ?_⟩; have n0_ := Aside0.mk (below_step HB.out hb); clear HB; have HB := n0_; clear n0_; clear hb))
      go_ret
      exact ⟨rfl, HB.out⟩
end Go.Proofs.YtcnmpciohpcpiaaDoor.Wlk
