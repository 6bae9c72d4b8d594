import Derived.Test.YthillgpbenjldaaT8
import Derived.Test.YthillgpbenjldaaGGrow
/-! slices.Grow at nil, once more: every cell of the block that it makes is a byte. -/
namespace Go.Proofs.Ythillgpbenjldaa.P
open Go.RowKit Go.Proofs.YthillgpbenjldaaW.PrintWords Go.Proofs.YthillgpbenjldaaW.PrintLast Go.Proofs.YthillgpbenjldaaW.PrintMore
set_option linter.unusedVariables false
set_option linter.unusedSimpArgs false
section
variable {P : Program} {ops : Array Oper} {rest : List Oper} {o : Oper} {a : Act} {Q : Exit → Act → World → Prop}
theorem run_zeros_nil (w : World) (t ti ty : TypeId) (i : TypeInfo) (ht : P.underlying t = some (.slice 5)) {k : IntKind} (hti : P.underlying ti = some (.int k)) (hi : P.info? 5 = some i) (hz : i.zero = some (.int .u8 0)) (hs : i.size = 1) (hb : i.bytes = 1)
    (kx : IntKind) (m : Nat) (hm : 0 < m) (hl : m ≤ 140737488355328) :
    (Builtin.append_ #[t, ti] ty #[.slice none 0 0, .int kx m]).run P w =
      .ok (.slice (some ⟨w.heap.size, 0, none⟩) m (grownCap w m 0 5)) (w.drew.alloc (.cells (Builtin.zeroCells (Value.int .u8 0).cells m ++ Builtin.zeroCells (Value.int .u8 0).cells (grownCap w m 0 5 - m)) 5)) := by
  have hw : IntKind.i64.wrap (m : Int) = m := by rw [IntKind.wrap_i64]; omega
  have hneg : ¬ ((m : Int) < 0) := by omega
  have hbig : ¬ (281474976710656 < (m : Int) * (i.bytes : Int)) := by rw [hb]; omega
  have h63' : ¬ (9223372036854775807 < (m : Int)) := by omega
  have hfit := growslice_fits (show 0 < m from hm) (show m * i.bytes ≤ 140737488355328 by rw [hb]; omega)
  have h48' : ¬ (281474976710656 < Builtin.nextslicecap m 0 * i.bytes) := by omega
  have hmz : ¬ (m * i.size = 0) := by rw [hs]; omega
  have hmz2 : ¬ m = 0 := by omega
  have hfo : (Builtin.firstCells i.size 0 (.slice none 0 0)).run P w.drew = .ok #[] w.drew := by simp [Builtin.firstCells]
  simp [Builtin.append_, run_underlying ht, run_underlying hti, sizeOf, typeInfo, zeroValue, hi, hz, asInt, asIntOf, hw, hneg, hbig, h63', h48', Question.forced, hfo, newRow, grownCap, hmz, hmz2]
/-- append(nil, make([]byte, n)...), n above 0; as Kd.R_append_zeros. -/
theorem T8_zeros_nil {w0 W : World} (base : Nat) (hgd : o.guard = none) (s x : Operand) (t ti : TypeId)
    (ho : o.op = .call { callee := .builtin .append, args := #[s, x], argTypes := #[t, ti] })
    (ht : P.underlying t = some (.slice 5)) {k : IntKind} (hti : P.underlying ti = some (.int k)) (hinfo : (P.info? 5).map (fun i => (i.zero, i.size, i.bytes)) = some (some (.int .u8 0), 1, 1))
    {kx : IntKind} (n : Int) (hs : a.eval s = .slice none 0 0) (hx : a.eval x = .int kx n) (h0 : 0 < n) (hl : n ≤ 140737488355328) (HB : Below base w0 W) (hbase : base ≤ W.heap.size)
    (h : ∀ A c w1, T8 w1 base (fun _ => True) (.slice A 0 c) [] → Below base w0 w1 → wpList P ops Q rest (a.put o.dst (.slice A n.toNat c)) w1) :
    wpList P ops Q (o :: rest) a W := by
  obtain ⟨m, rfl⟩ := Int.eq_ofNat_of_zero_le (Int.le_of_lt h0)
  obtain ⟨i0, hi, hzz⟩ := Option.map_eq_some_iff.1 hinfo
  simp only [Prod.mk.injEq] at hzz
  obtain ⟨hz0, hz1, hz2⟩ := hzz
  have hr := run_zeros_nil (P := P) W t ti o.type i0 ht hti hi hz0 hz1 hz2 kx m (by omega) (by omega)
  refine wpList_plain hgd fun K hK => ?_
  unfold Oper.wp execOp
  simp only [ho, resolve, invoke, builtin, Sem.run_bind, Sem.run_pure, Result.andThen_ok, List.map_toArray, List.map_cons, List.map_nil, hs, hx, hr]
  have hge := grownCap_ge W m 0 5
  have hcm : grownCap W m 0 5 ≤ maxLen := grownCap_le_maxLen W m 0 5 (by simp only [maxLen]; omega)
  refine hK _ _ (h _ _ _ ⟨⟨fun _ _ => trivial, [], ⟨by simp, .inr ⟨W.heap.size, grownCap W m 0 5, _, rfl, hbase, heap_alloc_new W.drew _, Nat.zero_le _, hcm, ?_, by simp⟩⟩, Reps.none _ _⟩, ?_⟩ ((below_drew1 HB).alloc (by simpa using hbase) _))
  · have e1 : (Kd.int .u8).sz = 1 := rfl
    rw [Array.size_append, size_zeroCells, size_zeroCells, e1]
    simp [Value.cells]
    omega
  · intro q hq
    have hq' : W.heap.size = q := by simpa [Value.ownBlock] using hq
    subst hq'
    refine ⟨_, heap_alloc_new W.drew _, fun u hu => ?_⟩
    rw [Array.toList_append] at hu
    rcases List.mem_append.1 hu with hu | hu
    · exact zero8 _ u hu
    · exact zero8 _ u hu
end
set_option maxHeartbeats 8000000 in
set_option maxRecDepth 100000 in
theorem slices_Grow_byte_byte.calls8 (A0 : Option Addr) (c0 : Nat) (l0 : List Int) (a1 : Int) (r : List Int) (w : World) (hr0 : Kd.C (Kd.int .u8) w A0 l0.length l0) (hc0 : gcap A0 c0 ≤ l0.length) (h : slices_Grow_byte_byte.f l0 a1 = some r) :
    Calls Try.prog 61 #[.slice A0 l0.length c0, .int .i64 a1] w fun e w' => ∃ v0_ : Value, e = .returned (v0_) ∧ T8 w' w.heap.size (fun _ => True) v0_ r ∧ Below w.heap.size w w' := by
  cases l0 with
  | cons x l => simp [slices_Grow_byte_byte.f] at h
  | nil =>
    obtain ⟨rfl, rfl⟩ := gcap_nil hc0
    simp only [slices_Grow_byte_byte.f] at h
    by_cases h0 : 0 ≤ a1
    · rw [if_pos h0] at h
      by_cases h1 : a1 ≤ 140737488355328
      · rw [if_pos h1] at h
        obtain rfl := Option.some.inj h
        have HB := Aside0.mk (Below.refl w.heap.size w)
        have d0 : decide (a1 < 0) = false := decide_eq_false (by omega)
        have e1 : wrap64 (a1 - 0) = a1 := by unfold wrap64; omega
        by_cases h2 : a1 > 0
        · have d1 : decide (0 < a1) = true := decide_eq_true h2
          go_enter Try.func61, Try.ntmps61
          go_wp2_with (first | ((with_reducible refine gate_builtin (b := .append) (xs := #[.tmp 20, .tmp 21]) rfl ?_); at_builtin; refine T8_zeros_nil (w0 := w) w.heap.size rfl (.tmp 20) (.tmp 21) 22 3 rfl Try.underlying22 Try.underlying3 info5 a1 rfl rfl h2 h1 HB.out (Nat.le_refl _) ?_; intro A1 c1 w1 hz hb; have hcut := cut0 A1 a1.toNat c1))
          go_ret
          exact ⟨_, rfl, hz, hb⟩
        · obtain rfl : a1 = 0 := by omega
          go_enter Try.func61, Try.ntmps61
          go_wp2
          go_ret
          exact ⟨_, rfl, T8_nil _ _ _, HB.out⟩
      · rw [if_neg h1] at h; simp at h
    · rw [if_neg h0] at h; simp at h
end Go.Proofs.Ythillgpbenjldaa.P
