import Derived.Test.YthillgpbenjldaaPx0
/-! The contract of slices.Grow at nil, by hand. -/
namespace Go.Proofs.Ythillgpbenjldaa.P
open Go.RowKit Go.Proofs.YthillgpbenjldaaW.PrintWords Go.Proofs.YthillgpbenjldaaW.PrintLast Go.Proofs.YthillgpbenjldaaW.PrintMore
set_option linter.unusedVariables false
set_option linter.unusedSimpArgs false
/-- The capacity, one more where there is memory. -/
def gcap (A : Option Addr) (c : Nat) : Nat := match A with | none => c | some _ => c + 1
theorem gcap_nil {A : Option Addr} {c : Nat} (h : gcap A c ≤ 0) : A = none ∧ c = 0 := by
  cases A with
  | none => exact ⟨rfl, Nat.le_zero.1 h⟩
  | some a => exact absurd h (by simp [gcap])
def slices_Grow_byte_byte.f (l : List Int) (n : Int) : Option (List Int) :=
  match l with
  | [] => if 0 ≤ n then (if n ≤ 140737488355328 then some [] else none) else none
  | _ :: _ => none
/-- A row of the call's own, cut to nothing, is one. -/
theorem R_cut0 {w : World} {base : Nat} {ok : Nat → Prop} {v : Value} {xs : List Int} (h : (Kd.int .u8).R 5 w base ok v xs) : ∃ A c, v = .slice A xs.length c ∧ (Kd.int .u8).R 5 w base ok (.slice A 0 c) [] := by
  obtain ⟨h0, inner, ⟨hl, ho⟩, hr⟩ := h
  rcases ho with ⟨rfl, hn⟩ | ⟨g, cap, cur, rfl, hg, hh, hnc, hcm, hsz, ht⟩
  · exact ⟨none, 0, by rw [hn], Kd.R_nil _ _ _ _ _⟩
  · exact ⟨_, cap, rfl, h0, [], ⟨by simp, .inr ⟨g, cap, cur, rfl, hg, hh, Nat.zero_le _, hcm, hsz, by simp⟩⟩, Reps.none _ _⟩
theorem cut0 (A : Option Addr) (n c : Nat) (W : World) : (Instr.slice 22 (.slice A n c) none (some (.int .i64 0)) none).run Try.prog W = .ok (.slice A 0 c) W := by
  have ha : (A.map fun x => x.add 0) = A := by cases A <;> simp [Addr.add]
  have hel : Try.prog.elem 22 = 5 := by simp [Program.elem, Try.underlying22]
  obtain ⟨i, hi, hz⟩ := Option.map_eq_some_iff.1 info5
  rw [run_slice_h W 22 A n c (by rw [hel]; exact Try.underlying22) .i64 0 (by omega) (by omega), hel]
  simp [sizeOf, typeInfo, hi, sliced, Result.andThen, ha]
set_option maxHeartbeats 8000000 in
set_option maxRecDepth 100000 in
theorem slices_Grow_byte_byte.calls (A0 : Option Addr) (c0 : Nat) (l0 : List Int) (a1 : Int) (r : List Int) (w : World) (hr0 : Kd.C (Kd.int .u8) w A0 l0.length l0) (hc0 : gcap A0 c0 ≤ l0.length) (h : slices_Grow_byte_byte.f l0 a1 = some r) :
    Calls Try.prog 61 #[.slice A0 l0.length c0, .int .i64 a1] w fun e w' => ∃ v0_ : Value, e = .returned (v0_) ∧ Kd.R (Kd.int .u8) 5 w' w.heap.size (fun _ => True) v0_ r ∧ Below w.heap.size w w' := by
  cases l0 with
  | cons x l => simp [slices_Grow_byte_byte.f] at h
  | nil =>
    obtain ⟨rfl, rfl⟩ := gcap_nil hc0
    simp only [slices_Grow_byte_byte.f] at h
    by_cases h0 : 0 ≤ a1
    · rw [if_pos h0] at h
      by_cases h1 : a1 ≤ 140737488355328
      · rw [if_pos h1] at h
        obtain rfl := Option.some.inj h
        have HB := Aside0.mk (Below.refl w.heap.size w)
        have d0 : decide (a1 < 0) = false := decide_eq_false (by omega)
        have e1 : wrap64 (a1 - 0) = a1 := by unfold wrap64; omega
        by_cases h2 : a1 > 0
        · have d1 : decide (0 < a1) = true := decide_eq_true h2
          go_enter Try.func61, Try.ntmps61
          go_wp2_with (first | ((with_reducible refine gate_builtin (b := .append) (xs := #[.tmp 20, .tmp 21]) rfl ?_); at_builtin; refine Kd.R_append_zeros (Kd.int .u8) (w0 := w) w.heap.size rfl (.tmp 20) (.tmp 21) 22 3 5 (.int .u8 0) 1 rfl Try.underlying22 Try.underlying3 info5 rfl (by decide) (by omega) (.slice none 0 0) [] 0 (kx := .i64) a1 (fun _ => True) rfl rfl rfl (fun _ _ => trivial) (Kd.R_nil _ _ _ _ _) h0 HB.out (Nat.le_refl _) ?aL ?_; (case aL => simp only [List.length_nil]; omega); intro v1 w1 ho hb hg hat; obtain ⟨A1, c1, hv1, hz⟩ := R_cut0 ho; subst hv1; have hcut := cut0 A1 (([] : List Int) ++ List.replicate a1.toNat 0).length c1))
          go_ret
          exact ⟨_, rfl, hz, hb⟩
        · obtain rfl : a1 = 0 := by omega
          go_enter Try.func61, Try.ntmps61
          go_wp2
          go_ret
          exact ⟨_, rfl, Kd.R_nil _ _ _ _ _, HB.out⟩
      · rw [if_neg h1] at h; simp at h
    · rw [if_neg h0] at h; simp at h
end Go.Proofs.Ythillgpbenjldaa.P
