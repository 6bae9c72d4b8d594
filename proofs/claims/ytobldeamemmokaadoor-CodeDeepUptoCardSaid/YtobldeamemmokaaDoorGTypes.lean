import Derived.Test.YtobldeamemmokaaDoorPx0
import Derived.Lib.OthersKept
import Derived.Laws.RangeAny
/-! The contract of ops.types, by hand: a range over a string. -/
namespace Go.Proofs.YtobldeamemmokaaDoor.P
open Go.RowKit Go.Proofs.YtobldeamemmokaaDoorW.PrintWords Go.Proofs.YtobldeamemmokaaDoorW.PrintLast Go.Proofs.YtobldeamemmokaaDoorW.PrintMore
set_option linter.unusedVariables false
set_option linter.unusedSimpArgs false
theorem info39 : (Tryd.prog.info? 39).map (fun i => (i.zero, i.size, i.bytes)) = some (some (.int .u8 0), 1, 1) := by kernel_rfl
def ops_types.l : Nat → ByteArray → Nat → List Int → Option (List Int)
 | 0, _, _, _ => none
 | k + 1, s, pos, out => if pos < s.size then (if ((Utf8.decode s pos).1 : Int) = 105 then (if out.length < 140737488355328 then ops_types.l k s (pos + (Utf8.decode s pos).2) (out ++ [127]) else none) else (if ((Utf8.decode s pos).1 : Int) = 108 then (if out.length < 140737488355328 then ops_types.l k s (pos + (Utf8.decode s pos).2) (out ++ [126]) else none) else (if ((Utf8.decode s pos).1 : Int) = 102 then (if out.length < 140737488355328 then ops_types.l k s (pos + (Utf8.decode s pos).2) (out ++ [125]) else none) else (if ((Utf8.decode s pos).1 : Int) = 100 then (if out.length < 140737488355328 then ops_types.l k s (pos + (Utf8.decode s pos).2) (out ++ [124]) else none) else (if ((Utf8.decode s pos).1 : Int) = 118 then (if out.length < 140737488355328 then ops_types.l k s (pos + (Utf8.decode s pos).2) (out ++ [123]) else none) else ops_types.l k s (pos + (Utf8.decode s pos).2) out))))) else some out
def ops_types.f (k : Nat) (a0 : ByteArray) : Option (List Int) := ops_types.l k a0 0 []
theorem ops_types.mono_l : ∀ k s p o, LeO (ops_types.l k s p o) (ops_types.l (k + 1) s p o)
 | 0, _, _, _ => fun r h => by simp [ops_types.l] at h
 | k + 1, s, p, o => by
  have ih0 := ops_types.mono_l k
  unfold ops_types.l
  repeat' first
   | (with_reducible exact ih0 _ _ _)
   | (with_reducible exact LeO.refl _)
   | (with_reducible refine LeO.ite ?_ ?_)
theorem ops_types.mono : ∀ a0 k, LeO (ops_types.f k a0) (ops_types.f (k + 1) a0) := fun a0 k => ops_types.mono_l k a0 0 []
theorem it_after {w' W w1 : World} {it : Nat} {s : ByteArray} {pos : Nat} {row : Option Nat} (hi : w'.heap[it]? = some (.stringIter s pos)) (hW : Below w'.heap.size w' W) (hg : W.grownBy w1 row) (hne : some it ≠ row) : w1.heap[it]? = some (.stringIter s pos) := by
 have hlt : it < w'.heap.size := (Array.getElem?_eq_some_iff.1 hi).1
 exact (hg.block it (Nat.lt_of_lt_of_le hlt hW.size) hne).trans ((hW.block it hlt).trans hi)
theorem it_lt {w' : World} {it : Nat} {s : ByteArray} {pos : Nat} (hi : w'.heap[it]? = some (.stringIter s pos)) : it < w'.heap.size := (Array.getElem?_eq_some_iff.1 hi).1
set_option maxHeartbeats 8000000 in
set_option maxRecDepth 100000 in
theorem ops_types.calls (k : Nat) (a0 : ByteArray) (r : List Int) (w : World) (h : ops_types.f k a0 = some r) :
  Calls Tryd.prog 62 #[.string a0] w fun e w' => ∃ v0_ : Value, e = .returned (v0_) ∧ Kd.R (Kd.int .u8) 39 w' w.heap.size (fun _ => True) v0_ r ∧ Below w.heap.size w w' := by
 have H0 := Aside0.mk (show ops_types.l k a0 0 [] = some r from h)
 clear h
 go_enter Tryd.func62, Tryd.ntmps62
 go_wp2
 go_loopg [3] k (fun kq v3 w' => ∃ (x3 : List Int) (pos : Nat), Aside0 (ops_types.l kq a0 pos x3 = some r) ∧ Aside0 (kq ≤ k) ∧ Aside0 (w'.heap[w.heap.size]? = some (.stringIter a0 pos)) ∧ Aside0 (Kd.R (Kd.int .u8) 39 w' w.heap.size (fun j => j ≠ w.heap.size) v3 x3) ∧ Aside0 (Below w.heap.size w w'))
 case atStart => exact ⟨[], 0, H0, ⟨Nat.le_refl _⟩, ⟨World.iter_heap w _ 0⟩, ⟨Kd.R_nil _ _ _ _ _⟩, ⟨below_alloc (Below.refl _ _) _⟩⟩
 case round =>
  clear H0
  obtain ⟨x3, pos, HA, HK1, HI, HO_3, HB⟩ := hrel
  cases gk with
  | zero => exact absurd HA.out (by simp [ops_types.l])
  | succ k1 =>
   have H := HA.out
   clear HA
   simp only [ops_types.l] at H
   by_cases hp : pos < a0.size
   ·rw [if_pos hp] at H
    have hnx : ∀ ty, (Instr.next (.pointer (some ⟨w.heap.size, 0, none⟩)) true ty).run Tryd.prog _ = _ := fun ty => Lib.run_next_any_at _ _ _ pos ty HI.out hp
    obtain ⟨c, hc⟩ : ∃ c : Int, ((Utf8.decode a0 pos).1 : Int) = c := ⟨_, rfl⟩
    obtain ⟨pw, hpw⟩ : ∃ pw : Nat, pos + (Utf8.decode a0 pos).2 = pw := ⟨_, rfl⟩
    rw [hpw] at H
    simp only [hc] at H
    simp only [hc, hpw] at hnx
    have HI2 := Aside0.mk (Lib.iterAt_heap _ _ _ _ pw HI.out)
    have HL := Aside0.mk (it_lt HI.out)
    ·skip
     by_cases d0 : c = 105
     ·rw [if_pos d0] at H
      have t0 : (c == 105) = true := beq_iff_eq.mpr d0
      by_cases c6 : x3.length < 140737488355328
      ·rw [if_pos c6] at H
       have LM := Aside0.mk c6
       clear c6 d0
       have H' := Aside0.mk H
       clear H
       go_wp2_with (first | ((with_reducible refine gate_builtin (b := .append) (xs := #[.tmp 14, .tmp 15]) rfl ?_); at_builtin; refine Kd.R_append (Kd.int .u8) (w0 := w) w.heap.size rfl (.tmp 14) (.tmp 15) 38 39 (.int .u8 0) 1 rfl Tryd.underlying38 info39 rfl (by decide) (by omega) u3 x3 127 [.int .u8 127] (fun j => j ≠ w.heap.size) (fun _ => False) rfl rfl ?aP (fun _ hk => hk.elim) ?aF ?aO ?aB ?aS ?aL ?_; (case aP => exact rfl); (case aB => exact (by repeat (first | exact HB.out | apply bA|apply bN|apply bD | refine Lib.below_iterAt ?_ (Nat.le_refl _) _ _))); (case aF => exact (fun j hj => Nat.ne_of_gt (Nat.lt_of_lt_of_le HL.out (Nat.le_trans (Nat.le_of_eq (Lib.iterAt_size _ _ _ _).symm) (Nat.le_trans (Below.size (B := 0) (by repeat (first | exact Below.refl _ _ | refine Below.alloc ?_ (Nat.zero_le _) _ | apply Below.drew))) hj))))); (case aO => exact (by (with_reducible repeat (first | apply rA|apply rN|apply rD)); exact Kd.R_step HO_3.out (fun j hj _ => Lib.iterAt_other _ _ _ _ _ hj))); (case aS => exact (below_size (by repeat (first | exact HB.out | apply bA|apply bN|apply bD | refine Lib.below_iterAt ?_ (Nat.le_refl _) _ _)))); (case aL => have := LM.out; omega); intro v212 w8 ho hb hg hat; have n0_ := Aside0.mk (hb); have n1_ := Aside0.mk (ho); have n2_ := Aside0.mk (it_after HI2.out (by repeat (first | exact Below.refl _ _ | apply bA|apply bN|apply bD)) hg (Kd.R_away HO_3.out (fun _ h => h))); clear HB; clear HO_3; have HB := n0_; have HO213 := n1_; have HI8 := n2_; clear n0_ n1_ n2_; clear ho hb hg hat))
       go_roundg k1
       case measure => have := HK1.out; omega
       case rel => exact ⟨x3 ++ [127], pw, H', ⟨by have := HK1.out; omega⟩, HI8, HO213, HB⟩
      ·rw [if_neg c6] at H
       exact absurd H (by simp)
     rw [if_neg d0] at H
     have t0 : (c == 105) = false := beq_eq_false_iff_ne.mpr d0
     clear d0
     by_cases d1 : c = 108
     ·rw [if_pos d1] at H
      have t1 : (c == 108) = true := beq_iff_eq.mpr d1
      by_cases c6 : x3.length < 140737488355328
      ·rw [if_pos c6] at H
       have LM := Aside0.mk c6
       clear c6 d1
       have H' := Aside0.mk H
       clear H
       go_wp2_with (first | ((with_reducible refine gate_builtin (b := .append) (xs := #[.tmp 19, .tmp 20]) rfl ?_); at_builtin; refine Kd.R_append (Kd.int .u8) (w0 := w) w.heap.size rfl (.tmp 19) (.tmp 20) 38 39 (.int .u8 0) 1 rfl Tryd.underlying38 info39 rfl (by decide) (by omega) u3 x3 126 [.int .u8 126] (fun j => j ≠ w.heap.size) (fun _ => False) rfl rfl ?aP (fun _ hk => hk.elim) ?aF ?aO ?aB ?aS ?aL ?_; (case aP => exact rfl); (case aB => exact (by repeat (first | exact HB.out | apply bA|apply bN|apply bD | refine Lib.below_iterAt ?_ (Nat.le_refl _) _ _))); (case aF => exact (fun j hj => Nat.ne_of_gt (Nat.lt_of_lt_of_le HL.out (Nat.le_trans (Nat.le_of_eq (Lib.iterAt_size _ _ _ _).symm) (Nat.le_trans (Below.size (B := 0) (by repeat (first | exact Below.refl _ _ | refine Below.alloc ?_ (Nat.zero_le _) _ | apply Below.drew))) hj))))); (case aO => exact (by (with_reducible repeat (first | apply rA|apply rN|apply rD)); exact Kd.R_step HO_3.out (fun j hj _ => Lib.iterAt_other _ _ _ _ _ hj))); (case aS => exact (below_size (by repeat (first | exact HB.out | apply bA|apply bN|apply bD | refine Lib.below_iterAt ?_ (Nat.le_refl _) _ _)))); (case aL => have := LM.out; omega); intro v212 w8 ho hb hg hat; have n0_ := Aside0.mk (hb); have n1_ := Aside0.mk (ho); have n2_ := Aside0.mk (it_after HI2.out (by repeat (first | exact Below.refl _ _ | apply bA|apply bN|apply bD)) hg (Kd.R_away HO_3.out (fun _ h => h))); clear HB; clear HO_3; have HB := n0_; have HO213 := n1_; have HI8 := n2_; clear n0_ n1_ n2_; clear ho hb hg hat))
       go_roundg k1
       case measure => have := HK1.out; omega
       case rel => exact ⟨x3 ++ [126], pw, H', ⟨by have := HK1.out; omega⟩, HI8, HO213, HB⟩
      ·rw [if_neg c6] at H
       exact absurd H (by simp)
     rw [if_neg d1] at H
     have t1 : (c == 108) = false := beq_eq_false_iff_ne.mpr d1
     clear d1
     by_cases d2 : c = 102
     ·rw [if_pos d2] at H
      have t2 : (c == 102) = true := beq_iff_eq.mpr d2
      by_cases c6 : x3.length < 140737488355328
      ·rw [if_pos c6] at H
       have LM := Aside0.mk c6
       clear c6 d2
       have H' := Aside0.mk H
       clear H
       go_wp2_with (first | ((with_reducible refine gate_builtin (b := .append) (xs := #[.tmp 24, .tmp 25]) rfl ?_); at_builtin; refine Kd.R_append (Kd.int .u8) (w0 := w) w.heap.size rfl (.tmp 24) (.tmp 25) 38 39 (.int .u8 0) 1 rfl Tryd.underlying38 info39 rfl (by decide) (by omega) u3 x3 125 [.int .u8 125] (fun j => j ≠ w.heap.size) (fun _ => False) rfl rfl ?aP (fun _ hk => hk.elim) ?aF ?aO ?aB ?aS ?aL ?_; (case aP => exact rfl); (case aB => exact (by repeat (first | exact HB.out | apply bA|apply bN|apply bD | refine Lib.below_iterAt ?_ (Nat.le_refl _) _ _))); (case aF => exact (fun j hj => Nat.ne_of_gt (Nat.lt_of_lt_of_le HL.out (Nat.le_trans (Nat.le_of_eq (Lib.iterAt_size _ _ _ _).symm) (Nat.le_trans (Below.size (B := 0) (by repeat (first | exact Below.refl _ _ | refine Below.alloc ?_ (Nat.zero_le _) _ | apply Below.drew))) hj))))); (case aO => exact (by (with_reducible repeat (first | apply rA|apply rN|apply rD)); exact Kd.R_step HO_3.out (fun j hj _ => Lib.iterAt_other _ _ _ _ _ hj))); (case aS => exact (below_size (by repeat (first | exact HB.out | apply bA|apply bN|apply bD | refine Lib.below_iterAt ?_ (Nat.le_refl _) _ _)))); (case aL => have := LM.out; omega); intro v212 w8 ho hb hg hat; have n0_ := Aside0.mk (hb); have n1_ := Aside0.mk (ho); have n2_ := Aside0.mk (it_after HI2.out (by repeat (first | exact Below.refl _ _ | apply bA|apply bN|apply bD)) hg (Kd.R_away HO_3.out (fun _ h => h))); clear HB; clear HO_3; have HB := n0_; have HO213 := n1_; have HI8 := n2_; clear n0_ n1_ n2_; clear ho hb hg hat))
       go_roundg k1
       case measure => have := HK1.out; omega
       case rel => exact ⟨x3 ++ [125], pw, H', ⟨by have := HK1.out; omega⟩, HI8, HO213, HB⟩
      ·rw [if_neg c6] at H
       exact absurd H (by simp)
     rw [if_neg d2] at H
     have t2 : (c == 102) = false := beq_eq_false_iff_ne.mpr d2
     clear d2
     by_cases d3 : c = 100
     ·rw [if_pos d3] at H
      have t3 : (c == 100) = true := beq_iff_eq.mpr d3
      by_cases c6 : x3.length < 140737488355328
      ·rw [if_pos c6] at H
       have LM := Aside0.mk c6
       clear c6 d3
       have H' := Aside0.mk H
       clear H
       go_wp2_with (first | ((with_reducible refine gate_builtin (b := .append) (xs := #[.tmp 29, .tmp 30]) rfl ?_); at_builtin; refine Kd.R_append (Kd.int .u8) (w0 := w) w.heap.size rfl (.tmp 29) (.tmp 30) 38 39 (.int .u8 0) 1 rfl Tryd.underlying38 info39 rfl (by decide) (by omega) u3 x3 124 [.int .u8 124] (fun j => j ≠ w.heap.size) (fun _ => False) rfl rfl ?aP (fun _ hk => hk.elim) ?aF ?aO ?aB ?aS ?aL ?_; (case aP => exact rfl); (case aB => exact (by repeat (first | exact HB.out | apply bA|apply bN|apply bD | refine Lib.below_iterAt ?_ (Nat.le_refl _) _ _))); (case aF => exact (fun j hj => Nat.ne_of_gt (Nat.lt_of_lt_of_le HL.out (Nat.le_trans (Nat.le_of_eq (Lib.iterAt_size _ _ _ _).symm) (Nat.le_trans (Below.size (B := 0) (by repeat (first | exact Below.refl _ _ | refine Below.alloc ?_ (Nat.zero_le _) _ | apply Below.drew))) hj))))); (case aO => exact (by (with_reducible repeat (first | apply rA|apply rN|apply rD)); exact Kd.R_step HO_3.out (fun j hj _ => Lib.iterAt_other _ _ _ _ _ hj))); (case aS => exact (below_size (by repeat (first | exact HB.out | apply bA|apply bN|apply bD | refine Lib.below_iterAt ?_ (Nat.le_refl _) _ _)))); (case aL => have := LM.out; omega); intro v212 w8 ho hb hg hat; have n0_ := Aside0.mk (hb); have n1_ := Aside0.mk (ho); have n2_ := Aside0.mk (it_after HI2.out (by repeat (first | exact Below.refl _ _ | apply bA|apply bN|apply bD)) hg (Kd.R_away HO_3.out (fun _ h => h))); clear HB; clear HO_3; have HB := n0_; have HO213 := n1_; have HI8 := n2_; clear n0_ n1_ n2_; clear ho hb hg hat))
       go_roundg k1
       case measure => have := HK1.out; omega
       case rel => exact ⟨x3 ++ [124], pw, H', ⟨by have := HK1.out; omega⟩, HI8, HO213, HB⟩
      ·rw [if_neg c6] at H
       exact absurd H (by simp)
     rw [if_neg d3] at H
     have t3 : (c == 100) = false := beq_eq_false_iff_ne.mpr d3
     clear d3
     by_cases d4 : c = 118
     ·rw [if_pos d4] at H
      have t4 : (c == 118) = true := beq_iff_eq.mpr d4
      by_cases c6 : x3.length < 140737488355328
      ·rw [if_pos c6] at H
       have LM := Aside0.mk c6
       clear c6 d4
       have H' := Aside0.mk H
       clear H
       go_wp2_with (first | ((with_reducible refine gate_builtin (b := .append) (xs := #[.tmp 34, .tmp 35]) rfl ?_); at_builtin; refine Kd.R_append (Kd.int .u8) (w0 := w) w.heap.size rfl (.tmp 34) (.tmp 35) 38 39 (.int .u8 0) 1 rfl Tryd.underlying38 info39 rfl (by decide) (by omega) u3 x3 123 [.int .u8 123] (fun j => j ≠ w.heap.size) (fun _ => False) rfl rfl ?aP (fun _ hk => hk.elim) ?aF ?aO ?aB ?aS ?aL ?_; (case aP => exact rfl); (case aB => exact (by repeat (first | exact HB.out | apply bA|apply bN|apply bD | refine Lib.below_iterAt ?_ (Nat.le_refl _) _ _))); (case aF => exact (fun j hj => Nat.ne_of_gt (Nat.lt_of_lt_of_le HL.out (Nat.le_trans (Nat.le_of_eq (Lib.iterAt_size _ _ _ _).symm) (Nat.le_trans (Below.size (B := 0) (by repeat (first | exact Below.refl _ _ | refine Below.alloc ?_ (Nat.zero_le _) _ | apply Below.drew))) hj))))); (case aO => exact (by (with_reducible repeat (first | apply rA|apply rN|apply rD)); exact Kd.R_step HO_3.out (fun j hj _ => Lib.iterAt_other _ _ _ _ _ hj))); (case aS => exact (below_size (by repeat (first | exact HB.out | apply bA|apply bN|apply bD | refine Lib.below_iterAt ?_ (Nat.le_refl _) _ _)))); (case aL => have := LM.out; omega); intro v212 w8 ho hb hg hat; have n0_ := Aside0.mk (hb); have n1_ := Aside0.mk (ho); have n2_ := Aside0.mk (it_after HI2.out (by repeat (first | exact Below.refl _ _ | apply bA|apply bN|apply bD)) hg (Kd.R_away HO_3.out (fun _ h => h))); clear HB; clear HO_3; have HB := n0_; have HO213 := n1_; have HI8 := n2_; clear n0_ n1_ n2_; clear ho hb hg hat))
       go_roundg k1
       case measure => have := HK1.out; omega
       case rel => exact ⟨x3 ++ [123], pw, H', ⟨by have := HK1.out; omega⟩, HI8, HO213, HB⟩
      ·rw [if_neg c6] at H
       exact absurd H (by simp)
     rw [if_neg d4] at H
     have t4 : (c == 118) = false := beq_eq_false_iff_ne.mpr d4
     clear d4
     have H' := Aside0.mk H
     clear H
     go_wp2
     go_roundg k1
     case measure => have := HK1.out; omega
     case rel => exact ⟨x3, pw, H', ⟨by have := HK1.out; omega⟩, HI2, ⟨Kd.R_step HO_3.out (fun j hj _ => Lib.iterAt_other _ _ _ _ _ hj)⟩, ⟨Lib.below_iterAt HB.out (Nat.le_refl _) _ _⟩⟩
   ·rw [if_neg hp] at H
    obtain rfl := Option.some.inj H
    have hnx : ∀ ty, (Instr.next (.pointer (some ⟨w.heap.size, 0, none⟩)) true ty).run Tryd.prog _ = _ := fun ty => Lib.run_next_end_at _ _ _ pos ty HI.out hp
    go_wp2
    go_ret
    exact ⟨_, by first | rfl | (simp; done) | (simp [*]; done), by (with_reducible repeat (first | apply rA|apply rN|apply rD)); exact Kd.R_mono HO_3.out (fun _ _ => trivial), by repeat (first | exact HB.out | apply bA|apply bN|apply bD)⟩
end Go.Proofs.YtobldeamemmokaaDoor.P

