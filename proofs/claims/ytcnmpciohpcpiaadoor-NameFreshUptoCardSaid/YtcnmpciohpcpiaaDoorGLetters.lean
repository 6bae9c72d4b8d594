import Derived.Test.YtcnmpciohpcpiaaDoorPx0
import Derived.Test.YtcnmpciohpcpiaaDoorPx3
import Derived.Lib.OthersKept
import Derived.Laws.RangeAny
/-! The contract of name.Letters, by hand: a range over a string. -/
namespace Go.Proofs.YtcnmpciohpcpiaaDoor.P
open Go.Proofs.YtcnmpciohpcpiaaDoorTabs
open Go.RowKit Go.Proofs.YtcnmpciohpcpiaaDoorW.PrintWords Go.Proofs.YtcnmpciohpcpiaaDoorW.PrintLast Go.Proofs.YtcnmpciohpcpiaaDoorW.PrintMore
set_option linter.unusedVariables false
def name_Letters.l : Nat → ByteArray → Nat → List Int → Option (List Int × Int)
  | 0, _, _, _ => none
  | k + 1, s, pos, out => if pos < s.size then (if out.length < 35184372088832 then name_Letters.l k s (pos + (Utf8.decode s pos).2) (out ++ [((Utf8.decode s pos).1 : Int)]) else none) else some (out, 0)
def name_Letters.f (k : Nat) (l0 : List Int) : Option (List Int × Int) := (name_Is.f k l0).bind fun t => if t = true then name_Letters.l k (strOfNums l0) 0 [] else some ([], 4)
theorem name_Letters.mono_l : ∀ k s p o, LeO (name_Letters.l k s p o) (name_Letters.l (k + 1) s p o)
  | 0, _, _, _ => fun r h => by simp [name_Letters.l] at h
  | k + 1, s, p, o => by
    have ih0 := name_Letters.mono_l k
    unfold name_Letters.l
    repeat' first
      | (with_reducible exact ih0 _ _ _)
      | (with_reducible exact LeO.refl _)
      | (with_reducible refine LeO.ite ?_ ?_)
theorem name_Letters.mono : ∀ a0 k, LeO (name_Letters.f k a0) (name_Letters.f (k + 1) a0) := by
  intro a0 k
  have ih0 := name_Letters.mono_l k
  unfold name_Letters.f
  repeat' first
      | (with_reducible exact ih0 _ _ _)
      | (with_reducible exact name_Is.mono _ _)
      | (with_reducible exact LeO.refl _)
      | (with_reducible refine LeO.ite ?_ ?_)
      | (with_reducible refine LeO.bind ?_ (fun _ => ?_))
theorem it_after {w' W w1 : World} {it : Nat} {s : ByteArray} {pos : Nat} {row : Option Nat} (hi : w'.heap[it]? = some (.stringIter s pos)) (hW : Below w'.heap.size w' W) (hg : W.grownBy w1 row) (hne : some it ≠ row) : w1.heap[it]? = some (.stringIter s pos) := by
  have hlt : it < w'.heap.size := (Array.getElem?_eq_some_iff.1 hi).1
  exact (hg.block it (Nat.lt_of_lt_of_le hlt hW.size) hne).trans ((hW.block it hlt).trans hi)
theorem it_lt {w' : World} {it : Nat} {s : ByteArray} {pos : Nat} (hi : w'.heap[it]? = some (.stringIter s pos)) : it < w'.heap.size := (Array.getElem?_eq_some_iff.1 hi).1
set_option maxHeartbeats 8000000 in
set_option maxRecDepth 100000 in
theorem name_Letters.calls (k : Nat) (A0 : Option Addr) (c0 : Nat) (l0 : List Int) (r1 : List Int) (r2 : Int) (w : World) (hT : Tab w) (hr0 : Kd.C (Kd.int .u8) w A0 l0.length l0) (hc0 : l0.length ≤ c0) (h : name_Letters.f k l0 = some (r1, r2)) :
    Calls Tryd.prog 11 #[.slice A0 l0.length c0] w fun e w' => ∃ v0_ : Value, e = .returned (.tuple #[v0_, .int .i64 r2]) ∧ Kd.R (Kd.int .i32) 21 w' w.heap.size (fun _ => True) v0_ r1 ∧ Below w.heap.size w w' := by
  have HT := Aside0.mk hT
  clear hT
  have HR0 := Aside0.mk hr0
  have HC0 := Aside0.mk hc0
  clear hr0 hc0
  have HB := Aside0.mk (Below.refl w.heap.size w)
  obtain ⟨t, A20, H⟩ := Option.bind_eq_some_iff.mp h
  have A2 := Aside0.mk A20
  clear h A20
  cases t with
  | false =>
    simp only [Bool.false_eq_true, ↓reduceIte, Option.some.injEq, Prod.mk.injEq] at H
    obtain ⟨rfl, rfl⟩ := H
    go_enter Tryd.func11, Tryd.ntmps11
    go_wp2_with (first | ((with_reducible refine gate_callee (f := 14) rfl ?_); refine goesL_ (some 8) rfl rfl Tryd.func14 (by kernel_rfl) rfl #[.slice A0 l0.length c0] rfl (by (try simp only [List.map_toArray, List.map_cons, List.map_nil]); first | done | rfl) ?_; (with_reducible refine (name_Is.calls k _ _ l0 false _ ?sideT ?side1 ?side2 A2.out).mono ?_); (case sideT => exact HT.out); (case side1 => exact HR0.out); (case side2 => exact HC0.out); rintro e w3 ⟨rfl, hb⟩; refine ⟨_, rfl, ?_⟩; have n0_ := Aside0.mk (below_step HB.out hb); clear HB; have HB := n0_; clear n0_; (try clear hb)))
    go_ret2
    exact ⟨_, by first | rfl | (simp; done) | (simp [*]; done), Kd.R_nil _ _ _ _ _, by repeat (first | exact HB.out | apply below_alloc | apply pw_below_drewN | apply below_drew1)⟩
  | true =>
    simp only [↓reduceIte] at H
    have H' := Aside0.mk H
    clear H
    go_enter Tryd.func11, Tryd.ntmps11
    go_wp2_with (first | ((with_reducible refine gate_callee (f := 14) rfl ?_); refine goesL_ (some 8) rfl rfl Tryd.func14 (by kernel_rfl) rfl #[.slice A0 l0.length c0] rfl (by (try simp only [List.map_toArray, List.map_cons, List.map_nil]); first | done | rfl) ?_; (with_reducible refine (name_Is.calls k _ _ l0 true _ ?sideT ?side1 ?side2 A2.out).mono ?_); (case sideT => exact HT.out); (case side1 => exact HR0.out); (case side2 => exact HC0.out); rintro e w3 ⟨rfl, hb⟩; refine ⟨_, rfl, ?_⟩; have n0_ := Aside0.mk (below_step HB.out hb); clear HB; have HB := n0_; clear n0_; (try clear hb); have hcv1 := Kd.C_string (P := Tryd.prog) (A := A0) (c := c0) Tryd.underlying22 Tryd.underlying5 Tryd.underlying9 (Kd.C_below HR0.out HB.out)))
    have HG : Aside0 (w.heap.size ≤ w3.heap.size) := ⟨HB.out.size⟩
    clear hcv1 HR0 HC0 HT A2
    go_loopg [4] k (fun kq v4 w' => ∃ (x4 : List Int) (pos : Nat), Aside0 (name_Letters.l kq (strOfNums l0) pos x4 = some (r1, r2)) ∧ Aside0 (kq ≤ k) ∧ Aside0 (w'.heap[w3.heap.size]? = some (.stringIter (strOfNums l0) pos)) ∧ Aside0 (Kd.R (Kd.int .i32) 21 w' w.heap.size (fun j => j ≠ w3.heap.size) v4 x4) ∧ Aside0 (Below w.heap.size w w'))
    case atStart => exact ⟨[], 0, H', ⟨Nat.le_refl _⟩, ⟨World.iter_heap w3 _ 0⟩, ⟨Kd.R_nil _ _ _ _ _⟩, ⟨HB.out.trans (Below.mono (below_alloc (Below.refl _ _) _) HG.out)⟩⟩
    case round =>
      clear H' HB
      obtain ⟨x4, pos, HA, HK1, HI, HO_4, HB⟩ := hrel
      cases gk with
      | zero => exact absurd HA.out (by simp [name_Letters.l])
      | succ k1 =>
        have H := HA.out
        clear HA
        simp only [name_Letters.l] at H
        by_cases hp : pos < (strOfNums l0).size
        · rw [if_pos hp] at H
          by_cases c6 : x4.length < 35184372088832
          · rw [if_pos c6] at H
            have LMc6 := Aside0.mk c6
            clear c6
            have hnx : ∀ ty, (Instr.next (.pointer (some ⟨w3.heap.size, 0, none⟩)) true ty).run Tryd.prog _ = _ := fun ty => Lib.run_next_any_at _ _ _ pos ty HI.out hp
            obtain ⟨c, hc⟩ : ∃ c : Int, ((Utf8.decode (strOfNums l0) pos).1 : Int) = c := ⟨_, rfl⟩
            obtain ⟨pw, hpw⟩ : ∃ pw : Nat, pos + (Utf8.decode (strOfNums l0) pos).2 = pw := ⟨_, rfl⟩
            rw [hc, hpw] at H
            simp only [hc, hpw] at hnx
            obtain ⟨y4, hy4⟩ : ∃ y_ : List Int, y_ = x4 ++ [c] := ⟨_, rfl⟩
            rw [← hy4] at H
            have Ny4 := Aside0.mk hy4
            have H' := Aside0.mk H
            clear H hy4
            have HI2 := Aside0.mk (Lib.iterAt_heap _ _ _ _ pw HI.out)
            have HL := Aside0.mk (it_lt HI.out)
            go_wp2_with (first | ((with_reducible refine gate_builtin (b := .append) (xs := #[.tmp 16, .tmp 18]) rfl ?_); at_builtin; refine Kd.R_append (Kd.int .i32) (w0 := w) w.heap.size rfl (.tmp 16) (.tmp 18) 23 21 (.int .i32 0) 4 rfl Tryd.underlying23 info21 rfl (by decide) (by omega) u4 x4 c [.int .i32 c] (fun j => j ≠ w3.heap.size) (fun _ => False) rfl rfl ?aP (fun _ hk => hk.elim) ?aF ?aO ?aB ?aS ?aL ?_; (case aP => exact rfl); (case aB => exact (by repeat (first | exact HB.out | apply below_alloc | apply pw_below_drewN | apply below_drew1 | refine Lib.below_iterAt ?_ HG.out _ _))); (case aF => exact (fun j hj => Nat.ne_of_gt (Nat.lt_of_lt_of_le HL.out (Nat.le_trans (Nat.le_of_eq (Lib.iterAt_size _ _ _ _).symm) (Nat.le_trans (Below.size (B := 0) (by repeat (first | exact Below.refl _ _ | refine Below.alloc ?_ (Nat.zero_le _) _ | apply Below.drew))) hj))))); (case aO => exact (by (with_reducible repeat (first | apply Kd.R_alloc | apply Kd.R_drewN | apply Kd.R_drew)); exact Kd.R_step HO_4.out (fun j hj _ => Lib.iterAt_other _ _ _ _ _ hj))); (case aS => exact (below_size (by repeat (first | exact HB.out | apply below_alloc | apply pw_below_drewN | apply below_drew1 | refine Lib.below_iterAt ?_ HG.out _ _)))); (case aL => have := LMc6.out; omega); intro v212 w8 ho hb hg hat; rw [← Ny4.out] at ho; have n0_ := Aside0.mk (hb); have n1_ := Aside0.mk (ho); have n2_ := Aside0.mk (it_after HI2.out (by repeat (first | exact Below.refl _ _ | apply below_alloc | apply pw_below_drewN | apply below_drew1)) hg (Kd.R_away HO_4.out (fun _ h => h))); clear HB; clear HO_4; have HB := n0_; have HO213 := n1_; have HI8 := n2_; clear n0_ n1_ n2_; clear ho hb hg hat))
            go_roundg k1
            case measure => have := HK1.out; omega
            case rel => exact ⟨y4, pw, H', ⟨by have := HK1.out; omega⟩, HI8, HO213, HB⟩
          · rw [if_neg c6] at H
            exact absurd H (by simp)
        · rw [if_neg hp] at H
          simp only [Option.some.injEq, Prod.mk.injEq] at H
          obtain ⟨rfl, rfl⟩ := H
          have hnx : ∀ ty, (Instr.next (.pointer (some ⟨w3.heap.size, 0, none⟩)) true ty).run Tryd.prog _ = _ := fun ty => Lib.run_next_end_at _ _ _ pos ty HI.out hp
          go_wp2
          go_ret2
          exact ⟨_, by first | rfl | (simp; done) | (simp [*]; done), by (with_reducible repeat (first | apply Kd.R_alloc | apply Kd.R_drewN | apply Kd.R_drew)); exact Kd.R_mono HO_4.out (fun _ _ => trivial), by repeat (first | exact HB.out | apply below_alloc | apply pw_below_drewN | apply below_drew1)⟩
end Go.Proofs.YtcnmpciohpcpiaaDoor.P
