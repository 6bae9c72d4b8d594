import Derived.Test.YtobldeamemmokaaDoorND
import Derived.Test.YtobldeamemmokaaDoorMH
import Derived.Test.YtobldeamemmokaaDoorLL
/-! Plain: blocks within one another, read. -/
namespace Go.Proofs.YtobldeamemmokaaDoor.P
open Go.RowKit Go.Proofs.YtobldeamemmokaaDoorW.PrintWords
set_option linter.unusedVariables false
set_option linter.unusedSimpArgs false
def deepB (o : Int) : Nat → List Int
  | 0 => []
  | n + 1 => deepB o n ++ [o, 64]
theorem deepB_len (o : Int) : ∀ n, (deepB o n).length = 2 * n
  | 0 => rfl
  | n + 1 => by rw [deepB, List.length_append, deepB_len o n]; simp; omega
theorem rd_left {xs ys : List Int} {i : Nat} (h : i < xs.length) : rd (xs ++ ys) (i : Int) = rd xs (i : Int) := by
  simp only [rd, Int.toNat_natCast, List.getD_eq_getElem?_getD]
  rw [List.getElem?_append_left h]
theorem rd_right {xs ys : List Int} {i j : Nat} (h : i = xs.length + j) : rd (xs ++ ys) (i : Int) = rd ys (j : Int) := by
  simp only [rd, Int.toNat_natCast, List.getD_eq_getElem?_getD]
  rw [List.getElem?_append_right (by omega)]
  congr 2
  omega
theorem rd_deep (o : Int) : ∀ (n : Nat) (r : List Int) (i : Nat), i < n → rd (deepB o n ++ r) ((2 * i : Nat) : Int) = o ∧ rd (deepB o n ++ r) ((2 * i + 1 : Nat) : Int) = 64
  | 0, r, i, h => absurd h (Nat.not_lt_zero _)
  | n + 1, r, i, h => by
    by_cases e : i < n
    · have ih := rd_deep o n ([o, 64] ++ r) i e
      rw [deepB, List.append_assoc]
      exact ih
    · obtain rfl : i = n := by omega
      rw [deepB, List.append_assoc]
      constructor
      · rw [rd_right (j := 0) (by rw [deepB_len]; omega)]; rfl
      · rw [rd_right (j := 1) (by rw [deepB_len])]; rfl
theorem rd_rep (m : Nat) (r : List Int) (i : Nat) (h : i < m) : rd (List.replicate m 11 ++ r) (i : Int) = 11 := by
  rw [rd_left (by simpa using h)]
  simp [rd, List.getD_eq_getElem?_getD, List.getElem?_replicate, h]
def nest (o : Int) : Nat → List I
  | 0 => []
  | n + 1 => [{ zI with op := o, body := nest o n }]
def opn (o : Int) : O_ := ⟨{ zI with op := o }, [], false⟩
theorem nest_len (o : Int) : ∀ n, (nest o n).length ≤ 1
  | 0 => Nat.zero_le _
  | n + 1 => Nat.le_refl _
/-- The opening bytes. -/
theorem run_open (K : Nat) (o : Int) (b : List Int) (n : Nat) (hn : n ≤ 1000000) (hb : 2 * n ≤ b.length) (hr : ∀ i, i < n → rd b ((2 * i : Nat) : Int) = o ∧ rd b ((2 * i + 1 : Nat) : Int) = 64) (ho : o ≠ 11 ∧ o ≠ 5) (hop : ∀ at_, rd b at_ = o → opF K b at_ = some (o, 1, at_ + 1, false)) (k : Nat) :
    ∀ j i, i + j = n → pRun K b (k + j) (List.replicate i (opn o) ++ [zO]) ((2 * i : Nat) : Int) (i : Int) false = pRun K b k (List.replicate n (opn o) ++ [zO]) ((2 * n : Nat) : Int) (n : Int) false
  | 0, i, h => by
    obtain rfl : i = n := by omega
    rfl
  | j + 1, i, h => by
    have hi : i < n := by omega
    obtain ⟨r1, r2⟩ := hr i hi
    have hd : ∃ t ts, List.replicate i (opn o) ++ [zO] = t :: ts ∧ t.l = [] ∧ ts.length = i := by
      cases i with
      | zero => exact ⟨zO, [], rfl, rfl, rfl⟩
      | succ i => exact ⟨opn o, List.replicate i (opn o) ++ [zO], rfl, rfl, by simp⟩
    obtain ⟨t, ts, e, h1, h2⟩ := hd
    rw [← run_open K o b n hn hb hr ho hop k j (i + 1) (by omega)]
    rw [show k + (j + 1) = (k + j) + 1 by omega, List.replicate_succ, List.cons_append, e, pRun_cons]
    rw [if_pos (by omega), if_pos ⟨by omega, by rw [h1]; exact (by decide)⟩, r1, if_neg ho.1, hop _ r1, Option.bind_some]
    simp only
    rw [if_pos trivial]
    have e2 : ((2 * i : Nat) : Int) + 1 = ((2 * i + 1 : Nat) : Int) := by omega
    rw [e2]
    have e3 : blockF b ((2 * i + 1 : Nat) : Int) false = some (0, 0, 0, ((2 * i + 1 : Nat) : Int) + 1, false) := by
      rw [blockF, if_pos ⟨rfl, by omega, r2⟩]
    rw [e3, Option.bind_some]
    simp only
    rw [if_neg (by simp)]
    have e4 : ((2 * i + 1 : Nat) : Int) + 1 = ((2 * (i + 1) : Nat) : Int) := by omega
    have e5 : max (i : Int) ((ts.length : Int) + 1) = ((i + 1 : Nat) : Int) := by rw [h2]; omega
    rw [e4, e5]
    rfl
def stD (o : Int) : Nat → Nat → List O_
  | 0, m => [⟨zI, nest o m, false⟩]
  | q + 1, m => ⟨{ zI with op := o }, nest o m, false⟩ :: (List.replicate q (opn o) ++ [zO])
theorem stD_zero (o : Int) : ∀ n, stD o n 0 = List.replicate n (opn o) ++ [zO]
  | 0 => rfl
  | n + 1 => rfl
theorem stD_next (o : Int) (q m : Nat) : ∃ t ts, stD o (q + 1) m = t :: ts ∧ ts.length = q + 1 ∧ t.l.length ≤ 1 ∧ ∃ p ps, ts = p :: ps ∧ p.l = [] ∧ (⟨p.x, p.l ++ [closeI t], p.e⟩ : O_) :: ps = stD o q (m + 1) := by
  refine ⟨_, _, rfl, by simp, nest_len o m, ?_⟩
  cases q with
  | zero => exact ⟨zO, [], rfl, rfl, rfl⟩
  | succ q => exact ⟨opn o, List.replicate q (opn o) ++ [zO], rfl, rfl, rfl⟩
/-- The closing bytes, all but the last. -/
theorem run_close (K : Nat) (o : Int) (b : List Int) (n : Nat) (hn : n ≤ 1000000) (hb : 3 * n ≤ b.length) (hr : ∀ i, i < n → rd b ((2 * n + i : Nat) : Int) = 11) (k : Nat) :
    ∀ q m, m + q = n → pRun K b (k + q) (stD o q m) ((2 * n + m : Nat) : Int) (n : Int) false = pRun K b k (stD o 0 n) ((3 * n : Nat) : Int) (n : Int) false
  | 0, m, h => by
    obtain rfl : m = n := by omega
    rw [show 2 * m + m = 3 * m by omega]
    rfl
  | q + 1, m, h => by
    obtain ⟨t, ts, e, h1, h2, p, ps, e2, h3, h4⟩ := stD_next o q m
    rw [← run_close K o b n hn hb hr k q (m + 1) (by omega), ← h4]
    rw [show k + (q + 1) = (k + q) + 1 by omega, e, pRun_cons]
    rw [if_pos (by omega), if_pos ⟨by omega, by omega⟩, if_pos (hr m (by omega)), e2]
    simp only
    rw [if_pos (by rw [h3]; exact (by decide))]
    rw [show ((2 * n + m : Nat) : Int) + 1 = ((2 * n + (m + 1) : Nat) : Int) by omega]
theorem run_deep (K : Nat) (o : Int) (n : Nat) (hn : n ≤ 1000000) (ho : o ≠ 11 ∧ o ≠ 5) (r : List Int) (hop : ∀ at_, rd (deepB o n ++ (List.replicate (n + 1) 11 ++ r)) at_ = o → opF K (deepB o n ++ (List.replicate (n + 1) 11 ++ r)) at_ = some (o, 1, at_ + 1, false)) :
    pRun K (deepB o n ++ (List.replicate (n + 1) 11 ++ r)) (1 + n + n) [zO] 0 0 false = some (some (nest o n, ((3 * n + 1 : Nat) : Int), (n : Int), false)) := by
  obtain ⟨b, hb⟩ : ∃ b, b = deepB o n ++ (List.replicate (n + 1) 11 ++ r) := ⟨_, rfl⟩
  have hl : b.length = 2 * n + ((n + 1) + r.length) := by rw [hb, List.length_append, deepB_len, List.length_append, List.length_replicate]
  have hr1 : ∀ i, i < n → rd b ((2 * i : Nat) : Int) = o ∧ rd b ((2 * i + 1 : Nat) : Int) = 64 := fun i hi => by rw [hb]; exact rd_deep o n _ i hi
  have hr2 : ∀ i, i < n + 1 → rd b ((2 * n + i : Nat) : Int) = 11 := fun i hi => by rw [hb, rd_right (j := i) (by rw [deepB_len]), rd_rep _ _ _ hi]
  rw [← hb] at hop ⊢
  have h1 := run_open K o b n hn (by omega) hr1 ho hop (1 + n) n 0 (by omega)
  have h2 := run_close K o b n hn (by omega) (fun i hi => hr2 i (by omega)) 1 n 0 (by omega)
  have h1' : pRun K b (1 + n + n) [zO] 0 0 false = pRun K b (1 + n) (List.replicate n (opn o) ++ [zO]) ((2 * n : Nat) : Int) (n : Int) false := h1
  rw [h1', ← stD_zero]
  have h2' : pRun K b (1 + n) (stD o n 0) ((2 * n : Nat) : Int) (n : Int) false = pRun K b 1 (stD o 0 n) ((3 * n : Nat) : Int) (n : Int) false := h2
  rw [h2', stD, pRun_cons, if_pos (by omega), if_pos ⟨by decide, by have := nest_len o n; show (nest o n).length < _; omega⟩]
  have h3 := hr2 n (by omega)
  rw [show 2 * n + n = 3 * n by omega] at h3
  rw [if_pos h3]
  simp only
  congr 3
theorem run_cut (K : Nat) (o : Int) (n : Nat) (hn : n ≤ 1000000) (ho : o ≠ 11 ∧ o ≠ 5) (hop : ∀ at_, rd (deepB o n ++ List.replicate n 11) at_ = o → opF K (deepB o n ++ List.replicate n 11) at_ = some (o, 1, at_ + 1, false)) :
    pRun K (deepB o n ++ List.replicate n 11) (1 + n + n) [zO] 0 0 false = some none := by
  obtain ⟨b, hb⟩ : ∃ b, b = deepB o n ++ List.replicate n 11 := ⟨_, rfl⟩
  have hl : b.length = 3 * n := by rw [hb, List.length_append, deepB_len, List.length_replicate]; omega
  have hr1 : ∀ i, i < n → rd b ((2 * i : Nat) : Int) = o ∧ rd b ((2 * i + 1 : Nat) : Int) = 64 := fun i hi => by rw [hb]; exact rd_deep o n _ i hi
  have hr2 : ∀ i, i < n → rd b ((2 * n + i : Nat) : Int) = 11 := fun i hi => by
    have h := rd_rep n [] i hi
    rw [List.append_nil] at h
    rw [hb, rd_right (j := i) (by rw [deepB_len]), h]
  rw [← hb] at hop ⊢
  have h1 := run_open K o b n hn (by omega) hr1 ho hop (1 + n) n 0 (by omega)
  have h2 := run_close K o b n hn (by omega) hr2 1 n 0 (by omega)
  have h1' : pRun K b (1 + n + n) [zO] 0 0 false = pRun K b (1 + n) (List.replicate n (opn o) ++ [zO]) ((2 * n : Nat) : Int) (n : Int) false := h1
  rw [h1', ← stD_zero]
  have h2' : pRun K b (1 + n) (stD o n 0) ((2 * n : Nat) : Int) (n : Int) false = pRun K b 1 (stD o 0 n) ((3 * n : Nat) : Int) (n : Int) false := h2
  rw [h2', stD, pRun_cons, if_neg (by omega)]
theorem nest_cL (o : Int) : ∀ n, cL (nest o n) = n
  | 0 => rfl
  | n + 1 => by
    rw [nest, cL, cI_eq]
    show 1 + cL (nest o n) + cL zI.els + cL [] = n + 1
    rw [nest_cL o n]
    show 1 + n + 0 + 0 = n + 1
    omega
theorem nest_pL (o : Int) (ho : isBlk o = true) : ∀ n h, pL h (nest o n) = if n = 0 then 0 else h + n
  | 0, h => rfl
  | n + 1, h => by
    have ih := nest_pL o ho n (h + 1)
    rw [nest, pL, pI_eq]
    show max (if isBlk o = true then max (h + 1) (max (pL (h + 1) (nest o n)) (pL (h + 1) [])) else _) (pL h []) = _
    rw [if_pos ho, ih, if_neg (Nat.succ_ne_zero n)]
    show max (max (h + 1) (max _ 0)) 0 = _
    by_cases e : n = 0
    · rw [if_pos e, e]; omega
    · rw [if_neg e]; omega
end Go.Proofs.YtobldeamemmokaaDoor.P

/-! The law CodeDeep. -/
namespace Go.Proofs.YtobldeamemmokaaDoor.P
open Go.RowKit Go.Proofs.YtobldeamemmokaaDoorW.PrintWords Go.Proofs.YtobldeamemmokaaDoorW.PrintLast Go.Proofs.YtobldeamemmokaaDoorW.PrintMore
set_option linter.unusedVariables false
set_option linter.unusedSimpArgs false
theorem of2 : (ops_Of.f 300 2).map (fun q => (q.1, q.2.2.1, q.2.2.2.2.2.2.2)) = some (2, 1, 0) := by kernel_rfl
theorem of3 : (ops_Of.f 300 3).map (fun q => (q.1, q.2.2.1, q.2.2.2.2.2.2.2)) = some (3, 1, 0) := by kernel_rfl
theorem of4 : (ops_Of.f 300 4).map (fun q => (q.1, q.2.2.1, q.2.2.2.2.2.2.2)) = some (4, 1, 0) := by kernel_rfl
theorem opF_blk {o : Int} (h : o = 2 ∨ o = 3 ∨ o = 4) (b : List Int) (at_ : Int) (hr : rd b at_ = o) : opF 300 b at_ = some (o, 1, at_ + 1, false) := by
  have key : (ops_Of.f 300 o).map (fun q => (q.1, q.2.2.1, q.2.2.2.2.2.2.2)) = some (o, 1, 0) := by
    rcases h with rfl | rfl | rfl
    · exact of2
    · exact of3
    · exact of4
  obtain ⟨⟨q1, r2, q3, r4, r5, r6, r7, q8⟩, ho, hq⟩ := Option.map_eq_some_iff.1 key
  simp only [Prod.mk.injEq] at hq
  obtain ⟨rfl, rfl, rfl⟩ := hq
  rw [opF, hr, if_pos (by omega), ho, Option.bind_some]
  simp only
  rw [if_pos trivial]
theorem cut_deep (o : Int) (N : Nat) (more : List Int) : ((deepB o N ++ List.replicate (N + 1) 11) ++ more).take (3 * N) = deepB o N ++ List.replicate N 11 := by
  have e : (deepB o N ++ List.replicate (N + 1) 11) ++ more = (deepB o N ++ List.replicate N 11) ++ (11 :: more) := by
    rw [List.replicate_succ', List.append_assoc, List.append_assoc, List.append_assoc]
    rfl
  rw [e]
  exact List.take_left' (by rw [List.length_append, deepB_len, List.length_replicate]; omega)
set_option maxHeartbeats 16000000 in
set_option maxRecDepth 100000 in
theorem deep_calls (n0 o0 : Int) (A : Option Addr) (c : Nat) (more : List Int) (w : World) (hT : Go.Proofs.YtobldeamemmokaaDoorTabs.Tab w) (hc : more.length ≤ c) (hC : (Kd.int .u8).C w A more.length more) (ho0 : 0 ≤ o0) (hms : more.length ≤ 1048576) :
    Calls Tryd.prog 6 #[.int .i64 n0, .int .u8 o0, .slice A more.length c] w fun e w' => e = .returned (.bool true) ∧ Below w.heap.size w w' := by
  obtain ⟨N, hN, eN⟩ : ∃ N : Nat, N < 3000 ∧ wrap64 ((IntKind.u64.wrap n0).tmod 3000) = (N : Int) := by
    have h1 : 0 ≤ IntKind.u64.wrap n0 := by unfold IntKind.wrap; simp [IntKind.signed, IntKind.bits]; omega
    refine ⟨((IntKind.u64.wrap n0).tmod 3000).toNat, ?_, ?_⟩
    · rw [Int.tmod_eq_emod_of_nonneg h1]; omega
    · rw [Int.tmod_eq_emod_of_nonneg h1]; unfold wrap64; omega
  obtain ⟨o1, eo, ho1⟩ : ∃ o1 : Int, (2 + o0.tmod 3) % 256 = o1 ∧ (o1 = 2 ∨ o1 = 3 ∨ o1 = 4) := ⟨_, rfl, by rw [Int.tmod_eq_emod_of_nonneg ho0]; omega⟩
  have hblk : isBlk o1 = true := by rcases ho1 with rfl | rfl | rfl <;> rfl
  have hne : o1 ≠ 11 ∧ o1 ≠ 5 := by omega
  have h1 := run_deep 300 o1 N (by omega) hne more (fun at_ => opF_blk ho1 _ at_)
  have h2 := run_cut 300 o1 N (by omega) hne (fun at_ => opF_blk ho1 _ at_)
  rw [← List.append_assoc] at h1
  have hcl : cL (nest o1 N) = N := nest_cL o1 N
  have hcnt : eachL sCount (3 * cL (nest o1 N) + 2) [⟨nest o1 N, 0, 0⟩] 0 = some ((N : Nat) : Int) := by
    have h := eachL_count (3 * cL (nest o1 N) + 2) [⟨nest o1 N, 0, 0⟩] 0 (by simp only [mP, List.drop_zero]; omega) (by intro q hq; rcases List.mem_singleton.1 hq with rfl; exact Nat.zero_le _) (by simp only [cP, List.drop_zero]; omega) (by simp only [cP, List.drop_zero, List.length_singleton]; omega)
    have e : (0 + cP [⟨nest o1 N, 0, 0⟩]) = N := by rw [cP, cP, List.drop_zero, hcl]; omega
    rw [e] at h
    exact h
  have hdep := eachL_one sDepth (nest o1 N) 0 (by omega)
  have hdm := dep_eq (nest o1 N) (by omega)
  rw [nest_pL o1 hblk] at hdm
  obtain ⟨dr, hdr⟩ : ∃ dr, (foldE sDepth (seqL 0 (nest o1 N)) 0).1 = dr := ⟨_, rfl⟩
  rw [hdr] at hdep hdm
  have HE := Aside0.mk (fun (W : World) (hW : Below w.heap.size w W) (A8 : Option Addr) (c8 : Nat) (h8 : (Kd.int .u8).R 5 W w.heap.size (fun _ => True) (.slice A8 ((deepB o1 N ++ List.replicate (N + 1) 11) ++ more).length c8) ((deepB o1 N ++ List.replicate (N + 1) 11) ++ more)) => ExprG_calls 300 (1 + N + N) A8 c8 _ 0 W (hT.below hW) (Kd.R_reads' h8).2.1 (Kd.R_reads' h8).2.2 (Int.le_refl 0) (by omega) _ h1)
  have HS := Aside0.mk (fun (W : World) (hW : Below w.heap.size w W) (A8 : Option Addr) (c8 : Nat) (h8 : (Kd.int .u8).R 5 W w.heap.size (fun _ => True) (.slice A8 ((deepB o1 N ++ List.replicate (N + 1) 11) ++ more).length c8) ((deepB o1 N ++ List.replicate (N + 1) 11) ++ more)) => SkipG_calls 300 (1 + N + N) A8 c8 _ 0 W (hT.below hW) (Kd.R_reads' h8).2.1 (Kd.R_reads' h8).2.2 (Int.le_refl 0) (by omega) _ h1)
  have HX := Aside0.mk (fun (W : World) (hW : Below w.heap.size w W) (A8 : Option Addr) (c8 : Nat) (h8 : (Kd.int .u8).R 5 W w.heap.size (fun _ => True) (.slice A8 (deepB o1 N ++ List.replicate N 11).length c8) (deepB o1 N ++ List.replicate N 11)) => ExprG_calls 300 (1 + N + N) A8 c8 _ 0 W (hT.below hW) (Kd.R_reads' h8).2.1 (Kd.R_reads' h8).2.2 (Int.le_refl 0) (by omega) _ h2)
  have HQ := Aside0.mk (fun (W : World) (hW : Below w.heap.size w W) => lives_calls W (hT.below hW))
  have HM := Aside0.mk (fun (W : World) (hW : Below w.heap.size w W) => Kd.C_below hC hW)
  have HCN := Aside0.mk (fun (W : World) (A8 : Option Addr) (c8 : Nat) (h8 : kI.R 43 W w.heap.size (fun _ => True) (.slice A8 (nest o1 N).length c8) (nest o1 N)) => Count_calls (3 * cL (nest o1 N) + 2) A8 c8 (nest o1 N) W (Kd.R_reads' h8).2.1 (Kd.R_reads' h8).2.2 hcnt)
  have HDP := Aside0.mk (fun (W : World) (A8 : Option Addr) (c8 : Nat) (h8 : kI.R 43 W w.heap.size (fun _ => True) (.slice A8 (nest o1 N).length c8) (nest o1 N)) => Depth_calls (3 * cL (nest o1 N) + 2) A8 c8 (nest o1 N) W (Kd.R_reads' h8).2.1 (Kd.R_reads' h8).2.2 hdep)
  rw [hdm] at HDP
  have HMC := Aside0.mk (And.intro hc hms)
  have HB := Aside0.mk (Below.refl w.heap.size w)
  clear hT hC hc hms h1 h2 hcnt hdep hdm hdr ho0 ho1 hne hblk hcl
  go_enter Tryd.func6, Tryd.ntmps6
  go_wp2
  rw [eN, eo]
  go_loopg [8, 9] N (fun kq v8 v9 w' => ∃ i : Nat, i + kq = N ∧ v9 = .int .i64 i ∧ Aside0 ((Kd.int .u8).R 5 w' w.heap.size (fun _ => True) v8 (deepB o1 i)) ∧ Aside0 (Below w.heap.size w w'))
  case atStart => exact ⟨0, by omega, rfl, ⟨Kd.R_nil _ _ _ _ _⟩, HB⟩
  case round =>
    clear HB
    obtain ⟨i, hi, rfl, HV, HB⟩ := hrel
    have wi : wrap64 ((i : Int) + 1) = ((i + 1 : Nat) : Int) := by unfold wrap64; omega
    by_cases hiN : i < N
    · obtain ⟨k1, rfl⟩ : ∃ k1, gk = k1 + 1 := ⟨gk - 1, by omega⟩
      have d1 : decide ((i : Int) < (N : Int)) = true := decide_eq_true (by omega)
      go_wp2_with (first
        | ((with_reducible refine gate_dst (N := 36) rfl ?_); refine Kd.R_lit (Kd.int .u8) (w0 := w) w.heap.size 5 ?hga (N := 36) ?hda (xs := ([o1, 64] : List Int)) (inner := [.int .u8 (o1), .int .u8 (64)]) (ok := fun _ => True) (okp := fun _ => True) ?hra ?hpa (fun _ hk => hk) trivial HB.out HB.out.size (by simp) ?_; (case hda => rfl); (case hga => rfl); (case hra => first | (go_simp; done) | (go_simp; rfl)); (case hpa => exact (Reps.one (show Kd.M (Kd.int .u8) _ _ _ (o1) [.int .u8 (o1)] from rfl) (Reps.one (show Kd.M (Kd.int .u8) _ _ _ (64) [.int .u8 (64)] from rfl) (Reps.none _ _)))); intro vl wl ho hb hg_ hnew_; obtain ⟨Al, cl, rfl⟩ := Kd.R_slice ho; have n1_ := Aside0.mk (R_none HV.out hg_); have HL := Aside0.mk ho; clear HB HV ho hg_ hnew_; have HB := Aside0.mk hb; have HV := n1_; clear hb n1_)
        | ((with_reducible refine gate_builtin (b := .append) (xs := #[.tmp 34, .tmp 36]) rfl ?_); at_builtin; refine Kd.R_append_rows (Kd.int .u8) (w0 := w) w.heap.size rfl (.tmp 34) (.tmp 36) 24 5 (.int .u8 0) 1 rfl Tryd.underlying24 info5 rfl (by decide) (by decide) u8 (deepB o1 i) ([o1, 64] : List Int) Al 2 cl (fun _ => True) (fun _ => False) rfl rfl HV.out (Kd.R_reads' HL.out).2.2 (fun _ _ h => h) (fun _ h => h.elim) (fun _ _ => trivial) HB.out HB.out.size ?aLa ?_; (case aLa => have := deepB_len o1 i; omega); intro v1 w1 ho hb hg hat; have n0_ := Aside0.mk ho; have n1_ := Aside0.mk hb; clear HV HB HL ho hb hg hat; have HV := n0_; have HB := n1_; clear n0_ n1_))
      go_roundg k1
      case measure => omega
      case rel => exact ⟨i + 1, by omega, by first | rfl | exact congrArg (Value.int .i64) wi | (rw [wi]), HV, HB⟩
    · have d1 : decide ((i : Int) < (N : Int)) = false := decide_eq_false (by omega)
      obtain rfl : N = i := by omega
      clear hi wi d1 hiN
      go_wp2
      go_loopg [8, 10] (N + 1) (fun kq v8 v10 w' => ∃ j : Nat, j + kq = N + 1 ∧ v10 = .int .i64 j ∧ Aside0 ((Kd.int .u8).R 5 w' w.heap.size (fun _ => True) v8 (deepB o1 N ++ List.replicate j 11)) ∧ Aside0 (Below w.heap.size w w'))
      case atStart => exact ⟨0, by omega, rfl, by rw [List.replicate_zero, List.append_nil]; exact HV, HB⟩
      case round =>
        clear HV HB
        obtain ⟨j, hj, rfl, HV, HB⟩ := hrel
        have wj : wrap64 ((j : Int) + 1) = ((j + 1 : Nat) : Int) := by unfold wrap64; omega
        by_cases hjN : j < N + 1
        · obtain ⟨k1, rfl⟩ : ∃ k1, gk = k1 + 1 := ⟨gk - 1, by omega⟩
          have d1 : decide ((j : Int) ≤ (N : Int)) = true := decide_eq_true (by omega)
          go_wp2_with (first
            | ((with_reducible refine gate_dst (N := 44) rfl ?_); refine Kd.R_lit (Kd.int .u8) (w0 := w) w.heap.size 5 ?hgb (N := 44) ?hdb (xs := ([11] : List Int)) (inner := [.int .u8 (11)]) (ok := fun _ => True) (okp := fun _ => True) ?hrb ?hpb (fun _ hk => hk) trivial HB.out HB.out.size (by simp) ?_; (case hdb => rfl); (case hgb => rfl); (case hrb => first | (go_simp; done) | (go_simp; rfl)); (case hpb => exact (Reps.one (show Kd.M (Kd.int .u8) _ _ _ (11) [.int .u8 (11)] from rfl) (Reps.none _ _))); intro vl wl ho hb hg_ hnew_; obtain ⟨Al, cl, rfl⟩ := Kd.R_slice ho; have n1_ := Aside0.mk (R_none HV.out hg_); have HL := Aside0.mk ho; clear HB HV ho hg_ hnew_; have HB := Aside0.mk hb; have HV := n1_; clear hb n1_)
            | ((with_reducible refine gate_builtin (b := .append) (xs := #[.tmp 43, .tmp 44]) rfl ?_); at_builtin; refine Kd.R_append_rows (Kd.int .u8) (w0 := w) w.heap.size rfl (.tmp 43) (.tmp 44) 24 5 (.int .u8 0) 1 rfl Tryd.underlying24 info5 rfl (by decide) (by decide) u8 (deepB o1 N ++ List.replicate j 11) ([11] : List Int) Al 1 cl (fun _ => True) (fun _ => False) rfl rfl HV.out (Kd.R_reads' HL.out).2.2 (fun _ _ h => h) (fun _ h => h.elim) (fun _ _ => trivial) HB.out HB.out.size ?aLb ?_; (case aLb => have := deepB_len o1 N; rw [List.length_append, List.length_replicate]; omega); intro v1 w1 ho hb hg hat; have n0_ := Aside0.mk ho; have n1_ := Aside0.mk hb; clear HV HB HL ho hb hg hat; have HV := n0_; have HB := n1_; clear n0_ n1_))
          have e9 : (deepB o1 N ++ List.replicate j 11) ++ [11] = deepB o1 N ++ List.replicate (j + 1) 11 := by rw [List.append_assoc, List.replicate_succ']
          rw [e9] at HV
          go_roundg k1
          case measure => omega
          case rel => exact ⟨j + 1, by omega, by first | rfl | exact congrArg (Value.int .i64) wj | (rw [wj]), HV, HB⟩
        · have d1 : decide ((j : Int) ≤ (N : Int)) = false := decide_eq_false (by omega)
          obtain rfl : j = N + 1 := by omega
          clear hj wj hjN
          have e8 : (deepB o1 N ++ List.replicate (N + 1) 11).length = 3 * N + 1 := by rw [List.length_append, deepB_len, List.length_replicate]; omega
          have e7 : (deepB o1 N ++ List.replicate N 11).length = 3 * N := by rw [List.length_append, deepB_len, List.length_replicate]; omega
          have hV := HV.out
          obtain ⟨A8, c8, rfl⟩ := Kd.R_slice hV
          have hcut := cut_deep o1 N more
          obtain ⟨M, hM⟩ : ∃ M, M = 3 * N := ⟨_, rfl⟩
          obtain ⟨B1, hB1⟩ : ∃ B1, B1 = deepB o1 N ++ List.replicate (N + 1) 11 := ⟨_, rfl⟩
          obtain ⟨B2, hB2⟩ : ∃ B2, B2 = deepB o1 N ++ List.replicate N 11 := ⟨_, rfl⟩
          obtain ⟨NL, hNL⟩ : ∃ NL, NL = nest o1 N := ⟨_, rfl⟩
          rw [← hM] at e8 e7 hcut
          rw [← hB1] at e8 hcut hV
          rw [← hB2] at e7 hcut
          obtain ⟨B3, hB3⟩ : ∃ B3, B3 = B1 ++ more := ⟨_, rfl⟩
          obtain ⟨T, hT3⟩ : ∃ T, B3.length = T := ⟨_, rfl⟩
          have hMT : M ≤ T := by rw [← hT3, hB3, List.length_append, e8]; omega
          rw [← hB3] at hcut
          simp only [← hM, ← hB1, ← hNL, ← hB3, hT3] at HS HE
          simp only [← hB2, e7] at HX
          simp only [← hNL] at HCN HDP
          rw [← hB1, e8]
          rw [e8] at hV
          clear HV hB1 hB2 hNL
          have HV := Aside0.mk hV
          clear hV
          have hM9000 : M < 9000 := by omega
          clear hM
          have HB3 := Aside0.mk (And.intro hB3 (And.intro hT3 e8))
          clear hB3 hT3
          have hmx : M + 1 ≤ 9223372036854775807 := by omega
          have HML := Aside0.mk (show B1.length + more.length ≤ 140737488355328 by rw [e8]; have := HMC.out.2; omega)
          clear e8
          by_cases hd : 1000 < (N : Int)
          · have d2 : decide (1000 < (N : Int)) = true := decide_eq_true hd
            go_wp2_with (first
              | ((with_reducible refine gate_builtin (b := .append) (xs := #[.tmp 48, .tmp 49]) rfl ?_); at_builtin; refine Kd.R_append_rows (Kd.int .u8) (w0 := w) w.heap.size rfl (.tmp 48) (.tmp 49) 24 5 (.int .u8 0) 1 rfl Tryd.underlying24 info5 rfl (by decide) (by decide) (.slice A8 (M + 1) c8) B1 more A more.length c (fun _ => True) (fun _ => False) rfl rfl HV.out (HM.out _ HB.out) (fun _ _ h => h) (fun _ h => h.elim) (fun _ _ => trivial) HB.out HB.out.size ?aM ?_; (case aM => have := HML.out; omega); intro v1 wb ho hb hg hat; rw [← HB3.out.1] at ho; obtain ⟨A9, c9, rfl⟩ := Kd.R_slice ho; rw [HB3.out.2.1] at ho ⊢; have hm9 : M ≤ c9 := (by have h1 := (Kd.R_reads' ho).2.1; omega); have hRT := Kd.R_take (m := M) ho (by rw [HB3.out.2.1]; exact hMT); rw [hcut] at hRT; have RT := Aside0.mk hRT; have n1_ := Aside0.mk hb; have n2_ := Aside0.mk ho; clear HV HB ho hb hg hat hRT; have HB := n1_; have HV := n2_; clear n1_ n2_)
              | (go_at_call 12; with_reducible refine (HE.out _ (by repeat (first | exact HB.out | apply pw_below_drewN | apply below_drew1)) A9 c9 (by (with_reducible repeat (first | apply Kd.R_drewN | apply Kd.R_drew)); exact HV.out)).mono ?_; rintro e wn ⟨h9, hb⟩; simp only [exprA, if_pos hd] at h9; subst h9; have n0_ := Aside0.mk (show Below w.heap.size w wn from below_step (by repeat (first | exact HB.out | apply pw_below_drewN | apply below_drew1)) hb); have n1_ := Aside0.mk (Kd.R_below (show (Kd.int .u8).R 5 _ w.heap.size (fun _ => True) (.slice A9 T c9) B3 by (with_reducible repeat (first | apply Kd.R_drewN | apply Kd.R_drew)); exact HV.out) hb); have n2_ := Aside0.mk (Kd.R_below (show (Kd.int .u8).R 5 _ w.heap.size (fun _ => True) (.slice A9 M c9) B2 by (with_reducible repeat (first | apply Kd.R_drewN | apply Kd.R_drew)); exact RT.out) hb); clear HB HV RT hb; have HB := n0_; have HV := n1_; have RT := n2_; clear n0_ n1_ n2_)
              | (go_at_call 17; with_reducible refine (HS.out _ (by repeat (first | exact HB.out | apply pw_below_drewN | apply below_drew1)) A9 c9 (by (with_reducible repeat (first | apply Kd.R_drewN | apply Kd.R_drew)); exact HV.out)).mono ?_; rintro e wn ⟨h9, hb⟩; simp only [skipA] at h9; subst h9; have n0_ := Aside0.mk (show Below w.heap.size w wn from below_step (by repeat (first | exact HB.out | apply pw_below_drewN | apply below_drew1)) hb); have n1_ := Aside0.mk (Kd.R_below (show (Kd.int .u8).R 5 _ w.heap.size (fun _ => True) (.slice A9 T c9) B3 by (with_reducible repeat (first | apply Kd.R_drewN | apply Kd.R_drew)); exact HV.out) hb); have n2_ := Aside0.mk (Kd.R_below (show (Kd.int .u8).R 5 _ w.heap.size (fun _ => True) (.slice A9 M c9) B2 by (with_reducible repeat (first | apply Kd.R_drewN | apply Kd.R_drew)); exact RT.out) hb); clear HB HV RT hb; have HB := n0_; have HV := n1_; have RT := n2_; clear n0_ n1_ n2_)
              | (go_at_call 12; with_reducible refine (HX.out _ (by repeat (first | exact HB.out | apply pw_below_drewN | apply below_drew1)) A9 c9 (by (with_reducible repeat (first | apply Kd.R_drewN | apply Kd.R_drew)); exact RT.out)).mono ?_; rintro e wn ⟨h9, hb⟩; simp only [exprA] at h9; subst h9; have n0_ := Aside0.mk (show Below w.heap.size w wn from below_step (by repeat (first | exact HB.out | apply pw_below_drewN | apply below_drew1)) hb); have n1_ := Aside0.mk (Kd.R_below (show (Kd.int .u8).R 5 _ w.heap.size (fun _ => True) (.slice A9 T c9) B3 by (with_reducible repeat (first | apply Kd.R_drewN | apply Kd.R_drew)); exact HV.out) hb); have n2_ := Aside0.mk (Kd.R_below (show (Kd.int .u8).R 5 _ w.heap.size (fun _ => True) (.slice A9 M c9) B2 by (with_reducible repeat (first | apply Kd.R_drewN | apply Kd.R_drew)); exact RT.out) hb); clear HB HV RT hb; have HB := n0_; have HV := n1_; have RT := n2_; clear n0_ n1_ n2_)
              | (go_at_call 11; refine (HQ.out _ (by repeat (first | exact HB.out | apply pw_below_drewN | apply below_drew1))).mono ?_; rintro e wn ⟨rfl, hb⟩; have n0_ := Aside0.mk (show Below w.heap.size w wn from below_step (by repeat (first | exact HB.out | apply pw_below_drewN | apply below_drew1)) hb); clear HB hb; have HB := n0_; clear n0_))
            go_ret
            exact ⟨rfl, by repeat (first | exact HB.out | apply pw_below_drewN | apply below_drew1)⟩
          · have d2 : decide (1000 < (N : Int)) = false := decide_eq_false hd
            have e6 : ((min (if N = 0 then 0 else 0 + N) 1001 : Nat) : Int) = (N : Int) := by split <;> omega
            rw [e6] at HDP
            go_wp2_with (first
              | ((with_reducible refine gate_builtin (b := .append) (xs := #[.tmp 48, .tmp 49]) rfl ?_); at_builtin; refine Kd.R_append_rows (Kd.int .u8) (w0 := w) w.heap.size rfl (.tmp 48) (.tmp 49) 24 5 (.int .u8 0) 1 rfl Tryd.underlying24 info5 rfl (by decide) (by decide) (.slice A8 (M + 1) c8) B1 more A more.length c (fun _ => True) (fun _ => False) rfl rfl HV.out (HM.out _ HB.out) (fun _ _ h => h) (fun _ h => h.elim) (fun _ _ => trivial) HB.out HB.out.size ?aM ?_; (case aM => have := HML.out; omega); intro v1 wb ho hb hg hat; rw [← HB3.out.1] at ho; obtain ⟨A9, c9, rfl⟩ := Kd.R_slice ho; rw [HB3.out.2.1] at ho ⊢; have hm9 : M ≤ c9 := (by have h1 := (Kd.R_reads' ho).2.1; omega); have hRT := Kd.R_take (m := M) ho (by rw [HB3.out.2.1]; exact hMT); rw [hcut] at hRT; have RT := Aside0.mk hRT; have n1_ := Aside0.mk hb; have n2_ := Aside0.mk ho; clear HV HB ho hb hg hat hRT; have HB := n1_; have HV := n2_; clear n1_ n2_)
              | (go_at_call 12; with_reducible refine (HE.out _ (by repeat (first | exact HB.out | apply pw_below_drewN | apply below_drew1)) A9 c9 (by (with_reducible repeat (first | apply Kd.R_drewN | apply Kd.R_drew)); exact HV.out)).mono ?_; rintro e wn ⟨h9, hb⟩; simp only [exprA, if_neg hd] at h9; obtain ⟨A1, c1, rfl, hr⟩ := h9; have n0_ := Aside0.mk (show Below w.heap.size w wn from below_step (by repeat (first | exact HB.out | apply pw_below_drewN | apply below_drew1)) hb); have n1_ := Aside0.mk (Kd.R_below (show (Kd.int .u8).R 5 _ w.heap.size (fun _ => True) (.slice A9 T c9) B3 by (with_reducible repeat (first | apply Kd.R_drewN | apply Kd.R_drew)); exact HV.out) hb); have n2_ := Aside0.mk (Kd.R_below (show (Kd.int .u8).R 5 _ w.heap.size (fun _ => True) (.slice A9 M c9) B2 by (with_reducible repeat (first | apply Kd.R_drewN | apply Kd.R_drew)); exact RT.out) hb); have RL := Aside0.mk (Kd.R_lower hr (show w.heap.size ≤ _ from (show Below w.heap.size w _ by repeat (first | exact HB.out | apply pw_below_drewN | apply below_drew1)).size)); clear hr; clear HB HV RT hb; have HB := n0_; have HV := n1_; have RT := n2_; clear n0_ n1_ n2_)
              | (go_at_call 17; with_reducible refine (HS.out _ (by repeat (first | exact HB.out | apply pw_below_drewN | apply below_drew1)) A9 c9 (by (with_reducible repeat (first | apply Kd.R_drewN | apply Kd.R_drew)); exact HV.out)).mono ?_; rintro e wn ⟨h9, hb⟩; simp only [skipA] at h9; subst h9; have n0_ := Aside0.mk (show Below w.heap.size w wn from below_step (by repeat (first | exact HB.out | apply pw_below_drewN | apply below_drew1)) hb); have n1_ := Aside0.mk (Kd.R_below (show (Kd.int .u8).R 5 _ w.heap.size (fun _ => True) (.slice A9 T c9) B3 by (with_reducible repeat (first | apply Kd.R_drewN | apply Kd.R_drew)); exact HV.out) hb); have n2_ := Aside0.mk (Kd.R_below (show (Kd.int .u8).R 5 _ w.heap.size (fun _ => True) (.slice A9 M c9) B2 by (with_reducible repeat (first | apply Kd.R_drewN | apply Kd.R_drew)); exact RT.out) hb); have n3_ := Aside0.mk (Kd.R_below (show kI.R 43 _ w.heap.size (fun _ => True) (.slice A1 NL.length c1) NL by (with_reducible repeat (first | apply Kd.R_drewN | apply Kd.R_drew)); exact RL.out) hb); clear HB HV RT hb; have HB := n0_; have HV := n1_; have RT := n2_; clear n0_ n1_ n2_; clear RL; have RL := n3_; clear n3_)
              | (go_at_call 12; with_reducible refine (HX.out _ (by repeat (first | exact HB.out | apply pw_below_drewN | apply below_drew1)) A9 c9 (by (with_reducible repeat (first | apply Kd.R_drewN | apply Kd.R_drew)); exact RT.out)).mono ?_; rintro e wn ⟨h9, hb⟩; simp only [exprA] at h9; subst h9; have n0_ := Aside0.mk (show Below w.heap.size w wn from below_step (by repeat (first | exact HB.out | apply pw_below_drewN | apply below_drew1)) hb); have n1_ := Aside0.mk (Kd.R_below (show (Kd.int .u8).R 5 _ w.heap.size (fun _ => True) (.slice A9 T c9) B3 by (with_reducible repeat (first | apply Kd.R_drewN | apply Kd.R_drew)); exact HV.out) hb); have n2_ := Aside0.mk (Kd.R_below (show (Kd.int .u8).R 5 _ w.heap.size (fun _ => True) (.slice A9 M c9) B2 by (with_reducible repeat (first | apply Kd.R_drewN | apply Kd.R_drew)); exact RT.out) hb); have n3_ := Aside0.mk (Kd.R_below (show kI.R 43 _ w.heap.size (fun _ => True) (.slice A1 NL.length c1) NL by (with_reducible repeat (first | apply Kd.R_drewN | apply Kd.R_drew)); exact RL.out) hb); clear HB HV RT hb; have HB := n0_; have HV := n1_; have RT := n2_; clear n0_ n1_ n2_; clear RL; have RL := n3_; clear n3_)
              | (go_at_call 21; with_reducible refine (HDP.out _ A1 c1 (by (with_reducible repeat (first | apply Kd.R_drewN | apply Kd.R_drew)); exact RL.out)).mono ?_; rintro e wn ⟨rfl, hb⟩; have n0_ := Aside0.mk (show Below w.heap.size w wn from below_step (by repeat (first | exact HB.out | apply pw_below_drewN | apply below_drew1)) hb); have n3_ := Aside0.mk (Kd.R_below (show kI.R 43 _ w.heap.size (fun _ => True) (.slice A1 NL.length c1) NL by (with_reducible repeat (first | apply Kd.R_drewN | apply Kd.R_drew)); exact RL.out) hb); clear HB hb; have HB := n0_; clear n0_; clear RL; have RL := n3_; clear n3_)
              | (go_at_call 22; with_reducible refine (HCN.out _ A1 c1 (by (with_reducible repeat (first | apply Kd.R_drewN | apply Kd.R_drew)); exact RL.out)).mono ?_; rintro e wn ⟨rfl, hb⟩; have n0_ := Aside0.mk (show Below w.heap.size w wn from below_step (by repeat (first | exact HB.out | apply pw_below_drewN | apply below_drew1)) hb); have n3_ := Aside0.mk (Kd.R_below (show kI.R 43 _ w.heap.size (fun _ => True) (.slice A1 NL.length c1) NL by (with_reducible repeat (first | apply Kd.R_drewN | apply Kd.R_drew)); exact RL.out) hb); clear HB hb; have HB := n0_; clear n0_; clear RL; have RL := n3_; clear n3_)
              | (go_at_call 11; refine (HQ.out _ (by repeat (first | exact HB.out | apply pw_below_drewN | apply below_drew1))).mono ?_; rintro e wn ⟨rfl, hb⟩; have n0_ := Aside0.mk (show Below w.heap.size w wn from below_step (by repeat (first | exact HB.out | apply pw_below_drewN | apply below_drew1)) hb); clear HB hb; have HB := n0_; clear n0_))
            go_ret
            exact ⟨rfl, by repeat (first | exact HB.out | apply pw_below_drewN | apply below_drew1)⟩
end Go.Proofs.YtobldeamemmokaaDoor.P

