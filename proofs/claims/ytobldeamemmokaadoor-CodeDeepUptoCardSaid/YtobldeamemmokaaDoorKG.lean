import Derived.Test.YtobldeamemmokaaDoorKF
/-! code.Count, Depth, Datas: what each calls, and they. -/
namespace Go.Proofs.YtobldeamemmokaaDoor.P
open Go.RowKit Go.Proofs.YtobldeamemmokaaDoorW.PrintWords Go.Proofs.YtobldeamemmokaaDoorW.PrintLast Go.Proofs.YtobldeamemmokaaDoorW.PrintMore
set_option linter.unusedVariables false
set_option linter.unusedSimpArgs false
def oInt (n : Int) : Obj := .cells #[.int .i64 n] 3 (0, 0)
def oBool (b : Bool) : Obj := .cells #[.bool b] 4 (0, 0)
def sCount (n : Int) (_ : I) (_ : Int) : Int × Bool := (wrap64 (n + 1), true)
def sDepth (d : Int) (x : I) (deep : Int) : Int × Bool := (if isBlk x.op = true then max d (wrap64 (deep + 1)) else d, decide ((if isBlk x.op = true then max d (wrap64 (deep + 1)) else d) ≤ 1000))
theorem count1_calls (W w0 : World) (gn : Nat) (n : Int) (x : I) (deep : Int) (p : Value) (hB : Below w0.heap.size w0 W) (hg : W.heap[gn]? = some (oInt n)) (hn : w0.heap.size ≤ gn) :
    Calls Tryd.prog 38 #[p, .int .i64 deep, .pointer (some ⟨gn, 0, none⟩)] W fun e W' => e = .returned (.bool (sCount n x deep).2) ∧ W'.heap[gn]? = some (oInt (sCount n x deep).1) ∧ KeepBut W W' gn none ∧ Below w0.heap.size w0 W' := by
  have c0 : W.cell? ⟨gn, 0, none⟩ = some (.int .i64 n) := (blk_cell hg 0).trans rfl
  have f0 := blk_frozen hg 0
  have HG := Aside0.mk hg
  have HB := Aside0.mk hB
  have HN := Aside0.mk hn
  clear hg hB hn
  go_enter Tryd.func38, Tryd.ntmps38
  go_wp2
  go_ret
  exact ⟨rfl, blk_put HG.out 0 _ rfl, (KeepBut.refl W gn none).set_ 0 _, HB.out.setCell HN.out _⟩
theorem depth1_calls (W w0 : World) (gn : Nat) (d : Int) (x : I) (deep : Int) (ad : Addr) (cs : List Value) (hB : Below w0.heap.size w0 W) (hg : W.heap[gn]? = some (oInt d)) (hn : w0.heap.size ≤ gn) (hK : kI.K W x cs) (hc : ∀ j u, cs[j]? = some u → W.cell? (ad.add j) = some u) :
    Calls Tryd.prog 37 #[.pointer (some ad), .int .i64 deep, .pointer (some ⟨gn, 0, none⟩)] W fun e W' => e = .returned (.bool (sDepth d x deep).2) ∧ W'.heap[gn]? = some (oInt (sDepth d x deep).1) ∧ KeepBut W W' gn none ∧ Below w0.heap.size w0 W' := by
  have c0 : W.cell? ⟨gn, 0, none⟩ = some (.int .i64 d) := (blk_cell hg 0).trans rfl
  have f0 := blk_frozen hg 0
  obtain ⟨_, _, _, _, _, _, _, _, rfl, h16, _, _, _, _⟩ := kI_open hK
  have y0 : W.cell? (ad.add 0) = some (.int .u16 x.op) := hc 0 _ rfl
  have y0' : W.cell? ad = some (.int .u16 x.op) := y0
  have HG := Aside0.mk hg
  have HB := Aside0.mk hB
  have HN := Aside0.mk hn
  clear hg hB hn hK hc h16
  cases e1 : isBlk x.op
  · have ev : sDepth d x deep = (d, decide (d ≤ 1000)) := by simp [sDepth, e1]
    rw [ev]
    go_enter Tryd.func37, Tryd.ntmps37
    go_wp2_with (first
      | (go_at_call 30; refine (isBlock_calls _ _).mono ?_; rintro e w' ⟨rfl, rfl⟩; rw [e1]))
    go_ret
    exact ⟨rfl, HG.out, KeepBut.refl W gn none, HB.out⟩
  · by_cases hm : d < wrap64 (deep + 1)
    · have ev : sDepth d x deep = (wrap64 (deep + 1), decide (wrap64 (deep + 1) ≤ 1000)) := by simp [sDepth, e1, Int.max_eq_right (Int.le_of_lt hm)]
      rw [ev]
      go_enter Tryd.func37, Tryd.ntmps37
      go_wp2_with (first
        | (go_at_call 30; refine (isBlock_calls _ _).mono ?_; rintro e w' ⟨rfl, rfl⟩; rw [e1]))
      go_ret
      exact ⟨rfl, blk_put HG.out 0 _ rfl, (KeepBut.refl W gn none).set_ 0 _, HB.out.setCell HN.out _⟩
    · have ev : sDepth d x deep = (d, decide (d ≤ 1000)) := by simp [sDepth, e1, Int.max_eq_left (Int.not_lt.1 hm)]
      rw [ev]
      go_enter Tryd.func37, Tryd.ntmps37
      go_wp2_with (first
        | (go_at_call 30; refine (isBlock_calls _ _).mono ?_; rintro e w' ⟨rfl, rfl⟩; rw [e1]))
      go_ret
      exact ⟨rfl, blk_put HG.out 0 _ rfl, (KeepBut.refl W gn none).set_ 0 _, HB.out.setCell HN.out _⟩
section
variable (k : Nat) (A : Option Addr) (c : Nat) (l : List I) (w : World)
theorem Count_calls (hc : l.length ≤ c) (hl : kI.C w A l.length l) {r : Int} (h : eachL sCount k [⟨l, 0, 0⟩] 0 = some r) :
    Calls Tryd.prog 22 #[.slice A l.length c] w fun e w' => e = .returned (.int .i64 r) ∧ Below w.heap.size w w' := by
  have HC := Aside0.mk hc
  have HL := Aside0.mk hl
  have H := Aside0.mk h
  clear hc hl h
  go_enter Tryd.func22, Tryd.ntmps22
  go_wp2_with (first
    | (go_at_call 33; refine (each_calls 38 Tryd.f38 Tryd.func38 rfl rfl sCount w.heap.size oInt w (fun W s x deep ad cs h1 h2 h3 h4 => count1_calls W w _ s x deep _ h1 h2 (Nat.le_refl _)) k A c l 0 r _ ?b ?g HC.out HL.out H.out).mono ?_; (case b => repeat (first | exact Below.refl _ _ | apply below_alloc | refine below_set ?_ (Nat.le_refl _))); (case g => first | exact blk_put (blk_new _ _) 0 _ rfl | exact blk_new _ _); rintro e w' ⟨rfl, hg, hk, hb⟩; have c0 : w'.cell? ⟨w.heap.size, 0, none⟩ = some (.int .i64 r) := (blk_cell hg 0).trans rfl; have HB := Aside0.mk hb; clear hg hk hb))
  go_ret
  exact ⟨rfl, HB.out⟩
theorem Depth_calls (hc : l.length ≤ c) (hl : kI.C w A l.length l) {r : Int} (h : eachL sDepth k [⟨l, 0, 0⟩] 0 = some r) :
    Calls Tryd.prog 21 #[.slice A l.length c] w fun e w' => e = .returned (.int .i64 (min r 1001)) ∧ Below w.heap.size w w' := by
  have HC := Aside0.mk hc
  have HL := Aside0.mk hl
  have H := Aside0.mk h
  clear hc hl h
  by_cases hm : r ≤ 1001
  · rw [Int.min_eq_left hm]
    go_enter Tryd.func21, Tryd.ntmps21
    go_wp2_with (first
      | (go_at_call 33; refine (each_calls 37 Tryd.f37 Tryd.func37 rfl rfl sDepth w.heap.size oInt w (fun W s x deep ad cs h1 h2 h3 h4 => depth1_calls W w _ s x deep _ _ h1 h2 (Nat.le_refl _) h3 h4) k A c l 0 r _ ?b ?g HC.out HL.out H.out).mono ?_; (case b => repeat (first | exact Below.refl _ _ | apply below_alloc | refine below_set ?_ (Nat.le_refl _))); (case g => first | exact blk_put (blk_new _ _) 0 _ rfl | exact blk_new _ _); rintro e w' ⟨rfl, hg, hk, hb⟩; have c0 : w'.cell? ⟨w.heap.size, 0, none⟩ = some (.int .i64 r) := (blk_cell hg 0).trans rfl; have HB := Aside0.mk hb; clear hg hk hb))
    go_ret
    exact ⟨rfl, HB.out⟩
  · rw [Int.min_eq_right (Int.le_of_lt (Int.not_le.1 hm))]
    go_enter Tryd.func21, Tryd.ntmps21
    go_wp2_with (first
      | (go_at_call 33; refine (each_calls 37 Tryd.f37 Tryd.func37 rfl rfl sDepth w.heap.size oInt w (fun W s x deep ad cs h1 h2 h3 h4 => depth1_calls W w _ s x deep _ _ h1 h2 (Nat.le_refl _) h3 h4) k A c l 0 r _ ?b ?g HC.out HL.out H.out).mono ?_; (case b => repeat (first | exact Below.refl _ _ | apply below_alloc | refine below_set ?_ (Nat.le_refl _))); (case g => first | exact blk_put (blk_new _ _) 0 _ rfl | exact blk_new _ _); rintro e w' ⟨rfl, hg, hk, hb⟩; have c0 : w'.cell? ⟨w.heap.size, 0, none⟩ = some (.int .i64 r) := (blk_cell hg 0).trans rfl; have HB := Aside0.mk hb; clear hg hk hb))
    go_ret
    exact ⟨rfl, HB.out⟩
end
end Go.Proofs.YtobldeamemmokaaDoor.P

