import Derived.Test.YtobldeamemmokaaDoorLJ
/-! code.parse in general: the stack of open blocks, as memory holds it; whose lists' blocks are whose. -/
namespace Go.Proofs.YtobldeamemmokaaDoor.P
open Go.RowKit Go.Proofs.YtobldeamemmokaaDoorW.PrintWords Go.Proofs.YtobldeamemmokaaDoorW.PrintLast Go.Proofs.YtobldeamemmokaaDoorW.PrintMore
set_option linter.unusedVariables false
set_option linter.unusedSimpArgs false
/-- A row of 29 cells, whatever they are. -/
def kRaw : Kd (List Value) where
  sz := 29
  E := []
  K := fun _ x cs => cs = x ∧ x.length = 29 ∧ ∀ u ∈ x, u.oneCell' = true
  M := fun _ _ _ x cs => cs = x ∧ x.length = 29 ∧ ∀ u ∈ x, u.oneCell' = true
  K_len := fun h => by rw [h.1]; exact h.2.1
  K_one := fun h u hu => h.2.2 u (by rw [← h.1]; exact hu)
  K_below := fun _ h => h
  K_of_M := fun h => h
  M_mono := fun _ h => h
  M_bound := fun h => h
  M_move := fun _ h => h
  M_lower := fun _ h => h
theorem raw_move {W W1 : World} {base : Nat} {ok : Nat → Prop} {v : Value} {css : List (List Value)} (h : kRaw.R 89 W base ok v css) (hm : ∀ k, v.ownBlock = some k → W1.heap[k]? = W.heap[k]?) : kRaw.R 89 W1 base ok v css := by
  obtain ⟨h0, inner, ho, hr⟩ := h
  exact ⟨h0, inner, own_move ho hm, hr.imp_ (fun _ _ hp => hp)⟩
theorem raw_form {W : World} {base : Nat} {ok : Nat → Prop} {v : Value} {css : List (List Value)} (h : kRaw.R 89 W base ok v css) (hp : 0 < css.length) : ∃ gs cap cells, v = .slice (some ⟨gs, 0, none⟩) css.length cap ∧ css.length ≤ cap ∧ base ≤ gs ∧ W.heap[gs]? = some (.cells cells 89 (0, 0)) ∧ css.length ≤ 9223372036854775807 := by
  obtain ⟨gs, cap, rfl, hb, hlt, cells, hc⟩ := Kd.R_form h hp
  exact ⟨gs, cap, cells, rfl, (Kd.R_reads' h).2.1, hb, hc, Kd.C_max (Kd.R_reads' h).2.2⟩
theorem raw_elem {W : World} {base : Nat} {ok : Nat → Prop} {gs n cap : Nat} {css : List (List Value)} (h : kRaw.R 89 W base ok (.slice (some ⟨gs, 0, none⟩) n cap) css) {m : Nat} {c : List Value} (hm : css[m]? = some c) :
    c.length = 29 ∧ (∀ u ∈ c, u.oneCell' = true) ∧ ∀ j u, c[j]? = some u → W.cell? ⟨gs, m * 29 + j, none⟩ = some u := by
  have hn := (Kd.R_reads' h).1
  have hlt := (List.getElem?_eq_some_iff.1 hm).1
  obtain ⟨c', hl, hM, hcc, _⟩ := Kd.R_elem h [] (m : Int) (by omega) (by omega)
  rw [Int.toNat_natCast] at hM hcc
  have e : css.getD m [] = c := by rw [List.getD_eq_getElem?_getD, hm]; rfl
  rw [e] at hM
  obtain ⟨rfl, h2, h3⟩ := hM
  exact ⟨h2, h3, hcc⟩
theorem raw_in {W : World} {base : Nat} {ok : Nat → Prop} {gs n cap : Nat} {css : List (List Value)} (h : kRaw.R 89 W base ok (.slice (some ⟨gs, 0, none⟩) n cap) css) {m j : Nat} {c : List Value} (hm : css[m]? = some c) (hj : j < 29) {cells : Array Value} (hb : W.heap[gs]? = some (.cells cells 89 (0, 0))) : m * 29 + j < cells.size := by
  obtain ⟨h1, _, h3⟩ := raw_elem h hm
  have h4 := h3 j _ (List.getElem?_eq_getElem (by omega))
  rw [blk_cell hb] at h4
  exact (Array.getElem?_eq_some_iff.1 h4).1
theorem raw_set {W W1 : World} {base : Nat} {ok : Nat → Prop} {gs n cap : Nat} {css : List (List Value)} (h : kRaw.R 89 W base ok (.slice (some ⟨gs, 0, none⟩) n cap) css) {m j : Nat} {c : List Value} (hm : css[m]? = some c) (hj : j < 29) {u : Value} (hu : u.oneCell' = true) {cells : Array Value} (hb : W.heap[gs]? = some (.cells cells 89 (0, 0)))
    (h1 : W1.heap[gs]? = some (.cells (cells.setIfInBounds (m * 29 + j) u) 89 (0, 0))) : kRaw.R 89 W1 base ok (.slice (some ⟨gs, 0, none⟩) n cap) (css.set m (c.set j u)) := by
  obtain ⟨hl, h2, h3⟩ := raw_elem h hm
  have hn := (Kd.R_reads' h).1
  have hlt := (List.getElem?_eq_some_iff.1 hm).1
  have e : c.take j ++ [u] ++ c.drop (j + [u].length) = c.set j u := by
    rw [List.set_eq_take_append_cons_drop, if_pos (by omega), List.append_assoc]
    rfl
  have hR := (Kd.R_seg (i := (m : Int)) (j := j) (seg := [u]) (x' := c.set j u) (c := c) (okp := fun _ => False) h (by omega) (by omega) hl (by rw [Int.toNat_natCast]; exact h3) (show j + 1 ≤ 29 by omega) (by
    rw [e]
    exact ⟨rfl, by rw [List.length_set, hl], fun q hq => by rcases List.mem_or_eq_of_mem_set hq with hq | rfl; exact h2 q hq; exact hu⟩) (fun _ hk => hk.elim)).1
  rw [Int.toNat_natCast] at hR
  refine raw_move hR (fun k hk => ?_)
  obtain rfl : gs = k := by simpa [Value.ownBlock] using hk
  rw [h1]
  exact (blk_set hb (m * 29 + j) u).symm
/-- An open block, as parse holds it. -/
structure O_ where
  x : I
  l : List I
  e : Bool
/-- What an open block's row holds: the lists' blocks are its own. -/
def LevO (W : World) (base : Nat) (own : Nat → Nat) (j : Nat) (o : O_) (cs : List Value) : Prop :=
  ∃ vb v, cs = openC o.x (.slice none 0 0) (.slice none 0 0) vb (.slice none 0 0) v o.e ∧ o.x.v.length = 16 ∧ o.x.l = [] ∧ o.x.t = [] ∧ o.x.els = [] ∧ kI.R 43 W base (fun k => own k = 2 * j) vb o.x.body ∧ kI.R 43 W base (fun k => own k = 2 * j + 1) v o.l
def StkO (W : World) (base : Nat) (own : Nat → Nat) : List O_ → List (List Value) → Prop
  | [], css => css = []
  | o :: os, css => ∃ cs0 c, css = cs0 ++ [c] ∧ LevO W base own os.length o c ∧ StkO W base own os cs0
theorem R_own' {W W1 : World} {base : Nat} {v : Value} {l : List I} {ok ok' : Nat → Prop} (h : kI.R 43 W base ok v l)
    (hm : ∀ k, ok k → base ≤ k → k < W.heap.size → (∃ q, q ∈ 43 :: kI.E ∧ ∃ cells, W.heap[k]? = some (.cells cells q (0, 0))) → W1.heap[k]? = W.heap[k]? ∧ ok' k) : kI.R 43 W1 base ok' v l :=
  Kd.R_mono (Kd.R_move (Kd.R_bound h) (fun k hk => (hm k hk.1 hk.2.1 hk.2.2.1 hk.2.2.2).1)) (fun k hk => (hm k hk.1 hk.2.1 hk.2.2.1 hk.2.2.2).2)
theorem LevO.move {W W1 : World} {base : Nat} {own own' : Nat → Nat} {j : Nat} {o : O_} {cs : List Value} (h : LevO W base own j o cs)
    (hm : ∀ k, own k = 2 * j ∨ own k = 2 * j + 1 → base ≤ k → k < W.heap.size → (∃ q, q ∈ 43 :: kI.E ∧ ∃ cells, W.heap[k]? = some (.cells cells q (0, 0))) → W1.heap[k]? = W.heap[k]? ∧ own' k = own k) : LevO W1 base own' j o cs := by
  obtain ⟨vb, v, rfl, h16, hl, ht, he, hb, hr⟩ := h
  refine ⟨vb, v, rfl, h16, hl, ht, he, ?_, ?_⟩
  · refine R_own' hb (fun k hk h1 h2 h3 => ?_)
    obtain ⟨q1, q2⟩ := hm k (.inl hk) h1 h2 h3
    exact ⟨q1, by rw [q2]; exact hk⟩
  · refine R_own' hr (fun k hk h1 h2 h3 => ?_)
    obtain ⟨q1, q2⟩ := hm k (.inr hk) h1 h2 h3
    exact ⟨q1, by rw [q2]; exact hk⟩
theorem StkO.move {W W1 : World} {base : Nat} {own own' : Nat → Nat} : ∀ {os : List O_} {css : List (List Value)}, StkO W base own os css →
    (∀ k, own k < 2 * os.length → base ≤ k → k < W.heap.size → (∃ q, q ∈ 43 :: kI.E ∧ ∃ cells, W.heap[k]? = some (.cells cells q (0, 0))) → W1.heap[k]? = W.heap[k]? ∧ own' k = own k) → StkO W1 base own' os css
  | [], _, h, _ => h
  | o :: os, _, ⟨cs0, c, h1, h2, h3⟩, hm => ⟨cs0, c, h1, h2.move (fun k hk => hm k (by rw [List.length_cons]; omega)), h3.move (fun k hk => hm k (by rw [List.length_cons]; omega))⟩
theorem StkO.len {W : World} {base : Nat} {own : Nat → Nat} : ∀ {os : List O_} {css : List (List Value)}, StkO W base own os css → css.length = os.length
  | [], _, h => by rw [show _ = [] from h]; rfl
  | o :: os, _, ⟨cs0, c, h1, h2, h3⟩ => by rw [h1, List.length_append, h3.len]; rfl
theorem openC_one {W : World} {o : O_} {vb v : Value} {base : Nat} {ok ok' : Nat → Prop} (h16 : o.x.v.length = 16) (hb : kI.R 43 W base ok vb o.x.body) (hr : kI.R 43 W base ok' v o.l) : ∀ u ∈ openC o.x (.slice none 0 0) (.slice none 0 0) vb (.slice none 0 0) v o.e, u.oneCell' = true := by
  obtain ⟨A1, c1, rfl⟩ := Kd.R_slice hb
  obtain ⟨A2, c2, rfl⟩ := Kd.R_slice hr
  intro u hu
  simp only [openC, cellsI, List.mem_append, List.mem_cons, List.not_mem_nil, or_false, encs, List.mem_map] at hu
  rcases hu with (rfl | rfl | rfl | rfl | ⟨z, _, rfl⟩ | rfl | rfl | rfl | rfl | rfl | rfl | rfl) | rfl | rfl <;> rfl
theorem LevO.raw {W : World} {base : Nat} {own : Nat → Nat} {j : Nat} {o : O_} {cs : List Value} (h : LevO W base own j o cs) : cs.length = 29 ∧ ∀ u ∈ cs, u.oneCell' = true := by
  obtain ⟨vb, v, rfl, h16, hl, ht, he, hb, hr⟩ := h
  exact ⟨openC_len _ h16 _ _ _ _ _ _, openC_one h16 hb hr⟩
/-- What parse holds at the head of its loop; loc: its own variables' blocks. -/
def PG (w W : World) (gg gr : Nat) (A : Option Addr) (c : Nat) (b : List Int) (vs : Value) (css : List (List Value)) (at_ : Int) (bad : Bool) (d : Int) (ds : Bool) (own : Nat → Nat) (os : List O_) (loc : List Nat) : Prop :=
  W.heap[gg]? = some (oGot (.slice none 0 0) 0 d ds) ∧ W.heap[gr]? = some (oRd A c b at_ bad) ∧ kRaw.R 89 W w.heap.size (fun _ => True) vs css ∧ StkO W w.heap.size own os css ∧ Below w.heap.size w W ∧
  ∀ g, g ∈ loc → 2 * os.length ≤ own g ∧ g ≠ gg ∧ g ≠ gr ∧ some g ≠ vs.ownBlock ∧ w.heap.size ≤ g ∧ g < W.heap.size
section
variable {w W W1 : World} {gg gr : Nat} {A : Option Addr} {c : Nat} {b : List Int} {vs : Value} {css : List (List Value)} {at_ d : Int} {bad ds : Bool} {own : Nat → Nat} {os : List O_} {loc : List Nat}
theorem PG.bel (h : PG w W gg gr A c b vs css at_ bad d ds own os loc) : Below w.heap.size w W := h.2.2.2.2.1
theorem PG.rd (h : PG w W gg gr A c b vs css at_ bad d ds own os loc) : W.heap[gr]? = some (oRd A c b at_ bad) := h.2.1
theorem PG.got (h : PG w W gg gr A c b vs css at_ bad d ds own os loc) : W.heap[gg]? = some (oGot (.slice none 0 0) 0 d ds) := h.1
theorem PG.raw (h : PG w W gg gr A c b vs css at_ bad d ds own os loc) : kRaw.R 89 W w.heap.size (fun _ => True) vs css := h.2.2.1
theorem PG.stk (h : PG w W gg gr A c b vs css at_ bad d ds own os loc) : StkO W w.heap.size own os css := h.2.2.2.1
theorem PG.below (h : PG w W gg gr A c b vs css at_ bad d ds own os loc) (hb : Below W.heap.size W W1) : PG w W1 gg gr A c b vs css at_ bad d ds own os loc :=
  ⟨(hb.block _ (Array.getElem?_eq_some_iff.1 h.1).1).trans h.1, (hb.block _ (Array.getElem?_eq_some_iff.1 h.2.1).1).trans h.2.1, Kd.R_below h.2.2.1 hb, h.2.2.2.1.move (fun k _ _ hk _ => ⟨hb.block k hk, rfl⟩), below_step h.bel hb, fun g hg => by have h1 := h.2.2.2.2.2 g hg; have h2 := hb.size; exact ⟨h1.1, h1.2.1, h1.2.2.1, h1.2.2.2.1, h1.2.2.2.2.1, by omega⟩⟩
theorem PG.drewN (h : PG w W gg gr A c b vs css at_ bad d ds own os loc) (m : Nat) : PG w (W.drewN m) gg gr A c b vs css at_ bad d ds own os loc := h.below (pw_below_drewN (Below.refl _ _) m)
theorem PG.drew (h : PG w W gg gr A c b vs css at_ bad d ds own os loc) : PG w W.drew gg gr A c b vs css at_ bad d ds own os loc := h.below (below_drew1 (Below.refl _ _))
/-- A variable of the call's own. -/
theorem PG.alloc (h : PG w W gg gr A c b vs css at_ bad d ds own os loc) (hb : Below W.heap.size W W1) {g : Nat} (hg : g = W.heap.size) (hlt : g < W1.heap.size) : ∃ own', PG w W1 gg gr A c b vs css at_ bad d ds own' os (g :: loc) := by
  have h2 := h.below hb
  have k1 := (Array.getElem?_eq_some_iff.1 h.1).1
  have k2 := (Array.getElem?_eq_some_iff.1 h.2.1).1
  have k3 : ∀ k, vs.ownBlock = some k → k < W.heap.size := Kd.R_lt h.2.2.1
  refine ⟨fun k => if k = g then 2 * os.length else own k, h2.1, h2.2.1, h2.2.2.1, ?_, h2.bel, ?_⟩
  · refine h.2.2.2.1.move (fun k _ _ hk _ => ⟨hb.block k hk, if_neg (by omega)⟩)
  · intro k hk
    rcases List.mem_cons.1 hk with rfl | hk
    · exact ⟨by simp, by omega, by omega, fun e => by have := k3 _ e.symm; omega, by have := h.bel.size; omega, hlt⟩
    · have h3 := h2.2.2.2.2.2 k hk
      have h4 := h.2.2.2.2.2 k hk
      exact ⟨by show 2 * os.length ≤ (if _ then _ else _); rw [if_neg (by omega)]; exact h3.1, h3.2⟩
/-- A store in a variable of the call's own. -/
theorem PG.store (h : PG w W gg gr A c b vs css at_ bad d ds own os loc) {g : Nat} (hg : g ∈ loc) (ho : ∀ k, k ≠ g → W1.heap[k]? = W.heap[k]?) (hs : W1.heap.size = W.heap.size) (hbel : ∀ B (w0 : World), B ≤ g → Below B w0 W → Below B w0 W1) : PG w W1 gg gr A c b vs css at_ bad d ds own os loc := by
  obtain ⟨q1, q2, q3, q4, q5, q6⟩ := h.2.2.2.2.2 g hg
  refine ⟨(ho _ (Ne.symm q2)).trans h.1, (ho _ (Ne.symm q3)).trans h.2.1, raw_move h.2.2.1 (fun k hk => ho k (fun e => q4 (by rw [← e]; exact hk.symm))), h.2.2.2.1.move (fun k hk _ _ _ => ⟨ho k (fun e => by rw [e] at hk; omega), rfl⟩), hbel _ _ q5 h.bel, fun k hk => by rw [hs]; exact h.2.2.2.2.2 k hk⟩
/-- A call that turns the reader alone (and, may be, one of the variables). -/
theorem PG.call (h : PG w W gg gr A c b vs css at_ bad d ds own os loc) {at1 : Int} {bad1 : Bool} (hne : gg ≠ gr) (h1 : W1.heap[gr]? = some (oRd A c b at1 bad1)) {row : Option Nat} (hrow : row = none ∨ ∃ g, row = some g ∧ g ∈ loc) (hk : KeepBut W W1 gr row) (hb : Below w.heap.size w W1) : PG w W1 gg gr A c b vs css at1 bad1 d ds own os loc := by
  have hr : ∀ g, g ∈ loc → 2 * os.length ≤ own g ∧ g ≠ gg ∧ g ≠ gr ∧ some g ≠ vs.ownBlock ∧ w.heap.size ≤ g ∧ g < W.heap.size := h.2.2.2.2.2
  refine ⟨(hk.2 gg (Array.getElem?_eq_some_iff.1 h.1).1 hne ?_).trans h.1, h1, raw_move h.2.2.1 (fun k hv => hk.2 k (Kd.R_lt h.2.2.1 k hv) ?_ ?_), h.2.2.2.1.move (fun k ho hk1 hk2 hk3 => ⟨hk.2 k hk2 ?_ ?_, rfl⟩), hb, fun g hg => ?_⟩
  · rcases hrow with rfl | ⟨g, rfl, hg⟩
    · simp
    · intro e; exact (hr g hg).2.1 (Option.some.inj e).symm
  · intro e
    obtain ⟨inner, ho⟩ := Kd.R_own h.2.2.1
    obtain ⟨cells, hc⟩ := own_typed ho k hv
    rw [e, h.2.1] at hc
    simp [oRd] at hc
  · rcases hrow with rfl | ⟨g, rfl, hg⟩
    · simp
    · intro e; exact (hr g hg).2.2.2.1 (by rw [← e, hv])
  · intro e
    obtain ⟨q, hq, cells, hc⟩ := hk3
    rw [e, h.2.1] at hc
    simp only [oRd, Option.some.injEq, Obj.cells.injEq] at hc
    obtain ⟨_, rfl, _⟩ := hc
    revert hq
    decide
  · rcases hrow with rfl | ⟨g, rfl, hg⟩
    · simp
    · intro e
      have h9 := (hr g hg).1
      rw [← Option.some.inj e] at h9
      omega
  · obtain ⟨a1, a2, a3, a4, a5, a6⟩ := hr g hg
    exact ⟨a1, a2, a3, a4, a5, by have := hk.1; omega⟩
/-- What was read so far is written anew. -/
theorem PG.gotten (h : PG w W gg gr A c b vs css at_ bad d ds own os loc) {d1 : Int} {ds1 : Bool} (hne : gg ≠ gr) (h1 : W1.heap[gg]? = some (oGot (.slice none 0 0) 0 d1 ds1)) (ho : ∀ k, k ≠ gg → W1.heap[k]? = W.heap[k]?) (hs : W1.heap.size = W.heap.size) (hb : Below w.heap.size w W1) : PG w W1 gg gr A c b vs css at_ bad d1 ds1 own os loc := by
  refine ⟨h1, (ho _ (Ne.symm hne)).trans h.2.1, raw_move h.2.2.1 (fun k hv => ho k ?_), h.2.2.2.1.move (fun k _ hk1 hk2 hk3 => ⟨ho k ?_, rfl⟩), hb, fun g hg => by rw [hs]; exact h.2.2.2.2.2 g hg⟩
  · intro e
    obtain ⟨inner, ho⟩ := Kd.R_own h.2.2.1
    obtain ⟨cells, hc⟩ := own_typed ho k hv
    rw [e, h.1] at hc
    simp [oGot] at hc
  · intro e
    obtain ⟨q, hq, cells, hc⟩ := hk3
    rw [e, h.1] at hc
    simp only [oGot, Option.some.injEq, Obj.cells.injEq] at hc
    obtain ⟨_, rfl, _⟩ := hc
    revert hq
    decide
end
end Go.Proofs.YtobldeamemmokaaDoor.P

/-! What parse reads, as a function: the stack's top is the list's head. -/
namespace Go.Proofs.YtobldeamemmokaaDoor.P
open Go.RowKit Go.Proofs.YtobldeamemmokaaDoorW.PrintWords Go.Proofs.YtobldeamemmokaaDoorW.PrintLast Go.Proofs.YtobldeamemmokaaDoorW.PrintMore
set_option linter.unusedVariables false
set_option linter.unusedSimpArgs false
/-- An instruction's number, what stands behind it, the place behind, whether it is none. -/
def opF (K : Nat) (b : List Int) (at_ : Int) : Option (Int × Int × Int × Bool) :=
  if 0 ≤ rd b at_ ∧ rd b at_ < 252 ∧ rd b at_ ≠ 5 then (ops_Of.f K (rd b at_)).bind fun r => if r.2.2.2.2.2.2.2 = 0 then some (r.1, r.2.2.1, at_ + 1, false) else none else none
/-- A block's type. -/
def blockF (b : List Int) (at_ : Int) (bad : Bool) : Option (Int × Int × Int × Int × Bool) :=
  if bad = false ∧ at_ < b.length ∧ rd b at_ = 64 then some (0, 0, 0, at_ + 1, false) else none
/-- What stands behind an instruction. -/
def immF (b : List Int) (at_ : Int) (bad : Bool) (im o : Int) : Option (I × Int × Bool) := none
def closeI (o : O_) : I := if o.e = true then { o.x with els := o.l } else { o.x with body := o.l }
def zO : O_ := ⟨zI, [], false⟩
def pRun (K : Nat) (b : List Int) : Nat → List O_ → Int → Int → Bool → Option (Option (List I × Int × Int × Bool))
  | 0, _, _, _, _ => none
  | _ + 1, [], _, _, _ => none
  | k + 1, o :: os, at_, d, ds =>
    if at_ < b.length then (if os.length < 1000000000 ∧ o.l.length < 1000000000 then
      (if rd b at_ = 11 then
        (match os with
        | [] => some (some (o.l, at_ + 1, d, ds))
        | p :: ps => if p.l.length < 1000000000 then pRun K b k (⟨p.x, p.l ++ [closeI o], p.e⟩ :: ps) (at_ + 1) d ds else none)
      else (opF K b at_).bind fun r => if r.2.1 = 1 then
          (blockF b r.2.2.1 r.2.2.2).bind fun q => if q.2.2.2.2 = true then some none else pRun K b k (⟨{ zI with op := r.1, bk := q.1, bv := q.2.1, bt := q.2.2.1 }, [], false⟩ :: o :: os) q.2.2.2.1 (max d (os.length + 1)) ds
        else (immF b r.2.2.1 r.2.2.2 r.2.1 r.1).bind fun q => if q.2.2 = true then some none else pRun K b k (⟨o.x, o.l ++ [q.1], o.e⟩ :: os) q.2.1 d (ds || (r.2.1 == 12 || r.2.1 == 13))) else none)
    else some none
theorem pRun_cons (K : Nat) (b : List Int) (k : Nat) (o : O_) (os : List O_) (at_ d : Int) (ds : Bool) : pRun K b (k + 1) (o :: os) at_ d ds =
    if at_ < b.length then (if os.length < 1000000000 ∧ o.l.length < 1000000000 then
      (if rd b at_ = 11 then
        (match os with
        | [] => some (some (o.l, at_ + 1, d, ds))
        | p :: ps => if p.l.length < 1000000000 then pRun K b k (⟨p.x, p.l ++ [closeI o], p.e⟩ :: ps) (at_ + 1) d ds else none)
      else (opF K b at_).bind fun r => if r.2.1 = 1 then
          (blockF b r.2.2.1 r.2.2.2).bind fun q => if q.2.2.2.2 = true then some none else pRun K b k (⟨{ zI with op := r.1, bk := q.1, bv := q.2.1, bt := q.2.2.1 }, [], false⟩ :: o :: os) q.2.2.2.1 (max d (os.length + 1)) ds
        else (immF b r.2.2.1 r.2.2.2 r.2.1 r.1).bind fun q => if q.2.2 = true then some none else pRun K b k (⟨o.x, o.l ++ [q.1], o.e⟩ :: os) q.2.1 d (ds || (r.2.1 == 12 || r.2.1 == 13))) else none)
    else some none := rfl
end Go.Proofs.YtobldeamemmokaaDoor.P

/-! code.got.close, of a block that is not the expression itself. -/
namespace Go.Proofs.YtobldeamemmokaaDoor.P
open Go.RowKit Go.Proofs.YtobldeamemmokaaDoorW.PrintWords Go.Proofs.YtobldeamemmokaaDoorW.PrintLast Go.Proofs.YtobldeamemmokaaDoorW.PrintMore
set_option linter.unusedVariables false
set_option linter.unusedSimpArgs false
section
variable {P : Program} {md : Region.Mode} {ops : Array Oper} {Q : Exit → Act → World → Prop} {S : World → Prop} {ds : List Nat}
theorem twoL_ {i j : Nat} {Ni Nj : Option Tmp} {oi oj : Oper} {fuel : Nat} {l : Array Bool} {a : Act} {w : World} (li lj : Array Bool) (hi : ops[i]? = some oi) (hj : ops[j]? = some oj) (hNi : oi.dst = Ni) (hNj : oj.dst = Nj)
    (hc : (Region.ready md ops l == [i, j] && l.setIfInBounds i true == li && l.setIfInBounds j true == lj) = true) (hdi : i ∈ ds) (hdj : j ∈ ds)
    (h1 : ∀ K : Act → World → Prop, Shut (∀ a' w', wpAnyLast P md ops Q S ds fuel li a' w' → K a' w') → if Region.wanted oi (yielded ops a.tmps) = true then Oper.wp P oi a w K Q else K (a.put Ni undef) w)
    (h2 : ∀ K : Act → World → Prop, Shut (∀ a' w', wpAnyLast P md ops Q S ds fuel lj a' w' → K a' w') → if Region.wanted oj (yielded ops a.tmps) = true then Oper.wp P oj a w K Q else K (a.put Nj undef) w) :
    wpAnyLast P md ops Q S ds (fuel + 1) l a w := by
  subst hNi
  subst hNj
  simp only [Bool.and_eq_true, beq_iff_eq] at hc
  obtain ⟨⟨h3, h4⟩, h5⟩ := hc
  subst h4
  subst h5
  exact wpAnyLast_ready h3 (by simp) (AllReadyL.cons_last hi hdi (fun K hK => h1 K hK) (AllReadyL.cons_last hj hdj (fun K hK => h2 K hK) AllReadyL.nil))
end
theorem closeI_cells (o : O_) (vl vt vb ve : Value) : cellsI (closeI o) vl vt vb ve = cellsI o.x vl vt vb ve := by
  unfold closeI
  split <;> rfl
theorem openC_setbe (x : I) (h : x.v.length = 16) (vl vt vb ve v u : Value) (e : Bool) : (openC x vl vt vb ve v e).toArray.setIfInBounds 25 u = (openC x vl vt u ve v e).toArray ∧ (openC x vl vt vb ve v e).toArray.setIfInBounds 26 u = (openC x vl vt vb u v e).toArray := by
  have hl := cellsI_len x h vl vt vb ve
  have h2 := cellsI_set x h vl vt vb ve u
  simp only [List.setIfInBounds_toArray] at h2
  have e1 := congrArg Array.toList h2.2.2.1
  have e2 := congrArg Array.toList h2.2.2.2
  simp only [List.setIfInBounds_toArray, openC]
  rw [List.set_append_left _ _ (by omega), List.set_append_left _ _ (by omega)]
  have e1' : (cellsI x vl vt vb ve).set 25 u = cellsI x vl vt u ve := e1
  have e2' : (cellsI x vl vt vb ve).set 26 u = cellsI x vl vt vb u := e2
  rw [e1', e2']
  exact ⟨rfl, rfl⟩
/-- A list's last is written. -/
theorem kI_put {W : World} {base gv n cv : Nat} {ok okp : Nat → Prop} {l : List I} {y x : I} {vl vt vb ve : Value} (h : kI.R 43 W base ok (.slice (some ⟨gv, 0, none⟩) n cv) (l ++ [y])) (hM : kI.M W base okp x (cellsI x vl vt vb ve)) (hokp : ∀ k, okp k → ok k ∧ k ≠ gv) (h16 : x.v.length = 16) :
    W.there gv (l.length * 27) (cellsI x vl vt vb ve).toArray.size ∧ kI.R 43 (W.setCells gv (l.length * 27) (cellsI x vl vt vb ve)) base ok (.slice (some ⟨gv, 0, none⟩) n cv) (l ++ [x]) := by
  have hn := (Kd.R_reads' h).1
  rw [List.length_append, List.length_singleton] at hn
  have hxl := cellsI_len x h16 vl vt vb ve
  obtain ⟨cs, hcl, _, hcc, hff⟩ := Kd.R_elem h zI (l.length : Int) (by omega) (by omega)
  rw [Int.toNat_natCast] at hcc hff
  have hcl2 : cs.length = 27 := hcl
  have hR := (Kd.R_seg (i := (l.length : Int)) (j := 0) (seg := cellsI x vl vt vb ve) (x' := x) (okp := okp) h (by omega) (by omega) hcl (by rw [Int.toNat_natCast]; exact hcc) (by rw [hxl]; exact (show 0 + 27 ≤ 27 by decide)) (by
    have e2 : cs.drop (0 + (cellsI x vl vt vb ve).length) = [] := List.drop_eq_nil_of_le (by rw [hcl2, hxl]; exact Nat.le_refl _)
    rw [e2, List.take_zero, List.nil_append, List.append_nil]
    exact hM) hokp).1
  rw [Int.toNat_natCast] at hR
  have e3 : (l ++ [y]).set l.length x = l ++ [x] := by
    rw [List.set_append_right _ _ (Nat.le_refl _), Nat.sub_self]
    rfl
  rw [e3] at hR
  refine ⟨fun j hj => ⟨?_, hff j⟩, hR⟩
  rw [List.size_toArray, hxl] at hj
  have h9 := hcc j _ (List.getElem?_eq_getElem (show j < cs.length by omega))
  have h8 : W.cell? ⟨gv, l.length * 27 + j, none⟩ = some cs[j] := h9
  rw [h8]
  rfl
/-- What close holds: the two uppermost blocks apart. -/
structure CQ (w W : World) (gg gr gs : Nat) (A : Option Addr) (c : Nat) (b : List Int) (at_ : Int) (bad : Bool) (d : Int) (ds : Bool) (n cap : Nat) (css : List (List Value)) (own : Nat → Nat) (o p : O_) (ps : List O_) (cs0 : List (List Value)) (vb v vbp vp : Value) (lp : List I) (loc : List Nat) : Prop where
  got : W.heap[gg]? = some (oGot (.slice none 0 0) 0 d ds)
  rd : W.heap[gr]? = some (oRd A c b at_ bad)
  raw : kRaw.R 89 W w.heap.size (fun _ => True) (.slice (some ⟨gs, 0, none⟩) n cap) css
  stk : StkO W w.heap.size own ps cs0
  rbp : kI.R 43 W w.heap.size (fun k => own k = 2 * ps.length) vbp p.x.body
  rp : kI.R 43 W w.heap.size (fun k => own k = 2 * ps.length + 1 ∨ own k = 2 * ps.length + 2 ∨ own k = 2 * ps.length + 3) vp lp
  hp : ∀ k, vp.ownBlock = some k → own k = 2 * ps.length + 1
  rb : kI.R 43 W w.heap.size (fun k => own k = 2 * ps.length + 2) vb o.x.body
  rv : kI.R 43 W w.heap.size (fun k => own k = 2 * ps.length + 3) v o.l
  bel : Below w.heap.size w W
  loc : ∀ g, g ∈ loc → 2 * ps.length + 4 ≤ own g ∧ g ≠ gg ∧ g ≠ gr ∧ g ≠ gs ∧ w.heap.size ≤ g ∧ g < W.heap.size
def TyI (W : World) (k : Nat) : Prop := ∃ q, q ∈ 43 :: kI.E ∧ ∃ cells, W.heap[k]? = some (.cells cells q (0, 0))
theorem TyI.ne {W : World} {k g : Nat} {t : TypeId} {cs : Array Value} (h : TyI W k) (hg : W.heap[g]? = some (.cells cs t (0, 0))) (ht : t ∉ 43 :: kI.E) : k ≠ g := by
  rintro rfl
  obtain ⟨q, hq, cells, hc⟩ := h
  rw [hg] at hc
  simp only [Option.some.injEq, Obj.cells.injEq] at hc
  obtain ⟨_, rfl, _⟩ := hc
  exact ht hq
section
variable {w W W1 : World} {gg gr gs : Nat} {A : Option Addr} {c : Nat} {b : List Int} {at_ : Int} {bad : Bool} {d : Int} {ds : Bool} {n cap : Nat} {css : List (List Value)} {own : Nat → Nat} {o p : O_} {ps : List O_} {cs0 : List (List Value)} {vb v vbp vp : Value} {lp : List I} {loc : List Nat}
theorem CQ.gsb (h : CQ w W gg gr gs A c b at_ bad d ds n cap css own o p ps cs0 vb v vbp vp lp loc) : ∃ cells, W.heap[gs]? = some (.cells cells 89 (0, 0)) := by
  obtain ⟨inner, ho⟩ := Kd.R_own h.raw
  exact own_typed ho gs (by simp [Value.ownBlock])
/-- Whatever keeps its blocks. -/
theorem CQ.step (h : CQ w W gg gr gs A c b at_ bad d ds n cap css own o p ps cs0 vb v vbp vp lp loc) (hm : ∀ k, k < W.heap.size → (k = gg ∨ k = gr ∨ k = gs ∨ (own k < 2 * ps.length + 4 ∧ TyI W k)) → W1.heap[k]? = W.heap[k]?) (hb : Below w.heap.size w W1) (hs : W.heap.size ≤ W1.heap.size) : CQ w W1 gg gr gs A c b at_ bad d ds n cap css own o p ps cs0 vb v vbp vp lp loc := by
  obtain ⟨cells, hc⟩ := h.gsb
  exact ⟨(hm gg (blk_lt h.got) (.inl rfl)).trans h.got, (hm gr (blk_lt h.rd) (.inr (.inl rfl))).trans h.rd,
    raw_move h.raw (fun k hk => by obtain rfl : gs = k := by simpa [Value.ownBlock] using hk
                                   exact hm gs (blk_lt hc) (.inr (.inr (.inl rfl)))),
    h.stk.move (fun k h1 _ h3 h4 => ⟨hm k h3 (.inr (.inr (.inr ⟨by omega, h4⟩))), rfl⟩),
    R_own' h.rbp (fun k h1 _ h3 h4 => ⟨hm k h3 (.inr (.inr (.inr ⟨by omega, h4⟩))), h1⟩),
    R_own' h.rp (fun k h1 _ h3 h4 => ⟨hm k h3 (.inr (.inr (.inr ⟨by omega, h4⟩))), h1⟩), h.hp,
    R_own' h.rb (fun k h1 _ h3 h4 => ⟨hm k h3 (.inr (.inr (.inr ⟨by omega, h4⟩))), h1⟩),
    R_own' h.rv (fun k h1 _ h3 h4 => ⟨hm k h3 (.inr (.inr (.inr ⟨by omega, h4⟩))), h1⟩), hb,
    fun g hg => by have h1 := h.loc g hg; exact ⟨h1.1, h1.2.1, h1.2.2.1, h1.2.2.2.1, h1.2.2.2.2.1, by omega⟩⟩
theorem CQ.below (h : CQ w W gg gr gs A c b at_ bad d ds n cap css own o p ps cs0 vb v vbp vp lp loc) (hb : Below W.heap.size W W1) : CQ w W1 gg gr gs A c b at_ bad d ds n cap css own o p ps cs0 vb v vbp vp lp loc :=
  h.step (fun k hk _ => hb.block k hk) (below_step h.bel hb) hb.size
/-- Whose the blocks are, told anew. -/
theorem CQ.mark (h : CQ w W gg gr gs A c b at_ bad d ds n cap css own o p ps cs0 vb v vbp vp lp loc) {own' : Nat → Nat} {loc' : List Nat} (hm : ∀ k, k < W.heap.size → own' k = own k) (hl : ∀ g, g ∈ loc' → 2 * ps.length + 4 ≤ own' g ∧ g ≠ gg ∧ g ≠ gr ∧ g ≠ gs ∧ w.heap.size ≤ g ∧ g < W.heap.size) : CQ w W gg gr gs A c b at_ bad d ds n cap css own' o p ps cs0 vb v vbp vp lp loc' :=
  ⟨h.got, h.rd, h.raw, h.stk.move (fun k h1 _ h3 h4 => ⟨rfl, hm k h3⟩),
    R_own' h.rbp (fun k h1 _ h3 h4 => ⟨rfl, by rw [hm k h3]; exact h1⟩), R_own' h.rp (fun k h1 _ h3 h4 => ⟨rfl, by rw [hm k h3]; exact h1⟩),
    fun k hk => by rw [hm k (Kd.R_lt h.rp k hk)]; exact h.hp k hk,
    R_own' h.rb (fun k h1 _ h3 h4 => ⟨rfl, by rw [hm k h3]; exact h1⟩), R_own' h.rv (fun k h1 _ h3 h4 => ⟨rfl, by rw [hm k h3]; exact h1⟩), h.bel, hl⟩
theorem CQ.alloc (h : CQ w W gg gr gs A c b at_ bad d ds n cap css own o p ps cs0 vb v vbp vp lp loc) (hb : Below W.heap.size W W1) {g : Nat} (hg : g = W.heap.size) (hlt : g < W1.heap.size) : ∃ own', CQ w W1 gg gr gs A c b at_ bad d ds n cap css own' o p ps cs0 vb v vbp vp lp (g :: loc) := by
  obtain ⟨cells, hc⟩ := h.gsb
  have k1 := blk_lt h.got
  have k2 := blk_lt h.rd
  have k3 := blk_lt hc
  have h0 := h.mark (own' := fun k => if W.heap.size ≤ k then 2 * ps.length + 4 else own k) (loc' := loc) (fun k hk => if_neg (by omega)) (fun g' hg' => by have h1 := h.loc g' hg'; exact ⟨by show 2 * ps.length + 4 ≤ (if _ then _ else _); rw [if_neg (by omega)]; exact h1.1, h1.2⟩)
  have h1 := h0.below hb
  refine ⟨_, h1.got, h1.rd, h1.raw, h1.stk, h1.rbp, h1.rp, h1.hp, h1.rb, h1.rv, h1.bel, fun k hk => ?_⟩
  rcases List.mem_cons.1 hk with rfl | hk
  · exact ⟨by show 2 * ps.length + 4 ≤ (if _ then _ else _); rw [if_pos (by omega)]; exact Nat.le_refl _, by omega, by omega, by omega, by have := h.bel.size; omega, hlt⟩
  · exact h1.loc k hk
theorem CQ.store (h : CQ w W gg gr gs A c b at_ bad d ds n cap css own o p ps cs0 vb v vbp vp lp loc) {g : Nat} (hg : g ∈ loc) (ho : ∀ k, k ≠ g → W1.heap[k]? = W.heap[k]?) (hs : W1.heap.size = W.heap.size) (hbel : ∀ B (w0 : World), B ≤ g → Below B w0 W → Below B w0 W1) : CQ w W1 gg gr gs A c b at_ bad d ds n cap css own o p ps cs0 vb v vbp vp lp loc := by
  obtain ⟨q1, q2, q3, q4, q5, q6⟩ := h.loc g hg
  refine h.step (fun k hk hc => ho k ?_) (hbel _ _ q5 h.bel) (Nat.le_of_eq hs.symm)
  rcases hc with rfl | rfl | rfl | ⟨hc, _⟩
  · exact Ne.symm q2
  · exact Ne.symm q3
  · exact Ne.symm q4
  · rintro rfl
    omega
/-- Ahead of an append: what is new is the list's that grows. -/
theorem CQ.fresh (h : CQ w W gg gr gs A c b at_ bad d ds n cap css own o p ps cs0 vb v vbp vp lp loc) : ∃ own', CQ w W gg gr gs A c b at_ bad d ds n cap css own' o p ps cs0 vb v vbp vp lp loc ∧ ∀ k, W.heap.size ≤ k → own' k = 2 * ps.length + 1 :=
  ⟨fun k => if W.heap.size ≤ k then 2 * ps.length + 1 else own k, h.mark (fun k hk => if_neg (by omega)) (fun g hg => by have h1 := h.loc g hg; exact ⟨by show 2 * ps.length + 4 ≤ (if _ then _ else _); rw [if_neg (by omega)]; exact h1.1, h1.2⟩), fun k hk => if_pos hk⟩
theorem CQ.grow (h : CQ w W gg gr gs A c b at_ bad d ds n cap css own o p ps cs0 vb v vbp vp lp loc) (hf : ∀ k, W.heap.size ≤ k → own k = 2 * ps.length + 1) {v1 : Value} {l1 : List I} (hr : kI.R 43 W1 w.heap.size (fun k => own k = 2 * ps.length + 1 ∨ own k = 2 * ps.length + 2 ∨ own k = 2 * ps.length + 3) v1 l1) (hb : Below w.heap.size w W1) (hg : W.grownBy W1 vp.ownBlock) (hat : v1.ownBlock = vp.ownBlock ∨ ∃ k, v1.ownBlock = some k ∧ W.heap.size ≤ k) : CQ w W1 gg gr gs A c b at_ bad d ds n cap css own o p ps cs0 vb v vbp v1 l1 loc := by
  obtain ⟨cells, hc⟩ := h.gsb
  obtain ⟨inner, ho⟩ := Kd.R_own h.rp
  have hne : ∀ (g : Nat) (cs : Array Value) (t : TypeId), W.heap[g]? = some (.cells cs t (0, 0)) → t ≠ 43 → some g ≠ vp.ownBlock := by
    intro g cs t hg1 ht he
    obtain ⟨cs', hc'⟩ := own_typed ho g he.symm
    rw [hg1] at hc'
    simp only [Option.some.injEq, Obj.cells.injEq] at hc'
    exact ht hc'.2.1
  have hk : ∀ k, own k ≠ 2 * ps.length + 1 → k < W.heap.size → W1.heap[k]? = W.heap[k]? := fun k h1 h2 => hg.block k h2 (fun he => h1 (h.hp k he.symm))
  refine ⟨(hg.block gg (blk_lt h.got) (hne gg _ 65 h.got (by decide))).trans h.got, (hg.block gr (blk_lt h.rd) (hne gr _ 87 h.rd (by decide))).trans h.rd,
    raw_move h.raw (fun k hk1 => by obtain rfl : gs = k := by simpa [Value.ownBlock] using hk1
                                    exact hg.block gs (blk_lt hc) (hne gs _ 89 hc (by decide))),
    h.stk.move (fun k h1 _ h3 h4 => ⟨hk k (by omega) h3, rfl⟩),
    R_own' h.rbp (fun k h1 _ h3 h4 => ⟨hk k (by omega) h3, h1⟩), hr, ?_,
    R_own' h.rb (fun k h1 _ h3 h4 => ⟨hk k (by omega) h3, h1⟩), R_own' h.rv (fun k h1 _ h3 h4 => ⟨hk k (by omega) h3, h1⟩), hb, fun g hg1 => ?_⟩
  · intro k hk1
    rcases hat with e | ⟨j, e, hj⟩
    · exact h.hp k (by rw [← e]; exact hk1)
    · rw [e] at hk1
      obtain rfl := Option.some.inj hk1
      exact hf _ hj
  · have h1 := h.loc g hg1
    exact ⟨h1.1, h1.2.1, h1.2.2.1, h1.2.2.2.1, h1.2.2.2.2.1, by have := hg.size; omega⟩
theorem closeI_M {base : Nat} {ok : Nat → Prop} {vb' ve' : Value} (h16 : o.x.v.length = 16) (hl : o.x.l = []) (ht : o.x.t = []) (hb : kI.R 43 W base ok vb' (closeI o).body) (he : kI.R 43 W base ok ve' (closeI o).els) : kI.M W base ok (closeI o) (cellsI (closeI o) (.slice none 0 0) (.slice none 0 0) vb' ve') := by
  have e1 : (closeI o).v = o.x.v := by unfold closeI; split <;> rfl
  have e2 : (closeI o).l = [] := by rw [← hl]; unfold closeI; split <;> rfl
  have e3 : (closeI o).t = [] := by rw [← ht]; unfold closeI; split <;> rfl
  exact kI_mkM W base ok (closeI o) (by rw [e1]; exact h16) (by rw [e2]; exact Kd.R_nil _ _ _ _ _) (by rw [e3]; exact Kd.R_nil _ _ _ _ _) hb he
theorem CQ.clM (h : CQ w W gg gr gs A c b at_ bad d ds n cap css own o p ps cs0 vb v vbp vp lp loc) (h16 : o.x.v.length = 16) (hl : o.x.l = []) (ht : o.x.t = []) (hels : o.x.els = []) {vb' ve' : Value} (hv : (o.e = true ∧ vb' = vb ∧ ve' = v) ∨ (o.e = false ∧ vb' = v ∧ ve' = .slice none 0 0)) : kI.M W w.heap.size (fun k => own k = 2 * ps.length + 2 ∨ own k = 2 * ps.length + 3) (closeI o) (cellsI (closeI o) (.slice none 0 0) (.slice none 0 0) vb' ve') := by
  rcases hv with ⟨e, rfl, rfl⟩ | ⟨e, rfl, rfl⟩
  · refine closeI_M h16 hl ht ?_ ?_
    · rw [closeI, if_pos e]; exact Kd.R_mono h.rb (fun k hk => .inl hk)
    · rw [closeI, if_pos e]; exact Kd.R_mono h.rv (fun k hk => .inr hk)
  · refine closeI_M h16 hl ht ?_ ?_
    · rw [closeI, if_neg (by rw [e]; simp)]; exact Kd.R_mono h.rv (fun k hk => .inr hk)
    · rw [closeI, if_neg (by rw [e]; simp)]
      show kI.R 43 W w.heap.size _ (.slice none 0 0) o.x.els
      rw [hels]; exact Kd.R_nil _ _ _ _ _
/-- The list's last is written. -/
theorem CQ.put {gv n2 cv : Nat} {l : List I} {y : I} (h : CQ w W gg gr gs A c b at_ bad d ds n cap css own o p ps cs0 vb v vbp (.slice (some ⟨gv, 0, none⟩) n2 cv) (l ++ [y]) loc) (h16 : (closeI o).v.length = 16) {vb' ve' : Value} (hM : kI.M W w.heap.size (fun k => own k = 2 * ps.length + 2 ∨ own k = 2 * ps.length + 3) (closeI o) (cellsI (closeI o) (.slice none 0 0) (.slice none 0 0) vb' ve')) :
    W.there gv (l.length * 27) (cellsI (closeI o) (.slice none 0 0) (.slice none 0 0) vb' ve').toArray.size ∧ CQ w (W.setCells gv (l.length * 27) (cellsI (closeI o) (.slice none 0 0) (.slice none 0 0) vb' ve').toArray.toList) gg gr gs A c b at_ bad d ds n cap css own o p ps cs0 vb v vbp (.slice (some ⟨gv, 0, none⟩) n2 cv) (l ++ [closeI o]) loc := by
  have hgv : own gv = 2 * ps.length + 1 := h.hp gv (by simp [Value.ownBlock])
  obtain ⟨h1, h2⟩ := kI_put h.rp hM (fun k hk => ⟨by omega, fun e => by rw [e] at hk; omega⟩) h16
  obtain ⟨inner, ho⟩ := Kd.R_own h.rp
  obtain ⟨cv', hcv⟩ := own_typed ho gv (by simp [Value.ownBlock])
  obtain ⟨cells, hc⟩ := h.gsb
  obtain ⟨q1, q2, q3, q4⟩ := blk_setCells (cellsI (closeI o) (.slice none 0 0) (.slice none 0 0) vb' ve') (l.length * 27) W cv' hcv
  have hbase : w.heap.size ≤ gv := own_base ho gv (by simp [Value.ownBlock])
  have hne : ∀ (g : Nat) (cs : Array Value) (t : TypeId), W.heap[g]? = some (.cells cs t (0, 0)) → t ≠ 43 → g ≠ gv := by
    rintro g cs t hg1 ht rfl
    rw [hg1] at hcv
    simp only [Option.some.injEq, Obj.cells.injEq] at hcv
    exact ht hcv.2.1
  refine ⟨h1, (q2 gg (hne gg _ 65 h.got (by decide))).trans h.got, (q2 gr (hne gr _ 87 h.rd (by decide))).trans h.rd,
    raw_move h.raw (fun k hk1 => by obtain rfl : gs = k := by simpa [Value.ownBlock] using hk1
                                    exact q2 gs (hne gs _ 89 hc (by decide))),
    h.stk.move (fun k h1 _ h3 h4 => ⟨q2 k (by rintro rfl; omega), rfl⟩),
    R_own' h.rbp (fun k h1 _ h3 h4 => ⟨q2 k (by rintro rfl; omega), h1⟩), h2, h.hp,
    R_own' h.rb (fun k h1 _ h3 h4 => ⟨q2 k (by rintro rfl; omega), h1⟩), R_own' h.rv (fun k h1 _ h3 h4 => ⟨q2 k (by rintro rfl; omega), h1⟩), q4 _ _ hbase h.bel, fun g hg1 => by rw [q3]; exact h.loc g hg1⟩
/-- A cell of the stack's row is written. -/
theorem CQ.top (h : CQ w W gg gr gs A c b at_ bad d ds n cap css own o p ps cs0 vb v vbp vp lp loc) {m j : Nat} {co : List Value} (hm : css[m]? = some co) (hj : j < 29) {u : Value} (hu : u.oneCell' = true) {cells : Array Value} (hb : W.heap[gs]? = some (.cells cells 89 (0, 0)))
    (h1 : W1.heap[gs]? = some (.cells (cells.setIfInBounds (m * 29 + j) u) 89 (0, 0))) (ho : ∀ k, k ≠ gs → W1.heap[k]? = W.heap[k]?) (hs : W1.heap.size = W.heap.size) (hbel : ∀ B (w0 : World), B ≤ gs → Below B w0 W → Below B w0 W1) : CQ w W1 gg gr gs A c b at_ bad d ds n cap (css.set m (co.set j u)) own o p ps cs0 vb v vbp vp lp loc := by
  have hbase : w.heap.size ≤ gs := Kd.R_base h.raw gs (by simp [Value.ownBlock])
  have hk : ∀ k, TyI W k → W1.heap[k]? = W.heap[k]? := fun k ht => ho k (ht.ne hb (by decide))
  refine ⟨(ho gg ?_).trans h.got, (ho gr ?_).trans h.rd, raw_set h.raw hm hj hu hb h1, h.stk.move (fun k _ _ _ h4 => ⟨hk k h4, rfl⟩), R_own' h.rbp (fun k h1 _ h3 h4 => ⟨hk k h4, h1⟩), R_own' h.rp (fun k h1 _ h3 h4 => ⟨hk k h4, h1⟩), h.hp,
    R_own' h.rb (fun k h1 _ h3 h4 => ⟨hk k h4, h1⟩), R_own' h.rv (fun k h1 _ h3 h4 => ⟨hk k h4, h1⟩), hbel _ _ hbase h.bel, fun g hg => by rw [hs]; exact h.loc g hg⟩
  · rintro rfl
    have h9 := h.got
    rw [hb] at h9
    simp [oGot] at h9
  · rintro rfl
    have h9 := h.rd
    rw [hb] at h9
    simp [oRd] at h9
theorem CQ.cut {m : Nat} (h : CQ w W gg gr gs A c b at_ bad d ds n cap css own o p ps cs0 vb v vbp vp lp loc) (hm : m ≤ css.length) : CQ w W gg gr gs A c b at_ bad d ds m cap (css.take m) own o p ps cs0 vb v vbp vp lp loc :=
  ⟨h.got, h.rd, Kd.R_take h.raw hm, h.stk, h.rbp, h.rp, h.hp, h.rb, h.rv, h.bel, h.loc⟩
theorem cut_row {cs0 : List (List Value)} {cp cp' co : List Value} {m : Nat} (e : cs0.length = m) : (((cs0 ++ [cp]) ++ [co]).set m cp').take (m + 1) = cs0 ++ [cp'] := by
  rw [List.append_assoc, List.set_append_right _ _ (by omega), e, Nat.sub_self]
  show (cs0 ++ [cp', co]).take (m + 1) = _
  rw [show cs0 ++ [cp', co] = (cs0 ++ [cp']) ++ [co] by simp]
  exact List.take_left' (by simp [e])
theorem openC_take (x : I) (h : x.v.length = 16) (vl vt vb ve v : Value) (e : Bool) : ((openC x vl vt vb ve v e).drop 0).take 27 = cellsI x vl vt vb ve := by
  rw [List.drop_zero, openC]
  exact List.take_left' (cellsI_len x h vl vt vb ve)
theorem openC_setl (x : I) (h : x.v.length = 16) (vl vt vb ve v u : Value) (e : Bool) : (openC x vl vt vb ve v e).set 27 u = openC x vl vt vb ve u e := by
  have h2 := congrArg Array.toList (openC_set x h vl vt vb ve v u e)
  simpa using h2
theorem openC_oneI {x : I} (h : x.v.length = 16) {e : Bool} {a1 a2 : Option Addr} {n1 n2 c1 c2 : Nat} {vb' ve' : Value} (hv : (e = true ∧ vb' = .slice a1 n1 c1 ∧ ve' = .slice a2 n2 c2) ∨ (e = false ∧ vb' = .slice a2 n2 c2 ∧ ve' = .slice none 0 0)) (u : Value) (hu : u ∈ cellsI x (.slice none 0 0) (.slice none 0 0) vb' ve') : u.oneCell' = true := by
  rcases hv with ⟨_, rfl, rfl⟩ | ⟨_, rfl, rfl⟩ <;>
  · simp only [cellsI, List.mem_append, List.mem_cons, List.not_mem_nil, or_false, encs, List.mem_map] at hu
    rcases hu with rfl | rfl | rfl | rfl | ⟨z, _, rfl⟩ | rfl | rfl | rfl | rfl | rfl | rfl | rfl <;> rfl
/-- Closed: what was the uppermost block is the last of the one beneath. -/
theorem CQ.done (h : CQ w W gg gr gs A c b at_ bad d ds n cap css own o p ps cs0 vb v vbp vp lp loc) (h16 : p.x.v.length = 16) (hl : p.x.l = []) (ht : p.x.t = []) (hels : p.x.els = []) (hcss : css = cs0 ++ [openC p.x (.slice none 0 0) (.slice none 0 0) vbp (.slice none 0 0) vp p.e]) :
    ∃ own', PG w W gg gr A c b (.slice (some ⟨gs, 0, none⟩) n cap) css at_ bad d ds own' (⟨p.x, lp, p.e⟩ :: ps) [] := by
  refine ⟨fun k => if own k = 2 * ps.length + 2 ∨ own k = 2 * ps.length + 3 then 2 * ps.length + 1 else own k, h.got, h.rd, h.raw, ⟨cs0, _, hcss, ⟨vbp, vp, rfl, h16, hl, ht, hels, ?_, ?_⟩, ?_⟩, h.bel, fun g hg => by cases hg⟩
  · exact Kd.R_mono h.rbp (fun k hk => by show (if _ then _ else _) = _; rw [if_neg (by omega)]; exact hk)
  · refine Kd.R_mono h.rp (fun k hk => ?_)
    show (if _ then _ else _) = _
    rcases hk with hk | hk
    · rw [if_neg (by omega)]; exact hk
    · rw [if_pos hk]
  · refine h.stk.move (fun k hk _ _ _ => ⟨rfl, if_neg (by omega)⟩)
end
def code_close.T10 : Bool × List (List Nat × List Nat) := (true, [([], []), ([0], [0]), ([1], [1]), ([2], [2]), ([], []), ([4], [4]), ([3], [3]), ([], []), ([3, 7, 0, 1, 2, 3, 4, 5, 6, 7], [3, 7]), ([8, 6, 0, 1, 2, 3, 4, 5, 6, 7, 8], [6, 8]), ([9, 5, 8, 0, 1, 2, 3, 4, 5, 6, 7, 8], [5, 9]), ([0, 0, 1, 2, 3, 4, 5, 6, 7, 8], [0]), ([11, 0, 1, 2, 3, 4, 5, 6, 7, 8], [11]), ([12, 8, 8, 0, 1, 2, 3, 4, 5, 6, 7, 8], [8, 12])])
def code_close.B10 : List Nat := [0, 1, 3, 7, 0, 16, 15, 0, 255, 511, 1023, 511, 2559, 6655]
theorem code_close.tab10 : rtab .any (opsOf Tryd.f47 10) = code_close.T10 := by kernel_rfl
theorem code_close.bits10 : waitsOk code_close.T10.2 code_close.B10 = true := by kernel_rfl
set_option maxHeartbeats 8000000 in
set_option maxRecDepth 100000 in
theorem close_calls (w W : World) (gg gr gs : Nat) (A : Option Addr) (c : Nat) (b : List Int) (css : List (List Value)) (at_ d : Int) (bad ds : Bool) (own : Nat → Nat) (o p : O_) (ps : List O_) (m cap : Nat) (hm : m = ps.length) (hlen : p.l.length < 1000000000)
    (h : PG w W gg gr A c b (.slice (some ⟨gs, 0, none⟩) (m + 1 + 1) cap) css at_ bad d ds own (o :: p :: ps) []) :
    Calls Tryd.prog 47 #[.pointer (some ⟨gg, 0, none⟩), .slice (some ⟨gs, 0, none⟩) (m + 1 + 1) cap] W fun e W' => ∃ own' css', e = .returned (.tuple #[.slice (some ⟨gs, 0, none⟩) (m + 1) cap, .bool true]) ∧ PG w W' gg gr A c b (.slice (some ⟨gs, 0, none⟩) (m + 1) cap) css' at_ bad d ds own' (⟨p.x, p.l ++ [closeI o], p.e⟩ :: ps) [] := by
  obtain ⟨cs1, co, hcss, hLo, cs0, cp, hcs1, hLp, hst⟩ := h.stk
  obtain ⟨vb, v, hco, h16, hl, ht, hels, hrb, hrv⟩ := hLo
  obtain ⟨vbp, vp, hcp, g16, gl, gt, gels, grb, grv⟩ := hLp
  have e0 : cs0.length = m := by rw [hst.len, hm]
  have hin0 : css[m]? = some cp := by rw [hcss, hcs1, List.append_assoc, List.getElem?_append_right (by omega), e0, Nat.sub_self]; rfl
  have hin1 : css[m + 1]? = some co := by rw [hcss, hcs1, List.append_assoc, List.getElem?_append_right (by omega), e0, Nat.add_sub_cancel_left]; rfl
  obtain ⟨hol, hoo, hoc⟩ := raw_elem h.raw hin1
  obtain ⟨hpl, hpo, hpc⟩ := raw_elem h.raw hin0
  obtain ⟨AV, cV, rfl⟩ := Kd.R_slice hrv
  obtain ⟨AVB, cVB, rfl⟩ := Kd.R_slice hrb
  obtain ⟨AP, cP, rfl⟩ := Kd.R_slice grv
  have hC0 : CQ w W gg gr gs A c b at_ bad d ds (m + 1 + 1) cap css own o p ps cs0 (.slice AVB o.x.body.length cVB) (.slice AV o.l.length cV) vbp (.slice AP p.l.length cP) p.l [] :=
    ⟨h.got, h.rd, h.raw, hst, grb, Kd.R_mono grv (fun k hk => .inl hk), fun k hk => grv.1 k hk, Kd.R_mono hrb (fun k hk => by rw [List.length_cons] at hk; omega), Kd.R_mono hrv (fun k hk => by rw [List.length_cons] at hk; omega), h.bel, fun g hg => by cases hg⟩
  have HC := Aside0.mk hC0
  have hcap : m + 1 + 1 ≤ cap := (Kd.R_reads' h.raw).2.1
  have hmx : m + 1 + 1 ≤ 9223372036854775807 := by have h1 := Kd.C_max (Kd.R_reads' h.raw).2.2; have h2 := (Kd.R_reads' h.raw).1; omega
  have H16 := Aside0.mk h16
  have HOL := Aside0.mk hol
  have HOO := Aside0.mk hoo
  have HOC := Aside0.mk (fun (W1 : World) (h1 : CQ w W1 gg gr gs A c b at_ bad d ds (m + 1 + 1) cap css own o p ps cs0 (.slice AVB o.x.body.length cVB) (.slice AV o.l.length cV) vbp (.slice AP p.l.length cP) p.l []) => (raw_elem h1.raw hin1).2.2)
  have C27 := Aside0.mk (fun (W1 : World) (own' : Nat → Nat) (loc' : List Nat) (h1 : CQ w W1 gg gr gs A c b at_ bad d ds (m + 1 + 1) cap css own' o p ps cs0 (.slice AVB o.x.body.length cVB) (.slice AV o.l.length cV) vbp (.slice AP p.l.length cP) p.l loc') => (raw_elem h1.raw hin0).2.2 27 (.slice AP p.l.length cP) (by rw [hcp]; exact (openC_at p.x g16 _ _ _ _ _ _).1))
  have HPL := Aside0.mk hlen
  have HE0 := Aside0.mk e0
  have HM := Aside0.mk hm
  have HI := Aside0.mk (And.intro hin0 hin1)
  have HF := Aside0.mk (And.intro hl (And.intro ht hels))
  have HG := Aside0.mk (And.intro g16 (And.intro gl (And.intro gt gels)))
  have HX := Aside0.mk (And.intro hcss (And.intro hcs1 (And.intro hco hcp)))
  have hm2 : m + 1 ≤ cap := by omega
  clear hC0 h h16 hl ht hels hrb hrv g16 gl gt gels grb grv hst hcss hcs1 hol hoo hoc hpl hpo hpc hlen hm hin0 hin1 hco hcp e0
  have d0 : ((m : Int) + 1 == 0) = false := by rw [beq_eq_false_iff_ne]; omega
  cases he : o.e
  all_goals
    go_enter Tryd.func47, Tryd.ntmps47
    go_wp2_with (first
      | ((with_reducible refine gate_dst (N := 13) rfl ?_); refine wpList_load_mid rfl 89 (.tmp 12) rfl gs ((m + 1) * 29) rfl co _ (HOC.out _ (by first | exact HC.out | exact HC.out.below (pw_below_drewN (Below.refl _ _) _))) Tryd.underlying89 rfl (by rw [HOL.out]; exact size89) ?_)
      | ((with_reducible refine gate_dst (N := 6) rfl ?_); refine ev_alloc rfl 89 rfl _ zero89 ?_; intro g6 hg6 w2 hb hbl; obtain ⟨own1, hC1⟩ := HC.out.alloc hbl hg6 (blk_lt hb); clear HC HOC hg6 hbl; have HC := Aside0.mk hC1; have B6 := Aside0.mk hb; clear hC1 hb)
      | ((with_reducible refine gate_store (t := 89) (p := 6) (v := .tmp 13) rfl ?_); refine ev_storeB rfl 89 (.tmp 6) (.tmp 13) rfl g6 co.toArray rfl rfl 89 _ B6.out (by rw [List.size_toArray, HOL.out]; exact size89) ((show (Value.agg (openC zI (.slice none 0 0) (.slice none 0 0) (.slice none 0 0) (.slice none 0 0) (.slice none 0 0) false).toArray).cells.size = 29 from rfl).trans (List.size_toArray.trans HOL.out).symm) (all_oneCell_toArray HOO.out) ?_; intro w3 hb hoth hsz hbel; have n0_ := Aside0.mk (HC.out.store (List.mem_cons_self ..) hoth hsz hbel); have n1_ : Aside0 (w3.heap[g6]? = some (.cells (openC o.x (.slice none 0 0) (.slice none 0 0) (.slice AVB o.x.body.length cVB) (.slice none 0 0) (.slice AV o.l.length cV) o.e).toArray 89 (0, 0))) := ⟨by rw [← HX.out.2.2.1]; exact hb⟩; clear HC B6 hb hoth hsz hbel; have HC := n0_; have B6 := n1_; clear n0_ n1_; have c27 : w3.cell? ⟨g6, 27, none⟩ = some (.slice AV o.l.length cV) := (blk_cell B6.out 27).trans (by rw [List.getElem?_toArray]; exact (openC_at o.x H16.out _ _ _ _ _ _).1); have c28 : w3.cell? ⟨g6, 28, none⟩ = some (.bool o.e) := (blk_cell B6.out 28).trans (by rw [List.getElem?_toArray]; exact (openC_at o.x H16.out _ _ _ _ _ _).2.1); rw [he] at c28)
      | ((with_reducible refine gate_store (t := 22) (p := 32) (v := .tmp 30) rfl ?_); refine ev_storeC rfl 22 (.tmp 32) (.tmp 30) rfl g6 26 (.slice AV o.l.length cV) rfl rfl 89 _ _ B6.out (by rw [List.size_toArray, openC_len _ H16.out]; exact (by decide)) size22 rfl (openC_setbe _ H16.out _ _ _ _ _ _ _).2 ?_; intro w4 hb hoth hsz hbel; have n0_ := Aside0.mk (HC.out.store (List.mem_cons_self ..) hoth hsz hbel); clear HC B6 hoth hsz hbel; have HC := n0_; have B6 := Aside0.mk hb; clear n0_ hb)
      | ((with_reducible refine gate_store (t := 22) (p := 36) (v := .tmp 34) rfl ?_); refine ev_storeC rfl 22 (.tmp 36) (.tmp 34) rfl g6 25 (.slice AV o.l.length cV) rfl rfl 89 _ _ B6.out (by rw [List.size_toArray, openC_len _ H16.out]; exact (by decide)) size22 rfl (openC_setbe _ H16.out _ _ _ _ _ _ _).1 ?_; intro w4 hb hoth hsz hbel; have n0_ := Aside0.mk (HC.out.store (List.mem_cons_self ..) hoth hsz hbel); clear HC B6 hoth hsz hbel; have HC := n0_; have B6 := Aside0.mk hb; clear n0_ hb))
    obtain ⟨vb', ve', hv, hB6⟩ : ∃ vb' ve', ((o.e = true ∧ vb' = (.slice AVB o.x.body.length cVB) ∧ ve' = .slice AV o.l.length cV) ∨ (o.e = false ∧ vb' = (.slice AV o.l.length cV) ∧ ve' = .slice none 0 0)) ∧ w4.heap[g6]? = some (.cells (openC o.x (.slice none 0 0) (.slice none 0 0) vb' ve' (.slice AV o.l.length cV) o.e).toArray 89 (0, 0)) := by
      first
        | exact ⟨_, _, .inl ⟨he, rfl, rfl⟩, B6.out⟩
        | exact ⟨_, _, .inr ⟨he, rfl, rfl⟩, B6.out⟩
    have HV := Aside0.mk hv
    have n0_ := Aside0.mk (HC.out.below (below_drew1 (Below.refl _ _)))
    have n1_ := Aside0.mk (blk_drew hB6)
    clear HC B6 hB6 hv c27 c28
    have HC := n0_
    have B6 := n1_
    clear n0_ n1_
    refine start_ (n := 14) (S := fun w' => w'.cell? ⟨gs, m * 29 + 27, none⟩ = some (.slice AP p.l.length cP) ∧ w'.heap[g6]? = some (.cells (openC o.x (.slice none 0 0) (.slice none 0 0) vb' ve' (.slice AV o.l.length cV) o.e).toArray 89 (0, 0))) (ds := [8, 10, 13]) #[false,false,false,false,false,false,false,false,false,false,false,false,false,false] (by kernel_rfl) rfl rfl ⟨C27.out _ _ _ HC.out, B6.out⟩ (fun hHeld => ?_); refine with_tabW code_close.tab10 code_close.bits10 (fun HT_ HW_ => ?_)
    generalize w4.drew = w5 at HC B6 hHeld ⊢
    refine pure_ (i := 0) (N := some 42) (v := ?_) (a' := ?_) #[true,false,false,false,false,false,false,false,false,false,false,false,false,false] rfl rfl (any_of HT_.out (by kernel_rfl)) (fun _ _ _ h => h) (Or.inl ⟨by rfl, ?_⟩) ?_ ?_
    rotate_left
    · intro w'
      go_simp
      with_reducible rfl
    rotate_left
    · simp only [Act.put, List.setIfInBounds_toArray, List.set_cons_zero, List.set_cons_succ, i64_w, i32_w]
      rfl
    refine pure_ (i := 1) (N := some 43) (v := ?_) (a' := ?_) #[true,true,false,false,false,false,false,false,false,false,false,false,false,false] rfl rfl (any_of HT_.out (by kernel_rfl)) (fun _ _ _ h => h) (Or.inl ⟨by rfl, ?_⟩) ?_ ?_
    rotate_left
    · intro w'
      go_simp
      with_reducible rfl
    rotate_left
    · simp only [Act.put, List.setIfInBounds_toArray, List.set_cons_zero, List.set_cons_succ, i64_w, i32_w]
      rfl
    refine pure_ (i := 2) (N := some 44) (v := ?_) (a' := ?_) #[true,true,true,false,false,false,false,false,false,false,false,false,false,false] rfl rfl (any_of HT_.out (by kernel_rfl)) (fun _ _ _ h => h) (Or.inl ⟨by rfl, ?_⟩) ?_ ?_
    rotate_left
    · intro w'
      go_simp
      with_reducible rfl
    rotate_left
    · simp only [Act.put, List.setIfInBounds_toArray, List.set_cons_zero, List.set_cons_succ, i64_w, i32_w]
      rfl
    refine pure_ (i := 4) (N := some 46) (v := ?_) (a' := ?_) #[true,true,true,false,true,false,false,false,false,false,false,false,false,false] rfl rfl (any_of HT_.out (by kernel_rfl)) (fun _ _ _ h => h) (Or.inl ⟨by rfl, ?_⟩) ?_ ?_
    rotate_left
    · intro w'
      go_simp
      with_reducible rfl
    rotate_left
    · simp only [Act.put, List.setIfInBounds_toArray, List.set_cons_zero, List.set_cons_succ, i64_w, i32_w]
      rfl
    refine take_ (i := 3) (N := some 45) (v := ?_) (a' := ?_) #[true,true,true,true,true,false,false,false,false,false,false,false,false,false] rfl rfl (take_ofW HT_.out HW_.out (by kernel_rfl)) (fun _ _ _ h => h) (Or.inl ⟨by rfl, ?_⟩) hHeld ?_ ?_
    rotate_left
    · intro w' s0
      have c0 : w'.cell? ⟨gs, m * 29 + 27, none⟩ = some (.slice AP p.l.length cP) := s0.1
      go_simp
      with_reducible rfl
    rotate_left
    · simp only [Act.put, List.setIfInBounds_toArray, List.set_cons_zero, List.set_cons_succ, i64_w, i32_w]
      rfl
    refine pure_ (i := 6) (N := some 48) (v := ?_) (a' := ?_) #[true,true,true,true,true,false,true,false,false,false,false,false,false,false] rfl rfl (any_of HT_.out (by kernel_rfl)) (fun _ _ _ h => h) (Or.inl ⟨by rfl, ?_⟩) ?_ ?_
    rotate_left
    · intro w'
      go_simp
      with_reducible rfl
    rotate_left
    · simp only [Act.put, List.setIfInBounds_toArray, List.set_cons_zero, List.set_cons_succ, i64_w, i32_w]
      rfl
    refine take_ (i := 5) (N := some 47) (v := .agg (cellsI o.x (.slice none 0 0) (.slice none 0 0) vb' ve').toArray) (a' := ?_) #[true,true,true,true,true,true,true,false,false,false,false,false,false,false] rfl rfl (take_ofW HT_.out HW_.out (by kernel_rfl)) (fun _ _ _ h => h) (yieldsIf_load_mid (by rfl) 43 _ rfl g6 0 rfl (cellsI o.x (.slice none 0 0) (.slice none 0 0) vb' ve') _ (fun W hW => rng_blk (n := 27) hW.2 (openC_take _ H16.out _ _ _ _ _ _) (cellsI_len _ H16.out _ _ _ _)) Tryd.underlying43 rfl (by rw [cellsI_len _ H16.out]; exact info43)) hHeld ?_ ?_
    rotate_left
    · simp only [Act.put, List.setIfInBounds_toArray, List.set_cons_zero, List.set_cons_succ, i64_w, i32_w]
      rfl
    refine one_ (i := 7) (N := some 49) #[true,true,true,true,true,true,true,true,false,false,false,false,false,false] rfl rfl (one_of HT_.out (by kernel_rfl)) (by decide) (fun K hK => ?_)
    obtain ⟨own2, hC2, hF2⟩ := HC.out.fresh
    have hne : some w5.heap.size ≠ (Value.slice AP p.l.length cP).ownBlock := fun e => Nat.lt_irrefl _ (Kd.R_lt hC2.rp _ e.symm)
    refine value_ (by rfl) rfl (run_lit1 _ rfl (cellsI zI (.slice none 0 0) (.slice none 0 0) (.slice none 0 0) (.slice none 0 0)) rfl rfl) ?_
    have ho := lit_R (W := w5) (ok := (fun k => own2 k = 2 * ps.length + 1 ∧ some k ≠ (Value.slice AP p.l.length cP).ownBlock)) w.heap.size (kI_mkM w5 w.heap.size (fun k => own2 k = 2 * ps.length + 1 ∧ some k ≠ (Value.slice AP p.l.length cP).ownBlock) zI rfl (Kd.R_nil _ _ _ _ _) (Kd.R_nil _ _ _ _ _) (Kd.R_nil _ _ _ _ _) (Kd.R_nil _ _ _ _ _)) rfl ⟨hF2 _ (Nat.le_refl _), hne⟩ hC2.bel.size
    have hb := below_alloc (Below.refl w5.heap.size w5) (.cells (cellsI zI (.slice none 0 0) (.slice none 0 0) (.slice none 0 0) (.slice none 0 0)).toArray 43 (0, 0))
    have n0_ := Aside0.mk (hC2.below hb)
    have n1_ := Aside0.mk (blk_below B6.out hb)
    have HFR := Aside0.mk (fun (k : Nat) (hk : (w5.alloc (.cells (cellsI zI (.slice none 0 0) (.slice none 0 0) (.slice none 0 0) (.slice none 0 0)).toArray 43 (0, 0))).heap.size ≤ k) => hF2 k (Nat.le_trans hb.size hk))
    have HO49 := Aside0.mk ho
    clear HC B6 ho hb hC2 hF2 hne
    have HC := n0_
    have B6 := n1_
    clear n0_ n1_
    generalize (w5.alloc (.cells (cellsI zI (.slice none 0 0) (.slice none 0 0) (.slice none 0 0) (.slice none 0 0)).toArray 43 (0, 0))) = w6 at HC B6 HO49 HFR ⊢
    generalize (some ⟨w5.heap.size, 0, none⟩ : Option Addr) = A49 at HO49 ⊢
    refine hK.out _ _ ⟨C27.out _ _ _ HC.out, B6.out⟩ (fun hHeld => ?_)
    clear hK K
    refine norm_ (a' := ?_) ?_ ?_
    rotate_left
    · show Act.put _ (some 49) _ = _
      simp only [Act.put, List.setIfInBounds_toArray, List.set_cons_zero, List.set_cons_succ, i64_w, i32_w]
      rfl
    refine last_ (i := 8) (N := some 50) #[true,true,true,true,true,true,true,true,true,false,false,false,false,false] rfl rfl (one_of HT_.out (by kernel_rfl)) (by decide) (fun K hK => ?_)
    refine Kd.R_append_rows_step kI (w0 := w) w.heap.size (by rfl) (.tmp 45) (.tmp 49) 22 43 (.agg (cellsI zI (.slice none 0 0) (.slice none 0 0) (.slice none 0 0) (.slice none 0 0)).toArray) 144 rfl Tryd.underlying22 info43a rfl (show 0 < 27 by decide) (by decide) (.slice AP p.l.length cP) p.l [zI] A49 1 1 (fun k => own2 k = 2 * ps.length + 1 ∨ own2 k = 2 * ps.length + 2 ∨ own2 k = 2 * ps.length + 3) (fun k => own2 k = 2 * ps.length + 1 ∧ some k ≠ (Value.slice AP p.l.length cP).ownBlock) rfl rfl HC.out.rp (R_rr HO49.out) (fun _ _ h => h) (fun k hk => ⟨.inl hk.1, hk.2⟩) (fun k hk => .inl (HFR.out k hk)) HC.out.bel HC.out.bel.size (by have := HPL.out; show (p.l.length + 1) * 144 ≤ _; omega) ?_
    intro v50 w7 ho hb hg hat
    have n0_ := Aside0.mk (HC.out.grow HFR.out ho hb hg hat)
    obtain ⟨gv, cv, hvv, _, _, _⟩ := Kd.R_form ho (by simp)
    rw [List.length_append, List.length_singleton] at hvv
    subst hvv
    clear HC HO49 HFR B6 ho hb hg hat
    have HC := n0_
    clear n0_
    refine hK.out _ _ ?_
    clear hK K
    refine norm_ (a' := ?_) ?_ ?_
    rotate_left
    · show Act.put _ (some 50) _ = _
      simp only [Act.put, List.setIfInBounds_toArray, List.set_cons_zero, List.set_cons_succ, i64_w, i32_w]
      rfl
    refine pure_ (i := 9) (N := some 51) (v := ?_) (a' := ?_) #[true,true,true,true,true,true,true,true,true,true,false,false,false,false] rfl rfl (any_of HT_.out (by kernel_rfl)) (fun _ _ _ h => h) (Or.inl ⟨by rfl, ?_⟩) ?_ ?_
    rotate_left
    · intro w'
      have hq : (p.l.length : Int) < (p.l.length : Int) + 1 := by omega
      go_simp
      with_reducible rfl
    rotate_left
    · simp only [Act.put, List.setIfInBounds_toArray, List.set_cons_zero, List.set_cons_succ, i64_w, i32_w]
      rfl
    refine pure_ (i := 11) (N := some 52) (v := ?_) (a' := ?_) #[true,true,true,true,true,true,true,true,true,true,false,true,false,false] rfl rfl (any_of HT_.out (by kernel_rfl)) (fun _ _ _ h => h) (Or.inl ⟨by rfl, ?_⟩) ?_ ?_
    rotate_left
    · intro w'
      go_simp
      with_reducible rfl
    rotate_left
    · simp only [Act.put, List.setIfInBounds_toArray, List.set_cons_zero, List.set_cons_succ, i64_w, i32_w]
      rfl
    refine pure_ (i := 12) (N := some 53) (v := ?_) (a' := ?_) #[true,true,true,true,true,true,true,true,true,true,false,true,true,false] rfl rfl (any_of HT_.out (by kernel_rfl)) (fun _ _ _ h => h) (Or.inl ⟨by rfl, ?_⟩) ?_ ?_
    rotate_left
    · intro w'
      go_simp
      with_reducible rfl
    rotate_left
    · simp only [Act.put, List.setIfInBounds_toArray, List.set_cons_zero, List.set_cons_succ, i64_w, i32_w]
      rfl
    refine join_ (σ := Unit) 0 #[true,true,true,true,true,true,true,true,true,true,true,true,true,true] (fun _ => []) (fun _ w' => CQ w w' gg gr gs A c b at_ bad d ds (m + 1 + 1) cap (css.set m (cp.set 27 (.slice (some ⟨gv, 0, none⟩) (p.l.length + 1) cv))) own2 o p ps cs0 (.slice AVB o.x.body.length cVB) (.slice AV o.l.length cV) vbp (.slice (some ⟨gv, 0, none⟩) (p.l.length + 1) cv) (p.l ++ [closeI o]) [g6]) ?_ ?_
    rotate_left
    · intro hCont
      refine twoL_ (i := 10) (j := 13) (Ni := none) (Nj := none) #[true,true,true,true,true,true,true,true,true,true,true,true,true,false] #[true,true,true,true,true,true,true,true,true,true,false,true,true,true] rfl rfl rfl rfl (two_of HT_.out (by kernel_rfl)) (by decide) (by decide) (fun K hK => ?_) (fun K hK => ?_)
      · have hp := HC.out.put (by unfold closeI; split <;> exact H16.out) (HC.out.clM H16.out HF.out.1 HF.out.2.1 HF.out.2.2 HV.out)
        rw [closeI_cells] at hp
        rw [if_pos (by rfl)]
        refine wp_store_mid 43 (.tmp 51) (.tmp 47) rfl gv (p.l.length * 27) (cellsI o.x (.slice none 0 0) (.slice none 0 0) vb' ve').toArray rfl rfl hp.1 (by rw [List.size_toArray, cellsI_len _ H16.out]; exact info43) (all_oneCell_toArray (fun u hu => openC_oneI H16.out HV.out u hu)) ?_
        have n0_ := Aside0.mk hp.2
        clear HC hp
        have HC := n0_
        clear n0_
        refine hK.out _ _ ?_
        clear hK K
        refine last_ (i := 13) (N := none) #[true,true,true,true,true,true,true,true,true,true,true,true,true,true] rfl rfl (one_of HT_.out (by kernel_rfl)) (by decide) (fun K hK => ?_)
        obtain ⟨cells, hcl⟩ := HC.out.gsb
        refine storeC_step (by rfl) 22 (.tmp 53) (.tmp 50) rfl gs (m * 29 + 27) (.slice (some ⟨gv, 0, none⟩) (p.l.length + 1) cv) rfl rfl 89 cells _ hcl (raw_in HC.out.raw HI.out.1 (by decide) hcl) size22 rfl rfl ?_
        intro wk hb hoth hsz hbel
        have n0_ := Aside0.mk (HC.out.top HI.out.1 (show 27 < 29 by decide) rfl hcl hb hoth hsz hbel)
        clear HC hcl hb hoth hsz hbel
        have HC := n0_
        clear n0_
        refine hK.out _ _ ?_
        clear hK K
        exact norm_ (by first | rfl | simp only [putAll, Act.put]) (hCont () _ HC.out)
      · obtain ⟨cells, hcl⟩ := HC.out.gsb
        refine storeC_step (by rfl) 22 (.tmp 53) (.tmp 50) rfl gs (m * 29 + 27) (.slice (some ⟨gv, 0, none⟩) (p.l.length + 1) cv) rfl rfl 89 cells _ hcl (raw_in HC.out.raw HI.out.1 (by decide) hcl) size22 rfl rfl ?_
        intro wk hb hoth hsz hbel
        have n0_ := Aside0.mk (HC.out.top HI.out.1 (show 27 < 29 by decide) rfl hcl hb hoth hsz hbel)
        clear HC hcl hb hoth hsz hbel
        have HC := n0_
        clear n0_
        refine hK.out _ _ ?_
        clear hK K
        refine last_ (i := 10) (N := none) #[true,true,true,true,true,true,true,true,true,true,true,true,true,true] rfl rfl (one_of HT_.out (by kernel_rfl)) (by decide) (fun K hK => ?_)
        have hp := HC.out.put (by unfold closeI; split <;> exact H16.out) (HC.out.clM H16.out HF.out.1 HF.out.2.1 HF.out.2.2 HV.out)
        rw [closeI_cells] at hp
        rw [if_pos (by rfl)]
        refine wp_store_mid 43 (.tmp 51) (.tmp 47) rfl gv (p.l.length * 27) (cellsI o.x (.slice none 0 0) (.slice none 0 0) vb' ve').toArray rfl rfl hp.1 (by rw [List.size_toArray, cellsI_len _ H16.out]; exact info43) (all_oneCell_toArray (fun u hu => openC_oneI H16.out HV.out u hu)) ?_
        have n0_ := Aside0.mk hp.2
        clear HC hp
        have HC := n0_
        clear n0_
        refine hK.out _ _ ?_
        clear hK K
        exact norm_ (by first | rfl | simp only [putAll, Act.put]) (hCont () _ HC.out)
    rintro _ w9 hC9
    refine norm_ (a' := ?_) ?_ ?_
    rotate_left
    · simp only [putAll, Act.put, List.setIfInBounds_toArray, List.set_cons_zero, List.set_cons_succ]
      rfl
    clear HC
    have HC := Aside0.mk hC9
    clear hC9
    refine done_ (done_of HT_.out (by kernel_rfl)) ?_
    go_wp2
    go_ret2
    have h9 := HC.out.cut (m := m + 1) (by rw [List.length_set, HX.out.1, HX.out.2.1, List.length_append, List.length_append, HE0.out]; simp)
    rw [HX.out.1, HX.out.2.1, cut_row HE0.out] at h9
    obtain ⟨own', hP⟩ := h9.done HG.out.1 HG.out.2.1 HG.out.2.2.1 HG.out.2.2.2 (by rw [HX.out.2.2.2, openC_setl _ HG.out.1])
    exact ⟨own', _, rfl, hP⟩
end Go.Proofs.YtobldeamemmokaaDoor.P

/-! code.reader.block, of a block without a type. -/
namespace Go.Proofs.YtobldeamemmokaaDoor.P
open Go.RowKit Go.Proofs.YtobldeamemmokaaDoorW.PrintWords Go.Proofs.YtobldeamemmokaaDoorW.PrintLast Go.Proofs.YtobldeamemmokaaDoorW.PrintMore
set_option linter.unusedVariables false
set_option linter.unusedSimpArgs false
theorem zero41 : (Tryd.prog.info? 41).map (fun i => i.zero) = some (some (.agg #[.int .u8 0, .int .u8 0, .int .u32 0])) := by kernel_rfl
theorem built41 : Tryd.prog.built 41 [] = some #[.int .u8 0, .int .u8 0, .int .u32 0] := by kernel_rfl
theorem ev_built41 {ops : Array Oper} {rest : List Oper} {o : Oper} {a : Act} {w : World} {Q : Exit → Act → World → Prop} (hg : o.guard = none) (ho : o.op = .build 41 #[])
    (h : wpList Tryd.prog ops Q rest (a.put o.dst (.agg #[.int .u8 0, .int .u8 0, .int .u32 0])) w) : wpList Tryd.prog ops Q (o :: rest) a w := ev_built hg 41 ho _ built41 h
set_option maxHeartbeats 8000000 in
theorem block0_calls (w0 W : World) (g : Nat) (A : Option Addr) (c : Nat) (b : List Int) (at_ : Int) (hB : Below w0.heap.size w0 W) (hg : W.heap[g]? = some (oRd A c b at_ false)) (hn : w0.heap.size ≤ g) (hC : (Kd.int .u8).C w0 A b.length b) (hc : b.length ≤ c) (h0 : 0 ≤ at_) (h1 : at_ < b.length) (h64 : rd b at_ = 64) :
    Calls Tryd.prog 49 #[.pointer (some ⟨g, 0, none⟩)] W fun e W' => e = .returned (.agg #[.int .u8 0, .int .u8 0, .int .u32 0]) ∧ KS_ w0 W W' g (oRd A c b (at_ + 1) false) := by
  have S0 := Aside0.mk (KS_.start hg hB hn)
  obtain ⟨ad, rfl, hx⟩ := Kd.at_int hC at_ h0 h1
  rw [h64] at hx
  have HX := Aside0.mk hx
  have e1 : decide (at_ < (b.length : Int)) = true := decide_eq_true h1
  have hm := Kd.C_max hC
  have w1eq : wrap64 (at_ + 1) = at_ + 1 := by unfold wrap64; omega
  clear hB hg hn hC hx
  go_enter Tryd.func49, Tryd.ntmps49
  go_wp2_with (first
    | ((with_reducible refine gate_dst (N := 2) rfl ?_); refine ev_alloc rfl 41 rfl _ zero41 ?_; intro g2 hg2 w1 hb hbl; have n0_ := Aside0.mk (S0.out.below hbl); have B2 := Aside0.mk hb; have N2 : Aside0 (W.heap.size ≤ g2) := ⟨by rw [hg2]; exact S0.out.size⟩; clear S0 hg2 hb hbl; have S0 := n0_; clear n0_; have c0 : w1.cell? ⟨g, 0, none⟩ = some (.slice (some ad) b.length c) := (blk_cell S0.out.1 0).trans rfl; have c1 : w1.cell? ⟨g, 1, none⟩ = some (.int .i64 at_) := (blk_cell S0.out.1 1).trans rfl; have f1 := blk_frozen S0.out.1 1; have hx2 : w1.cell? (ad.add at_.toNat) = some (.int .u8 64) := (S0.out.2.2.1.cell (World.block_lt_of_cell? w0 _ HX.out)).trans HX.out))
  go_quiet (fail)
  go_wp2_with (first
    | ((with_reducible refine gate_store (t := 3) (p := 36) (v := .tmp 34) rfl ?_); refine ev_storeC rfl 3 (.tmp 36) (.tmp 34) rfl g 1 (.int .i64 (at_ + 1)) rfl (by first | rfl | (go_simp; done) | (go_simp; rw [w1eq]) | exact congrArg (Value.int .i64) w1eq) 87 #[.slice (some ad) b.length c, .int .i64 at_, .bool false] #[.slice (some ad) b.length c, .int .i64 (at_ + 1), .bool false] (by first | exact S0.out.1 | exact (S0.out.drewN _).1) (show 1 < 3 by decide) size3 rfl rfl ?_; intro w3 hb hoth hsz hbel; have n0_ := Aside0.mk (KS_.self (by first | exact S0.out | exact S0.out.drewN _) hb hoth hsz hbel); have n1_ := Aside0.mk ((hoth g2 (by have := N2.out; have := S0.out.2.2.2.1; omega)).trans (by first | exact B2.out | exact blk_drewN B2.out _)); clear S0 B2 hb hoth hsz hbel; have S0 := n0_; have B2 := n1_; clear n0_ n1_)
    | ((with_reducible refine gate_dst (N := 37) rfl ?_); refine ev_built41 rfl rfl ?_)
    | ((with_reducible refine gate_store (t := 41) (p := 2) (v := .tmp 37) rfl ?_); refine ev_storeB rfl 41 (.tmp 2) (.tmp 37) rfl g2 #[.int .u8 0, .int .u8 0, .int .u32 0] rfl rfl 41 _ B2.out size41 rfl (all_oneCell_toArray (cs := [.int .u8 0, .int .u8 0, .int .u32 0]) (by intro v hv; simp only [List.mem_cons, List.not_mem_nil, or_false] at hv; rcases hv with rfl | rfl | rfl <;> rfl)) ?_; intro w4 hb hoth hsz hbel; have n0_ := Aside0.mk (S0.out.other N2.out hoth hsz hbel); clear S0 B2 hoth hsz hbel; have S0 := n0_; have B2 := Aside0.mk hb; clear n0_ hb))
  go_quiet (fail)
  go_wp2_with (first
    | ((with_reducible refine gate_store (t := 3) (p := 36) (v := .tmp 34) rfl ?_); refine ev_storeC rfl 3 (.tmp 36) (.tmp 34) rfl g 1 (.int .i64 (at_ + 1)) rfl (by first | rfl | (go_simp; done) | (go_simp; rw [w1eq]) | exact congrArg (Value.int .i64) w1eq) 87 #[.slice (some ad) b.length c, .int .i64 at_, .bool false] #[.slice (some ad) b.length c, .int .i64 (at_ + 1), .bool false] (by first | exact S0.out.1 | exact (S0.out.drewN _).1) (show 1 < 3 by decide) size3 rfl rfl ?_; intro w3 hb hoth hsz hbel; have n0_ := Aside0.mk (KS_.self (by first | exact S0.out | exact S0.out.drewN _) hb hoth hsz hbel); have n1_ := Aside0.mk ((hoth g2 (by have := N2.out; have := S0.out.2.2.2.1; omega)).trans (by first | exact B2.out | exact blk_drewN B2.out _)); clear S0 B2 hb hoth hsz hbel; have S0 := n0_; have B2 := n1_; clear n0_ n1_)
    | ((with_reducible refine gate_dst (N := 37) rfl ?_); refine ev_built41 rfl rfl ?_)
    | ((with_reducible refine gate_store (t := 41) (p := 2) (v := .tmp 37) rfl ?_); refine ev_storeB rfl 41 (.tmp 2) (.tmp 37) rfl g2 #[.int .u8 0, .int .u8 0, .int .u32 0] rfl rfl 41 _ B2.out size41 rfl (all_oneCell_toArray (cs := [.int .u8 0, .int .u8 0, .int .u32 0]) (by intro v hv; simp only [List.mem_cons, List.not_mem_nil, or_false] at hv; rcases hv with rfl | rfl | rfl <;> rfl)) ?_; intro w4 hb hoth hsz hbel; have n0_ := Aside0.mk (S0.out.other N2.out hoth hsz hbel); clear S0 B2 hoth hsz hbel; have S0 := n0_; have B2 := Aside0.mk hb; clear n0_ hb))
  refine bodyPost_ret (results_c1 rfl _ _ g2 41 #[.int .u8 0, .int .u8 0, .int .u32 0] (0, 0) _ rfl B2.out Tryd.underlying41 rfl size41) rfl ?_
  exact ⟨rfl, S0.out⟩
end Go.Proofs.YtobldeamemmokaaDoor.P

/-! code.parse in general: what its walk uses. -/
namespace Go.Proofs.YtobldeamemmokaaDoor.P
open Go.RowKit Go.Proofs.YtobldeamemmokaaDoorW.PrintWords Go.Proofs.YtobldeamemmokaaDoorW.PrintLast Go.Proofs.YtobldeamemmokaaDoorW.PrintMore
set_option linter.unusedVariables false
set_option linter.unusedSimpArgs false
/-- A block instruction, read. -/
def bkI (o bk bv bt : Int) : I := { zI with op := o, bk := bk, bv := bv, bt := bt }
theorem built89x (o bk bv bt : Int) : Tryd.prog.built 89 [(0, .agg (cellsI (bkI o bk bv bt) (.slice none 0 0) (.slice none 0 0) (.slice none 0 0) (.slice none 0 0)).toArray)] = some (openC (bkI o bk bv bt) (.slice none 0 0) (.slice none 0 0) (.slice none 0 0) (.slice none 0 0) (.slice none 0 0) false).toArray := by kernel_rfl
theorem built65 : Tryd.prog.built 65 [] = some #[.slice none 0 0, .int .i64 0, .int .i64 0, .bool false] := by kernel_rfl
theorem info89a : (Tryd.prog.info? 89).map (fun i => (i.zero, i.size, i.bytes)) = some (some (.agg (openC zI (.slice none 0 0) (.slice none 0 0) (.slice none 0 0) (.slice none 0 0) (.slice none 0 0) false).toArray), 29, 176) := by kernel_rfl
theorem raw_lit {W : World} {cs : List Value} (base : Nat) (ok : Nat → Prop) (hcs : cs.length = 29) (h1 : ∀ u ∈ cs, u.oneCell' = true) (hf : ok W.heap.size) (hbase : base ≤ W.heap.size) : kRaw.R 89 (W.alloc (.cells cs.toArray 89)) base ok (.slice (some ⟨W.heap.size, 0, none⟩) 1 1) [cs] := by
  have hrep : Reps (kRaw.M W base ok) 29 [cs] cs := Reps.front ⟨rfl, hcs, h1⟩ hcs (Reps.none _ _) (List.append_nil _)
  refine ⟨fun k hk => ?_, cs, ?_, ?_⟩
  · have : W.heap.size = k := by simpa [Value.ownBlock] using hk
    subst this
    exact hf
  · have h2 := World.ownsRow_lit (base := base) (e := 89) (size := 29) W cs.toArray 1 hbase (by decide) (by simp [hcs])
    have h3 : (W.alloc (.cells cs.toArray 89)).ownsRow base 89 29 (.slice (some ⟨W.heap.size, 0, none⟩) 1 1) 1 cs := by simpa using h2
    exact h3
  · exact hrep.imp_ (fun _ _ hp => hp)
section
variable {ops : Array Oper} {rest : List Oper} {o : Oper} {a : Act} {w W : World} {Q : Exit → Act → World → Prop}
set_option maxRecDepth 100000 in
theorem ev_built89x (hg : o.guard = none) (x : Operand) (ho : o.op = .build 89 #[(0, x)]) (i bk bv bt : Int) (hx : a.eval x = .agg (cellsI (bkI i bk bv bt) (.slice none 0 0) (.slice none 0 0) (.slice none 0 0) (.slice none 0 0)).toArray)
    (h : wpList Tryd.prog ops Q rest (a.put o.dst (.agg (openC (bkI i bk bv bt) (.slice none 0 0) (.slice none 0 0) (.slice none 0 0) (.slice none 0 0) (.slice none 0 0) false).toArray)) w) : wpList Tryd.prog ops Q (o :: rest) a w := by
  refine Kd.event_run hg ?_ h
  unfold execOp
  simp only [ho, List.map_toArray, List.map_cons, List.map_nil, hx, Sem.run_bind, run_build w 89 _ _ (built89x i bk bv bt), Result.andThen_ok]
  rfl
theorem ev_lit89 (base : Nat) (hg : o.guard = none) (x : Operand) (ho : o.op = .buildSlice 90 1 #[(0, x)]) (cs : List Value) (hx : a.eval x = .agg cs.toArray) (hcs : cs.length = 29) (h1 : ∀ u ∈ cs, u.oneCell' = true) (hbase : base ≤ W.heap.size)
    (h : ∀ A w1, kRaw.R 89 w1 base (fun _ => True) (.slice A 1 1) [cs] → Below W.heap.size W w1 → wpList Tryd.prog ops Q rest (a.put o.dst (.slice A 1 1)) w1) : wpList Tryd.prog ops Q (o :: rest) a W := by
  cases hd : o.dst with
  | none =>
    refine Kd.event_run hg (run_litG 90 89 29 x ho cs hcs hx Tryd.underlying90 _ info89 (by decide) (by decide)) ?_
    rw [hd]
    rw [hd] at h
    exact h _ _ (raw_lit base _ hcs h1 trivial hbase) (below_alloc (Below.refl _ _) _)
  | some N =>
    refine Kd.event_run hg (run_litG 90 89 29 x ho cs hcs hx Tryd.underlying90 _ info89 (by decide) (by decide)) ?_
    rw [hd]
    rw [hd] at h
    exact h _ _ (raw_lit base _ hcs h1 trivial hbase) (below_alloc (Below.refl _ _) _)
end
section
variable {w W W1 : World} {gg gr : Nat} {A : Option Addr} {c : Nat} {b : List Int} {vs : Value} {css : List (List Value)} {at_ d : Int} {bad ds : Bool} {own : Nat → Nat} {os : List O_} {loc : List Nat}
theorem PG.push (h : PG w W gg gr A c b vs css at_ bad d ds own os loc) {x : I} {v1 : Value} (h16 : x.v.length = 16) (hl : x.l = []) (ht : x.t = []) (hbd : x.body = []) (he : x.els = [])
    (hr : kRaw.R 89 W1 w.heap.size (fun _ => True) v1 (css ++ [openC x (.slice none 0 0) (.slice none 0 0) (.slice none 0 0) (.slice none 0 0) (.slice none 0 0) false])) (hb : Below w.heap.size w W1) (hg : W.grownBy W1 vs.ownBlock) :
    PG w W1 gg gr A c b v1 (css ++ [openC x (.slice none 0 0) (.slice none 0 0) (.slice none 0 0) (.slice none 0 0) (.slice none 0 0) false]) at_ bad d ds own (⟨x, [], false⟩ :: os) [] := by
  have hne : ∀ (g : Nat) (cs : Array Value) (t : TypeId), W.heap[g]? = some (.cells cs t (0, 0)) → t ≠ 89 → some g ≠ vs.ownBlock := by
    intro g cs t hg1 ht1 e
    obtain ⟨inner, ho⟩ := Kd.R_own h.raw
    obtain ⟨cs', hc'⟩ := own_typed ho g e.symm
    rw [hg1] at hc'
    simp only [Option.some.injEq, Obj.cells.injEq] at hc'
    exact ht1 hc'.2.1
  refine ⟨(hg.block gg (blk_lt h.got) (hne gg _ 65 h.got (by decide))).trans h.got, (hg.block gr (blk_lt h.rd) (hne gr _ 87 h.rd (by decide))).trans h.rd, hr, ⟨css, _, rfl, ⟨_, _, rfl, h16, hl, ht, he, by rw [hbd]; exact Kd.R_nil _ _ _ _ _, Kd.R_nil _ _ _ _ _⟩, ?_⟩, hb, fun g hg => by cases hg⟩
  refine h.stk.move (fun k _ _ h3 h4 => ⟨hg.block k h3 ?_, rfl⟩)
  obtain ⟨q, hq, cells, hc⟩ := h4
  refine hne k cells q hc ?_
  rintro rfl
  revert hq
  decide
/-- The reader's place is moved on. -/
theorem PG.next (h : PG w W gg gr A c b vs css at_ bad d ds own os loc) {at1 : Int} {bad1 : Bool} (hne : gg ≠ gr) (h1 : W1.heap[gr]? = some (oRd A c b at1 bad1)) (ho : ∀ k, k ≠ gr → W1.heap[k]? = W.heap[k]?) (hs : W1.heap.size = W.heap.size) (hb : Below w.heap.size w W1) : PG w W1 gg gr A c b vs css at1 bad1 d ds own os loc :=
  h.call hne h1 (row := none) (.inl rfl) ⟨Nat.le_of_eq hs.symm, fun i _ hi _ => ho i hi⟩ hb
/-- The uppermost block's row. -/
theorem PG.row {o : O_} (h : PG w W gg gr A c b vs css at_ bad d ds own (o :: os) loc) : ∃ gs cap cells vb v, vs = .slice (some ⟨gs, 0, none⟩) (os.length + 1) cap ∧ os.length + 1 ≤ cap ∧ os.length + 1 ≤ 9223372036854775807 ∧ w.heap.size ≤ gs ∧ W.heap[gs]? = some (.cells cells 89 (0, 0)) ∧ css[os.length]? = some (openC o.x (.slice none 0 0) (.slice none 0 0) vb (.slice none 0 0) v o.e) ∧ o.x.v.length = 16 ∧ css.length = os.length + 1 ∧ kI.R 43 W w.heap.size (fun k => own k = 2 * os.length + 1) v o.l ∧
    (∀ u ∈ openC o.x (.slice none 0 0) (.slice none 0 0) vb (.slice none 0 0) v o.e, u.oneCell' = true) := by
  have hlen := h.stk.len
  obtain ⟨cs0, co, hcss, ⟨vb, v, rfl, h16, hl, ht, hels, hrb, hrv⟩, hst⟩ := h.stk
  obtain ⟨gs, cap, cells, hv, hcap, hb, hc, hmx⟩ := raw_form h.raw (by rw [hlen]; simp)
  rw [List.length_cons] at hlen
  rw [hlen] at hv hcap hmx
  refine ⟨gs, cap, cells, vb, v, hv, hcap, hmx, hb, hc, ?_, h16, hlen, hrv, openC_one h16 hrb hrv⟩
  rw [hcss, List.getElem?_append_right (by rw [hst.len]; exact Nat.le_refl _), hst.len, Nat.sub_self]
  rfl
end
theorem opF_inv {K : Nat} {b : List Int} {at_ : Int} {r : Int × Int × Int × Bool} (h : opF K b at_ = some r) : 0 ≤ rd b at_ ∧ rd b at_ < 252 ∧ rd b at_ ≠ 5 ∧ ∃ r1 r2 r3 r4 r5 r6 r7, ops_Of.f K (rd b at_) = some (r1, r2, r3, r4, r5, r6, r7, 0) ∧ r = (r1, r3, at_ + 1, false) := by
  rw [opF] at h
  by_cases hc : 0 ≤ rd b at_ ∧ rd b at_ < 252 ∧ rd b at_ ≠ 5
  · rw [if_pos hc] at h
    obtain ⟨⟨r1, r2, r3, r4, r5, r6, r7, r8⟩, hri, h⟩ := Option.bind_eq_some_iff.1 h
    by_cases h8 : r8 = 0
    · rw [if_pos h8] at h
      subst h8
      exact ⟨hc.1, hc.2.1, hc.2.2, r1, r2, r3, r4, r5, r6, r7, hri, (Option.some.inj h).symm⟩
    · rw [if_neg h8] at h
      cases h
  · rw [if_neg hc] at h
    cases h
theorem blockF_inv {b : List Int} {at_ : Int} {bad : Bool} {q : Int × Int × Int × Int × Bool} (h : blockF b at_ bad = some q) : bad = false ∧ at_ < b.length ∧ rd b at_ = 64 ∧ q = (0, 0, 0, at_ + 1, false) := by
  rw [blockF] at h
  by_cases hc : bad = false ∧ at_ < b.length ∧ rd b at_ = 64
  · rw [if_pos hc] at h
    exact ⟨hc.1, hc.2.1, hc.2.2, (Option.some.inj h).symm⟩
  · rw [if_neg hc] at h
    cases h
/-- A byte that is read, what comes of it. -/
theorem pRun_inv {K : Nat} {b : List Int} {k : Nat} {o : O_} {os : List O_} {at_ d : Int} {ds : Bool} {r : Option (List I × Int × Int × Bool)} (h : pRun K b (k + 1) (o :: os) at_ d ds = some r) :
    (¬ at_ < b.length ∧ r = none) ∨ (at_ < b.length ∧ os.length < 1000000000 ∧ o.l.length < 1000000000 ∧
      ((rd b at_ = 11 ∧ os = [] ∧ r = some (o.l, at_ + 1, d, ds)) ∨
       (rd b at_ = 11 ∧ ∃ p ps, os = p :: ps ∧ p.l.length < 1000000000 ∧ pRun K b k (⟨p.x, p.l ++ [closeI o], p.e⟩ :: ps) (at_ + 1) d ds = some r) ∨
       (rd b at_ ≠ 11 ∧ ∃ o1, opF K b at_ = some (o1, 1, at_ + 1, false) ∧ at_ + 1 < b.length ∧ rd b (at_ + 1) = 64 ∧ pRun K b k (⟨bkI o1 0 0 0, [], false⟩ :: o :: os) (at_ + 1 + 1) (max d (os.length + 1)) ds = some r))) := by
  rw [pRun_cons] at h
  by_cases hlt : at_ < b.length
  · rw [if_pos hlt] at h
    by_cases hs : os.length < 1000000000 ∧ o.l.length < 1000000000
    · rw [if_pos hs] at h
      refine .inr ⟨hlt, hs.1, hs.2, ?_⟩
      by_cases h11 : rd b at_ = 11
      · rw [if_pos h11] at h
        cases os with
        | nil => exact .inl ⟨h11, rfl, (Option.some.inj h).symm⟩
        | cons p ps =>
          simp only at h
          by_cases hp : p.l.length < 1000000000
          · rw [if_pos hp] at h
            exact .inr (.inl ⟨h11, p, ps, rfl, hp, h⟩)
          · rw [if_neg hp] at h
            cases h
      · rw [if_neg h11] at h
        obtain ⟨ro, hop, h⟩ := Option.bind_eq_some_iff.1 h
        obtain ⟨c1, c2, c3, r1, r2, r3, r4, r5, r6, r7, hri, rfl⟩ := opF_inv hop
        simp only at h
        by_cases him : r3 = 1
        · rw [if_pos him] at h
          subst him
          obtain ⟨q, hq, h⟩ := Option.bind_eq_some_iff.1 h
          obtain ⟨_, q1, q2, rfl⟩ := blockF_inv hq
          simp only at h
          rw [if_neg (by simp)] at h
          exact .inr (.inr ⟨h11, r1, hop, q1, q2, h⟩)
        · rw [if_neg him, immF] at h
          cases h
    · rw [if_neg hs] at h
      cases h
  · rw [if_neg hlt] at h
    exact .inl ⟨hlt, (Option.some.inj h).symm⟩
set_option maxHeartbeats 8000000 in
set_option maxRecDepth 100000 in
/-- close, of the expression itself. -/
theorem close0_calls (w W : World) (gg gr gs : Nat) (A : Option Addr) (c : Nat) (b : List Int) (css : List (List Value)) (at_ d : Int) (bad ds : Bool) (own : Nat → Nat) (o : O_) (cap : Nat) (hgg : w.heap.size ≤ gg) (hgr : gg ≠ gr)
    (h : PG w W gg gr A c b (.slice (some ⟨gs, 0, none⟩) 1 cap) css at_ bad d ds own [o] []) :
    Calls Tryd.prog 47 #[.pointer (some ⟨gg, 0, none⟩), .slice (some ⟨gs, 0, none⟩) 1 cap] W fun e W' => ∃ A1 c1, e = .returned (.tuple #[.slice none 0 0, .bool false]) ∧ W'.heap[gg]? = some (oGot (.slice A1 o.l.length c1) 0 d ds) ∧ kI.R 43 W' w.heap.size (fun k => k ≠ gg) (.slice A1 o.l.length c1) o.l ∧ W'.heap[gr]? = some (oRd A c b at_ bad) ∧ Below w.heap.size w W' := by
  obtain ⟨gs', cap', cells, vb, v, hv, hcap, hmx, hgs, hcells, hrow, h16, hcl, hrv, hone⟩ := h.row
  have e1 : gs = gs' := by injection hv with e1 e2 e3; injection e1 with e1; injection e1
  have e2 : cap = cap' := by injection hv
  subst e1
  subst e2
  have hcap1 : 1 ≤ cap := hcap
  obtain ⟨A1, c1, rfl⟩ := Kd.R_slice hrv
  obtain ⟨co, hco⟩ : ∃ co, co = openC o.x (.slice none 0 0) (.slice none 0 0) vb (.slice none 0 0) (.slice A1 o.l.length c1) o.e := ⟨_, rfl⟩
  obtain ⟨hol, hoo, hoc⟩ := raw_elem h.raw hrow
  have HL := Aside0.mk (openC_len o.x h16 (.slice none 0 0) (.slice none 0 0) vb (.slice none 0 0) (.slice A1 o.l.length c1) o.e)
  have HA := Aside0.mk (openC_at o.x h16 (.slice none 0 0) (.slice none 0 0) vb (.slice none 0 0) (.slice A1 o.l.length c1) o.e)
  have HR := Aside0.mk (R_own' (ok' := fun k => k ≠ gg ∧ own k = 1) hrv (fun k hk _ _ ht => ⟨rfl, TyI.ne ht h.got (by decide), hk⟩))
  have RN := Aside0.mk (show W.rangeAt gs 0 co from fun j u hj => by have h1 := hoc j u (by rw [← hco]; exact hj); rw [List.length_nil, Nat.zero_mul] at h1; exact h1)
  rw [← hco] at hone HL HA
  have HO := Aside0.mk hone
  have HG := Aside0.mk h.got
  have HD := Aside0.mk h.rd
  have HB := Aside0.mk h.bel
  have HN := Aside0.mk (And.intro hgg hgr)
  clear h hv hcap hgs hcells hrow h16 hcl hrv hone hol hoo hoc hco hgg hgr
  go_enter Tryd.func47, Tryd.ntmps47
  go_wp2_with (first
    | ((with_reducible refine gate_dst (N := 13) rfl ?_); refine wpList_load_mid rfl 89 (.tmp 12) rfl gs 0 rfl co _ RN.out Tryd.underlying89 rfl (by rw [HL.out]; exact size89) ?_)
    | ((with_reducible refine gate_dst (N := 6) rfl ?_); refine ev_alloc rfl 89 rfl _ zero89 ?_; intro g6 hg6 w2 hb hbl; have n0_ := Aside0.mk (below_step HB.out hbl); have n1_ := Aside0.mk (Kd.R_mono (Kd.R_below (Kd.R_bound HR.out) hbl) (fun k hk => (⟨hk.1, hk.2.2.1⟩ : (k ≠ gg ∧ own k = 1) ∧ k < W.heap.size))); have n2_ := Aside0.mk (blk_below HG.out hbl); have n3_ := Aside0.mk (blk_below HD.out hbl); have N6 : Aside0 (W.heap.size ≤ g6 ∧ gg ≠ g6 ∧ gr ≠ g6 ∧ w.heap.size ≤ g6) := ⟨by have h1 := blk_lt HG.out; have h2 := blk_lt HD.out; have h3 := HB.out.size; have h4 : W.heap.size ≤ g6 := (by rw [hg6]; exact Nat.le_refl _); exact ⟨h4, by omega, by omega, by omega⟩⟩; clear HB HR HG HD hg6 hbl; have HB := n0_; have HR := n1_; have HG := n2_; have HD := n3_; have B6 := Aside0.mk hb; clear n0_ n1_ n2_ n3_ hb)
    | ((with_reducible refine gate_store (t := 89) (p := 6) (v := .tmp 13) rfl ?_); refine ev_storeB rfl 89 (.tmp 6) (.tmp 13) rfl g6 co.toArray rfl rfl 89 _ B6.out (by rw [List.size_toArray, HL.out]; exact size89) ((show (Value.agg (openC zI (.slice none 0 0) (.slice none 0 0) (.slice none 0 0) (.slice none 0 0) (.slice none 0 0) false).toArray).cells.size = 29 from rfl).trans (List.size_toArray.trans HL.out).symm) (all_oneCell_toArray HO.out) ?_; intro w3 hb hoth hsz hbel; have n0_ := Aside0.mk (hbel _ _ N6.out.2.2.2 HB.out); have n1_ := Aside0.mk (Kd.R_mono (Kd.R_move HR.out (fun k hk => hoth k (by have := hk.2; have := N6.out.1; omega))) (fun k hk => hk.1.1)); have n2_ := Aside0.mk ((hoth _ N6.out.2.1).trans HG.out); have n3_ := Aside0.mk ((hoth _ N6.out.2.2.1).trans HD.out); clear HB HR HG HD B6 hoth hsz hbel; have HB := n0_; have HR := n1_; have HG := n2_; have HD := n3_; have c27 : w3.cell? ⟨g6, 27, none⟩ = some (.slice A1 o.l.length c1) := (blk_cell hb 27).trans (by rw [List.getElem?_toArray]; exact HA.out.1); clear n0_ n1_ n2_ n3_ hb)
    | ((with_reducible refine gate_store (t := 22) (p := 26) (v := .tmp 24) rfl ?_); refine ev_storeC rfl 22 (.tmp 26) (.tmp 24) rfl gg 0 (.slice A1 o.l.length c1) rfl rfl 65 #[.slice none 0 0, .int .i64 0, .int .i64 d, .bool ds] #[.slice A1 o.l.length c1, .int .i64 0, .int .i64 d, .bool ds] HG.out (show 0 < 4 by decide) size22 rfl rfl ?_; intro w4 hb hoth hsz hbel; have n0_ := Aside0.mk (hbel _ _ HN.out.1 HB.out); have n1_ := Aside0.mk (Kd.R_move HR.out (fun k hk => hoth k hk)); have n3_ := Aside0.mk ((hoth _ (Ne.symm HN.out.2)).trans HD.out); clear HB HR HG HD hoth hsz hbel; have HB := n0_; have HR := n1_; have HG := Aside0.mk hb; have HD := n3_; clear n0_ n1_ n3_ hb))
  go_ret2
  exact ⟨A1, c1, rfl, HG.out, HR.out, HD.out, HB.out⟩
end Go.Proofs.YtobldeamemmokaaDoor.P

/-! code.parse in general. -/
namespace Go.Proofs.YtobldeamemmokaaDoor.P
open Go.RowKit Go.Proofs.YtobldeamemmokaaDoorW.PrintWords Go.Proofs.YtobldeamemmokaaDoorW.PrintLast Go.Proofs.YtobldeamemmokaaDoorW.PrintMore
set_option linter.unusedVariables false
set_option linter.unusedSimpArgs false
/-- What parse answers. -/
def parseA (w : World) (r : Option (List I × Int × Int × Bool)) (e : Ending) (w' : World) : Prop :=
  match r with
  | none => e = .returned (.tuple #[.agg #[.slice none 0 0, .int .i64 0, .int .i64 0, .bool false], .bool false])
  | some q => ∃ A1 c1, e = .returned (.tuple #[.agg #[.slice A1 q.1.length c1, .int .i64 q.2.1, .int .i64 q.2.2.1, .bool q.2.2.2], .bool true]) ∧ kI.R 43 w' w.heap.size (fun _ => True) (.slice A1 q.1.length c1) q.1
set_option maxHeartbeats 16000000 in
set_option maxRecDepth 100000 in
theorem parseG_calls (K k : Nat) (A : Option Addr) (c : Nat) (b : List Int) (at0 : Int) (w : World) (hT : Go.Proofs.YtobldeamemmokaaDoorTabs.Tab w) (hc : b.length ≤ c) (hC : (Kd.int .u8).C w A b.length b) (h0 : 0 ≤ at0) (r : Option (List I × Int × Int × Bool)) (h : pRun K b k [zO] at0 0 false = some r) :
    Calls Tryd.prog 31 #[.slice A b.length c, .int .i64 at0] w fun e w' => parseA w r e w' ∧ Below w.heap.size w w' := by
  have HT := Aside0.mk hT
  have HC := Aside0.mk hC
  have HCC := Aside0.mk hc
  have H0 := Aside0.mk h0
  have HH := Aside0.mk h
  have hbm : b.length ≤ 9223372036854775807 := Kd.C_max hC
  have HB := Aside0.mk (Below.refl w.heap.size w)
  clear hT hC hc h0 h
  go_enter Tryd.func31, Tryd.ntmps31
  go_wp2_with (first
    | ((with_reducible refine gate_dst (N := 4) rfl ?_); refine ev_alloc rfl 65 rfl _ zero65 ?_; intro gg hgg w1 hb hbl; have GG := Aside0.mk hb; have N1 := Aside0.mk (by rw [hgg]; exact Nat.le_refl _ : w.heap.size ≤ gg); have n0_ := Aside0.mk (below_step HB.out hbl); clear HB hgg hb hbl; have HB := n0_; clear n0_)
    | ((with_reducible refine gate_dst (N := 14) rfl ?_); refine ev_box rfl 87 _ rfl [.slice A b.length c, .int .i64 at0, .bool false] rfl ?_; intro gr hgr w2 hb hbl; have GR := Aside0.mk hb; have n1_ := Aside0.mk (blk_below GG.out hbl); have N2 : Aside0 (gg < gr ∧ w.heap.size ≤ gr) := ⟨by have h1 := blk_lt GG.out; have h2 := HB.out.size; have h3 : w1.heap.size ≤ gr := by { rw [hgr]; exact Nat.le_refl _ }; omega⟩; have n0_ := Aside0.mk (below_step HB.out hbl); clear HB GG hgr hb hbl; have HB := n0_; have GG := n1_; clear n0_ n1_)
    | ((with_reducible refine gate_dst (N := 15) rfl ?_); refine ev_built rfl 89 rfl _ built89 ?_)
    | ((with_reducible refine gate_dst (N := 16) rfl ?_); refine ev_lit89 w.heap.size rfl (.tmp 15) rfl (openC zI (.slice none 0 0) (.slice none 0 0) (.slice none 0 0) (.slice none 0 0) (.slice none 0 0) false) rfl rfl (openC_one (o := zO) (W := w) (base := 0) (ok := fun _ => True) (ok' := fun _ => True) rfl (Kd.R_nil _ _ _ _ _) (Kd.R_nil _ _ _ _ _)) HB.out.size ?_; intro A16 w3 hl16 hbl; have n1_ := Aside0.mk (blk_below GG.out hbl); have n2_ := Aside0.mk (blk_below GR.out hbl); have n0_ := Aside0.mk (below_step HB.out hbl); have HL := Aside0.mk hl16; clear HB GG GR hl16 hbl; have HB := n0_; have GG := n1_; have GR := n2_; clear n0_ n1_ n2_))
  go_loopg [5, 7] k (fun kq v5 v7 w' => ∃ (css : List (List Value)) (at_ d : Int) (bad ds : Bool) (own : Nat → Nat) (os : List O_), Aside0 (PG w w' gg gr A c b v7 css at_ bad d ds own os []) ∧ Aside0 (0 ≤ at_ ∧ kq ≤ k) ∧ Aside0 ((bad = true ∧ r = none) ∨ (bad = false ∧ pRun K b kq os at_ d ds = some r)))
  case atStart => exact ⟨_, at0, 0, false, false, fun _ => 0, [zO], ⟨GG.out, GR.out, HL.out, ⟨[], _, rfl, ⟨.slice none 0 0, .slice none 0 0, rfl, rfl, rfl, rfl, rfl, Kd.R_nil _ _ _ _ _, Kd.R_nil _ _ _ _ _⟩, rfl⟩, HB.out, fun g hg => by cases hg⟩, ⟨H0.out, Nat.le_refl _⟩, ⟨.inr ⟨rfl, HH.out⟩⟩⟩
  case round =>
    clear GG GR HL HB H0 HH
    obtain ⟨css, at_, d, bad, ds, own, os, HP, HK, HR⟩ := hrel
    have r1 : wr.cell? ⟨gr, 1, none⟩ = some (.int .i64 at_) := (blk_cell HP.out.rd 1).trans rfl
    have r2_ : wr.cell? ⟨gr, 2, none⟩ = some (.bool bad) := (blk_cell HP.out.rd 2).trans rfl
    have fr1 := blk_frozen HP.out.rd 1
    rcases HR.out with ⟨rfl, rfl⟩ | ⟨rfl, hrun⟩
    · clear HR
      go_wp2_with (first
          | ((with_reducible refine gate_dst (N := 173) rfl ?_); refine ev_built rfl 65 rfl _ built65 ?_)
          | ((with_reducible refine gate_store (t := 65) (p := 4) (v := .tmp 173) rfl ?_); refine ev_storeB rfl 65 (.tmp 4) (.tmp 173) rfl gg #[.slice none 0 0, .int .i64 0, .int .i64 0, .bool false] rfl rfl 65 _ HP.out.got size65 rfl (all_oneCell_toArray (cs := [.slice none 0 0, .int .i64 0, .int .i64 0, .bool false]) (by intro v hv; simp only [List.mem_cons, List.not_mem_nil, or_false] at hv; rcases hv with rfl | rfl | rfl | rfl <;> rfl)) ?_; intro w7 hb hoth hsz hbel; have GG := Aside0.mk hb; have HB := Aside0.mk (hbel _ _ N1.out HP.out.bel); clear HP hb hoth hsz hbel))
      refine bodyPost_ret (results_ct rfl _ _ gg 65 #[.slice none 0 0, .int .i64 0, .int .i64 0, .bool false] (0, 0) _ rfl GG.out Tryd.underlying65 rfl size65) rfl ?_
      exact ⟨rfl, HB.out⟩
    clear HR
    cases gk with
    | zero => rw [pRun] at hrun; cases hrun
    | succ k1 =>
    cases os with
    | nil => rw [pRun] at hrun; cases hrun
    | cons o os =>
    rcases pRun_inv hrun with ⟨hlt, rfl⟩ | ⟨hlt, hos, hol, hcase⟩
    · have e1 : decide (at_ < (b.length : Int)) = false := decide_eq_false hlt
      clear hrun
      go_wp2_with (first
          | ((with_reducible refine gate_dst (N := 173) rfl ?_); refine ev_built rfl 65 rfl _ built65 ?_)
          | ((with_reducible refine gate_store (t := 65) (p := 4) (v := .tmp 173) rfl ?_); refine ev_storeB rfl 65 (.tmp 4) (.tmp 173) rfl gg #[.slice none 0 0, .int .i64 0, .int .i64 0, .bool false] rfl rfl 65 _ HP.out.got size65 rfl (all_oneCell_toArray (cs := [.slice none 0 0, .int .i64 0, .int .i64 0, .bool false]) (by intro v hv; simp only [List.mem_cons, List.not_mem_nil, or_false] at hv; rcases hv with rfl | rfl | rfl | rfl <;> rfl)) ?_; intro w7 hb hoth hsz hbel; have GG := Aside0.mk hb; have HB := Aside0.mk (hbel _ _ N1.out HP.out.bel); clear HP hb hoth hsz hbel))
      refine bodyPost_ret (results_ct rfl _ _ gg 65 #[.slice none 0 0, .int .i64 0, .int .i64 0, .bool false] (0, 0) _ rfl GG.out Tryd.underlying65 rfl size65) rfl ?_
      exact ⟨rfl, HB.out⟩
    have e1 : decide (at_ < (b.length : Int)) = true := decide_eq_true hlt
    obtain ⟨gs, cap, cells, vb, v, rfl, hcap, hmx, hgs, hcells, hrow, h16, hcl, hrv, hone⟩ := HP.out.row
    obtain ⟨ad, rfl, hx⟩ := Kd.at_int HC.out at_ HK.out.1 hlt
    have y0 : wr.cell? (ad.add at_.toNat) = some (.int .u8 (rd b at_)) := (HP.out.bel.cell (World.block_lt_of_cell? w _ hx)).trans hx
    have w1eq : wrap64 (at_ + 1) = at_ + 1 := by have := HK.out.1; unfold wrap64; omega
    have HLT := Aside0.mk hlt
    have HOS := Aside0.mk hos
    have HCL := Aside0.mk hcl
    have hz : 0 ≤ at_ := HK.out.1
    clear hrun hcells hrow h16 hcl hrv hone hgs hx
    rcases hcase with ⟨h11, rfl, rfl⟩ | ⟨h11, p, ps, rfl, hpl, hA⟩ | ⟨h11, o1, hop, hlt2, h64, hA⟩
    · -- the end
      rw [h11] at y0
      rw [List.length_nil, Nat.zero_add] at hcap hmx ⊢
      have n0_ : Aside0 (PG w wr gg gr (some ad) c b (.slice (some ⟨gs, 0, none⟩) 1 cap) css at_ false d ds own [o] []) := ⟨HP.out⟩
      clear HP
      have HP := n0_
      clear n0_
      go_wp2_with (first
        | ((with_reducible refine gate_store (t := 3) (p := 51) (v := .tmp 49) rfl ?_); refine ev_storeC rfl 3 (.tmp 51) (.tmp 49) rfl gr 1 (.int .i64 (at_ + 1)) rfl (by first | rfl | (go_simp; done) | (go_simp; rw [w1eq]) | exact congrArg (Value.int .i64) w1eq) 87 #[.slice (some ad) b.length c, .int .i64 at_, .bool false] #[.slice (some ad) b.length c, .int .i64 (at_ + 1), .bool false] HP.out.rd (show 1 < 3 by decide) size3 rfl rfl ?_; intro w4 hb hoth hsz hbel; have n0_ := Aside0.mk (HP.out.next (Nat.ne_of_lt N2.out.1) hb hoth hsz (hbel _ _ N2.out.2 HP.out.bel)); clear HP hb hoth hsz hbel; have HP := n0_; clear n0_)
        | (go_at_call 47; refine (close0_calls w _ gg gr gs (some ad) c b css (at_ + 1) d false ds own o cap N1.out (Nat.ne_of_lt N2.out.1) HP.out).mono ?_; rintro e w5 ⟨A1, c1, rfl, hg, hr, hrd, hb⟩; have GG := Aside0.mk hg; have GR := Aside0.mk hrd; have RL := Aside0.mk hr; have HB := Aside0.mk hb; have r1' : w5.cell? ⟨gr, 1, none⟩ = some (.int .i64 (at_ + 1)) := (blk_cell hrd 1).trans rfl; clear HP hg hrd hr hb)
        | ((with_reducible refine gate_store (t := 3) (p := 63) (v := .tmp 62) rfl ?_); refine ev_storeC rfl 3 (.tmp 63) (.tmp 62) rfl gg 1 (.int .i64 (at_ + 1)) rfl rfl 65 #[.slice A1 o.l.length c1, .int .i64 0, .int .i64 d, .bool ds] #[.slice A1 o.l.length c1, .int .i64 (at_ + 1), .int .i64 d, .bool ds] GG.out (show 1 < 4 by decide) size3 rfl rfl ?_; intro w6 hb hoth hsz hbel; have n1_ := Aside0.mk (Kd.R_move RL.out (fun k hk => hoth k hk)); have n2_ := Aside0.mk (hbel _ _ N1.out HB.out); clear GG RL HB; have GG := Aside0.mk hb; have RL := n1_; have HB := n2_; clear n1_ n2_ hb hoth hsz hbel)
        | ((with_reducible refine gate_dst (N := 64) rfl ?_); refine wpList_load_mid rfl 65 (.tmp 4) rfl gg 0 rfl [.slice A1 o.l.length c1, .int .i64 (at_ + 1), .int .i64 d, .bool ds] _ (rng_blk (n := 4) (cs := [.slice A1 o.l.length c1, .int .i64 (at_ + 1), .int .i64 d, .bool ds]) GG.out rfl rfl) Tryd.underlying65 rfl size65 ?_)
        | ((with_reducible refine gate_store (t := 65) (p := 4) (v := .tmp 64) rfl ?_); refine ev_storeB rfl 65 (.tmp 4) (.tmp 64) rfl gg #[.slice A1 o.l.length c1, .int .i64 (at_ + 1), .int .i64 d, .bool ds] rfl rfl 65 _ GG.out size65 rfl (all_oneCell_toArray (cs := [.slice A1 o.l.length c1, .int .i64 (at_ + 1), .int .i64 d, .bool ds]) (by intro v hv; simp only [List.mem_cons, List.not_mem_nil, or_false] at hv; rcases hv with rfl | rfl | rfl | rfl <;> rfl)) ?_; intro w7 hb hoth hsz hbel; have n1_ := Aside0.mk (Kd.R_move RL.out (fun k hk => hoth k hk)); have n2_ := Aside0.mk (hbel _ _ N1.out HB.out); clear GG RL HB; have GG := Aside0.mk hb; have RL := n1_; have HB := n2_; clear n1_ n2_ hb hoth hsz hbel))
      refine bodyPost_ret (results_ct rfl _ _ gg 65 #[.slice A1 o.l.length c1, .int .i64 (at_ + 1), .int .i64 d, .bool ds] (0, 0) _ rfl GG.out Tryd.underlying65 rfl size65) rfl ?_
      exact ⟨⟨_, _, rfl, Kd.R_mono RL.out (fun _ _ => trivial)⟩, HB.out⟩
    · -- a block's end
      rw [h11] at y0
      rw [List.length_cons] at hcap hmx ⊢
      obtain ⟨m, hm⟩ : ∃ m, m = ps.length := ⟨_, rfl⟩
      have n0_ := HP.out
      rw [List.length_cons, ← hm] at n0_
      rw [← hm] at hcap hmx ⊢
      clear HP
      have HP := Aside0.mk n0_
      have HA := Aside0.mk hA
      have HM := Aside0.mk hm
      clear n0_ hA hm
      go_wp2_with (first
        | ((with_reducible refine gate_store (t := 3) (p := 51) (v := .tmp 49) rfl ?_); refine ev_storeC rfl 3 (.tmp 51) (.tmp 49) rfl gr 1 (.int .i64 (at_ + 1)) rfl (by first | rfl | (go_simp; done) | (go_simp; rw [w1eq]) | exact congrArg (Value.int .i64) w1eq) 87 #[.slice (some ad) b.length c, .int .i64 at_, .bool false] #[.slice (some ad) b.length c, .int .i64 (at_ + 1), .bool false] HP.out.rd (show 1 < 3 by decide) size3 rfl rfl ?_; intro w4 hb hoth hsz hbel; have n0_ := Aside0.mk (HP.out.next (Nat.ne_of_lt N2.out.1) hb hoth hsz (hbel _ _ N2.out.2 HP.out.bel)); clear HP hb hoth hsz hbel; have HP := n0_; clear n0_)
        | (go_at_call 47; refine (close_calls w _ gg gr gs (some ad) c b css (at_ + 1) d false ds own o p ps m cap HM.out hpl HP.out).mono ?_; rintro e w5 ⟨own2, css2, rfl, hp5⟩; have n0_ := Aside0.mk hp5; clear HP hp5; have HP := n0_; clear n0_))
      go_roundg k1
      case measure => omega
      case rel => exact ⟨css2, at_ + 1, d, false, ds, own2, _, HP, ⟨by have := HK.out; omega, by have := HK.out; omega⟩, ⟨.inr ⟨rfl, HA.out⟩⟩⟩
    · -- a block
      have e11 : (rd b at_ == 11) = false := by rw [beq_eq_false_iff_ne]; exact h11
      obtain ⟨p0, p1, p5, q1, r2, r3, r4, r5, r6, r7, hof, hq⟩ := opF_inv hop
      obtain ⟨rfl, rfl⟩ : o1 = q1 ∧ r3 = 1 := by injection hq with e1 e2; injection e2 with e2 e3; exact ⟨e1, e2.symm⟩
      have e5 : (rd b at_ == 5) = false := by rw [beq_eq_false_iff_ne]; exact p5
      have OP := Aside0.mk (fun (W : World) (h9 : PG w W gg gr (some ad) c b (.slice (some ⟨gs, 0, none⟩) (os.length + 1) cap) css at_ false d ds own (o :: os) []) => op_calls K w W gr (some ad) c b at_ (rd b at_) HT.out h9.bel h9.rd N2.out.2 HC.out HCC.out hz hlt rfl p0 p1 hof)
      have BL := Aside0.mk (fun (W : World) (hB : Below w.heap.size w W) (hg : W.heap[gr]? = some (oRd (some ad) c b (at_ + 1) false)) => block0_calls w W gr (some ad) c b (at_ + 1) hB hg N2.out.2 HC.out HCC.out (by omega) hlt2 h64)
      obtain ⟨n, hn⟩ : ∃ n, n = os.length := ⟨_, rfl⟩
      rw [← hn] at hcap hmx ⊢
      rw [← hn] at OP
      have n0_ := HP.out
      rw [← hn] at n0_
      clear HP
      have HP := Aside0.mk n0_
      have HA := Aside0.mk hA
      have HN := Aside0.mk hn
      have HL := Aside0.mk (show css.length = n + 1 by rw [hn]; exact HCL.out)
      have HO2 := Aside0.mk (show n < 1000000000 by rw [hn]; exact hos)
      have hd0 : wr.cell? ⟨gg, 2, none⟩ = some (.int .i64 d) := (blk_cell HP.out.got 2).trans rfl
      clear n0_ hA hn hq hof hop h64 hlt2 hos HCL HOS p0 p1 p5 hd0
      go_wp2_with (first
        | (go_at_call 48; refine (OP.out _ (by first | exact HP.out | exact HP.out.drewN _)).mono ?_; rintro e w4 ⟨A3, c3, A4, c4, rfl, hS⟩; have n0_ := Aside0.mk ((show PG w _ gg gr (some ad) c b (.slice (some ⟨gs, 0, none⟩) (n + 1) cap) css at_ false d ds own (o :: os) [] by first | exact HP.out | exact HP.out.drewN _).call (Nat.ne_of_lt N2.out.1) hS.1 (.inl rfl) hS.2.1 hS.2.2.1); clear HP hS OP; have HP := n0_; clear n0_)
        | ((with_reducible refine gate_dst (N := 9) rfl ?_); refine ev_alloc rfl 79 rfl _ zero79 ?_; intro g9 hg9 w5 hb hbl; obtain ⟨own1, hp1⟩ := HP.out.alloc hbl hg9 (blk_lt hb); clear HP; have HP := Aside0.mk hp1; have B9 := Aside0.mk hb; clear hp1 hg9 hb hbl)
        | ((with_reducible refine gate_store (t := 79) (p := 9) (v := .tmp 111) rfl ?_); refine ev_storeB rfl 79 (.tmp 9) (.tmp 111) rfl g9 (infoC o1 r2 1 (.slice A3 r4.length c3) (.slice A4 r5.length c4) r6 r7).toArray rfl rfl 79 _ B9.out size79 rfl (one7 _ _ _ _ _ _ _ _ _ _ _) ?_; intro w6 hb hoth hsz hbel; have n0_ := Aside0.mk (HP.out.store (List.mem_cons_self ..) hoth hsz hbel); clear HP B9; have HP := n0_; have B9 := Aside0.mk hb; have c90 : w6.cell? ⟨g9, 0, none⟩ = some (.int .u16 o1) := (blk_cell hb 0).trans rfl; clear n0_ hb hoth hsz hbel)
        | ((with_reducible refine gate_dst (N := 114) rfl ?_); refine ev_build43 rfl (.tmp 113) rfl o1 rfl ?_)
        | ((with_reducible refine gate_dst (N := 10) rfl ?_); refine ev_alloc rfl 43 rfl _ zero43 ?_; intro g10 hg10 w7 hb hbl; obtain ⟨own2, hp1⟩ := HP.out.alloc hbl hg10 (blk_lt hb); have n1_ := Aside0.mk (blk_below B9.out hbl); have N10 : Aside0 (g9 ≠ g10) := ⟨by have h1 := blk_lt B9.out; have h3 : w6.heap.size ≤ g10 := by { rw [hg10]; exact Nat.le_refl _ }; omega⟩; clear HP B9; have HP := Aside0.mk hp1; have B9 := n1_; have B10 := Aside0.mk hb; clear hp1 n1_ hg10 hb hbl)
        | ((with_reducible refine gate_store (t := 43) (p := 10) (v := .tmp 114) rfl ?_); refine ev_storeB rfl 43 (.tmp 10) (.tmp 114) rfl g10 (cellsI { zI with op := o1 } (.slice none 0 0) (.slice none 0 0) (.slice none 0 0) (.slice none 0 0)).toArray rfl rfl 43 _ B10.out (by rw [List.size_toArray]; exact info43) rfl (all_oneCell_toArray (kI.K_one (w := w) (x := { zI with op := o1 }) (kI_mk w { zI with op := o1 } (Al := none) (At := none) (Ab := none) (Ae := none) (cl := 0) (ct := 0) (cb := 0) (ce := 0) rfl ⟨Nat.le_refl _, Kd.C_nil _ _⟩ ⟨Nat.le_refl _, Kd.C_nil _ _⟩ ⟨Nat.le_refl _, Kd.C_nil _ _⟩ ⟨Nat.le_refl _, Kd.C_nil _ _⟩))) ?_; intro w8 hb hoth hsz hbel; have n0_ := Aside0.mk (HP.out.store (List.mem_cons_self ..) hoth hsz hbel); have n1_ := Aside0.mk ((hoth _ N10.out).trans B9.out); clear HP B9 B10; have HP := n0_; have B10 := Aside0.mk hb; have c92 : w8.cell? ⟨g9, 2, none⟩ = some (.int .u8 1) := (blk_cell n1_.out 2).trans rfl; clear n0_ n1_ hb hoth hsz hbel)
        | (go_at_call 49; refine (BL.out _ HP.out.bel HP.out.rd).mono ?_; rintro e w9 ⟨rfl, hS⟩; have n0_ := Aside0.mk (HP.out.call (Nat.ne_of_lt N2.out.1) hS.1 (.inl rfl) hS.2.1 hS.2.2.1); have n1_ := Aside0.mk ((hS.2.1.2 g10 (blk_lt B10.out) (HP.out.2.2.2.2.2 g10 (List.mem_cons_self ..)).2.2.1 (by simp)).trans B10.out); clear HP B10 hS BL; have HP := n0_; have B10 := n1_; clear n0_ n1_)
        | ((with_reducible refine gate_store (t := 41) (p := 120) (v := .tmp 119) rfl ?_); refine ev_storeM rfl 41 (.tmp 120) (.tmp 119) rfl g10 22 [.int .u8 0, .int .u8 0, .int .u32 0] rfl rfl 43 _ _ B10.out (show 22 + 3 ≤ 27 by decide) size41 (by intro v hv; simp only [List.mem_cons, List.not_mem_nil, or_false] at hv; rcases hv with rfl | rfl | rfl <;> rfl) (cellsI_setk _ rfl _ _ _ _ 0 0 0) ?_; intro w10 hb hoth hsz hbel; have n0_ := Aside0.mk (HP.out.store (List.mem_cons_self ..) hoth hsz hbel); have n1_ : Aside0 (w10.heap[g10]? = some (.cells (cellsI (bkI o1 0 0 0) (.slice none 0 0) (.slice none 0 0) (.slice none 0 0) (.slice none 0 0)).toArray 43 (0, 0))) := ⟨hb⟩; clear HP B10 hb hoth hsz hbel; have HP := n0_; have B10 := n1_; clear n0_ n1_)
        | ((with_reducible refine gate_dst (N := 122) rfl ?_); refine ev_loadB rfl 43 (.tmp 10) rfl g10 0 27 (cellsI (bkI o1 0 0 0) (.slice none 0 0) (.slice none 0 0) (.slice none 0 0) (.slice none 0 0)) (cellsI (bkI o1 0 0 0) (.slice none 0 0) (.slice none 0 0) (.slice none 0 0) (.slice none 0 0)) _ rfl B10.out rfl rfl Tryd.underlying43 rfl info43 ?_)
        | ((with_reducible refine gate_dst (N := 123) rfl ?_); refine ev_built89x rfl (.tmp 122) rfl o1 0 0 0 rfl ?_)
        | ((with_reducible refine gate_dst (N := 124) rfl ?_); refine ev_lit89 w.heap.size rfl (.tmp 123) rfl (openC (bkI o1 0 0 0) (.slice none 0 0) (.slice none 0 0) (.slice none 0 0) (.slice none 0 0) (.slice none 0 0) false) rfl rfl (openC_one (o := ⟨bkI o1 0 0 0, [], false⟩) (W := w) (base := 0) (ok := fun _ => True) (ok' := fun _ => True) rfl (Kd.R_nil _ _ _ _ _) (Kd.R_nil _ _ _ _ _)) HP.out.bel.size ?_; intro A24 w11 hl24 hbl; have n0_ := Aside0.mk (HP.out.below hbl); have HL24 := Aside0.mk hl24; clear HP B10 hl24 hbl; have HP := n0_; clear n0_)
        | ((with_reducible refine gate_builtin (b := .append) (xs := #[.tmp 121, .tmp 124]) rfl ?_); at_builtin; refine Kd.R_append_rows kRaw (w0 := w) w.heap.size rfl (.tmp 121) (.tmp 124) 90 89 (.agg (openC zI (.slice none 0 0) (.slice none 0 0) (.slice none 0 0) (.slice none 0 0) (.slice none 0 0) false).toArray) 176 rfl Tryd.underlying90 info89a rfl (show 0 < 29 by decide) (by decide) (.slice (some ⟨gs, 0, none⟩) (n + 1) cap) css [openC (bkI o1 0 0 0) (.slice none 0 0) (.slice none 0 0) (.slice none 0 0) (.slice none 0 0) (.slice none 0 0) false] A24 1 1 (fun _ => True) (fun _ => False) rfl rfl HP.out.raw (Kd.R_reads' HL24.out).2.2 (fun _ _ h => h) (fun _ hk => hk.elim) (fun _ _ => trivial) HP.out.bel HP.out.bel.size ?aL ?_; (case aL => have := HL.out; have := HO2.out; omega); intro v25 w12 ho hb hg hat; have n0_ := Aside0.mk (HP.out.push rfl rfl rfl rfl rfl ho hb hg); obtain ⟨g25, c25, cells25, rfl, _, _, _, hm25⟩ := raw_form ho (by simp); have hl25 : (css ++ [openC (bkI o1 0 0 0) (.slice none 0 0) (.slice none 0 0) (.slice none 0 0) (.slice none 0 0) (.slice none 0 0) false]).length = n + 2 := (by rw [List.length_append, HL.out]; rfl); rw [hl25] at n0_ hm25 ⊢; clear HP HL24 ho hb hg hat hl25; have HP := n0_; clear n0_; have hd2 : w12.cell? ⟨gg, 2, none⟩ = some (.int .i64 d) := (blk_cell HP.out.got 2).trans rfl)
        | ((with_reducible refine gate_store (t := 3) (p := 132) (v := .tmp 131) rfl ?_); refine ev_storeC rfl 3 (.tmp 132) (.tmp 131) rfl gg 2 (.int .i64 (max d ((n : Int) + 1))) rfl (by go_simp; rw [show (n : Int) + 2 - 1 = (n : Int) + 1 by omega]) 65 #[.slice none 0 0, .int .i64 0, .int .i64 d, .bool ds] #[.slice none 0 0, .int .i64 0, .int .i64 (max d ((n : Int) + 1)), .bool ds] HP.out.got (show 2 < 4 by decide) size3 rfl rfl ?_; intro w13 hb hoth hsz hbel; have n0_ := Aside0.mk (HP.out.gotten (Nat.ne_of_lt N2.out.1) hb hoth hsz (hbel _ _ N1.out HP.out.bel)); clear HP hb hoth hsz hbel; have HP := n0_; clear n0_))
      go_roundg k1
      case measure => omega
      case rel => exact ⟨_, at_ + 1 + 1, max d ((n : Int) + 1), false, ds, _, _, HP, ⟨by have := HK.out; omega, by have := HK.out; omega⟩, ⟨.inr ⟨rfl, by rw [HN.out]; exact HA.out⟩⟩⟩
end Go.Proofs.YtobldeamemmokaaDoor.P

/-! code.Expr, Skip in general. -/
namespace Go.Proofs.YtobldeamemmokaaDoor.P
open Go.RowKit Go.Proofs.YtobldeamemmokaaDoorW.PrintWords Go.Proofs.YtobldeamemmokaaDoorW.PrintLast Go.Proofs.YtobldeamemmokaaDoorW.PrintMore
set_option linter.unusedVariables false
set_option linter.unusedSimpArgs false
theorem results_tmp4 {fn : Func} {t u v x : Tmp} (h : fn.results = #[.tmp t, .tmp u, .tmp v, .tmp x]) (tmps : Array Value) (P : Program) (w : World) :
    (results fn tmps).run P w = .ok (.tuple #[tmps.getD t undef, tmps.getD u undef, tmps.getD v undef, tmps.getD x undef]) w := by
  simp [results, h]
/-- What Expr answers. -/
def exprA (w : World) (r : Option (List I × Int × Int × Bool)) (e : Ending) (w' : World) : Prop :=
  match r with
  | none => e = .returned (.tuple #[.slice none 0 0, .int .i64 0, .int .i64 4])
  | some q => if 1000 < q.2.2.1 then e = .returned (.tuple #[.slice none 0 0, .int .i64 0, .int .i64 3]) else ∃ A1 c1, e = .returned (.tuple #[.slice A1 q.1.length c1, .int .i64 q.2.1, .int .i64 0]) ∧ kI.R 43 w' w.heap.size (fun _ => True) (.slice A1 q.1.length c1) q.1
/-- What Skip answers. -/
def skipA (r : Option (List I × Int × Int × Bool)) : Value :=
  match r with
  | none => .tuple #[.int .i64 0, .int .i64 0, .bool false, .int .i64 4]
  | some q => .tuple #[.int .i64 q.2.1, .int .i64 q.2.2.1, .bool q.2.2.2, .int .i64 0]
set_option maxHeartbeats 8000000 in
theorem ExprG_calls (K k : Nat) (A : Option Addr) (c : Nat) (b : List Int) (at0 : Int) (w : World) (hT : Go.Proofs.YtobldeamemmokaaDoorTabs.Tab w) (hc : b.length ≤ c) (hC : (Kd.int .u8).C w A b.length b) (h0 : 0 ≤ at0) (h1 : at0 ≤ b.length) (r : Option (List I × Int × Int × Bool)) (h : pRun K b k [zO] at0 0 false = some r) :
    Calls Tryd.prog 12 #[.slice A b.length c, .int .i64 at0] w fun e w' => exprA w r e w' ∧ Below w.heap.size w w' := by
  have HP := Aside0.mk (fun (W : World) (hW : Below w.heap.size w W) => parseG_calls K k A c b at0 W (hT.below hW) hc (Kd.C_below hC hW) h0 r h)
  have d0 : decide (at0 < 0) = false := decide_eq_false (by omega)
  have d1 : decide ((b.length : Int) < at0) = false := decide_eq_false (by omega)
  clear hT hc hC h h0 h1
  cases r with
  | none =>
    go_enter Tryd.func12, Tryd.ntmps12
    go_wp2_with (first
      | (go_at_call 31; refine (HP.out _ (by repeat (first | exact Below.refl _ _ | apply pw_below_drewN | apply below_drew1))).mono ?_; rintro e w1 ⟨h9, hb⟩; rw [show parseA _ none e w1 = (e = _) from rfl] at h9; subst h9; have HB := Aside0.mk (show Below w.heap.size w w1 from below_step (by repeat (first | exact Below.refl _ _ | apply pw_below_drewN | apply below_drew1)) hb); clear hb)
      | ((with_reducible refine gate_dst (N := 7) rfl ?_); refine ev_alloc rfl 65 rfl _ zero65 ?_; intro g7 hg7 w2 hb hbl; have B7 := Aside0.mk hb; have N7 : Aside0 (w.heap.size ≤ g7) := ⟨by rw [hg7]; exact HB.out.size⟩; have n0_ := Aside0.mk (below_step HB.out hbl); clear HB hg7 hb hbl; have HB := n0_; clear n0_)
      | ((with_reducible refine gate_store (t := 65) (p := 7) (v := .tmp 21) rfl ?_); refine ev_storeB rfl 65 (.tmp 7) (.tmp 21) rfl g7 #[.slice none 0 0, .int .i64 0, .int .i64 0, .bool false] rfl rfl 65 _ B7.out size65 rfl (all_oneCell_toArray (cs := [.slice none 0 0, .int .i64 0, .int .i64 0, .bool false]) (by intro v hv; simp only [List.mem_cons, List.not_mem_nil, or_false] at hv; rcases hv with rfl | rfl | rfl | rfl <;> rfl)) ?_; intro w3 hb hoth hsz hbel; have n2_ := Aside0.mk (hbel _ _ N7.out HB.out); clear B7 HB; have HB := n2_; have c0 : w3.cell? ⟨g7, 0, none⟩ = some (.slice none 0 0) := (blk_cell hb 0).trans rfl; have c1 : w3.cell? ⟨g7, 1, none⟩ = some (.int .i64 0) := (blk_cell hb 1).trans rfl; have c2 : w3.cell? ⟨g7, 2, none⟩ = some (.int .i64 0) := (blk_cell hb 2).trans rfl; have c3 : w3.cell? ⟨g7, 3, none⟩ = some (.bool false) := (blk_cell hb 3).trans rfl; clear hb hoth hsz hbel))
    go_ret3
    exact ⟨rfl, by repeat (first | exact HB.out | apply pw_below_drewN | apply below_drew1)⟩
  | some q =>
    unfold exprA
    by_cases hd : 1000 < q.2.2.1
    · simp only [if_pos hd]
      have d2 : decide (1000 < q.2.2.1) = true := decide_eq_true hd
      go_enter Tryd.func12, Tryd.ntmps12
      go_wp2_with (first
      | (go_at_call 31; refine (HP.out _ (by repeat (first | exact Below.refl _ _ | apply pw_below_drewN | apply below_drew1))).mono ?_; rintro e w1 ⟨⟨A1, c1, rfl, hr⟩, hb⟩; have HB := Aside0.mk (show Below w.heap.size w w1 from below_step (by repeat (first | exact Below.refl _ _ | apply pw_below_drewN | apply below_drew1)) hb); have RL := Aside0.mk (Kd.R_lower hr (show w.heap.size ≤ _ from (show Below w.heap.size w _ by repeat (first | exact Below.refl _ _ | apply pw_below_drewN | apply below_drew1)).size)); clear hr hb)
      | ((with_reducible refine gate_dst (N := 7) rfl ?_); refine ev_alloc rfl 65 rfl _ zero65 ?_; intro g7 hg7 w2 hb hbl; have B7 := Aside0.mk hb; have n1_ := Aside0.mk (Kd.R_mono (Kd.R_below (Kd.R_bound RL.out) hbl) (fun k hk => (by have := hk.2.2.1; have h3 : w1.heap.size ≤ g7 := by { rw [hg7]; exact Nat.le_refl _ }; omega : k ≠ g7))); have N7 : Aside0 (w.heap.size ≤ g7) := ⟨by rw [hg7]; exact HB.out.size⟩; have n0_ := Aside0.mk (below_step HB.out hbl); clear HB RL hg7 hb hbl; have HB := n0_; have RL := n1_; clear n0_ n1_)
      | ((with_reducible refine gate_store (t := 65) (p := 7) (v := .tmp 21) rfl ?_); refine ev_storeB rfl 65 (.tmp 7) (.tmp 21) rfl g7 #[.slice A1 q.1.length c1, .int .i64 q.2.1, .int .i64 q.2.2.1, .bool q.2.2.2] rfl rfl 65 _ B7.out size65 rfl (all_oneCell_toArray (cs := [.slice A1 q.1.length c1, .int .i64 q.2.1, .int .i64 q.2.2.1, .bool q.2.2.2]) (by intro v hv; simp only [List.mem_cons, List.not_mem_nil, or_false] at hv; rcases hv with rfl | rfl | rfl | rfl <;> rfl)) ?_; intro w3 hb hoth hsz hbel; have n1_ := Aside0.mk (Kd.R_move RL.out (fun k hk => hoth k hk)); have n2_ := Aside0.mk (hbel _ _ N7.out HB.out); clear B7 RL HB; have RL := n1_; have HB := n2_; have c0 : w3.cell? ⟨g7, 0, none⟩ = some (.slice A1 q.1.length c1) := (blk_cell hb 0).trans rfl; have c1 : w3.cell? ⟨g7, 1, none⟩ = some (.int .i64 q.2.1) := (blk_cell hb 1).trans rfl; have c2 : w3.cell? ⟨g7, 2, none⟩ = some (.int .i64 q.2.2.1) := (blk_cell hb 2).trans rfl; have c3 : w3.cell? ⟨g7, 3, none⟩ = some (.bool q.2.2.2) := (blk_cell hb 3).trans rfl; clear hb hoth hsz hbel))
      go_ret3
      exact ⟨rfl, by repeat (first | exact HB.out | apply pw_below_drewN | apply below_drew1)⟩
    · simp only [if_neg hd]
      have d2 : decide (1000 < q.2.2.1) = false := decide_eq_false hd
      go_enter Tryd.func12, Tryd.ntmps12
      go_wp2_with (first
      | (go_at_call 31; refine (HP.out _ (by repeat (first | exact Below.refl _ _ | apply pw_below_drewN | apply below_drew1))).mono ?_; rintro e w1 ⟨⟨A1, c1, rfl, hr⟩, hb⟩; have HB := Aside0.mk (show Below w.heap.size w w1 from below_step (by repeat (first | exact Below.refl _ _ | apply pw_below_drewN | apply below_drew1)) hb); have RL := Aside0.mk (Kd.R_lower hr (show w.heap.size ≤ _ from (show Below w.heap.size w _ by repeat (first | exact Below.refl _ _ | apply pw_below_drewN | apply below_drew1)).size)); clear hr hb)
      | ((with_reducible refine gate_dst (N := 7) rfl ?_); refine ev_alloc rfl 65 rfl _ zero65 ?_; intro g7 hg7 w2 hb hbl; have B7 := Aside0.mk hb; have n1_ := Aside0.mk (Kd.R_mono (Kd.R_below (Kd.R_bound RL.out) hbl) (fun k hk => (by have := hk.2.2.1; have h3 : w1.heap.size ≤ g7 := by { rw [hg7]; exact Nat.le_refl _ }; omega : k ≠ g7))); have N7 : Aside0 (w.heap.size ≤ g7) := ⟨by rw [hg7]; exact HB.out.size⟩; have n0_ := Aside0.mk (below_step HB.out hbl); clear HB RL hg7 hb hbl; have HB := n0_; have RL := n1_; clear n0_ n1_)
      | ((with_reducible refine gate_store (t := 65) (p := 7) (v := .tmp 21) rfl ?_); refine ev_storeB rfl 65 (.tmp 7) (.tmp 21) rfl g7 #[.slice A1 q.1.length c1, .int .i64 q.2.1, .int .i64 q.2.2.1, .bool q.2.2.2] rfl rfl 65 _ B7.out size65 rfl (all_oneCell_toArray (cs := [.slice A1 q.1.length c1, .int .i64 q.2.1, .int .i64 q.2.2.1, .bool q.2.2.2]) (by intro v hv; simp only [List.mem_cons, List.not_mem_nil, or_false] at hv; rcases hv with rfl | rfl | rfl | rfl <;> rfl)) ?_; intro w3 hb hoth hsz hbel; have n1_ := Aside0.mk (Kd.R_move RL.out (fun k hk => hoth k hk)); have n2_ := Aside0.mk (hbel _ _ N7.out HB.out); clear B7 RL HB; have RL := n1_; have HB := n2_; have c0 : w3.cell? ⟨g7, 0, none⟩ = some (.slice A1 q.1.length c1) := (blk_cell hb 0).trans rfl; have c1 : w3.cell? ⟨g7, 1, none⟩ = some (.int .i64 q.2.1) := (blk_cell hb 1).trans rfl; have c2 : w3.cell? ⟨g7, 2, none⟩ = some (.int .i64 q.2.2.1) := (blk_cell hb 2).trans rfl; have c3 : w3.cell? ⟨g7, 3, none⟩ = some (.bool q.2.2.2) := (blk_cell hb 3).trans rfl; clear hb hoth hsz hbel))
      go_quiet (fail)
      go_wp2
      go_ret3
      exact ⟨⟨_, _, rfl, by (with_reducible repeat (first | apply Kd.R_alloc | apply Kd.R_drewN | apply Kd.R_drew)); exact Kd.R_mono RL.out (fun _ _ => trivial)⟩, by repeat (first | exact HB.out | apply pw_below_drewN | apply below_drew1)⟩
set_option maxHeartbeats 8000000 in
theorem SkipG_calls (K k : Nat) (A : Option Addr) (c : Nat) (b : List Int) (at0 : Int) (w : World) (hT : Go.Proofs.YtobldeamemmokaaDoorTabs.Tab w) (hc : b.length ≤ c) (hC : (Kd.int .u8).C w A b.length b) (h0 : 0 ≤ at0) (h1 : at0 ≤ b.length) (r : Option (List I × Int × Int × Bool)) (h : pRun K b k [zO] at0 0 false = some r) :
    Calls Tryd.prog 17 #[.slice A b.length c, .int .i64 at0] w fun e w' => e = .returned (skipA r) ∧ Below w.heap.size w w' := by
  have HP := Aside0.mk (fun (W : World) (hW : Below w.heap.size w W) => parseG_calls K k A c b at0 W (hT.below hW) hc (Kd.C_below hC hW) h0 r h)
  have d0 : decide (at0 < 0) = false := decide_eq_false (by omega)
  have d1 : decide ((b.length : Int) < at0) = false := decide_eq_false (by omega)
  clear hT hc hC h h0 h1
  cases r with
  | none =>
    go_enter Tryd.func17, Tryd.ntmps17
    go_wp2_with (first
      | (go_at_call 31; refine (HP.out _ (by repeat (first | exact Below.refl _ _ | apply pw_below_drewN | apply below_drew1))).mono ?_; rintro e w1 ⟨h9, hb⟩; rw [show parseA _ none e w1 = (e = _) from rfl] at h9; subst h9; have HB := Aside0.mk (show Below w.heap.size w w1 from below_step (by repeat (first | exact Below.refl _ _ | apply pw_below_drewN | apply below_drew1)) hb); clear hb)
      | ((with_reducible refine gate_dst (N := 8) rfl ?_); refine ev_alloc rfl 65 rfl _ zero65 ?_; intro g7 hg7 w2 hb hbl; have B7 := Aside0.mk hb; have N7 : Aside0 (w.heap.size ≤ g7) := ⟨by rw [hg7]; exact HB.out.size⟩; have n0_ := Aside0.mk (below_step HB.out hbl); clear HB hg7 hb hbl; have HB := n0_; clear n0_)
      | ((with_reducible refine gate_store (t := 65) (p := 8) (v := .tmp 22) rfl ?_); refine ev_storeB rfl 65 (.tmp 8) (.tmp 22) rfl g7 #[.slice none 0 0, .int .i64 0, .int .i64 0, .bool false] rfl rfl 65 _ B7.out size65 rfl (all_oneCell_toArray (cs := [.slice none 0 0, .int .i64 0, .int .i64 0, .bool false]) (by intro v hv; simp only [List.mem_cons, List.not_mem_nil, or_false] at hv; rcases hv with rfl | rfl | rfl | rfl <;> rfl)) ?_; intro w3 hb hoth hsz hbel; have n2_ := Aside0.mk (hbel _ _ N7.out HB.out); clear B7 HB; have HB := n2_; have c0 : w3.cell? ⟨g7, 0, none⟩ = some (.slice none 0 0) := (blk_cell hb 0).trans rfl; have c1 : w3.cell? ⟨g7, 1, none⟩ = some (.int .i64 0) := (blk_cell hb 1).trans rfl; have c2 : w3.cell? ⟨g7, 2, none⟩ = some (.int .i64 0) := (blk_cell hb 2).trans rfl; have c3 : w3.cell? ⟨g7, 3, none⟩ = some (.bool false) := (blk_cell hb 3).trans rfl; clear hb hoth hsz hbel))
    (try simp only [Exit.inBlock, Exit.then])
    refine bodyPost_ret (results_tmp4 rfl _ _ _) rfl ?_
    exact ⟨rfl, by repeat (first | exact HB.out | apply pw_below_drewN | apply below_drew1)⟩
  | some q =>
    go_enter Tryd.func17, Tryd.ntmps17
    go_wp2_with (first
      | (go_at_call 31; refine (HP.out _ (by repeat (first | exact Below.refl _ _ | apply pw_below_drewN | apply below_drew1))).mono ?_; rintro e w1 ⟨⟨A1, c1, rfl, hr⟩, hb⟩; have HB := Aside0.mk (show Below w.heap.size w w1 from below_step (by repeat (first | exact Below.refl _ _ | apply pw_below_drewN | apply below_drew1)) hb); have RL := Aside0.mk (Kd.R_lower hr (show w.heap.size ≤ _ from (show Below w.heap.size w _ by repeat (first | exact Below.refl _ _ | apply pw_below_drewN | apply below_drew1)).size)); clear hr hb)
      | ((with_reducible refine gate_dst (N := 8) rfl ?_); refine ev_alloc rfl 65 rfl _ zero65 ?_; intro g7 hg7 w2 hb hbl; have B7 := Aside0.mk hb; have n1_ := Aside0.mk (Kd.R_mono (Kd.R_below (Kd.R_bound RL.out) hbl) (fun k hk => (by have := hk.2.2.1; have h3 : w1.heap.size ≤ g7 := by { rw [hg7]; exact Nat.le_refl _ }; omega : k ≠ g7))); have N7 : Aside0 (w.heap.size ≤ g7) := ⟨by rw [hg7]; exact HB.out.size⟩; have n0_ := Aside0.mk (below_step HB.out hbl); clear HB RL hg7 hb hbl; have HB := n0_; have RL := n1_; clear n0_ n1_)
      | ((with_reducible refine gate_store (t := 65) (p := 8) (v := .tmp 22) rfl ?_); refine ev_storeB rfl 65 (.tmp 8) (.tmp 22) rfl g7 #[.slice A1 q.1.length c1, .int .i64 q.2.1, .int .i64 q.2.2.1, .bool q.2.2.2] rfl rfl 65 _ B7.out size65 rfl (all_oneCell_toArray (cs := [.slice A1 q.1.length c1, .int .i64 q.2.1, .int .i64 q.2.2.1, .bool q.2.2.2]) (by intro v hv; simp only [List.mem_cons, List.not_mem_nil, or_false] at hv; rcases hv with rfl | rfl | rfl | rfl <;> rfl)) ?_; intro w3 hb hoth hsz hbel; have n1_ := Aside0.mk (Kd.R_move RL.out (fun k hk => hoth k hk)); have n2_ := Aside0.mk (hbel _ _ N7.out HB.out); clear B7 RL HB; have RL := n1_; have HB := n2_; have c0 : w3.cell? ⟨g7, 0, none⟩ = some (.slice A1 q.1.length c1) := (blk_cell hb 0).trans rfl; have c1 : w3.cell? ⟨g7, 1, none⟩ = some (.int .i64 q.2.1) := (blk_cell hb 1).trans rfl; have c2 : w3.cell? ⟨g7, 2, none⟩ = some (.int .i64 q.2.2.1) := (blk_cell hb 2).trans rfl; have c3 : w3.cell? ⟨g7, 3, none⟩ = some (.bool q.2.2.2) := (blk_cell hb 3).trans rfl; clear hb hoth hsz hbel))
    go_quiet (fail)
    go_wp2
    (try simp only [Exit.inBlock, Exit.then])
    refine bodyPost_ret (results_tmp4 rfl _ _ _) rfl ?_
    exact ⟨rfl, by repeat (first | exact HB.out | apply pw_below_drewN | apply below_drew1)⟩
end Go.Proofs.YtobldeamemmokaaDoor.P

