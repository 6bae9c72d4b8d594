import Derived.Test.YthillgpbenjldaaPx0
/-! Rows of bytes of the call's own of which every cell, the room behind the end, too, is a byte. -/
namespace Go.Proofs.Ythillgpbenjldaa.P
open Go.RowKit Go.Proofs.YthillgpbenjldaaW.PrintWords Go.Proofs.YthillgpbenjldaaW.PrintLast Go.Proofs.YthillgpbenjldaaW.PrintMore
set_option linter.unusedVariables false
set_option linter.unusedSimpArgs false
def IsU8 (u : Value) : Prop := ∃ x, u = .int .u8 x
def U8 (w : World) (o : Option Nat) : Prop := ∀ k, o = some k → ∃ cells, w.heap[k]? = some (.cells cells 5 (0, 0)) ∧ ∀ u ∈ cells.toList, IsU8 u
/-- As Kd.R of bytes, and the whole block holds bytes. -/
def T8 (w : World) (base : Nat) (ok : Nat → Prop) (v : Value) (xs : List Int) : Prop := (Kd.int .u8).R 5 w base ok v xs ∧ U8 w v.ownBlock
section
variable {w w1 : World} {base : Nat} {ok ok' : Nat → Prop} {v : Value} {xs : List Int} {o : Option Nat}
theorem U8_move (h : U8 w o) (hm : ∀ k, o = some k → w1.heap[k]? = w.heap[k]?) : U8 w1 o := fun k hk => by
  obtain ⟨c, hc, hu⟩ := h k hk
  exact ⟨c, (hm k hk).trans hc, hu⟩
theorem U8_lt (h : U8 w o) (k : Nat) (hk : o = some k) : k < w.heap.size := by
  obtain ⟨c, hc, _⟩ := h k hk
  exact (Array.getElem?_eq_some_iff.1 hc).1
theorem T8_nil (w : World) (base : Nat) (ok : Nat → Prop) : T8 w base ok (.slice none 0 0) [] := ⟨Kd.R_nil _ _ _ _ _, fun k hk => by simp [Value.ownBlock] at hk⟩
theorem T8_below (h : T8 w base ok v xs) (hb : Below w.heap.size w w1) : T8 w1 base ok v xs := ⟨Kd.R_below h.1 hb, U8_move h.2 (fun k hk => hb.block k (U8_lt h.2 k hk))⟩
theorem T8_alloc (h : T8 w base ok v xs) (o : Obj) : T8 (w.alloc o) base ok v xs := T8_below h (below_alloc (Below.refl _ _) o)
theorem T8_drew (h : T8 w base ok v xs) : T8 w.drew base ok v xs := T8_below h (below_drew (Below.refl _ _))
theorem T8_drewN (h : T8 w base ok v xs) (m : Nat) : T8 (w.drewN m) base ok v xs := T8_below h (pw_below_drewN (Below.refl _ _) m)
theorem T8_lower {base' : Nat} (h : T8 w base ok v xs) (hb : base' ≤ base) : T8 w base' ok v xs := ⟨Kd.R_lower h.1 hb, h.2⟩
theorem T8_mono (h : T8 w base ok v xs) (hok : ∀ k, ok k → ok' k) : T8 w base ok' v xs := ⟨Kd.R_mono h.1 hok, h.2⟩
theorem T8.r (h : T8 w base ok v xs) : (Kd.int .u8).R 5 w base ok v xs := h.1
theorem T8_tight (h : T8 w base ok v xs) : T8 w base (fun k => some k = v.ownBlock) v xs := ⟨Kd.R_tight rfl h.1, h.2⟩
theorem T8_elder' {u : Value} (h : T8 w base ok v xs) (hbase : ∀ k, u.ownBlock = some k → w.heap.size ≤ k) (hb : Below w.heap.size w w1) : T8 w1 base (fun k => ok k ∧ some k ≠ u.ownBlock) v xs := ⟨Kd.R_elder' h.1 hbase hb, (T8_below h hb).2⟩
theorem T8_step (h : T8 w base ok v xs) (hm : ∀ k, v.ownBlock = some k → w1.heap[k]? = w.heap[k]?) : T8 w1 base ok v xs :=
  ⟨Kd.R_of_own (own_move (Kd.own_of_R h.1) hm) h.1.1, U8_move h.2 hm⟩
end
theorem zero8 (k : Nat) : ∀ u ∈ (Builtin.zeroCells (Value.int .u8 0).cells k).toList, IsU8 u := by
  intro u hu
  unfold Builtin.zeroCells at hu
  rw [Array.toList_map] at hu
  obtain ⟨i, _, rfl⟩ := List.mem_map.1 hu
  refine ⟨0, ?_⟩
  simp [Value.cells, Nat.mod_one]
section
variable {P : Program} (w : World)
theorem run8 (base : Nat) (t ty : TypeId) (i : TypeInfo) (ht : P.underlying t = some (.slice 5)) (hi : P.info? 5 = some i) (hz : i.zero = some (.int .u8 0)) (hsize : i.size = 1) (hby : i.bytes = 1)
    (v : Value) (n : Nat) (xs : List Value) (hown : w.ownsRow base 5 1 v n xs) (hU : U8 w v.ownBlock)
    (a : Addr) (m c : Nat) (news : List Value) (hl : news.length = m * 1) (hnews : ∀ j u, news[j]? = some u → w.cell? (a.add j) = some u) (hu : ∀ u ∈ news, IsU8 u)
    (hbytes : n + m ≤ 140737488355328) (hbase : base ≤ w.heap.size) :
    ∃ v' w', (Builtin.append_ #[t, t] ty #[v, .slice (some a) m c]).run P w = .ok v' w' ∧ w'.ownsRow base 5 1 v' (n + m) (xs ++ news) ∧ w.grownBy w' v.ownBlock ∧
      (v'.ownBlock = v.ownBlock ∨ v'.ownBlock = some w.heap.size) ∧ U8 w' v'.ownBlock := by
  have h1 : ∀ u ∈ news, u.oneCell' = true := fun u hq => by obtain ⟨x, rfl⟩ := hu u hq; rfl
  obtain ⟨v', w', hr, h2, h3, h4, h5⟩ := run_append_own_at (P := P) w base t ty 5 i (.int .u8 0) 1 1 ht hi hz hsize hby rfl (by omega) v n xs hown a m c news hl hnews h1 (by simp only [maxLen]; omega) (by omega) hbase
  refine ⟨v', w', hr, h2, h3, h5, ?_⟩
  have hl' : news.length = m * i.size := by rw [hsize]; exact hl
  rcases hown.2 with ⟨rfl, rfl⟩ | ⟨g, cap, cur, rfl, hbg, hg, hnc, hcm, hcs, htake⟩
  · by_cases hm : m = 0
    · rw [h4.2 ⟨rfl, hm⟩]
      intro k hk
      simp [Value.ownBlock] at hk
    · have hr2 := run_append_nil (P := P) w t ty 5 i (.int .u8 0) ht hi hz a m c news hl' hnews (by omega) (by omega) (by rw [hby]; omega)
      injection hr.symm.trans hr2 with e1 e2
      subst e1 e2
      intro k hk
      have hk' : w.heap.size = k := by simpa [Value.ownBlock] using hk
      subst hk'
      refine ⟨_, heap_alloc_new w.drew _, fun u hq => ?_⟩
      rw [Array.toList_append] at hq
      rcases List.mem_append.1 hq with hq | hq
      · exact hu u (by simpa using hq)
      · exact zero8 _ u hq
  · obtain ⟨cur', hc', htyp⟩ := hU g (by simp [Value.ownBlock])
    have ec : cur' = cur := by
      rw [hg] at hc'
      injection hc' with hc'
      injection hc' with hc' _
      exact hc'.symm
    subst ec
    by_cases hroom : n + m ≤ cap
    · have hr2 := run_append_room (P := P) w t ty 5 i ht hi g n cap cur' hg a m c news hl' hnews h1 hroom (by rw [hsize]; omega)
      injection hr.symm.trans hr2 with e1 e2
      subst e1 e2
      intro k hk
      have hk' : g = k := by simpa [Value.ownBlock] using hk
      subst hk'
      refine ⟨_, setRow_heap w g cur' _ 5 _ hg, fun u hq => ?_⟩
      simp only [List.mem_append] at hq
      rcases hq with (hq | hq) | hq
      · exact htyp u (List.mem_of_mem_take hq)
      · exact hu u hq
      · exact htyp u (List.mem_of_mem_drop hq)
    · have holds : ∀ j u, xs[j]? = some u → w.cell? ((⟨g, 0, none⟩ : Addr).add j) = some u := hown.cells (g := g) rfl
      have hr2 := run_append_grow (P := P) w t ty 5 i (.int .u8 0) ht hi hz ⟨g, 0, none⟩ n cap xs (by rw [hsize]; exact hown.1) holds a m c news hl' hnews (by omega) (by omega) (by rw [hby]; exact growslice_fits (by omega) (by omega))
      injection hr.symm.trans hr2 with e1 e2
      subst e1 e2
      intro k hk
      have hk' : w.heap.size = k := by simpa [Value.ownBlock] using hk
      subst hk'
      refine ⟨_, heap_alloc_new w.drew _, fun u hq => ?_⟩
      simp only [Array.toList_append, List.mem_append] at hq
      rcases hq with (hq | hq) | hq
      · rw [← htake] at hq
        exact htyp u (List.mem_of_mem_take (by simpa using hq))
      · exact hu u (by simpa using hq)
      · exact zero8 _ u hq
end
theorem T8_of_own {w : World} {base : Nat} {ok : Nat → Prop} {v : Value} {xs : List Int} {n : Nat} {ys : List Value} (ho : w.ownsRow base 5 1 v n ys) (hn : n = xs.length) (hy : ys = encs (Value.int .u8) xs) (hok : ∀ k, v.ownBlock = some k → ok k) (hU : U8 w v.ownBlock) : T8 w base ok v xs := by
  subst hn hy
  exact ⟨Kd.R_of_own ho hok, hU⟩
theorem encs_u8 (ys : List Int) : ∀ u ∈ encs (Value.int .u8) ys, IsU8 u := by
  intro u hu
  obtain ⟨x, _, rfl⟩ := List.mem_map.1 hu
  exact ⟨x, rfl⟩
section
variable {P : Program} {ops : Array Oper} {rest : List Oper} {o : Oper} {a : Act} {Q : Exit → Act → World → Prop}
theorem at_ok {W : World} {v v1 : Value} {ok : Nat → Prop} (h0 : ∀ k, v.ownBlock = some k → ok k) (hfresh : ∀ k, W.heap.size ≤ k → ok k) (hat : v1.ownBlock = v.ownBlock ∨ v1.ownBlock = some W.heap.size) : ∀ k, v1.ownBlock = some k → ok k := by
  intro k hk
  rcases hat with hat | hat
  · exact h0 k (hat ▸ hk)
  · rw [hat] at hk
    injection hk with hk
    exact hfresh k (by omega)
/-- append(v, x), behind 'at_builtin'; as Kd.R_append. -/
theorem T8_append {w0 W : World} (base : Nat) (hgd : o.guard = none) (s x : Operand) (t : TypeId)
    (ho : o.op = .call { callee := .builtin .append, args := #[s, x], argTypes := #[t, t] })
    (ht : P.underlying t = some (.slice 5)) (hinfo : (P.info? 5).map (fun i => (i.zero, i.size, i.bytes)) = some (some (.int .u8 0), 1, 1))
    (v : Value) (xs : List Int) (p : Int) (cs : List Value) (ok okp : Nat → Prop) (hs : a.eval s = v) (hx : a.eval x = .slice (some ⟨W.heap.size, 0, none⟩) 1 1) (hp : (Kd.int .u8).M W base okp p cs) (hokp : ∀ k, okp k → ok k ∧ some k ≠ v.ownBlock) (hfresh : ∀ k, W.heap.size ≤ k → ok k)
    (HO : T8 W base ok v xs) (HB : Below base w0 W) (hbase : base ≤ W.heap.size) (hl : (xs.length + 1) * 1 ≤ 140737488355328)
    (h : ∀ v1 w1, T8 w1 base ok v1 (xs ++ [p]) → Below base w0 w1 → W.grownBy w1 v.ownBlock → (v1.ownBlock = v.ownBlock ∨ ∃ b, v1.ownBlock = some b ∧ W.heap.size ≤ b) → wpList P ops Q rest (a.put o.dst v1) w1) :
    wpList P ops Q (o :: rest) a (W.alloc (.cells cs.toArray 5)) := by
  obtain rfl : cs = [.int .u8 p] := hp
  obtain ⟨i0, hi, hzz⟩ := Option.map_eq_some_iff.1 hinfo
  simp only [Prod.mk.injEq] at hzz
  obtain ⟨hz0, hz1, hz2⟩ := hzz
  have HO' := T8_alloc HO (.cells [Value.int .u8 p].toArray 5)
  obtain ⟨v1, w1, hr1, h2, hg, hat, hU⟩ := run8 (P := P) (W.alloc (.cells [Value.int .u8 p].toArray 5)) base t o.type i0 ht hi hz0 hz1 hz2 v xs.length _ (Kd.own_of_R HO'.1) HO'.2 ⟨W.heap.size, 0, none⟩ 1 1 [.int .u8 p] (by simp)
    (by simpa using World.news_of_block (cs := #[Value.int .u8 p]) (t := 5) (fr := (0, 0)) (heap_alloc_new W (.cells #[Value.int .u8 p] 5))) (fun u hu => ⟨p, by simpa using hu⟩) (by omega) (by simp; omega)
  refine wpList_plain hgd fun K hK => ?_
  unfold Oper.wp execOp
  simp only [ho, resolve, invoke, builtin, Sem.run_bind, Sem.run_pure, Result.andThen_ok, List.map_toArray, List.map_cons, List.map_nil, hs, hx, hr1]
  refine hK _ _ (h v1 w1 (T8_of_own h2 (by simp) (by simp [encs]) (at_ok HO.1.1 (fun k hk => hfresh k (by simp at hk; omega)) hat) hU) ((HB.alloc hbase _).grown hg (by simp; omega) (own_base (Kd.own_of_R HO.1))) (World.grownBy.trans (World.grownBy_alloc W _ _) hg) ?_)
  rcases hat with hat | hat
  · exact .inl hat
  · exact .inr ⟨_, hat, by simp⟩
/-- append(v, ys...), as Kd.R_append_rows. -/
theorem T8_append_rows {w0 W : World} (base : Nat) (hgd : o.guard = none) (s x : Operand) (t : TypeId)
    (ho : o.op = .call { callee := .builtin .append, args := #[s, x], argTypes := #[t, t] })
    (ht : P.underlying t = some (.slice 5)) (hinfo : (P.info? 5).map (fun i => (i.zero, i.size, i.bytes)) = some (some (.int .u8 0), 1, 1))
    (v : Value) (xs ys : List Int) (A : Option Addr) (m c : Nat) (ok okp : Nat → Prop) (hs : a.eval s = v) (hx : a.eval x = .slice A m c)
    (HO : T8 W base ok v xs) (HR : (Kd.int .u8).C W A m ys) (hfresh : ∀ k, W.heap.size ≤ k → ok k)
    (HB : Below base w0 W) (hbase : base ≤ W.heap.size) (hl : (xs.length + m) * 1 ≤ 140737488355328)
    (h : ∀ v1 w1, T8 w1 base ok v1 (xs ++ ys) → Below base w0 w1 → W.grownBy w1 v.ownBlock → (v1.ownBlock = v.ownBlock ∨ ∃ b, v1.ownBlock = some b ∧ W.heap.size ≤ b) → wpList P ops Q rest (a.put o.dst v1) w1) :
    wpList P ops Q (o :: rest) a W := by
  obtain ⟨i0, hi, hzz⟩ := Option.map_eq_some_iff.1 hinfo
  simp only [Prod.mk.injEq] at hzz
  obtain ⟨hz0, hz1, hz2⟩ := hzz
  have HR' := Kd.reads_of_C (enc := Value.int .u8) (d := (0 : Int)) (h1 := fun _ => rfl) HR
  have hm : ys.length = m := HR'.1
  have hrun : ∃ v1 w1, (Builtin.append_ #[t, t] o.type #[v, .slice A m c]).run P W = .ok v1 w1 ∧ T8 w1 base ok v1 (xs ++ ys) ∧ W.grownBy w1 v.ownBlock ∧ (v1.ownBlock = v.ownBlock ∨ ∃ b, v1.ownBlock = some b ∧ W.heap.size ≤ b) := by
    have hown := Kd.own_of_R HO.1
    rcases A with _ | ad
    · have h0 : m = 0 := by
        rcases Nat.eq_zero_or_pos m with h0 | h0
        · exact h0
        · obtain ⟨ad, h, _⟩ := HR'.2.2 h0
          cases h
      subst h0
      obtain rfl : ys = [] := List.eq_nil_of_length_eq_zero hm
      refine ⟨v, W, ?_, by rw [List.append_nil]; exact HO, World.grownBy.refl W _, .inl rfl⟩
      rcases hown.2 with ⟨rfl, hn⟩ | ⟨g, cap, cur, rfl, _, _, hnc, _⟩
      · simp [Builtin.append_, run_underlying ht, sizeOf, typeInfo, hi, Builtin.lenOf, Builtin.firstCells]
      · simp [Builtin.append_, run_underlying ht, sizeOf, typeInfo, hi, Builtin.lenOf, Builtin.firstCells, hnc, storeCells]
    · have hc : ∀ j u, (encs (Value.int .u8) ys)[j]? = some u → W.cell? (ad.add j) = some u := by
        intro j u hj
        have hjl : j < ys.length := by
          rcases Nat.lt_or_ge j ys.length with h | h
          · exact h
          · rw [List.getElem?_eq_none (by rw [encs_length]; exact h)] at hj
            cases hj
        obtain ⟨ad', e, hcell⟩ := HR'.2.2 (by omega)
        injection e with e
        subst e
        rw [hcell j (by omega)]
        rw [encs_get (d := (0 : Int)) ys j hjl] at hj
        exact hj
      obtain ⟨v1, w1, hr1, h2, hg, hat, hU⟩ := run8 (P := P) W base t o.type i0 ht hi hz0 hz1 hz2 v xs.length _ hown HO.2 ad m c (encs (Value.int .u8) ys) (by rw [encs_length, hm, Nat.mul_one]) hc (encs_u8 ys) (by omega) hbase
      refine ⟨v1, w1, hr1, T8_of_own h2 (by rw [List.length_append, hm]) (by rw [encs_append]) (at_ok HO.1.1 hfresh hat) hU, hg, ?_⟩
      rcases hat with hat | hat
      · exact .inl hat
      · exact .inr ⟨_, hat, Nat.le_refl _⟩
  obtain ⟨v1, w1, hr1, h1, hg, hat⟩ := hrun
  refine wpList_plain hgd fun K hK => ?_
  unfold Oper.wp execOp
  simp only [ho, resolve, invoke, builtin, Sem.run_bind, Sem.run_pure, Result.andThen_ok, List.map_toArray, List.map_cons, List.map_nil, hs, hx, hr1]
  exact hK _ _ (h v1 w1 h1 (HB.grown hg hbase (own_base (Kd.own_of_R HO.1))) hg hat)
end
/-- The whole block, laid open. -/
theorem T8_open {w : World} {base : Nat} {ok : Nat → Prop} {v : Value} {xs : List Int} (h : T8 w base ok v xs) : (v = .slice none 0 0 ∧ xs = []) ∨ ∃ g ys, v = .slice (some ⟨g, 0, none⟩) xs.length ys.length ∧ xs.length ≤ ys.length ∧ ys.length ≤ maxLen ∧ base ≤ g ∧ (Kd.int .u8).R 5 w base ok (.slice (some ⟨g, 0, none⟩) ys.length ys.length) ys := by
  have hown := Kd.own_of_R h.1
  have h0 := h.1.1
  rcases hown.2 with ⟨rfl, hn⟩ | ⟨g, cap, cur, rfl, hbg, hg, hnc, hcm, hcs, htake⟩
  · exact .inl ⟨rfl, List.eq_nil_of_length_eq_zero hn⟩
  · obtain ⟨cur', hc', htyp⟩ := h.2 g (by simp [Value.ownBlock])
    have ec : cur' = cur := by
      rw [hg] at hc'
      injection hc' with hc'
      injection hc' with hc' _
      exact hc'.symm
    subst ec
    obtain ⟨ys, hys⟩ : ∃ ys : List Int, cur'.toList = encs (Value.int .u8) ys := by
      clear hcs htake hg hc'
      revert htyp
      generalize cur'.toList = l
      intro htyp
      induction l with
      | nil => exact ⟨[], rfl⟩
      | cons u l ih =>
        obtain ⟨x, rfl⟩ := htyp u (by simp)
        obtain ⟨ys, rfl⟩ := ih (fun u hu => htyp u (by simp [hu]))
        exact ⟨x :: ys, rfl⟩
    have hlen : ys.length = cap := by
      have := congrArg List.length hys
      rw [encs_length, Array.length_toList] at this
      omega
    subst hlen
    refine .inr ⟨g, ys, rfl, hnc, hcm, hbg, Kd.R_of_own ⟨by rw [encs_length, Nat.mul_one], .inr ⟨g, ys.length, cur', rfl, hbg, hg, Nat.le_refl _, hcm, hcs, ?_⟩⟩ h0⟩
    rw [Nat.mul_one, hys, List.take_of_length_le (by rw [encs_length]; exact Nat.le_refl _)]
end Go.Proofs.Ythillgpbenjldaa.P
