/- What leb.U and leb.S answer, as plain functions on lists: the words 'Us' and 'Ss'; that the printed functions come to them. -/
import Derived.Test.YthillgpbenjldaaPx5
import Derived.Test.YthillgpbenjldaaMa
namespace Go.Proofs.Ythillgpbenjldaa.LebM
open Go.RowKit Go.Proofs.YthillgpbenjldaaW.PrintWords Go.Proofs.YthillgpbenjldaaW.PrintLast Go.Proofs.YthillgpbenjldaaW.PrintMore Go.Proofs.Ythillgpbenjldaa.P

def room (w : Int) : Nat := ((w + 6) / 7).toNat
def Us (l : List Int) (a w : Int) : Int × Int × Int :=
  if 1 ≤ w ∧ w ≤ 64 ∧ 0 ≤ a ∧ a ≤ l.length then
    match cnt (room w) (l.drop a.toNat) with
    | none => (0, 0, 4)
    | some n => if val (dig (l.drop a.toNat) n) < 2 ^ w.toNat then (val (dig (l.drop a.toNat) n), a + n, 0) else (0, 0, 4)
  else (0, 0, 2)
theorem room_bd {w : Int} (h1 : 1 ≤ w) (h2 : w ≤ 64) : 1 ≤ room w ∧ room w ≤ 10 ∧ 7 * ((room w : Int) - 1) ≤ w - 1 ∧ w ≤ 7 * (room w : Int) := by
  unfold room; omega
theorem room_wrap {w : Int} (h1 : 1 ≤ w) (h2 : w ≤ 64) : wrap64 (Int.tdiv (wrap64 (w + 6)) 7) = (room w : Int) := by
  have e : wrap64 (w + 6) = w + 6 := w64 (by omega) (by omega)
  rw [e, Int.tdiv_eq_ediv_of_nonneg (by omega), w64 (by omega) (by omega)]; unfold room; omega
theorem p2_le {a b : Nat} (h : a ≤ b) : (2 : Int) ^ a ≤ 2 ^ b := by
  have := Nat.pow_le_pow_right (n := 2) (by decide) h
  exact_mod_cast this
theorem may_eq (l : List Int) (a w : Int) : leb_may.f l a w = some (decide (1 ≤ w ∧ w ≤ 64 ∧ 0 ≤ a ∧ a ≤ l.length)) := by
  unfold leb_may.f
  by_cases h1 : w ≥ 1 <;> by_cases h2 : w ≤ 64 <;> by_cases h3 : a ≥ 0 <;> simp [h1, h2, h3] <;> omega
/-- the place behind the last group, or -1 -/
def endOf (m : Nat) (l : List Int) (at_ : Int) : Int := match cnt m l with | none => -1 | some n => at_ + n

theorem end_loop (l : List Int) (hl : l.length ≤ 140737488351232) (a : Nat) (M : Nat) (hM : M ≤ 10) (d : Nat) :
    ∀ (k : Nat) (i : Nat), i ≤ M → M - i = d → a + i ≤ l.length → d < k →
      leb_end.l0 k l (a : Int) (M : Int) (i : Int) = some (endOf (M - i) (l.drop (a + i)) ((a : Int) + i)) := by
  induction d with
  | zero =>
    intro k i h0 h1 h2 hk
    obtain ⟨k, rfl⟩ : ∃ m, k = m + 1 := ⟨k - 1, by omega⟩
    simp only [leb_end.l0]; rw [if_neg (by omega), h1]; simp [endOf, cnt]
  | succ d ih =>
    intro k i h0 h1 h2 hk
    obtain ⟨k, rfl⟩ : ∃ m, k = m + 1 := ⟨k - 1, by omega⟩
    have e1 : wrap64 ((a : Int) + i) = (a : Int) + i := w64 (by omega) (by omega)
    simp only [leb_end.l0]; rw [if_pos (by omega), e1, h1]
    by_cases hlt : a + i < l.length
    · rw [if_neg (by omega), if_pos (by omega), if_pos (by omega)]
      have hr : rd l ((a : Int) + i) = l[a + i] := by
        have := rd_get (l := l) (i := a + i) hlt
        simpa using this
      rw [hr, List.drop_eq_getElem_cons hlt]
      by_cases hc : l[a + i] < 128
      · rw [if_pos hc, w64 (by omega) (by omega)]; simp [endOf, cnt, hc]
      · rw [if_neg hc, w64 (by omega) (by omega)]
        have := ih k (i + 1) (by omega) (by omega) (by omega) (by omega)
        have e3 : ((i + 1 : Nat) : Int) = (i : Int) + 1 := by omega
        rw [e3] at this
        rw [this]
        have e2 : M - (i + 1) = d := by omega
        rw [e2]
        simp only [endOf, cnt, if_neg hc, Nat.add_assoc]
        rcases cnt d (l.drop (a + (i + 1))) with _ | n
        · rfl
        · simp; omega
    · rw [if_pos (by omega)]
      have : l.drop (a + i) = [] := List.drop_eq_nil_of_le (by omega)
      rw [this]; simp [endOf, cnt]

theorem end_ev {l : List Int} (hl : l.length ≤ 140737488351232) {a w : Int} (h1 : 1 ≤ w) (h2 : w ≤ 64) (h3 : 0 ≤ a) (h4 : a ≤ l.length) :
    Ev (fun k => leb_end.f k l a w) (endOf (room w) (l.drop a.toNat) a) := by
  have hb := room_bd h1 h2
  refine ⟨room w + 1, fun k hk => ?_⟩
  obtain ⟨n, rfl⟩ := Int.eq_ofNat_of_zero_le h3
  unfold leb_end.f
  rw [room_wrap h1 h2]
  have := end_loop l hl n (room w) (by omega) (room w) k 0 (by omega) (by omega) (by omega) (by omega)
  simpa using this

/-- a digit shifted up and down again: it stays just if it fits 64 bits; and what is left of it above a width -/
theorem up_down {d : Int} {i b : Nat} (h0 : 0 ≤ d) (hi : 7 * i ≤ 63) (hb : b ≤ 63) :
    (shr .u64 (shl .u64 d (7 * (i : Int))) (7 * (i : Int)) = d ∧ shr .u64 (shl .u64 d (7 * (i : Int))) (b : Int) = 0 ∧ shl .u64 d (7 * (i : Int)) = d * 2 ^ (7 * i) ∧ d * 2 ^ (7 * i) < 2 ^ b) ∨
    (2 ^ b ≤ d * 2 ^ (7 * i) ∧ (shr .u64 (shl .u64 d (7 * (i : Int))) (7 * (i : Int)) ≠ d ∨ shr .u64 (shl .u64 d (7 * (i : Int))) (b : Int) ≠ 0)) := by
  have hp : (0 : Int) < 2 ^ (7 * i) := Int.pow_pos (by decide)
  have hp2 : (0 : Int) < 2 ^ b := Int.pow_pos (by decide)
  have e1 : shl .u64 d (7 * (i : Int)) = (d * 2 ^ (7 * i)) % 18446744073709551616 := by
    have : min (7 * (i : Int)).toNat IntKind.u64.bits = 7 * i := by simp only [IntKind.bits]; omega
    unfold shl; rw [this, u64m]
  have e2 : ∀ x, shr .u64 x (7 * (i : Int)) = x / 2 ^ (7 * i) := by
    intro x
    have : min (7 * (i : Int)).toNat IntKind.u64.bits = 7 * i := by simp only [IntKind.bits]; omega
    unfold shr; rw [this]
  have e3 : ∀ x, shr .u64 x (b : Int) = x / 2 ^ b := by
    intro x
    have : min (b : Int).toNat IntKind.u64.bits = b := by simp only [IntKind.bits]; omega
    unfold shr; rw [this]
  rw [e2, e3, e1]
  have hn : 0 ≤ d * 2 ^ (7 * i) := Int.mul_nonneg h0 (by omega)
  by_cases hs : d * 2 ^ (7 * i) < 18446744073709551616
  · rw [Int.emod_eq_of_lt hn hs]
    by_cases hw : d * 2 ^ (7 * i) < 2 ^ b
    · exact .inl ⟨Int.mul_ediv_cancel _ (by omega), Int.ediv_eq_zero_of_lt hn hw, rfl, hw⟩
    · refine .inr ⟨by omega, .inr ?_⟩
      have h := Int.le_ediv_of_mul_le (a := 1) hp2 (by omega : 1 * 2 ^ b ≤ d * 2 ^ (7 * i))
      omega
  · have hb2 : (2 : Int) ^ b ≤ 2 ^ 63 := p2_le hb
    refine .inr ⟨by omega, .inl ?_⟩
    intro h
    have h5 : (d * 2 ^ (7 * i)) % 18446744073709551616 < 18446744073709551616 := Int.emod_lt_of_pos _ (by decide)
    have h6 : (d * 2 ^ (7 * i)) % 18446744073709551616 / 2 ^ (7 * i) * 2 ^ (7 * i) ≤ (d * 2 ^ (7 * i)) % 18446744073709551616 := Int.ediv_mul_le _ (by omega)
    rw [h] at h6
    omega
/-- likewise where the width is 64: nothing more is asked -/
theorem up_down64 {d : Int} {i : Nat} (h0 : 0 ≤ d) (hi : 7 * i ≤ 63) :
    (shr .u64 (shl .u64 d (7 * (i : Int))) (7 * (i : Int)) = d ∧ shl .u64 d (7 * (i : Int)) = d * 2 ^ (7 * i) ∧ d * 2 ^ (7 * i) < 2 ^ 64) ∨
    (2 ^ 64 ≤ d * 2 ^ (7 * i) ∧ shr .u64 (shl .u64 d (7 * (i : Int))) (7 * (i : Int)) ≠ d) := by
  have hp : (0 : Int) < 2 ^ (7 * i) := Int.pow_pos (by decide)
  have hm : min (7 * (i : Int)).toNat IntKind.u64.bits = 7 * i := by simp only [IntKind.bits]; omega
  have e1 : shl .u64 d (7 * (i : Int)) = (d * 2 ^ (7 * i)) % 18446744073709551616 := by
    unfold shl; rw [hm, u64m]
  have e2 : ∀ x, shr .u64 x (7 * (i : Int)) = x / 2 ^ (7 * i) := by
    intro x; unfold shr; rw [hm]
  rw [e2, e1]
  have hn : 0 ≤ d * 2 ^ (7 * i) := Int.mul_nonneg h0 (by omega)
  by_cases hs : d * 2 ^ (7 * i) < 18446744073709551616
  · rw [Int.emod_eq_of_lt hn hs]
    exact .inl ⟨Int.mul_ediv_cancel _ (by omega), rfl, by omega⟩
  · refine .inr ⟨by omega, ?_⟩
    intro h
    have h5 : (d * 2 ^ (7 * i)) % 18446744073709551616 < 18446744073709551616 := Int.emod_lt_of_pos _ (by decide)
    have h6 : (d * 2 ^ (7 * i)) % 18446744073709551616 / 2 ^ (7 * i) * 2 ^ (7 * i) ≤ (d * 2 ^ (7 * i)) % 18446744073709551616 := Int.ediv_mul_le _ (by omega)
    rw [h] at h6
    omega
/-- one digit more stays below the width -/
theorem acc_lt {acc d : Int} {i b : Nat} (ha : acc < 2 ^ (7 * i)) (h : d * 2 ^ (7 * i) < 2 ^ b) (hi : 7 * i ≤ b) : acc + d * 2 ^ (7 * i) < 2 ^ b := by
  have hp : (0 : Int) < 2 ^ (7 * i) := Int.pow_pos (by decide)
  have e : (2 : Int) ^ b = 2 ^ (b - 7 * i) * 2 ^ (7 * i) := by rw [← Int.pow_add]; congr 1; omega
  rw [e] at h ⊢
  have h1 : d < 2 ^ (b - 7 * i) := Int.lt_of_mul_lt_mul_right h (by omega)
  have h2 : (d + 1) * 2 ^ (7 * i) ≤ 2 ^ (b - 7 * i) * 2 ^ (7 * i) := Int.mul_le_mul_of_nonneg_right (by omega) (by omega)
  rw [Int.add_mul] at h2
  omega
theorem val_ge_digit {l : List Int} (hd : Digits l) {i : Nat} (h : i < l.length) : l[i] * 2 ^ (7 * i) ≤ val l := by
  have e := val_split l (i + 1) (by omega)
  have h1 := val_nonneg (digits_take hd i)
  have h2 := val_nonneg (digits_drop hd (i + 1))
  rw [val_take_succ h] at e
  have h3 : (0 : Int) ≤ 2 ^ (7 * (i + 1)) * val (l.drop (i + 1)) := Int.mul_nonneg (Int.le_of_lt (Int.pow_pos (by decide))) h2
  omega

theorem shift7 {i : Nat} (hi : 7 * i ≤ 63) : IntKind.u64.wrap (7 * IntKind.u64.wrap (i : Int)) = 7 * (i : Int) := by
  rw [u64w (x := (i : Int)) (by omega) (by omega), u64w (by omega) (by omega)]

theorem dig_get {L : List Int} {n i : Nat} (hn : n ≤ L.length) (hi : i < n) : (dig L n)[i]'(by rw [dig_length hn]; exact hi) = L[i]'(by omega) % 128 := by
  simp [dig]

theorem U_loop {L : List Int} (hL : Bytes L) (n : Nat) (hn : L.length = n) {w : Int} (h1 : 1 ≤ w) (h2 : w ≤ 64) (h7 : 7 * ((n : Int) - 1) ≤ w - 1) (nxt : Int) (d : Nat) :
    ∀ (k i : Nat) (acc : Int), i ≤ n → n - i = d → acc = val ((dig L n).take i) → acc < 2 ^ w.toNat → d < k →
      leb_U.l0 k w acc nxt L (n : Int) (i : Int) = some (if val (dig L n) < 2 ^ w.toNat then (val (dig L n), nxt, 0) else (0, 0, 4)) := by
  have hdg := dig_digits L n
  have hdl := dig_length (l := L) (n := n) (by omega)
  induction d with
  | zero =>
    intro k i acc h0 h3 ha hb hk
    obtain ⟨k, rfl⟩ : ∃ m, k = m + 1 := ⟨k - 1, by omega⟩
    have hi : i = n := by omega
    subst hi
    simp only [leb_U.l0]; rw [if_neg (by omega)]
    rw [List.take_of_length_le (by omega)] at ha
    rw [← ha, if_pos hb]
  | succ d ih =>
    intro k i acc h0 h3 ha hb hk
    obtain ⟨k, rfl⟩ : ∃ m, k = m + 1 := ⟨k - 1, by omega⟩
    have hi : i < n := by omega
    have hc := hL L[i] (List.getElem_mem _)
    have hr : rd L (i : Int) = L[i] := rd_get (by omega)
    have hd : (dig L n)[i]'(by omega) = L[i] % 128 := dig_get (by omega) hi
    have hacc : acc < 2 ^ (7 * i) := by
      have := val_lt (digits_take hdg i)
      rw [← ha, p128, List.length_take, Nat.min_eq_left (by omega)] at this
      exact this
    have hacc0 : 0 ≤ acc := by rw [ha]; exact val_nonneg (digits_take hdg i)
    have hge := val_ge_digit hdg (i := i) (by omega)
    have hsucc : acc + L[i] % 128 * 2 ^ (7 * i) = val ((dig L n).take (i + 1)) := by rw [val_take_succ (by omega), ← ha, hd]
    have e3 : ((i + 1 : Nat) : Int) = (i : Int) + 1 := by omega
    have go : ∀ X, X = L[i] % 128 * 2 ^ (7 * i) → X < 2 ^ w.toNat →
        leb_U.l0 k w (Go.bits .or .u64 acc X) nxt L (n : Int) (wrap64 ((i : Int) + 1)) = some (if val (dig L n) < 2 ^ w.toNat then (val (dig L n), nxt, 0) else (0, 0, 4)) := by
      intro X hX hX2
      subst hX
      have hnew := acc_lt hacc hX2 (by omega)
      have hle : (2 : Int) ^ w.toNat ≤ 2 ^ 64 := p2_le (by omega)
      rw [orAdd _ _ hacc0 hacc (by omega) (by omega), w64 (by omega) (by omega), ← e3]
      exact ih k (i + 1) _ (by omega) (by omega) hsucc hnew (by omega)
    have hm : L[i] % 128 ≤ 18446744073709551615 := by omega
    simp only [leb_U.l0]
    rw [if_pos (by omega), if_pos (by omega), if_pos (by omega), hr, and127 hc.1 hc.2, u64w (x := L[i] % 128) (by omega) hm, shift7 (by omega), if_pos (by omega)]
    rw [hd] at hge
    by_cases hw : w < 64
    · have ew : IntKind.u64.wrap w = (w.toNat : Int) := by rw [u64w (by omega) (by omega)]; omega
      rw [if_pos hw, ew, if_pos (by omega : (0 : Int) ≤ (w.toNat : Int))]
      rcases up_down (d := L[i] % 128) (i := i) (b := w.toNat) (by omega) (by omega) (by omega) with ⟨q1, q2, q3, q4⟩ | ⟨q1, q2⟩
      · rw [if_pos q1, if_pos q2]
        exact go _ q3 (by rw [q3]; exact q4)
      · rw [if_neg (c := val (dig L n) < 2 ^ w.toNat) (by omega)]
        by_cases q : shr .u64 (shl .u64 (L[i] % 128) (7 * (i : Int))) (7 * (i : Int)) = L[i] % 128
        · rw [if_pos q, if_neg (by rcases q2 with q2 | q2; exact absurd q q2; exact q2)]
        · rw [if_neg q]
    · have e64 : w.toNat = 64 := by omega
      rw [if_neg hw]
      rcases up_down64 (d := L[i] % 128) (i := i) (by omega) (by omega) with ⟨q1, q3, q4⟩ | ⟨q1, q2⟩
      · rw [if_pos q1]
        exact go _ q3 (by rw [q3, e64]; exact q4)
      · rw [if_neg q2, if_neg (by rw [e64]; omega)]

theorem drop_take_eq (l : List Int) (a n : Nat) : (l.take (a + n)).drop a = (l.drop a).take n := by
  rw [List.drop_take]; congr 1; omega

theorem bytes_drop {l : List Int} (h : Bytes l) (n : Nat) : Bytes (l.drop n) := fun x hx => h x (List.mem_of_mem_drop hx)
theorem bytes_take {l : List Int} (h : Bytes l) (n : Nat) : Bytes (l.take n) := fun x hx => h x (List.mem_of_mem_take hx)
theorem dig_take (l : List Int) (n : Nat) : dig (l.take n) n = dig l n := by simp only [dig, List.take_take, Nat.min_self]

theorem U_ev {l : List Int} (hb : Bytes l) (hl : l.length ≤ 140737488351232) (a w : Int) :
    Ev (fun k => leb_U.f k l a w) (Us l a w) := by
  unfold Us
  by_cases hm : 1 ≤ w ∧ w ≤ 64 ∧ 0 ≤ a ∧ a ≤ l.length
  · obtain ⟨h1, h2, h3, h4⟩ := hm
    rw [if_pos ⟨h1, h2, h3, h4⟩]
    obtain ⟨K, hK⟩ := end_ev hl h1 h2 h3 h4
    have hr := room_bd h1 h2
    refine ⟨K + 11, fun k hk => ?_⟩
    have he := hK k (by omega)
    have hmay : leb_may.f l a w = some true := by rw [may_eq]; simp [h1, h2, h3, h4]
    simp only [leb_U.f, hmay, Option.bind_some, if_true, he]
    rcases hc : cnt (room w) (l.drop a.toNat) with _ | n
    · simp only [endOf, hc]; rw [if_pos (by omega)]
    · have hn := cnt_bd hc
      simp only [List.length_drop] at hn
      simp only [endOf, hc]
      obtain ⟨q, rfl⟩ := Int.eq_ofNat_of_zero_le h3
      have e1 : ((q : Int) + n).toNat = q + n := by omega
      have e2 : ((q : Int)).toNat = q := by omega
      rw [if_neg (by omega), if_pos (by omega), if_pos (by omega), if_pos (by omega)]
      simp only [e1, e2] at hn ⊢
      rw [drop_take_eq]
      have hlen : ((l.drop q).take n).length = n := by simp; omega
      have := U_loop (L := (l.drop q).take n) (bytes_take (bytes_drop hb q) n) n hlen h1 h2 (by omega) ((q : Int) + n) n k 0 0 (by omega) (by omega) (by simp [val]) (Int.pow_pos (by decide)) (by omega)
      rw [hlen]
      rw [dig_take] at this
      exact this
  · rw [if_neg hm]
    refine ⟨0, fun k _ => ?_⟩
    have hmay : leb_may.f l a w = some false := by rw [may_eq]; simp only [decide_eq_false hm]
    simp [leb_U.f, hmay]
end Go.Proofs.Ythillgpbenjldaa.LebM
