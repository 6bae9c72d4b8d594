/- That leb.S comes to the word 'Ss'. -/
import Derived.Test.YtjgioffeojjgeaaPx1
import Derived.Test.YtjgioffeojjgeaaPx2
import Derived.Test.YtjgioffeojjgeaaMb
namespace Go.Proofs.Ytjgioffeojjgeaa.LebM
open Go.RowKit Go.Proofs.YtjgioffeojjgeaaW.PrintWords Go.Proofs.YtjgioffeojjgeaaW.PrintLast Go.Proofs.YtjgioffeojjgeaaW.PrintMore Go.Proofs.Ytjgioffeojjgeaa.P

theorem turn_digits (b : Bool) {ds : List Int} (h : Digits ds) : Digits (turn b ds) := by
  unfold turn
  split
  · intro x hx
    simp only [List.mem_map] at hx
    obtain ⟨y, hy, rfl⟩ := hx
    have := h y hy
    omega
  · exact h
theorem turn_length (b : Bool) (ds : List Int) : (turn b ds).length = ds.length := by unfold turn; split <;> simp
theorem turn_get (b : Bool) {ds : List Int} {i : Nat} (h : i < ds.length) : (turn b ds)[i]'(by rw [turn_length]; exact h) = if b then 127 - ds[i] else ds[i] := by
  cases b <;> simp [turn]

theorem S_loop {L : List Int} (hL : Bytes L) (n : Nat) (hn : L.length = n) {w : Int} (h1 : 1 ≤ w) (h2 : w ≤ 64) (h7 : 7 * ((n : Int) - 1) ≤ w - 1) (nxt : Int) (b : Bool) (d : Nat) :
    ∀ (k i : Nat) (acc : Int), i ≤ n → n - i = d → acc = val ((turn b (dig L n)).take i) → acc < 2 ^ (w.toNat - 1) → d < k →
      leb_S.l0 k w nxt b (if b then 127 else 0) acc L (n : Int) (i : Int) = some (if val (turn b (dig L n)) < 2 ^ (w.toNat - 1) then (if b then - val (turn b (dig L n)) - 1 else val (turn b (dig L n)), nxt, 0) else (0, 0, 4)) := by
  have hdg := turn_digits b (dig_digits L n)
  have hdl : (turn b (dig L n)).length = n := by rw [turn_length]; exact dig_length (l := L) (n := n) (by omega)
  have hdl0 : (dig L n).length = n := dig_length (l := L) (n := n) (by omega)
  induction d with
  | zero =>
    intro k i acc h0 h3 ha hb hk
    obtain ⟨k, rfl⟩ : ∃ m, k = m + 1 := ⟨k - 1, by omega⟩
    have hi : i = n := by omega
    subst hi
    simp only [leb_S.l0]; rw [if_neg (by omega)]
    have hacc0 : 0 ≤ acc := by rw [ha]; exact val_nonneg (digits_take hdg i)
    rw [List.take_of_length_le (by omega)] at ha
    have h63 : (2 : Int) ^ (w.toNat - 1) ≤ 2 ^ 63 := p2_le (by omega)
    have e63 : (2 : Int) ^ 63 = 9223372036854775808 := by decide
    rw [← ha, if_pos hb]
    cases b
    · rw [if_neg (by decide), w64 (by omega) (by omega)]; simp
    · rw [if_pos rfl, xorAll hacc0 (by omega)]
      have : wrap64 (18446744073709551615 - acc) = -acc - 1 := by unfold wrap64; omega
      rw [this]; simp
  | succ d ih =>
    intro k i acc h0 h3 ha hb hk
    obtain ⟨k, rfl⟩ : ∃ m, k = m + 1 := ⟨k - 1, by omega⟩
    have hi : i < n := by omega
    have hc := hL L[i] (List.getElem_mem _)
    have hr : rd L (i : Int) = L[i] := rd_get (by omega)
    have hd0 : (dig L n)[i]'(by omega) = L[i] % 128 := dig_get (by omega) hi
    obtain ⟨D, hD⟩ : ∃ D : Int, D = (turn b (dig L n))[i]'(by omega) := ⟨_, rfl⟩
    have hD2 := turn_get b (ds := dig L n) (i := i) (by omega)
    rw [← hD, hd0] at hD2
    have hDb : 0 ≤ D ∧ D < 128 := by rw [hD]; exact hdg _ (List.getElem_mem _)
    have hacc : acc < 2 ^ (7 * i) := by
      have := val_lt (digits_take hdg i)
      rw [← ha, p128, List.length_take, Nat.min_eq_left (by omega)] at this
      exact this
    have hacc0 : 0 ≤ acc := by rw [ha]; exact val_nonneg (digits_take hdg i)
    have hge := val_ge_digit hdg (i := i) (by omega)
    rw [← hD] at hge
    have hsucc : acc + D * 2 ^ (7 * i) = val ((turn b (dig L n)).take (i + 1)) := by rw [val_take_succ (by omega), ← ha, ← hD]
    have e3 : ((i + 1 : Nat) : Int) = (i : Int) + 1 := by omega
    have hbits : IntKind.u64.wrap (Go.bits .and .u8 (Go.bits .xor .u8 (rd L (i : Int)) (if b then 127 else 0)) 127) = D := by
      rw [hr, hD2]
      cases b
      · rw [if_neg (by decide), xor0 hc.1 hc.2, and127 hc.1 hc.2, u64w (by omega) (by omega)]; simp
      · rw [if_pos rfl, xor127 hc.1 hc.2, u64w (by omega) (by omega)]; simp
    have ew : IntKind.u64.wrap (wrap64 (w - 1)) = ((w.toNat - 1 : Nat) : Int) := by rw [w64 (by omega) (by omega), u64w (by omega) (by omega)]; omega
    simp only [leb_S.l0]
    rw [if_pos (by omega), if_pos (by omega), if_pos (by omega), hbits, shift7 (by omega), if_pos (by omega), ew, if_pos (by omega : (0 : Int) ≤ ((w.toNat - 1 : Nat) : Int))]
    rcases up_down (d := D) (i := i) (b := w.toNat - 1) (by omega) (by omega) (by omega) with ⟨q1, q2, q3, q4⟩ | ⟨q1, q2⟩
    · rw [if_pos q1, if_pos q2, q3]
      have hnew := acc_lt hacc q4 (by omega)
      have hle : (2 : Int) ^ (w.toNat - 1) ≤ 2 ^ 64 := p2_le (by omega)
      rw [orAdd _ _ hacc0 hacc (by omega) (by omega), w64 (by omega) (by omega), ← e3]
      exact ih k (i + 1) _ (by omega) (by omega) hsucc hnew (by omega)
    · rw [if_neg (c := val (turn b (dig L n)) < 2 ^ (w.toNat - 1)) (by omega)]
      by_cases q : shr .u64 (shl .u64 D (7 * (i : Int))) (7 * (i : Int)) = D
      · rw [if_pos q, if_neg (by rcases q2 with q2 | q2; exact absurd q q2; exact q2)]
      · rw [if_neg q]

theorem S_ev {l : List Int} (hb : Bytes l) (hl : l.length ≤ 140737488351232) (a w : Int) :
    Ev (fun k => leb_S.f k l a w) (Ss l a w) := by
  unfold Ss
  by_cases hm : 1 ≤ w ∧ w ≤ 64 ∧ 0 ≤ a ∧ a ≤ l.length
  · obtain ⟨h1, h2, h3, h4⟩ := hm
    rw [if_pos ⟨h1, h2, h3, h4⟩]
    obtain ⟨K, hK⟩ := end_ev hl h1 h2 h3 h4
    have hr := room_bd h1 h2
    refine ⟨K + 13, fun k hk => ?_⟩
    have he := hK k (by omega)
    have hmay : leb_may.f l a w = some true := by rw [may_eq]; simp [h1, h2, h3, h4]
    simp only [leb_S.f, hmay, Option.bind_some, if_true, he]
    rcases hc : cnt (room w) (l.drop a.toNat) with _ | n
    · simp only [endOf, hc]; rw [if_pos (by omega)]
    · have hn := cnt_bd hc
      simp only [List.length_drop] at hn
      simp only [endOf, hc]
      obtain ⟨q, rfl⟩ := Int.eq_ofNat_of_zero_le h3
      have e1 : ((q : Int) + n).toNat = q + n := by omega
      have e2 : ((q : Int)).toNat = q := by omega
      have e4 : wrap64 ((q : Int) + n - 1) = ((q + (n - 1) : Nat) : Int) := by rw [w64 (by omega) (by omega)]; omega
      have hlast : q + (n - 1) < l.length := by omega
      have hr2 : rd l ((q + (n - 1) : Nat) : Int) = l[q + (n - 1)] := rd_get hlast
      have hcb := hb l[q + (n - 1)] (List.getElem_mem _)
      have hng : neg (l.drop q) n = decide (64 ≤ l[q + (n - 1)] % 128) := by
        unfold neg; congr 2; simp [hlast]
      rw [if_neg (by omega), e4, if_pos (by omega), if_pos (by omega), hr2, and64 hcb.1 hcb.2]
      simp only [e2] at hn ⊢
      have hlen : ((l.drop q).take n).length = n := by simp; omega
      obtain ⟨k, rfl⟩ : ∃ m, k = m + 1 := ⟨k - 1, by omega⟩
      have key : ∀ b, leb_S.j0 (k + 1) l (q : Int) w ((q : Int) + n) b (if b then 127 else 0) = some (if val (turn b (dig (l.drop q) n)) < 2 ^ (w.toNat - 1) then (if b then - val (turn b (dig (l.drop q) n)) - 1 else val (turn b (dig (l.drop q) n)), (q : Int) + n, 0) else (0, 0, 4)) := by
        intro b
        simp only [leb_S.j0]
        rw [if_pos (by omega), if_pos (by omega), if_pos (by omega)]
        simp only [e1, e2]
        rw [drop_take_eq, hlen]
        have := S_loop (L := (l.drop q).take n) (bytes_take (bytes_drop hb q) n) n hlen h1 h2 (by omega) ((q : Int) + n) b n k 0 0 (by omega) (by omega) (by simp [val]) (Int.pow_pos (by decide)) (by omega)
        rw [dig_take] at this
        exact this
      rw [hng]
      by_cases hs : l[q + (n - 1)] % 128 < 64
      · have hd : decide (64 ≤ l[q + (n - 1)] % 128) = false := decide_eq_false (by omega)
        have := key false
        simp only [hd, if_pos hs]
        simpa using this
      · have hd : decide (64 ≤ l[q + (n - 1)] % 128) = true := decide_eq_true (by omega)
        have := key true
        simp only [hd, if_neg hs]
        simpa using this
  · rw [if_neg hm]
    refine ⟨0, fun k _ => ?_⟩
    have hmay : leb_may.f l a w = some false := by rw [may_eq]; simp only [decide_eq_false hm]
    simp [leb_S.f, hmay]

/-- the example that the document tells -/
theorem works_ev : Ev (fun k => jacquardlaw01_works.f k) true := by
  have b1 : Bytes [229, 142, 38] := by intro x hx; simp at hx; omega
  have b2 : Bytes [192, 187, 120] := by intro x hx; simp at hx; omega
  obtain ⟨K, hK⟩ := U_ev b1 (by simp) 0 32
  obtain ⟨K2, hK2⟩ := S_ev b2 (by simp) 0 33
  have e1 : Us [229, 142, 38] 0 32 = (624485, 3, 0) := by decide
  have e2 : Ss [192, 187, 120] 0 33 = (-123456, 3, 0) := by decide
  rw [e1] at hK
  rw [e2] at hK2
  refine ⟨K + K2, fun k hk => ?_⟩
  simp only [jacquardlaw01_works.f, hK k (by omega), hK2 k (by omega), Option.bind_some]
  simp
end Go.Proofs.Ytjgioffeojjgeaa.LebM
