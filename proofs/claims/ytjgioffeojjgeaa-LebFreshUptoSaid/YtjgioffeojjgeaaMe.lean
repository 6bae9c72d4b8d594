/- That the document's reading of the signed number comes to the word 'Ss' too. -/
import Derived.Test.YtjgioffeojjgeaaPx1
import Derived.Test.YtjgioffeojjgeaaPx4
import Derived.Test.YtjgioffeojjgeaaMc
import Derived.Test.YtjgioffeojjgeaaMd
namespace Go.Proofs.Ytjgioffeojjgeaa.LebM
open Go.RowKit Go.Proofs.YtjgioffeojjgeaaW.PrintWords Go.Proofs.YtjgioffeojjgeaaW.PrintLast Go.Proofs.YtjgioffeojjgeaaW.PrintMore Go.Proofs.Ytjgioffeojjgeaa.P

theorem turn_loop {ds : List Int} (hd : Digits ds) (hl : ds.length ≤ 140737488351232) (a w : Int) (b : Bool) (d : Nat) :
    ∀ (k i : Nat) (x : List Int), i ≤ ds.length → ds.length - i = d → x = (ds.take i).map (127 - ·) ++ ds.drop i →
      jacquardref01_S.l0 (k + d + 1) a w x b (i : Int) = jacquardref01_S.j1 k a w (turn true ds) b := by
  induction d with
  | zero =>
    intro k i x h0 h1 hx
    have hi : i = ds.length := by omega
    subst hi
    simp only [List.take_length, List.drop_length, List.append_nil] at hx
    simp only [jacquardref01_S.l0]
    rw [if_neg (by rw [hx]; simp), hx]
    simp [turn]
  | succ d ih =>
    intro k i x h0 h1 hx
    have hi : i < ds.length := by omega
    have hlen : x.length = ds.length := by rw [hx]; simp; omega
    have hg : x[i]'(by omega) = ds[i] := by
      have : x[i]? = some ds[i] := by
        rw [hx, List.getElem?_append_right (by simp; omega)]
        simp [Nat.min_eq_left h0, hi]
      rw [List.getElem?_eq_getElem (by omega)] at this
      exact Option.some.inj this
    have hr : rd x (i : Int) = ds[i] := by rw [rd_get (by omega), hg]
    have hdb := hd ds[i] (List.getElem_mem _)
    have e : k + (d + 1) + 1 = (k + d + 1) + 1 := by omega
    rw [e]
    rw [jacquardref01_S.l0]
    rw [if_pos (by omega), if_pos (by omega), hr, u64w (by omega) (by omega), w64 (by omega) (by omega)]
    have e3 : ((i + 1 : Nat) : Int) = (i : Int) + 1 := by omega
    rw [← e3]
    apply ih k (i + 1) _ (by omega) (by omega)
    have hl2 : ((ds.take i).map (127 - ·)).length = i := by simp; omega
    rw [hx, List.set_append_right _ _ (by omega), hl2, Int.toNat_natCast, Nat.sub_self, List.drop_eq_getElem_cons hi, List.set_cons_zero, List.take_succ_eq_append_getElem hi, List.map_append, List.append_assoc]
    rfl

theorem half {w : Int} (h1 : 1 ≤ w) : ((2 : Int) ^ w.toNat - 1) / 2 = 2 ^ (w.toNat - 1) - 1 := by
  have e : (2 : Int) ^ w.toNat = 2 ^ (w.toNat - 1) * 2 := by rw [← Int.pow_succ]; congr 1; omega
  rw [e]; omega

theorem j1_ev {ds : List Int} (hd : Digits ds) (hl : ds.length ≤ 10) {a w : Int} (h1 : 1 ≤ w) (h2 : w ≤ 64) (h3 : 0 ≤ a) (h4 : a ≤ 140737488351232) (b : Bool) :
    ∃ K, ∀ k, K ≤ k → jacquardref01_S.j1 k a w ds b = some (if val ds < 2 ^ (w.toNat - 1) then (if b then -val ds - 1 else val ds, a + ds.length, 0) else (0, 0, 4)) := by
  have hob := ones_bd (w := w.toNat - 1) (by omega)
  have h63 : (2 : Int) ^ (w.toNat - 1) ≤ 2 ^ 63 := p2_le (by omega)
  have e63 : (2 : Int) ^ 63 = 9223372036854775808 := by decide
  have hpos : (1 : Int) ≤ 2 ^ (w.toNat - 1) := Int.pow_pos (by decide)
  obtain ⟨K, hK⟩ := number_ev hd (by omega) (most := 2 ^ (w.toNat - 1) - 1) (by omega) (by omega)
  refine ⟨K + 1, fun k hk => ?_⟩
  obtain ⟨k, rfl⟩ : ∃ m, k = m + 1 := ⟨k - 1, by omega⟩
  have hsh : (0 : Int) ≤ IntKind.u64.wrap (wrap64 (64 - w)) := by
    have e : wrap64 (64 - w) = 64 - w := w64 (by omega) (by omega)
    rw [e, u64w] <;> omega
  have hv0 := val_nonneg hd
  simp only [jacquardref01_S.j1, if_pos hsh, ones h1 h2, half h1, hK k (by omega), Option.bind_some]
  by_cases hv : val ds < 2 ^ (w.toNat - 1)
  · rw [if_pos (c := val ds ≤ 2 ^ (w.toNat - 1) - 1) (by omega), if_pos hv]
    have e1 : wrap64 (val ds) = val ds := w64 (by omega) (by omega)
    have e2 : wrap64 (-val ds) = -val ds := w64 (by omega) (by omega)
    have e4 : wrap64 (-val ds - 1) = -val ds - 1 := w64 (by omega) (by omega)
    have e5 : wrap64 (a + (ds.length : Int)) = a + ds.length := w64 (by omega) (by omega)
    simp only [e1, e2, e4, e5]
    cases b <;> simp
  · rw [if_neg (c := val ds ≤ 2 ^ (w.toNat - 1) - 1) (by omega), if_neg hv]; simp

theorem refS_ev {l : List Int} (hb : Bytes l) (hl : l.length ≤ 140737488351232) (a w : Int) :
    Ev (fun k => jacquardref01_S.f k l a w) (Ss l a w) := by
  unfold Ss
  by_cases hm : 1 ≤ w ∧ w ≤ 64 ∧ 0 ≤ a ∧ a ≤ l.length
  · obtain ⟨h1, h2, h3, h4⟩ := hm
    rw [if_pos ⟨h1, h2, h3, h4⟩]
    obtain ⟨K, hK⟩ := groups_ev hb hl h1 h2 h3 h4
    have hr := room_bd h1 h2
    have hmay : jacquardref01_may.f l a w = some true := by rw [rmay_eq]; simp [h1, h2, h3, h4]
    rcases hc : cnt (room w) (l.drop a.toNat) with _ | n
    · rw [hc] at hK
      refine ⟨K, fun k hk => ?_⟩
      simp only [jacquardref01_S.f, hmay, Option.bind_some, if_true, hK k hk]
      simp
    · rw [hc] at hK
      have hn := cnt_bd hc
      have hlen : (dig (l.drop a.toNat) n).length = n := dig_length (by omega)
      have hdd := dig_digits (l.drop a.toNat) n
      have e1 : wrap64 ((n : Int) - 1) = ((n - 1 : Nat) : Int) := by rw [w64 (by omega) (by omega)]; omega
      have hr1 : rd (dig (l.drop a.toNat) n) ((n - 1 : Nat) : Int) = (l.drop a.toNat).getD (n - 1) 0 % 128 := by
        rw [rd_get (by omega), dig_get (by omega) (by omega)]
        rw [List.getD_eq_getElem?_getD, List.getElem?_eq_getElem (by omega), Option.getD_some]
      have hng : decide ((l.drop a.toNat).getD (n - 1) 0 % 128 ≥ 64) = neg (l.drop a.toNat) n := rfl
      obtain ⟨K2, hK2⟩ := j1_ev (turn_digits (neg (l.drop a.toNat) n) hdd) (by rw [turn_length, hlen]; omega) h1 h2 h3 (by omega) (neg (l.drop a.toNat) n)
      rw [turn_length, hlen] at hK2
      refine ⟨K + K2 + n + 1, fun k hk => ?_⟩
      simp only [jacquardref01_S.f, hmay, Option.bind_some, if_true, hK k (by omega), hlen, e1, hr1]
      rw [if_pos (by omega), if_pos (by omega), hng]
      by_cases hs : (l.drop a.toNat).getD (n - 1) 0 % 128 ≥ 64
      · have hb1 : neg (l.drop a.toNat) n = true := by rw [← hng]; exact decide_eq_true hs
        rw [if_pos hs]
        rw [hb1] at hK2 ⊢
        have := turn_loop hdd (by omega) a w true n (k - n - 1) 0 (dig (l.drop a.toNat) n) (by omega) (by omega) (by simp)
        have e : k - n - 1 + n + 1 = k := by omega
        rw [e] at this
        have e0 : ((0 : Nat) : Int) = 0 := rfl
        rw [e0] at this
        rw [this]
        exact hK2 _ (by omega)
      · have hb0 : neg (l.drop a.toNat) n = false := by rw [← hng]; exact decide_eq_false hs
        rw [if_neg hs]
        rw [hb0] at hK2 ⊢
        exact hK2 _ (by omega)
  · rw [if_neg hm]
    refine ⟨0, fun k _ => ?_⟩
    have hmay : jacquardref01_may.f l a w = some false := by rw [rmay_eq]; simp only [decide_eq_false hm]
    simp [jacquardref01_S.f, hmay]
end Go.Proofs.Ytjgioffeojjgeaa.LebM
