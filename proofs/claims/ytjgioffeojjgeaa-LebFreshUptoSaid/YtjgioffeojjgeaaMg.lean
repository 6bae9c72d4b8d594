/- Laws of the words 'Us' and 'Ss': a greater width; the other reading; that the short form is not longer. -/
import Derived.Test.YtjgioffeojjgeaaMf
namespace Go.Proofs.Ytjgioffeojjgeaa.LebM
open Go.RowKit Go.Proofs.YtjgioffeojjgeaaW.PrintWords Go.Proofs.YtjgioffeojjgeaaW.PrintLast Go.Proofs.YtjgioffeojjgeaaW.PrintMore Go.Proofs.Ytjgioffeojjgeaa.P

theorem cnt_mono : ∀ {m m' : Nat} {l : List Int} {n : Nat}, m ≤ m' → cnt m l = some n → cnt m' l = some n := by
  intro m
  induction m with
  | zero => intro m' l n _ h; simp [cnt] at h
  | succ m ih =>
    intro m' l n hm h
    obtain ⟨m', rfl⟩ : ∃ q, m' = q + 1 := ⟨m' - 1, by omega⟩
    cases l with
    | nil => simp [cnt] at h
    | cons c l =>
      simp only [cnt] at h ⊢
      split
      · rw [if_pos ‹_›] at h; exact h
      · rw [if_neg ‹_›] at h
        rcases hc : cnt m l with _ | q
        · rw [hc] at h; cases h
        · rw [hc] at h; rw [ih (by omega) hc]; exact h

/-- what is read well: a count of groups, and the number -/
theorem Us_ok {l : List Int} {a w : Int} (h : (Us l a w).2.2 = 0) : 1 ≤ w ∧ w ≤ 64 ∧ 0 ≤ a ∧ a ≤ l.length ∧ ∃ n, cnt (room w) (l.drop a.toNat) = some n ∧ val (dig (l.drop a.toNat) n) < 2 ^ w.toNat ∧ Us l a w = (val (dig (l.drop a.toNat) n), a + n, 0) := by
  unfold Us at h ⊢
  by_cases hm : 1 ≤ w ∧ w ≤ 64 ∧ 0 ≤ a ∧ a ≤ l.length
  · rw [if_pos hm] at h ⊢
    refine ⟨hm.1, hm.2.1, hm.2.2.1, hm.2.2.2, ?_⟩
    rcases hc : cnt (room w) (l.drop a.toNat) with _ | n
    · rw [hc] at h; simp at h
    · rw [hc] at h
      simp only at h ⊢
      by_cases hv : val (dig (l.drop a.toNat) n) < 2 ^ w.toNat
      · exact ⟨n, rfl, hv, by rw [if_pos hv]⟩
      · rw [if_neg hv] at h; simp at h
  · rw [if_neg hm] at h; simp at h
theorem Us_mk {l : List Int} {a w : Int} {n : Nat} (h1 : 1 ≤ w) (h2 : w ≤ 64) (h3 : 0 ≤ a) (h4 : a ≤ l.length) (hc : cnt (room w) (l.drop a.toNat) = some n) (hv : val (dig (l.drop a.toNat) n) < 2 ^ w.toNat) :
    Us l a w = (val (dig (l.drop a.toNat) n), a + n, 0) := by
  unfold Us
  rw [if_pos ⟨h1, h2, h3, h4⟩, hc]
  simp only [if_pos hv]
def sgn (b : Bool) (v : Int) : Int := if b then -v - 1 else v
theorem Ss_ok {l : List Int} {a w : Int} (h : (Ss l a w).2.2 = 0) : 1 ≤ w ∧ w ≤ 64 ∧ 0 ≤ a ∧ a ≤ l.length ∧ ∃ n, cnt (room w) (l.drop a.toNat) = some n ∧ val (turn (neg (l.drop a.toNat) n) (dig (l.drop a.toNat) n)) < 2 ^ (w.toNat - 1) ∧
    Ss l a w = (sgn (neg (l.drop a.toNat) n) (val (turn (neg (l.drop a.toNat) n) (dig (l.drop a.toNat) n))), a + n, 0) := by
  unfold Ss at h ⊢
  by_cases hm : 1 ≤ w ∧ w ≤ 64 ∧ 0 ≤ a ∧ a ≤ l.length
  · rw [if_pos hm] at h ⊢
    refine ⟨hm.1, hm.2.1, hm.2.2.1, hm.2.2.2, ?_⟩
    rcases hc : cnt (room w) (l.drop a.toNat) with _ | n
    · rw [hc] at h; simp at h
    · rw [hc] at h
      simp only at h ⊢
      by_cases hv : val (turn (neg (l.drop a.toNat) n) (dig (l.drop a.toNat) n)) < 2 ^ (w.toNat - 1)
      · exact ⟨n, rfl, hv, by rw [if_pos hv]; rfl⟩
      · rw [if_neg hv] at h; simp at h
  · rw [if_neg hm] at h; simp at h
theorem Ss_mk {l : List Int} {a w : Int} {n : Nat} (h1 : 1 ≤ w) (h2 : w ≤ 64) (h3 : 0 ≤ a) (h4 : a ≤ l.length) (hc : cnt (room w) (l.drop a.toNat) = some n) (hv : val (turn (neg (l.drop a.toNat) n) (dig (l.drop a.toNat) n)) < 2 ^ (w.toNat - 1)) :
    Ss l a w = (sgn (neg (l.drop a.toNat) n) (val (turn (neg (l.drop a.toNat) n) (dig (l.drop a.toNat) n))), a + n, 0) := by
  unfold Ss
  rw [if_pos ⟨h1, h2, h3, h4⟩, hc]
  simp only [if_pos hv]; rfl

theorem room_mono {w w' : Int} (h : w ≤ w') (h0 : 1 ≤ w) : room w ≤ room w' := by unfold room; omega
theorem Us_wider {l : List Int} {a w w' : Int} (h : (Us l a w).2.2 = 0) (hw : w ≤ w') (hw' : w' ≤ 64) : Us l a w' = Us l a w := by
  obtain ⟨h1, h2, h3, h4, n, hc, hv, e⟩ := Us_ok h
  rw [e]
  have hp : (2 : Int) ^ w.toNat ≤ 2 ^ w'.toNat := p2_le (by omega)
  exact Us_mk (by omega) hw' h3 h4 (cnt_mono (room_mono hw h1) hc) (by omega)
theorem Ss_wider {l : List Int} {a w w' : Int} (h : (Ss l a w).2.2 = 0) (hw : w ≤ w') (hw' : w' ≤ 64) : Ss l a w' = Ss l a w := by
  obtain ⟨h1, h2, h3, h4, n, hc, hv, e⟩ := Ss_ok h
  rw [e]
  have hp : (2 : Int) ^ (w.toNat - 1) ≤ 2 ^ (w'.toNat - 1) := p2_le (by omega)
  exact Ss_mk (by omega) hw' h3 h4 (cnt_mono (room_mono hw h1) hc) (by omega)

/-- the last group's bit 40 is not set: the other reading, of a width greater by one, is the same -/
theorem Ss_same {l : List Int} {a w : Int} {n : Nat} (h1 : 1 ≤ w) (h2 : w ≤ 63) (h3 : 0 ≤ a) (h4 : a ≤ l.length) (hc : cnt (room w) (l.drop a.toNat) = some n) (hv : val (dig (l.drop a.toNat) n) < 2 ^ w.toNat)
    (hn : neg (l.drop a.toNat) n = false) : Ss l a (w + 1) = (val (dig (l.drop a.toNat) n), a + n, 0) := by
  have e : (w + 1).toNat - 1 = w.toNat := by omega
  have := Ss_mk (l := l) (a := a) (w := w + 1) (n := n) (by omega) (by omega) h3 h4 (cnt_mono (room_mono (by omega) h1) hc) (by rw [hn, e]; simpa [turn] using hv)
  rw [this, hn]; simp [sgn, turn]

theorem putU_short (f : Nat) : ∀ (x : Int) (c : Nat), 0 ≤ x → x < 128 ^ c → 1 ≤ c → (putU f x).length ≤ c := by
  induction f with
  | zero => intro x c _ _ h; simp [putU]; omega
  | succ f ih =>
    intro x c h0 h1 hc
    simp only [putU]
    split
    · simp; omega
    · obtain ⟨c, rfl⟩ : ∃ q, c = q + 1 := ⟨c - 1, by omega⟩
      rw [Int.pow_succ] at h1
      have h2 : 1 ≤ c := by
        rcases c with _ | c
        · simp at h1; omega
        · omega
      have := ih (x / 128) c (by omega) (by omega) h2
      simp; omega
theorem putS_short (f : Nat) : ∀ (x : Int) (c : Nat), -(64 * 128 ^ (c - 1)) ≤ x → x < 64 * 128 ^ (c - 1) → 1 ≤ c → (putS f x).length ≤ c := by
  induction f with
  | zero => intro x c _ _ h; simp [putS]; omega
  | succ f ih =>
    intro x c h0 h1 hc
    simp only [putS]
    split
    · simp; omega
    · obtain ⟨c, rfl⟩ : ∃ q, c = q + 1 := ⟨c - 1, by omega⟩
      rcases c with _ | c
      · simp at h0 h1; omega
      · simp only [Nat.add_sub_cancel] at h0 h1
        rw [Int.pow_succ] at h0 h1
        have := ih (x / 128) (c + 1) (by simp only [Nat.add_sub_cancel]; omega) (by simp only [Nat.add_sub_cancel]; omega) (by omega)
        simp; omega
theorem val_last {ds : List Int} (hd : Digits ds) (n : Nat) (hn : ds.length = n + 1) (hl : ds[n]'(by omega) < 64) : val ds < 64 * 128 ^ n := by
  have e : ds = ds.take n ++ [ds[n]'(by omega)] := by
    have := List.take_succ_eq_append_getElem (l := ds) (i := n) (by omega)
    rw [List.take_of_length_le (by omega)] at this
    exact this
  have h1 := val_lt (digits_take hd n)
  rw [List.length_take, Nat.min_eq_left (by omega)] at h1
  have hp : (0 : Int) < 128 ^ n := Int.pow_pos (by decide)
  have h2 : ds[n]'(by omega) * 128 ^ n ≤ 63 * 128 ^ n := Int.mul_le_mul_of_nonneg_right (by omega) (by omega)
  have h3 : val ds = val (ds.take n) + ds[n]'(by omega) * 128 ^ n := by
    conv => lhs; rw [e]
    rw [val_append, List.length_take, Nat.min_eq_left (by omega)]
    simp only [val]; rw [Int.mul_comm]; simp
  omega
end Go.Proofs.Ytjgioffeojjgeaa.LebM
