/- What is put is read: the words 'Us' and 'Ss' at the short forms. -/
import Derived.Test.YtjgioffeojjgeaaMg
namespace Go.Proofs.Ytjgioffeojjgeaa.LebM
open Go.RowKit Go.Proofs.YtjgioffeojjgeaaW.PrintWords Go.Proofs.YtjgioffeojjgeaaW.PrintLast Go.Proofs.YtjgioffeojjgeaaW.PrintMore Go.Proofs.Ytjgioffeojjgeaa.P

theorem dig_one (c : Int) (l : List Int) : dig (c :: l) 1 = [c % 128] := by simp [dig]
theorem dig_succ (c : Int) (l : List Int) (n : Nat) : dig (c :: l) (n + 1) = c % 128 :: dig l n := by simp [dig]
theorem putU_bytes (f : Nat) : ∀ x : Int, 0 ≤ x → x < 128 ^ (f + 1) → Bytes (putU f x) := by
  induction f with
  | zero => intro x h0 h1 y hy; simp [putU] at hy; subst hy; simp at h1; omega
  | succ f ih =>
    intro x h0 h1 y hy
    simp only [putU] at hy
    split at hy
    · simp at hy; omega
    · rcases List.mem_cons.1 hy with rfl | hy
      · omega
      · rw [Int.pow_succ] at h1
        exact ih (x / 128) (by omega) (by omega) y hy
theorem putS_bytes (f : Nat) : ∀ x : Int, Bytes (putS f x) := by
  induction f with
  | zero => intro x y hy; simp [putS] at hy; subst hy; omega
  | succ f ih =>
    intro x y hy
    simp only [putS] at hy
    split at hy
    · simp at hy; omega
    · rcases List.mem_cons.1 hy with rfl | hy
      · omega
      · exact ih (x / 128) y hy

theorem putU_cnt (f : Nat) : ∀ (x : Int) (rest : List Int) (m : Nat), 0 ≤ x → x < 128 ^ (f + 1) → (putU f x).length ≤ m →
    cnt m (putU f x ++ rest) = some (putU f x).length ∧ val (dig (putU f x ++ rest) (putU f x).length) = x := by
  induction f with
  | zero =>
    intro x rest m h0 h1 hm
    simp only [putU, List.length_singleton] at hm ⊢
    obtain ⟨m, rfl⟩ : ∃ q, m = q + 1 := ⟨m - 1, by omega⟩
    simp at h1
    refine ⟨by simp [cnt, h1], ?_⟩
    simp only [List.singleton_append, dig_one, val]; omega
  | succ f ih =>
    intro x rest m h0 h1 hm
    simp only [putU] at hm ⊢
    by_cases hx : x < 128
    · simp only [if_pos hx, List.length_singleton] at hm ⊢
      obtain ⟨m, rfl⟩ : ∃ q, m = q + 1 := ⟨m - 1, by omega⟩
      refine ⟨by simp [cnt, hx], ?_⟩
      simp only [List.singleton_append, dig_one, val]; omega
    · simp only [if_neg hx, List.length_cons] at hm ⊢
      obtain ⟨m, rfl⟩ : ∃ q, m = q + 1 := ⟨m - 1, by omega⟩
      rw [Int.pow_succ] at h1
      obtain ⟨i1, i2⟩ := ih (x / 128) rest m (by omega) (by omega) (by omega)
      refine ⟨?_, ?_⟩
      · simp only [List.cons_append, cnt]
        rw [if_neg (by omega), i1]; rfl
      · simp only [List.cons_append, dig_succ, val, i2]; omega

theorem neg_cons (c : Int) (l : List Int) (n : Nat) (h : 1 ≤ n) : neg (c :: l) (n + 1) = neg l n := by
  obtain ⟨n, rfl⟩ : ∃ q, n = q + 1 := ⟨n - 1, by omega⟩
  simp [neg]
theorem turn_cons (b : Bool) (d : Int) (ds : List Int) : turn b (d :: ds) = (if b then 127 - d else d) :: turn b ds := by cases b <;> simp [turn]

theorem putS_cnt (f : Nat) : ∀ (x : Int) (rest : List Int) (m : Nat), -(64 * 128 ^ f) ≤ x → x < 64 * 128 ^ f → (putS f x).length ≤ m →
    cnt m (putS f x ++ rest) = some (putS f x).length ∧ neg (putS f x ++ rest) (putS f x).length = decide (x < 0) ∧
    val (turn (decide (x < 0)) (dig (putS f x ++ rest) (putS f x).length)) = if x < 0 then -x - 1 else x := by
  have base : ∀ (x : Int) (rest : List Int) (m : Nat), -64 ≤ x → x < 64 → 1 ≤ m →
      cnt m ([x % 128] ++ rest) = some 1 ∧ neg ([x % 128] ++ rest) 1 = decide (x < 0) ∧ val (turn (decide (x < 0)) (dig ([x % 128] ++ rest) 1)) = if x < 0 then -x - 1 else x := by
    intro x rest m h0 h1 hm
    obtain ⟨m, rfl⟩ : ∃ q, m = q + 1 := ⟨m - 1, by omega⟩
    refine ⟨?_, ?_, ?_⟩
    · simp only [List.singleton_append, cnt]; rw [if_pos (by omega)]
    · simp only [neg, List.singleton_append]
      simp only [Nat.sub_self, List.getD_cons_zero]
      rw [decide_eq_decide]; omega
    · simp only [List.singleton_append, dig_one, turn]
      by_cases hx : x < 0
      · simp [hx, val]; omega
      · simp [hx, val]; omega
  induction f with
  | zero =>
    intro x rest m h0 h1 hm
    simp only [putS, List.length_singleton] at hm ⊢
    exact base x rest m (by omega) (by omega) hm
  | succ f ih =>
    intro x rest m h0 h1 hm
    simp only [putS] at hm ⊢
    by_cases hx : -64 ≤ x ∧ x < 64
    · simp only [if_pos hx, List.length_singleton] at hm ⊢
      exact base x rest m hx.1 hx.2 hm
    · simp only [if_neg hx, List.length_cons] at hm ⊢
      obtain ⟨m, rfl⟩ : ∃ q, m = q + 1 := ⟨m - 1, by omega⟩
      rw [Int.pow_succ] at h0 h1
      obtain ⟨i1, i2, i3⟩ := ih (x / 128) rest m (by omega) (by omega) (by omega)
      have hd : decide (x / 128 < 0) = decide (x < 0) := by rw [decide_eq_decide]; omega
      rw [hd] at i2 i3
      have hl := putS_len f (x / 128)
      refine ⟨?_, ?_, ?_⟩
      · simp only [List.cons_append, cnt]
        rw [if_neg (by omega), i1]; rfl
      · simp only [List.cons_append]
        rw [neg_cons _ _ _ hl.1]; exact i2
      · simp only [List.cons_append, dig_succ, turn_cons, val, i3]
        by_cases hn : x < 0
        · rw [if_pos hn, if_pos (c := x / 128 < 0) (by omega), if_pos (by simpa using hn)]; omega
        · rw [if_neg hn, if_neg (c := x / 128 < 0) (by omega), if_neg (by simpa using hn)]; omega

theorem Us_put {x w : Int} (h1 : 1 ≤ w) (h2 : w ≤ 64) (h0 : 0 ≤ x) (hx : x < 2 ^ w.toNat) (ahead rest : List Int) :
    Us (ahead ++ putU 9 x ++ rest) ahead.length w = (x, (ahead.length : Int) + ((putU 9 x).length : Int), 0) ∧ (putU 9 x).length ≤ room w := by
  have hr := room_bd h1 h2
  have hp : (2 : Int) ^ w.toNat ≤ 2 ^ (7 * room w) := p2_le (by omega)
  have hs := putU_short 9 x (room w) h0 (by rw [p128]; omega) (by omega)
  have hb := ones_bd (w := w.toNat) (by omega)
  obtain ⟨c1, c2⟩ := putU_cnt 9 x rest (room w) h0 (u64_lt (by omega)) hs
  have hd : (ahead ++ putU 9 x ++ rest).drop ((ahead.length : Int)).toNat = putU 9 x ++ rest := by simp
  refine ⟨?_, hs⟩
  have := Us_mk (l := ahead ++ putU 9 x ++ rest) (a := ahead.length) (w := w) (n := (putU 9 x).length) h1 h2 (by omega) (by simp; omega) (by rw [hd]; exact c1) (by rw [hd, c2]; exact hx)
  rw [this, hd, c2]

theorem Ss_put {x w : Int} (h1 : 1 ≤ w) (h2 : w ≤ 64) (h0 : -(2 ^ (w.toNat - 1)) ≤ x) (hx : x < 2 ^ (w.toNat - 1)) (ahead rest : List Int) :
    Ss (ahead ++ putS 9 x ++ rest) ahead.length w = (x, (ahead.length : Int) + ((putS 9 x).length : Int), 0) ∧ (putS 9 x).length ≤ room w := by
  have hr := room_bd h1 h2
  have hp : (2 : Int) ^ (w.toNat - 1) ≤ 2 ^ (6 + 7 * (room w - 1)) := p2_le (by omega)
  have e6 : (2 : Int) ^ (6 + 7 * (room w - 1)) = 64 * 128 ^ (room w - 1) := by rw [Int.pow_add, p128]; rfl
  rw [e6] at hp
  have hs := putS_short 9 x (room w) (by omega) (by omega) (by omega)
  have h63 : (2 : Int) ^ (w.toNat - 1) ≤ 2 ^ 63 := p2_le (by omega)
  have e63 : (2 : Int) ^ 63 = 9223372036854775808 := by decide
  have e9 : (128 : Int) ^ 9 = 9223372036854775808 := by decide
  obtain ⟨c1, c2, c3⟩ := putS_cnt 9 x rest (room w) (by omega) (by omega) hs
  have hd : (ahead ++ putS 9 x ++ rest).drop ((ahead.length : Int)).toNat = putS 9 x ++ rest := by simp
  refine ⟨?_, hs⟩
  have := Ss_mk (l := ahead ++ putS 9 x ++ rest) (a := ahead.length) (w := w) (n := (putS 9 x).length) h1 h2 (by omega) (by simp; omega) (by rw [hd]; exact c1) (by rw [hd, c2, c3]; split <;> omega)
  rw [this, hd, c2, c3]
  unfold sgn
  by_cases hn : x < 0
  · simp only [hn, decide_true, if_true]; congr 1; omega
  · simp [hn]

theorem bytes_app {l r : List Int} (h : Bytes l) (k : Bytes r) : Bytes (l ++ r) := fun x hx => (List.mem_append.1 hx).elim (h x) (k x)
end Go.Proofs.Ytjgioffeojjgeaa.LebM
