/- The short form of a number is read as the number (as at seat 01); counted rows are read. -/
import Derived.Test.YtcnmpciohpcpiaaDoorUi
namespace Go.Proofs.YtcnmpciohpcpiaaDoor.LebM
set_option linter.unusedVariables false
set_option linter.unusedSimpArgs false
open Go.RowKit Go.Proofs.YtcnmpciohpcpiaaDoorW.PrintWords Go.Proofs.YtcnmpciohpcpiaaDoorW.PrintLast Go.Proofs.YtcnmpciohpcpiaaDoorW.PrintMore Go.Proofs.YtcnmpciohpcpiaaDoor.P
def putU : Nat → Int → List Int
  | 0, x => [x]
  | f + 1, x => if x < 128 then [x] else (x % 128 + 128) :: putU f (x / 128)
theorem putU_len (f : Nat) : ∀ x, 1 ≤ (putU f x).length ∧ (putU f x).length ≤ f + 1 := by
  induction f with
  | zero => intro x; simp [putU]
  | succ f ih =>
    intro x
    simp only [putU]
    split
    · simp
    · have := ih (x / 128); simp; omega
theorem putU_loop (f : Nat) : ∀ (k : Nat) (x : Int) (out : List Int), 0 ≤ x → x < 128 ^ (f + 1) → out.length + f ≤ 100 → f < k →
    leb_PutU.l0 k x out = some (out ++ putU f x) := by
  induction f with
  | zero =>
    intro k x out h0 h1 h2 hk
    obtain ⟨k, rfl⟩ : ∃ m, k = m + 1 := ⟨k - 1, by omega⟩
    simp only [leb_PutU.l0]
    rw [if_neg (by omega), if_pos (by omega), Int.emod_eq_of_lt h0 (by omega)]
    simp [putU]
  | succ f ih =>
    intro k x out h0 h1 h2 hk
    obtain ⟨k, rfl⟩ : ∃ m, k = m + 1 := ⟨k - 1, by omega⟩
    simp only [leb_PutU.l0, putU]
    by_cases hx : x < 128
    · rw [if_neg (by omega), if_pos (by omega), if_pos hx, Int.emod_eq_of_lt h0 (by omega)]
    · have e : x % 256 % 128 = x % 128 := by omega
      rw [if_pos (by omega), if_pos (by omega), if_neg hx, or128 (by omega) (by omega), e]
      rw [ih k (x / 128) _ (by omega) (by rw [Int.pow_succ] at h1; omega) (by simp; omega) (by omega)]
      simp
theorem u64_lt {x : Int} (h : x ≤ 18446744073709551615) : x < 128 ^ 10 := by
  have e : (128 : Int) ^ 10 = 1180591620717411303424 := by decide
  omega
theorem PutU_ev {x : Int} (h0 : 0 ≤ x) (h1 : x ≤ 18446744073709551615) : Ev (fun k => leb_PutU.f k x) (putU 9 x) := by
  refine ⟨10, fun k hk => ?_⟩
  have := putU_loop 9 k x [] h0 (u64_lt h1) (by simp) (by omega)
  simpa [leb_PutU.f] using this
theorem refPutU_at (f : Nat) : ∀ (k : Nat) (x : Int), 0 ≤ x → x < 128 ^ (f + 1) → x ≤ 18446744073709551615 → f ≤ 90 → f < k → jacquardref01_PutU.f k x = some (putU f x) := by
  induction f with
  | zero =>
    intro k x h0 h1 h2 h3 hk
    obtain ⟨k, rfl⟩ : ∃ m, k = m + 1 := ⟨k - 1, by omega⟩
    simp only [jacquardref01_PutU.f]
    rw [if_pos (by omega), Int.emod_eq_of_lt h0 (by omega)]
    simp [putU]
  | succ f ih =>
    intro k x h0 h1 h2 h3 hk
    obtain ⟨k, rfl⟩ : ∃ m, k = m + 1 := ⟨k - 1, by omega⟩
    simp only [jacquardref01_PutU.f, putU]
    by_cases hx : x < 128
    · rw [if_pos hx, if_pos hx, Int.emod_eq_of_lt h0 (by omega)]
    · have hl := putU_len f (x / 128)
      rw [if_neg hx, if_neg hx, Int.tmod_eq_emod_of_nonneg h0, Int.tdiv_eq_ediv_of_nonneg h0, u64w (by omega) (by omega), ih k (x / 128) (by omega) (by rw [Int.pow_succ] at h1; omega) (by omega) (by omega) (by omega)]
      simp only [Option.bind_some]
      rw [if_pos (by simp; omega)]
      have e : (x % 128 % 256 + 128) % 256 = x % 128 + 128 := by omega
      rw [e]; rfl
theorem refPutU_ev {x : Int} (h0 : 0 ≤ x) (h1 : x ≤ 18446744073709551615) : Ev (fun k => jacquardref01_PutU.f k x) (putU 9 x) :=
  ⟨10, fun k hk => refPutU_at 9 k x h0 (u64_lt h1) h1 (by omega) (by omega)⟩
theorem Us_mk {l : List Int} {a w : Int} {n : Nat} (h1 : 1 ≤ w) (h2 : w ≤ 64) (h3 : 0 ≤ a) (h4 : a ≤ l.length) (hc : cnt (room w) (l.drop a.toNat) = some n) (hv : val (dig (l.drop a.toNat) n) < 2 ^ w.toNat) :
    Us l a w = (val (dig (l.drop a.toNat) n), a + n, 0) := by
  unfold Us
  rw [if_pos ⟨h1, h2, h3, h4⟩, hc]
  simp only [if_pos hv]
theorem putU_short (f : Nat) : ∀ (x : Int) (c : Nat), 0 ≤ x → x < 128 ^ c → 1 ≤ c → (putU f x).length ≤ c := by
  induction f with
  | zero => intro x c _ _ h; simp [putU]; omega
  | succ f ih =>
    intro x c h0 h1 hc
    simp only [putU]
    split
    · simp; omega
    · obtain ⟨c, rfl⟩ : ∃ q, c = q + 1 := ⟨c - 1, by omega⟩
      rw [Int.pow_succ] at h1
      have h2 : 1 ≤ c := by
        rcases c with _ | c
        · simp at h1; omega
        · omega
      have := ih (x / 128) c (by omega) (by omega) h2
      simp; omega
theorem dig_one (c : Int) (l : List Int) : dig (c :: l) 1 = [c % 128] := by simp [dig]
theorem dig_succ (c : Int) (l : List Int) (n : Nat) : dig (c :: l) (n + 1) = c % 128 :: dig l n := by simp [dig]
theorem putU_bytes (f : Nat) : ∀ x : Int, 0 ≤ x → x < 128 ^ (f + 1) → Bytes (putU f x) := by
  induction f with
  | zero => intro x h0 h1 y hy; simp [putU] at hy; subst hy; simp at h1; omega
  | succ f ih =>
    intro x h0 h1 y hy
    simp only [putU] at hy
    split at hy
    · simp at hy; omega
    · rcases List.mem_cons.1 hy with rfl | hy
      · omega
      · rw [Int.pow_succ] at h1
        exact ih (x / 128) (by omega) (by omega) y hy
theorem putU_cnt (f : Nat) : ∀ (x : Int) (rest : List Int) (m : Nat), 0 ≤ x → x < 128 ^ (f + 1) → (putU f x).length ≤ m →
    cnt m (putU f x ++ rest) = some (putU f x).length ∧ val (dig (putU f x ++ rest) (putU f x).length) = x := by
  induction f with
  | zero =>
    intro x rest m h0 h1 hm
    simp only [putU, List.length_singleton] at hm ⊢
    obtain ⟨m, rfl⟩ : ∃ q, m = q + 1 := ⟨m - 1, by omega⟩
    simp at h1
    refine ⟨by simp [cnt, h1], ?_⟩
    simp only [List.singleton_append, dig_one, val]; omega
  | succ f ih =>
    intro x rest m h0 h1 hm
    simp only [putU] at hm ⊢
    by_cases hx : x < 128
    · simp only [if_pos hx, List.length_singleton] at hm ⊢
      obtain ⟨m, rfl⟩ : ∃ q, m = q + 1 := ⟨m - 1, by omega⟩
      refine ⟨by simp [cnt, hx], ?_⟩
      simp only [List.singleton_append, dig_one, val]; omega
    · simp only [if_neg hx, List.length_cons] at hm ⊢
      obtain ⟨m, rfl⟩ : ∃ q, m = q + 1 := ⟨m - 1, by omega⟩
      rw [Int.pow_succ] at h1
      obtain ⟨i1, i2⟩ := ih (x / 128) rest m (by omega) (by omega) (by omega)
      refine ⟨?_, ?_⟩
      · simp only [List.cons_append, cnt]
        rw [if_neg (by omega), i1]; rfl
      · simp only [List.cons_append, dig_succ, val, i2]; omega
theorem Us_put {x w : Int} (h1 : 1 ≤ w) (h2 : w ≤ 64) (h0 : 0 ≤ x) (hx : x < 2 ^ w.toNat) (ahead rest : List Int) :
    Us (ahead ++ putU 9 x ++ rest) ahead.length w = (x, (ahead.length : Int) + ((putU 9 x).length : Int), 0) ∧ (putU 9 x).length ≤ room w := by
  have hr := room_bd h1 h2
  have hp : (2 : Int) ^ w.toNat ≤ 2 ^ (7 * room w) := p2_le (by omega)
  have hs := putU_short 9 x (room w) h0 (by rw [p128]; omega) (by omega)
  have hb := ones_bd (w := w.toNat) (by omega)
  obtain ⟨c1, c2⟩ := putU_cnt 9 x rest (room w) h0 (u64_lt (by omega)) hs
  have hd : (ahead ++ putU 9 x ++ rest).drop ((ahead.length : Int)).toNat = putU 9 x ++ rest := by simp
  refine ⟨?_, hs⟩
  have := Us_mk (l := ahead ++ putU 9 x ++ rest) (a := ahead.length) (w := w) (n := (putU 9 x).length) h1 h2 (by omega) (by simp; omega) (by rw [hd]; exact c1) (by rw [hd, c2]; exact hx)
  rw [this, hd, c2]
theorem bytes_app {l r : List Int} (h : Bytes l) (k : Bytes r) : Bytes (l ++ r) := fun x hx => (List.mem_append.1 hx).elim (h x) (k x)
theorem rw_put {b : List Int} (hb : b.length ≤ 1048576) (l r : List Int) : Rw (l ++ putU 9 b.length ++ b ++ r) l.length = (b, (l.length : Int) + ((putU 9 b.length).length : Int) + b.length, 0) := by
  have e32 : (2 : Int) ^ (32 : Int).toNat = 4294967296 := by decide
  obtain ⟨u1, u2⟩ := Us_put (x := (b.length : Int)) (w := 32) (by omega) (by omega) (by omega) (by omega) l (b ++ r)
  rw [← List.append_assoc] at u1
  unfold Rw
  simp only [u1, if_true]
  rw [if_neg (by simp only [List.length_append]; omega)]
  have e : ((l.length : Int) + ((putU 9 b.length).length : Int)).toNat = (l ++ putU 9 b.length).length := by simp; omega
  rw [e, List.append_assoc (l ++ putU 9 _), List.drop_left, Int.toNat_natCast, List.take_left]
end Go.Proofs.YtcnmpciohpcpiaaDoor.LebM
