/- The short forms, as plain functions on numbers; that leb.PutU, leb.PutS, leb.LenU and the document's come to them; lists that are compared. -/
import Derived.Test.YtjgioffeojjgeaaPx8
import Derived.Test.YtjgioffeojjgeaaPx10
import Derived.Test.YtjgioffeojjgeaaPx13
import Derived.Test.YtjgioffeojjgeaaMe
namespace Go.Proofs.Ytjgioffeojjgeaa.LebM
open Go.RowKit Go.Proofs.YtjgioffeojjgeaaW.PrintWords Go.Proofs.YtjgioffeojjgeaaW.PrintLast Go.Proofs.YtjgioffeojjgeaaW.PrintMore Go.Proofs.Ytjgioffeojjgeaa.P

/-- the short form, unsigned; the first number only bounds the recursion -/
def putU : Nat → Int → List Int
  | 0, x => [x]
  | f + 1, x => if x < 128 then [x] else (x % 128 + 128) :: putU f (x / 128)
def putS : Nat → Int → List Int
  | 0, x => [x % 128]
  | f + 1, x => if -64 ≤ x ∧ x < 64 then [x % 128] else (x % 128 + 128) :: putS f (x / 128)

theorem putU_len (f : Nat) : ∀ x, 1 ≤ (putU f x).length ∧ (putU f x).length ≤ f + 1 := by
  induction f with
  | zero => intro x; simp [putU]
  | succ f ih =>
    intro x
    simp only [putU]
    split
    · simp
    · have := ih (x / 128); simp; omega
theorem putS_len (f : Nat) : ∀ x, 1 ≤ (putS f x).length ∧ (putS f x).length ≤ f + 1 := by
  induction f with
  | zero => intro x; simp [putS]
  | succ f ih =>
    intro x
    simp only [putS]
    split
    · simp
    · have := ih (x / 128); simp; omega

theorem putU_loop (f : Nat) : ∀ (k : Nat) (x : Int) (out : List Int), 0 ≤ x → x < 128 ^ (f + 1) → out.length + f ≤ 100 → f < k →
    leb_PutU.l0 k x out = some (out ++ putU f x) := by
  induction f with
  | zero =>
    intro k x out h0 h1 h2 hk
    obtain ⟨k, rfl⟩ : ∃ m, k = m + 1 := ⟨k - 1, by omega⟩
    simp only [leb_PutU.l0]
    rw [if_neg (by omega), if_pos (by omega), Int.emod_eq_of_lt h0 (by omega)]
    simp [putU]
  | succ f ih =>
    intro k x out h0 h1 h2 hk
    obtain ⟨k, rfl⟩ : ∃ m, k = m + 1 := ⟨k - 1, by omega⟩
    simp only [leb_PutU.l0, putU]
    by_cases hx : x < 128
    · rw [if_neg (by omega), if_pos (by omega), if_pos hx, Int.emod_eq_of_lt h0 (by omega)]
    · have e : x % 256 % 128 = x % 128 := by omega
      rw [if_pos (by omega), if_pos (by omega), if_neg hx, or128 (by omega) (by omega), e]
      rw [ih k (x / 128) _ (by omega) (by rw [Int.pow_succ] at h1; omega) (by simp; omega) (by omega)]
      simp
theorem u64_lt {x : Int} (h : x ≤ 18446744073709551615) : x < 128 ^ 10 := by
  have e : (128 : Int) ^ 10 = 1180591620717411303424 := by decide
  omega
theorem PutU_ev {x : Int} (h0 : 0 ≤ x) (h1 : x ≤ 18446744073709551615) : Ev (fun k => leb_PutU.f k x) (putU 9 x) := by
  refine ⟨10, fun k hk => ?_⟩
  have := putU_loop 9 k x [] h0 (u64_lt h1) (by simp) (by omega)
  simpa [leb_PutU.f] using this

theorem putS_loop (f : Nat) : ∀ (k : Nat) (x : Int) (out : List Int), -(64 * 128 ^ f) ≤ x → x < 64 * 128 ^ f → out.length + f ≤ 100 → f < k →
    leb_PutS.l0 k x out = some (out ++ putS f x) := by
  have last : ∀ x : Int, Go.bits .and .u8 (x % 256) 127 = x % 128 := fun x => by rw [and127 (by omega) (by omega)]; omega
  induction f with
  | zero =>
    intro k x out h0 h1 h2 hk
    obtain ⟨k, rfl⟩ : ∃ m, k = m + 1 := ⟨k - 1, by omega⟩
    simp only [leb_PutS.l0]
    rw [if_neg (by omega), if_neg (by omega), if_pos (by omega), last]
    simp [putS]
  | succ f ih =>
    intro k x out h0 h1 h2 hk
    obtain ⟨k, rfl⟩ : ∃ m, k = m + 1 := ⟨k - 1, by omega⟩
    have e : x % 256 % 128 = x % 128 := by omega
    rw [Int.pow_succ] at h0 h1
    have st := ih k (x / 128) (out ++ [x % 128 + 128]) (by omega) (by omega) (by simp; omega) (by omega)
    simp only [leb_PutS.l0, putS]
    by_cases hx : x < -64
    · rw [if_pos hx, if_pos (by omega), if_neg (by omega), or128 (by omega) (by omega), e, st]
      simp
    · by_cases hy : x ≥ 64
      · rw [if_neg hx, if_pos hy, if_pos (by omega), if_neg (by omega), or128 (by omega) (by omega), e, st]
        simp
      · rw [if_neg hx, if_neg hy, if_pos (by omega), if_pos (by omega), last]
theorem PutS_ev {x : Int} (h0 : -9223372036854775808 ≤ x) (h1 : x ≤ 9223372036854775807) : Ev (fun k => leb_PutS.f k x) (putS 9 x) := by
  refine ⟨10, fun k hk => ?_⟩
  have e : (128 : Int) ^ 9 = 9223372036854775808 := by decide
  have := putS_loop 9 k x [] (by omega) (by omega) (by simp) (by omega)
  simpa [leb_PutS.f] using this

theorem refPutU_at (f : Nat) : ∀ (k : Nat) (x : Int), 0 ≤ x → x < 128 ^ (f + 1) → x ≤ 18446744073709551615 → f ≤ 90 → f < k → jacquardref01_PutU.f k x = some (putU f x) := by
  induction f with
  | zero =>
    intro k x h0 h1 h2 h3 hk
    obtain ⟨k, rfl⟩ : ∃ m, k = m + 1 := ⟨k - 1, by omega⟩
    simp only [jacquardref01_PutU.f]
    rw [if_pos (by omega), Int.emod_eq_of_lt h0 (by omega)]
    simp [putU]
  | succ f ih =>
    intro k x h0 h1 h2 h3 hk
    obtain ⟨k, rfl⟩ : ∃ m, k = m + 1 := ⟨k - 1, by omega⟩
    simp only [jacquardref01_PutU.f, putU]
    by_cases hx : x < 128
    · rw [if_pos hx, if_pos hx, Int.emod_eq_of_lt h0 (by omega)]
    · have hl := putU_len f (x / 128)
      rw [if_neg hx, if_neg hx, Int.tmod_eq_emod_of_nonneg h0, Int.tdiv_eq_ediv_of_nonneg h0, u64w (by omega) (by omega), ih k (x / 128) (by omega) (by rw [Int.pow_succ] at h1; omega) (by omega) (by omega) (by omega)]
      simp only [Option.bind_some]
      rw [if_pos (by simp; omega)]
      have e : (x % 128 % 256 + 128) % 256 = x % 128 + 128 := by omega
      rw [e]; rfl
theorem refPutU_ev {x : Int} (h0 : 0 ≤ x) (h1 : x ≤ 18446744073709551615) : Ev (fun k => jacquardref01_PutU.f k x) (putU 9 x) :=
  ⟨10, fun k hk => refPutU_at 9 k x h0 (u64_lt h1) h1 (by omega) (by omega)⟩

theorem refPutS_at (f : Nat) : ∀ (k : Nat) (x : Int), -(64 * 128 ^ f) ≤ x → x < 64 * 128 ^ f → -9223372036854775808 ≤ x → x ≤ 9223372036854775807 → f ≤ 90 → f < k → jacquardref01_PutS.f k x = some (putS f x) := by
  have last : ∀ x : Int, Go.bits .and .u8 (x % 256) 127 = x % 128 := fun x => by rw [and127 (by omega) (by omega)]; omega
  induction f with
  | zero =>
    intro k x h0 h1 _ _ _ hk
    obtain ⟨k, rfl⟩ : ∃ m, k = m + 1 := ⟨k - 1, by omega⟩
    simp only [jacquardref01_PutS.f]
    rw [if_pos (by omega), if_pos (by omega), last]
    simp [putS]
  | succ f ih =>
    intro k x h0 h1 h2 h3 h4 hk
    obtain ⟨k, rfl⟩ : ∃ m, k = m + 1 := ⟨k - 1, by omega⟩
    rw [Int.pow_succ] at h0 h1
    have hl := putS_len f (x / 128)
    have st := ih k (x / 128) (by omega) (by omega) (by omega) (by omega) (by omega) (by omega)
    have ed : Int.tmod (wrap64 (Int.tmod x 128 + 128)) 128 = x % 128 := by
      have hr : -128 < Int.tmod x 128 ∧ Int.tmod x 128 < 128 := by
        constructor
        · have := Int.lt_tmod_of_pos x (b := 128) (by decide); omega
        · exact Int.tmod_lt_of_pos x (by decide)
      rw [w64 (by omega) (by omega), Int.tmod_eq_emod_of_nonneg (by omega)]
      have := Int.mul_tdiv_add_tmod x 128
      omega
    have e2 : wrap64 (x - x % 128) = x - x % 128 := by unfold wrap64; omega
    have e3 : Int.tdiv (x - x % 128) 128 = x / 128 := by
      have : x - x % 128 = x / 128 * 128 := by omega
      rw [this, Int.mul_tdiv_cancel _ (by decide)]
    have e4 : wrap64 (x / 128) = x / 128 := w64 (by omega) (by omega)
    have e5 : (x % 128 % 256 + 128) % 256 = x % 128 + 128 := by omega
    simp only [jacquardref01_PutS.f, putS, ed, e2, e3, e4, e5, st, Option.bind_some, last]
    by_cases hx : x ≥ -64
    · by_cases hy : x < 64
      · rw [if_pos hx, if_pos hy, if_pos ⟨by omega, hy⟩]
      · rw [if_pos hx, if_neg hy, if_pos (by simp; omega), if_neg (c := -64 ≤ x ∧ x < 64) (by omega)]; rfl
    · rw [if_neg hx, if_pos (by simp; omega), if_neg (c := -64 ≤ x ∧ x < 64) (by omega)]; rfl
theorem refPutS_ev {x : Int} (h0 : -9223372036854775808 ≤ x) (h1 : x ≤ 9223372036854775807) : Ev (fun k => jacquardref01_PutS.f k x) (putS 9 x) := by
  have e : (128 : Int) ^ 9 = 9223372036854775808 := by decide
  exact ⟨10, fun k hk => refPutS_at 9 k x (by omega) (by omega) h0 h1 (by omega) (by omega)⟩

theorem Same_loop {l r : List Int} (hlr : l.length = r.length) (hl : l.length ≤ 140737488355328) (d : Nat) :
    ∀ (k i : Nat), i ≤ l.length → l.length - i = d → d < k → jacquardref00_Same.l0 k l r (i : Int) = some (decide (l.drop i = r.drop i)) := by
  induction d with
  | zero =>
    intro k i h0 h1 hk
    obtain ⟨k, rfl⟩ : ∃ m, k = m + 1 := ⟨k - 1, by omega⟩
    simp only [jacquardref00_Same.l0]
    rw [if_neg (by omega), List.drop_eq_nil_of_le (by omega), List.drop_eq_nil_of_le (by omega)]; simp
  | succ d ih =>
    intro k i h0 h1 hk
    obtain ⟨k, rfl⟩ : ∃ m, k = m + 1 := ⟨k - 1, by omega⟩
    simp only [jacquardref00_Same.l0]
    rw [if_pos (by omega), if_pos (by omega), if_pos (by omega), rd_get (show i < l.length by omega), rd_get (show i < r.length by omega), List.drop_eq_getElem_cons (show i < l.length by omega), List.drop_eq_getElem_cons (show i < r.length by omega)]
    by_cases h : l[i]'(by omega) = r[i]'(by omega)
    · rw [if_pos h, w64 (by omega) (by omega)]
      have := ih k (i + 1) (by omega) (by omega) (by omega)
      have e3 : ((i + 1 : Nat) : Int) = (i : Int) + 1 := by omega
      rw [e3] at this
      rw [this, h]
      simp only [List.cons.injEq, true_and]
    · rw [if_neg h]; simp only [List.cons.injEq, h, false_and, decide_false]
theorem Same_ev {l r : List Int} (hl : l.length ≤ 140737488355328) : Ev (fun k => jacquardref00_Same.f k l r) (decide (l = r)) := by
  by_cases h : l.length = r.length
  · refine ⟨l.length + 1, fun k hk => ?_⟩
    have := Same_loop h hl l.length k 0 (by omega) (by omega) (by omega)
    simp only [jacquardref00_Same.f]
    rw [if_pos (by omega)]
    simpa using this
  · refine ⟨0, fun k _ => ?_⟩
    simp only [jacquardref00_Same.f]
    rw [if_neg (by omega)]
    have : l ≠ r := fun e => h (by rw [e])
    simp [this]

theorem LenU_loop (f : Nat) : ∀ (k : Nat) (x c : Int), 0 ≤ x → x < 128 ^ (f + 1) → 0 ≤ c → c + f ≤ 100 → f < k → leb_LenU.l0 k x c = some (c + (putU f x).length - 1) := by
  induction f with
  | zero =>
    intro k x c h0 h1 h2 h3 hk
    obtain ⟨k, rfl⟩ : ∃ m, k = m + 1 := ⟨k - 1, by omega⟩
    simp only [leb_LenU.l0]
    rw [if_neg (by omega)]
    simp [putU]
  | succ f ih =>
    intro k x c h0 h1 h2 h3 hk
    obtain ⟨k, rfl⟩ : ∃ m, k = m + 1 := ⟨k - 1, by omega⟩
    simp only [leb_LenU.l0, putU]
    by_cases hx : x < 128
    · rw [if_neg (by omega), if_pos hx]; simp
    · rw [if_pos (by omega), if_neg hx, w64 (by omega) (by omega), ih k (x / 128) (c + 1) (by omega) (by rw [Int.pow_succ] at h1; omega) (by omega) (by omega) (by omega)]
      simp; omega
theorem LenU_ev {x : Int} (h0 : 0 ≤ x) (h1 : x ≤ 18446744073709551615) : Ev (fun k => leb_LenU.f k x) ((putU 9 x).length : Int) := by
  refine ⟨10, fun k hk => ?_⟩
  have := LenU_loop 9 k x 1 h0 (u64_lt h1) (by omega) (by omega) (by omega)
  simp only [leb_LenU.f]
  rw [this]; congr 1; omega
end Go.Proofs.Ytjgioffeojjgeaa.LebM
