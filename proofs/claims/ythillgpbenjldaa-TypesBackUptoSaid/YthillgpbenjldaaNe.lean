/- The short form of a number is read as the number; counted lists of types are put, three rows joined (slices.Concat), limits put. -/
import Derived.Test.YthillgpbenjldaaPx17
import Derived.Test.YthillgpbenjldaaPx18
import Derived.Test.YthillgpbenjldaaPx21
import Derived.Test.YthillgpbenjldaaPx0
import Derived.Test.YthillgpbenjldaaNd
namespace Go.Proofs.Ythillgpbenjldaa.LebM
set_option linter.unusedVariables false
set_option linter.unusedSimpArgs false
open Go.RowKit Go.Proofs.YthillgpbenjldaaW.PrintWords Go.Proofs.YthillgpbenjldaaW.PrintLast Go.Proofs.YthillgpbenjldaaW.PrintMore Go.Proofs.Ythillgpbenjldaa.P
def putU : Nat → Int → List Int
  | 0, x => [x]
  | f + 1, x => if x < 128 then [x] else (x % 128 + 128) :: putU f (x / 128)
theorem putU_len (f : Nat) : ∀ x, 1 ≤ (putU f x).length ∧ (putU f x).length ≤ f + 1 := by
  induction f with
  | zero => intro x; simp [putU]
  | succ f ih =>
    intro x
    simp only [putU]
    split
    · simp
    · have := ih (x / 128); simp; omega
theorem putU_loop (f : Nat) : ∀ (k : Nat) (x : Int) (out : List Int), 0 ≤ x → x < 128 ^ (f + 1) → out.length + f ≤ 100 → f < k →
    leb_PutU.l0 k x out = some (out ++ putU f x) := by
  induction f with
  | zero =>
    intro k x out h0 h1 h2 hk
    obtain ⟨k, rfl⟩ : ∃ m, k = m + 1 := ⟨k - 1, by omega⟩
    simp only [leb_PutU.l0]
    rw [if_neg (by omega), if_pos (by omega), Int.emod_eq_of_lt h0 (by omega)]
    simp [putU]
  | succ f ih =>
    intro k x out h0 h1 h2 hk
    obtain ⟨k, rfl⟩ : ∃ m, k = m + 1 := ⟨k - 1, by omega⟩
    simp only [leb_PutU.l0, putU]
    by_cases hx : x < 128
    · rw [if_neg (by omega), if_pos (by omega), if_pos hx, Int.emod_eq_of_lt h0 (by omega)]
    · have e : x % 256 % 128 = x % 128 := by omega
      rw [if_pos (by omega), if_pos (by omega), if_neg hx, or128 (by omega) (by omega), e]
      rw [ih k (x / 128) _ (by omega) (by rw [Int.pow_succ] at h1; omega) (by simp; omega) (by omega)]
      simp
theorem u64_lt {x : Int} (h : x ≤ 18446744073709551615) : x < 128 ^ 10 := by
  have e : (128 : Int) ^ 10 = 1180591620717411303424 := by decide
  omega
theorem PutU_ev {x : Int} (h0 : 0 ≤ x) (h1 : x ≤ 18446744073709551615) : Ev (fun k => leb_PutU.f k x) (putU 9 x) := by
  refine ⟨10, fun k hk => ?_⟩
  have := putU_loop 9 k x [] h0 (u64_lt h1) (by simp) (by omega)
  simpa [leb_PutU.f] using this
theorem refPutU_at (f : Nat) : ∀ (k : Nat) (x : Int), 0 ≤ x → x < 128 ^ (f + 1) → x ≤ 18446744073709551615 → f ≤ 90 → f < k → jacquardref01_PutU.f k x = some (putU f x) := by
  induction f with
  | zero =>
    intro k x h0 h1 h2 h3 hk
    obtain ⟨k, rfl⟩ : ∃ m, k = m + 1 := ⟨k - 1, by omega⟩
    simp only [jacquardref01_PutU.f]
    rw [if_pos (by omega), Int.emod_eq_of_lt h0 (by omega)]
    simp [putU]
  | succ f ih =>
    intro k x h0 h1 h2 h3 hk
    obtain ⟨k, rfl⟩ : ∃ m, k = m + 1 := ⟨k - 1, by omega⟩
    simp only [jacquardref01_PutU.f, putU]
    by_cases hx : x < 128
    · rw [if_pos hx, if_pos hx, Int.emod_eq_of_lt h0 (by omega)]
    · have hl := putU_len f (x / 128)
      rw [if_neg hx, if_neg hx, Int.tmod_eq_emod_of_nonneg h0, Int.tdiv_eq_ediv_of_nonneg h0, u64w (by omega) (by omega), ih k (x / 128) (by omega) (by rw [Int.pow_succ] at h1; omega) (by omega) (by omega) (by omega)]
      simp only [Option.bind_some]
      rw [if_pos (by simp; omega)]
      have e : (x % 128 % 256 + 128) % 256 = x % 128 + 128 := by omega
      rw [e]; rfl
theorem refPutU_ev {x : Int} (h0 : 0 ≤ x) (h1 : x ≤ 18446744073709551615) : Ev (fun k => jacquardref01_PutU.f k x) (putU 9 x) :=
  ⟨10, fun k hk => refPutU_at 9 k x h0 (u64_lt h1) h1 (by omega) (by omega)⟩
theorem Us_mk {l : List Int} {a w : Int} {n : Nat} (h1 : 1 ≤ w) (h2 : w ≤ 64) (h3 : 0 ≤ a) (h4 : a ≤ l.length) (hc : cnt (room w) (l.drop a.toNat) = some n) (hv : val (dig (l.drop a.toNat) n) < 2 ^ w.toNat) :
    Us l a w = (val (dig (l.drop a.toNat) n), a + n, 0) := by
  unfold Us
  rw [if_pos ⟨h1, h2, h3, h4⟩, hc]
  simp only [if_pos hv]
theorem putU_short (f : Nat) : ∀ (x : Int) (c : Nat), 0 ≤ x → x < 128 ^ c → 1 ≤ c → (putU f x).length ≤ c := by
  induction f with
  | zero => intro x c _ _ h; simp [putU]; omega
  | succ f ih =>
    intro x c h0 h1 hc
    simp only [putU]
    split
    · simp; omega
    · obtain ⟨c, rfl⟩ : ∃ q, c = q + 1 := ⟨c - 1, by omega⟩
      rw [Int.pow_succ] at h1
      have h2 : 1 ≤ c := by
        rcases c with _ | c
        · simp at h1; omega
        · omega
      have := ih (x / 128) c (by omega) (by omega) h2
      simp; omega
theorem dig_one (c : Int) (l : List Int) : dig (c :: l) 1 = [c % 128] := by simp [dig]
theorem dig_succ (c : Int) (l : List Int) (n : Nat) : dig (c :: l) (n + 1) = c % 128 :: dig l n := by simp [dig]
theorem putU_bytes (f : Nat) : ∀ x : Int, 0 ≤ x → x < 128 ^ (f + 1) → Bytes (putU f x) := by
  induction f with
  | zero => intro x h0 h1 y hy; simp [putU] at hy; subst hy; simp at h1; omega
  | succ f ih =>
    intro x h0 h1 y hy
    simp only [putU] at hy
    split at hy
    · simp at hy; omega
    · rcases List.mem_cons.1 hy with rfl | hy
      · omega
      · rw [Int.pow_succ] at h1
        exact ih (x / 128) (by omega) (by omega) y hy
theorem putU_cnt (f : Nat) : ∀ (x : Int) (rest : List Int) (m : Nat), 0 ≤ x → x < 128 ^ (f + 1) → (putU f x).length ≤ m →
    cnt m (putU f x ++ rest) = some (putU f x).length ∧ val (dig (putU f x ++ rest) (putU f x).length) = x := by
  induction f with
  | zero =>
    intro x rest m h0 h1 hm
    simp only [putU, List.length_singleton] at hm ⊢
    obtain ⟨m, rfl⟩ : ∃ q, m = q + 1 := ⟨m - 1, by omega⟩
    simp at h1
    refine ⟨by simp [cnt, h1], ?_⟩
    simp only [List.singleton_append, dig_one, val]; omega
  | succ f ih =>
    intro x rest m h0 h1 hm
    simp only [putU] at hm ⊢
    by_cases hx : x < 128
    · simp only [if_pos hx, List.length_singleton] at hm ⊢
      obtain ⟨m, rfl⟩ : ∃ q, m = q + 1 := ⟨m - 1, by omega⟩
      refine ⟨by simp [cnt, hx], ?_⟩
      simp only [List.singleton_append, dig_one, val]; omega
    · simp only [if_neg hx, List.length_cons] at hm ⊢
      obtain ⟨m, rfl⟩ : ∃ q, m = q + 1 := ⟨m - 1, by omega⟩
      rw [Int.pow_succ] at h1
      obtain ⟨i1, i2⟩ := ih (x / 128) rest m (by omega) (by omega) (by omega)
      refine ⟨?_, ?_⟩
      · simp only [List.cons_append, cnt]
        rw [if_neg (by omega), i1]; rfl
      · simp only [List.cons_append, dig_succ, val, i2]; omega
theorem Us_put {x w : Int} (h1 : 1 ≤ w) (h2 : w ≤ 64) (h0 : 0 ≤ x) (hx : x < 2 ^ w.toNat) (ahead rest : List Int) :
    Us (ahead ++ putU 9 x ++ rest) ahead.length w = (x, (ahead.length : Int) + ((putU 9 x).length : Int), 0) ∧ (putU 9 x).length ≤ room w := by
  have hr := room_bd h1 h2
  have hp : (2 : Int) ^ w.toNat ≤ 2 ^ (7 * room w) := p2_le (by omega)
  have hs := putU_short 9 x (room w) h0 (by rw [p128]; omega) (by omega)
  have hb := ones_bd (w := w.toNat) (by omega)
  obtain ⟨c1, c2⟩ := putU_cnt 9 x rest (room w) h0 (u64_lt (by omega)) hs
  have hd : (ahead ++ putU 9 x ++ rest).drop ((ahead.length : Int)).toNat = putU 9 x ++ rest := by simp
  refine ⟨?_, hs⟩
  have := Us_mk (l := ahead ++ putU 9 x ++ rest) (a := ahead.length) (w := w) (n := (putU 9 x).length) h1 h2 (by omega) (by simp; omega) (by rw [hd]; exact c1) (by rw [hd, c2]; exact hx)
  rw [this, hd, c2]
theorem bytes_app {l r : List Int} (h : Bytes l) (k : Bytes r) : Bytes (l ++ r) := fun x hx => (List.mem_append.1 hx).elim (h x) (k x)
theorem same_loop (l : List Int) (hl : l.length ≤ 140737488351232) (d : Nat) : ∀ (k i : Nat), l.length - i = d → i ≤ l.length → d < k → jacquardref00_Same.l0 k l l (i : Int) = some true := by
  induction d with
  | zero =>
    intro k i h0 h1 hk
    obtain ⟨k, rfl⟩ : ∃ m, k = m + 1 := ⟨k - 1, by omega⟩
    simp only [jacquardref00_Same.l0]
    rw [if_neg (by omega)]
  | succ d ih =>
    intro k i h0 h1 hk
    obtain ⟨k, rfl⟩ : ∃ m, k = m + 1 := ⟨k - 1, by omega⟩
    simp only [jacquardref00_Same.l0]
    rw [if_pos (by omega), if_pos (by omega), if_pos (by omega), if_pos trivial, w64 (by omega) (by omega)]
    exact ih k (i + 1) (by omega) (by omega) (by omega)
theorem same_self {l : List Int} (hl : l.length ≤ 140737488351232) : Ev (fun k => jacquardref00_Same.f k l l) true := by
  refine ⟨l.length + 1, fun k hk => ?_⟩
  show jacquardref00_Same.f k l l = _
  unfold jacquardref00_Same.f
  rw [if_pos rfl]
  exact same_loop l hl (l.length - 0) k 0 rfl (by omega) (by omega)
/-- a counted list -/
def Pk (l : List Int) : List Int := putU 9 l.length ++ l
theorem Pk_len (l : List Int) : (Pk l).length ≤ 10 + l.length := by
  have := putU_len 9 (l.length : Int)
  simp only [Pk, List.length_append]
  omega
theorem put_loop {l : List Int} (hl : l.length ≤ 1048576) (d : Nat) : ∀ (k i : Nat) (out : List Int), l.length - i = d → i ≤ l.length → d < k → out.length ≤ 10 + i → types_put.l0 k out l (l.length : Int) (i : Int) = some (out ++ l.drop i) := by
  induction d with
  | zero =>
    intro k i out h0 h1 hk ho
    obtain ⟨k, rfl⟩ : ∃ m, k = m + 1 := ⟨k - 1, by omega⟩
    simp only [types_put.l0]
    rw [if_neg (by omega), List.drop_eq_nil_of_le (by omega), List.append_nil]
  | succ d ih =>
    intro k i out h0 h1 hk ho
    obtain ⟨k, rfl⟩ : ∃ m, k = m + 1 := ⟨k - 1, by omega⟩
    simp only [types_put.l0]
    rw [if_pos (by omega), if_pos (by omega), if_pos (by omega), if_pos (by omega), w64 (by omega) (by omega)]
    have := ih k (i + 1) (out ++ [rd l (i : Int)]) (by omega) (by omega) (by omega) (by simp; omega)
    rw [show ((i + 1 : Nat) : Int) = (i : Int) + 1 from rfl] at this
    rw [this, rd_get (show i < l.length by omega), List.drop_eq_getElem_cons (show i < l.length by omega)]
    simp
theorem put_ev {l : List Int} (hl : l.length ≤ 1048576) : Ev (fun k => types_put.f k l) (Pk l) := by
  obtain ⟨K, hK⟩ := PutU_ev (x := (l.length : Int)) (by omega) (by omega)
  have hq := putU_len 9 (l.length : Int)
  refine ⟨K + l.length + 1, fun k hk => ?_⟩
  have e : leb_PutU.f k (l.length : Int) = some _ := hK k (by omega)
  show types_put.f k l = _
  have := put_loop hl (l.length - 0) k 0 (putU 9 (l.length : Int)) rfl (by omega) (by omega) (by omega)
  unfold types_put.f
  rw [u64w (by omega) (by omega), e, Option.bind_some]
  rw [show ((0 : Nat) : Int) = 0 from rfl, List.drop_zero] at this
  exact this
theorem refTypes_loop {l : List Int} (hl : l.length ≤ 1048576) (d : Nat) : ∀ (k i : Nat) (out : List Int), l.length - i = d → i ≤ l.length → d < k → out.length ≤ 10 + i → jacquardref09_types.l0 k l out (i : Int) = some (out ++ l.drop i) := by
  induction d with
  | zero =>
    intro k i out h0 h1 hk ho
    obtain ⟨k, rfl⟩ : ∃ m, k = m + 1 := ⟨k - 1, by omega⟩
    simp only [jacquardref09_types.l0]
    rw [if_neg (by omega), List.drop_eq_nil_of_le (by omega), List.append_nil]
  | succ d ih =>
    intro k i out h0 h1 hk ho
    obtain ⟨k, rfl⟩ : ∃ m, k = m + 1 := ⟨k - 1, by omega⟩
    simp only [jacquardref09_types.l0]
    rw [if_pos (by omega), if_pos (by omega), if_pos (by omega), w64 (by omega) (by omega)]
    have := ih k (i + 1) (out ++ [rd l (i : Int)]) (by omega) (by omega) (by omega) (by simp; omega)
    rw [show ((i + 1 : Nat) : Int) = (i : Int) + 1 from rfl] at this
    rw [this, rd_get (show i < l.length by omega), List.drop_eq_getElem_cons (show i < l.length by omega)]
    simp
theorem refTypes_ev {l : List Int} (hl : l.length ≤ 1048576) : Ev (fun k => jacquardref09_types.f k l) (Pk l) := by
  obtain ⟨K, hK⟩ := refPutU_ev (x := (l.length : Int)) (by omega) (by omega)
  have hq := putU_len 9 (l.length : Int)
  refine ⟨K + l.length + 1, fun k hk => ?_⟩
  have e : jacquardref01_PutU.f k (l.length : Int) = some _ := hK k (by omega)
  show jacquardref09_types.f k l = _
  have := refTypes_loop hl (l.length - 0) k 0 (putU 9 (l.length : Int)) rfl (by omega) (by omega) (by omega)
  unfold jacquardref09_types.f
  rw [u64w (by omega) (by omega), e, Option.bind_some]
  rw [show ((0 : Nat) : Int) = 0 from rfl, List.drop_zero] at this
  exact this
theorem lim3 {x y z : List Int} (h : x.length + y.length + z.length ≤ 4194304) : ([] : List Int).length + x.length < 140737488355328 ∧ ([] ++ x : List Int).length + y.length < 140737488355328 ∧ ([] ++ x ++ y : List Int).length + z.length < 140737488355328 := by
  simp only [List.length_append, List.length_nil]
  omega
theorem concat3 (x y z : List Int) (h : x.length + y.length + z.length ≤ 4194304) (k : Nat) : slices_Concat_byte_byte.f (k + 8) [x, y, z] = some (x ++ y ++ z) := by
  have r0 : rd_L2 [x, y, z] 0 = x := rfl
  have r1 : rd_L2 [x, y, z] 1 = y := rfl
  have r2 : rd_L2 [x, y, z] 2 = z := rfl
  have el : (([x, y, z] : List (List Int)).length : Int) = 3 := rfl
  have w0 : wrap64 (0 + (x.length : Int)) = (x.length : Int) := by rw [w64 (by omega) (by omega)]; omega
  have w1 : wrap64 ((x.length : Int) + (y.length : Int)) = (x.length : Int) + (y.length : Int) := w64 (by omega) (by omega)
  have w2 : wrap64 ((x.length : Int) + (y.length : Int) + (z.length : Int)) = (x.length : Int) + (y.length : Int) + (z.length : Int) := w64 (by omega) (by omega)
  have i0 : wrap64 (0 + 1) = 1 := by decide +kernel
  have i1 : wrap64 (1 + 1) = 2 := by decide +kernel
  have i2 : wrap64 (2 + 1) = 3 := by decide +kernel
  obtain ⟨l0, l1, l2⟩ := lim3 h
  have g : slices_Grow_byte_byte.f ([] : List Int) ((x.length : Int) + (y.length : Int) + (z.length : Int)) = some [] := by
    simp only [slices_Grow_byte_byte.f]
    rw [if_pos (by omega), if_pos (by omega)]
  unfold slices_Concat_byte_byte.f
  rw [el, slices_Concat_byte_byte.l0, r0, w0, i0, el, if_pos (by decide), if_pos (by decide), if_pos (by decide), if_neg (by omega)]
  rw [slices_Concat_byte_byte.l0, r1, w1, i1, el, if_pos (by decide), if_pos (by decide), if_pos (by decide), if_neg (by omega)]
  rw [slices_Concat_byte_byte.l0, r2, w2, i2, el, if_pos (by decide), if_pos (by decide), if_pos (by decide), if_neg (by omega)]
  rw [slices_Concat_byte_byte.l0, if_neg (by decide), g, Option.bind_some, el]
  rw [slices_Concat_byte_byte.l1, r0, i0, el, if_pos (by decide), if_pos (by decide), if_pos (by decide), if_pos l0]
  rw [slices_Concat_byte_byte.l1, r1, i1, el, if_pos (by decide), if_pos (by decide), if_pos (by decide), if_pos l1]
  rw [slices_Concat_byte_byte.l1, r2, i2, el, if_pos (by decide), if_pos (by decide), if_pos (by decide), if_pos l2]
  rw [slices_Concat_byte_byte.l1, if_neg (by decide)]
  rfl
/-- the bytes of a function's type -/
def Pf (p r : List Int) : List Int := [96] ++ Pk p ++ Pk r
theorem Put_ev {p r : List Int} (hp : p.length ≤ 1048576) (hr : r.length ≤ 1048576) : Ev (fun k => types_Put.f k p r) (Pf p r) := by
  obtain ⟨K1, h1⟩ := put_ev hp
  obtain ⟨K2, h2⟩ := put_ev hr
  have q1 := Pk_len p
  have q2 := Pk_len r
  refine ⟨K1 + K2 + 8, fun k hk => ?_⟩
  obtain ⟨k, rfl⟩ : ∃ m, k = m + 8 := ⟨k - 8, by omega⟩
  have e1 : types_put.f (k + 8) p = some _ := h1 _ (by omega)
  have e2 : types_put.f (k + 8) r = some _ := h2 _ (by omega)
  show types_Put.f (k + 8) p r = _
  unfold types_Put.f
  rw [e1, Option.bind_some, e2, Option.bind_some, concat3 _ _ _ (by simp only [List.length_cons, List.length_nil]; omega)]
  rfl
theorem limP {p r : List Int} (hp : p.length ≤ 2097152) (hr : r.length ≤ 2097152) (c : Int) : ([c] : List Int).length + p.length < 140737488355328 ∧ ([c] ++ p : List Int).length + r.length < 140737488355328 := by
  simp only [List.length_append, List.length_cons, List.length_nil]
  omega
theorem refPut_ev {p r : List Int} (hp : p.length ≤ 1048576) (hr : r.length ≤ 1048576) : Ev (fun k => jacquardref09_Put.f k p r) (Pf p r) := by
  obtain ⟨K1, h1⟩ := refTypes_ev hp
  obtain ⟨K2, h2⟩ := refTypes_ev hr
  have q1 := Pk_len p
  have q2 := Pk_len r
  obtain ⟨l1, l2⟩ := limP (p := Pk p) (r := Pk r) (by omega) (by omega) 96
  refine ⟨K1 + K2, fun k hk => ?_⟩
  have e1 : jacquardref09_types.f k p = some _ := h1 _ (by omega)
  have e2 : jacquardref09_types.f k r = some _ := h2 _ (by omega)
  show jacquardref09_Put.f k p r = _
  unfold jacquardref09_Put.f
  rw [Option.bind_some, e1, Option.bind_some, e2, Option.bind_some, if_pos l1, Option.bind_some, if_pos l2]
  rfl
/-- the bytes of limits -/
def Pl (a b : Int) (c : Bool) : List Int := if c then [1] ++ putU 9 a ++ putU 9 b else [0] ++ putU 9 a
theorem PutLimits_ev {a b : Int} (c : Bool) (ha : 0 ≤ a ∧ a ≤ 4294967295) (hb : 0 ≤ b ∧ b ≤ 4294967295) : Ev (fun k => types_PutLimits.f k a b c) (Pl a b c) := by
  obtain ⟨K1, h1⟩ := PutU_ev (x := a) (by omega) (by omega)
  obtain ⟨K2, h2⟩ := PutU_ev (x := b) (by omega) (by omega)
  have q1 := putU_len 9 a
  have q2 := putU_len 9 b
  have eA : IntKind.u64.wrap a = a := u64w (by omega) (by omega)
  have eB : IntKind.u64.wrap b = b := u64w (by omega) (by omega)
  obtain ⟨l1, l2⟩ := limP (p := putU 9 a) (r := []) (by omega) (by simp) 0
  refine ⟨K1 + K2 + 8, fun k hk => ?_⟩
  obtain ⟨k, rfl⟩ : ∃ m, k = m + 8 := ⟨k - 8, by omega⟩
  have e1 : leb_PutU.f (k + 8) a = some _ := h1 _ (by omega)
  have e2 : leb_PutU.f (k + 8) b = some _ := h2 _ (by omega)
  show types_PutLimits.f (k + 8) a b c = _
  unfold types_PutLimits.f Pl
  cases c
  · rw [if_neg (by decide), if_neg (by decide), Option.bind_some, eA, e1, Option.bind_some, if_pos l1]
  · rw [if_pos rfl, if_pos rfl, eA, eB, e1, Option.bind_some, e2, Option.bind_some, concat3 _ _ _ (by simp only [List.length_cons, List.length_nil]; omega)]
    rfl
theorem refPutLimits_ev {a b : Int} (c : Bool) (ha : 0 ≤ a ∧ a ≤ 4294967295) (hb : 0 ≤ b ∧ b ≤ 4294967295) : Ev (fun k => jacquardref09_PutLimits.f k a b c) (Pl a b c) := by
  obtain ⟨K1, h1⟩ := refPutU_ev (x := a) (by omega) (by omega)
  obtain ⟨K2, h2⟩ := refPutU_ev (x := b) (by omega) (by omega)
  have q1 := putU_len 9 a
  have q2 := putU_len 9 b
  have eA : IntKind.u64.wrap a = a := u64w (by omega) (by omega)
  have eB : IntKind.u64.wrap b = b := u64w (by omega) (by omega)
  obtain ⟨l1, l2⟩ := limP (p := putU 9 a) (r := putU 9 b) (by omega) (by omega) 1
  obtain ⟨l3, l4⟩ := limP (p := putU 9 a) (r := putU 9 b) (by omega) (by omega) 0
  refine ⟨K1 + K2, fun k hk => ?_⟩
  have e1 : jacquardref01_PutU.f k a = some _ := h1 _ (by omega)
  have e2 : jacquardref01_PutU.f k b = some _ := h2 _ (by omega)
  show jacquardref09_PutLimits.f k a b c = _
  unfold jacquardref09_PutLimits.f Pl
  rw [eA, eB, e1, Option.bind_some, e2, Option.bind_some]
  cases c
  · rw [if_neg (by decide), if_neg (by decide), Option.bind_some, if_pos l3]
  · rw [if_pos rfl, if_pos rfl, Option.bind_some, if_pos l1, Option.bind_some, if_pos l2]
/-! ### what is put is read -/
theorem Pl_len (a b : Int) (c : Bool) : 1 ≤ (Pl a b c).length ∧ (Pl a b c).length ≤ 21 := by
  have q1 := putU_len 9 a
  have q2 := putU_len 9 b
  unfold Pl
  cases c <;> simp <;> omega
theorem Pf_len (p r : List Int) : (Pf p r).length = 1 + (Pk p).length + (Pk r).length := by simp [Pf]; omega
theorem getD_mid (l r : List Int) (c : Int) : (l ++ c :: r).getD l.length 0 = c := by simp
theorem Bs_mid (l r : List Int) (c : Int) : Bs (l ++ c :: r) l.length = (c, 0) := by
  unfold Bs
  rw [if_pos (by simp; omega), if_pos (by simp; omega), Int.toNat_natCast, getD_mid]
theorem Us_mid {x : Int} (h0 : 0 ≤ x) (h1 : x ≤ 4294967295) (l r : List Int) {a : Int} (ha : a = l.length) : Us (l ++ putU 9 x ++ r) a 32 = (x, a + ((putU 9 x).length : Int), 0) := by
  subst ha
  have e32 : (2 : Int) ^ (32 : Int).toNat = 4294967296 := by decide
  exact (Us_put (x := x) (w := 32) (by omega) (by omega) h0 (by omega) l r).1
theorem Ls_mid {p : List Int} (hp : p.length ≤ 1048576) (ht : p.all isT = true) (l r : List Int) {a : Int} (ha : a = l.length) : Ls (l ++ Pk p ++ r) a = (p, a + ((Pk p).length : Int), 0) := by
  have e := Us_mid (x := (p.length : Int)) (by omega) (by omega) l (p ++ r) ha
  have e2 : l ++ putU 9 (p.length : Int) ++ (p ++ r) = l ++ Pk p ++ r := by simp [Pk]
  rw [e2] at e
  unfold Ls
  simp only [e, if_true]
  have en : (a + ((putU 9 (p.length : Int)).length : Int)).toNat = (l ++ putU 9 (p.length : Int)).length := by subst ha; simp; omega
  have ed : (l ++ Pk p ++ r).drop (l ++ putU 9 (p.length : Int)).length = p ++ r := by
    rw [← e2, List.drop_left]
  unfold take
  rw [en, ed, Int.toNat_natCast, List.take_left, if_pos ⟨by rw [← e2]; simp only [List.length_append]; omega, ht⟩]
  subst ha
  simp only [Pk, List.length_append, Prod.mk.injEq, true_and, and_true]
  omega
theorem Fs_put {p r : List Int} (hp : p.length ≤ 1048576) (hr : r.length ≤ 1048576) (tp : p.all isT = true) (tr : r.all isT = true) (l z : List Int) : Fs (l ++ Pf p r ++ z) l.length = (p, r, (l.length : Int) + ((Pf p r).length : Int), 0) := by
  have e0 : l ++ Pf p r ++ z = l ++ 96 :: (Pk p ++ Pk r ++ z) := by simp [Pf]
  have e1 : l ++ Pf p r ++ z = (l ++ [96]) ++ Pk p ++ (Pk r ++ z) := by simp [Pf]
  have e2 : l ++ Pf p r ++ z = (l ++ [96] ++ Pk p) ++ Pk r ++ z := by simp [Pf]
  have b := Bs_mid l (Pk p ++ Pk r ++ z) 96
  rw [← e0] at b
  have c := Ls_mid hp tp (l ++ [96]) (Pk r ++ z) (a := (l.length : Int) + 1) (by simp)
  rw [← e1] at c
  have d := Ls_mid hr tr (l ++ [96] ++ Pk p) z (a := (l.length : Int) + 1 + ((Pk p).length : Int)) (by simp; omega)
  rw [← e2] at d
  have q := Pf_len p r
  unfold Fs
  simp only [b, c, d, if_true, Prod.mk.injEq, true_and, and_true]
  omega
theorem Lm_put {a b : Int} {c : Bool} (ha : 0 ≤ a ∧ a ≤ 4294967295) (hb : 0 ≤ b ∧ b ≤ 4294967295) (hc : c = true ∨ b = 0) (l z : List Int) {n : Int} (hn : n = l.length) : Lm (l ++ Pl a b c ++ z) n = (a, b, c, n + ((Pl a b c).length : Int), 0) := by
  subst hn
  cases c with
  | false =>
    obtain rfl : b = 0 := by rcases hc with h | h; exact absurd h (by decide); exact h
    have e0 : l ++ Pl a 0 false ++ z = l ++ 0 :: (putU 9 a ++ z) := by simp [Pl]
    have e1 : l ++ Pl a 0 false ++ z = (l ++ [0]) ++ putU 9 a ++ z := by simp [Pl]
    have b := Bs_mid l (putU 9 a ++ z) 0
    rw [← e0] at b
    have u := Us_mid ha.1 ha.2 (l ++ [0]) z (a := (l.length : Int) + 1) (by simp)
    rw [← e1] at u
    have q : (Pl a 0 false).length = 1 + (putU 9 a).length := by simp [Pl]; omega
    unfold Lm
    simp only [b, u, if_true]
    rw [if_neg (by decide), if_neg (by decide), q]
    simp only [Prod.mk.injEq, true_and, and_true]
    omega
  | true =>
    have e0 : l ++ Pl a b true ++ z = l ++ 1 :: (putU 9 a ++ putU 9 b ++ z) := by simp [Pl]
    have e1 : l ++ Pl a b true ++ z = (l ++ [1]) ++ putU 9 a ++ (putU 9 b ++ z) := by simp [Pl]
    have e2 : l ++ Pl a b true ++ z = (l ++ [1] ++ putU 9 a) ++ putU 9 b ++ z := by simp [Pl]
    have bb := Bs_mid l (putU 9 a ++ putU 9 b ++ z) 1
    rw [← e0] at bb
    have u := Us_mid ha.1 ha.2 (l ++ [1]) (putU 9 b ++ z) (a := (l.length : Int) + 1) (by simp)
    rw [← e1] at u
    have v := Us_mid hb.1 hb.2 (l ++ [1] ++ putU 9 a) z (a := (l.length : Int) + 1 + ((putU 9 a).length : Int)) (by simp; omega)
    rw [← e2] at v
    have q : (Pl a b true).length = 1 + (putU 9 a).length + (putU 9 b).length := by simp [Pl]; omega
    unfold Lm
    simp only [bb, u, v, if_true]
    rw [if_neg (by decide), q]
    simp only [Prod.mk.injEq, true_and, and_true]
    omega
theorem Pk_bytes {p : List Int} (hp : p.length ≤ 1048576) (hb : Bytes p) : Bytes (Pk p) := bytes_app (putU_bytes 9 _ (by omega) (u64_lt (by omega))) hb
theorem Pf_bytes {p r : List Int} (hp : p.length ≤ 1048576) (hr : r.length ≤ 1048576) (bp : Bytes p) (br : Bytes r) : Bytes (Pf p r) :=
  bytes_app (bytes_app (fun x hx => by simp at hx; subst hx; omega) (Pk_bytes hp bp)) (Pk_bytes hr br)
theorem Pl_bytes {a b : Int} (c : Bool) (ha : 0 ≤ a ∧ a ≤ 4294967295) (hb : 0 ≤ b ∧ b ≤ 4294967295) : Bytes (Pl a b c) := by
  have x1 := putU_bytes 9 a ha.1 (u64_lt (by omega))
  have x2 := putU_bytes 9 b hb.1 (u64_lt (by omega))
  unfold Pl
  cases c
  · exact bytes_app (fun x hx => by simp at hx; subst hx; omega) x1
  · exact bytes_app (bytes_app (fun x hx => by simp at hx; subst hx; omega) x1) x2
end Go.Proofs.Ythillgpbenjldaa.LebM
