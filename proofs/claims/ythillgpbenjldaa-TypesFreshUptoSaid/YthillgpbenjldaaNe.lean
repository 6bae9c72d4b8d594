/- The short form of a number is read as the number; counted lists of types are put, three rows joined (slices.Concat), limits put. -/
import Derived.Test.YthillgpbenjldaaPx17
import Derived.Test.YthillgpbenjldaaPx18
import Derived.Test.YthillgpbenjldaaPx0
import Derived.Test.YthillgpbenjldaaNd
namespace Go.Proofs.Ythillgpbenjldaa.LebM
set_option linter.unusedVariables false
set_option linter.unusedSimpArgs false
open Go.RowKit Go.Proofs.YthillgpbenjldaaW.PrintWords Go.Proofs.YthillgpbenjldaaW.PrintLast Go.Proofs.YthillgpbenjldaaW.PrintMore Go.Proofs.Ythillgpbenjldaa.P
def putU : Nat → Int → List Int
  | 0, x => [x]
  | f + 1, x => if x < 128 then [x] else (x % 128 + 128) :: putU f (x / 128)
theorem putU_len (f : Nat) : ∀ x, 1 ≤ (putU f x).length ∧ (putU f x).length ≤ f + 1 := by
  induction f with
  | zero => intro x; simp [putU]
  | succ f ih =>
    intro x
    simp only [putU]
    split
    · simp
    · have := ih (x / 128); simp; omega
theorem putU_loop (f : Nat) : ∀ (k : Nat) (x : Int) (out : List Int), 0 ≤ x → x < 128 ^ (f + 1) → out.length + f ≤ 100 → f < k →
    leb_PutU.l0 k x out = some (out ++ putU f x) := by
  induction f with
  | zero =>
    intro k x out h0 h1 h2 hk
    obtain ⟨k, rfl⟩ : ∃ m, k = m + 1 := ⟨k - 1, by omega⟩
    simp only [leb_PutU.l0]
    rw [if_neg (by omega), if_pos (by omega), Int.emod_eq_of_lt h0 (by omega)]
    simp [putU]
  | succ f ih =>
    intro k x out h0 h1 h2 hk
    obtain ⟨k, rfl⟩ : ∃ m, k = m + 1 := ⟨k - 1, by omega⟩
    simp only [leb_PutU.l0, putU]
    by_cases hx : x < 128
    · rw [if_neg (by omega), if_pos (by omega), if_pos hx, Int.emod_eq_of_lt h0 (by omega)]
    · have e : x % 256 % 128 = x % 128 := by omega
      rw [if_pos (by omega), if_pos (by omega), if_neg hx, or128 (by omega) (by omega), e]
      rw [ih k (x / 128) _ (by omega) (by rw [Int.pow_succ] at h1; omega) (by simp; omega) (by omega)]
      simp
theorem u64_lt {x : Int} (h : x ≤ 18446744073709551615) : x < 128 ^ 10 := by
  have e : (128 : Int) ^ 10 = 1180591620717411303424 := by decide
  omega
theorem PutU_ev {x : Int} (h0 : 0 ≤ x) (h1 : x ≤ 18446744073709551615) : Ev (fun k => leb_PutU.f k x) (putU 9 x) := by
  refine ⟨10, fun k hk => ?_⟩
  have := putU_loop 9 k x [] h0 (u64_lt h1) (by simp) (by omega)
  simpa [leb_PutU.f] using this
theorem refPutU_at (f : Nat) : ∀ (k : Nat) (x : Int), 0 ≤ x → x < 128 ^ (f + 1) → x ≤ 18446744073709551615 → f ≤ 90 → f < k → jacquardref01_PutU.f k x = some (putU f x) := by
  induction f with
  | zero =>
    intro k x h0 h1 h2 h3 hk
    obtain ⟨k, rfl⟩ : ∃ m, k = m + 1 := ⟨k - 1, by omega⟩
    simp only [jacquardref01_PutU.f]
    rw [if_pos (by omega), Int.emod_eq_of_lt h0 (by omega)]
    simp [putU]
  | succ f ih =>
    intro k x h0 h1 h2 h3 hk
    obtain ⟨k, rfl⟩ : ∃ m, k = m + 1 := ⟨k - 1, by omega⟩
    simp only [jacquardref01_PutU.f, putU]
    by_cases hx : x < 128
    · rw [if_pos hx, if_pos hx, Int.emod_eq_of_lt h0 (by omega)]
    · have hl := putU_len f (x / 128)
      rw [if_neg hx, if_neg hx, Int.tmod_eq_emod_of_nonneg h0, Int.tdiv_eq_ediv_of_nonneg h0, u64w (by omega) (by omega), ih k (x / 128) (by omega) (by rw [Int.pow_succ] at h1; omega) (by omega) (by omega) (by omega)]
      simp only [Option.bind_some]
      rw [if_pos (by simp; omega)]
      have e : (x % 128 % 256 + 128) % 256 = x % 128 + 128 := by omega
      rw [e]; rfl
theorem refPutU_ev {x : Int} (h0 : 0 ≤ x) (h1 : x ≤ 18446744073709551615) : Ev (fun k => jacquardref01_PutU.f k x) (putU 9 x) :=
  ⟨10, fun k hk => refPutU_at 9 k x h0 (u64_lt h1) h1 (by omega) (by omega)⟩
theorem same_loop (l : List Int) (hl : l.length ≤ 140737488351232) (d : Nat) : ∀ (k i : Nat), l.length - i = d → i ≤ l.length → d < k → jacquardref00_Same.l0 k l l (i : Int) = some true := by
  induction d with
  | zero =>
    intro k i h0 h1 hk
    obtain ⟨k, rfl⟩ : ∃ m, k = m + 1 := ⟨k - 1, by omega⟩
    simp only [jacquardref00_Same.l0]
    rw [if_neg (by omega)]
  | succ d ih =>
    intro k i h0 h1 hk
    obtain ⟨k, rfl⟩ : ∃ m, k = m + 1 := ⟨k - 1, by omega⟩
    simp only [jacquardref00_Same.l0]
    rw [if_pos (by omega), if_pos (by omega), if_pos (by omega), if_pos trivial, w64 (by omega) (by omega)]
    exact ih k (i + 1) (by omega) (by omega) (by omega)
theorem same_self {l : List Int} (hl : l.length ≤ 140737488351232) : Ev (fun k => jacquardref00_Same.f k l l) true := by
  refine ⟨l.length + 1, fun k hk => ?_⟩
  show jacquardref00_Same.f k l l = _
  unfold jacquardref00_Same.f
  rw [if_pos rfl]
  exact same_loop l hl (l.length - 0) k 0 rfl (by omega) (by omega)
/-- a counted list -/
def Pk (l : List Int) : List Int := putU 9 l.length ++ l
theorem Pk_len (l : List Int) : (Pk l).length ≤ 10 + l.length := by
  have := putU_len 9 (l.length : Int)
  simp only [Pk, List.length_append]
  omega
theorem put_loop {l : List Int} (hl : l.length ≤ 1048576) (d : Nat) : ∀ (k i : Nat) (out : List Int), l.length - i = d → i ≤ l.length → d < k → out.length ≤ 10 + i → types_put.l0 k out l (l.length : Int) (i : Int) = some (out ++ l.drop i) := by
  induction d with
  | zero =>
    intro k i out h0 h1 hk ho
    obtain ⟨k, rfl⟩ : ∃ m, k = m + 1 := ⟨k - 1, by omega⟩
    simp only [types_put.l0]
    rw [if_neg (by omega), List.drop_eq_nil_of_le (by omega), List.append_nil]
  | succ d ih =>
    intro k i out h0 h1 hk ho
    obtain ⟨k, rfl⟩ : ∃ m, k = m + 1 := ⟨k - 1, by omega⟩
    simp only [types_put.l0]
    rw [if_pos (by omega), if_pos (by omega), if_pos (by omega), if_pos (by omega), w64 (by omega) (by omega)]
    have := ih k (i + 1) (out ++ [rd l (i : Int)]) (by omega) (by omega) (by omega) (by simp; omega)
    rw [show ((i + 1 : Nat) : Int) = (i : Int) + 1 from rfl] at this
    rw [this, rd_get (show i < l.length by omega), List.drop_eq_getElem_cons (show i < l.length by omega)]
    simp
theorem put_ev {l : List Int} (hl : l.length ≤ 1048576) : Ev (fun k => types_put.f k l) (Pk l) := by
  obtain ⟨K, hK⟩ := PutU_ev (x := (l.length : Int)) (by omega) (by omega)
  have hq := putU_len 9 (l.length : Int)
  refine ⟨K + l.length + 1, fun k hk => ?_⟩
  have e : leb_PutU.f k (l.length : Int) = some _ := hK k (by omega)
  show types_put.f k l = _
  have := put_loop hl (l.length - 0) k 0 (putU 9 (l.length : Int)) rfl (by omega) (by omega) (by omega)
  unfold types_put.f
  rw [u64w (by omega) (by omega), e, Option.bind_some]
  rw [show ((0 : Nat) : Int) = 0 from rfl, List.drop_zero] at this
  exact this
theorem refTypes_loop {l : List Int} (hl : l.length ≤ 1048576) (d : Nat) : ∀ (k i : Nat) (out : List Int), l.length - i = d → i ≤ l.length → d < k → out.length ≤ 10 + i → jacquardref09_types.l0 k l out (i : Int) = some (out ++ l.drop i) := by
  induction d with
  | zero =>
    intro k i out h0 h1 hk ho
    obtain ⟨k, rfl⟩ : ∃ m, k = m + 1 := ⟨k - 1, by omega⟩
    simp only [jacquardref09_types.l0]
    rw [if_neg (by omega), List.drop_eq_nil_of_le (by omega), List.append_nil]
  | succ d ih =>
    intro k i out h0 h1 hk ho
    obtain ⟨k, rfl⟩ : ∃ m, k = m + 1 := ⟨k - 1, by omega⟩
    simp only [jacquardref09_types.l0]
    rw [if_pos (by omega), if_pos (by omega), if_pos (by omega), w64 (by omega) (by omega)]
    have := ih k (i + 1) (out ++ [rd l (i : Int)]) (by omega) (by omega) (by omega) (by simp; omega)
    rw [show ((i + 1 : Nat) : Int) = (i : Int) + 1 from rfl] at this
    rw [this, rd_get (show i < l.length by omega), List.drop_eq_getElem_cons (show i < l.length by omega)]
    simp
theorem refTypes_ev {l : List Int} (hl : l.length ≤ 1048576) : Ev (fun k => jacquardref09_types.f k l) (Pk l) := by
  obtain ⟨K, hK⟩ := refPutU_ev (x := (l.length : Int)) (by omega) (by omega)
  have hq := putU_len 9 (l.length : Int)
  refine ⟨K + l.length + 1, fun k hk => ?_⟩
  have e : jacquardref01_PutU.f k (l.length : Int) = some _ := hK k (by omega)
  show jacquardref09_types.f k l = _
  have := refTypes_loop hl (l.length - 0) k 0 (putU 9 (l.length : Int)) rfl (by omega) (by omega) (by omega)
  unfold jacquardref09_types.f
  rw [u64w (by omega) (by omega), e, Option.bind_some]
  rw [show ((0 : Nat) : Int) = 0 from rfl, List.drop_zero] at this
  exact this
theorem lim3 {x y z : List Int} (h : x.length + y.length + z.length ≤ 4194304) : ([] : List Int).length + x.length < 140737488355328 ∧ ([] ++ x : List Int).length + y.length < 140737488355328 ∧ ([] ++ x ++ y : List Int).length + z.length < 140737488355328 := by
  simp only [List.length_append, List.length_nil]
  omega
theorem concat3 (x y z : List Int) (h : x.length + y.length + z.length ≤ 4194304) (k : Nat) : slices_Concat_byte_byte.f (k + 8) [x, y, z] = some (x ++ y ++ z) := by
  have r0 : rd_L2 [x, y, z] 0 = x := rfl
  have r1 : rd_L2 [x, y, z] 1 = y := rfl
  have r2 : rd_L2 [x, y, z] 2 = z := rfl
  have el : (([x, y, z] : List (List Int)).length : Int) = 3 := rfl
  have w0 : wrap64 (0 + (x.length : Int)) = (x.length : Int) := by rw [w64 (by omega) (by omega)]; omega
  have w1 : wrap64 ((x.length : Int) + (y.length : Int)) = (x.length : Int) + (y.length : Int) := w64 (by omega) (by omega)
  have w2 : wrap64 ((x.length : Int) + (y.length : Int) + (z.length : Int)) = (x.length : Int) + (y.length : Int) + (z.length : Int) := w64 (by omega) (by omega)
  have i0 : wrap64 (0 + 1) = 1 := by decide +kernel
  have i1 : wrap64 (1 + 1) = 2 := by decide +kernel
  have i2 : wrap64 (2 + 1) = 3 := by decide +kernel
  obtain ⟨l0, l1, l2⟩ := lim3 h
  have g : slices_Grow_byte_byte.f ([] : List Int) ((x.length : Int) + (y.length : Int) + (z.length : Int)) = some [] := by
    simp only [slices_Grow_byte_byte.f]
    rw [if_pos (by omega), if_pos (by omega)]
  unfold slices_Concat_byte_byte.f
  rw [el, slices_Concat_byte_byte.l0, r0, w0, i0, el, if_pos (by decide), if_pos (by decide), if_pos (by decide), if_neg (by omega)]
  rw [slices_Concat_byte_byte.l0, r1, w1, i1, el, if_pos (by decide), if_pos (by decide), if_pos (by decide), if_neg (by omega)]
  rw [slices_Concat_byte_byte.l0, r2, w2, i2, el, if_pos (by decide), if_pos (by decide), if_pos (by decide), if_neg (by omega)]
  rw [slices_Concat_byte_byte.l0, if_neg (by decide), g, Option.bind_some, el]
  rw [slices_Concat_byte_byte.l1, r0, i0, el, if_pos (by decide), if_pos (by decide), if_pos (by decide), if_pos l0]
  rw [slices_Concat_byte_byte.l1, r1, i1, el, if_pos (by decide), if_pos (by decide), if_pos (by decide), if_pos l1]
  rw [slices_Concat_byte_byte.l1, r2, i2, el, if_pos (by decide), if_pos (by decide), if_pos (by decide), if_pos l2]
  rw [slices_Concat_byte_byte.l1, if_neg (by decide)]
  rfl
/-- the bytes of a function's type -/
def Pf (p r : List Int) : List Int := [96] ++ Pk p ++ Pk r
theorem Put_ev {p r : List Int} (hp : p.length ≤ 1048576) (hr : r.length ≤ 1048576) : Ev (fun k => types_Put.f k p r) (Pf p r) := by
  obtain ⟨K1, h1⟩ := put_ev hp
  obtain ⟨K2, h2⟩ := put_ev hr
  have q1 := Pk_len p
  have q2 := Pk_len r
  refine ⟨K1 + K2 + 8, fun k hk => ?_⟩
  obtain ⟨k, rfl⟩ : ∃ m, k = m + 8 := ⟨k - 8, by omega⟩
  have e1 : types_put.f (k + 8) p = some _ := h1 _ (by omega)
  have e2 : types_put.f (k + 8) r = some _ := h2 _ (by omega)
  show types_Put.f (k + 8) p r = _
  unfold types_Put.f
  rw [e1, Option.bind_some, e2, Option.bind_some, concat3 _ _ _ (by simp only [List.length_cons, List.length_nil]; omega)]
  rfl
theorem limP {p r : List Int} (hp : p.length ≤ 2097152) (hr : r.length ≤ 2097152) (c : Int) : ([c] : List Int).length + p.length < 140737488355328 ∧ ([c] ++ p : List Int).length + r.length < 140737488355328 := by
  simp only [List.length_append, List.length_cons, List.length_nil]
  omega
theorem refPut_ev {p r : List Int} (hp : p.length ≤ 1048576) (hr : r.length ≤ 1048576) : Ev (fun k => jacquardref09_Put.f k p r) (Pf p r) := by
  obtain ⟨K1, h1⟩ := refTypes_ev hp
  obtain ⟨K2, h2⟩ := refTypes_ev hr
  have q1 := Pk_len p
  have q2 := Pk_len r
  obtain ⟨l1, l2⟩ := limP (p := Pk p) (r := Pk r) (by omega) (by omega) 96
  refine ⟨K1 + K2, fun k hk => ?_⟩
  have e1 : jacquardref09_types.f k p = some _ := h1 _ (by omega)
  have e2 : jacquardref09_types.f k r = some _ := h2 _ (by omega)
  show jacquardref09_Put.f k p r = _
  unfold jacquardref09_Put.f
  rw [Option.bind_some, e1, Option.bind_some, e2, Option.bind_some, if_pos l1, Option.bind_some, if_pos l2]
  rfl
theorem Pf_len (p r : List Int) : (Pf p r).length = 1 + (Pk p).length + (Pk r).length := by simp [Pf]; omega
end Go.Proofs.Ythillgpbenjldaa.LebM
