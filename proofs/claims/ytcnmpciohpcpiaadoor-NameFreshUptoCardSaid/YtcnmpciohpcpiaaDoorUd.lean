/- utf8.Valid answers whether all letters are read. -/
import Derived.Test.YtcnmpciohpcpiaaDoorUc
namespace Go.Proofs.YtcnmpciohpcpiaaDoor.LebM
set_option linter.unusedVariables false
set_option linter.unusedSimpArgs false
open Go.Proofs.YtcnmpciohpcpiaaDoorTabs
open Go.RowKit Go.Proofs.YtcnmpciohpcpiaaDoorW.PrintWords Go.Proofs.YtcnmpciohpcpiaaDoorW.PrintLast Go.Proofs.YtcnmpciohpcpiaaDoorW.PrintMore Go.Proofs.YtcnmpciohpcpiaaDoor.P
def fst_ (c : Int) : Int := if c < 128 then 240 else if c < 194 then 241 else if c < 224 then 2 else if c = 224 then 19 else if c < 237 then 3 else if c = 237 then 35 else if c < 240 then 3 else if c = 240 then 52 else if c < 244 then 4 else if c = 244 then 68 else 241
theorem fst_all : ∀ n : Fin 256, rd uFL (n.val : Int) = fst_ (n.val : Int) := by decide +kernel
theorem fst_eq {c : Int} (h0 : 0 ≤ c) (h1 : c < 256) : rd uFL c = fst_ c := by
  obtain ⟨n, rfl⟩ := Int.eq_ofNat_of_zero_le h0
  exact fst_all ⟨n, by omega⟩
theorem sz241 : wrap64 (Go.bits .and .u8 241 7) = 1 := by decide +kernel
theorem sz2 : wrap64 (Go.bits .and .u8 2 7) = 2 := by decide +kernel
theorem sz19 : wrap64 (Go.bits .and .u8 19 7) = 3 := by decide +kernel
theorem sz3 : wrap64 (Go.bits .and .u8 3 7) = 3 := by decide +kernel
theorem sz35 : wrap64 (Go.bits .and .u8 35 7) = 3 := by decide +kernel
theorem sz52 : wrap64 (Go.bits .and .u8 52 7) = 4 := by decide +kernel
theorem sz4 : wrap64 (Go.bits .and .u8 4 7) = 4 := by decide +kernel
theorem sz68 : wrap64 (Go.bits .and .u8 68 7) = 4 := by decide +kernel
theorem lo0 : rd aLL 0 = 128 ∧ rd aHL 0 = 191 := by decide +kernel
theorem lo1 : rd aLL 1 = 160 ∧ rd aHL 1 = 191 := by decide +kernel
theorem lo2 : rd aLL 2 = 128 ∧ rd aHL 2 = 159 := by decide +kernel
theorem lo3 : rd aLL 3 = 144 ∧ rd aHL 3 = 191 := by decide +kernel
theorem lo4 : rd aLL 4 = 128 ∧ rd aHL 4 = 143 := by decide +kernel
theorem j5_eq (k : Nat) (x : List Int) (b : Bool) (h : b = false → 2 ≤ x.length) : utf8_Valid.j5 (k + 1) x b = if b = true then some false else utf8_Valid.l0 k (x.drop 2) := by
  simp only [utf8_Valid.j5]
  by_cases c : b = true
  · rw [if_pos c, if_pos c]
  · rw [if_neg c, if_neg c, if_pos (by have := h (by simpa using c); omega)]
theorem j6_eq (k : Nat) (x : List Int) (b : Bool) (h : b = false → 3 ≤ x.length) : utf8_Valid.j6 (k + 1) x b = if b = true then some false else utf8_Valid.l0 k (x.drop 3) := by
  simp only [utf8_Valid.j6]
  by_cases c : b = true
  · rw [if_pos c, if_pos c]
  · rw [if_neg c, if_neg c, if_pos (by have := h (by simpa using c); omega)]
theorem j7_eq (k : Nat) (x : List Int) (b : Bool) (h : b = false → 4 ≤ x.length) : utf8_Valid.j7 (k + 1) x b = if b = true then some false else utf8_Valid.l0 k (x.drop 4) := by
  simp only [utf8_Valid.j7]
  by_cases c : b = true
  · rw [if_pos c, if_pos c]
  · rw [if_neg c, if_neg c, if_pos (by have := h (by simpa using c); omega)]
theorem tail2 (k : Nat) (x : List Int) (lo hi : Int) : (if (x.length : Int) < 2 then (utf8_Valid.j5 (k + 1) x true) else (if 1 < (x.length : Int) then (if (rd x 1) < lo then (utf8_Valid.j5 (k + 1) x true) else (utf8_Valid.j5 (k + 1) x (decide (hi < (rd x 1))))) else (none))) =
    if 2 ≤ (x.length : Int) ∧ lo ≤ rd x 1 ∧ rd x 1 ≤ hi then utf8_Valid.l0 k (x.drop 2) else some false := by
  have ht : utf8_Valid.j5 (k + 1) x true = some false := j5_eq k x true (by simp)
  by_cases c1 : (x.length : Int) < 2
  · rw [if_pos c1, ht, if_neg (by omega)]
  rw [if_neg c1, if_pos (by omega)]
  by_cases c2 : rd x 1 < lo
  · rw [if_pos c2, ht, if_neg (by omega)]
  rw [if_neg c2, j5_eq k x _ (by intro _; omega)]
  by_cases c3 : hi < rd x 1
  · rw [if_pos (by simpa using c3), if_neg (by omega)]
  · rw [if_neg (by simpa using c3), if_pos (by omega)]
theorem tail3 (k : Nat) (x : List Int) (lo hi : Int) : (if (x.length : Int) < 3 then (utf8_Valid.j6 (k + 1) x true) else (if 1 < (x.length : Int) then (if (rd x 1) < lo then (utf8_Valid.j6 (k + 1) x true) else (if hi < (rd x 1) then (utf8_Valid.j6 (k + 1) x true) else (if 2 < (x.length : Int) then (if (rd x 2) < 128 then (utf8_Valid.j6 (k + 1) x true) else (utf8_Valid.j6 (k + 1) x (decide (191 < (rd x 2))))) else (none)))) else (none))) =
    if 3 ≤ (x.length : Int) ∧ lo ≤ rd x 1 ∧ rd x 1 ≤ hi ∧ 128 ≤ rd x 2 ∧ rd x 2 ≤ 191 then utf8_Valid.l0 k (x.drop 3) else some false := by
  have ht : utf8_Valid.j6 (k + 1) x true = some false := j6_eq k x true (by simp)
  by_cases c1 : (x.length : Int) < 3
  · rw [if_pos c1, ht, if_neg (by omega)]
  rw [if_neg c1, if_pos (by omega)]
  by_cases c2 : rd x 1 < lo
  · rw [if_pos c2, ht, if_neg (by omega)]
  rw [if_neg c2]
  by_cases c3 : hi < rd x 1
  · rw [if_pos c3, ht, if_neg (by omega)]
  rw [if_neg c3, if_pos (by omega)]
  by_cases c4 : rd x 2 < 128
  · rw [if_pos c4, ht, if_neg (by omega)]
  rw [if_neg c4, j6_eq k x _ (by intro _; omega)]
  by_cases c5 : 191 < rd x 2
  · rw [if_pos (by simpa using c5), if_neg (by omega)]
  · rw [if_neg (by simpa using c5), if_pos (by omega)]
theorem tail4 (k : Nat) (x : List Int) (lo hi : Int) : (if (x.length : Int) < 4 then (utf8_Valid.j7 (k + 1) x true) else (if 1 < (x.length : Int) then (if (rd x 1) < lo then (utf8_Valid.j7 (k + 1) x true) else (if hi < (rd x 1) then (utf8_Valid.j7 (k + 1) x true) else (if 2 < (x.length : Int) then (if (rd x 2) < 128 then (utf8_Valid.j7 (k + 1) x true) else (if 191 < (rd x 2) then (utf8_Valid.j7 (k + 1) x true) else (if 3 < (x.length : Int) then (if (rd x 3) < 128 then (utf8_Valid.j7 (k + 1) x true) else (utf8_Valid.j7 (k + 1) x (decide (191 < (rd x 3))))) else (none)))) else (none)))) else (none))) =
    if 4 ≤ (x.length : Int) ∧ lo ≤ rd x 1 ∧ rd x 1 ≤ hi ∧ 128 ≤ rd x 2 ∧ rd x 2 ≤ 191 ∧ 128 ≤ rd x 3 ∧ rd x 3 ≤ 191 then utf8_Valid.l0 k (x.drop 4) else some false := by
  have ht : utf8_Valid.j7 (k + 1) x true = some false := j7_eq k x true (by simp)
  by_cases c1 : (x.length : Int) < 4
  · rw [if_pos c1, ht, if_neg (by omega)]
  rw [if_neg c1, if_pos (by omega)]
  by_cases c2 : rd x 1 < lo
  · rw [if_pos c2, ht, if_neg (by omega)]
  rw [if_neg c2]
  by_cases c3 : hi < rd x 1
  · rw [if_pos c3, ht, if_neg (by omega)]
  rw [if_neg c3, if_pos (by omega)]
  by_cases c4 : rd x 2 < 128
  · rw [if_pos c4, ht, if_neg (by omega)]
  rw [if_neg c4]
  by_cases c5 : 191 < rd x 2
  · rw [if_pos c5, ht, if_neg (by omega)]
  rw [if_neg c5, if_pos (by omega)]
  by_cases c6 : rd x 3 < 128
  · rw [if_pos c6, ht, if_neg (by omega)]
  rw [if_neg c6, j7_eq k x _ (by intro _; omega)]
  by_cases c7 : 191 < rd x 3
  · rw [if_pos (by simpa using c7), if_neg (by omega)]
  · rw [if_neg (by simpa using c7), if_pos (by omega)]

theorem cl2 {x : List Int} (b1 : 0 ≤ rd x 1 ∧ rd x 1 < 256) (b2 : 0 ≤ rd x 2 ∧ rd x 2 < 256) (b3 : 0 ≤ rd x 3 ∧ rd x 3 < 256) (hc : 194 ≤ rd x 0 ∧ rd x 0 < 224) (k : Nat) :
    (if 2 ≤ (x.length : Int) ∧ 128 ≤ rd x 1 ∧ rd x 1 ≤ 191 then utf8_Valid.l0 k (x.drop 2) else some false) = if (one x).2 = 0 then some false else utf8_Valid.l0 k (x.drop (one x).2.toNat) := by
  by_cases h : 2 ≤ (x.length : Int) ∧ 128 ≤ rd x 1 ∧ rd x 1 ≤ 191
  · have e : (one x).2 = 2 := by
      unfold one
      rw [if_neg (by omega)]
      rw [if_pos (by omega)]
    rw [if_pos h, e]
    rfl
  · have e : (one x).2 = 0 := by
      unfold one
      rw [if_neg (by omega)]
      rw [if_neg (by omega), if_neg (by omega), if_neg (by omega)]
    rw [if_neg h, e]
    rfl

theorem cl19 {x : List Int} (b1 : 0 ≤ rd x 1 ∧ rd x 1 < 256) (b2 : 0 ≤ rd x 2 ∧ rd x 2 < 256) (b3 : 0 ≤ rd x 3 ∧ rd x 3 < 256) (hc : rd x 0 = 224) (k : Nat) :
    (if 3 ≤ (x.length : Int) ∧ 160 ≤ rd x 1 ∧ rd x 1 ≤ 191 ∧ 128 ≤ rd x 2 ∧ rd x 2 ≤ 191 then utf8_Valid.l0 k (x.drop 3) else some false) = if (one x).2 = 0 then some false else utf8_Valid.l0 k (x.drop (one x).2.toNat) := by
  by_cases h : 3 ≤ (x.length : Int) ∧ 160 ≤ rd x 1 ∧ rd x 1 ≤ 191 ∧ 128 ≤ rd x 2 ∧ rd x 2 ≤ 191
  · have e : (one x).2 = 3 := by
      unfold one
      rw [if_neg (by omega)]
      rw [if_neg (c := 192 ≤ rd x 0 ∧ _) (by omega)]; rw [if_pos (by omega)]
    rw [if_pos h, e]
    rfl
  · have e : (one x).2 = 0 := by
      unfold one
      rw [if_neg (by omega)]
      rw [if_neg (c := 192 ≤ rd x 0 ∧ _) (by omega)]; rw [if_neg (by omega), if_neg (by omega)]
    rw [if_neg h, e]
    rfl

theorem cl3 {x : List Int} (b1 : 0 ≤ rd x 1 ∧ rd x 1 < 256) (b2 : 0 ≤ rd x 2 ∧ rd x 2 < 256) (b3 : 0 ≤ rd x 3 ∧ rd x 3 < 256) (hc : 225 ≤ rd x 0 ∧ rd x 0 < 240 ∧ rd x 0 ≠ 237) (k : Nat) :
    (if 3 ≤ (x.length : Int) ∧ 128 ≤ rd x 1 ∧ rd x 1 ≤ 191 ∧ 128 ≤ rd x 2 ∧ rd x 2 ≤ 191 then utf8_Valid.l0 k (x.drop 3) else some false) = if (one x).2 = 0 then some false else utf8_Valid.l0 k (x.drop (one x).2.toNat) := by
  by_cases h : 3 ≤ (x.length : Int) ∧ 128 ≤ rd x 1 ∧ rd x 1 ≤ 191 ∧ 128 ≤ rd x 2 ∧ rd x 2 ≤ 191
  · have e : (one x).2 = 3 := by
      unfold one
      rw [if_neg (by omega)]
      rw [if_neg (c := 192 ≤ rd x 0 ∧ _) (by omega)]; rw [if_pos (by omega)]
    rw [if_pos h, e]
    rfl
  · have e : (one x).2 = 0 := by
      unfold one
      rw [if_neg (by omega)]
      rw [if_neg (c := 192 ≤ rd x 0 ∧ _) (by omega)]; rw [if_neg (by omega), if_neg (by omega)]
    rw [if_neg h, e]
    rfl

theorem cl35 {x : List Int} (b1 : 0 ≤ rd x 1 ∧ rd x 1 < 256) (b2 : 0 ≤ rd x 2 ∧ rd x 2 < 256) (b3 : 0 ≤ rd x 3 ∧ rd x 3 < 256) (hc : rd x 0 = 237) (k : Nat) :
    (if 3 ≤ (x.length : Int) ∧ 128 ≤ rd x 1 ∧ rd x 1 ≤ 159 ∧ 128 ≤ rd x 2 ∧ rd x 2 ≤ 191 then utf8_Valid.l0 k (x.drop 3) else some false) = if (one x).2 = 0 then some false else utf8_Valid.l0 k (x.drop (one x).2.toNat) := by
  by_cases h : 3 ≤ (x.length : Int) ∧ 128 ≤ rd x 1 ∧ rd x 1 ≤ 159 ∧ 128 ≤ rd x 2 ∧ rd x 2 ≤ 191
  · have e : (one x).2 = 3 := by
      unfold one
      rw [if_neg (by omega)]
      rw [if_neg (c := 192 ≤ rd x 0 ∧ _) (by omega)]; rw [if_pos (by omega)]
    rw [if_pos h, e]
    rfl
  · have e : (one x).2 = 0 := by
      unfold one
      rw [if_neg (by omega)]
      rw [if_neg (c := 192 ≤ rd x 0 ∧ _) (by omega)]; rw [if_neg (by omega), if_neg (by omega)]
    rw [if_neg h, e]
    rfl

theorem cl52 {x : List Int} (b1 : 0 ≤ rd x 1 ∧ rd x 1 < 256) (b2 : 0 ≤ rd x 2 ∧ rd x 2 < 256) (b3 : 0 ≤ rd x 3 ∧ rd x 3 < 256) (hc : rd x 0 = 240) (k : Nat) :
    (if 4 ≤ (x.length : Int) ∧ 144 ≤ rd x 1 ∧ rd x 1 ≤ 191 ∧ 128 ≤ rd x 2 ∧ rd x 2 ≤ 191 ∧ 128 ≤ rd x 3 ∧ rd x 3 ≤ 191 then utf8_Valid.l0 k (x.drop 4) else some false) = if (one x).2 = 0 then some false else utf8_Valid.l0 k (x.drop (one x).2.toNat) := by
  by_cases h : 4 ≤ (x.length : Int) ∧ 144 ≤ rd x 1 ∧ rd x 1 ≤ 191 ∧ 128 ≤ rd x 2 ∧ rd x 2 ≤ 191 ∧ 128 ≤ rd x 3 ∧ rd x 3 ≤ 191
  · have e : (one x).2 = 4 := by
      unfold one
      rw [if_neg (by omega)]
      rw [if_neg (c := 192 ≤ rd x 0 ∧ _) (by omega), if_neg (c := 224 ≤ rd x 0 ∧ _) (by omega)]; rw [if_pos (by omega)]
    rw [if_pos h, e]
    rfl
  · have e : (one x).2 = 0 := by
      unfold one
      rw [if_neg (by omega)]
      rw [if_neg (c := 192 ≤ rd x 0 ∧ _) (by omega), if_neg (c := 224 ≤ rd x 0 ∧ _) (by omega)]; rw [if_neg (by omega)]
    rw [if_neg h, e]
    rfl

theorem cl4 {x : List Int} (b1 : 0 ≤ rd x 1 ∧ rd x 1 < 256) (b2 : 0 ≤ rd x 2 ∧ rd x 2 < 256) (b3 : 0 ≤ rd x 3 ∧ rd x 3 < 256) (hc : 241 ≤ rd x 0 ∧ rd x 0 < 244) (k : Nat) :
    (if 4 ≤ (x.length : Int) ∧ 128 ≤ rd x 1 ∧ rd x 1 ≤ 191 ∧ 128 ≤ rd x 2 ∧ rd x 2 ≤ 191 ∧ 128 ≤ rd x 3 ∧ rd x 3 ≤ 191 then utf8_Valid.l0 k (x.drop 4) else some false) = if (one x).2 = 0 then some false else utf8_Valid.l0 k (x.drop (one x).2.toNat) := by
  by_cases h : 4 ≤ (x.length : Int) ∧ 128 ≤ rd x 1 ∧ rd x 1 ≤ 191 ∧ 128 ≤ rd x 2 ∧ rd x 2 ≤ 191 ∧ 128 ≤ rd x 3 ∧ rd x 3 ≤ 191
  · have e : (one x).2 = 4 := by
      unfold one
      rw [if_neg (by omega)]
      rw [if_neg (c := 192 ≤ rd x 0 ∧ _) (by omega), if_neg (c := 224 ≤ rd x 0 ∧ _) (by omega)]; rw [if_pos (by omega)]
    rw [if_pos h, e]
    rfl
  · have e : (one x).2 = 0 := by
      unfold one
      rw [if_neg (by omega)]
      rw [if_neg (c := 192 ≤ rd x 0 ∧ _) (by omega), if_neg (c := 224 ≤ rd x 0 ∧ _) (by omega)]; rw [if_neg (by omega)]
    rw [if_neg h, e]
    rfl

theorem cl68 {x : List Int} (b1 : 0 ≤ rd x 1 ∧ rd x 1 < 256) (b2 : 0 ≤ rd x 2 ∧ rd x 2 < 256) (b3 : 0 ≤ rd x 3 ∧ rd x 3 < 256) (hc : rd x 0 = 244) (k : Nat) :
    (if 4 ≤ (x.length : Int) ∧ 128 ≤ rd x 1 ∧ rd x 1 ≤ 143 ∧ 128 ≤ rd x 2 ∧ rd x 2 ≤ 191 ∧ 128 ≤ rd x 3 ∧ rd x 3 ≤ 191 then utf8_Valid.l0 k (x.drop 4) else some false) = if (one x).2 = 0 then some false else utf8_Valid.l0 k (x.drop (one x).2.toNat) := by
  by_cases h : 4 ≤ (x.length : Int) ∧ 128 ≤ rd x 1 ∧ rd x 1 ≤ 143 ∧ 128 ≤ rd x 2 ∧ rd x 2 ≤ 191 ∧ 128 ≤ rd x 3 ∧ rd x 3 ≤ 191
  · have e : (one x).2 = 4 := by
      unfold one
      rw [if_neg (by omega)]
      rw [if_neg (c := 192 ≤ rd x 0 ∧ _) (by omega), if_neg (c := 224 ≤ rd x 0 ∧ _) (by omega)]; rw [if_pos (by omega)]
    rw [if_pos h, e]
    rfl
  · have e : (one x).2 = 0 := by
      unfold one
      rw [if_neg (by omega)]
      rw [if_neg (c := 192 ≤ rd x 0 ∧ _) (by omega), if_neg (c := 224 ≤ rd x 0 ∧ _) (by omega)]; rw [if_neg (by omega)]
    rw [if_neg h, e]
    rfl

theorem l0_multi {x : List Int} (hb : Bytes x) (hx : x ≠ []) (hc : 128 ≤ rd x 0) (k : Nat) :
    utf8_Valid.l0 (k + 2) x = if (one x).2 = 0 then some false else utf8_Valid.l0 k (x.drop (one x).2.toNat) := by
  have hp : 0 < x.length := List.length_pos_iff.2 hx
  have b0 := rd_bd hb 0
  have b1 := rd_bd hb 1
  have b2 := rd_bd hb 2
  have b3 := rd_bd hb 3
  rw [utf8_Valid.l0]
  rw [if_pos (by omega), if_pos (by omega), if_neg (by omega), if_pos (by omega), if_pos (by omega)]
  have hF := fst_eq b0.1 b0.2
  unfold fst_ at hF
  rw [if_neg (by omega)] at hF
  by_cases c1 : rd x 0 < 194
  · rw [if_pos c1] at hF
    rw [hF, sz241]
    rw [if_pos (by decide), if_pos (by decide), if_neg (by decide), if_neg (by decide), if_neg (by decide)]
    have e : (one x).2 = 0 := by
      unfold one
      rw [if_neg (by omega), if_neg (by omega), if_neg (by omega), if_neg (by omega)]
    rw [if_pos e]
  rw [if_neg c1] at hF
  by_cases c2 : rd x 0 < 224
  · rw [if_pos c2] at hF
    rw [hF, sz2, show (2 : Int) / 16 = 0 from by decide, lo0.1, lo0.2]
    rw [if_pos (by decide), if_pos (by decide), if_pos (by decide), tail2]
    exact cl2 b1 b2 b3 ⟨by omega, c2⟩ k
  rw [if_neg c2] at hF
  by_cases c3 : rd x 0 = 224
  · rw [if_pos c3] at hF
    rw [hF, sz19, show (19 : Int) / 16 = 1 from by decide, lo1.1, lo1.2]
    rw [if_pos (by decide), if_pos (by decide), if_neg (by decide), if_pos (by decide), tail3]
    exact cl19 b1 b2 b3 c3 k
  rw [if_neg c3] at hF
  by_cases c4 : rd x 0 = 237
  · rw [if_neg (by omega), if_pos c4] at hF
    rw [hF, sz35, show (35 : Int) / 16 = 2 from by decide, lo2.1, lo2.2]
    rw [if_pos (by decide), if_pos (by decide), if_neg (by decide), if_pos (by decide), tail3]
    exact cl35 b1 b2 b3 c4 k
  by_cases c5 : rd x 0 < 240
  · have hF : rd uFL (rd x 0) = 3 := by
      by_cases c6 : rd x 0 < 237
      · rw [if_pos c6] at hF; exact hF
      · rw [if_neg c6, if_neg c4, if_pos c5] at hF; exact hF
    rw [hF, sz3, show (3 : Int) / 16 = 0 from by decide, lo0.1, lo0.2]
    rw [if_pos (by decide), if_pos (by decide), if_neg (by decide), if_pos (by decide), tail3]
    exact cl3 b1 b2 b3 ⟨by omega, c5, c4⟩ k
  rw [if_neg (by omega), if_neg c4, if_neg c5] at hF
  by_cases c6 : rd x 0 = 240
  · rw [if_pos c6] at hF
    rw [hF, sz52, show (52 : Int) / 16 = 3 from by decide, lo3.1, lo3.2]
    rw [if_pos (by decide), if_pos (by decide), if_neg (by decide), if_neg (by decide), if_pos (by decide), tail4]
    exact cl52 b1 b2 b3 c6 k
  rw [if_neg c6] at hF
  by_cases c7 : rd x 0 < 244
  · rw [if_pos c7] at hF
    rw [hF, sz4, show (4 : Int) / 16 = 0 from by decide, lo0.1, lo0.2]
    rw [if_pos (by decide), if_pos (by decide), if_neg (by decide), if_neg (by decide), if_pos (by decide), tail4]
    exact cl4 b1 b2 b3 ⟨by omega, c7⟩ k
  rw [if_neg c7] at hF
  by_cases c8 : rd x 0 = 244
  · rw [if_pos c8] at hF
    rw [hF, sz68, show (68 : Int) / 16 = 4 from by decide, lo4.1, lo4.2]
    rw [if_pos (by decide), if_pos (by decide), if_neg (by decide), if_neg (by decide), if_pos (by decide), tail4]
    exact cl68 b1 b2 b3 c8 k
  rw [if_neg c8] at hF
  rw [hF, sz241]
  rw [if_pos (by decide), if_pos (by decide), if_neg (by decide), if_neg (by decide), if_neg (by decide)]
  have e : (one x).2 = 0 := by
    unfold one
    rw [if_neg (by omega), if_neg (by omega), if_neg (by omega), if_neg (by omega)]
  rw [if_pos e]
end Go.Proofs.YtcnmpciohpcpiaaDoor.LebM
