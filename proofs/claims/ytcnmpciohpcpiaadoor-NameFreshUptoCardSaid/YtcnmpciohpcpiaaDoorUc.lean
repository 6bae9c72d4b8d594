/- Eight bytes as one number: if no top bit is set, all are below 128. -/
import Derived.Test.YtcnmpciohpcpiaaDoorUb
namespace Go.Proofs.YtcnmpciohpcpiaaDoor.LebM
set_option linter.unusedVariables false
set_option linter.unusedSimpArgs false
open Go.RowKit Go.Proofs.YtcnmpciohpcpiaaDoorW.PrintWords Go.Proofs.YtcnmpciohpcpiaaDoorW.PrintLast Go.Proofs.YtcnmpciohpcpiaaDoorW.PrintMore Go.Proofs.YtcnmpciohpcpiaaDoor.P
def top : Nat := 9259542123273814144
theorem bits_and64 (x y : Int) : Go.bits .and .u64 x y = IntKind.u64.wrap ((BitVec.ofInt 64 x &&& BitVec.ofInt 64 y).toNat : Int) := rfl
theorem and_nat {a b : Nat} (ha : a < 18446744073709551616) (hb : b < 18446744073709551616) : Go.bits .and .u64 (a : Int) (b : Int) = ((a &&& b : Nat) : Int) := by
  rw [bits_and64, ofInt_nat, ofInt_nat, BitVec.toNat_and, BitVec.toNat_ofNat, BitVec.toNat_ofNat, Nat.mod_eq_of_lt ha, Nat.mod_eq_of_lt hb, u64w (by omega)]
  have : a &&& b ≤ a := Nat.and_le_left
  omega
theorem or_nat {a b : Nat} (ha : a < 18446744073709551616) (hb : b < 18446744073709551616) : Go.bits .or .u64 (a : Int) (b : Int) = ((a ||| b : Nat) : Int) ∧ a ||| b < 18446744073709551616 := by
  have h : a ||| b < 18446744073709551616 := Nat.or_lt_two_pow (n := 64) ha hb
  refine ⟨?_, h⟩
  rw [bits_or64, ofInt_nat, ofInt_nat, BitVec.toNat_or, BitVec.toNat_ofNat, BitVec.toNat_ofNat, Nat.mod_eq_of_lt ha, Nat.mod_eq_of_lt hb, u64w (by omega) (by omega)]
def W8 (l : List Int) : Int := rd l 0 + rd l 1 * 256 + rd l 2 * 65536 + rd l 3 * 16777216 + rd l 4 * 4294967296 + rd l 5 * 1099511627776 + rd l 6 * 281474976710656 + rd l 7 * 72057594037927936
theorem word_eq {l : List Int} (hb : Bytes l) (h : 8 ≤ l.length) : utf8_word_byte.f l = some (W8 l) := by
  have b0 := rd_bd hb 0
  have b1 := rd_bd hb 1
  have b2 := rd_bd hb 2
  have b3 := rd_bd hb 3
  have b4 := rd_bd hb 4
  have b5 := rd_bd hb 5
  have b6 := rd_bd hb 6
  have b7 := rd_bd hb 7
  unfold utf8_word_byte.f
  rw [if_pos (by omega), if_pos (by omega), if_pos (by omega), if_pos (by omega), if_pos (by omega), if_pos (by omega), if_pos (by omega), if_pos (by omega)]
  simp (disch := omega) only [u64w]
  unfold W8
  congr 1
  have e1 := orAdd (x := rd l 0) (rd l 1) 8 (by omega) (by omega) (by omega) (by omega)
  have e2 := orAdd (x := rd l 0 + rd l 1 * 256) (rd l 2) 16 (by omega) (by omega) (by omega) (by omega)
  have e3 := orAdd (x := rd l 0 + rd l 1 * 256 + rd l 2 * 65536) (rd l 3) 24 (by omega) (by omega) (by omega) (by omega)
  have e4 := orAdd (x := rd l 0 + rd l 1 * 256 + rd l 2 * 65536 + rd l 3 * 16777216) (rd l 4) 32 (by omega) (by omega) (by omega) (by omega)
  have e5 := orAdd (x := rd l 0 + rd l 1 * 256 + rd l 2 * 65536 + rd l 3 * 16777216 + rd l 4 * 4294967296) (rd l 5) 40 (by omega) (by omega) (by omega) (by omega)
  have e6 := orAdd (x := rd l 0 + rd l 1 * 256 + rd l 2 * 65536 + rd l 3 * 16777216 + rd l 4 * 4294967296 + rd l 5 * 1099511627776) (rd l 6) 48 (by omega) (by omega) (by omega) (by omega)
  have e7 := orAdd (x := rd l 0 + rd l 1 * 256 + rd l 2 * 65536 + rd l 3 * 16777216 + rd l 4 * 4294967296 + rd l 5 * 1099511627776 + rd l 6 * 281474976710656) (rd l 7) 56 (by omega) (by omega) (by omega) (by omega)
  simp only [Int.reducePow] at e1 e2 e3 e4 e5 e6 e7
  rw [e1, e2, e3, e4, e5, e6, e7]
theorem W8_bd {l : List Int} (hb : Bytes l) : 0 ≤ W8 l ∧ W8 l < 18446744073709551616 := by
  have b0 := rd_bd hb 0
  have b1 := rd_bd hb 1
  have b2 := rd_bd hb 2
  have b3 := rd_bd hb 3
  have b4 := rd_bd hb 4
  have b5 := rd_bd hb 5
  have b6 := rd_bd hb 6
  have b7 := rd_bd hb 7
  unfold W8
  omega
theorem bit_lt {W i : Nat} (h : W.testBit i = false) : W / 2 ^ i % 2 = 0 := by
  rw [Nat.testBit_eq_decide_div_mod_eq] at h
  have := of_decide_eq_false h
  omega
theorem top_bits {W : Nat} (h : W &&& top = 0) : W / 2 ^ 7 % 2 = 0 ∧ W / 2 ^ 15 % 2 = 0 ∧ W / 2 ^ 23 % 2 = 0 ∧ W / 2 ^ 31 % 2 = 0 ∧ W / 2 ^ 39 % 2 = 0 ∧ W / 2 ^ 47 % 2 = 0 ∧ W / 2 ^ 55 % 2 = 0 ∧ W / 2 ^ 63 % 2 = 0 := by
  have key : ∀ i, top.testBit i = true → W / 2 ^ i % 2 = 0 := by
    intro i ht
    apply bit_lt
    have := congrArg (·.testBit i) h
    simp only [Nat.testBit_and, ht, Bool.and_true, Nat.zero_testBit] at this
    exact this
  exact ⟨key 7 (by decide), key 15 (by decide), key 23 (by decide), key 31 (by decide), key 39 (by decide), key 47 (by decide), key 55 (by decide), key 63 (by decide)⟩
theorem asc8 {l : List Int} (hb : Bytes l) (h : (W8 l).toNat &&& top = 0) : ∀ i : Nat, i < 8 → rd l (i : Int) < 128 := by
  have b0 := rd_bd hb 0
  have b1 := rd_bd hb 1
  have b2 := rd_bd hb 2
  have b3 := rd_bd hb 3
  have b4 := rd_bd hb 4
  have b5 := rd_bd hb 5
  have b6 := rd_bd hb 6
  have b7 := rd_bd hb 7
  have t := top_bits h
  unfold W8 at t
  intro i hi
  match i, hi with
  | 0, _ => show rd l 0 < 128; omega
  | 1, _ => show rd l 1 < 128; omega
  | 2, _ => show rd l 2 < 128; omega
  | 3, _ => show rd l 3 < 128; omega
  | 4, _ => show rd l 4 < 128; omega
  | 5, _ => show rd l 5 < 128; omega
  | 6, _ => show rd l 6 < 128; omega
  | 7, _ => show rd l 7 < 128; omega
end Go.Proofs.YtcnmpciohpcpiaaDoor.LebM
