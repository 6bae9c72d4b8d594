/- Plain arithmetic of groups of seven bits: what the numbers of unlike lengths are, and the words of the print on them. No program. -/
import Derived.Test.YthillgpbenjldaaWMore
namespace Go.Proofs.Ythillgpbenjldaa.LebM
open Go.RowKit Go.Proofs.YthillgpbenjldaaW.PrintWords Go.Proofs.YthillgpbenjldaaW.PrintLast Go.Proofs.YthillgpbenjldaaW.PrintMore

def Bytes (l : List Int) : Prop := ∀ x ∈ l, 0 ≤ x ∧ x < 256

theorem bytes_wf {l : List Int} (h : ∀ x ∈ l, (Lit.int .u8 x).wf = true) : Bytes l := by
  intro x hx
  have := h x hx
  simp [Lit.wf, IntKind.min, IntKind.max, IntKind.signed, IntKind.bits] at this
  omega

theorem w64 {x : Int} (h1 : -9223372036854775808 ≤ x) (h2 : x ≤ 9223372036854775807) : wrap64 x = x := by
  unfold wrap64; omega
theorem u64w {x : Int} (h1 : 0 ≤ x) (h2 : x ≤ 18446744073709551615) : IntKind.u64.wrap x = x := by
  simp [IntKind.wrap, IntKind.signed, IntKind.bits]; omega
theorem u64m (x : Int) : IntKind.u64.wrap x = x % 18446744073709551616 := by
  simp [IntKind.wrap, IntKind.signed, IntKind.bits]

theorem and127 {x : Int} (h0 : 0 ≤ x) (h1 : x < 256) : Go.bits .and .u8 x 127 = x % 128 := by
  have h : ∀ n : Fin 256, Go.bits .and .u8 (n.val : Int) 127 = (n.val : Int) % 128 := by decide +kernel
  have := h ⟨x.toNat, by omega⟩
  simpa [Int.toNat_of_nonneg h0] using this
theorem or128 {x : Int} (h0 : 0 ≤ x) (h1 : x < 256) : Go.bits .or .u8 x 128 = x % 128 + 128 := by
  have h : ∀ n : Fin 256, Go.bits .or .u8 (n.val : Int) 128 = (n.val : Int) % 128 + 128 := by decide +kernel
  have := h ⟨x.toNat, by omega⟩
  simpa [Int.toNat_of_nonneg h0] using this
theorem bits_or64 (x y : Int) : Go.bits .or .u64 x y = IntKind.u64.wrap ((BitVec.ofInt 64 x ||| BitVec.ofInt 64 y).toNat : Int) := rfl
theorem ofInt_nat (n : Nat) : (BitVec.ofInt 64 (n : Int) : BitVec 64) = BitVec.ofNat 64 n := by simp
theorem nat_pow (m i : Nat) : ((m : Int) * 2 ^ i) = ((m * 2 ^ i : Nat) : Int) := by rw [Int.natCast_mul, Int.natCast_pow]; rfl
theorem orAdd {x : Int} (a : Int) (i : Nat) (hx0 : 0 ≤ x) (hx : x < 2 ^ i) (ha : 0 ≤ a) (h : a * 2 ^ i + x ≤ 18446744073709551615) : Go.bits .or .u64 x (a * 2 ^ i) = x + a * 2 ^ i := by
  obtain ⟨n, rfl⟩ := Int.eq_ofNat_of_zero_le hx0
  obtain ⟨m, rfl⟩ := Int.eq_ofNat_of_zero_le ha
  have hn : n < 2 ^ i := by
    have e : ((2 : Int) ^ i) = ((2 ^ i : Nat) : Int) := by rw [Int.natCast_pow]; rfl
    rw [e] at hx; omega
  rw [nat_pow] at h ⊢
  generalize hp : m * 2 ^ i = p at *
  have hor : p ||| n = p + n := by rw [← hp, Nat.mul_comm]; exact (Nat.two_pow_add_eq_or_of_lt hn m).symm
  rw [bits_or64, ofInt_nat, ofInt_nat, BitVec.toNat_or, BitVec.toNat_ofNat, BitVec.toNat_ofNat, Nat.mod_eq_of_lt (by omega), Nat.mod_eq_of_lt (by omega), Nat.or_comm, hor, u64w] <;> omega

/-! ### groups -/
/-- how many groups there are, of at most so many -/
def cnt : Nat → List Int → Option Nat
  | 0, _ => none
  | _ + 1, [] => none
  | m + 1, c :: l => if c < 128 then some 1 else (cnt m l).map (· + 1)
def val : List Int → Int
  | [] => 0
  | d :: ds => d + 128 * val ds
def Digits (l : List Int) : Prop := ∀ x ∈ l, 0 ≤ x ∧ x < 128
def dig (l : List Int) (n : Nat) : List Int := (l.take n).map (· % 128)

theorem cnt_bd : ∀ {m l n}, cnt m l = some n → 1 ≤ n ∧ n ≤ m ∧ n ≤ l.length := by
  intro m
  induction m with
  | zero => intro l n h; simp [cnt] at h
  | succ m ih =>
    intro l n h
    cases l with
    | nil => simp [cnt] at h
    | cons c l =>
      simp only [cnt] at h
      split at h
      · cases h; simp
      · rcases hc : cnt m l with _ | k
        · rw [hc] at h; simp at h
        · rw [hc] at h; simp at h; subst h
          have := ih hc
          simp; omega
theorem dig_digits (l : List Int) (n : Nat) : Digits (dig l n) := by
  intro x hx
  simp only [dig, List.mem_map] at hx
  obtain ⟨y, _, rfl⟩ := hx
  omega
theorem dig_length {l : List Int} {n : Nat} (h : n ≤ l.length) : (dig l n).length = n := by simp [dig]; omega

theorem val_nonneg : ∀ {l : List Int}, Digits l → 0 ≤ val l
  | [], _ => by simp [val]
  | d :: ds, h => by
    have h1 := h d (by simp)
    have h2 := val_nonneg (l := ds) (fun x hx => h x (by simp [hx]))
    simp only [val]; omega
theorem val_append (l r : List Int) : val (l ++ r) = val l + 128 ^ l.length * val r := by
  induction l with
  | nil => simp [val]
  | cons d l ih =>
    simp only [List.cons_append, val, ih, List.length_cons, Int.pow_succ]
    rw [Int.mul_add, ← Int.mul_assoc, Int.mul_comm (128 ^ l.length) 128]
    omega
theorem val_lt : ∀ {l : List Int}, Digits l → val l < 128 ^ l.length
  | [], _ => by simp [val]
  | d :: ds, h => by
    have h1 := h d (by simp)
    have h2 := val_lt (l := ds) (fun x hx => h x (by simp [hx]))
    simp only [val, List.length_cons, Int.pow_succ]; omega
theorem p128 (i : Nat) : (128 : Int) ^ i = 2 ^ (7 * i) := by rw [Int.pow_mul]; rfl

theorem digits_take {l : List Int} (h : Digits l) (n : Nat) : Digits (l.take n) := fun x hx => h x (List.mem_of_mem_take hx)
theorem digits_drop {l : List Int} (h : Digits l) (n : Nat) : Digits (l.drop n) := fun x hx => h x (List.mem_of_mem_drop hx)
theorem val_split (l : List Int) (i : Nat) (h : i ≤ l.length) : val l = val (l.take i) + 2 ^ (7 * i) * val (l.drop i) := by
  rw [← p128]
  have := val_append (l.take i) (l.drop i)
  rw [List.take_append_drop, List.length_take, Nat.min_eq_left h] at this
  exact this
theorem rd_get {l : List Int} {i : Nat} (h : i < l.length) : rd l (i : Int) = l[i] := by
  simp [rd, h]
theorem val_take_succ {l : List Int} {i : Nat} (h : i < l.length) : val (l.take (i + 1)) = val (l.take i) + l[i] * 2 ^ (7 * i) := by
  rw [List.take_succ_eq_append_getElem h, val_append, List.length_take, Nat.min_eq_left (by omega), p128]
  simp only [val]
  rw [Int.mul_comm]; simp
end Go.Proofs.Ythillgpbenjldaa.LebM
