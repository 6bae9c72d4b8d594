/- utf8.Valid: the whole. -/
import Derived.Test.YtcnmpciohpcpiaaDoorUd
namespace Go.Proofs.YtcnmpciohpcpiaaDoor.LebM
set_option linter.unusedVariables false
set_option linter.unusedSimpArgs false
open Go.RowKit Go.Proofs.YtcnmpciohpcpiaaDoorW.PrintWords Go.Proofs.YtcnmpciohpcpiaaDoorW.PrintLast Go.Proofs.YtcnmpciohpcpiaaDoorW.PrintMore Go.Proofs.YtcnmpciohpcpiaaDoor.P
theorem bytesDrop {l : List Int} (h : Bytes l) (n : Nat) : Bytes (l.drop n) := fun x hx => h x (List.mem_of_mem_drop hx)
theorem D_asc1 {l : List Int} (hl : l ≠ []) (h : rd l 0 < 128) : (D l).isSome = (D (l.drop 1)).isSome := by
  have e : one l = (rd l 0, 1) := by unfold one; rw [if_pos h]
  rw [D_ok hl (by rw [e]; show (1 : Int) ≠ 0; decide), e]
  simp
theorem D_asc (n : Nat) : ∀ {l : List Int}, n ≤ l.length → (∀ i : Nat, i < n → rd l (i : Int) < 128) → (D l).isSome = (D (l.drop n)).isSome := by
  induction n with
  | zero => intro l _ _; rfl
  | succ n ih =>
    intro l hn h
    have hl : l ≠ [] := by intro e; subst e; simp at hn
    rw [D_asc1 hl (h 0 (by omega)), ih (l := l.drop 1) (by simp; omega) (fun i hi => by rw [rd_drop]; have := h (i + 1) (by omega); rwa [show ((1 : Nat) : Int) + (i : Int) = ((i + 1 : Nat) : Int) from by omega])]
    rw [List.drop_drop]
    congr 3
    omega
theorem eight {l : List Int} (hb : Bytes l) (h : 8 ≤ l.length) (h2 : (W8 l).toNat &&& top = 0) : (D l).isSome = (D (l.drop 8)).isSome := D_asc 8 h (asc8 hb h2)
theorem nat8 {l : List Int} (hb : Bytes l) : W8 l = (((W8 l).toNat : Nat) : Int) ∧ (W8 l).toNat < 18446744073709551616 := by
  have := W8_bd hb
  omega
theorem tops : (9259542123273814144 : Int) = ((top : Nat) : Int) := rfl
theorem top_lt : top < 18446744073709551616 := by decide
theorem flag1 {l : List Int} (hb : Bytes l) (h : (Go.bits .and .u64 (W8 l) 9259542123273814144 == 0) = true) : (W8 l).toNat &&& top = 0 := by
  have n1 := nat8 hb
  rw [n1.1, tops, and_nat n1.2 top_lt] at h
  have := eq_of_beq h
  simpa using this
theorem or_zero {a b m : Nat} (h : (a ||| b) &&& m = 0) : a &&& m = 0 ∧ b &&& m = 0 := by
  rw [Nat.and_or_distrib_right] at h
  constructor
  · have : a &&& m ≤ (a &&& m) ||| (b &&& m) := Nat.left_le_or
    omega
  · have : b &&& m ≤ (a &&& m) ||| (b &&& m) := Nat.right_le_or
    omega
theorem flag2 {l r : List Int} (hl : Bytes l) (hr : Bytes r) (h : (Go.bits .and .u64 (Go.bits .or .u64 (W8 l) (W8 r)) 9259542123273814144 == 0) = true) : (W8 l).toNat &&& top = 0 ∧ (W8 r).toNat &&& top = 0 := by
  have n1 := nat8 hl
  have n2 := nat8 hr
  have o := or_nat n1.2 n2.2
  rw [n1.1, n2.1, o.1, tops, and_nat o.2 top_lt] at h
  have := eq_of_beq h
  exact or_zero (by simpa using this)
theorem flag4 {l r s t : List Int} (hl : Bytes l) (hr : Bytes r) (hs : Bytes s) (ht : Bytes t) (h : (Go.bits .and .u64 (Go.bits .or .u64 (Go.bits .or .u64 (W8 l) (W8 r)) (Go.bits .or .u64 (W8 s) (W8 t))) 9259542123273814144 == 0) = true) :
    (W8 l).toNat &&& top = 0 ∧ (W8 r).toNat &&& top = 0 ∧ (W8 s).toNat &&& top = 0 ∧ (W8 t).toNat &&& top = 0 := by
  have n1 := nat8 hl
  have n2 := nat8 hr
  have n3 := nat8 hs
  have n4 := nat8 ht
  have o := or_nat n1.2 n2.2
  have o2 := or_nat n3.2 n4.2
  have o3 := or_nat o.2 o2.2
  rw [n1.1, n2.1, n3.1, n4.1, o.1, o2.1, o3.1, tops, and_nat o3.2 top_lt] at h
  have := eq_of_beq h
  have z := or_zero (by simpa using this)
  exact ⟨(or_zero z.1).1, (or_zero z.1).2, (or_zero z.2).1, (or_zero z.2).2⟩
/-- what each part of the loop answers, of a list so long, at enough rounds -/
structure Ok (n : Nat) : Prop where
  l0 : ∀ (k : Nat) (x : List Int), x.length = n → Bytes x → 6 * n + 2 ≤ k → utf8_Valid.l0 k x = some (D x).isSome
  j4f : ∀ (k : Nat) (x : List Int), x.length = n → Bytes x → 6 * n + 3 ≤ k → utf8_Valid.j4 k x false = some (D x).isSome
  j4t : ∀ (k : Nat) (x : List Int), x.length = n → Bytes x → 6 * n + 3 ≤ k → 32 ≤ n → (D x).isSome = (D (x.drop 32)).isSome → utf8_Valid.j4 k x true = some (D x).isSome
  l1 : ∀ (k : Nat) (x : List Int), x.length = n → Bytes x → 6 * n + 4 ≤ k → utf8_Valid.l1 k x = some (D x).isSome
  j2f : ∀ (k : Nat) (x : List Int), x.length = n → Bytes x → 6 * n + 5 ≤ k → utf8_Valid.j2 k x false = some (D x).isSome
  j2t : ∀ (k : Nat) (x : List Int), x.length = n → Bytes x → 6 * n + 5 ≤ k → 16 ≤ n → (D x).isSome = (D (x.drop 16)).isSome → utf8_Valid.j2 k x true = some (D x).isSome
  j1f : ∀ (k : Nat) (x : List Int), x.length = n → Bytes x → 6 * n + 6 ≤ k → utf8_Valid.j1 k x false = some (D x).isSome
  j1t : ∀ (k : Nat) (x : List Int), x.length = n → Bytes x → 6 * n + 6 ≤ k → 8 ≤ n → (D x).isSome = (D (x.drop 8)).isSome → utf8_Valid.j1 k x true = some (D x).isSome
theorem ok (n : Nat) : Ok n := by
  induction n using Nat.strongRecOn with
  | ind n ih =>
    have l0 : ∀ (k : Nat) (x : List Int), x.length = n → Bytes x → 6 * n + 2 ≤ k → utf8_Valid.l0 k x = some (D x).isSome := by
      intro k x hn hb hk
      obtain ⟨k, rfl⟩ : ∃ m, k = m + 2 := ⟨k - 2, by omega⟩
      by_cases hx : x = []
      · subst hx
        rw [utf8_Valid.l0, if_neg (by simp), D_nil]
        rfl
      have hp : 0 < x.length := List.length_pos_iff.2 hx
      by_cases hc : rd x 0 < 128
      · rw [utf8_Valid.l0, if_pos (by omega), if_pos (by omega), if_pos hc, if_pos (by omega), Option.bind_some, D_asc1 hx hc]
        have hb1 := bytesDrop hb 1
        have hl1 : (x.drop 1).length = n - 1 := by simp; omega
        have q := ih (n - 1) (by omega)
        by_cases h8 : ((x.drop 1).length : Int) > 8
        · rw [if_pos h8, word_eq hb1 (by omega), Option.bind_some]
          cases hf : (Go.bits .and .u64 (W8 (x.drop 1)) 9259542123273814144 == 0) with
          | true => exact q.j1t _ _ hl1 hb1 (by omega) (by omega) (eight hb1 (by omega) (flag1 hb1 hf))
          | false => exact q.j1f _ _ hl1 hb1 (by omega)
        · rw [if_neg h8]
          exact q.j1f _ _ hl1 hb1 (by omega)
      · rw [l0_multi hb hx (by omega)]
        have hs := one_size x
        have hfi := one_fits hx
        by_cases h2 : (one x).2 = 0
        · rw [if_pos h2, D_bad hx h2]
          rfl
        · rw [if_neg h2, D_ok hx h2, (ih (n - (one x).2.toNat) (by omega)).l0 k _ (by simp; omega) (bytesDrop hb _) (by omega)]
          simp
    have j4f : ∀ (k : Nat) (x : List Int), x.length = n → Bytes x → 6 * n + 3 ≤ k → utf8_Valid.j4 k x false = some (D x).isSome := by
      intro k x hn hb hk
      obtain ⟨k, rfl⟩ : ∃ m, k = m + 1 := ⟨k - 1, by omega⟩
      rw [utf8_Valid.j4, if_neg (by decide)]
      exact l0 k x hn hb (by omega)
    have j4t : ∀ (k : Nat) (x : List Int), x.length = n → Bytes x → 6 * n + 3 ≤ k → 32 ≤ n → (D x).isSome = (D (x.drop 32)).isSome → utf8_Valid.j4 k x true = some (D x).isSome := by
      intro k x hn hb hk h32 he
      obtain ⟨k, rfl⟩ : ∃ m, k = m + 1 := ⟨k - 1, by omega⟩
      rw [utf8_Valid.j4, if_pos rfl, if_pos (by omega), he]
      exact (ih (n - 32) (by omega)).l1 k _ (by simp; omega) (bytesDrop hb _) (by omega)
    have l1 : ∀ (k : Nat) (x : List Int), x.length = n → Bytes x → 6 * n + 4 ≤ k → utf8_Valid.l1 k x = some (D x).isSome := by
      intro k x hn hb hk
      obtain ⟨k, rfl⟩ : ∃ m, k = m + 1 := ⟨k - 1, by omega⟩
      rw [utf8_Valid.l1]
      by_cases h : (x.length : Int) > 32
      · have b8 := bytesDrop hb 8
        have b16 := bytesDrop hb 16
        have b24 := bytesDrop hb 24
        rw [if_pos h, word_eq hb (by omega), Option.bind_some, if_pos (by omega), word_eq b8 (by simp; omega), Option.bind_some, if_pos (by omega), word_eq b16 (by simp; omega), Option.bind_some, if_pos (by omega), word_eq b24 (by simp; omega), Option.bind_some]
        cases hf : (Go.bits .and .u64 (Go.bits .or .u64 (Go.bits .or .u64 (W8 x) (W8 (x.drop 8))) (Go.bits .or .u64 (W8 (x.drop 16)) (W8 (x.drop 24)))) 9259542123273814144 == 0) with
        | true =>
          obtain ⟨f1, f2, f3, f4⟩ := flag4 hb b8 b16 b24 hf
          refine j4t k x hn hb (by omega) (by omega) ?_
          rw [eight hb (by omega) f1, eight b8 (by simp; omega) f2, List.drop_drop, eight b16 (by simp; omega) f3, List.drop_drop, eight b24 (by simp; omega) f4, List.drop_drop]
        | false => exact j4f k x hn hb (by omega)
      · rw [if_neg h]
        exact j4f k x hn hb (by omega)
    have j2f : ∀ (k : Nat) (x : List Int), x.length = n → Bytes x → 6 * n + 5 ≤ k → utf8_Valid.j2 k x false = some (D x).isSome := by
      intro k x hn hb hk
      obtain ⟨k, rfl⟩ : ∃ m, k = m + 1 := ⟨k - 1, by omega⟩
      rw [utf8_Valid.j2, if_neg (by decide)]
      exact l0 k x hn hb (by omega)
    have j2t : ∀ (k : Nat) (x : List Int), x.length = n → Bytes x → 6 * n + 5 ≤ k → 16 ≤ n → (D x).isSome = (D (x.drop 16)).isSome → utf8_Valid.j2 k x true = some (D x).isSome := by
      intro k x hn hb hk h16 he
      obtain ⟨k, rfl⟩ : ∃ m, k = m + 1 := ⟨k - 1, by omega⟩
      rw [utf8_Valid.j2, if_pos rfl, if_pos (by omega), he]
      exact (ih (n - 16) (by omega)).l1 k _ (by simp; omega) (bytesDrop hb _) (by omega)
    refine ⟨l0, j4f, j4t, l1, j2f, j2t, ?_, ?_⟩
    · intro k x hn hb hk
      obtain ⟨k, rfl⟩ : ∃ m, k = m + 1 := ⟨k - 1, by omega⟩
      rw [utf8_Valid.j1, if_neg (by decide)]
      exact l0 k x hn hb (by omega)
    · intro k x hn hb hk h8 he
      obtain ⟨k, rfl⟩ : ∃ m, k = m + 1 := ⟨k - 1, by omega⟩
      rw [utf8_Valid.j1, if_pos rfl, if_pos (by omega), Option.bind_some, he]
      have hb8 := bytesDrop hb 8
      have b16 := bytesDrop hb8 8
      have hl8 : (x.drop 8).length = n - 8 := by simp; omega
      have q := ih (n - 8) (by omega)
      by_cases h : ((x.drop 8).length : Int) > 16
      · rw [if_pos h, word_eq hb8 (by omega), Option.bind_some, if_pos (by omega), word_eq b16 (by simp; omega), Option.bind_some]
        cases hf : (Go.bits .and .u64 (Go.bits .or .u64 (W8 (x.drop 8)) (W8 ((x.drop 8).drop 8))) 9259542123273814144 == 0) with
        | true =>
          obtain ⟨f1, f2⟩ := flag2 hb8 b16 hf
          refine q.j2t _ _ hl8 hb8 (by omega) (by omega) ?_
          rw [eight hb8 (by omega) f1, eight b16 (by simp; omega) f2, List.drop_drop]
        | false => exact q.j2f _ _ hl8 hb8 (by omega)
      · rw [if_neg h]
        exact q.j2f _ _ hl8 hb8 (by omega)
theorem Valid_ev {l : List Int} (hb : Bytes l) : Ev (fun k => utf8_Valid.f k l) (D l).isSome := by
  refine ⟨6 * l.length + 2, fun k hk => ?_⟩
  show utf8_Valid.f k l = _
  unfold utf8_Valid.f
  rw [if_pos (by omega), if_pos (by omega), Int.toNat_natCast, List.take_length]
  exact (ok l.length).l0 k l rfl hb hk
theorem Is_ev {l : List Int} (hb : Bytes l) : Ev (fun k => name_Is.f k l) (D l).isSome := by
  obtain ⟨K, hK⟩ := Valid_ev hb
  refine ⟨K, fun k hk => ?_⟩
  have e : utf8_Valid.f k l = _ := hK k hk
  show (utf8_Valid.f k l).bind _ = _
  rw [e, Option.bind_some]
end Go.Proofs.YtcnmpciohpcpiaaDoor.LebM
