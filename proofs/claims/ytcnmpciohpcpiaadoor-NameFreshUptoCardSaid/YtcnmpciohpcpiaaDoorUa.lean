/- Letters as plain functions on lists of bytes: 'one' (the letter at the head, and its size; 0: none), 'enc' (a letter's bytes); what the document's functions answer. -/
import Derived.Test.YtcnmpciohpcpiaaDoorMa
import Derived.Test.YtcnmpciohpcpiaaDoorPx4
namespace Go.Proofs.YtcnmpciohpcpiaaDoor.LebM
set_option linter.unusedVariables false
set_option linter.unusedSimpArgs false
open Go.RowKit Go.Proofs.YtcnmpciohpcpiaaDoorW.PrintWords Go.Proofs.YtcnmpciohpcpiaaDoorW.PrintLast Go.Proofs.YtcnmpciohpcpiaaDoorW.PrintMore Go.Proofs.YtcnmpciohpcpiaaDoor.P
def let_ (n : Int) : Prop := 0 ≤ n ∧ n ≤ 1114111 ∧ (n < 55296 ∨ 57343 < n)
instance (n : Int) : Decidable (let_ n) := by unfold let_; infer_instance
def enc (n : Int) : List Int :=
  if n < 128 then [n] else if n < 2048 then [192 + n / 64, 128 + n % 64] else if n < 65536 then [224 + n / 4096, 128 + n / 64 % 64, 128 + n % 64]
  else [240 + n / 262144, 128 + n / 4096 % 64, 128 + n / 64 % 64, 128 + n % 64]
def one (l : List Int) : Int × Int :=
  if rd l 0 < 128 then (rd l 0, 1)
  else if 192 ≤ rd l 0 ∧ rd l 0 < 224 ∧ 2 ≤ (l.length : Int) ∧ 128 ≤ rd l 1 ∧ rd l 1 < 192 ∧ 128 ≤ 64 * (rd l 0 - 192) + (rd l 1 - 128) then (64 * (rd l 0 - 192) + (rd l 1 - 128), 2)
  else if 224 ≤ rd l 0 ∧ rd l 0 < 240 ∧ 3 ≤ (l.length : Int) ∧ 128 ≤ rd l 1 ∧ rd l 1 < 192 ∧ 128 ≤ rd l 2 ∧ rd l 2 < 192 ∧ 2048 ≤ 4096 * (rd l 0 - 224) + 64 * (rd l 1 - 128) + (rd l 2 - 128) ∧ (4096 * (rd l 0 - 224) + 64 * (rd l 1 - 128) + (rd l 2 - 128) < 55296 ∨ 57343 < 4096 * (rd l 0 - 224) + 64 * (rd l 1 - 128) + (rd l 2 - 128)) then (4096 * (rd l 0 - 224) + 64 * (rd l 1 - 128) + (rd l 2 - 128), 3)
  else if 240 ≤ rd l 0 ∧ rd l 0 < 248 ∧ 4 ≤ (l.length : Int) ∧ 128 ≤ rd l 1 ∧ rd l 1 < 192 ∧ 128 ≤ rd l 2 ∧ rd l 2 < 192 ∧ 128 ≤ rd l 3 ∧ rd l 3 < 192 ∧ 65536 ≤ 262144 * (rd l 0 - 240) + 4096 * (rd l 1 - 128) + 64 * (rd l 2 - 128) + (rd l 3 - 128) ∧ 262144 * (rd l 0 - 240) + 4096 * (rd l 1 - 128) + 64 * (rd l 2 - 128) + (rd l 3 - 128) ≤ 1114111 then (262144 * (rd l 0 - 240) + 4096 * (rd l 1 - 128) + 64 * (rd l 2 - 128) + (rd l 3 - 128), 4)
  else (0, 0)
theorem letter_eq (n : Int) : jacquardref02_Letter.f n = some (decide (let_ n)) := by
  unfold jacquardref02_Letter.f let_
  repeat' split
  all_goals (congr 1; first | (symm; exact decide_eq_true (by omega)) | (symm; exact decide_eq_false (by omega)) | (apply decide_eq_decide.mpr; omega))
theorem bytes_eq {n : Int} (h0 : 0 ≤ n) (h1 : n ≤ 1114111) : jacquardref02_bytes.f n = some (enc n) := by
  have e : wrap64 n = n := w64 (by omega) (by omega)
  unfold jacquardref02_bytes.f enc
  rw [e]
  simp only [Int.tdiv_eq_ediv_of_nonneg h0, Int.tmod_eq_emod_of_nonneg h0]
  have q1 : 0 ≤ n / 64 := by omega
  have q2 : 0 ≤ n / 4096 := by omega
  have q3 : 0 ≤ n / 262144 := by omega
  simp (disch := omega) only [w64, Int.tmod_eq_emod_of_nonneg q1, Int.tmod_eq_emod_of_nonneg q2]
  repeat' split
  all_goals (simp only [Option.some.injEq, List.cons.injEq, and_true]; omega)
theorem enc_length (n : Int) : ((enc n).length : Int) = if n < 128 then 1 else if n < 2048 then 2 else if n < 65536 then 3 else 4 := by
  unfold enc
  repeat' split
  all_goals simp
theorem rd_drop (l : List Int) (a : Nat) (i : Nat) : rd (l.drop a) (i : Int) = rd l ((a : Int) + i) := by
  simp only [rd, List.getD, Int.toNat_natCast, List.getElem?_drop]
  congr 2
theorem rd_bd {l : List Int} (h : Bytes l) (i : Int) : 0 ≤ rd l i ∧ rd l i < 256 := by
  simp only [rd, List.getD]
  rcases hq : l[i.toNat]? with _ | x
  · simp
  · exact h x (List.mem_of_getElem? hq)
theorem tail_eq {x : Int} (sz : Int) (h : 0 ≤ x) (h2 : x < 2097152) : ((jacquardref02_Letter.f (wrap32 x)).bind fun t205 => (if t205 = true then ((jacquardref02_bytes.f (wrap32 x)).bind fun t206 => (if (t206.length : Int) = sz then (some (wrap32 x, sz)) else (some (0, 0)))) else (some (0, 0)))) = some (if let_ x ∧ ((enc x).length : Int) = sz then (x, sz) else (0, 0)) := by
  have e : wrap32 x = x := by
    unfold wrap32
    omega
  rw [e, letter_eq, Option.bind_some]
  by_cases hl : let_ x
  · rw [if_pos (by simp [hl]), bytes_eq h (by have := hl.2.1; omega), Option.bind_some]
    by_cases hs : ((enc x).length : Int) = sz
    · rw [if_pos hs, if_pos ⟨hl, hs⟩]
    · rw [if_neg hs, if_neg (fun q => hs q.2)]
  · rw [if_neg (by simp [hl]), if_neg (fun q => hl q.1)]
theorem rdd (l : List Int) (a : Nat) (i : Nat) : rd (l.drop a) (i : Int) = rd l ((a : Int) + i) := rd_drop l a i
theorem rd0 (l : List Int) (a : Nat) : rd (l.drop a) 0 = rd l (a : Int) := by simpa using rd_drop l a 0
theorem rd1 (l : List Int) (a : Nat) : rd (l.drop a) 1 = rd l ((a : Int) + 1) := by simpa using rd_drop l a 1
theorem rd2 (l : List Int) (a : Nat) : rd (l.drop a) 2 = rd l ((a : Int) + 2) := by simpa using rd_drop l a 2
theorem rd3 (l : List Int) (a : Nat) : rd (l.drop a) 3 = rd l ((a : Int) + 3) := by simpa using rd_drop l a 3
theorem L2 {n : Int} (h0 : 0 ≤ n) (h : n < 2048) : (let_ n ∧ ((enc n).length : Int) = 2) ↔ 128 ≤ n := by
  rw [enc_length]; unfold let_
  by_cases c : n < 128
  · rw [if_pos c]; omega
  · rw [if_neg c, if_pos h]; omega
theorem L3 {n : Int} (h0 : 0 ≤ n) (h : n < 65536) : (let_ n ∧ ((enc n).length : Int) = 3) ↔ 2048 ≤ n ∧ (n < 55296 ∨ 57343 < n) := by
  rw [enc_length]; unfold let_
  by_cases c : n < 128
  · rw [if_pos c]; omega
  · rw [if_neg c]
    by_cases c : n < 2048
    · rw [if_pos c]; omega
    · rw [if_neg c, if_pos h]; omega
theorem L4 {n : Int} (h0 : 0 ≤ n) : (let_ n ∧ ((enc n).length : Int) = 4) ↔ 65536 ≤ n ∧ n ≤ 1114111 := by
  rw [enc_length]; unfold let_
  by_cases c : n < 128
  · rw [if_pos c]; omega
  · rw [if_neg c]
    by_cases c : n < 2048
    · rw [if_pos c]; omega
    · rw [if_neg c]
      by_cases c : n < 65536
      · rw [if_pos c]; omega
      · rw [if_neg c]; omega
theorem l0_end (k : Nat) (l : List Int) (a sz n : Int) (h : 0 ≤ n) (h2 : n < 2097152) :
    jacquardref02_first.l0 (k + 1) l a sz n sz = some (if let_ n ∧ ((enc n).length : Int) = sz then (n, sz) else (0, 0)) := by
  simp only [jacquardref02_first.l0]
  rw [if_neg (by omega)]
  exact tail_eq sz h h2
theorem l0_step {l : List Int} (hb : Bytes l) (hl : l.length ≤ 140737488351232) (k : Nat) (a : Nat) (sz n i : Int) (h : 0 ≤ n) (h2 : n < 1048576) (h3 : 0 ≤ i) (h4 : i < sz) (h5 : sz ≤ 4) (h6 : (a : Int) + sz ≤ l.length) :
    jacquardref02_first.l0 (k + 1) l (a : Int) sz n i = if 128 ≤ rd l ((a : Int) + i) ∧ rd l ((a : Int) + i) < 192 then jacquardref02_first.l0 k l (a : Int) sz (64 * n + (rd l ((a : Int) + i) - 128)) (i + 1) else some (0, 0) := by
  have b := rd_bd hb ((a : Int) + i)
  simp only [jacquardref02_first.l0]
  rw [if_pos h4, w64 (x := (a : Int) + i) (by omega) (by omega), if_pos (by omega), if_pos (by omega)]
  rw [w64 (x := rd l ((a : Int) + i)) (by omega) (by omega), w64 (x := 64 * n) (by omega) (by omega), w64 (x := 64 * n + rd l ((a : Int) + i)) (by omega) (by omega), w64 (x := 64 * n + rd l ((a : Int) + i) - 128) (by omega) (by omega), w64 (x := i + 1) (by omega) (by omega)]
  by_cases c1 : rd l ((a : Int) + i) < 128
  · rw [if_pos c1, if_neg (by omega)]
  · rw [if_neg c1]
    by_cases c2 : rd l ((a : Int) + i) ≥ 192
    · rw [if_pos c2, if_neg (by omega)]
    · rw [if_neg c2, if_pos (by omega)]
      congr 1
      omega
theorem j2_small (k : Nat) (l : List Int) (a : Nat) (n sz : Int) (hl : l.length ≤ 140737488351232) (ha : a < l.length) (h1 : 1 ≤ sz) (h4 : sz ≤ 4) : jacquardref02_first.j2 (k + 2) l (a : Int) sz n = if (a : Int) + sz ≤ l.length then jacquardref02_first.l0 k l (a : Int) sz n 1 else some (0, 0) := by
  simp only [jacquardref02_first.j2]
  rw [if_neg (by omega), w64 (x := (a : Int) + sz) (by omega) (by omega)]
  by_cases c : (a : Int) + sz ≤ l.length
  · rw [if_pos c, decide_eq_false (by omega)]
    simp [jacquardref02_first.j3]
  · rw [if_neg c, decide_eq_true (by omega)]
    simp [jacquardref02_first.j3]
theorem first_eq {l : List Int} (hb : Bytes l) (hl : l.length ≤ 140737488351232) {a : Nat} (ha : a < l.length) (k : Nat) :
    jacquardref02_first.f (k + 9) l (a : Int) = some (one (l.drop a)) := by
  have b0 := rd_bd hb (a : Int)
  have b1 := rd_bd hb ((a : Int) + 1)
  have b2 := rd_bd hb ((a : Int) + 2)
  have b3 := rd_bd hb ((a : Int) + 3)
  have hlen : ((l.drop a).length : Int) = l.length - a := by simp; omega
  unfold one
  rw [hlen, rd0, rd1, rd2, rd3]
  unfold jacquardref02_first.f
  rw [if_pos (by omega), if_pos (by omega), w64 (x := rd l (a : Int)) (by omega) (by omega)]
  have e32 : wrap32 (rd l (a : Int)) = rd l (a : Int) := by unfold wrap32; omega
  rw [e32]
  generalize hc : rd l (a : Int) = c at *
  by_cases c1 : c < 128
  · rw [if_pos c1, if_pos c1]
  rw [if_neg c1, if_neg c1]
  have jsimp : ∀ n, jacquardref02_first.j2 (k + 7) l (a : Int) 0 n = some (0, 0) := fun n => by simp [jacquardref02_first.j2, jacquardref02_first.j3]
  by_cases c2 : c < 192
  · rw [if_neg (by omega), if_neg (by omega), if_neg (by omega), if_neg (by omega)]
    simp only [jacquardref02_first.j0, Bool.false_eq_true, if_false]
    rw [if_neg (by omega)]
    simp only [jacquardref02_first.j1, Bool.false_eq_true, if_false]
    rw [if_neg (by omega)]
    exact jsimp _
  rw [if_pos (by omega)]
  by_cases c3 : c < 224
  · rw [decide_eq_true c3, if_neg (c := 224 ≤ c ∧ _) (by omega), if_neg (c := 240 ≤ c ∧ _) (by omega)]
    simp only [jacquardref02_first.j0, if_true]
    rw [w64 (x := c - 192) (by omega) (by omega), j2_small (k + 6) l a _ 2 hl ha (by omega) (by omega)]
    by_cases c4 : (a : Int) + 2 ≤ l.length
    · rw [if_pos c4, l0_step hb hl (k + 5) a 2 (c - 192) 1 (by omega) (by omega) (by omega) (by omega) (by omega) c4]
      by_cases c5 : 128 ≤ rd l ((a : Int) + 1) ∧ rd l ((a : Int) + 1) < 192
      · rw [if_pos c5, show (1 : Int) + 1 = 2 from rfl, l0_end (k + 4) l a 2 _ (by omega) (by omega)]
        congr 1
        by_cases c6 : 128 ≤ 64 * (c - 192) + (rd l ((a : Int) + 1) - 128)
        · rw [if_pos ((L2 (by omega) (by omega)).2 c6), if_pos (by omega)]
        · rw [if_neg (fun q => c6 ((L2 (by omega) (by omega)).1 q)), if_neg (by omega)]
      · rw [if_neg c5, if_neg (by omega)]
    · rw [if_neg c4, if_neg (by omega)]
  rw [decide_eq_false c3, if_neg (c := 192 ≤ c ∧ _) (by omega)]
  simp only [jacquardref02_first.j0, Bool.false_eq_true, if_false]
  rw [if_pos (by omega)]
  by_cases c4 : c < 240
  · rw [decide_eq_true c4, if_neg (c := 240 ≤ c ∧ _) (by omega)]
    simp only [jacquardref02_first.j1, if_true]
    rw [w64 (x := c - 224) (by omega) (by omega), j2_small (k + 5) l a _ 3 hl ha (by omega) (by omega)]
    by_cases c5 : (a : Int) + 3 ≤ l.length
    · rw [if_pos c5, l0_step hb hl (k + 4) a 3 (c - 224) 1 (by omega) (by omega) (by omega) (by omega) (by omega) c5]
      by_cases c6 : 128 ≤ rd l ((a : Int) + 1) ∧ rd l ((a : Int) + 1) < 192
      · rw [if_pos c6, show (1 : Int) + 1 = 2 from rfl, l0_step hb hl (k + 3) a 3 _ 2 (by omega) (by omega) (by omega) (by omega) (by omega) c5]
        by_cases c7 : 128 ≤ rd l ((a : Int) + 2) ∧ rd l ((a : Int) + 2) < 192
        · rw [if_pos c7, show (2 : Int) + 1 = 3 from rfl, l0_end (k + 2) l a 3 _ (by omega) (by omega)]
          have en : 64 * (64 * (c - 224) + (rd l ((a : Int) + 1) - 128)) + (rd l ((a : Int) + 2) - 128) = 4096 * (c - 224) + 64 * (rd l ((a : Int) + 1) - 128) + (rd l ((a : Int) + 2) - 128) := by omega
          rw [en]
          congr 1
          by_cases c8 : 2048 ≤ 4096 * (c - 224) + 64 * (rd l ((a : Int) + 1) - 128) + (rd l ((a : Int) + 2) - 128) ∧ (4096 * (c - 224) + 64 * (rd l ((a : Int) + 1) - 128) + (rd l ((a : Int) + 2) - 128) < 55296 ∨ 57343 < 4096 * (c - 224) + 64 * (rd l ((a : Int) + 1) - 128) + (rd l ((a : Int) + 2) - 128))
          · rw [if_pos ((L3 (by omega) (by omega)).2 c8), if_pos (by omega)]
          · rw [if_neg (fun q => c8 ((L3 (by omega) (by omega)).1 q)), if_neg (by omega)]
        · rw [if_neg c7, if_neg (by omega)]
      · rw [if_neg c6, if_neg (by omega)]
    · rw [if_neg c5, if_neg (by omega)]
  rw [decide_eq_false c4, if_neg (c := 224 ≤ c ∧ _) (by omega)]
  simp only [jacquardref02_first.j1, Bool.false_eq_true, if_false]
  rw [if_pos (by omega)]
  by_cases c5 : c < 248
  · rw [if_pos c5]
    rw [w64 (x := c - 240) (by omega) (by omega), j2_small (k + 5) l a _ 4 hl ha (by omega) (by omega)]
    by_cases c6 : (a : Int) + 4 ≤ l.length
    · rw [if_pos c6, l0_step hb hl (k + 4) a 4 (c - 240) 1 (by omega) (by omega) (by omega) (by omega) (by omega) c6]
      by_cases c7 : 128 ≤ rd l ((a : Int) + 1) ∧ rd l ((a : Int) + 1) < 192
      · rw [if_pos c7, show (1 : Int) + 1 = 2 from rfl, l0_step hb hl (k + 3) a 4 _ 2 (by omega) (by omega) (by omega) (by omega) (by omega) c6]
        by_cases c8 : 128 ≤ rd l ((a : Int) + 2) ∧ rd l ((a : Int) + 2) < 192
        · rw [if_pos c8, show (2 : Int) + 1 = 3 from rfl, l0_step hb hl (k + 2) a 4 _ 3 (by omega) (by omega) (by omega) (by omega) (by omega) c6]
          by_cases c9 : 128 ≤ rd l ((a : Int) + 3) ∧ rd l ((a : Int) + 3) < 192
          · rw [if_pos c9, show (3 : Int) + 1 = 4 from rfl, l0_end (k + 1) l a 4 _ (by omega) (by omega)]
            have en : 64 * (64 * (64 * (c - 240) + (rd l ((a : Int) + 1) - 128)) + (rd l ((a : Int) + 2) - 128)) + (rd l ((a : Int) + 3) - 128) = 262144 * (c - 240) + 4096 * (rd l ((a : Int) + 1) - 128) + 64 * (rd l ((a : Int) + 2) - 128) + (rd l ((a : Int) + 3) - 128) := by omega
            rw [en]
            congr 1
            by_cases c10 : 65536 ≤ 262144 * (c - 240) + 4096 * (rd l ((a : Int) + 1) - 128) + 64 * (rd l ((a : Int) + 2) - 128) + (rd l ((a : Int) + 3) - 128) ∧ 262144 * (c - 240) + 4096 * (rd l ((a : Int) + 1) - 128) + 64 * (rd l ((a : Int) + 2) - 128) + (rd l ((a : Int) + 3) - 128) ≤ 1114111
            · rw [if_pos ((L4 (by omega)).2 c10), if_pos (by omega)]
            · rw [if_neg (fun q => c10 ((L4 (by omega)).1 q)), if_neg (by omega)]
          · rw [if_neg c9, if_neg (by omega)]
        · rw [if_neg c8, if_neg (by omega)]
      · rw [if_neg c7, if_neg (by omega)]
    · rw [if_neg c6, if_neg (by omega)]
  · rw [if_neg c5, if_neg (by omega)]
    exact jsimp _
end Go.Proofs.YtcnmpciohpcpiaaDoor.LebM
