/- What leb.PutS puts leb.S reads, of every width that the number fits, wherever it stands, whatever is ahead and behind. Condition: what comes in is of bulk at most 1048576. -/
import Derived.Test.YtjgioffeojjgeaaPx5
import Derived.Test.YtjgioffeojjgeaaMh
namespace Go.Proofs.Ytjgioffeojjgeaa.Pure
open Go.RowKit Go.Proofs.Ytjgioffeojjgeaa.P Go.Proofs.YtjgioffeojjgeaaW.PrintWords Go.Proofs.YtjgioffeojjgeaaW.PrintLast Go.Proofs.YtjgioffeojjgeaaW.PrintMore Go.Proofs.Ytjgioffeojjgeaa.LebM

theorem limsS {a b c : Nat} (h : a + c ≤ 1048576) (hb : b ≤ 10) : 0 + a < 140737488355328 ∧ a + b < 140737488355328 ∧ a + b + c < 140737488355328 := by omega

theorem LebBackSignedUpto : ∀ (a0 : Int) (a1 : Int) (l2 : List Int) (l3 : List Int), (Lit.int .i64 a0).wf = true → (Lit.int .i64 a1).wf = true → l2.length ≤ maxLen → l2.length * 1 ≤ 140737488351232 → (∀ x ∈ l2, (Lit.int .u8 x).wf = true) → l3.length ≤ maxLen → l3.length * 1 ≤ 140737488351232 → (∀ x ∈ l3, (Lit.int .u8 x).wf = true) → l2.length + l3.length ≤ 1048576 → ∃ k, jacquardlaw01_LebBackSigned.f k a0 a1 l2 l3 = some true := by
  intro n w l r hn hw _ _ hl _ _ hr hlen
  have hL := bytes_wf hl
  have hR := bytes_wf hr
  obtain ⟨n0, n1⟩ := i64_wf hn
  obtain ⟨w0, w1⟩ := i64_wf hw
  obtain ⟨K5, h5⟩ := works_ev
  have short : jacquardlaw01_LebBackSigned.j0 (K5 + 1) n w l r true = some true := by
    simp only [jacquardlaw01_LebBackSigned.j0, h5 K5 (by omega), if_true, Option.bind_some]
  by_cases c1 : w < 1
  · exact ⟨K5 + 1, by simp only [jacquardlaw01_LebBackSigned.f, if_pos c1]; exact short⟩
  by_cases c2 : w > 64
  · exact ⟨K5 + 1, by simp only [jacquardlaw01_LebBackSigned.f, if_neg c1, decide_eq_true c2]; exact short⟩
  have es : IntKind.u64.wrap (wrap64 (64 - w)) = 64 - w := by
    have e : wrap64 (64 - w) = 64 - w := w64 (by omega) (by omega)
    rw [e, u64w] <;> omega
  obtain ⟨x, hx⟩ : ∃ x, x = shr .i64 n (64 - w) := ⟨_, rfl⟩
  have em : min (64 - w).toNat IntKind.i64.bits = 64 - w.toNat := by simp only [IntKind.bits]; omega
  have hx2 : x = n / 2 ^ (64 - w.toNat) := by rw [hx]; unfold shr; rw [em]
  have hp : (0 : Int) < 2 ^ (64 - w.toNat) := Int.pow_pos (by decide)
  have x0 : -(2 ^ (w.toNat - 1)) ≤ x := by
    rw [hx2]
    refine (Int.le_ediv_iff_mul_le hp).2 ?_
    rw [Int.neg_mul, ← Int.pow_add]
    have : w.toNat - 1 + (64 - w.toNat) = 63 := by omega
    rw [this]
    have e63 : (2 : Int) ^ 63 = 9223372036854775808 := by decide
    omega
  have xw : x < 2 ^ (w.toNat - 1) := by
    rw [hx2]
    apply Int.ediv_lt_of_lt_mul hp
    rw [← Int.pow_add]
    have : w.toNat - 1 + (64 - w.toNat) = 63 := by omega
    rw [this]
    have e63 : (2 : Int) ^ 63 = 9223372036854775808 := by decide
    omega
  have h63 : (2 : Int) ^ (w.toNat - 1) ≤ 2 ^ 63 := p2_le (by omega)
  have e63 : (2 : Int) ^ 63 = 9223372036854775808 := by decide
  obtain ⟨u1, u2⟩ := Ss_put (x := x) (w := w) (by omega) (by omega) x0 xw l r
  have hq := putS_len 9 x
  have hrm := room_bd (w := w) (by omega) (by omega)
  have hbytes : Bytes (l ++ putS 9 x ++ r) := bytes_app (bytes_app hL (putS_bytes 9 x)) hR
  have hsz : (l ++ putS 9 x ++ r).length ≤ 140737488351232 := by simp; omega
  obtain ⟨K1, h1⟩ := PutS_ev (x := x) (by omega) (by omega)
  obtain ⟨K2, h2⟩ := S_ev hbytes hsz l.length w
  generalize putS 9 x = own at *
  obtain ⟨K, hK⟩ : ∃ K, K = K1 + K2 + K5 := ⟨_, rfl⟩
  have h2' : leb_S.f K (l ++ own ++ r) (l.length : Int) w = some (Ss (l ++ own ++ r) l.length w) := h2 K (by omega)
  have g0 : 0 ≤ 64 - w := by omega
  refine ⟨K + 1, ?_⟩
  have ea : wrap64 ((l.length : Int) + (own.length : Int)) = (l.length : Int) + (own.length : Int) := w64 (by omega) (by omega)
  simp only [jacquardlaw01_LebBackSigned.f, if_neg c1, decide_eq_false c2, jacquardlaw01_LebBackSigned.j0, es, ← hx, h1 K (by omega), h5 K (by omega), Option.bind_some, List.nil_append, List.length_nil]
  rw [if_neg (by decide), if_pos g0, if_pos (limsS hlen hq.2).1, if_pos (limsS hlen hq.2).2.1, if_pos (by rw [List.length_append]; exact (limsS hlen hq.2).2.2), h2', u1, room_wrap (by omega) (by omega), ea]
  simp only [Option.bind_some, if_true]
  rw [if_pos (by omega)]

end Go.Proofs.Ytjgioffeojjgeaa.Pure
