/- That the document's reading of the unsigned number comes to the word 'Us' too. -/
import Derived.Test.YtcnmpciohpcpiaaDoorPx12
import Derived.Test.YtcnmpciohpcpiaaDoorMb
namespace Go.Proofs.YtcnmpciohpcpiaaDoor.LebM
open Go.RowKit Go.Proofs.YtcnmpciohpcpiaaDoorW.PrintWords Go.Proofs.YtcnmpciohpcpiaaDoorW.PrintLast Go.Proofs.YtcnmpciohpcpiaaDoorW.PrintMore Go.Proofs.YtcnmpciohpcpiaaDoor.P

theorem number_loop {ds : List Int} (hd : Digits ds) (hl : ds.length ≤ 140737488351232) (most : Int) (hm0 : 0 ≤ most) (hm : most ≤ 18446744073709551615) (d : Nat) :
    ∀ (k : Nat) (acc : Int), d ≤ ds.length → acc = val (ds.drop d) → acc ≤ most → d < k →
      jacquardref01_number.l0 k ds most acc ((d : Int) - 1) = some (if val ds ≤ most then (val ds, true) else (0, false)) := by
  induction d with
  | zero =>
    intro k acc h0 ha hb hk
    obtain ⟨k, rfl⟩ : ∃ m, k = m + 1 := ⟨k - 1, by omega⟩
    simp only [jacquardref01_number.l0]; rw [if_neg (by omega)]
    rw [List.drop_zero] at ha
    rw [← ha, if_pos hb]
  | succ d ih =>
    intro k acc h0 ha hb hk
    obtain ⟨k, rfl⟩ : ∃ m, k = m + 1 := ⟨k - 1, by omega⟩
    have hi : d < ds.length := by omega
    have hr : rd ds (d : Int) = ds[d] := rd_get hi
    have hx := hd ds[d] (List.getElem_mem _)
    have hacc : 0 ≤ acc := by rw [ha]; exact val_nonneg (digits_drop hd _)
    have hv := val_drop hi
    rw [← ha] at hv
    have hge := val_drop_le hd d (by omega)
    have e : (((d + 1 : Nat) : Int) - 1) = (d : Int) := by omega
    rw [e]
    simp only [jacquardref01_number.l0]
    rw [if_pos (by omega), if_pos (by omega), if_pos (by omega), hr]
    by_cases hle : ds[d] ≤ most
    · have em : mn ds[d] most = ds[d] := by unfold mn; rw [if_neg (by omega)]
      have ew : IntKind.u64.wrap (most - ds[d]) = most - ds[d] := u64w (by omega) (by omega)
      rw [em, ew, Int.tdiv_eq_ediv_of_nonneg (by omega), u64w (x := (most - ds[d]) / 128) (by omega) (by omega)]
      by_cases hf : acc > (most - ds[d]) / 128
      · rw [if_pos hf, if_neg (by omega)]
      · rw [if_neg hf, if_neg (by omega), u64w (x := 128 * acc) (by omega) (by omega), u64w (by omega) (by omega), w64 (by omega) (by omega)]
        exact ih k _ (by omega) (by omega) (by omega) (by omega)
    · have em : mn ds[d] most = most := by unfold mn; rw [if_pos (by omega)]
      rw [em, if_neg (c := val ds ≤ most) (by omega)]
      by_cases hf : acc > IntKind.u64.wrap (Int.tdiv (IntKind.u64.wrap (most - most)) 128)
      · rw [if_pos hf]
      · rw [if_neg hf, if_pos (by omega)]

theorem number_ev {ds : List Int} (hd : Digits ds) (hl : ds.length ≤ 140737488351232) {most : Int} (hm0 : 0 ≤ most) (hm : most ≤ 18446744073709551615) :
    Ev (fun k => jacquardref01_number.f k ds most) (if val ds ≤ most then (val ds, true) else (0, false)) := by
  refine ⟨ds.length + 1, fun k hk => ?_⟩
  unfold jacquardref01_number.f
  rw [w64 (by omega) (by omega)]
  exact number_loop hd hl most hm0 hm ds.length k 0 (by omega) (by simp [val]) hm0 (by omega)

theorem groups_loop {l : List Int} (hb : Bytes l) (hl : l.length ≤ 140737488351232) (a : Nat) (M : Nat) (hM : M ≤ 10) (d : Nat) :
    ∀ (k i : Nat) (out : List Int), i ≤ M → M - i = d → out.length = i → a + i ≤ l.length → 2 * d + 1 < k →
      jacquardref01_groups.l0 k l ((a : Int) + i) (M : Int) out = some (match cnt d (l.drop (a + i)) with | none => ([], false) | some n => (out ++ dig (l.drop (a + i)) n, true)) := by
  induction d with
  | zero =>
    intro k i out h0 h3 ho ha hk
    obtain ⟨k, rfl⟩ : ∃ m, k = m + 2 := ⟨k - 2, by omega⟩
    simp only [jacquardref01_groups.l0]; rw [if_neg (by omega)]
    simp [jacquardref01_groups.j1, cnt]
  | succ d ih =>
    intro k i out h0 h3 ho ha hk
    obtain ⟨k, rfl⟩ : ∃ m, k = m + 2 := ⟨k - 2, by omega⟩
    simp only [jacquardref01_groups.l0]; rw [if_pos (by omega)]
    by_cases hlt : a + i < l.length
    · have hc := hb l[a + i] (List.getElem_mem _)
      have hr : rd l ((a : Int) + i) = l[a + i] := by
        have := rd_get (l := l) (i := a + i) hlt
        simpa using this
      have hdec : decide ((a : Int) + i < (l.length : Int)) = true := decide_eq_true (by omega)
      rw [hdec]
      simp only [jacquardref01_groups.j1, if_true]
      rw [if_pos (by omega), if_pos (by omega), if_pos (by omega), hr, Int.tmod_eq_emod_of_nonneg hc.1, u64w (x := l[a + i] % 128) (by omega) (by omega)]
      simp only [Option.bind_some]
      rw [List.drop_eq_getElem_cons hlt]
      by_cases hcc : l[a + i] < 128
      · rw [if_pos hcc]; simp only [cnt, if_pos hcc, dig, List.take_succ_cons, List.take_zero, List.map_cons, List.map_nil]
      · rw [if_neg hcc, w64 (by omega) (by omega)]
        have := ih k (i + 1) (out ++ [l[a + i] % 128]) (by omega) (by omega) (by simp [ho]) (by omega) (by omega)
        have e3 : ((a : Int) + ((i + 1 : Nat) : Int)) = (a : Int) + i + 1 := by omega
        rw [e3] at this
        rw [this]
        simp only [cnt, if_neg hcc, Nat.add_assoc]
        rcases cnt d (l.drop (a + (i + 1))) with _ | n
        · rfl
        · simp only [Option.map_some, dig, List.take_succ_cons, List.map_cons, List.append_assoc, List.cons_append, List.nil_append]
    · have hdec : decide ((a : Int) + i < (l.length : Int)) = false := decide_eq_false (by omega)
      rw [hdec]
      have : l.drop (a + i) = [] := List.drop_eq_nil_of_le (by omega)
      rw [this]
      simp [jacquardref01_groups.j1, cnt]

theorem groups_ev {l : List Int} (hb : Bytes l) (hl : l.length ≤ 140737488351232) {a w : Int} (h1 : 1 ≤ w) (h2 : w ≤ 64) (h3 : 0 ≤ a) (h4 : a ≤ l.length) :
    Ev (fun k => jacquardref01_groups.f k l a (wrap64 (Int.tdiv (wrap64 (w + 6)) 7))) (match cnt (room w) (l.drop a.toNat) with | none => ([], false) | some n => (dig (l.drop a.toNat) n, true)) := by
  have hr := room_bd h1 h2
  refine ⟨2 * room w + 2, fun k hk => ?_⟩
  obtain ⟨q, rfl⟩ := Int.eq_ofNat_of_zero_le h3
  rw [room_wrap h1 h2]
  have := groups_loop hb hl q (room w) (by omega) (room w) k 0 [] (by omega) (by omega) rfl (by omega) (by omega)
  unfold jacquardref01_groups.f
  simpa using this

theorem ones {w : Int} (h1 : 1 ≤ w) (h2 : w ≤ 64) : shr .u64 18446744073709551615 (IntKind.u64.wrap (wrap64 (64 - w))) = 2 ^ w.toNat - 1 := by
  rw [w64 (x := 64 - w) (by omega) (by omega), u64w (by omega) (by omega)]
  unfold shr
  have e : min (64 - w).toNat IntKind.u64.bits = 64 - w.toNat := by simp only [IntKind.bits]; omega
  rw [e]
  have h : ∀ n : Fin 65, (18446744073709551615 : Int) / 2 ^ (64 - n.val) = 2 ^ n.val - 1 := by decide +kernel
  exact h ⟨w.toNat, by omega⟩
theorem ones_bd {w : Nat} (h : w ≤ 64) : (2 : Int) ^ w ≤ 18446744073709551616 := by
  have := p2_le h
  have e : (2 : Int) ^ 64 = 18446744073709551616 := by decide
  omega

theorem refU_ev {l : List Int} (hb : Bytes l) (hl : l.length ≤ 140737488351232) (a w : Int) :
    Ev (fun k => jacquardref01_U.f k l a w) (Us l a w) := by
  unfold Us
  by_cases hm : 1 ≤ w ∧ w ≤ 64 ∧ 0 ≤ a ∧ a ≤ l.length
  · obtain ⟨h1, h2, h3, h4⟩ := hm
    rw [if_pos ⟨h1, h2, h3, h4⟩]
    obtain ⟨K, hK⟩ := groups_ev hb hl h1 h2 h3 h4
    have hr := room_bd h1 h2
    have hob := ones_bd (w := w.toNat) (by omega)
    have hpos : (1 : Int) ≤ 2 ^ w.toNat := Int.pow_pos (by decide)
    have hmay : jacquardref01_may.f l a w = some true := by rw [rmay_eq]; simp [h1, h2, h3, h4]
    have hsh : (0 : Int) ≤ IntKind.u64.wrap (wrap64 (64 - w)) := by rw [w64 (by omega) (by omega), u64w] <;> omega
    rcases hc : cnt (room w) (l.drop a.toNat) with _ | n
    · rw [hc] at hK
      refine ⟨K, fun k hk => ?_⟩
      simp only [jacquardref01_U.f, hmay, Option.bind_some, if_true, hK k hk]
      simp
    · rw [hc] at hK
      have hn := cnt_bd hc
      have hlen : (dig (l.drop a.toNat) n).length = n := dig_length (by omega)
      have hdd := dig_digits (l.drop a.toNat) n
      simp only [List.length_drop] at hn
      obtain ⟨K2, hK2⟩ := number_ev (most := 2 ^ w.toNat - 1) hdd (by omega) (by omega) (by omega)
      refine ⟨K + K2, fun k hk => ?_⟩
      simp only [jacquardref01_U.f, hmay, Option.bind_some, if_true, hK k (by omega), if_pos hsh, ones h1 h2, hK2 k (by omega), hlen]
      by_cases hv : val (dig (l.drop a.toNat) n) < 2 ^ w.toNat
      · rw [if_pos (c := val (dig (l.drop a.toNat) n) ≤ 2 ^ w.toNat - 1) (by omega), if_pos hv, w64 (by omega) (by omega)]; simp
      · rw [if_neg (c := val (dig (l.drop a.toNat) n) ≤ 2 ^ w.toNat - 1) (by omega), if_neg hv]; simp
  · rw [if_neg hm]
    refine ⟨0, fun k _ => ?_⟩
    have hmay : jacquardref01_may.f l a w = some false := by rw [rmay_eq]; simp only [decide_eq_false hm]
    simp [jacquardref01_U.f, hmay]
end Go.Proofs.YtcnmpciohpcpiaaDoor.LebM
