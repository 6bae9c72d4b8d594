/- The walk of the law LebFresh: what is handed in stays, the room behind it, too; what is answered is new memory. Condition: what comes in is of bulk at most 1048576. -/
import Derived.Test.YtjgioffeojjgeaaStmLebFreshUpto
import Derived.Test.YtjgioffeojjgeaaMh
import Derived.Test.YtjgioffeojjgeaaG8
import Derived.Test.YtjgioffeojjgeaaGFresh
namespace Go.Proofs.Ytjgioffeojjgeaa.Wlk
set_option linter.unusedVariables false
set_option linter.unusedSimpArgs false
open Go.RowKit Go.Proofs.Ytjgioffeojjgeaa.P Go.Proofs.YtjgioffeojjgeaaW.PrintWords Go.Proofs.YtjgioffeojjgeaaW.PrintLast Go.Proofs.YtjgioffeojjgeaaW.PrintMore Go.Proofs.Ytjgioffeojjgeaa.LebM
theorem same_loop (l : List Int) (hl : l.length ≤ 140737488351232) (d : Nat) : ∀ (k i : Nat), l.length - i = d → i ≤ l.length → d < k → jacquardref00_Same.l0 k l l (i : Int) = some true := by
  induction d with
  | zero =>
    intro k i h0 h1 hk
    obtain ⟨k, rfl⟩ : ∃ m, k = m + 1 := ⟨k - 1, by omega⟩
    simp only [jacquardref00_Same.l0]
    rw [if_neg (by omega)]
  | succ d ih =>
    intro k i h0 h1 hk
    obtain ⟨k, rfl⟩ : ∃ m, k = m + 1 := ⟨k - 1, by omega⟩
    simp only [jacquardref00_Same.l0]
    rw [if_pos (by omega), if_pos (by omega), if_pos (by omega), if_pos trivial, w64 (by omega) (by omega)]
    exact ih k (i + 1) (by omega) (by omega) (by omega)
theorem same_self {l : List Int} (hl : l.length ≤ 140737488351232) : Ev (fun k => jacquardref00_Same.f k l l) true := by
  refine ⟨l.length + 1, fun k hk => ?_⟩
  show jacquardref00_Same.f k l l = _
  unfold jacquardref00_Same.f
  rw [if_pos rfl]
  exact same_loop l hl (l.length - 0) k 0 rfl (by omega) (by omega)
set_option maxHeartbeats 8000000 in
set_option maxRecDepth 100000 in
theorem LebFreshUpto : Stm.LebFreshUpto := by
  intro A0 c0 l a b n w r0 q0 _ hw ha hb hn hlen
  have hB := bytes_wf hw
  obtain ⟨n0, n1⟩ := u64_wf hn
  have hl : l.length ≤ 140737488351232 := by omega
  have s0 : -9223372036854775808 ≤ wrap64 n ∧ wrap64 n ≤ 9223372036854775807 := by unfold wrap64; omega
  obtain ⟨K1, h1⟩ := U_ev hB hl a b
  obtain ⟨K2, h2⟩ := S_ev hB hl a b
  obtain ⟨K3, h3⟩ := PutU_ev n0 n1
  obtain ⟨K4, h4⟩ := PutS_ev s0.1 s0.2
  obtain ⟨K5, h5⟩ := same_self (l := l) hl
  obtain ⟨K6, h6⟩ := refPutU_ev n0 n1
  obtain ⟨K7, h7⟩ := same_self (l := putU 9 n) (by have := putU_len 9 n; omega)
  obtain ⟨K8, h8⟩ := refPutS_ev s0.1 s0.2
  obtain ⟨K9, h9⟩ := same_self (l := putS 9 (wrap64 n)) (by have := putS_len 9 (wrap64 n); omega)
  obtain ⟨K10, h10⟩ := works_ev
  obtain ⟨K, hK⟩ : ∃ K, K = K1 + K2 + K3 + K4 + K5 + K6 + K7 + K8 + K9 + K10 := ⟨_, rfl⟩
  have E1 := Aside0.mk (show leb_U.f K l a b = some (Us l a b) from h1 _ (by omega))
  have E2 := Aside0.mk (show leb_S.f K l a b = some (Ss l a b) from h2 _ (by omega))
  have E3 := Aside0.mk (show leb_PutU.f K n = some (putU 9 n) from h3 _ (by omega))
  have E4 := Aside0.mk (show leb_PutS.f K (wrap64 n) = some (putS 9 (wrap64 n)) from h4 _ (by omega))
  have E5 := Aside0.mk (show jacquardref00_Same.f K l l = some true from h5 _ (by omega))
  have E6 := Aside0.mk (show jacquardref01_PutU.f K n = some (putU 9 n) from h6 _ (by omega))
  have E7 := Aside0.mk (show jacquardref00_Same.f K (putU 9 n) (putU 9 n) = some true from h7 _ (by omega))
  have E8 := Aside0.mk (show jacquardref01_PutS.f K (wrap64 n) = some (putS 9 (wrap64 n)) from h8 _ (by omega))
  have E9 := Aside0.mk (show jacquardref00_Same.f K (putS 9 (wrap64 n)) (putS 9 (wrap64 n)) = some true from h9 _ (by omega))
  have E10 := Aside0.mk (show jacquardlaw01_works.f K = some true from h10 _ (by omega))
  clear h1 h2 h3 h4 h5 h6 h7 h8 h9 h10 hK ha hb hn hw hlen n0 n1 s0
  have HR0 := Aside0.mk r0
  clear r0
  go_enter Try.func10, Try.ntmps10
  go_wp2_with (first
    | ((with_reducible refine gate_callee (f := 19) rfl ?_); (try (refine gate_guard (by rfl) ?_; dsimp only)); refine goesL_ (some 13) rfl rfl Try.func19 (by kernel_rfl) rfl #[.slice A0 l.length c0] rfl (by (try simp only [List.map_toArray, List.map_cons, List.map_nil]); first | done | rfl) ?_; (with_reducible refine (wide_calls A0 c0 l _ HR0.out q0 hl).mono ?_); rintro e w1 ⟨g, c, rfl, hgc, hg, hR, hb⟩; refine ⟨_, rfl, ?_⟩; have HB1 := Aside0.mk hb; have HV := Aside0.mk (Below.refl w1.heap.size w1); have HCV := Aside0.mk (wide_C hR); have HG := Aside0.mk hgc; have HGl := Aside0.mk (show l.length ≤ c by omega); clear hb hR hgc)
    | ((with_reducible refine gate_callee (f := 12) rfl ?_); (try (refine gate_guard (by rfl) ?_; dsimp only)); refine goesL_ (some 17) rfl rfl Try.func12 (by kernel_rfl) rfl #[.slice (some ⟨g, 0, none⟩) l.length c, .int .i64 a, .int .i64 b] rfl (by (try simp only [List.map_toArray, List.map_cons, List.map_nil]); first | done | rfl) ?_; (with_reducible refine (leb_U.calls K (some ⟨g, 0, none⟩) c l a b (Us l a b).1 (Us l a b).2.1 (Us l a b).2.2 _ (C_head (Kd.C_below HCV.out HV.out)) HGl.out E1.out).mono ?_); rintro e w2 ⟨rfl, hd⟩; refine ⟨_, rfl, ?_⟩; have n0_ := Aside0.mk (below_step HV.out hd.below); clear HV; have HV := n0_; clear n0_; clear hd)
    | ((with_reducible refine gate_callee (f := 15) rfl ?_); (try (refine gate_guard (by rfl) ?_; dsimp only)); refine goesL_ (some 21) rfl rfl Try.func15 (by kernel_rfl) rfl #[.slice (some ⟨g, 0, none⟩) l.length c, .int .i64 a, .int .i64 b] rfl (by (try simp only [List.map_toArray, List.map_cons, List.map_nil]); first | done | rfl) ?_; (with_reducible refine (leb_S.calls K (some ⟨g, 0, none⟩) c l a b (Ss l a b).1 (Ss l a b).2.1 (Ss l a b).2.2 _ (C_head (Kd.C_below HCV.out HV.out)) HGl.out E2.out).mono ?_); rintro e w3 ⟨rfl, hd⟩; refine ⟨_, rfl, ?_⟩; have n0_ := Aside0.mk (below_step HV.out hd.below); clear HV; have HV := n0_; clear n0_; clear hd; have HL3 := Aside0.mk HV.out.size)
    | ((with_reducible refine gate_callee (f := 17) rfl ?_); (try (refine gate_guard (by rfl) ?_; dsimp only)); refine goesL_ (some 23) rfl rfl Try.func17 (by kernel_rfl) rfl #[.int .u64 n] rfl (by (try simp only [List.map_toArray, List.map_cons, List.map_nil]); first | done | rfl) ?_; (with_reducible refine (leb_PutU.calls8 K n (putU 9 n) _ E3.out).mono ?_); rintro e w4 ⟨va, rfl, hT, hb⟩; refine ⟨_, rfl, ?_⟩; have HTa := Aside0.mk hT; have HSa := Aside0.mk hb.size; have n0_ := Aside0.mk (below_step HV.out hb); clear HV; have HV := n0_; clear n0_; clear hb hT)
    | ((with_reducible refine gate_callee (f := 20) rfl ?_); (try (refine gate_guard (by rfl) ?_; dsimp only)); refine goesL_ (some 25) rfl rfl Try.func20 (by kernel_rfl) rfl #[va, .int .u8 1] rfl (by (try simp only [List.map_toArray, List.map_cons, List.map_nil]); first | done | rfl) ?_; (with_reducible refine (spoil_calls va (putU 9 n) 1 w3.heap.size _ HTa.out HSa.out).mono ?_); rintro e w5 ⟨rfl, hb⟩; refine ⟨_, rfl, ?_⟩; have n0_ := Aside0.mk (HV.out.trans (Below.mono hb HL3.out)); clear HV hb; have HV := n0_; clear n0_; have HL5 := Aside0.mk HV.out.size)
    | ((with_reducible refine gate_callee (f := 18) rfl ?_); (try (refine gate_guard (by rfl) ?_; dsimp only)); refine goesL_ (some 28) rfl rfl Try.func18 (by kernel_rfl) rfl #[.int .i64 (wrap64 n)] rfl (by (try simp only [List.map_toArray, List.map_cons, List.map_nil]); first | done | rfl) ?_; (with_reducible refine (leb_PutS.calls8 K (wrap64 n) (putS 9 (wrap64 n)) _ E4.out).mono ?_); rintro e w6 ⟨vc, rfl, hT, hb⟩; refine ⟨_, rfl, ?_⟩; have HTc := Aside0.mk hT; have HSc := Aside0.mk hb.size; have n0_ := Aside0.mk (below_step HV.out hb); clear HV; have HV := n0_; clear n0_; clear hb hT)
    | ((with_reducible refine gate_callee (f := 20) rfl ?_); (try (refine gate_guard (by rfl) ?_; dsimp only)); refine goesL_ (some 30) rfl rfl Try.func20 (by kernel_rfl) rfl #[vc, .int .u8 1] rfl (by (try simp only [List.map_toArray, List.map_cons, List.map_nil]); first | done | rfl) ?_; (with_reducible refine (spoil_calls vc (putS 9 (wrap64 n)) 1 w5.heap.size _ HTc.out HSc.out).mono ?_); rintro e w7 ⟨rfl, hb⟩; refine ⟨_, rfl, ?_⟩; have n0_ := Aside0.mk (HV.out.trans (Below.mono hb HL5.out)); clear HV hb; have HV := n0_; clear n0_)
    | ((with_reducible refine gate_callee (f := 21) rfl ?_); (try (refine gate_guard (by rfl) ?_; dsimp only)); refine goesL_ (some 33) rfl rfl Try.func21 (by kernel_rfl) rfl #[.slice (some ⟨g, 0, none⟩) l.length c, .slice A0 l.length c0] rfl (by (try simp only [List.map_toArray, List.map_cons, List.map_nil]); first | done | rfl) ?_; (with_reducible refine (left_calls K g c A0 c0 l _ (Kd.C_below HCV.out HV.out) HG.out (Kd.C_below HR0.out (HB1.out.trans (Below.mono HV.out HB1.out.size))) q0 hl E5.out).mono ?_); rintro e w8 ⟨rfl, hb⟩; refine ⟨_, rfl, ?_⟩; have n0_ := Aside0.mk (below_step HV.out hb); clear HV; have HV := n0_; clear n0_; clear hb)
    | ((with_reducible refine gate_callee (f := 17) rfl ?_); (try (refine gate_guard (by rfl) ?_; dsimp only)); refine goesL_ (some 36) rfl rfl Try.func17 (by kernel_rfl) rfl #[.int .u64 n] rfl (by (try simp only [List.map_toArray, List.map_cons, List.map_nil]); first | done | rfl) ?_; (with_reducible refine (leb_PutU.calls K n (putU 9 n) _ E3.out).mono ?_); rintro e w9 ⟨vp, rfl, ho, hb⟩; obtain ⟨Ap, cp, rfl, hlp, hCp⟩ := Kd.R_reads ho; refine ⟨_, rfl, ?_⟩; have HCp := Aside0.mk hCp; clear hCp ho; have n0_ := Aside0.mk (below_step HV.out hb); clear HV; have HV := n0_; clear n0_; clear hb)
    | ((with_reducible refine gate_callee (f := 23) rfl ?_); (try (refine gate_guard (by rfl) ?_; dsimp only)); refine goesL_ (some 38) rfl rfl Try.func23 (by kernel_rfl) rfl #[.int .u64 n] rfl (by (try simp only [List.map_toArray, List.map_cons, List.map_nil]); first | done | rfl) ?_; (with_reducible refine (jacquardref01_PutU.calls K n (putU 9 n) _ E6.out).mono ?_); rintro e w10 ⟨vq, rfl, ho, hb⟩; obtain ⟨Aq, cq, rfl, hlq, hCq⟩ := Kd.R_reads ho; refine ⟨_, rfl, ?_⟩; have HCq := Aside0.mk hCq; clear hCq ho; have n1_ := Aside0.mk (Kd.C_below HCp.out hb); clear HCp; have HCp := n1_; clear n1_; have n0_ := Aside0.mk (below_step HV.out hb); clear HV; have HV := n0_; clear n0_; clear hb)
    | ((with_reducible refine gate_callee (f := 22) rfl ?_); (try (refine gate_guard (by rfl) ?_; dsimp only)); refine goesL_ (some 39) rfl rfl Try.func22 (by kernel_rfl) rfl #[.slice Ap (putU 9 n).length cp, .slice Aq (putU 9 n).length cq] rfl (by (try simp only [List.map_toArray, List.map_cons, List.map_nil]); first | done | rfl) ?_; (with_reducible refine (jacquardref00_Same.calls K Ap cp (putU 9 n) Aq cq (putU 9 n) true _ HCp.out hlp HCq.out hlq E7.out).mono ?_); rintro e w11 ⟨rfl, hd⟩; refine ⟨_, rfl, ?_⟩; have n0_ := Aside0.mk (below_step HV.out hd.below); clear HV; have HV := n0_; clear n0_; clear hd)
    | ((with_reducible refine gate_callee (f := 18) rfl ?_); (try (refine gate_guard (by rfl) ?_; dsimp only)); refine goesL_ (some 44) rfl rfl Try.func18 (by kernel_rfl) rfl #[.int .i64 (wrap64 n)] rfl (by (try simp only [List.map_toArray, List.map_cons, List.map_nil]); first | done | rfl) ?_; (with_reducible refine (leb_PutS.calls K (wrap64 n) (putS 9 (wrap64 n)) _ E4.out).mono ?_); rintro e w12 ⟨vr, rfl, ho, hb⟩; obtain ⟨Ar, cr, rfl, hlr, hCr⟩ := Kd.R_reads ho; refine ⟨_, rfl, ?_⟩; have HCr := Aside0.mk hCr; clear hCr ho; have n0_ := Aside0.mk (below_step HV.out hb); clear HV; have HV := n0_; clear n0_; clear hb)
    | ((with_reducible refine gate_callee (f := 24) rfl ?_); (try (refine gate_guard (by rfl) ?_; dsimp only)); refine goesL_ (some 47) rfl rfl Try.func24 (by kernel_rfl) rfl #[.int .i64 (wrap64 n)] rfl (by (try simp only [List.map_toArray, List.map_cons, List.map_nil]); first | done | rfl) ?_; (with_reducible refine (jacquardref01_PutS.calls K (wrap64 n) (putS 9 (wrap64 n)) _ E8.out).mono ?_); rintro e w13 ⟨vs, rfl, ho, hb⟩; obtain ⟨As, cs, rfl, hls, hCs⟩ := Kd.R_reads ho; refine ⟨_, rfl, ?_⟩; have HCs := Aside0.mk hCs; clear hCs ho; have n1_ := Aside0.mk (Kd.C_below HCr.out hb); clear HCr; have HCr := n1_; clear n1_; have n0_ := Aside0.mk (below_step HV.out hb); clear HV; have HV := n0_; clear n0_; clear hb)
    | ((with_reducible refine gate_callee (f := 22) rfl ?_); (try (refine gate_guard (by rfl) ?_; dsimp only)); refine goesL_ (some 48) rfl rfl Try.func22 (by kernel_rfl) rfl #[.slice Ar (putS 9 (wrap64 n)).length cr, .slice As (putS 9 (wrap64 n)).length cs] rfl (by (try simp only [List.map_toArray, List.map_cons, List.map_nil]); first | done | rfl) ?_; (with_reducible refine (jacquardref00_Same.calls K Ar cr (putS 9 (wrap64 n)) As cs (putS 9 (wrap64 n)) true _ HCr.out hlr HCs.out hls E9.out).mono ?_); rintro e w14 ⟨rfl, hd⟩; refine ⟨_, rfl, ?_⟩; have n0_ := Aside0.mk (below_step HV.out hd.below); clear HV; have HV := n0_; clear n0_; clear hd)
    | ((with_reducible refine gate_callee (f := 14) rfl ?_); (try (refine gate_guard (by rfl) ?_; dsimp only)); refine goesL_ (some 51) rfl rfl Try.func14 (by kernel_rfl) rfl #[] rfl (by (try simp only [List.map_toArray, List.map_cons, List.map_nil]); first | done | rfl) ?_; (with_reducible refine (jacquardlaw01_works.calls K true _ E10.out).mono ?_); rintro e w15 ⟨rfl, hb⟩; refine ⟨_, rfl, ?_⟩; have n0_ := Aside0.mk (below_step HV.out hb); clear HV; have HV := n0_; clear n0_; clear hb))
  go_ret
  exact ⟨rfl, HB1.out.trans (Below.mono HV.out HB1.out.size)⟩
end Go.Proofs.Ytjgioffeojjgeaa.Wlk
