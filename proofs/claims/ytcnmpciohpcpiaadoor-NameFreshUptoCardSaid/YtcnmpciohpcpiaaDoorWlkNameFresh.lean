/- The walk of the law NameFresh: what is handed in stays, the room behind it, too; what is answered is new memory. Condition: what comes in is of bulk at most 1048576. -/
import Derived.Test.YtcnmpciohpcpiaaDoorPx4
import Derived.Test.YtcnmpciohpcpiaaDoorPx6
import Derived.Test.YtcnmpciohpcpiaaDoorPx10
import Derived.Test.YtcnmpciohpcpiaaDoorGLetters
import Derived.Test.YtcnmpciohpcpiaaDoorG8
import Derived.Test.YtcnmpciohpcpiaaDoorGFresh
import Derived.Test.YtcnmpciohpcpiaaDoorUk
namespace Go.Proofs.YtcnmpciohpcpiaaDoor.Wlk
set_option linter.unusedVariables false
set_option linter.unusedSimpArgs false
open Go.Proofs.YtcnmpciohpcpiaaDoorTabs
open Go.RowKit Go.Proofs.YtcnmpciohpcpiaaDoor.P Go.Proofs.YtcnmpciohpcpiaaDoorW.PrintWords Go.Proofs.YtcnmpciohpcpiaaDoorW.PrintLast Go.Proofs.YtcnmpciohpcpiaaDoorW.PrintMore Go.Proofs.YtcnmpciohpcpiaaDoor.LebM
theorem i32_addr {w : World} {base n c : Nat} {ok : Nat → Prop} {A : Option Addr} {xs : List Int} (h : (Kd.int .i32).R 21 w base ok (.slice A n c) xs) (hn : 0 < n) : ∃ g, A = some ⟨g, 0, none⟩ ∧ base ≤ g := by
  have hown := Kd.own_of_R h
  rcases hown.2 with ⟨hv, h0⟩ | ⟨g, cap, cur, hv, hbg, _⟩
  · injection hv with e1 e2 e3
    omega
  · injection hv with e1 e2 e3
    exact ⟨g, e1, hbg⟩
set_option maxHeartbeats 8000000 in
set_option maxRecDepth 100000 in
theorem NameFresh (A0 : Option Addr) (c0 : Nat) (l : List Int) (A1 : Option Addr) (c1 : Nat) (m : List Int) (w : World) (hT : Tab w) (r0 : Kd.C (Kd.int .u8) w A0 l.length l) (q0 : l.length ≤ c0) (hw : ∀ x ∈ l, (Lit.int .u8 x).wf = true) (r1 : Kd.C (Kd.int .i32) w A1 m.length m) (q1 : m.length ≤ c1) (hlen : l.length + m.length ≤ 1048576) :
    Calls Tryd.prog 10 #[.slice A0 l.length c0, .slice A1 m.length c1] w fun e w' => e = .returned (.bool true) ∧ Below w.heap.size w w' := by
  have hB := bytes_wf hw
  have hl : l.length ≤ 140737488351232 := by omega
  have hm : m.length ≤ 1048576 := by omega
  have eW : IntKind.u64.wrap (l.length : Int) = (l.length : Int) := u64w (by omega) (by omega)
  obtain ⟨K1, h1⟩ := Row_ev hB (by omega) 0
  obtain ⟨K2, h2⟩ := PutU_ev (x := (l.length : Int)) (by omega) (by omega)
  have hq := putU_len 9 (l.length : Int)
  obtain ⟨K3, h3⟩ := Letters_ev hB (by omega)
  obtain ⟨K4, h4⟩ := Put_ev (l := m) (by omega)
  obtain ⟨K5, h5⟩ := same_self (l := l) hl
  obtain ⟨K6, h6⟩ := runes_self (l := m) (by omega)
  obtain ⟨K7, h7⟩ := works_ev
  obtain ⟨K, hK⟩ : ∃ K, K = K1 + K2 + K3 + K4 + K5 + K6 + K7 := ⟨_, rfl⟩
  obtain ⟨pr, hpr⟩ : ∃ pr, pr = putU 9 (l.length : Int) ++ l := ⟨_, rfl⟩
  have E1 := Aside0.mk (show name_Row.f K l 0 = some (Rw l 0) from h1 _ (by omega))
  have E2 : Aside0 (name_PutRow.f K l = some pr) := ⟨by
    have e : leb_PutU.f K (l.length : Int) = some _ := h2 _ (by omega)
    unfold name_PutRow.f
    rw [eW, e, Option.bind_some, if_pos (by omega), hpr]⟩
  have E3 := Aside0.mk (show name_Letters.f K l = some (Lt l) from h3 _ (by omega))
  have E4 := Aside0.mk (show name_Put.f K m = some (Pa m) from h4 _ (by omega))
  have E5 := Aside0.mk (show jacquardref00_Same.f K l l = some true from h5 _ (by omega))
  have E6 := Aside0.mk (show jacquardref00_Runes.f K m m = some true from h6 _ (by omega))
  have E7 := Aside0.mk (show jacquardlaw02_works.f K = some true from h7 _ (by omega))
  have HLn : Aside0 ((Lt l).1.length ≤ 1048576) := ⟨by
    unfold Lt
    cases hD : D l with
    | none => simp
    | some o => have := D_length l.length (Nat.le_refl _) hD; simp only []; omega⟩
  clear h1 h2 h3 h4 h5 h6 h7 hK hpr hq eW hw hlen hB
  have HR0 := Aside0.mk r0
  have HR1 := Aside0.mk r1
  have HT := Aside0.mk hT
  clear r0 r1 hT
  go_enter Tryd.func10, Tryd.ntmps10
  go_wp2_with (first
    | ((with_reducible refine gate_callee (f := 26) rfl ?_); (try (refine gate_guard (by rfl) ?_; dsimp only)); refine goesL_ (some 17) rfl rfl Tryd.func26 (by kernel_rfl) rfl #[.slice A0 l.length c0] rfl (by (try simp only [List.map_toArray, List.map_cons, List.map_nil]); first | done | rfl) ?_; (with_reducible refine (wide_calls A0 c0 l _ HR0.out q0 hl).mono ?_); rintro e w1 ⟨g, c, rfl, hgc, hg, hR, hb⟩; refine ⟨_, rfl, ?_⟩; have HB1 := Aside0.mk hb; have HV := Aside0.mk (Below.refl w1.heap.size w1); have HCV := Aside0.mk (wide_C hR); have HG := Aside0.mk hgc; have HGl := Aside0.mk (show l.length ≤ c by omega); have HL1 := Aside0.mk (Nat.le_refl w1.heap.size); clear hb hR hgc)
    | ((with_reducible refine gate_callee (f := 22) rfl ?_); (try (refine gate_guard (by rfl) ?_; dsimp only)); refine goesL_ (some 20) rfl rfl Tryd.func22 (by kernel_rfl) rfl #[.slice (some ⟨g, 0, none⟩) l.length c, .int .i64 0] rfl (by (try simp only [List.map_toArray, List.map_cons, List.map_nil]); first | done | rfl) ?_; (with_reducible refine (name_Row.calls8 K (some ⟨g, 0, none⟩) c l 0 (Rw l 0).1 (Rw l 0).2.1 (Rw l 0).2.2 _ (C_head (Kd.C_below HCV.out HV.out)) HGl.out E1.out).mono ?_); rintro e w2 ⟨vx, rfl, hT, hb⟩; refine ⟨_, rfl, ?_⟩; have HTx := Aside0.mk hT; have HTxS := Aside0.mk hb.size; have n0_ := Aside0.mk (below_step HV.out hb); clear HV; have HV := n0_; clear n0_; clear hb hT)
    | ((with_reducible refine gate_callee (f := 27) rfl ?_); (try (refine gate_guard (by rfl) ?_; dsimp only)); refine goesL_ (some 25) rfl rfl Tryd.func27 (by kernel_rfl) rfl #[vx, .int .u8 1] rfl (by (try simp only [List.map_toArray, List.map_cons, List.map_nil]); first | done | rfl) ?_; (with_reducible refine (spoil_calls vx (Rw l 0).1 1 w1.heap.size _ HTx.out HTxS.out).mono ?_); rintro e w3 ⟨rfl, hb⟩; refine ⟨_, rfl, ?_⟩; have n0_ := Aside0.mk (HV.out.trans (Below.mono hb HL1.out)); clear HV hb; have HV := n0_; clear n0_; have HL3 := Aside0.mk HV.out.size)
    | ((with_reducible refine gate_callee (f := 20) rfl ?_); (try (refine gate_guard (by rfl) ?_; dsimp only)); refine goesL_ (some 27) rfl rfl Tryd.func20 (by kernel_rfl) rfl #[.slice (some ⟨g, 0, none⟩) l.length c] rfl (by (try simp only [List.map_toArray, List.map_cons, List.map_nil]); first | done | rfl) ?_; (with_reducible refine (name_PutRow.calls8 K (some ⟨g, 0, none⟩) c l pr _ (C_head (Kd.C_below HCV.out HV.out)) HGl.out E2.out).mono ?_); rintro e w4 ⟨va, rfl, hT, hb⟩; refine ⟨_, rfl, ?_⟩; have HTa := Aside0.mk hT; have HTaS := Aside0.mk hb.size; have n0_ := Aside0.mk (below_step HV.out hb); clear HV; have HV := n0_; clear n0_; clear hb hT)
    | ((with_reducible refine gate_callee (f := 27) rfl ?_); (try (refine gate_guard (by rfl) ?_; dsimp only)); refine goesL_ (some 29) rfl rfl Tryd.func27 (by kernel_rfl) rfl #[va, .int .u8 1] rfl (by (try simp only [List.map_toArray, List.map_cons, List.map_nil]); first | done | rfl) ?_; (with_reducible refine (spoil_calls va pr 1 w3.heap.size _ HTa.out HTaS.out).mono ?_); rintro e w5 ⟨rfl, hb⟩; refine ⟨_, rfl, ?_⟩; have n0_ := Aside0.mk (HV.out.trans (Below.mono hb HL3.out)); clear HV hb; have HV := n0_; clear n0_; have HL5 := Aside0.mk HV.out.size)
    | ((with_reducible refine gate_callee (f := 11) rfl ?_); (try (refine gate_guard (by rfl) ?_; dsimp only)); refine goesL_ (some 32) rfl rfl Tryd.func11 (by kernel_rfl) rfl #[.slice (some ⟨g, 0, none⟩) l.length c] rfl (by (try simp only [List.map_toArray, List.map_cons, List.map_nil]); first | done | rfl) ?_; (with_reducible refine (name_Letters.calls K (some ⟨g, 0, none⟩) c l (Lt l).1 (Lt l).2 _ (Tab.below HT.out (HB1.out.trans (Below.mono HV.out HB1.out.size))) (C_head (Kd.C_below HCV.out HV.out)) HGl.out E3.out).mono ?_); rintro e w6 ⟨vm, rfl, ho, hb⟩; obtain ⟨Am, cm, rfl⟩ := Kd.R_slice ho; refine ⟨_, rfl, ?_⟩; have HM := Aside0.mk ho; have n0_ := Aside0.mk (below_step HV.out hb); clear HV; have HV := n0_; clear n0_; clear hb ho))
  obtain ⟨n, hn⟩ : ∃ n, n = (Lt l).1.length := ⟨_, rfl⟩
  obtain ⟨ms, hms⟩ : ∃ ms, ms = (Lt l).1 := ⟨_, rfl⟩
  rw [← hn]
  have HN : Aside0 (ms.length = n ∧ n ≤ 1048576) := ⟨by rw [hms, hn]; exact ⟨rfl, HLn.out⟩⟩
  have HM' : Aside0 ((Kd.int .i32).R 21 w6 w5.heap.size (fun _ => True) (.slice Am n cm) ms) := ⟨by have := HM.out; rw [← hms] at this; rw [hn, ← hms]; exact this⟩
  clear HM
  go_loopg [12] (n + 1) (fun kq v12 w' => ∃ (i : Int) (zs : List Int), v12 = .int .i64 i ∧ Aside0 (0 ≤ i ∧ i + kq = n + 1) ∧ Aside0 (zs.length = n) ∧ Aside0 ((Kd.int .i32).R 21 w' w5.heap.size (fun _ => True) (.slice Am n cm) zs) ∧ Aside0 (Below w1.heap.size w1 w'))
  case atStart => exact ⟨0, ms, rfl, ⟨by omega, by omega⟩, ⟨HN.out.1⟩, HM', HV⟩
  case round =>
    clear HM' HV
    obtain ⟨i, zs, rfl, HK, HZ, HM, HV⟩ := hrel
    by_cases ci : i < (n : Int)
    · obtain ⟨gm, rfl, hgm⟩ := i32_addr HM.out (by have := HK.out; omega)
      have d1 : decide (i < (n : Int)) = true := decide_eq_true ci
      have hR := HM.out
      rw [← HZ.out] at hR
      obtain ⟨hcell, hfroz⟩ := Kd.R_cell (0 : Int) hR i HK.out.1 (by rw [HZ.out]; exact ci)
      obtain ⟨hput, hgrown⟩ := Kd.R_put hR i 5
      rw [HZ.out] at hput
      obtain ⟨k1, rfl⟩ : ∃ k1, gk = k1 + 1 := ⟨gk - 1, by have := HK.out; omega⟩
      have hw1 : wrap64 (i + 1) = i + 1 := w64 (by have := HK.out; omega) (by have := HK.out; have := HN.out; omega)
      have p0 : (0 ≤ i) = True := eq_true HK.out.1
      have q0i : (i < (n : Int)) = True := eq_true ci
      clear hgrown hR
      go_wp2
      go_roundg k1
      case measure => omega
      case rel => exact ⟨i + 1, zs.set i.toNat 5, by rw [hw1], ⟨by have := HK.out; omega, by have := HK.out; omega⟩, ⟨by rw [List.length_set]; exact HZ.out⟩, ⟨hput⟩, ⟨HV.out.setCell (Nat.le_trans HL5.out hgm) _⟩⟩
    · have d1 : decide (i < (n : Int)) = false := decide_eq_false ci
      go_wp2_with (first
        | ((with_reducible refine gate_builtin (b := .append) (xs := #[.tmp 44, .tmp 45]) rfl ?_); at_builtin; refine Kd.R_append_rows (Kd.int .i32) (w0 := wr) wr.heap.size rfl (.tmp 44) (.tmp 45) 23 21 (.int .i32 0) 4 rfl Tryd.underlying23 info21 rfl (by decide) (by omega) (.slice none 0 0) ([] : List Int) m _ _ _ (fun _ => True) (fun _ => False) rfl rfl (Kd.R_nil _ _ _ _ _) (Kd.C_below HR1.out (HB1.out.trans (Below.mono HV.out HB1.out.size))) (fun _ _ h => h) (fun _ h => h.elim) (fun _ _ => trivial) (Below.refl _ _) (Nat.le_refl _) ?aL ?_; (case aL => simp only [List.length_nil]; omega); intro vo w8 ho hb hg hat; rw [List.nil_append] at ho; obtain ⟨Ao, co, rfl, hlo, hCo⟩ := Kd.R_reads ho; have HCo := Aside0.mk hCo; have n0_ := Aside0.mk (below_step HV.out hb); clear HV; have HV := n0_; clear n0_; clear ho hb hg hat hCo; have HL8 := Aside0.mk HV.out.size)
        | ((with_reducible refine gate_callee (f := 17) rfl ?_); (try (refine gate_guard (by rfl) ?_; dsimp only)); refine goesL_ (some 49) rfl rfl Tryd.func17 (by kernel_rfl) rfl #[.slice Ao m.length co] rfl (by (try simp only [List.map_toArray, List.map_cons, List.map_nil]); first | done | rfl) ?_; (with_reducible refine (name_Put.calls8 K Ao co m (Pa m).1 (Pa m).2 _ HCo.out hlo E4.out).mono ?_); rintro e w9 ⟨vc, rfl, hT, hb⟩; refine ⟨_, rfl, ?_⟩; have HTc := Aside0.mk hT; have HTcS := Aside0.mk hb.size; have HP := Aside0.mk hb; have n0_ := Aside0.mk (below_step HV.out hb); clear HV; have HV := n0_; clear n0_; clear hb hT)
        | ((with_reducible refine gate_callee (f := 27) rfl ?_); (try (refine gate_guard (by rfl) ?_; dsimp only)); refine goesL_ (some 53) rfl rfl Tryd.func27 (by kernel_rfl) rfl #[vc, .int .u8 1] rfl (by (try simp only [List.map_toArray, List.map_cons, List.map_nil]); first | done | rfl) ?_; (with_reducible refine (spoil_calls vc (Pa m).1 1 w8.heap.size _ HTc.out HTcS.out).mono ?_); rintro e w10 ⟨rfl, hb⟩; refine ⟨_, rfl, ?_⟩; have n1_ := Aside0.mk (HP.out.trans hb); have n0_ := Aside0.mk (HV.out.trans (Below.mono hb HL8.out)); clear HV HP hb; have HV := n0_; have HP := n1_; clear n0_ n1_)
        | ((with_reducible refine gate_callee (f := 28) rfl ?_); (try (refine gate_guard (by rfl) ?_; dsimp only)); refine goesL_ (some 56) rfl rfl Tryd.func28 (by kernel_rfl) rfl #[.slice (some ⟨g, 0, none⟩) l.length c, .slice A0 l.length c0] rfl (by (try simp only [List.map_toArray, List.map_cons, List.map_nil]); first | done | rfl) ?_; (with_reducible refine (left_calls K g c A0 c0 l _ (Kd.C_below HCV.out HV.out) HG.out (Kd.C_below HR0.out (HB1.out.trans (Below.mono HV.out HB1.out.size))) q0 hl E5.out).mono ?_); rintro e w11 ⟨rfl, hb⟩; refine ⟨_, rfl, ?_⟩; have n1_ := Aside0.mk (below_step HP.out hb); have n0_ := Aside0.mk (below_step HV.out hb); clear HV; have HV := n0_; clear n0_; clear HP hb; have HP := n1_; clear n1_)
        | ((with_reducible refine gate_callee (f := 13) rfl ?_); (try (refine gate_guard (by rfl) ?_; dsimp only)); refine goesL_ (some 60) rfl rfl Tryd.func13 (by kernel_rfl) rfl #[.slice Ao m.length co, .slice A1 m.length c1] rfl (by (try simp only [List.map_toArray, List.map_cons, List.map_nil]); first | done | rfl) ?_; (with_reducible refine (jacquardref00_Runes.calls K Ao co m A1 c1 m true _ (Kd.C_below HCo.out HP.out) hlo (Kd.C_below HR1.out (HB1.out.trans (Below.mono HV.out HB1.out.size))) q1 E6.out).mono ?_); rintro e w12 ⟨rfl, hd⟩; refine ⟨_, rfl, ?_⟩; have n0_ := Aside0.mk (below_step HV.out hd.below); clear HV; have HV := n0_; clear n0_; clear hd)
        | ((with_reducible refine gate_callee (f := 16) rfl ?_); (try (refine gate_guard (by rfl) ?_; dsimp only)); refine goesL_ (some 63) rfl rfl Tryd.func16 (by kernel_rfl) rfl #[] rfl (by (try simp only [List.map_toArray, List.map_cons, List.map_nil]); first | done | rfl) ?_; (with_reducible refine (jacquardlaw02_works.calls K true _ (Tab.below HT.out (HB1.out.trans (Below.mono HV.out HB1.out.size))) E7.out).mono ?_); rintro e w13 ⟨rfl, hb⟩; refine ⟨_, rfl, ?_⟩; have n0_ := Aside0.mk (below_step HV.out hb); clear HV; have HV := n0_; clear n0_; clear hb))
      go_ret
      exact ⟨rfl, (HB1.out.trans (Below.mono HV.out HB1.out.size))⟩
end Go.Proofs.YtcnmpciohpcpiaaDoor.Wlk
