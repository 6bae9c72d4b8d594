import Derived.Test.YtobldeamemmokaaDoorKS
/-! jacquardref11.Count. -/
namespace Go.Proofs.YtobldeamemmokaaDoor.P
open Go.RowKit Go.Proofs.YtobldeamemmokaaDoorW.PrintWords Go.Proofs.YtobldeamemmokaaDoorW.PrintLast Go.Proofs.YtobldeamemmokaaDoorW.PrintMore
set_option linter.unusedVariables false
set_option linter.unusedSimpArgs false
def cntI (f : List I → Option Int) : List I → Int → Option Int
  | [], n => some n
  | x :: l, n => (f x.body).bind fun a => (f x.els).bind fun b => cntI f l (wrap64 (wrap64 (wrap64 (n + 1) + a) + b))
def cntR : Nat → List I → Option Int
  | 0, _ => none
  | k + 1, l => cntI (cntR k) l 0
theorem drop_getD {l : List I} {i : Nat} (hi : i < l.length) : l.drop i = l.getD i zI :: l.drop (i + 1) := by
  rw [List.getD_eq_getElem?_getD, List.getElem?_eq_getElem hi]
  exact List.drop_eq_getElem_cons hi
/-- The i-th instruction of a list: its address, and what lies there. -/
theorem I_at {w : World} {A : Option Addr} {l : List I} (h : kI.C w A l.length l) {i : Nat} (hi : i < l.length) : ∃ b o Al cl At ct Ab cb Ae ce, A = some ⟨b, o, none⟩ ∧ w.rangeAt b (o + i * 27) (cellsI (l.getD i zI) (.slice Al (l.getD i zI).l.length cl) (.slice At (l.getD i zI).t.length ct) (.slice Ab (l.getD i zI).body.length cb) (.slice Ae (l.getD i zI).els.length ce)) ∧ (l.getD i zI).v.length = 16 ∧
    ((l.getD i zI).l.length ≤ cl ∧ (Kd.int .u32).C w Al (l.getD i zI).l.length (l.getD i zI).l) ∧ ((l.getD i zI).t.length ≤ ct ∧ (Kd.int .u8).C w At (l.getD i zI).t.length (l.getD i zI).t) ∧ ((l.getD i zI).body.length ≤ cb ∧ kI.C w Ab (l.getD i zI).body.length (l.getD i zI).body) ∧ (l.getD i zI).els.length ≤ ce ∧ kI.C w Ae (l.getD i zI).els.length (l.getD i zI).els := by
  obtain ⟨b, o, rfl⟩ := C_addr h (by omega)
  obtain ⟨ad, cx, had, hxl, hxK, hxc⟩ := Kd.C_get h zI (i : Int) (by omega) (by omega)
  obtain rfl := Option.some.inj had
  rw [Int.toNat_natCast] at hxK
  obtain ⟨Al, cl, At, ct, Ab, cb, Ae, ce, rfl, h16, h1, h2, h3, h4⟩ := kI_open hxK
  refine ⟨b, o, Al, cl, At, ct, Ab, cb, Ae, ce, rfl, fun j u hj => ?_, h16, h1, h2, h3, h4⟩
  have := hxc j u hj
  rw [show ((i : Int)).toNat * kI.sz + j = i * 27 + j from rfl, Addr.add_mid, ← Nat.add_assoc] at this
  exact this
set_option maxHeartbeats 8000000 in
set_option maxRecDepth 100000 in
theorem refCount_calls : ∀ (k : Nat) (A : Option Addr) (c : Nat) (l : List I) (r : Int) (w : World), l.length ≤ c → kI.C w A l.length l → cntR k l = some r →
    Calls Tryd.prog 23 #[.slice A l.length c] w fun e w' => e = .returned (.int .i64 r) ∧ Drawn0 w w'
  | 0, _, _, _, _, _, _, _, h => by cases h
  | k + 1, A, c, l, r, w, hc, hl, h => by
    have HI := Aside0.mk (refCount_calls k)
    have HL := Aside0.mk hl
    have HC := Aside0.mk hc
    have H' := Aside0.mk (show cntI (cntR k) (l.drop 0) 0 = some r from h)
    clear hc hl h
    go_enter Tryd.func23, Tryd.ntmps23
    go_wp2
    go_loopg [3, 4] l.length (fun kq v3 v4 w' => ∃ (i : Nat) (n : Int), v3 = .int .i64 n ∧ v4 = .int .i64 (i : Int) ∧ kq + i = l.length ∧ Aside0 (cntI (cntR k) (l.drop i) n = some r) ∧ Drawn0 w w')
    case atStart => exact ⟨0, 0, rfl, rfl, rfl, H', Drawn0.refl _⟩
    case round =>
      clear H'
      obtain ⟨i, n, rfl, rfl, hki, HA, ⟨m1, rfl⟩⟩ := hrel
      by_cases hi : i < l.length
      rotate_left
      · have e2 : decide ((i : Int) < (l.length : Int)) = false := decide_eq_false (by omega)
        have h1 := HA.out
        rw [List.drop_eq_nil_of_le (by omega), cntI] at h1
        obtain rfl := Option.some.inj h1
        go_wp2
        go_ret
        exact ⟨rfl, ⟨_, rfl⟩⟩
      · have e2 : decide ((i : Int) < (l.length : Int)) = true := decide_eq_true (by omega)
        obtain ⟨b, o, Al, cl, At, ct, Ab, cb, Ae, ce, rfl, hr, h16, _, _, hb, he⟩ := I_at HL.out hi
        have h1 := HA.out
        rw [drop_getD hi, cntI] at h1
        obtain ⟨x, hx⟩ : ∃ x, l.getD i zI = x := ⟨_, rfl⟩
        rw [hx] at hr h16 hb he h1
        obtain ⟨na, ha, h1⟩ := Option.bind_eq_some_iff.1 h1
        obtain ⟨nb, hb2, h1⟩ := Option.bind_eq_some_iff.1 h1
        obtain ⟨_, _, _, _, _, _, _, _, _, z25, z26⟩ := cellsI_at x h16 (.slice Al x.l.length cl) (.slice At x.t.length ct) (.slice Ab x.body.length cb) (.slice Ae x.els.length ce)
        have y25 := hr 25 _ z25
        have y26 := hr 26 _ z26
        have w1eq : wrap64 ((i : Int) + 1) = ((i + 1 : Nat) : Int) := by unfold wrap64; have := Kd.C_max HL.out; omega
        have HHA := Aside0.mk h1
        have HNA := Aside0.mk ha
        have HNB := Aside0.mk hb2
        have HB := Aside0.mk hb
        have HE := Aside0.mk he
        clear hr z25 z26 hx h16 hb he h1 ha hb2 HA
        go_wp2
        go_quiet (first
          | (go_at_call 23; with_reducible refine (HI.out Ab cb x.body na _ HB.out.1 (Kd.C_drewN HB.out.2 _) HNA.out).mono ?_; rintro e w' ⟨rfl, ⟨nd, rfl⟩⟩; first | exact ⟨rfl, _, World.drewN_drewN _ _ _⟩ | exact ⟨rfl, _, Eq.trans (World.drewN_drewN _ _ _) (congrArg (World.drewN _) (Nat.add_assoc _ _ _))⟩)
          | (go_at_call 23; with_reducible refine (HI.out Ae ce x.els nb _ HE.out.1 (Kd.C_drewN HE.out.2 _) HNB.out).mono ?_; rintro e w' ⟨rfl, ⟨nd, rfl⟩⟩; first | exact ⟨rfl, _, World.drewN_drewN _ _ _⟩ | exact ⟨rfl, _, Eq.trans (World.drewN_drewN _ _ _) (congrArg (World.drewN _) (Nat.add_assoc _ _ _))⟩))
        go_wp2
        go_roundg (gk - 1)
        case measure => omega
        case rel => exact ⟨i + 1, _, rfl, by rw [w1eq], by omega, HHA, ⟨_, rfl⟩⟩
end Go.Proofs.YtobldeamemmokaaDoor.P

/-! jacquardref11.Datas. -/
namespace Go.Proofs.YtobldeamemmokaaDoor.P
open Go.RowKit Go.Proofs.YtobldeamemmokaaDoorW.PrintWords Go.Proofs.YtobldeamemmokaaDoorW.PrintLast Go.Proofs.YtobldeamemmokaaDoorW.PrintMore
set_option linter.unusedVariables false
set_option linter.unusedSimpArgs false
def datI (f : List I → Option Bool) : List I → Option Bool
  | [] => some false
  | x :: l => if (x.op == 64520) = true then some true else if (x.op == 64521) = true then some true else (f x.body).bind fun a => if a = true then some true else (f x.els).bind fun b => if b = true then some true else datI f l
def datR : Nat → List I → Option Bool
  | 0, _ => none
  | k + 1, l => datI (datR k) l
set_option maxHeartbeats 8000000 in
set_option maxRecDepth 100000 in
theorem refDatas_calls : ∀ (k : Nat) (A : Option Addr) (c : Nat) (l : List I) (r : Bool) (w : World), l.length ≤ c → kI.C w A l.length l → datR k l = some r →
    Calls Tryd.prog 26 #[.slice A l.length c] w fun e w' => e = .returned (.bool r) ∧ Drawn0 w w'
  | 0, _, _, _, _, _, _, _, h => by cases h
  | k + 1, A, c, l, r, w, hc, hl, h => by
    have HI := Aside0.mk (refDatas_calls k)
    have HL := Aside0.mk hl
    have HC := Aside0.mk hc
    have H' := Aside0.mk (show datI (datR k) (l.drop 0) = some r from h)
    clear hc hl h
    go_enter Tryd.func26, Tryd.ntmps26
    go_wp2
    go_loopg [3] l.length (fun kq v3 w' => ∃ (i : Nat), v3 = .int .i64 (i : Int) ∧ kq + i = l.length ∧ Aside0 (datI (datR k) (l.drop i) = some r) ∧ Drawn0 w w')
    case atStart => exact ⟨0, rfl, rfl, H', Drawn0.refl _⟩
    case round =>
      clear H'
      obtain ⟨i, rfl, hki, HA, ⟨m1, rfl⟩⟩ := hrel
      by_cases hi : i < l.length
      rotate_left
      · have e2 : decide ((i : Int) < (l.length : Int)) = false := decide_eq_false (by omega)
        have h1 := HA.out
        rw [List.drop_eq_nil_of_le (by omega), datI] at h1
        obtain rfl := Option.some.inj h1
        go_wp2
        go_ret
        exact ⟨rfl, ⟨_, rfl⟩⟩
      · have e2 : decide ((i : Int) < (l.length : Int)) = true := decide_eq_true (by omega)
        obtain ⟨b, o, Al, cl, At, ct, Ab, cb, Ae, ce, rfl, hr, h16, _, _, hb, he⟩ := I_at HL.out hi
        have h1 := HA.out
        rw [drop_getD hi, datI] at h1
        obtain ⟨x, hx⟩ : ∃ x, l.getD i zI = x := ⟨_, rfl⟩
        rw [hx] at hr h16 hb he h1
        obtain ⟨_, _, _, _, _, _, _, _, _, z25, z26⟩ := cellsI_at x h16 (.slice Al x.l.length cl) (.slice At x.t.length ct) (.slice Ab x.body.length cb) (.slice Ae x.els.length ce)
        have y0 : w.cell? ⟨b, o + i * 27, none⟩ = some (.int .u16 x.op) := hr 0 _ rfl
        have y25 := hr 25 _ z25
        have y26 := hr 26 _ z26
        have w1eq : wrap64 ((i : Int) + 1) = ((i + 1 : Nat) : Int) := by unfold wrap64; have := Kd.C_max HL.out; omega
        have HB := Aside0.mk hb
        have HE := Aside0.mk he
        clear hr z25 z26 hx h16 hb he HA
        cases e3 : (x.op == 64520)
        · rw [e3, if_neg Bool.false_ne_true] at h1
          cases e4 : (x.op == 64521)
          · rw [e4, if_neg Bool.false_ne_true] at h1
            obtain ⟨na, ha, h1⟩ := Option.bind_eq_some_iff.1 h1
            cases na
            · rw [if_neg Bool.false_ne_true] at h1
              obtain ⟨nb, hb2, h1⟩ := Option.bind_eq_some_iff.1 h1
              have HNA := Aside0.mk ha
              have HNB := Aside0.mk hb2
              cases nb
              · rw [if_neg Bool.false_ne_true] at h1
                have HHA := Aside0.mk h1
                clear ha hb2 h1
                go_wp2_with (first
                  | (go_at_call 26; with_reducible refine (HI.out Ab cb x.body false _ HB.out.1 (by repeat (first | exact HB.out.2 | refine Kd.C_drewN ?_ _)) HNA.out).mono ?_; rintro e w' ⟨rfl, ⟨nd, rfl⟩⟩)
                  | (go_at_call 26; with_reducible refine (HI.out Ae ce x.els false _ HE.out.1 (by repeat (first | exact HE.out.2 | refine Kd.C_drewN ?_ _)) HNB.out).mono ?_; rintro e w' ⟨rfl, ⟨nd, rfl⟩⟩))
                go_roundg (gk - 1)
                case measure => omega
                case rel => exact ⟨i + 1, by rw [w1eq], by omega, HHA, by repeat (first | exact ⟨_, rfl⟩ | exact Drawn0.refl _ | apply Drawn0.step)⟩
              · rw [if_pos rfl] at h1
                obtain rfl := Option.some.inj h1
                clear ha hb2
                go_wp2_with (first
                  | (go_at_call 26; with_reducible refine (HI.out Ab cb x.body false _ HB.out.1 (by repeat (first | exact HB.out.2 | refine Kd.C_drewN ?_ _)) HNA.out).mono ?_; rintro e w' ⟨rfl, ⟨nd, rfl⟩⟩)
                  | (go_at_call 26; with_reducible refine (HI.out Ae ce x.els true _ HE.out.1 (by repeat (first | exact HE.out.2 | refine Kd.C_drewN ?_ _)) HNB.out).mono ?_; rintro e w' ⟨rfl, ⟨nd, rfl⟩⟩))
                go_ret
                exact ⟨rfl, ⟨_, by first | rfl | exact World.drewN_drewN _ _ _⟩⟩
            · rw [if_pos rfl] at h1
              obtain rfl := Option.some.inj h1
              have HNA := Aside0.mk ha
              clear ha
              go_wp2_with (first
                | (go_at_call 26; with_reducible refine (HI.out Ab cb x.body true _ HB.out.1 (by repeat (first | exact HB.out.2 | refine Kd.C_drewN ?_ _)) HNA.out).mono ?_; rintro e w' ⟨rfl, ⟨nd, rfl⟩⟩))
              go_ret
              exact ⟨rfl, ⟨_, by first | rfl | exact World.drewN_drewN _ _ _⟩⟩
          · rw [e4, if_pos rfl] at h1
            obtain rfl := Option.some.inj h1
            go_wp2
            go_ret
            exact ⟨rfl, ⟨_, rfl⟩⟩
        · rw [e3, if_pos rfl] at h1
          obtain rfl := Option.some.inj h1
          go_wp2
          go_ret
          exact ⟨rfl, ⟨_, rfl⟩⟩
end Go.Proofs.YtobldeamemmokaaDoor.P

/-! jacquardref11.Depth. -/
namespace Go.Proofs.YtobldeamemmokaaDoor.P
open Go.RowKit Go.Proofs.YtobldeamemmokaaDoorW.PrintWords Go.Proofs.YtobldeamemmokaaDoorW.PrintLast Go.Proofs.YtobldeamemmokaaDoorW.PrintMore
attribute [local go_sem] max2_int min2_int max_two min_two
set_option linter.unusedVariables false
set_option linter.unusedSimpArgs false
def mx (a b : Int) : Int := if a < b then b else a
theorem mx_lt {a b : Int} (h : a < b) : mx a b = b := if_pos h
theorem mx_ge {a b : Int} (h : ¬ a < b) : mx a b = a := if_neg h
def depI (f : List I → Option Int) : List I → Int → Option Int
  | [], d => some d
  | x :: l, d => (f x.body).bind fun a => (f x.els).bind fun b => depI f l (mx d (if isBlk x.op = true then wrap64 (mx a b + 1) else mx a b))
def depR : Nat → List I → Option Int
  | 0, _ => none
  | k + 1, l => (depI (depR k) l 0).bind fun d => some (if 1001 < d then 1001 else d)
theorem isBlock2_calls (o : Int) (w : World) : Calls Tryd.prog 39 #[.int .u16 o] w fun e w' => e = .returned (.bool (isBlk o)) ∧ w = w' := by
  unfold isBlk
  by_cases h2 : o = 2
  · subst h2
    go_enter Tryd.func39, Tryd.ntmps39
    go_wp2
    go_ret
    exact ⟨rfl, rfl⟩
  · by_cases h3 : o = 3
    · subst h3
      go_enter Tryd.func39, Tryd.ntmps39
      go_wp2
      go_ret
      exact ⟨rfl, rfl⟩
    · have e2 : (o == 2) = false := beq_eq_false_iff_ne.mpr h2
      have e3 : (o == 3) = false := beq_eq_false_iff_ne.mpr h3
      go_enter Tryd.func39, Tryd.ntmps39
      go_wp2
      go_ret
      exact ⟨by simp [e2, e3], rfl⟩
set_option maxHeartbeats 8000000 in
set_option maxRecDepth 100000 in
theorem refDepth_calls : ∀ (k : Nat) (A : Option Addr) (c : Nat) (l : List I) (r : Int) (w : World), l.length ≤ c → kI.C w A l.length l → depR k l = some r →
    Calls Tryd.prog 24 #[.slice A l.length c] w fun e w' => e = .returned (.int .i64 r) ∧ Drawn0 w w'
  | 0, _, _, _, _, _, _, _, h => by cases h
  | k + 1, A, c, l, r, w, hc, hl, h => by
    have HI := Aside0.mk (refDepth_calls k)
    have HL := Aside0.mk hl
    have HC := Aside0.mk hc
    obtain ⟨r0, h0, h⟩ := Option.bind_eq_some_iff.1 (show (depI (depR k) l 0).bind (fun d => some (if 1001 < d then 1001 else d)) = some r from h)
    obtain rfl := Option.some.inj h
    have H' := Aside0.mk (show depI (depR k) (l.drop 0) 0 = some r0 from h0)
    clear hc hl h h0
    go_enter Tryd.func24, Tryd.ntmps24
    go_wp2
    go_loopg [3, 4] l.length (fun kq v3 v4 w' => ∃ (i : Nat) (n : Int), v3 = .int .i64 n ∧ v4 = .int .i64 (i : Int) ∧ kq + i = l.length ∧ Aside0 (depI (depR k) (l.drop i) n = some r0) ∧ Drawn0 w w')
    case atStart => exact ⟨0, 0, rfl, rfl, rfl, H', Drawn0.refl _⟩
    case round =>
      clear H'
      obtain ⟨i, n, rfl, rfl, hki, HA, ⟨m1, rfl⟩⟩ := hrel
      by_cases hi : i < l.length
      rotate_left
      · have e2 : decide ((i : Int) < (l.length : Int)) = false := decide_eq_false (by omega)
        have h1 := HA.out
        rw [List.drop_eq_nil_of_le (by omega), depI] at h1
        obtain rfl := Option.some.inj h1
        by_cases c3 : 1001 < n
        · go_wp2
          go_ret
          exact ⟨by first | rfl | (rw [if_pos c3]; rfl), ⟨_, rfl⟩⟩
        · go_wp2
          go_ret
          exact ⟨by first | rfl | (rw [if_neg c3]; rfl), ⟨_, rfl⟩⟩
      · have e2 : decide ((i : Int) < (l.length : Int)) = true := decide_eq_true (by omega)
        obtain ⟨b, o, Al, cl, At, ct, Ab, cb, Ae, ce, rfl, hr, h16, _, _, hb, he⟩ := I_at HL.out hi
        have h1 := HA.out
        rw [drop_getD hi, depI] at h1
        obtain ⟨x, hx⟩ : ∃ x, l.getD i zI = x := ⟨_, rfl⟩
        rw [hx] at hr h16 hb he h1
        obtain ⟨na, ha, h1⟩ := Option.bind_eq_some_iff.1 h1
        obtain ⟨nb, hb2, h1⟩ := Option.bind_eq_some_iff.1 h1
        obtain ⟨_, _, _, _, _, _, _, _, _, z25, z26⟩ := cellsI_at x h16 (.slice Al x.l.length cl) (.slice At x.t.length ct) (.slice Ab x.body.length cb) (.slice Ae x.els.length ce)
        have y0 : w.cell? ⟨b, o + i * 27, none⟩ = some (.int .u16 x.op) := hr 0 _ rfl
        have y25 := hr 25 _ z25
        have y26 := hr 26 _ z26
        have w1eq : wrap64 ((i : Int) + 1) = ((i + 1 : Nat) : Int) := by unfold wrap64; have := Kd.C_max HL.out; omega
        cases e3 : isBlk x.op
        · rw [e3, if_neg Bool.false_ne_true] at h1
          by_cases c1 : na < nb
          · rw [mx_lt c1] at h1
            by_cases c2 : n < nb
            · rw [mx_lt c2] at h1
              have HHA := Aside0.mk h1
              have HNA := Aside0.mk ha
              have HNB := Aside0.mk hb2
              have HB := Aside0.mk hb
              have HE := Aside0.mk he
              clear hr z25 z26 hx h16 hb he h1 ha hb2 HA
              go_wp2
              go_quiet (first
                | (go_at_call 24; with_reducible refine (HI.out Ab cb x.body na _ HB.out.1 (Kd.C_drewN HB.out.2 _) HNA.out).mono ?_; rintro e w' ⟨rfl, ⟨nd, rfl⟩⟩; first | exact ⟨rfl, _, World.drewN_drewN _ _ _⟩ | exact ⟨rfl, _, Eq.trans (World.drewN_drewN _ _ _) (congrArg (World.drewN _) (Nat.add_assoc _ _ _))⟩)
                | (go_at_call 24; with_reducible refine (HI.out Ae ce x.els nb _ HE.out.1 (Kd.C_drewN HE.out.2 _) HNB.out).mono ?_; rintro e w' ⟨rfl, ⟨nd, rfl⟩⟩; first | exact ⟨rfl, _, World.drewN_drewN _ _ _⟩ | exact ⟨rfl, _, Eq.trans (World.drewN_drewN _ _ _) (congrArg (World.drewN _) (Nat.add_assoc _ _ _))⟩))
              go_wp2_with (first
                | (go_at_call 39; with_reducible refine (isBlock2_calls _ _).mono ?_; rintro e w' ⟨rfl, rfl⟩; rw [e3]))
              go_roundg (gk - 1)
              case measure => omega
              case rel => exact ⟨i + 1, _, rfl, by first | rfl | rw [w1eq], by omega, HHA, ⟨_, rfl⟩⟩
            · rw [mx_ge c2] at h1
              have HHA := Aside0.mk h1
              have HNA := Aside0.mk ha
              have HNB := Aside0.mk hb2
              have HB := Aside0.mk hb
              have HE := Aside0.mk he
              clear hr z25 z26 hx h16 hb he h1 ha hb2 HA
              go_wp2
              go_quiet (first
                | (go_at_call 24; with_reducible refine (HI.out Ab cb x.body na _ HB.out.1 (Kd.C_drewN HB.out.2 _) HNA.out).mono ?_; rintro e w' ⟨rfl, ⟨nd, rfl⟩⟩; first | exact ⟨rfl, _, World.drewN_drewN _ _ _⟩ | exact ⟨rfl, _, Eq.trans (World.drewN_drewN _ _ _) (congrArg (World.drewN _) (Nat.add_assoc _ _ _))⟩)
                | (go_at_call 24; with_reducible refine (HI.out Ae ce x.els nb _ HE.out.1 (Kd.C_drewN HE.out.2 _) HNB.out).mono ?_; rintro e w' ⟨rfl, ⟨nd, rfl⟩⟩; first | exact ⟨rfl, _, World.drewN_drewN _ _ _⟩ | exact ⟨rfl, _, Eq.trans (World.drewN_drewN _ _ _) (congrArg (World.drewN _) (Nat.add_assoc _ _ _))⟩))
              go_wp2_with (first
                | (go_at_call 39; with_reducible refine (isBlock2_calls _ _).mono ?_; rintro e w' ⟨rfl, rfl⟩; rw [e3]))
              go_roundg (gk - 1)
              case measure => omega
              case rel => exact ⟨i + 1, _, rfl, by first | rfl | rw [w1eq], by omega, HHA, ⟨_, rfl⟩⟩
          · rw [mx_ge c1] at h1
            by_cases c2 : n < na
            · rw [mx_lt c2] at h1
              have HHA := Aside0.mk h1
              have HNA := Aside0.mk ha
              have HNB := Aside0.mk hb2
              have HB := Aside0.mk hb
              have HE := Aside0.mk he
              clear hr z25 z26 hx h16 hb he h1 ha hb2 HA
              go_wp2
              go_quiet (first
                | (go_at_call 24; with_reducible refine (HI.out Ab cb x.body na _ HB.out.1 (Kd.C_drewN HB.out.2 _) HNA.out).mono ?_; rintro e w' ⟨rfl, ⟨nd, rfl⟩⟩; first | exact ⟨rfl, _, World.drewN_drewN _ _ _⟩ | exact ⟨rfl, _, Eq.trans (World.drewN_drewN _ _ _) (congrArg (World.drewN _) (Nat.add_assoc _ _ _))⟩)
                | (go_at_call 24; with_reducible refine (HI.out Ae ce x.els nb _ HE.out.1 (Kd.C_drewN HE.out.2 _) HNB.out).mono ?_; rintro e w' ⟨rfl, ⟨nd, rfl⟩⟩; first | exact ⟨rfl, _, World.drewN_drewN _ _ _⟩ | exact ⟨rfl, _, Eq.trans (World.drewN_drewN _ _ _) (congrArg (World.drewN _) (Nat.add_assoc _ _ _))⟩))
              go_wp2_with (first
                | (go_at_call 39; with_reducible refine (isBlock2_calls _ _).mono ?_; rintro e w' ⟨rfl, rfl⟩; rw [e3]))
              go_roundg (gk - 1)
              case measure => omega
              case rel => exact ⟨i + 1, _, rfl, by first | rfl | rw [w1eq], by omega, HHA, ⟨_, rfl⟩⟩
            · rw [mx_ge c2] at h1
              have HHA := Aside0.mk h1
              have HNA := Aside0.mk ha
              have HNB := Aside0.mk hb2
              have HB := Aside0.mk hb
              have HE := Aside0.mk he
              clear hr z25 z26 hx h16 hb he h1 ha hb2 HA
              go_wp2
              go_quiet (first
                | (go_at_call 24; with_reducible refine (HI.out Ab cb x.body na _ HB.out.1 (Kd.C_drewN HB.out.2 _) HNA.out).mono ?_; rintro e w' ⟨rfl, ⟨nd, rfl⟩⟩; first | exact ⟨rfl, _, World.drewN_drewN _ _ _⟩ | exact ⟨rfl, _, Eq.trans (World.drewN_drewN _ _ _) (congrArg (World.drewN _) (Nat.add_assoc _ _ _))⟩)
                | (go_at_call 24; with_reducible refine (HI.out Ae ce x.els nb _ HE.out.1 (Kd.C_drewN HE.out.2 _) HNB.out).mono ?_; rintro e w' ⟨rfl, ⟨nd, rfl⟩⟩; first | exact ⟨rfl, _, World.drewN_drewN _ _ _⟩ | exact ⟨rfl, _, Eq.trans (World.drewN_drewN _ _ _) (congrArg (World.drewN _) (Nat.add_assoc _ _ _))⟩))
              go_wp2_with (first
                | (go_at_call 39; with_reducible refine (isBlock2_calls _ _).mono ?_; rintro e w' ⟨rfl, rfl⟩; rw [e3]))
              go_roundg (gk - 1)
              case measure => omega
              case rel => exact ⟨i + 1, _, rfl, by first | rfl | rw [w1eq], by omega, HHA, ⟨_, rfl⟩⟩
        · rw [e3, if_pos rfl] at h1
          by_cases c1 : na < nb
          · rw [mx_lt c1] at h1
            by_cases c2 : n < wrap64 (nb + 1)
            · rw [mx_lt c2] at h1
              have HHA := Aside0.mk h1
              have HNA := Aside0.mk ha
              have HNB := Aside0.mk hb2
              have HB := Aside0.mk hb
              have HE := Aside0.mk he
              clear hr z25 z26 hx h16 hb he h1 ha hb2 HA
              go_wp2
              go_quiet (first
                | (go_at_call 24; with_reducible refine (HI.out Ab cb x.body na _ HB.out.1 (Kd.C_drewN HB.out.2 _) HNA.out).mono ?_; rintro e w' ⟨rfl, ⟨nd, rfl⟩⟩; first | exact ⟨rfl, _, World.drewN_drewN _ _ _⟩ | exact ⟨rfl, _, Eq.trans (World.drewN_drewN _ _ _) (congrArg (World.drewN _) (Nat.add_assoc _ _ _))⟩)
                | (go_at_call 24; with_reducible refine (HI.out Ae ce x.els nb _ HE.out.1 (Kd.C_drewN HE.out.2 _) HNB.out).mono ?_; rintro e w' ⟨rfl, ⟨nd, rfl⟩⟩; first | exact ⟨rfl, _, World.drewN_drewN _ _ _⟩ | exact ⟨rfl, _, Eq.trans (World.drewN_drewN _ _ _) (congrArg (World.drewN _) (Nat.add_assoc _ _ _))⟩))
              go_wp2_with (first
                | (go_at_call 39; with_reducible refine (isBlock2_calls _ _).mono ?_; rintro e w' ⟨rfl, rfl⟩; rw [e3]))
              go_roundg (gk - 1)
              case measure => omega
              case rel => exact ⟨i + 1, _, rfl, by first | rfl | rw [w1eq], by omega, HHA, ⟨_, rfl⟩⟩
            · rw [mx_ge c2] at h1
              have HHA := Aside0.mk h1
              have HNA := Aside0.mk ha
              have HNB := Aside0.mk hb2
              have HB := Aside0.mk hb
              have HE := Aside0.mk he
              clear hr z25 z26 hx h16 hb he h1 ha hb2 HA
              go_wp2
              go_quiet (first
                | (go_at_call 24; with_reducible refine (HI.out Ab cb x.body na _ HB.out.1 (Kd.C_drewN HB.out.2 _) HNA.out).mono ?_; rintro e w' ⟨rfl, ⟨nd, rfl⟩⟩; first | exact ⟨rfl, _, World.drewN_drewN _ _ _⟩ | exact ⟨rfl, _, Eq.trans (World.drewN_drewN _ _ _) (congrArg (World.drewN _) (Nat.add_assoc _ _ _))⟩)
                | (go_at_call 24; with_reducible refine (HI.out Ae ce x.els nb _ HE.out.1 (Kd.C_drewN HE.out.2 _) HNB.out).mono ?_; rintro e w' ⟨rfl, ⟨nd, rfl⟩⟩; first | exact ⟨rfl, _, World.drewN_drewN _ _ _⟩ | exact ⟨rfl, _, Eq.trans (World.drewN_drewN _ _ _) (congrArg (World.drewN _) (Nat.add_assoc _ _ _))⟩))
              go_wp2_with (first
                | (go_at_call 39; with_reducible refine (isBlock2_calls _ _).mono ?_; rintro e w' ⟨rfl, rfl⟩; rw [e3]))
              go_roundg (gk - 1)
              case measure => omega
              case rel => exact ⟨i + 1, _, rfl, by first | rfl | rw [w1eq], by omega, HHA, ⟨_, rfl⟩⟩
          · rw [mx_ge c1] at h1
            by_cases c2 : n < wrap64 (na + 1)
            · rw [mx_lt c2] at h1
              have HHA := Aside0.mk h1
              have HNA := Aside0.mk ha
              have HNB := Aside0.mk hb2
              have HB := Aside0.mk hb
              have HE := Aside0.mk he
              clear hr z25 z26 hx h16 hb he h1 ha hb2 HA
              go_wp2
              go_quiet (first
                | (go_at_call 24; with_reducible refine (HI.out Ab cb x.body na _ HB.out.1 (Kd.C_drewN HB.out.2 _) HNA.out).mono ?_; rintro e w' ⟨rfl, ⟨nd, rfl⟩⟩; first | exact ⟨rfl, _, World.drewN_drewN _ _ _⟩ | exact ⟨rfl, _, Eq.trans (World.drewN_drewN _ _ _) (congrArg (World.drewN _) (Nat.add_assoc _ _ _))⟩)
                | (go_at_call 24; with_reducible refine (HI.out Ae ce x.els nb _ HE.out.1 (Kd.C_drewN HE.out.2 _) HNB.out).mono ?_; rintro e w' ⟨rfl, ⟨nd, rfl⟩⟩; first | exact ⟨rfl, _, World.drewN_drewN _ _ _⟩ | exact ⟨rfl, _, Eq.trans (World.drewN_drewN _ _ _) (congrArg (World.drewN _) (Nat.add_assoc _ _ _))⟩))
              go_wp2_with (first
                | (go_at_call 39; with_reducible refine (isBlock2_calls _ _).mono ?_; rintro e w' ⟨rfl, rfl⟩; rw [e3]))
              go_roundg (gk - 1)
              case measure => omega
              case rel => exact ⟨i + 1, _, rfl, by first | rfl | rw [w1eq], by omega, HHA, ⟨_, rfl⟩⟩
            · rw [mx_ge c2] at h1
              have HHA := Aside0.mk h1
              have HNA := Aside0.mk ha
              have HNB := Aside0.mk hb2
              have HB := Aside0.mk hb
              have HE := Aside0.mk he
              clear hr z25 z26 hx h16 hb he h1 ha hb2 HA
              go_wp2
              go_quiet (first
                | (go_at_call 24; with_reducible refine (HI.out Ab cb x.body na _ HB.out.1 (Kd.C_drewN HB.out.2 _) HNA.out).mono ?_; rintro e w' ⟨rfl, ⟨nd, rfl⟩⟩; first | exact ⟨rfl, _, World.drewN_drewN _ _ _⟩ | exact ⟨rfl, _, Eq.trans (World.drewN_drewN _ _ _) (congrArg (World.drewN _) (Nat.add_assoc _ _ _))⟩)
                | (go_at_call 24; with_reducible refine (HI.out Ae ce x.els nb _ HE.out.1 (Kd.C_drewN HE.out.2 _) HNB.out).mono ?_; rintro e w' ⟨rfl, ⟨nd, rfl⟩⟩; first | exact ⟨rfl, _, World.drewN_drewN _ _ _⟩ | exact ⟨rfl, _, Eq.trans (World.drewN_drewN _ _ _) (congrArg (World.drewN _) (Nat.add_assoc _ _ _))⟩))
              go_wp2_with (first
                | (go_at_call 39; with_reducible refine (isBlock2_calls _ _).mono ?_; rintro e w' ⟨rfl, rfl⟩; rw [e3]))
              go_roundg (gk - 1)
              case measure => omega
              case rel => exact ⟨i + 1, _, rfl, by first | rfl | rw [w1eq], by omega, HHA, ⟨_, rfl⟩⟩
end Go.Proofs.YtobldeamemmokaaDoor.P

