/- The walk of the law TypesBack: out of its printed contract; what is put, of right types, is read, wherever it stands. Condition: what comes in is of bulk at most 1048576. -/
import Derived.Test.YthillgpbenjldaaPx6
import Derived.Test.YthillgpbenjldaaPx7
import Derived.Test.YthillgpbenjldaaPx8
import Derived.Test.YthillgpbenjldaaPx17
import Derived.Test.YthillgpbenjldaaPx18
import Derived.Test.YthillgpbenjldaaPx21
import Derived.Test.YthillgpbenjldaaPx23
import Derived.Test.YthillgpbenjldaaStmTypesBackUpto
import Derived.Test.YthillgpbenjldaaNe
namespace Go.Proofs.Ythillgpbenjldaa.Wlk
set_option linter.unusedVariables false
set_option linter.unusedSimpArgs false
open Go.RowKit Go.Proofs.Ythillgpbenjldaa.P Go.Proofs.YthillgpbenjldaaW.PrintWords Go.Proofs.YthillgpbenjldaaW.PrintLast Go.Proofs.Ythillgpbenjldaa.LebM
theorem u32_wf {a : Int} (h : (Lit.int .u32 a).wf = true) : 0 ≤ a ∧ a ≤ 4294967295 := by
  simp [Lit.wf, IntKind.min, IntKind.max, IntKind.signed, IntKind.bits] at h
  omega
theorem l1_loop (x2 x3 p r : List Int) (a b : Int) (c : Bool) (hr : r.length ≤ 1048576) {K : Nat} (d : Nat) : ∀ (f : Bool) (i : Nat), r.length - i = d → i ≤ r.length →
    (∀ k, K ≤ k → jacquardlaw09_TypesBack.l1 k x2 x3 (f && (r.drop i).all isT) r.length p r a b c = some true) → ∀ k, K + d ≤ k → jacquardlaw09_TypesBack.l1 k x2 x3 f (i : Int) p r a b c = some true := by
  induction d with
  | zero =>
    intro f i h0 h1 h k hk
    have := h k (by omega)
    rw [List.drop_eq_nil_of_le (by omega), List.all_nil, Bool.and_true] at this
    rw [show (i : Int) = (r.length : Int) by omega]
    exact this
  | succ d ih =>
    intro f i h0 h1 h k hk
    obtain ⟨k, rfl⟩ : ∃ m, k = m + 1 := ⟨k - 1, by omega⟩
    rw [jacquardlaw09_TypesBack.l1, if_pos (by omega), w64 (x := (i : Int) + 1) (by omega) (by omega), is_eq, rd_get (show i < r.length by omega), Option.bind_some, show (i : Int) + 1 = ((i + 1 : Nat) : Int) from rfl]
    rw [List.drop_eq_getElem_cons (show i < r.length by omega), List.all_cons] at h
    cases f with
    | true =>
      rw [if_pos rfl, if_pos (by omega)]
      exact ih (isT r[i]) (i + 1) (by omega) (by omega) (fun k hk => by have := h k hk; rwa [Bool.true_and] at this) k (by omega)
    | false =>
      rw [if_neg (by decide)]
      exact ih false (i + 1) (by omega) (by omega) (fun k hk => by have := h k hk; rw [Bool.false_and] at this ⊢; exact this) k (by omega)
theorem l0_loop (x2 x3 p r : List Int) (a b : Int) (c : Bool) (hp : p.length ≤ 1048576) {K : Nat} (d : Nat) : ∀ (f : Bool) (i : Nat), p.length - i = d → i ≤ p.length →
    (∀ k, K ≤ k → jacquardlaw09_TypesBack.l1 k x2 x3 (f && (p.drop i).all isT) 0 p r a b c = some true) → ∀ k, K + d + 1 ≤ k → jacquardlaw09_TypesBack.l0 k x2 x3 f (i : Int) p r a b c = some true := by
  induction d with
  | zero =>
    intro f i h0 h1 h k hk
    obtain ⟨k, rfl⟩ : ∃ m, k = m + 1 := ⟨k - 1, by omega⟩
    have := h k (by omega)
    rw [List.drop_eq_nil_of_le (by omega), List.all_nil, Bool.and_true] at this
    rw [jacquardlaw09_TypesBack.l0, if_neg (by omega)]
    exact this
  | succ d ih =>
    intro f i h0 h1 h k hk
    obtain ⟨k, rfl⟩ : ∃ m, k = m + 1 := ⟨k - 1, by omega⟩
    rw [jacquardlaw09_TypesBack.l0, if_pos (by omega), w64 (x := (i : Int) + 1) (by omega) (by omega), is_eq, rd_get (show i < p.length by omega), Option.bind_some, show (i : Int) + 1 = ((i + 1 : Nat) : Int) from rfl]
    rw [List.drop_eq_getElem_cons (show i < p.length by omega), List.all_cons] at h
    cases f with
    | true =>
      rw [if_pos rfl, if_pos (by omega)]
      exact ih (isT p[i]) (i + 1) (by omega) (by omega) (fun k hk => by have := h k hk; rwa [Bool.true_and] at this) k (by omega)
    | false =>
      rw [if_neg (by decide)]
      exact ih false (i + 1) (by omega) (by omega) (fun k hk => by have := h k hk; rw [Bool.false_and] at this ⊢; exact this) k (by omega)
theorem lims {x2 x3 t y : List Int} (h : x2.length + x3.length ≤ 1048576) (ht : t.length ≤ 4194304) (hy : y.length ≤ 100) :
    ([] : List Int).length + x2.length < 140737488355328 ∧ ([] ++ x2 : List Int).length + t.length < 140737488355328 ∧ ([] ++ x2 ++ t : List Int).length + y.length < 140737488355328 ∧ ([] ++ x2 ++ t ++ y : List Int).length + x3.length < 140737488355328 := by
  simp only [List.length_append, List.length_nil]
  omega
theorem lA4 (a b c d : List Int) : (a ++ b ++ c ++ d).length = a.length + b.length + c.length + d.length := by simp only [List.length_append]
theorem w1_ {x2 F : List Int} (h : x2.length ≤ 1048576) (hF : F.length ≤ 4194304) : wrap64 ((x2.length : Int) + (F.length : Int)) = (x2.length : Int) + (F.length : Int) := w64 (by omega) (by omega)
theorem w2_ {x2 F L : List Int} (h : x2.length ≤ 1048576) (hF : F.length ≤ 4194304) (hL : L.length ≤ 100) : wrap64 ((x2.length : Int) + (F.length : Int) + (L.length : Int)) = (x2.length : Int) + (F.length : Int) + (L.length : Int) := w64 (by omega) (by omega)
theorem end_gen {p r x2 x3 F L : List Int} {a b : Int} {c : Bool} (hlen : p.length + r.length + x2.length + x3.length ≤ 1048576) (hF : F.length ≤ 4194304) (hL : L.length ≤ 100) (bA : Bytes (x2 ++ F ++ L ++ x3))
    (h1 : Ev (fun k => types_Put.f k p r) F) (h2 : Ev (fun k => types_PutLimits.f k a b c) L) (eF : Fs (x2 ++ F ++ L ++ x3) x2.length = (p, r, (x2.length : Int) + (F.length : Int), 0)) (eL : Lm (x2 ++ F ++ L ++ x3) ((x2.length : Int) + (F.length : Int)) = (a, b, c, (x2.length : Int) + (F.length : Int) + (L.length : Int), 0)) :
    Ev (fun k => jacquardlaw09_TypesBack.l1 k x2 x3 true r.length p r a b c) true := by
  have w1 := w1_ (F := F) (x2 := x2) (by omega) hF
  have w2 := w2_ (F := F) (x2 := x2) (L := L) (by omega) hF hL
  obtain ⟨K7, h7⟩ := works_ev
  have lA := lA4 x2 F L x3
  obtain ⟨K1, h1⟩ := h1
  obtain ⟨K2, h2⟩ := h2
  obtain ⟨K3, h3⟩ := func_ev bA (by omega) (a := x2.length) (by omega)
  obtain ⟨K4, h4⟩ := limits_ev bA (by omega) ((x2.length : Int) + (F.length : Int))
  obtain ⟨K5, h5⟩ := funcSame_ev (x := p) (y := r) (x' := p) (y' := r) (by omega) (by omega)
  refine ⟨K1 + K2 + K3 + K4 + K5 + K7 + 1, fun k hk => ?_⟩
  obtain ⟨k, rfl⟩ : ∃ m, k = m + 1 := ⟨k - 1, by omega⟩
  have e1 : types_Put.f k p r = some _ := h1 _ (by omega)
  have e2 : types_PutLimits.f k a b c = some _ := h2 _ (by omega)
  have e3 : types_Func.f k (x2 ++ F ++ L ++ x3) x2.length = some _ := h3 _ (by omega)
  have e4 : types_Limits.f k (x2 ++ F ++ L ++ x3) ((x2.length : Int) + (F.length : Int)) = some _ := h4 _ (by omega)
  have e5 : jacquardref00_Func.f k p r p r = some _ := h5 _ (by omega)
  have e7 : jacquardlaw09_works.f k = some true := h7 _ (by omega)
  rw [eF] at e3
  rw [eL] at e4
  obtain ⟨m0, m1, m2, m3⟩ := lims (x2 := x2) (x3 := x3) (t := F) (y := L) (by omega) hF hL
  show jacquardlaw09_TypesBack.l1 (k + 1) x2 x3 true r.length p r a b c = _
  rw [jacquardlaw09_TypesBack.l1, if_neg (Int.lt_irrefl _), if_pos rfl, if_pos m0, Option.bind_some, e1, Option.bind_some, if_pos m1, Option.bind_some, e2, Option.bind_some, if_pos m2, Option.bind_some, if_pos m3, Option.bind_some, List.nil_append]
  rw [e3]
  simp only [Option.bind_some]
  rw [e4]
  simp only [Option.bind_some, if_true, e5, decide_true, Bool.and_self, beq_self_eq_true, w1, w2, e7]
theorem PfL (p r : List Int) (h : p.length + r.length ≤ 1048576) : (Pf p r).length ≤ 4194304 := by
  have x1 := Pf_len p r
  have y2 := Pk_len p
  have y3 := Pk_len r
  generalize (Pf p r).length = u at *
  generalize (Pk p).length = v at *
  generalize (Pk r).length = z at *
  omega
theorem end_ev {p r x2 x3 : List Int} {a b : Int} {c f : Bool} (hlen : p.length + r.length + x2.length + x3.length ≤ 1048576) (bp : Bytes p) (br : Bytes r) (b2 : Bytes x2) (b3 : Bytes x3) (ha : 0 ≤ a ∧ a ≤ 4294967295) (hb : 0 ≤ b ∧ b ≤ 4294967295)
    (hc : f = true → (c = true ∨ b = 0) ∧ p.all isT = true ∧ r.all isT = true) : Ev (fun k => jacquardlaw09_TypesBack.l1 k x2 x3 f r.length p r a b c) true := by
  cases f with
  | false =>
    obtain ⟨K7, h7⟩ := works_ev
    refine ⟨K7 + 1, fun k hk => ?_⟩
    obtain ⟨k, rfl⟩ : ∃ m, k = m + 1 := ⟨k - 1, by omega⟩
    have e7 : jacquardlaw09_works.f k = some true := h7 _ (by omega)
    show jacquardlaw09_TypesBack.l1 (k + 1) x2 x3 false r.length p r a b c = _
    rw [jacquardlaw09_TypesBack.l1, if_neg (Int.lt_irrefl _), if_neg (by decide), e7]
    rfl
  | true =>
    obtain ⟨hc, tp, tr⟩ := hc rfl
    have hp : p.length ≤ 1048576 := by omega
    have hr : r.length ≤ 1048576 := by omega
    have eF := Fs_put hp hr tp tr x2 (Pl a b c ++ x3)
    rw [← List.append_assoc] at eF
    have eL := Lm_put ha hb hc (x2 ++ Pf p r) x3 (n := (x2.length : Int) + ((Pf p r).length : Int)) (by rw [List.length_append, Int.natCast_add])
    exact end_gen hlen (PfL p r (by omega)) (Nat.le_trans (Pl_len a b c).2 (by decide)) (bytes_app (bytes_app (bytes_app b2 (Pf_bytes hp hr bp br)) (Pl_bytes c ha hb)) b3) (Put_ev hp hr) (PutLimits_ev c ha hb) eF eL
theorem TypesBackUpto : Stm.TypesBackUpto := by
  intro A0 c0 p A1 c1 r a b c A2 c2 x2 A3 c3 x3 w r0 q0 _ bp r1 q1 _ br ha hb r2 q2 _ b2 r3 q3 _ b3 hlen
  have ha := u32_wf ha
  have hb := u32_wf hb
  have bp := bytes_wf bp
  have br := bytes_wf br
  have b2 := bytes_wf b2
  have b3 := bytes_wf b3
  obtain ⟨f, hf⟩ : ∃ f : Bool, f = (c || (b == 0)) := ⟨_, rfl⟩
  obtain ⟨K, hK⟩ := end_ev (p := p) (r := r) (x2 := x2) (x3 := x3) (a := a) (b := b) (c := c) (f := f && p.all isT && r.all isT) hlen bp br b2 b3 ha hb (fun h => by
    simp only [Bool.and_eq_true] at h
    refine ⟨?_, h.1.2, h.2⟩
    have := h.1.1
    rw [hf] at this
    simpa using this)
  have s1 := l1_loop x2 x3 p r a b c (by omega) (K := K) (r.length - 0) (f && p.all isT) 0 rfl (by omega) (fun k hk => by rw [List.drop_zero]; exact hK k hk)
  have s0 := l0_loop x2 x3 p r a b c (by omega) (K := K + (r.length - 0)) (p.length - 0) f 0 rfl (by omega) (fun k hk => by rw [List.drop_zero]; exact s1 k hk)
  obtain ⟨k, hk⟩ : ∃ k, k = K + (r.length - 0) + (p.length - 0) + 1 := ⟨_, rfl⟩
  have s := s0 k (by omega)
  have h : jacquardlaw09_TypesBack.f (k + 1) p r a b c x2 x3 = some true := by
    unfold jacquardlaw09_TypesBack.f
    cases c with
    | true =>
      rw [if_pos rfl, jacquardlaw09_TypesBack.j0]
      rw [hf, Bool.true_or] at s
      exact s
    | false =>
      rw [if_neg (by decide), jacquardlaw09_TypesBack.j0]
      rw [hf, Bool.false_or] at s
      exact s
  refine (jacquardlaw09_TypesBack.calls (k + 1) _ _ p _ _ r a b c _ _ x2 _ _ x3 w r0 q0 r1 q1 r2 q2 r3 q3 h).mono ?_
  rintro e w' ⟨rfl, hd⟩
  exact ⟨rfl, hd⟩
end Go.Proofs.Ythillgpbenjldaa.Wlk
