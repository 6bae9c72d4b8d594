/- Letters are put: the program's and the document's bytes. -/
import Derived.Test.YtcnmpciohpcpiaaDoorUg
import Derived.Test.YtcnmpciohpcpiaaDoorPx6
namespace Go.Proofs.YtcnmpciohpcpiaaDoor.LebM
set_option linter.unusedVariables false
set_option linter.unusedSimpArgs false
open Go.RowKit Go.Proofs.YtcnmpciohpcpiaaDoorW.PrintWords Go.Proofs.YtcnmpciohpcpiaaDoorW.PrintLast Go.Proofs.YtcnmpciohpcpiaaDoorW.PrintMore Go.Proofs.YtcnmpciohpcpiaaDoor.P
def I32 (l : List Int) : Prop := ∀ x ∈ l, -2147483648 ≤ x ∧ x ≤ 2147483647
theorem i32_wf {l : List Int} (h : ∀ x ∈ l, (Lit.int .i32 x).wf = true) : I32 l := by
  intro x hx
  have := h x hx
  simp [Lit.wf, IntKind.min, IntKind.max] at this
  simp [IntKind.bits, IntKind.signed] at this
  omega
theorem validRune_eq (k : Nat) (n : Int) : utf8_ValidRune.f (k + 1) n = some (decide (let_ n)) := by
  unfold utf8_ValidRune.f
  simp only [utf8_ValidRune.j0]
  by_cases h : let_ n
  · rw [decide_eq_true h]
    unfold let_ at h
    rw [if_pos (by omega)]
    by_cases c : n < 55296
    · rw [decide_eq_true c]; rfl
    · rw [decide_eq_false c, if_neg (by decide), if_pos (by omega), if_pos (by omega)]
  · rw [decide_eq_false h]
    unfold let_ at h
    by_cases c0 : 0 ≤ n
    · rw [if_pos c0, decide_eq_false (by omega), if_neg (by decide)]
      by_cases c1 : 57343 < n
      · rw [if_pos c1, if_neg (by omega)]
      · rw [if_neg c1]
    · rw [if_neg c0, if_neg (by decide), if_neg (by omega)]
theorem or192 {x : Int} (h0 : 0 ≤ x) (h1 : x < 32) : Go.bits .or .u8 192 x = 192 + x := by
  obtain ⟨n, rfl⟩ := Int.eq_ofNat_of_zero_le h0
  have : ∀ m : Fin 32, Go.bits .or .u8 192 (m.val : Int) = 192 + (m.val : Int) := by decide +kernel
  exact this ⟨n, by omega⟩
theorem or224 {x : Int} (h0 : 0 ≤ x) (h1 : x < 16) : Go.bits .or .u8 224 x = 224 + x := by
  obtain ⟨n, rfl⟩ := Int.eq_ofNat_of_zero_le h0
  have : ∀ m : Fin 16, Go.bits .or .u8 224 (m.val : Int) = 224 + (m.val : Int) := by decide +kernel
  exact this ⟨n, by omega⟩
theorem or240 {x : Int} (h0 : 0 ≤ x) (h1 : x < 8) : Go.bits .or .u8 240 x = 240 + x := by
  obtain ⟨n, rfl⟩ := Int.eq_ofNat_of_zero_le h0
  have : ∀ m : Fin 8, Go.bits .or .u8 240 (m.val : Int) = 240 + (m.val : Int) := by decide +kernel
  exact this ⟨n, by omega⟩
theorem append_eq (k : Nat) (out : List Int) (ho : out.length < 140737488355324) {n : Int} (h : let_ n) : utf8_AppendRune.f (k + 1) out n = some (out ++ enc n) := by
  unfold let_ at h
  have e : n % 4294967296 = n := by omega
  unfold utf8_AppendRune.f
  rw [e]
  by_cases c1 : n ≤ 127
  · rw [if_pos c1, if_pos (by omega)]
    have : n % 256 = n := by omega
    rw [this]
    unfold enc
    rw [if_pos (by omega)]
  rw [if_neg c1]
  unfold utf8_appendRuneNonASCII.f
  rw [e]
  unfold enc
  rw [if_neg (c := n < 128) (by omega)]
  by_cases c2 : n ≤ 2047
  · rw [if_pos c2, if_pos (c := n < 2048) (by omega), or192 (by omega) (by omega)]
    simp only [Option.bind_some, List.length_cons, List.length_nil]
    rw [if_pos (by omega), Option.bind_some]
    have : n / 64 % 256 = n / 64 := by omega
    rw [this]
  rw [if_neg c2, if_neg (c := n < 2048) (by omega)]
  have tail : utf8_appendRuneNonASCII.j0 (k + 1) out n n true = some (out ++ [224 + n / 4096, 128 + n / 64 % 64, 128 + n % 64]) ∨ 65536 ≤ n := by
    by_cases c : 65536 ≤ n
    · exact .inr c
    · left
      simp only [utf8_appendRuneNonASCII.j0, if_true, Option.bind_some, List.length_cons, List.length_nil]
      rw [if_pos (by omega), or224 (by omega) (by omega)]
      have : n / 4096 % 256 = n / 4096 := by omega
      rw [this]
  by_cases c3 : n < 55296
  · rw [if_pos c3, decide_eq_true c3, if_pos (c := n < 65536) (by omega)]
    rcases tail with q | q
    · rw [q]; rfl
    · omega
  rw [if_neg c3, if_pos (c := 57343 < n) (by omega)]
  by_cases c4 : n ≤ 65535
  · rw [decide_eq_true c4, if_pos (c := n < 65536) (by omega)]
    rcases tail with q | q
    · rw [q]; rfl
    · omega
  · rw [decide_eq_false c4, if_neg (c := n < 65536) (by omega)]
    simp only [utf8_appendRuneNonASCII.j0, Bool.false_eq_true, if_false, Option.bind_some, List.length_cons, List.length_nil]
    rw [if_pos (by omega), if_pos (by omega), if_pos (by omega), or240 (by omega) (by omega), Option.bind_some]
    have : n / 262144 % 256 = n / 262144 := by omega
    rw [this]
theorem enc_len4 (n : Int) : (enc n).length ≤ 4 := by
  have := enc_length n
  repeat' split at this
  all_goals omega
/-- the bytes of letters, or the error -/
def Pt : List Int → Option (List Int)
  | [] => some []
  | n :: l => if let_ n then (Pt l).map (enc n ++ ·) else none
def Pa (l : List Int) : List Int × Int := match Pt l with | some o => (o, 0) | none => ([], 2)
theorem Pt_length : ∀ {l o : List Int}, Pt l = some o → o.length ≤ 4 * l.length
  | [], o, h => by cases h; simp
  | n :: l, o, h => by
    simp only [Pt] at h
    split at h
    · obtain ⟨o', h', rfl⟩ := Option.map_eq_some_iff.1 h
      have := Pt_length h'
      have := enc_len4 n
      simp only [List.length_append, List.length_cons]
      omega
    · cases h
theorem rd_at {l : List Int} {i : Nat} (h : i < l.length) : l.drop i = rd l (i : Int) :: l.drop (i + 1) := by
  rw [List.drop_eq_getElem_cons h, rd_get h]
theorem put_loop {l : List Int} (hl : l.length ≤ 35184372087808) (d : Nat) :
    ∀ (k i : Nat) (out : List Int), l.length - i = d → i ≤ l.length → d + 3 ≤ k → out.length ≤ 4 * i →
      name_Put.l0 k out l (l.length : Int) (i : Int) = some (match Pt (l.drop i) with | some o => (out ++ o, 0) | none => ([], 2)) := by
  induction d with
  | zero =>
    intro k i out h0 h1 hk ho
    obtain ⟨k, rfl⟩ : ∃ m, k = m + 1 := ⟨k - 1, by omega⟩
    simp only [name_Put.l0]
    rw [if_neg (by omega), List.drop_eq_nil_of_le (by omega)]
    simp [Pt]
  | succ d ih =>
    intro k i out h0 h1 hk ho
    obtain ⟨k, rfl⟩ : ∃ m, k = m + 2 := ⟨k - 2, by omega⟩
    rw [name_Put.l0]
    rw [if_pos (by omega), if_pos (by omega), if_pos (by omega), validRune_eq, Option.bind_some, rd_at (show i < l.length by omega)]
    simp only [Pt]
    by_cases h : let_ (rd l (i : Int))
    · rw [if_pos (by simpa using h), append_eq k out (by omega) h, Option.bind_some, w64 (by omega) (by omega), if_pos h]
      have e4 := enc_len4 (rd l (i : Int))
      have := ih (k + 1) (i + 1) (out ++ enc (rd l (i : Int))) (by omega) (by omega) (by omega) (by simp; omega)
      rw [show ((i + 1 : Nat) : Int) = (i : Int) + 1 from rfl] at this
      rw [this]
      congr 1
      cases Pt (l.drop (i + 1)) with
      | none => rfl
      | some o => simp
    · rw [if_neg (by simpa using h), if_neg h]
theorem Put_ev {l : List Int} (hl : l.length ≤ 35184372087808) : Ev (fun k => name_Put.f k l) (Pa l) := by
  refine ⟨l.length + 3, fun k hk => ?_⟩
  show name_Put.f k l = _
  have := put_loop hl (l.length - 0) k 0 [] rfl (by omega) (by omega) (by simp)
  unfold name_Put.f
  rw [show ((0 : Nat) : Int) = 0 from rfl] at this
  rw [this]
  simp [Pa]
theorem rput_loop {l : List Int} (hl : l.length ≤ 35184372087808) (d : Nat) :
    ∀ (k i : Nat) (out : List Int), l.length - i = d → i ≤ l.length → d + 1 ≤ k → out.length ≤ 4 * i →
      jacquardref02_Put.l0 k l out (i : Int) = some (match Pt (l.drop i) with | some o => (out ++ o, 0) | none => ([], 2)) := by
  induction d with
  | zero =>
    intro k i out h0 h1 hk ho
    obtain ⟨k, rfl⟩ : ∃ m, k = m + 1 := ⟨k - 1, by omega⟩
    simp only [jacquardref02_Put.l0]
    rw [if_neg (by omega), List.drop_eq_nil_of_le (by omega)]
    simp [Pt]
  | succ d ih =>
    intro k i out h0 h1 hk ho
    obtain ⟨k, rfl⟩ : ∃ m, k = m + 1 := ⟨k - 1, by omega⟩
    simp only [jacquardref02_Put.l0]
    rw [if_pos (by omega), if_pos (by omega), letter_eq, Option.bind_some, rd_at (show i < l.length by omega)]
    simp only [Pt]
    by_cases h : let_ (rd l (i : Int))
    · have e4 := enc_len4 (rd l (i : Int))
      rw [if_pos (by simpa using h), bytes_eq h.1 h.2.1, Option.bind_some, if_pos (by omega), w64 (by omega) (by omega), if_pos h]
      have := ih k (i + 1) (out ++ enc (rd l (i : Int))) (by omega) (by omega) (by omega) (by simp; omega)
      rw [show ((i + 1 : Nat) : Int) = (i : Int) + 1 from rfl] at this
      rw [this]
      congr 1
      cases Pt (l.drop (i + 1)) with
      | none => rfl
      | some o => simp
    · rw [if_neg (by simpa using h), if_neg h]
theorem refPut_ev {l : List Int} (hl : l.length ≤ 35184372087808) : Ev (fun k => jacquardref02_Put.f k l) (Pa l) := by
  refine ⟨l.length + 1, fun k hk => ?_⟩
  show jacquardref02_Put.f k l = _
  have := rput_loop hl (l.length - 0) k 0 [] rfl (by omega) (by omega) (by simp)
  unfold jacquardref02_Put.f
  rw [show ((0 : Nat) : Int) = 0 from rfl] at this
  rw [this]
  simp [Pa]
theorem same_loop (l : List Int) (hl : l.length ≤ 140737488351232) (d : Nat) : ∀ (k i : Nat), l.length - i = d → i ≤ l.length → d < k → jacquardref00_Same.l0 k l l (i : Int) = some true := by
  induction d with
  | zero =>
    intro k i h0 h1 hk
    obtain ⟨k, rfl⟩ : ∃ m, k = m + 1 := ⟨k - 1, by omega⟩
    simp only [jacquardref00_Same.l0]
    rw [if_neg (by omega)]
  | succ d ih =>
    intro k i h0 h1 hk
    obtain ⟨k, rfl⟩ : ∃ m, k = m + 1 := ⟨k - 1, by omega⟩
    simp only [jacquardref00_Same.l0]
    rw [if_pos (by omega), if_pos (by omega), if_pos (by omega), if_pos trivial, w64 (by omega) (by omega)]
    exact ih k (i + 1) (by omega) (by omega) (by omega)
theorem same_self {l : List Int} (hl : l.length ≤ 140737488351232) : Ev (fun k => jacquardref00_Same.f k l l) true := by
  refine ⟨l.length + 1, fun k hk => ?_⟩
  show jacquardref00_Same.f k l l = _
  unfold jacquardref00_Same.f
  rw [if_pos rfl]
  exact same_loop l hl (l.length - 0) k 0 rfl (by omega) (by omega)
end Go.Proofs.YtcnmpciohpcpiaaDoor.LebM
