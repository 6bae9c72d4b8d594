import Derived.Test.YtobldeamemmokaaDoorPx0
import Derived.Test.YtobldeamemmokaaDoorTabs
import Derived.Test.YtobldeamemmokaaDoorShelf
/-! The contracts of strings.Fields, Count, Split and Cut, as the printed texts want them, out of the shelf's. -/
namespace Go.Proofs.YtobldeamemmokaaDoor.P
open Go.Proofs.YtobldeamemmokaaDoorTabs
open Go.RowKit Go.Proofs.YtobldeamemmokaaDoorW.PrintWords Go.Proofs.YtobldeamemmokaaDoorW.PrintLast Go.Proofs.YtobldeamemmokaaDoorW.PrintMore
set_option linter.unusedVariables false
set_option linter.unusedSimpArgs false
def asciiB (s : ByteArray) : Bool := s.data.toList.all fun b => decide (b.toNat < 128)
theorem asciiB_at {s : ByteArray} (h : asciiB s = true) : ∀ (j : Nat) b, s.data.toList[j]? = some b → b.toNat < 128 := by
  intro j b hj
  exact of_decide_eq_true (List.all_eq_true.1 h b (List.mem_of_getElem? hj))
theorem R_strings {w : World} {l : List ByteArray} (hl : l.length ≤ 9223372036854775807) : Kd.R Kd.string 9 (w.alloc (.cells (l.map Value.string).toArray 9)) w.heap.size (fun _ => True) (.slice (some ⟨w.heap.size, 0, none⟩) l.length l.length) l := by
  have h := World.ownsRow_lit (base := w.heap.size) (e := 9) (size := 1) w (l.map Value.string).toArray l.length (Nat.le_refl _) (by simpa [maxLen] using hl) (by simp)
  exact Kd.R_of_own (by simpa [encs] using h) (fun _ _ => trivial)
def fieldsL (s : ByteArray) : List ByteArray := (Lib.fields s.data.toList).map fun l => ⟨l.toArray⟩
def strings_Fields.f (s : ByteArray) : Option (List ByteArray) := if s.size < 4294967281 ∧ asciiB s = true ∧ (fieldsL s).length ≤ 9223372036854775807 then some (fieldsL s) else none
theorem strings_Fields.calls (a0 : ByteArray) (r : List ByteArray) (w : World) (hT : Tab w) (h : strings_Fields.f a0 = some r) :
    Calls Tryd.prog 89 #[.string a0] w fun e w' => ∃ v0_ : Value, e = .returned (v0_) ∧ Kd.R Kd.string 9 w' w.heap.size (fun _ => True) v0_ r ∧ Below w.heap.size w w' := by
  unfold strings_Fields.f at h
  split at h
  · rename_i hc
    obtain rfl := Option.some.inj h
    refine (Sh.Tryd.strings_Fields a0 w hc.1 (asciiB_at hc.2.1) hT.aS).mono ?_
    rintro e w' ⟨rfl, rfl⟩
    have e1 : ((Lib.fields a0.data.toList).map fun l => Value.string ⟨l.toArray⟩) = (fieldsL a0).map Value.string := by simp [fieldsL, List.map_map, Function.comp_def]
    have e2 : (Lib.fields a0.data.toList).length = (fieldsL a0).length := by simp [fieldsL]
    rw [e1, e2]
    exact ⟨_, rfl, R_strings hc.2.2, below_alloc (Below.refl _ _) _⟩
  · cases h
def strings_Count.f (s sub : ByteArray) : Option Int := match sub.data.toList with | [c] => some ((Lib.countByte s.data.toList c : Nat) : Int) | _ => none
theorem strings_Count.calls (a0 a1 : ByteArray) (r : Int) (w : World) (h : strings_Count.f a0 a1 = some r) :
    Calls Tryd.prog 84 #[.string a0, .string a1] w fun e w' => e = .returned (.int .i64 r) ∧ Drawn0 w w' := by
  unfold strings_Count.f at h
  split at h
  · rename_i c hc
    obtain rfl := Option.some.inj h
    have e : a1 = ⟨#[c]⟩ := by
      obtain ⟨⟨l⟩⟩ := a1
      have : l = [c] := hc
      subst this
      rfl
    rw [e]
    refine (Sh.Tryd.strings_Count_one a0 c w).mono ?_
    rintro e w' ⟨rfl, rfl⟩
    exact ⟨rfl, Drawn0.refl _⟩
  · cases h
def splA (c : UInt8) : List UInt8 → List UInt8 → List (List UInt8)
  | cur, [] => [cur]
  | cur, b :: l => if b == c then cur :: splA c [] l else splA c (cur ++ [b]) l
theorem splA_miss (c : UInt8) : ∀ (l cur : List UInt8), (∀ x ∈ l, x ≠ c) → splA c cur l = [cur ++ l]
  | [], cur, _ => by simp [splA]
  | b :: l, cur, h => by
    have hb : (b == c) = false := beq_eq_false_iff_ne.2 (h b (by simp))
    rw [splA, hb, if_neg (by decide), splA_miss c l _ (fun x hx => h x (by simp [hx]))]
    simp
theorem splA_hit (c : UInt8) (r : List UInt8) : ∀ (a cur : List UInt8), (∀ x ∈ a, x ≠ c) → splA c cur (a ++ c :: r) = (cur ++ a) :: splA c [] r
  | [], cur, _ => by simp [splA]
  | b :: a, cur, h => by
    have hb : (b == c) = false := beq_eq_false_iff_ne.2 (h b (by simp))
    rw [List.cons_append, splA, hb, if_neg (by decide), splA_hit c r a _ (fun x hx => h x (by simp [hx]))]
    simp
theorem splA_splitK (c : UInt8) : ∀ (n : Nat) (l : List UInt8), l.length ≤ n → Lib.splitK [c] 0 (Lib.count l [c]) l = splA c [] l ∧ (splA c [] l).length = Lib.count l [c] + 1 := by
  intro n
  induction n with
  | zero =>
    intro l hl
    obtain rfl : l = [] := List.eq_nil_of_length_eq_zero (by omega)
    have hi : Lib.index [] [c] = -1 := rfl
    rw [Lib.count_miss hi]
    exact ⟨rfl, rfl⟩
  | succ n ih =>
    intro l hl
    rcases Int.lt_or_le (Lib.index l [c]) 0 with hneg | hpos
    · have hi : Lib.index l [c] = -1 := by have := Lib.indexByte_ge l c; rw [← Lib.index_one] at this; omega
      have hno : ∀ x ∈ l, x ≠ c := fun x hx e => by
        obtain ⟨k, hk⟩ := List.getElem?_of_mem hx
        exact Lib.indexByte_none (l := l) (c := c) (by rw [← Lib.index_one]; exact hi) k (by rw [hk, e])
      rw [Lib.count_miss hi, splA_miss c l [] hno]
      exact ⟨rfl, rfl⟩
    · obtain ⟨i, hi⟩ := Int.eq_ofNat_of_zero_le hpos
      obtain ⟨h1, h2⟩ := Lib.indexByte_some (l := l) (c := c) (o := i) (by rw [← Lib.index_one]; exact hi)
      have hil : i < l.length := (List.getElem?_eq_some_iff.1 h1).1
      have hl' : l = l.take i ++ c :: l.drop (i + 1) := by
        have e : l[i] = c := (List.getElem?_eq_some_iff.1 h1).2
        rw [← e, List.getElem_cons_drop, List.take_append_drop]
      have hno : ∀ x ∈ l.take i, x ≠ c := fun x hx e => by
        obtain ⟨k, hk⟩ := List.getElem?_of_mem hx
        have hk' : k < i := by have := (List.getElem?_eq_some_iff.1 hk).1; simp at this; omega
        rw [List.getElem?_take_of_lt hk'] at hk
        exact h2 k hk' (by rw [hk, e])
      obtain ⟨a1, a2⟩ := ih (l.drop (i + 1)) (by simp; omega)
      have hc : Lib.count l [c] = Lib.count (l.drop (i + 1)) [c] + 1 := by
        have := Lib.count_hit (s := l) (sub := [c]) (i := i) (by simp) hi
        simpa [Nat.add_comm] using this
      have e2 : splA c [] l = l.take i :: splA c [] (l.drop (i + 1)) := by
        conv => lhs; rw [hl']
        rw [splA_hit c _ _ _ hno]; simp
      rw [hc, e2]
      have hm : ¬ (Lib.index l [c] == -1) = true := fun e => by have := beq_iff_eq.1 e; omega
      refine ⟨?_, by simp [a2]⟩
      rw [Lib.splitK, if_neg hm, hi]
      simp only [Int.toNat_natCast, Nat.add_zero, List.length_cons, List.length_nil, Nat.zero_add]
      rw [a1]
def splitL (s : ByteArray) (c : UInt8) : List ByteArray := (splA c [] s.data.toList).map fun l => ⟨l.toArray⟩
theorem splitL_eq (s sep : ByteArray) (c : UInt8) (hs : sep.data.toList = [c]) : Lib.splitB sep 0 (Lib.countB s sep) s = splitL s c ∧ (splitL s c).length = Lib.countB s sep + 1 := by
  obtain ⟨h1, h2⟩ := splA_splitK c s.data.toList.length s.data.toList (Nat.le_refl _)
  have h3 := Lib.splitB_data sep 0 (Lib.countB s sep) s
  unfold Lib.countB at h3 ⊢
  rw [hs] at h3 ⊢
  rw [h1] at h3
  refine ⟨?_, by simp [splitL, h2]⟩
  unfold splitL
  rw [← h3]
  simp [List.map_map, Function.comp_def]
def strings_Split.f (s sep : ByteArray) : Option (List ByteArray) := match sep.data.toList with | [c] => if s.size < 4294967281 ∧ (splitL s c).length ≤ 9223372036854775807 then some (splitL s c) else none | _ => none
theorem strings_Split.calls (a0 a1 : ByteArray) (r : List ByteArray) (w : World) (hT : Tab w) (h : strings_Split.f a0 a1 = some r) :
    Calls Tryd.prog 85 #[.string a0, .string a1] w fun e w' => ∃ v0_ : Value, e = .returned (v0_) ∧ Kd.R Kd.string 9 w' w.heap.size (fun _ => True) v0_ r ∧ Below w.heap.size w w' := by
  unfold strings_Split.f at h
  split at h
  · rename_i c hs
    split at h
    · rename_i hc
      obtain rfl := Option.some.inj h
      obtain ⟨m, hm⟩ := hT.mL
      obtain ⟨e1, e2⟩ := splitL_eq a0 a1 c hs
      have h1 : 1 ≤ a1.size := by
        have h2 : a1.data.toList.length = 1 := by rw [hs]; rfl
        have h3 : a1.size = 1 := by rw [Array.length_toList] at h2; exact h2
        omega
      refine (Sh.Tryd.strings_Split a0 a1 m w hc.1 hm h1).mono ?_
      rintro e w' ⟨rfl, rfl⟩
      rw [e1, ← e2]
      exact ⟨_, rfl, R_strings hc.2, below_alloc (Below.refl _ _) _⟩
    · cases h
  · cases h
def strings_Cut.f (s sep : ByteArray) : Option (ByteArray × ByteArray × Bool) := if s.size < 4294967281 then some (⟨(Lib.cut s.data.toList sep.data.toList).1.toArray⟩, ⟨(Lib.cut s.data.toList sep.data.toList).2.1.toArray⟩, (Lib.cut s.data.toList sep.data.toList).2.2) else none
theorem strings_Cut.calls (a0 a1 : ByteArray) (r1 r2 : ByteArray) (r3 : Bool) (w : World) (hT : Tab w) (h : strings_Cut.f a0 a1 = some (r1, r2, r3)) :
    Calls Tryd.prog 61 #[.string a0, .string a1] w fun e w' => e = .returned (.tuple #[.string r1, .string r2, .bool r3]) ∧ Drawn0 w w' := by
  unfold strings_Cut.f at h
  split at h
  · rename_i hc
    obtain ⟨m, hm⟩ := hT.mL
    simp only [Option.some.injEq, Prod.mk.injEq] at h
    obtain ⟨rfl, rfl, rfl⟩ := h
    refine (Sh.Tryd.strings_Cut a0 a1 m w hc hm).mono ?_
    rintro e w' ⟨rfl, n, rfl⟩
    exact ⟨rfl, ⟨n, rfl⟩⟩
  · cases h
end Go.Proofs.YtobldeamemmokaaDoor.P

