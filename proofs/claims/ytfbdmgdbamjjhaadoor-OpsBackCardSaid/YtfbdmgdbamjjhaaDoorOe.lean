import Derived.Test.YtfbdmgdbamjjhaaDoorOc
import Derived.Test.YtfbdmgdbamjjhaaDoorGAll
/-! All numbers, rising, and their names. -/
namespace Go.Proofs.YtfbdmgdbamjjhaaDoor.Ops
open Go Go.Proofs Go.RowKit Go.Proofs.YtfbdmgdbamjjhaaDoor.P Go.Proofs.YtfbdmgdbamjjhaaDoorW.PrintWords
set_option maxRecDepth 100000
def allN : List Nat := (List.range 256 ++ (List.range 256).map (· + 64512) ++ (List.range 256).map (· + 64768)).filter fun o => (tbl o).isSome
def allI : List Int := allN.map fun n : Nat => (n : Int)
theorem All_at : ops_All.f 1500 = some allI := by decide +kernel
theorem All_k (k : Nat) (hk : 1500 ≤ k) : ops_All.f k = some allI := up ops_All.mono All_at k hk
theorem allN_len : allN.length = 435 := by decide +kernel
theorem allI_len : allI.length = 435 := by unfold allI; rw [List.length_map]; exact allN_len
theorem mem_allN (o : Nat) : o ∈ allN ↔ (tbl o).isSome = true := by
  unfold allN
  rw [List.mem_filter]
  constructor
  · exact fun h => h.2
  · intro h
    refine ⟨?_, h⟩
    obtain ⟨r, hr⟩ := Option.isSome_iff_exists.1 h
    have h1 := tbl_some hr
    simp only [List.mem_append, List.mem_map, List.mem_range]
    rcases h1 with h1 | h1 | h1
    · exact Or.inl (Or.inl h1)
    · exact Or.inl (Or.inr ⟨o - 64512, by omega, by omega⟩)
    · exact Or.inr ⟨o - 64768, by omega, by omega⟩
theorem allN_lt {o : Nat} (h : o ∈ allN) : o < 65536 := by
  obtain ⟨r, hr⟩ := Option.isSome_iff_exists.1 ((mem_allN o).1 h)
  have h1 := tbl_some hr
  omega
theorem getD_mem {l : List Nat} {i : Nat} (h : i < l.length) : l.getD i 0 ∈ l := by
  rw [List.getD_eq_getElem?_getD, List.getElem?_eq_getElem h, Option.getD_some]
  exact List.getElem_mem h
theorem rd_all (i : Nat) (hi : i < 435) : rd allI (i : Int) = ((allN.getD i 0 : Nat) : Int) := by
  unfold rd allI
  rw [Int.toNat_natCast]
  rw [List.getD_eq_getElem?_getD, List.getD_eq_getElem?_getD, List.getElem?_map, List.getElem?_eq_getElem (by rw [allN_len]; exact hi)]
  rfl
theorem rises : (List.range 434).all (fun i => decide (allN.getD i 0 < allN.getD (i + 1) 0)) = true := by decide +kernel
def nm (o : Nat) : ByteArray := match tbl o with | some r => r.1 | none => ⟨#[]⟩
def code (s : ByteArray) : Nat := s.data.toList.foldl (fun a b => a * 256 + b.toNat) 1
def distinct : List Nat → Bool
  | [] => true
  | a :: l => l.all (fun b => !(Nat.beq a b)) && distinct l
theorem codes : distinct (allN.map fun o => code (nm o)) = true := by decide +kernel
theorem distinct_inj (f : Nat → Nat) : ∀ l : List Nat, distinct (l.map f) = true → ∀ x ∈ l, ∀ y ∈ l, f x = f y → x = y
  | [], _ => fun _ h => by cases h
  | a :: l, h => by
    have h' : ((l.map f).all (fun b => !(Nat.beq (f a) b)) && distinct (l.map f)) = true := h
    obtain ⟨h1, h2⟩ := Bool.and_eq_true_iff.1 h'
    have h3 : ∀ y ∈ l, f a ≠ f y := fun y hy e => by
      have h4 := List.all_eq_true.1 h1 (f y) (List.mem_map_of_mem hy)
      rw [e] at h4
      have h5 : Nat.beq (f y) (f y) = true := Nat.beq_refl _
      rw [h5] at h4
      cases h4
    intro x hx y hy e
    rcases List.mem_cons.1 hx with e1 | hx1
    · rcases List.mem_cons.1 hy with e2 | hy1
      · exact e1.trans e2.symm
      · exact absurd (e1 ▸ e) (h3 y hy1)
    · rcases List.mem_cons.1 hy with e2 | hy1
      · exact absurd (e2 ▸ e.symm) (h3 x hx1)
      · exact distinct_inj f l h2 x hx1 y hy1 e
theorem nm_inj {x y : Nat} (hx : x ∈ allN) (hy : y ∈ allN) (h : nm x = nm y) : x = y := distinct_inj _ allN codes x hx y hy (congrArg code h)
theorem nm_ne : allN.all (fun o => !(nm o).data.toList.isEmpty) = true := by decide +kernel
theorem tl_inj {a b : ByteArray} (h : a.toList = b.toList) : a = b := by
  rw [ByteArray.toList_eq, ByteArray.toList_eq] at h
  cases a; cases b
  exact congrArg _ (Array.toList_inj.1 h)
theorem bind_inv {α β : Type} {x : Option α} {f : α → Option β} {b : β} (h : x.bind f = some b) : ∃ a, x = some a ∧ f a = some b := by
  cases x with
  | none => cases h
  | some a => exact ⟨a, rfl, h⟩
theorem look_at {o : Nat} (ho : o ∈ allN) (k : Nat) (hk : 400 ≤ k) : ∃ bt, ops_look.f k (o : Int) = some bt ∧ bt.1 = nm o := by
  have h := Of_k o (allN_lt ho) k hk
  obtain ⟨r, hr⟩ := Option.isSome_iff_exists.1 ((mem_allN o).1 ho)
  have hn : nm o = r.1 := by unfold nm; rw [hr]
  rw [hn]
  rw [hr] at h
  obtain ⟨n, m, f, t, b, p⟩ := r
  unfold ops_Of.f at h
  obtain ⟨bt, h1, h2⟩ := bind_inv h
  refine ⟨bt, h1, ?_⟩
  by_cases hb : bt.2.2.2.2.2 = true
  · rw [if_pos hb] at h2
    obtain ⟨_, _, h2⟩ := bind_inv h2
    obtain ⟨_, _, h2⟩ := bind_inv h2
    obtain ⟨_, _, h2⟩ := bind_inv h2
    exact congrArg (fun a : Ans => a.2.1) (Option.some.inj h2)
  · rw [if_neg hb] at h2
    have h3 := congrArg (fun a : Ans => a.2.2.2.2.2.2.2) (Option.some.inj h2)
    exact absurd (show (11 : Int) = 0 from h3) (by decide)
theorem next {i n : Nat} (h : i + (n + 1) = 435) : wrap64 ((i : Int) + 1) = ((i + 1 : Nat) : Int) := by rw [w64 (by omega) (by omega)]; omega
end Go.Proofs.YtfbdmgdbamjjhaaDoor.Ops
