-- PRINTED by print.py (a twelfth state) out of the translation. Not trusted: Lean checks it.
import Derived.Test.YtgdpknmffohhaaaPr0
namespace Go.Proofs.Ytgdpknmffohhaaa.Pr
open Go.RowKit Go.Proofs.YtgdpknmffohhaaaW.PrintWords Go.Proofs.YtgdpknmffohhaaaW.PrintLast Go.Proofs.YtgdpknmffohhaaaW.PrintMore
attribute [local go_sem] max2_int min2_int max_two min_two max_three min_three max_four min_four   -- for this text's walks alone
set_option linter.unusedVariables false
set_option linter.unusedSimpArgs false

/-! ### lib_cellset -/
/-- One cell of an owned row: what it holds, and what a store into its bits, its link makes of the row. -/
theorem cell_elem_ {W : World} {B g n cap : Nat} {ok : Nat → Prop} {xs : List S30} (h : Kd.R k30 30 W B ok (.slice (some ⟨g, 0, none⟩) n cap) xs) (k : Nat) (hk : k < xs.length) :
    (W.cell? ⟨g, k * 3, none⟩ = some (.int .i32 (rd_T30 xs (k : Int)).f0) ∧ W.cell? ⟨g, k * 3 + 1, none⟩ = some (.int .i64 (rd_T30 xs (k : Int)).f1) ∧ W.cell? ⟨g, k * 3 + 2, none⟩ = some (.string (rd_T30 xs (k : Int)).f2)) ∧
    (W.frozen? ⟨g, k * 3, none⟩ = false ∧ W.frozen? ⟨g, k * 3 + 1, none⟩ = false ∧ W.frozen? ⟨g, k * 3 + 2, none⟩ = false) ∧
    (∀ b : Int, Kd.R k30 30 (W.setCell ⟨g, k * 3 + 1, none⟩ (.int .i64 b)) B ok (.slice (some ⟨g, 0, none⟩) n cap) (xs.set k ⟨(rd_T30 xs (k : Int)).f0, b, (rd_T30 xs (k : Int)).f2⟩)) ∧
    (∀ b : ByteArray, Kd.R k30 30 (W.setCell ⟨g, k * 3 + 2, none⟩ (.string b)) B ok (.slice (some ⟨g, 0, none⟩) n cap) (xs.set k ⟨(rd_T30 xs (k : Int)).f0, (rd_T30 xs (k : Int)).f1, b⟩)) := by
  have hn : n = xs.length := (Kd.R_reads' h).1
  obtain ⟨ce, hcl, hM, hcc, hfr⟩ := Kd.R_elem h z30 (k : Int) (by omega) (by omega)
  have hce : ce = [.int .i32 (rd_T30 xs (k : Int)).f0, .int .i64 (rd_T30 xs (k : Int)).f1, .string (rd_T30 xs (k : Int)).f2] := k30_openM hM
  subst hce
  refine ⟨⟨hcc 0 _ rfl, hcc 1 _ rfl, hcc 2 _ rfl⟩, ⟨hfr 0, hfr 1, hfr 2⟩, fun b => ?_, fun b => ?_⟩
  · exact (Kd.R_seg h (k : Int) (by omega) (by omega) (seg := [.int .i64 b]) (j := 1) hcl hcc (show 2 ≤ 3 from by decide) (x' := (⟨(rd_T30 xs (k : Int)).f0, b, (rd_T30 xs (k : Int)).f2⟩ : S30)) (k30_mkM _ _ _ _) (fun _ hk => hk)).1
  · exact (Kd.R_seg h (k : Int) (by omega) (by omega) (seg := [.string b]) (j := 2) hcl hcc (show 3 ≤ 3 from by decide) (x' := (⟨(rd_T30 xs (k : Int)).f0, (rd_T30 xs (k : Int)).f1, b⟩ : S30)) (k30_mkM _ _ _ _) (fun _ hk => hk)).1
def spanned_ {α : Type} (l : List α) (a b : Int) : Prop := 0 ≤ a ∧ a ≤ b ∧ b ≤ (l.length : Int)
instance {α : Type} (l : List α) (a b : Int) : Decidable (spanned_ l a b) := by unfold spanned_; infer_instance
/-- f upon the elements from a on, ahead of b. -/
def upon_ {α : Type} (f : α → α) (l : List α) (a b : Nat) : List α := l.take a ++ ((l.take b).drop a).map f ++ l.drop b
theorem upon_at_ {α : Type} (f : α → α) (l : List α) (a b : Nat) (hab : a ≤ b) (hb : b ≤ l.length) (j : Nat) : (upon_ f l a b)[j]? = if a ≤ j ∧ j < b then (l[j]?).map f else l[j]? := by
  unfold upon_
  rw [List.append_assoc, List.getElem?_append, List.getElem?_append]
  simp only [List.length_take, List.length_map, List.length_drop]
  rw [Nat.min_eq_left (by omega), Nat.min_eq_left hb]
  by_cases h1 : j < a
  · rw [if_pos h1, if_neg (by omega), List.getElem?_take_of_lt h1]
  · rw [if_neg h1]
    by_cases h2 : j < b
    · rw [if_pos (by omega), if_pos ⟨by omega, h2⟩, List.getElem?_map, List.getElem?_drop, show a + (j - a) = j by omega, List.getElem?_take_of_lt h2]
    · rw [if_neg (by omega), if_neg (by omega), List.getElem?_drop]
      congr 1
      omega
theorem upon_length_ {α : Type} (f : α → α) (l : List α) (a b : Nat) (hab : a ≤ b) (hb : b ≤ l.length) : (upon_ f l a b).length = l.length := by
  unfold upon_
  simp only [List.length_append, List.length_take, List.length_map, List.length_drop]
  omega
theorem upon_step_ {α : Type} (f : α → α) (l : List α) (a b : Nat) (hab : a < b) (hb : b ≤ l.length) (x : α) (hx : l[a]? = some x) : upon_ f (l.set a (f x)) (a + 1) b = upon_ f l a b := by
  apply List.ext_getElem?
  intro j
  rw [upon_at_ f _ _ _ (by omega) (by rw [List.length_set]; exact hb), upon_at_ f _ _ _ (by omega) hb, List.getElem?_set]
  by_cases h1 : a = j
  · subst h1
    rw [if_neg (by omega), if_pos rfl, if_pos (by omega), if_pos ⟨Nat.le_refl _, hab⟩, hx]
    rfl
  · rw [if_neg h1]
    by_cases h2 : a ≤ j ∧ j < b
    · rw [if_pos ⟨by omega, h2.2⟩, if_pos h2]
    · rw [if_neg (by omega), if_neg h2]
theorem upon_none_ {α : Type} (f : α → α) (l : List α) (a : Nat) (ha : a ≤ l.length) : upon_ f l a a = l := by
  apply List.ext_getElem?
  intro j
  rw [upon_at_ f _ _ _ (Nat.le_refl _) ha, if_neg (by omega)]
theorem rd_at_ {xs : List S30} {k : Nat} (hk : k < xs.length) : xs[k]? = some (rd_T30 xs (k : Int)) := by
  unfold rd_T30
  rw [Int.toNat_natCast, List.getD_eq_getElem?_getD, List.getElem?_eq_getElem hk]
  rfl

end Go.Proofs.Ytgdpknmffohhaaa.Pr
