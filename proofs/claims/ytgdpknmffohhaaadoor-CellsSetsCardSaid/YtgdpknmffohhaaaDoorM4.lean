/- Printed texts, and given ones, of the seat's functions, in one file. -/
import Derived.Test.YtgdpknmffohhaaaDoorM0
import Derived.Test.YtgdpknmffohhaaaDoorM3
import Derived.Test.YtgdpknmffohhaaaDoorM2
import Derived.BigRegion
namespace Go.Proofs.YtgdpknmffohhaaaDoor.Pl
open Go.RowKit Go.Proofs.YtgdpknmffohhaaaDoorW.PrintWords Go.Proofs.YtgdpknmffohhaaaDoorW.PrintLast Go.Proofs.YtgdpknmffohhaaaDoorW.PrintMore
attribute [local go_sem] max2_int min2_int max_two min_two max_three min_three max_four min_four   -- for this text's walks alone
set_option linter.unusedVariables false
set_option linter.unusedSimpArgs false

/-! ### quillworkref06_May: function 38 -/
end Go.Proofs.YtgdpknmffohhaaaDoor.Pl

namespace Go.Proofs.YtgdpknmffohhaaaDoor.Pl
open Go.RowKit Go.Proofs.YtgdpknmffohhaaaDoorW.PrintWords Go.Proofs.YtgdpknmffohhaaaDoorW.PrintLast Go.Proofs.YtgdpknmffohhaaaDoorW.PrintMore
attribute [local go_sem] max2_int min2_int max_two min_two max_three min_three max_four min_four   -- for this text's walks alone
set_option linter.unusedVariables false
set_option linter.unusedSimpArgs false

/-! ### quillworkref06_Own: function 26 -/
end Go.Proofs.YtgdpknmffohhaaaDoor.Pl

/- What may be a line, by the reference: the program's answer. -/
namespace Go.Proofs.YtgdpknmffohhaaaDoor.Pl
open Go.RowKit Go.Lib Go.Proofs.YtgdpknmffohhaaaDoorW.PrintWords Go.Proofs.YtgdpknmffohhaaaDoorW.PrintLast Go.Proofs.YtgdpknmffohhaaaDoorW.PrintMore
set_option linter.unusedVariables false
theorem ref_target_ (s : ByteArray) (hs : s.size ≤ 70368744177664) : Ev (fun k => quillworkref03_Target.f k s) (target_ s) := by
  unfold quillworkref03_Target.f quillworkref03_Value.f target_
  have hT := ref_script_ s hs
  have hF : Ev (fun k => quillworkref03_Target.j0 k s true) false := by
    refine Ev.step (f := fun _ => some false) (fun k => ?_) (Ev.now _)
    simp only [quillworkref03_Target.j0]
    rfl
  refine Ev.congr (f := fun k => if isValue_ s = true then _ else _) (fun k => by rw [if_pos hs, Option.bind_some]) ?_
  cases isValue_ s with
  | false => exact Ev.congr (fun k => if_neg (by decide)) hF
  | true =>
    refine Ev.congr (fun k => if_pos rfl) ?_
    rw [Bool.true_and]
    by_cases h0 : s.toList = []
    · have hz := empty_size_ s h0
      refine Ev.congr (fun k => if_pos h0) ?_
      have he : ends_ s = false := by unfold ends_; rw [dif_neg (by omega)]
      rw [he, Bool.false_and]
      exact hF
    · have hz : 0 < s.size := by
        rcases Nat.eq_zero_or_pos s.size with h | h
        · exact absurd (size_empty_ s h) h0
        · exact h
      have he : ends_ s = (decide (¬ bt s 0 = 32) && decide (¬ bt s ((s.size : Int) - 1) = 32)) := by
        unfold ends_
        rw [dif_pos hz]
        have h1 := bt_at s 0 hz
        have h2 := bt_at s ((s.size : Int) - 1) (by omega)
        have e2 : ((s.size : Int) - 1).toNat = s.size - 1 := by omega
        rw [← h1, ← h2]
        simp only [e2, Int.toNat_zero]
      have hw : wrap64 ((s.size : Int) - 1) = (s.size : Int) - 1 := w64s_ _ (by omega)
      rw [he]
      refine Ev.congr (fun k => if_neg h0) ?_
      refine Ev.congr (fun k => if_pos (by omega)) ?_
      by_cases h1 : bt s 0 = 32
      · rw [decide_eq_false (fun h => h h1), Bool.false_and, Bool.false_and]
        exact Ev.congr (fun k => if_pos h1) hF
      · rw [decide_eq_true h1, Bool.true_and, hw]
        refine Ev.congr (fun k => if_neg h1) ?_
        refine Ev.congr (fun k => if_pos (by omega)) ?_
        refine Ev.congr (fun k => if_pos (by omega)) ?_
        by_cases h2 : bt s ((s.size : Int) - 1) = 32
        · rw [decide_eq_false (fun h => h h2), Bool.false_and, beq_iff_eq.2 h2]
          exact hF
        · rw [decide_eq_true h2, Bool.true_and, beq_eq_false_iff_ne.2 h2]
          exact hT
theorem ref_link_ (s : ByteArray) (hs : s.size ≤ 70368744177664) : Ev (fun k => quillworkref05_Link.f k s) (link_ s) := by
  unfold quillworkref05_Link.f link_
  by_cases h0 : s.toList = []
  · rw [h0]
    exact Ev.congr (fun k => if_pos rfl) (Ev.now _)
  · have : s.toList.isEmpty = false := by
      cases h : s.toList with
      | nil => exact absurd h h0
      | cons a l => rfl
    rw [this, Bool.false_or]
    exact Ev.congr (fun k => if_neg h0) (Ev.bind (ref_target_ s hs) (Ev.now _))
end Go.Proofs.YtgdpknmffohhaaaDoor.Pl

/- The closure of lines.List. -/
namespace Go.Proofs.YtgdpknmffohhaaaDoor.Pl
open Go.RowKit Go.Lib Go.Proofs.YtgdpknmffohhaaaDoorW.PrintWords Go.Proofs.YtgdpknmffohhaaaDoorW.PrintLast Go.Proofs.YtgdpknmffohhaaaDoorW.PrintMore
set_option linter.unusedVariables false
end Go.Proofs.YtgdpknmffohhaaaDoor.Pl

/- lines.turned, and what it is called for: a line indented, outdented, in a list, as a heading, freed. -/
namespace Go.Proofs.YtgdpknmffohhaaaDoor.Pl
open Go.RowKit Go.Lib Go.Proofs.YtgdpknmffohhaaaDoorW.PrintWords Go.Proofs.YtgdpknmffohhaaaDoorW.PrintLast Go.Proofs.YtgdpknmffohhaaaDoorW.PrintMore
set_option linter.unusedVariables false
section
variable {W : World} {base : Nat} {v : Value} {g : Nat} {a b c d z0 z1 z2 z3 : Value} {t : Nat}
end
end Go.Proofs.YtgdpknmffohhaaaDoor.Pl

/- lines.Indent, Outdent, List, Format, Free. -/
namespace Go.Proofs.YtgdpknmffohhaaaDoor.Pl
open Go.RowKit Go.Lib Go.Proofs.YtgdpknmffohhaaaDoorW.PrintWords Go.Proofs.YtgdpknmffohhaaaDoorW.PrintLast Go.Proofs.YtgdpknmffohhaaaDoorW.PrintMore
set_option linter.unusedVariables false
end Go.Proofs.YtgdpknmffohhaaaDoor.Pl

/- What turning a line comes to, in plain words. -/
namespace Go.Proofs.YtgdpknmffohhaaaDoor.Pl
open Go.RowKit Go.Lib Go.Proofs.YtgdpknmffohhaaaDoorW.PrintWords Go.Proofs.YtgdpknmffohhaaaDoorW.PrintLast Go.Proofs.YtgdpknmffohhaaaDoorW.PrintMore
set_option linter.unusedVariables false
/-- a line in a box -/
def MBox (W : World) (b : Nat) (x : Ln) : Prop := ∃ B1 d1 B3 d3, Box_ W b x.q (.slice B1 x.ls.length d1) x.k (.slice B3 x.cs.length d3) ∧ RdL W (.agg #[.int .i64 x.q, .slice B1 x.ls.length d1, .int .i64 x.k, .slice B3 x.cs.length d3]) x
theorem MBox.below {W W1 : World} {b : Nat} {x : Ln} (h : MBox W b x) (hb : Below W.heap.size W W1) : MBox W1 b x := by
  obtain ⟨B1, d1, B3, d3, h1, h2⟩ := h
  exact ⟨B1, d1, B3, d3, blk_below h1 hb, h2.below hb⟩
end Go.Proofs.YtgdpknmffohhaaaDoor.Pl

namespace Go.Proofs.YtgdpknmffohhaaaDoor.Pl
open Go.RowKit Go.Proofs.YtgdpknmffohhaaaDoorW.PrintWords Go.Proofs.YtgdpknmffohhaaaDoorW.PrintLast Go.Proofs.YtgdpknmffohhaaaDoorW.PrintMore
attribute [local go_sem] max2_int min2_int max_two min_two max_three min_three max_four min_four   -- for this text's walks alone
set_option linter.unusedVariables false
set_option linter.unusedSimpArgs false

/-! ### quillworkref06_ints: function 80 -/
end Go.Proofs.YtgdpknmffohhaaaDoor.Pl

namespace Go.Proofs.YtgdpknmffohhaaaDoor.Pl
open Go.RowKit Go.Proofs.YtgdpknmffohhaaaDoorW.PrintWords Go.Proofs.YtgdpknmffohhaaaDoorW.PrintLast Go.Proofs.YtgdpknmffohhaaaDoorW.PrintMore
attribute [local go_sem] max2_int min2_int max_two min_two max_three min_three max_four min_four   -- for this text's walks alone
set_option linter.unusedVariables false
set_option linter.unusedSimpArgs false

/-! ### quillworkref06_Same: function 32 -/
end Go.Proofs.YtgdpknmffohhaaaDoor.Pl

namespace Go.Proofs.YtgdpknmffohhaaaDoor.Pl
open Go.RowKit Go.Proofs.YtgdpknmffohhaaaDoorW.PrintWords Go.Proofs.YtgdpknmffohhaaaDoorW.PrintLast Go.Proofs.YtgdpknmffohhaaaDoorW.PrintMore
attribute [local go_sem] max2_int min2_int max_two min_two max_three min_three max_four min_four   -- for this text's walks alone
set_option linter.unusedVariables false
set_option linter.unusedSimpArgs false

/-! ### quillworkref06_Frame: function 41 -/
end Go.Proofs.YtgdpknmffohhaaaDoor.Pl

/- The reference's Same and Frame of lines, and its Indent. -/
namespace Go.Proofs.YtgdpknmffohhaaaDoor.Pl
open Go.RowKit Go.Lib Go.Proofs.YtgdpknmffohhaaaDoorW.PrintWords Go.Proofs.YtgdpknmffohhaaaDoorW.PrintLast Go.Proofs.YtgdpknmffohhaaaDoorW.PrintMore
set_option linter.unusedVariables false
theorem eqR_ (x y : List S71) (hl : x.length ≤ 1000000000) : Ev (fun k => quillworkref05_Same.f k x y) (sameC x y) := by
  unfold quillworkref05_Same.f
  by_cases h : x.length = y.length
  · exact Ev.congr (fun k => if_pos (by omega)) (eqR_loop_ x y h hl _ 0 rfl (Nat.zero_le _))
  · rw [sameC_len h]
    exact Ev.congr (fun k => if_neg (by omega)) (Ev.now _)
end Go.Proofs.YtgdpknmffohhaaaDoor.Pl

/- The plain law of CellsSets: what bits, what link the cells have then, whether all, or some, have any bits, are the document's. -/
namespace Go.Proofs.YtgdpknmffohhaaaDoor.Pure
open Go.RowKit Go.Proofs.YtgdpknmffohhaaaDoor.Pl Go.Proofs.YtgdpknmffohhaaaDoorW.PrintWords Go.Proofs.YtgdpknmffohhaaaDoorW.PrintLast Go.Proofs.YtgdpknmffohhaaaDoorW.PrintMore
set_option linter.unusedVariables false
theorem own05_ (l : List S71) (hL : l.length ≤ 1000000000) : quillworkref05_Own.f l = some l := by
  unfold quillworkref05_Own.f
  simp only [Option.bind_some, List.nil_append, List.length_nil]
  rw [if_pos (by omega)]
theorem span05_ (l : List S71) (a b : Int) : quillworkref05_Span.f l a b = some (decide (spanned_ l a b)) := by
  unfold quillworkref05_Span.f
  by_cases h1 : 0 ≤ a
  · rw [if_pos h1]
    by_cases h2 : a ≤ b
    · rw [if_pos h2]
      by_cases h3 : b ≤ (l.length : Int)
      · rw [decide_eq_true h3, decide_eq_true (show spanned_ l a b from ⟨h1, h2, h3⟩)]
      · rw [decide_eq_false h3, decide_eq_false (fun h : spanned_ l a b => h3 h.2.2)]
    · rw [if_neg h2, decide_eq_false (fun h : spanned_ l a b => h2 h.2.1)]
  · rw [if_neg h1, decide_eq_false (fun h : spanned_ l a b => h1 h.1)]
theorem refset_loop_ (s c : Int) (q : Nat) : ∀ (m i : Nat) (xs : List S71), q - i = m → i ≤ q → q ≤ xs.length → xs.length ≤ 1000000000 → Ev (fun k => quillworkref05_Set.l0 k (q : Int) s c xs (i : Int)) (upon_ (over_ s c) xs i q, 0) := by
  intro m
  induction m with
  | zero =>
    intro i xs hm hi hq hl
    obtain rfl : i = q := by omega
    rw [upon_none_ _ _ _ hq]
    refine Ev.step (f := fun _ => some (xs, 0)) (fun k => ?_) (Ev.now _)
    simp only [quillworkref05_Set.l0]
    rw [if_neg (by omega)]
  | succ m ih =>
    intro i xs hm hi hq hl
    have hx : xs[i]? = some xs[i] := List.getElem?_eq_getElem (by omega)
    have e3 : wrap64 ((i : Int) + 1) = ((i + 1 : Nat) : Int) := by rw [w64_ _ (by omega)]; omega
    have h := ih (i + 1) (xs.set i (over_ s c xs[i])) (by omega) (by omega) (by rw [List.length_set]; exact hq) (by rw [List.length_set]; exact hl)
    rw [upon_step_ _ _ _ _ (by omega) hq _ hx] at h
    refine Ev.step (fun k => ?_) h
    simp only [quillworkref05_Set.l0]
    rw [if_pos (by omega), if_pos (by omega), if_pos (by omega), rd_some_ hx, Int.toNat_natCast, e3]
    rfl
theorem reflinks_loop_ (c : ByteArray) (q : Nat) : ∀ (m i : Nat) (xs : List S71), q - i = m → i ≤ q → q ≤ xs.length → xs.length ≤ 1000000000 → Ev (fun k => quillworkref05_Links.l0 k (q : Int) c xs (i : Int)) (upon_ (hrefTo_ c) xs i q, 0) := by
  intro m
  induction m with
  | zero =>
    intro i xs hm hi hq hl
    obtain rfl : i = q := by omega
    rw [upon_none_ _ _ _ hq]
    refine Ev.step (f := fun _ => some (xs, 0)) (fun k => ?_) (Ev.now _)
    simp only [quillworkref05_Links.l0]
    rw [if_neg (by omega)]
  | succ m ih =>
    intro i xs hm hi hq hl
    have hx : xs[i]? = some xs[i] := List.getElem?_eq_getElem (by omega)
    have e3 : wrap64 ((i : Int) + 1) = ((i + 1 : Nat) : Int) := by rw [w64_ _ (by omega)]; omega
    have h := ih (i + 1) (xs.set i (hrefTo_ c xs[i])) (by omega) (by omega) (by rw [List.length_set]; exact hq) (by rw [List.length_set]; exact hl)
    rw [upon_step_ _ _ _ _ (by omega) hq _ hx] at h
    refine Ev.step (fun k => ?_) h
    simp only [quillworkref05_Links.l0]
    rw [if_pos (by omega), if_pos (by omega), if_pos (by omega), rd_some_ hx, Int.toNat_natCast, e3]
    rfl
def setR_ (l : List S71) (a b s c : Int) : List S71 × Int := if spanned_ l a b then (upon_ (over_ s c) l a.toNat b.toNat, 0) else ([], 1)
def linkR_ (l : List S71) (a b : Int) (h : ByteArray) : List S71 × Int := if spanned_ l a b ∧ link_ h = true then (upon_ (hrefTo_ h) l a.toNat b.toNat, 0) else ([], 1)
theorem refset_ (l : List S71) (hL : l.length ≤ 1000000000) (a b s c : Int) : Ev (fun k => quillworkref05_Set.f k l a b s c) (setR_ l a b s c) := by
  unfold quillworkref05_Set.f setR_
  refine Ev.congr (fun k => by rw [span05_, Option.bind_some]) ?_
  by_cases hs : spanned_ l a b
  · rw [if_pos hs]
    refine Ev.congr (fun k => by rw [if_pos (decide_eq_true hs), own05_ l hL, Option.bind_some]) ?_
    obtain ⟨h0, h1, h2⟩ := hs
    obtain ⟨p, rfl⟩ := Int.eq_ofNat_of_zero_le h0
    obtain ⟨q, rfl⟩ := Int.eq_ofNat_of_zero_le (show 0 ≤ b by omega)
    rw [Int.toNat_natCast, Int.toNat_natCast]
    exact refset_loop_ s c q _ p l rfl (by omega) (by omega) hL
  · rw [if_neg hs]
    exact Ev.congr (fun k => if_neg (by rw [decide_eq_false hs]; decide)) (Ev.now _)
theorem reflinks_ (l : List S71) (hL : l.length ≤ 1000000000) (a b : Int) (h : ByteArray) (hh : h.size ≤ 70368744177664) : Ev (fun k => quillworkref05_Links.f k l a b h) (linkR_ l a b h) := by
  unfold quillworkref05_Links.f linkR_
  refine Ev.congr (fun k => by rw [span05_, Option.bind_some]) ?_
  have hF : Ev (fun k => quillworkref05_Links.j0 k l a b h true) (([] : List S71), (1 : Int)) := by
    refine Ev.step (f := fun _ => some _) (fun k => ?_) (Ev.now _)
    simp only [quillworkref05_Links.j0]
    rfl
  by_cases hs : spanned_ l a b
  · refine Ev.congr (fun k => if_pos (decide_eq_true hs)) ?_
    refine Ev.bind (ref_link_ h hh) ?_
    cases hl : link_ h with
    | false =>
      rw [if_neg (fun e => by cases e.2)]
      exact hF
    | true =>
      rw [if_pos ⟨hs, rfl⟩]
      obtain ⟨h0, h1, h2⟩ := hs
      obtain ⟨p, rfl⟩ := Int.eq_ofNat_of_zero_le h0
      obtain ⟨q, rfl⟩ := Int.eq_ofNat_of_zero_le (show 0 ≤ b by omega)
      rw [Int.toNat_natCast, Int.toNat_natCast]
      refine Ev.step (fun k => ?_) (reflinks_loop_ h q _ p l rfl (by omega) (by omega) hL)
      simp only [quillworkref05_Links.j0]
      rw [if_neg (by decide), own05_ l hL, Option.bind_some]
  · rw [if_neg (fun e => hs e.1)]
    exact Ev.congr (fun k => if_neg (by rw [decide_eq_false hs]; decide)) hF
theorem set_is_ (l : List S71) (hL : l.length ≤ 1000000000) (a b s c : Int) : cells_Set.f l a b s c = some (setR_ l a b s c) := by
  unfold cells_Set.f setR_
  split
  · rw [if_pos (by omega)]
  · rfl
theorem link_is_ (l : List S71) (hL : l.length ≤ 1000000000) (a b : Int) (h : ByteArray) (hh : h.size ≤ 1000) : cells_Link.f l a b h = some (linkR_ l a b h) := by
  unfold cells_Link.f linkR_
  rw [if_pos (by omega)]
  by_cases h1 : link_ h = true
  · rw [if_pos h1]
    by_cases h2 : spanned_ l a b
    · rw [if_pos h2, if_pos (by omega), if_pos ⟨h2, h1⟩]
    · rw [if_neg h2, if_neg (fun e => h2 e.1)]
  · rw [if_neg h1, if_neg (fun e => h1 e.2)]
theorem spoil_loop_ : ∀ (m i : Nat) (xs : List S71), xs.length - i = m → i ≤ xs.length → xs.length ≤ 1000000000 → ∃ r, Ev (fun k => quillworklaw05_spoil.l0 k xs (i : Int)) r := by
  intro m
  induction m with
  | zero =>
    intro i xs hm hi hl
    refine ⟨xs, Ev.step (f := fun _ => some xs) (fun k => ?_) (Ev.now _)⟩
    simp only [quillworklaw05_spoil.l0]
    rw [if_neg (by omega)]
  | succ m ih =>
    intro i xs hm hi hl
    have e3 : wrap64 ((i : Int) + 1) = ((i + 1 : Nat) : Int) := by rw [w64_ _ (by omega)]; omega
    obtain ⟨r, h⟩ := ih (i + 1) (xs.set i ⟨122, 77, ⟨#[]⟩⟩) (by rw [List.length_set]; omega) (by rw [List.length_set]; omega) (by rw [List.length_set]; exact hl)
    refine ⟨r, Ev.step (fun k => ?_) h⟩
    simp only [quillworklaw05_spoil.l0]
    rw [if_pos (by omega), if_pos (by omega), Int.toNat_natCast, e3]
theorem spoil_ (l : List S71) (hL : l.length ≤ 1000000000) : ∃ r, Ev (fun k => quillworklaw05_spoil.f k l) r := spoil_loop_ _ 0 l rfl (Nat.zero_le _) hL
theorem any_step_ (p : S71 → Bool) (l : List S71) (q i : Nat) (hi : i < q) (hq : q ≤ l.length) : ((l.take q).drop i).any p = (p (l[i]'(by omega)) || ((l.take q).drop (i + 1)).any p) := by
  rw [List.drop_eq_getElem_cons (by rw [List.length_take]; omega), List.any_cons, List.getElem_take]
theorem any_none_ (p : S71 → Bool) (l : List S71) (q : Nat) : ((l.take q).drop q).any p = false := by
  rw [List.drop_eq_nil_of_le (by rw [List.length_take]; omega)]
  rfl
theorem refall_loop_ (l : List S71) (hL : l.length ≤ 1000000000) (p q : Nat) (hq : q ≤ l.length) (s : Int) : ∀ (m i : Nat), q - i = m → i ≤ q → Ev (fun k => quillworkref05_All.l0 k l (p : Int) (q : Int) s (i : Int)) (!(((l.take q).drop i).any fun x => Go.bits .and .i64 x.f1 s != s) && decide (p < q)) := by
  intro m
  induction m with
  | zero =>
    intro i hm hi
    obtain rfl : i = q := by omega
    rw [any_none_]
    refine Ev.step (f := fun _ => some _) (fun k => ?_) (Ev.now _)
    simp only [quillworkref05_All.l0]
    rw [if_neg (by omega), Bool.not_false, Bool.true_and]
    congr 1
    rw [decide_eq_decide]
    omega
  | succ m ih =>
    intro i hm hi
    have hx : l[i]? = some l[i] := List.getElem?_eq_getElem (by omega)
    have e3 : wrap64 ((i : Int) + 1) = ((i + 1 : Nat) : Int) := by rw [w64_ _ (by omega)]; omega
    rw [any_step_ _ l q i (by omega) hq]
    by_cases hb : Go.bits .and .i64 l[i].f1 s = s
    · rw [bne_eq_false_iff_eq.2 hb, Bool.false_or]
      refine Ev.step (fun k => ?_) (ih (i + 1) (by omega) (by omega))
      simp only [quillworkref05_All.l0]
      rw [if_pos (by omega), if_pos (by omega), if_pos (by omega), rd_some_ hx, if_pos hb, e3]
    · rw [bne_iff_ne.2 hb, Bool.true_or, Bool.not_true, Bool.false_and]
      refine Ev.step (f := fun _ => some _) (fun k => ?_) (Ev.now _)
      simp only [quillworkref05_All.l0]
      rw [if_pos (by omega), if_pos (by omega), if_pos (by omega), rd_some_ hx, if_neg hb]
theorem refsome_loop_ (l : List S71) (hL : l.length ≤ 1000000000) (q : Nat) (hq : q ≤ l.length) (s : Int) : ∀ (m i : Nat), q - i = m → i ≤ q → Ev (fun k => quillworkref05_Some.l0 k l (q : Int) s (i : Int)) (((l.take q).drop i).any fun x => Go.bits .and .i64 x.f1 s != 0) := by
  intro m
  induction m with
  | zero =>
    intro i hm hi
    obtain rfl : i = q := by omega
    rw [any_none_]
    refine Ev.step (f := fun _ => some _) (fun k => ?_) (Ev.now _)
    simp only [quillworkref05_Some.l0]
    rw [if_neg (by omega)]
  | succ m ih =>
    intro i hm hi
    have hx : l[i]? = some l[i] := List.getElem?_eq_getElem (by omega)
    have e3 : wrap64 ((i : Int) + 1) = ((i + 1 : Nat) : Int) := by rw [w64_ _ (by omega)]; omega
    rw [any_step_ _ l q i (by omega) hq]
    by_cases hb : Go.bits .and .i64 l[i].f1 s = 0
    · rw [bne_eq_false_iff_eq.2 hb, Bool.false_or]
      refine Ev.step (fun k => ?_) (ih (i + 1) (by omega) (by omega))
      simp only [quillworkref05_Some.l0]
      rw [if_pos (by omega), if_pos (by omega), if_pos (by omega), rd_some_ hx, if_pos hb, e3]
    · rw [bne_iff_ne.2 hb, Bool.true_or]
      refine Ev.step (f := fun _ => some _) (fun k => ?_) (Ev.now _)
      simp only [quillworkref05_Some.l0]
      rw [if_pos (by omega), if_pos (by omega), if_pos (by omega), rd_some_ hx, if_neg hb]
theorem all_both_ (l : List S71) (hL : l.length ≤ 1000000000) (a b s : Int) : ∃ r, cells_All.f l a b s = some r ∧ Ev (fun k => quillworkref05_All.f k l a b s) r := by
  unfold cells_All.f quillworkref05_All.f
  refine ⟨_, rfl, ?_⟩
  refine Ev.congr (fun k => by rw [span05_, Option.bind_some]) ?_
  by_cases hs : spanned_ l a b
  · rw [if_pos hs]
    refine Ev.congr (fun k => if_pos (decide_eq_true hs)) ?_
    obtain ⟨h0, h1, h2⟩ := hs
    obtain ⟨p, rfl⟩ := Int.eq_ofNat_of_zero_le h0
    obtain ⟨q, rfl⟩ := Int.eq_ofNat_of_zero_le (show 0 ≤ b by omega)
    have h := refall_loop_ l hL p q (by omega) s _ p rfl (by omega)
    rw [Int.toNat_natCast, Int.toNat_natCast]
    by_cases e : (p : Int) = (q : Int)
    · rw [if_pos e]
      rw [decide_eq_false (by omega), Bool.and_false] at h
      exact h
    · rw [if_neg e]
      rw [decide_eq_true (by omega), Bool.and_true] at h
      exact h
  · rw [if_neg hs]
    exact Ev.congr (fun k => if_neg (by rw [decide_eq_false hs]; decide)) (Ev.now _)
theorem some_both_ (l : List S71) (hL : l.length ≤ 1000000000) (a b s : Int) : ∃ r, cells_Some.f l a b s = some r ∧ Ev (fun k => quillworkref05_Some.f k l a b s) r := by
  unfold cells_Some.f quillworkref05_Some.f
  refine ⟨_, rfl, ?_⟩
  refine Ev.congr (fun k => by rw [span05_, Option.bind_some]) ?_
  by_cases hs : spanned_ l a b
  · rw [if_pos hs]
    refine Ev.congr (fun k => if_pos (decide_eq_true hs)) ?_
    obtain ⟨h0, h1, h2⟩ := hs
    obtain ⟨p, rfl⟩ := Int.eq_ofNat_of_zero_le h0
    obtain ⟨q, rfl⟩ := Int.eq_ofNat_of_zero_le (show 0 ≤ b by omega)
    rw [Int.toNat_natCast, Int.toNat_natCast]
    exact refsome_loop_ l hL q (by omega) s _ p rfl (by omega)
  · rw [if_neg hs]
    exact Ev.congr (fun k => if_neg (by rw [decide_eq_false hs]; decide)) (Ev.now _)
theorem same05_ (l : List S71) (hL : l.length ≤ 1000000000) : Ev (fun k => quillworkref05_Same.f k l l) true := by
  have h := eqR_ l l hL
  rwa [sameC_iff.2 rfl] at h
theorem setR_len_ (l : List S71) (hL : l.length ≤ 1000000000) (a b s c : Int) : (setR_ l a b s c).1.length ≤ 1000000000 := by
  unfold setR_
  split
  · rename_i h
    obtain ⟨h0, h1, h2⟩ := h
    rw [upon_length_ _ _ _ _ (by omega) (by omega)]
    exact hL
  · show (0 : Nat) ≤ _
    omega
theorem linkR_len_ (l : List S71) (hL : l.length ≤ 1000000000) (a b : Int) (h : ByteArray) : (linkR_ l a b h).1.length ≤ 1000000000 := by
  unfold linkR_
  split
  · rename_i h
    obtain ⟨⟨h0, h1, h2⟩, _⟩ := h
    rw [upon_length_ _ _ _ _ (by omega) (by omega)]
    exact hL
  · show (0 : Nat) ≤ _
    omega
theorem CellsSets (l : List S71) (a b s c : Int) (h : ByteArray) (hl : ∀ x ∈ l, CellOk_ x) (hL : l.length ≤ 9223372036854775807) (_ : (Lit.int .i64 a).wf = true) (_ : (Lit.int .i64 b).wf = true) (_ : (Lit.int .i64 s).wf = true) (_ : (Lit.int .i64 c).wf = true) (_ : h.size ≤ 140737488351232) : ∃ k, quillworklaw05_CellsSets.f k l a b s c h = some true := by
  refine Ev.rounds ?_
  obtain ⟨t, ht, ht2⟩ := long_ l hl hL
  have haw := Ev.bind awake_ (Ev.now (true : Bool))
  have hTrue : Ev (fun k => quillworklaw05_CellsSets.j0 k l a b s c h true) true := by
    refine Ev.step (fun k => ?_) haw
    simp only [quillworklaw05_CellsSets.j0]
    rw [if_pos trivial]
  unfold quillworklaw05_CellsSets.f
  refine Ev.bind ht ?_
  cases t with
  | true => exact Ev.congr (fun k => if_pos rfl) hTrue
  | false =>
    have hn := ht2 rfl
    have hN : l.length ≤ 1000000000 := by omega
    refine Ev.congr (fun k => if_neg (by decide)) ?_
    by_cases hh : (h.size : Int) > 1000
    · rw [decide_eq_true hh]
      exact hTrue
    · rw [decide_eq_false hh]
      obtain ⟨ra, ha1, ha2⟩ := all_both_ l hN a b s
      obtain ⟨rs, hs1, hs2⟩ := some_both_ l hN a b s
      obtain ⟨w1, hw1⟩ := spoil_ (setR_ l a b s c).1 (setR_len_ l hN a b s c)
      obtain ⟨w2, hw2⟩ := spoil_ (linkR_ l a b h).1 (linkR_len_ l hN a b h)
      have hj1 : Ev (fun k => quillworklaw05_CellsSets.j1 k l a b s l (setR_ l a b s c).1 (linkR_ l a b h).1 false) true := by
        have e1 : Ev (fun k => ((quillworklaw05_spoil.f k (setR_ l a b s c).1).bind fun t204 => ((quillworklaw05_spoil.f k (linkR_ l a b h).1).bind fun t205 => ((cells_All.f l a b s).bind fun t206 => ((quillworkref05_All.f k l a b s).bind fun t207 => (if (t206 == t207) = true then ((cells_Some.f l a b s).bind fun t208 => ((quillworkref05_Some.f k l a b s).bind fun t209 => (if (t208 == t209) = true then ((quillworkref05_Same.f k l l).bind fun t210 => (if t210 = true then ((quillworklaw05_awake.f k).bind fun t211 => (some t211)) else (some false))) else (some false)))) else (some false))))))) true := by
          refine Ev.bind hw1 ?_
          refine Ev.bind hw2 ?_
          refine Ev.congr (fun k => by rw [ha1, Option.bind_some]) ?_
          refine Ev.bind ha2 ?_
          refine Ev.congr (fun k => by rw [if_pos (beq_self_eq_true ra), hs1, Option.bind_some]) ?_
          refine Ev.bind hs2 ?_
          refine Ev.congr (fun k => if_pos (beq_self_eq_true rs)) ?_
          refine Ev.bind (same05_ l hN) ?_
          exact Ev.congr (fun k => if_pos rfl) haw
        refine Ev.step (fun k => ?_) e1
        simp only [quillworklaw05_CellsSets.j1]
        rw [if_neg (by decide)]
      have e0 : Ev (fun k => ((quillworkref05_Own.f l).bind fun t183 => ((cells_Set.f l a b s c).bind fun bt186 => ((quillworkref05_Set.f k t183 a b s c).bind fun bt190 => ((cells_Link.f l a b h).bind fun bt194 => ((quillworkref05_Links.f k t183 a b h).bind fun bt198 => (if bt186.2 = bt190.2 then (if bt194.2 = bt198.2 then ((quillworkref05_Same.f k bt186.1 bt190.1).bind fun t202 => (if t202 = true then ((quillworkref05_Same.f k bt194.1 bt198.1).bind fun t203 => (quillworklaw05_CellsSets.j1 k l a b s t183 bt186.1 bt194.1 (!t203))) else (quillworklaw05_CellsSets.j1 k l a b s t183 bt186.1 bt194.1 true))) else (quillworklaw05_CellsSets.j1 k l a b s t183 bt186.1 bt194.1 true)) else (quillworklaw05_CellsSets.j1 k l a b s t183 bt186.1 bt194.1 true)))))))) true := by
        refine Ev.congr (fun k => by rw [own05_ l hN, Option.bind_some, set_is_ l hN a b s c, Option.bind_some]) ?_
        refine Ev.bind (refset_ l hN a b s c) ?_
        refine Ev.congr (fun k => by rw [link_is_ l hN a b h (by omega), Option.bind_some]) ?_
        refine Ev.bind (reflinks_ l hN a b h (by omega)) ?_
        refine Ev.congr (fun k => by rw [if_pos rfl, if_pos rfl]) ?_
        refine Ev.bind (same05_ _ (setR_len_ l hN a b s c)) ?_
        refine Ev.congr (fun k => if_pos rfl) ?_
        refine Ev.bind (same05_ _ (linkR_len_ l hN a b h)) ?_
        exact hj1
      refine Ev.step (fun k => ?_) e0
      simp only [quillworklaw05_CellsSets.j0]
      rw [if_neg (by decide)]
end Go.Proofs.YtgdpknmffohhaaaDoor.Pure
