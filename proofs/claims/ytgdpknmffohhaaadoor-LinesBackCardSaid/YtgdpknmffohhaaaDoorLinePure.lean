/- What turning a line comes to, in plain words. -/
import Derived.Test.YtgdpknmffohhaaaDoorLineOps
import Derived.Test.YtgdpknmffohhaaaDoorLineSame
namespace Go.Proofs.YtgdpknmffohhaaaDoor.Pl
open Go.RowKit Go.Lib Go.Proofs.YtgdpknmffohhaaaDoorW.PrintWords Go.Proofs.YtgdpknmffohhaaaDoorW.PrintLast Go.Proofs.YtgdpknmffohhaaaDoorW.PrintMore
set_option linter.unusedVariables false
theorem turnR_ok {F : Ln → Bool × Ln} {x y : Ln} (hm : mayL x = true) (h : F x = (true, y)) : turnR F x = (y, 0) := by
  unfold turnR
  rw [if_pos hm, h, if_pos rfl]
theorem turnR_off {F : Ln → Bool × Ln} {x : Ln} (hm : mayL x = true) (h : (F x).1 = false) : turnR F x = (zeroLn, 7) := by
  unfold turnR
  rw [if_pos hm, h, if_neg (by decide)]
theorem Sz_of {x y : Ln} (hz : Sz x) (hm : mayL y = true) (hc : y.cs = x.cs) : Sz y := by
  have h := (mayL_parts hm).1
  exact ⟨by omega, by rw [hc]; exact hz.2.1, by rw [hc]; exact hz.2.2⟩
def indN (l : Ln) (i : Nat) : Ln := if l.ls = [] then { l with q := l.q + i } else { l with ls := l.ls ++ List.replicate i (lastF l.ls) }
def nOf (l : Ln) : Int := if l.ls = [] then 6 - l.q else 6 - (l.ls.length : Int)
theorem indN_zero (l : Ln) : indN l 0 = l := by
  unfold indN
  split
  · cases l
    simp
  · cases l
    simp
theorem indN_cs (l : Ln) (i : Nat) : (indN l i).cs = l.cs := by
  unfold indN
  split <;> rfl
theorem nOf_range {l : Ln} (hm : mayL l = true) : 0 ≤ nOf l ∧ nOf l ≤ 6 := by
  have h := (mayL_parts hm).1
  unfold nOf
  split <;> omega
theorem may_indN {l : Ln} (hm : mayL l = true) (i : Nat) (hi : (i : Int) ≤ nOf l) : mayL (indN l i) = true := by
  obtain ⟨h1, h2, h3⟩ := mayL_parts hm
  unfold nOf at hi
  unfold indN
  by_cases h0 : l.ls = []
  · rw [if_pos h0] at hi ⊢
    exact mayL_of (x := { l with q := l.q + i }) ⟨by dsimp only; omega, by dsimp only; omega, h1.2.2.1, h1.2.2.2.1, h1.2.2.2.2.1, h1.2.2.2.2.2⟩ h2 h3
  · rw [if_neg h0] at hi ⊢
    have hp := List.length_pos_iff.2 h0
    refine mayL_of (x := { l with ls := l.ls ++ List.replicate i (lastF l.ls) }) ⟨h1.1, h1.2.1, ?_, h1.2.2.2.1, h1.2.2.2.2.1, ?_⟩ (fun k hk => ?_) h3
    · dsimp only
      rw [List.length_append, List.length_replicate]
      omega
    · dsimp only
      omega
    · dsimp only at hk
      rcases List.mem_append.1 hk with hk | hk
      · exact h2 k hk
      · rw [(List.mem_replicate.1 hk).2]
        exact lastF_may hm h0
theorem lastF_rep {ls : List Int} (h0 : ls ≠ []) (i : Nat) : lastF (ls ++ List.replicate i (lastF ls)) = lastF ls := by
  cases i with
  | zero => simp
  | succ i => rw [List.replicate_succ', ← List.append_assoc, lastF_snoc]
theorem ind_step {l : Ln} (hm : mayL l = true) (i : Nat) (hi : (i : Int) < nOf l) : turnR indentF (indN l i) = (indN l (i + 1), 0) := by
  refine turnR_ok (may_indN hm i (by omega)) ?_
  have h1 := (mayL_parts hm).1
  unfold nOf at hi
  unfold indentF indN
  by_cases h0 : l.ls = []
  · rw [if_pos h0] at hi
    rw [if_pos h0, if_pos h0, if_pos h0]
    dsimp only
    rw [decide_eq_true (by omega), show l.q + (i : Int) + 1 = l.q + ((i + 1 : Nat) : Int) by omega]
  · rw [if_neg h0] at hi
    rw [if_neg h0, if_neg h0]
    dsimp only
    rw [if_neg (by simp [h0]), lastF_rep h0, List.append_assoc, ← List.replicate_succ', List.length_append, List.length_replicate, decide_eq_true (by omega)]
theorem ind_off {l : Ln} (hm : mayL l = true) (i : Nat) (hi : (i : Int) = nOf l) : turnR indentF (indN l i) = (zeroLn, 7) := by
  refine turnR_off (may_indN hm i (by omega)) ?_
  have h1 := (mayL_parts hm).1
  unfold nOf at hi
  unfold indentF indN
  by_cases h0 : l.ls = []
  · rw [if_pos h0] at hi
    rw [if_pos h0, if_pos h0]
    exact decide_eq_false (by dsimp only; omega)
  · rw [if_neg h0] at hi
    rw [if_neg h0]
    dsimp only
    rw [if_neg (by simp [h0])]
    exact decide_eq_false (by rw [List.length_append, List.length_replicate]; omega)
theorem dropF_snoc (l : List Int) (a : Int) : dropF (l ++ [a]) = l := by
  unfold dropF
  rw [List.length_append, List.length_singleton, Nat.add_sub_cancel, List.take_left]
theorem out_step {l : Ln} (hm : mayL l = true) (i : Nat) (hi : ((i + 1 : Nat) : Int) ≤ nOf l) : turnR outdentF (indN l (i + 1)) = (indN l i, 0) := by
  refine turnR_ok (may_indN hm (i + 1) hi) ?_
  have h1 := (mayL_parts hm).1
  unfold nOf at hi
  unfold outdentF indN
  by_cases h0 : l.ls = []
  · rw [if_pos h0] at hi
    rw [if_pos h0, if_pos h0, if_pos h0]
    dsimp only
    rw [decide_eq_true (by omega), show l.q + ((i + 1 : Nat) : Int) - 1 = l.q + (i : Int) by omega]
  · rw [if_neg h0] at hi
    rw [if_neg h0, if_neg h0]
    dsimp only
    rw [if_neg (by simp [h0]), List.replicate_succ', ← List.append_assoc, dropF_snoc]
/-- a line in a box -/
def MBox (W : World) (b : Nat) (x : Ln) : Prop := ∃ B1 d1 B3 d3, Box_ W b x.q (.slice B1 x.ls.length d1) x.k (.slice B3 x.cs.length d3) ∧ RdL W (.agg #[.int .i64 x.q, .slice B1 x.ls.length d1, .int .i64 x.k, .slice B3 x.cs.length d3]) x
theorem MBox.below {W W1 : World} {b : Nat} {x : Ln} (h : MBox W b x) (hb : Below W.heap.size W W1) : MBox W1 b x := by
  obtain ⟨B1, d1, B3, d3, h1, h2⟩ := h
  exact ⟨B1, d1, B3, d3, blk_below h1 hb, h2.below hb⟩
end Go.Proofs.YtgdpknmffohhaaaDoor.Pl
