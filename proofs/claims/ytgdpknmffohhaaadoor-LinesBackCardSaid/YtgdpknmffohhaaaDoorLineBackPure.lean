/- Indenting, splitting, freeing and back: plain words. -/
import Derived.Test.YtgdpknmffohhaaaDoorLineTurnAll
import Derived.Test.YtgdpknmffohhaaaDoorLineJoin
import Derived.Test.YtgdpknmffohhaaaDoorLineSplit
namespace Go.Proofs.YtgdpknmffohhaaaDoor.Pl
open Go.RowKit Go.Lib Go.Proofs.YtgdpknmffohhaaaDoorW.PrintWords Go.Proofs.YtgdpknmffohhaaaDoorW.PrintLast Go.Proofs.YtgdpknmffohhaaaDoorW.PrintMore
set_option linter.unusedVariables false
/-- how often a line can be freed -/
def fuelL (m : Ln) : Nat := m.ls.length + m.q.toNat + (if 0 < m.k then 1 else 0)
theorem free_none {m : Ln} (hm : mayL m = true) (h : fuelL m = 0) : turnR freeF m = (zeroLn, 7) ∧ m.q = 0 ∧ m.ls.length = 0 ∧ m.k = 0 := by
  have h1 := (mayL_parts hm).1
  unfold fuelL at h
  have hk : ¬ 0 < m.k := by
    intro hk
    rw [if_pos hk] at h
    omega
  have hl : m.ls.length = 0 := by omega
  have hq : m.q = 0 := by omega
  refine ⟨turnR_off hm ?_, hq, hl, by omega⟩
  unfold freeF
  rw [if_pos (List.length_eq_zero_iff.1 hl), if_neg hk, if_neg (by omega)]
theorem free_some {m : Ln} (hm : mayL m = true) {r : Nat} (h : fuelL m = r + 1) : ∃ y, turnR freeF m = (y, 0) ∧ mayL y = true ∧ y.cs = m.cs ∧ fuelL y = r := by
  have h1 := (mayL_parts hm).1
  have hst := stay_free hm
  have hf : (freeF m).1 = true ∧ fuelL (freeF m).2 = r := by
    unfold freeF
    unfold fuelL at h ⊢
    by_cases h0 : m.ls = []
    · rw [if_pos h0]
      rw [h0] at h ⊢
      by_cases hk : 0 < m.k
      · rw [if_pos hk] at h ⊢
        refine ⟨rfl, ?_⟩
        dsimp only
        rw [if_neg (by omega)]
        simp only [List.length_nil] at h ⊢
        omega
      · rw [if_neg hk] at h ⊢
        simp only [List.length_nil] at h
        rw [if_pos (by omega)]
        refine ⟨rfl, ?_⟩
        dsimp only
        rw [if_neg hk]
        simp only [List.length_nil]
        omega
    · rw [if_neg h0]
      refine ⟨rfl, ?_⟩
      dsimp only
      have := dropF_len h0
      omega
  have he : turnR freeF m = ((freeF m).2, 0) := by
    unfold turnR
    rw [if_pos hm, if_pos hf.1]
  rw [he] at hst
  refine ⟨(freeF m).2, he, ?_⟩
  rcases hst with ⟨_, h2, h3, _⟩ | h2 | h2
  · exact ⟨h2, h3, hf.2⟩
  · exact absurd (congrArg Prod.snd h2) (by dsimp only; decide)
  · exact absurd (congrArg Prod.snd h2) (by dsimp only; decide)
theorem in_out {x : Ln} (hm : mayL x = true) (h : nOf x ≠ 0) : ∃ y, turnR indentF x = (y, 0) ∧ turnR outdentF y = (x, 0) ∧ mayL y = true ∧ y.cs = x.cs := by
  have hn := nOf_range hm
  have h1 := ind_step hm 0 (by omega)
  have h2 := out_step hm 0 (by omega)
  rw [indN_zero] at h1 h2
  exact ⟨_, h1, h2, may_indN hm 1 (by omega), indN_cs x 1⟩
theorem in_none {x : Ln} (hm : mayL x = true) (h : nOf x = 0) : turnR indentF x = (⟨0, [], 0, []⟩, 7) := by
  have h1 := ind_off hm 0 (by omega)
  rw [indN_zero] at h1
  exact h1
theorem split_none {x : Ln} {at_ : Int} (h : ¬ (0 ≤ at_ ∧ at_ ≤ (x.cs.length : Int))) : splitR x at_ = (⟨0, [], 0, []⟩, ⟨0, [], 0, []⟩, 1) := by
  unfold splitR
  rw [if_neg (fun e => h e.2)]
  rfl
theorem split_join {x : Ln} (hm : mayL x = true) (hz : Sz x) {at_ : Int} (h : 0 ≤ at_ ∧ at_ ≤ (x.cs.length : Int)) : ∃ a b, splitR x at_ = (a, b, 0) ∧ mayL a = true ∧ mayL b = true ∧ Sz a ∧ Sz b ∧ joinR a b = (x, 0) := by
  obtain ⟨h1, h2, h3⟩ := mayL_parts hm
  have hma : mayL (splitA x at_.toNat) = true := mayL_of (x := splitA x at_.toNat) h1 h2 (fun c hc => h3 c (List.mem_of_mem_take hc))
  have hmb : mayL (splitB x at_.toNat) = true := by
    unfold splitB
    split
    · exact mayL_of (x := { x with k := 0, cs := [] }) ⟨h1.1, h1.2.1, h1.2.2.1, by simp, by simp, by simp⟩ h2 (fun c hc => by cases hc)
    · exact mayL_of (x := { x with cs := x.cs.drop at_.toNat }) h1 h2 (fun c hc => h3 c (List.mem_of_mem_drop hc))
  have hcb : (splitB x at_.toNat).cs = x.cs.drop at_.toNat := by
    unfold splitB
    split
    · rename_i e
      rw [e, List.drop_length]
    · rfl
  have hlb : (splitB x at_.toNat).ls = x.ls := by
    unfold splitB
    split <;> rfl
  refine ⟨_, _, by unfold splitR; rw [if_pos ⟨hm, h⟩], hma, hmb, ⟨hz.1, ?_, fun c hc => hz.2.2 c (List.mem_of_mem_take hc)⟩, ⟨by rw [hlb]; exact hz.1, ?_, fun c hc => hz.2.2 c (by rw [hcb] at hc; exact List.mem_of_mem_drop hc)⟩, ?_⟩
  · show (x.cs.take at_.toNat).length ≤ 100000
    rw [List.length_take]
    have := hz.2.1
    omega
  · rw [hcb, List.length_drop]
    have := hz.2.1
    omega
  · unfold joinR
    rw [if_pos ⟨hma, hmb⟩, hcb]
    show ({ x with cs := x.cs.take at_.toNat ++ x.cs.drop at_.toNat }, (0 : Int)) = (x, 0)
    rw [List.take_append_drop]
end Go.Proofs.YtgdpknmffohhaaaDoor.Pl
