-- PRINTED by print.py (a twelfth state) out of the translation. Not trusted: Lean checks it.
import Derived.Test.YtgdpknmffohhaaaPr0
import Derived.Test.YtgdpknmffohhaaaPr5
import Derived.Test.YtgdpknmffohhaaaPr13
namespace Go.Proofs.Ytgdpknmffohhaaa.Pr
open Go.RowKit Go.Proofs.YtgdpknmffohhaaaW.PrintWords Go.Proofs.YtgdpknmffohhaaaW.PrintLast Go.Proofs.YtgdpknmffohhaaaW.PrintMore
attribute [local go_sem] max2_int min2_int max_two min_two max_three min_three max_four min_four   -- for this text's walks alone
set_option linter.unusedVariables false
set_option linter.unusedSimpArgs false

/-! ### lib_span -/
theorem span_yes_ {l0 : List (S30)} {a1 a2 : Int} (hs : spanned_ l0 a1 a2) : cells_span.f l0 a1 a2 = some true := by
  obtain ⟨h1, h2, h3⟩ := hs
  unfold cells_span.f
  rw [if_pos h1, if_pos h2, decide_eq_true h3]
theorem span_no_ {l0 : List (S30)} {a1 a2 : Int} (hs : ¬ spanned_ l0 a1 a2) : cells_span.f l0 a1 a2 = some false := by
  unfold spanned_ at hs
  unfold cells_span.f
  by_cases h1 : a1 ≥ 0
  · rw [if_pos h1]
    by_cases h2 : a1 ≤ a2
    · rw [if_pos h2, decide_eq_false (fun h3 => hs ⟨h1, h2, h3⟩)]
    · rw [if_neg h2]
  · rw [if_neg h1]

end Go.Proofs.Ytgdpknmffohhaaa.Pr
