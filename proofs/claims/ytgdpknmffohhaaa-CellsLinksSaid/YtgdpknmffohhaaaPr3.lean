-- PRINTED by print.py (a twelfth state) out of the translation. Not trusted: Lean checks it.
import Derived.Test.YtgdpknmffohhaaaPr0
namespace Go.Proofs.Ytgdpknmffohhaaa.Pr
open Go.RowKit Go.Proofs.YtgdpknmffohhaaaW.PrintWords Go.Proofs.YtgdpknmffohhaaaW.PrintLast Go.Proofs.YtgdpknmffohhaaaW.PrintMore
attribute [local go_sem] max2_int min2_int max_two min_two max_three min_three max_four min_four   -- for this text's walks alone
set_option linter.unusedVariables false
set_option linter.unusedSimpArgs false

/-! ### lib_world -/
theorem cell_new_ (W : World) (v : Value) (t : TypeId) : (W.alloc (.cells #[v] t)).cell? ⟨W.heap.size, 0, none⟩ = some v := by
  have h := cell_one_new W v t 0 v rfl
  rwa [show (⟨W.heap.size, 0, none⟩ : Addr).add 0 = ⟨W.heap.size, 0, none⟩ from rfl] at h
theorem cell_alloc_ {W : World} {a : Addr} {v : Value} (o : Obj) (h : W.cell? a = some v) : (W.alloc o).cell? a = some v :=
  ((below_alloc (Below.refl W.heap.size W) o).cell (World.block_lt_of_cell? W a h)).trans h

end Go.Proofs.Ytgdpknmffohhaaa.Pr
