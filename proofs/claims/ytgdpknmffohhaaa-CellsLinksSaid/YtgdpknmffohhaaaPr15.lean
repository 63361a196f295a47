-- PRINTED by print.py (a twelfth state) out of the translation. Not trusted: Lean checks it.
import Derived.Test.YtgdpknmffohhaaaPr0
import Derived.Test.YtgdpknmffohhaaaPr5
import Derived.Test.YtgdpknmffohhaaaPr6
import Derived.Test.YtgdpknmffohhaaaPr7
import Derived.Test.YtgdpknmffohhaaaPr13
import Derived.Test.YtgdpknmffohhaaaPr14
namespace Go.Proofs.Ytgdpknmffohhaaa.Pr
open Go.RowKit Go.Proofs.YtgdpknmffohhaaaW.PrintWords Go.Proofs.YtgdpknmffohhaaaW.PrintLast Go.Proofs.YtgdpknmffohhaaaW.PrintMore
attribute [local go_sem] max2_int min2_int max_two min_two max_three min_three max_four min_four   -- for this text's walks alone
set_option linter.unusedVariables false
set_option linter.unusedSimpArgs false

/-! ### cells_Cut: function 17 (given) -/
def cells_Cut.f (l0 : List (S30)) (a1 : Int) (a2 : Int) : Option ((List (S30)) × Int) :=
  if spanned_ l0 a1 a2 then (if l0.length < 2199023255552 then some (l0.take a1.toNat ++ l0.drop a2.toNat, 0) else none) else some ([], 1)
set_option maxHeartbeats 4000000 in
theorem cells_Cut.calls (A0 : Option Addr) (c0 : Nat) (l0 : List (S30)) (a1 : Int) (a2 : Int) (r1 : List (S30)) (r2 : Int) (w : World) (hr0 : Kd.C k30 w A0 l0.length l0) (hc0 : l0.length ≤ c0) (h : cells_Cut.f l0 a1 a2 = some (r1, r2)) :
    Calls Try.prog 17 #[.slice A0 l0.length c0, .int .i64 a1, .int .i64 a2] w fun e w' => ∃ v0_ : Value, e = .returned (.tuple #[v0_, .int .i64 r2]) ∧ Kd.R k30 30 w' w.heap.size (fun _ => True) v0_ r1 ∧ Below w.heap.size w w' := by
  have HR0 := Aside0.mk hr0
  have HC0 := Aside0.mk hc0
  have HB := Aside0.mk (Below.refl w.heap.size w)
  unfold cells_Cut.f at h
  by_cases hs : spanned_ l0 a1 a2
  · rw [if_pos hs] at h
    by_cases hl : l0.length < 2199023255552
    · rw [if_pos hl] at h
      simp only [Option.some.injEq, Prod.mk.injEq] at h
      obtain ⟨rfl, rfl⟩ := h
      have A6 := Aside0.mk (span_yes_ hs)
      obtain ⟨h0, h1, h2⟩ := hs
      obtain ⟨p, rfl⟩ := Int.eq_ofNat_of_zero_le h0
      obtain ⟨q, rfl⟩ := Int.eq_ofNat_of_zero_le (show 0 ≤ a2 by omega)
      have q1 := takeC_ A0 l0 c0 p (by omega) hc0
      obtain ⟨A1, c1, q2, hc1, hC1⟩ := dropC_ A0 l0 c0 q (by omega) hc0
      have C1 := Aside0.mk (hC1 w hr0)
      have C0 := Aside0.mk (Kd.C_take hr0 (show p ≤ l0.length by omega))
      have L1 := Aside0.mk (show (l0.take p).length = p by rw [List.length_take]; omega)
      have L2 := Aside0.mk (show (l0.drop q).length = l0.length - q by rw [List.length_drop])
      have HC1 := Aside0.mk hc1
      have HF := Aside0.mk (show slices_Concat_Cell.f [l0.take p, l0.drop q] = some (l0.take p ++ l0.drop q) by
        unfold slices_Concat_Cell.f
        have e_ : [l0.take p, l0.drop q].flatten = l0.take p ++ l0.drop q := by simp
        rw [e_, if_pos (by rw [List.length_append, L1.out, L2.out]; omega)])
      rw [Int.toNat_natCast, Int.toNat_natCast]
      have hpc : p ≤ c0 := by omega
      have HPC := Aside0.mk hpc
      clear hr0 hc0 hl h0 h1 h2 hc1 hC1 hpc
      go_enter Try.func17, Try.ntmps17
      go_wp2_with (go_at_call 26; refine (cells_span.calls _ _ l0 (p : Int) (q : Int) true _ HR0.out HC0.out A6.out).mono ?_; rintro e w' ⟨rfl, ⟨nd, rfl⟩⟩)
      have hle2 : l0.length - q ≤ c1 := by have h_ := HC1.out; rw [L2.out] at h_; exact h_
      have HL2 := Aside0.mk hle2
      clear hle2
      go_region_with (go_at_call 27; refine (slices_Concat_Cell.calls _ _ [l0.take p, l0.drop q] (l0.take p ++ l0.drop q) _ (twoRows_ _ L1.out L2.out HPC.out HL2.out (by repeat (first | exact C0.out | (with_reducible refine Kd.C_alloc ?_ _) | (with_reducible refine Kd.C_drewN ?_ _) | (with_reducible refine Kd.C_drew ?_))) (by repeat (first | exact C1.out | (with_reducible refine Kd.C_alloc ?_ _) | (with_reducible refine Kd.C_drewN ?_ _) | (with_reducible refine Kd.C_drew ?_))) _) (Nat.le_refl _) HF.out).mono ?_; rintro e w1 ⟨v1, rfl, ho, hb⟩; have HO := Aside0.mk (Kd.R_lower ho (below_size (by repeat (first | (with_reducible first | exact HB.out | apply below_alloc | apply pw_below_drewN | apply below_drew1) | exact HB.out)))); have HB1 := Aside0.mk (below_step (by repeat (first | (with_reducible first | exact HB.out | apply below_alloc | apply pw_below_drewN | apply below_drew1) | exact HB.out)) hb); clear ho hb)
      all_goals (go_wp2; go_ret2; exact ⟨_, rfl, HO.out, HB1.out⟩)
    · rw [if_neg hl] at h
      exact absurd h (by simp)
  · rw [if_neg hs] at h
    simp only [Option.some.injEq, Prod.mk.injEq] at h
    obtain ⟨rfl, rfl⟩ := h
    have A6 := Aside0.mk (span_no_ hs)
    clear hr0 hc0 hs
    go_enter Try.func17, Try.ntmps17
    go_wp2_with (go_at_call 26; refine (cells_span.calls _ _ l0 a1 a2 false _ HR0.out HC0.out A6.out).mono ?_; rintro e w' ⟨rfl, ⟨nd, rfl⟩⟩)
    go_ret2
    exact ⟨_, rfl, Kd.R_nil _ _ _ _ _, pw_below_drewN (Below.refl _ _) _⟩

end Go.Proofs.Ytgdpknmffohhaaa.Pr
