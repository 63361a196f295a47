-- PRINTED by print.py (a twelfth state) out of the translation. Not trusted: Lean checks it.
import Derived.Test.YtgdpknmffohhaaaPr0
import Derived.Test.YtgdpknmffohhaaaPr6
import Derived.Test.YtgdpknmffohhaaaPr7
import Derived.Test.YtgdpknmffohhaaaPr13
import Derived.Test.YtgdpknmffohhaaaPr14
namespace Go.Proofs.Ytgdpknmffohhaaa.Pr
open Go.RowKit Go.Proofs.YtgdpknmffohhaaaW.PrintWords Go.Proofs.YtgdpknmffohhaaaW.PrintLast Go.Proofs.YtgdpknmffohhaaaW.PrintMore
attribute [local go_sem] max2_int min2_int max_two min_two max_three min_three max_four min_four   -- for this text's walks alone
set_option linter.unusedVariables false
set_option linter.unusedSimpArgs false

/-! ### cells_Insert: function 15 (given) -/
def cells_Insert.f (l0 : List (S30)) (a1 : Int) (l2 : List (S30)) : Option ((List (S30)) × Int) :=
  if 0 ≤ a1 ∧ a1 ≤ (l0.length : Int) then (if l0.length + l2.length < 4398046511104 then some (l0.take a1.toNat ++ l2 ++ l0.drop a1.toNat, 0) else none) else some ([], 1)
set_option maxHeartbeats 4000000 in
theorem cells_Insert.calls (A0 : Option Addr) (c0 : Nat) (l0 : List (S30)) (a1 : Int) (A2 : Option Addr) (c2 : Nat) (l2 : List (S30)) (r1 : List (S30)) (r2 : Int) (w : World) (hr0 : Kd.C k30 w A0 l0.length l0) (hc0 : l0.length ≤ c0) (hr2 : Kd.C k30 w A2 l2.length l2) (hc2 : l2.length ≤ c2) (h : cells_Insert.f l0 a1 l2 = some (r1, r2)) :
    Calls Try.prog 15 #[.slice A0 l0.length c0, .int .i64 a1, .slice A2 l2.length c2] w fun e w' => ∃ v0_ : Value, e = .returned (.tuple #[v0_, .int .i64 r2]) ∧ Kd.R k30 30 w' w.heap.size (fun _ => True) v0_ r1 ∧ Below w.heap.size w w' := by
  have HR0 := Aside0.mk hr0
  have HC0 := Aside0.mk hc0
  have HR2 := Aside0.mk hr2
  have HC2 := Aside0.mk hc2
  have HB := Aside0.mk (Below.refl w.heap.size w)
  unfold cells_Insert.f at h
  by_cases hs : 0 ≤ a1 ∧ a1 ≤ (l0.length : Int)
  · rw [if_pos hs] at h
    by_cases hl : l0.length + l2.length < 4398046511104
    · rw [if_pos hl] at h
      simp only [Option.some.injEq, Prod.mk.injEq] at h
      obtain ⟨rfl, rfl⟩ := h
      obtain ⟨h0, h1⟩ := hs
      have A6 := Aside0.mk (span_yes_ (l0 := l0) (a1 := a1) (a2 := a1) ⟨h0, Int.le_refl _, h1⟩)
      obtain ⟨p, rfl⟩ := Int.eq_ofNat_of_zero_le h0
      have q1 := takeC_ A0 l0 c0 p (by omega) hc0
      obtain ⟨A1, c1, q2, hc1, hC1⟩ := dropC_ A0 l0 c0 p (by omega) hc0
      have C1 := Aside0.mk (hC1 w hr0)
      have C0 := Aside0.mk (Kd.C_take hr0 (show p ≤ l0.length by omega))
      have L1 := Aside0.mk (show (l0.take p).length = p by rw [List.length_take]; omega)
      have L2 := Aside0.mk (show (l0.drop p).length = l0.length - p by rw [List.length_drop])
      have HF := Aside0.mk (show slices_Concat_Cell.f [l0.take p, l2, l0.drop p] = some (l0.take p ++ l2 ++ l0.drop p) by
        unfold slices_Concat_Cell.f
        have e_ : [l0.take p, l2, l0.drop p].flatten = l0.take p ++ l2 ++ l0.drop p := by simp
        rw [e_, if_pos (by rw [List.length_append, List.length_append, L1.out, L2.out]; omega)])
      rw [Int.toNat_natCast]
      have HPC := Aside0.mk (show p ≤ c0 by omega)
      have HL2 := Aside0.mk (show l0.length - p ≤ c1 by rw [L2.out] at hc1; exact hc1)
      clear hr0 hc0 hr2 hc2 hl h0 h1 hc1 hC1
      go_enter Try.func15, Try.ntmps15
      go_wp2_with (go_at_call 26; refine (cells_span.calls _ _ l0 (p : Int) (p : Int) true _ HR0.out HC0.out A6.out).mono ?_; rintro e w' ⟨rfl, ⟨nd, rfl⟩⟩)
      go_region_with (go_at_call 27; refine (slices_Concat_Cell.calls _ _ [l0.take p, l2, l0.drop p] (l0.take p ++ l2 ++ l0.drop p) _ (threeRows_ _ L1.out rfl L2.out HPC.out HC2.out HL2.out (by repeat (first | exact C0.out | (with_reducible refine Kd.C_alloc ?_ _) | (with_reducible refine Kd.C_drewN ?_ _) | (with_reducible refine Kd.C_drew ?_))) (by repeat (first | exact HR2.out | (with_reducible refine Kd.C_alloc ?_ _) | (with_reducible refine Kd.C_drewN ?_ _) | (with_reducible refine Kd.C_drew ?_))) (by repeat (first | exact C1.out | (with_reducible refine Kd.C_alloc ?_ _) | (with_reducible refine Kd.C_drewN ?_ _) | (with_reducible refine Kd.C_drew ?_))) _) (Nat.le_refl _) HF.out).mono ?_; rintro e w1 ⟨v1, rfl, ho, hb⟩; have HO := Aside0.mk (Kd.R_lower ho (below_size (by repeat (first | (with_reducible first | exact HB.out | apply below_alloc | apply pw_below_drewN | apply below_drew1) | exact HB.out)))); have HB1 := Aside0.mk (below_step (by repeat (first | (with_reducible first | exact HB.out | apply below_alloc | apply pw_below_drewN | apply below_drew1) | exact HB.out)) hb); clear ho hb)
      all_goals (go_wp2; go_ret2; exact ⟨_, rfl, HO.out, HB1.out⟩)
    · rw [if_neg hl] at h
      exact absurd h (by simp)
  · rw [if_neg hs] at h
    simp only [Option.some.injEq, Prod.mk.injEq] at h
    obtain ⟨rfl, rfl⟩ := h
    have A6 := Aside0.mk (span_no_ (l0 := l0) (a1 := a1) (a2 := a1) (fun h_ => hs ⟨h_.1, h_.2.2⟩))
    clear hr0 hc0 hr2 hc2 hs
    go_enter Try.func15, Try.ntmps15
    go_wp2_with (go_at_call 26; refine (cells_span.calls _ _ l0 a1 a1 false _ HR0.out HC0.out A6.out).mono ?_; rintro e w' ⟨rfl, ⟨nd, rfl⟩⟩)
    go_ret2
    exact ⟨_, rfl, Kd.R_nil _ _ _ _ _, pw_below_drewN (Below.refl _ _) _⟩

end Go.Proofs.Ytgdpknmffohhaaa.Pr
