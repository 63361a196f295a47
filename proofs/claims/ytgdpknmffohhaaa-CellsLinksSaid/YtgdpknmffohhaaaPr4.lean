-- PRINTED by print.py (a twelfth state) out of the translation. Not trusted: Lean checks it.
import Derived.Test.YtgdpknmffohhaaaPr0
namespace Go.Proofs.Ytgdpknmffohhaaa.Pr
open Go.RowKit Go.Proofs.YtgdpknmffohhaaaW.PrintWords Go.Proofs.YtgdpknmffohhaaaW.PrintLast Go.Proofs.YtgdpknmffohhaaaW.PrintMore
attribute [local go_sem] max2_int min2_int max_two min_two max_three min_three max_four min_four   -- for this text's walks alone
set_option linter.unusedVariables false
set_option linter.unusedSimpArgs false

/-! ### lib_sides -/
def sidesAt_ (a : Int) (n : Nat) : Int := mn (mx a 0) (n : Int)
theorem sidesAt_le (a : Int) (n : Nat) : 0 ≤ sidesAt_ a n ∧ sidesAt_ a n ≤ n := by unfold sidesAt_ mn mx; split <;> split <;> omega
theorem sidesAt_low {a : Int} (n : Nat) (h : a < 0) : sidesAt_ a n = 0 := by unfold sidesAt_ mn mx; split <;> split <;> omega
theorem sidesAt_mid {a : Int} {n : Nat} (h : 0 ≤ a) (h2 : a ≤ n) : sidesAt_ a n = a := by unfold sidesAt_ mn mx; split <;> split <;> omega
theorem sidesAt_high {a : Int} {n : Nat} (h : (n : Int) < a) : sidesAt_ a n = n := by unfold sidesAt_ mn mx; split <;> (try split) <;> omega
set_option maxHeartbeats 1000000 in
theorem cells_sides.calls (A0 : Option Addr) (c0 : Nat) (l0 : List (S30)) (a1 : Int) (w : World) (hr0 : Kd.C k30 w A0 l0.length l0) (hc0 : l0.length ≤ c0) :
    Calls Try.prog 23 #[.slice A0 l0.length c0, .int .i64 a1] w fun e w' => e = .returned (.tuple #[.int .i64 (sidesAt_ a1 l0.length), .pointer (if 0 < sidesAt_ a1 l0.length then A0.map (·.add ((sidesAt_ a1 l0.length - 1).toNat * 3)) else none), .pointer (if sidesAt_ a1 l0.length < (l0.length : Int) then A0.map (·.add ((sidesAt_ a1 l0.length).toNat * 3)) else none)]) ∧ w = w' := by
  have hlen : l0.length ≤ 9223372036854775807 := hr0.2.1
  have hA : 0 < l0.length → ∃ ad, A0 = some ad := fun h => by obtain ⟨ad, h, _⟩ := hr0.2.2 h; exact ⟨ad, h⟩
  clear hr0
  obtain ⟨n, hn⟩ : ∃ n, n = l0.length := ⟨_, rfl⟩
  rw [← hn] at hc0 hlen hA ⊢
  clear hn
  have hmem : n = 0 ∨ ∃ ad, A0 = some ad := by rcases Nat.eq_zero_or_pos n with h | h; exact .inl h; exact .inr (hA (by omega))
  clear hA
  by_cases h1 : a1 < 0
  · rw [sidesAt_low n h1]
    rcases hmem with rfl | ⟨ad, rfl⟩
    · go_enter Try.func23, Try.ntmps23
      go_wp2
      go_ret3
      exact ⟨rfl, rfl⟩
    · by_cases hz : (0 : Int) < (n : Int)
      · go_enter Try.func23, Try.ntmps23
        go_wp2
        go_ret3
        exact ⟨rfl, rfl⟩
      · go_enter Try.func23, Try.ntmps23
        go_wp2
        go_ret3
        exact ⟨rfl, rfl⟩
  · by_cases h2 : (n : Int) < a1
    · rw [sidesAt_high h2]
      rcases hmem with rfl | ⟨ad, rfl⟩
      · go_enter Try.func23, Try.ntmps23
        go_wp2
        go_ret3
        exact ⟨rfl, rfl⟩
      · by_cases hz : (0 : Int) < (n : Int)
        · go_enter Try.func23, Try.ntmps23
          go_wp2
          go_ret3
          exact ⟨rfl, rfl⟩
        · go_enter Try.func23, Try.ntmps23
          go_wp2
          go_ret3
          exact ⟨rfl, rfl⟩
    · rw [sidesAt_mid (by omega) (by omega)]
      have h3 : 0 ≤ a1 := by omega
      have h4 : a1 ≤ n := by omega
      rcases hmem with rfl | ⟨ad, rfl⟩
      · obtain rfl : a1 = 0 := by omega
        go_enter Try.func23, Try.ntmps23
        go_wp2
        go_ret3
        exact ⟨rfl, rfl⟩
      · by_cases hz : (0 : Int) < a1
        · by_cases hy : a1 < (n : Int)
          · go_enter Try.func23, Try.ntmps23
            go_wp2
            go_ret3
            exact ⟨rfl, rfl⟩
          · go_enter Try.func23, Try.ntmps23
            go_wp2
            go_ret3
            exact ⟨rfl, rfl⟩
        · by_cases hy : a1 < (n : Int)
          · go_enter Try.func23, Try.ntmps23
            go_wp2
            go_ret3
            exact ⟨rfl, rfl⟩
          · go_enter Try.func23, Try.ntmps23
            go_wp2
            go_ret3
            exact ⟨rfl, rfl⟩

end Go.Proofs.Ytgdpknmffohhaaa.Pr
