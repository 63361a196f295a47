-- PRINTED by print.py (a twelfth state) out of the translation. Not trusted: Lean checks it.
import Derived.Test.YtgdpknmffohhaaaPr0
namespace Go.Proofs.Ytgdpknmffohhaaa.Pr
open Go.RowKit Go.Proofs.YtgdpknmffohhaaaW.PrintWords Go.Proofs.YtgdpknmffohhaaaW.PrintLast Go.Proofs.YtgdpknmffohhaaaW.PrintMore
attribute [local go_sem] max2_int min2_int max_two min_two max_three min_three max_four min_four   -- for this text's walks alone
set_option linter.unusedVariables false
set_option linter.unusedSimpArgs false

/-! ### chars_Text: function 34 (given) -/
def chars_Text.f (l0 : List Int) : Option ByteArray := some (runesBytes l0)
set_option maxHeartbeats 1000000 in
theorem chars_Text.calls (A0 : Option Addr) (c0 : Nat) (l0 : List Int) (r : ByteArray) (w : World) (hr0 : Kd.C (Kd.int .i32) w A0 l0.length l0) (hc0 : l0.length ≤ c0) (h : chars_Text.f l0 = some r) :
    Calls Try.prog 34 #[.slice A0 l0.length c0] w fun e w' => e = .returned (.string r) ∧ Drawn0 w w' := by
  have hcv : (convert 56 9 (.slice A0 l0.length c0)).run Try.prog w = .ok (.string (runesBytes l0)) w := by
    rcases Nat.eq_zero_or_pos l0.length with h0 | h0
    · obtain rfl : l0 = [] := List.eq_nil_of_length_eq_zero h0
      cases A0 with
      | none => exact run_convert_runes_nil w _ _ _ _ _ Try.underlying56 Try.underlying21 Try.underlying9
      | some ad => exact (run_convert_runes w _ _ _ ad 0 c0 [] (Nat.le_refl _) Try.underlying56 Try.underlying21 Try.underlying9 (fun j hj => absurd hj (by simp)))
    · obtain ⟨ad, rfl, hc⟩ := hr0.2.2 h0
      have h1 := run_convert_runes (P := Try.prog) w 56 9 21 ad l0.length c0 l0 (Nat.le_refl _) Try.underlying56 Try.underlying21 Try.underlying9 (fun j hj => by
        obtain ⟨c, hl, hk, hcell⟩ := hc j _ (List.getElem?_eq_getElem hj)
        have hk' : c = [.int .i32 l0[j]] := hk
        subst hk'
        have h2 := hcell 0 _ rfl
        rw [show (Kd.int .i32).sz = 1 from rfl, Nat.mul_one, Nat.add_zero] at h2
        rw [h2, List.getD_eq_getElem?_getD, List.getElem?_eq_getElem hj]
        rfl)
      rwa [List.take_length] at h1
  cases h
  clear hr0 hc0
  go_enter Try.func34, Try.ntmps34
  go_wp2
  go_ret
  exact ⟨rfl, Drawn0.refl _⟩

end Go.Proofs.Ytgdpknmffohhaaa.Pr
