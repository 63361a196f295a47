-- PRINTED by print.py (a twelfth state) out of the translation. Not trusted: Lean checks it.
import Derived.Test.YtgdpknmffohhaaaPr0
import Derived.Test.YtgdpknmffohhaaaPr3
import Derived.Test.YtgdpknmffohhaaaPr5
import Derived.Test.YtgdpknmffohhaaaPr13
import Derived.Test.YtgdpknmffohhaaaPr21
import Derived.Test.YtgdpknmffohhaaaPr22
namespace Go.Proofs.Ytgdpknmffohhaaa.Pr
open Go.RowKit Go.Proofs.YtgdpknmffohhaaaW.PrintWords Go.Proofs.YtgdpknmffohhaaaW.PrintLast Go.Proofs.YtgdpknmffohhaaaW.PrintMore
attribute [local go_sem] max2_int min2_int max_two min_two max_three min_three max_four min_four   -- for this text's walks alone
set_option linter.unusedVariables false
set_option linter.unusedSimpArgs false

/-! ### cells_Set: function 20 (given) -/
def over_ (s c : Int) (x : S30) : S30 := ⟨x.f0, Go.bits .or .i64 (Go.bits .andNot .i64 x.f1 (Go.bits .and .i64 c 15)) (Go.bits .and .i64 s 15), x.f2⟩
theorem css_Over_is_ (a b c : Int) : css_Over.f a b c = some (Go.bits .or .i64 (Go.bits .andNot .i64 a c) b) := rfl
set_option maxHeartbeats 4000000 in
theorem setOne_ (w : World) (pa : Addr) (b1 b2 : Nat) (x s c : Int) (h1 : w.cell? ⟨pa.block, pa.off + 1, none⟩ = some (.int .i64 x)) (hf : w.frozen? ⟨pa.block, pa.off + 1, none⟩ = false) (h2 : w.cell? ⟨b1, 0, none⟩ = some (.int .i64 s)) (h3 : w.cell? ⟨b2, 0, none⟩ = some (.int .i64 c)) :
    Calls Try.prog 32 #[.pointer (some pa), .pointer (some ⟨b1, 0, none⟩), .pointer (some ⟨b2, 0, none⟩)] w fun e w' => e = .returned (.tuple #[]) ∧ Drawn0 (w.setCell ⟨pa.block, pa.off + 1, none⟩ (.int .i64 (Go.bits .or .i64 (Go.bits .andNot .i64 x (Go.bits .and .i64 c 15)) (Go.bits .and .i64 s 15)))) w' := by
  go_enter Try.func32, Try.ntmps32
  go_wp2
  go_region_with (go_at_call 33; refine (css_Over.calls _ _ _ _ _ (css_Over_is_ _ _ _)).mono ?_; rintro e w' ⟨rfl, ⟨nd, rfl⟩⟩)
  all_goals (go_end0; exact ⟨rfl, ⟨⟨1 + nd, rfl⟩⟩⟩)
set_option maxHeartbeats 4000000 in
theorem eachSet_ (A0 : Option Addr) (c0 : Nat) (l0 : List (S30)) (a1 : Int) (a2 : Int) (s c : Int) (b1 b2 : Nat) (w : World) (hr0 : Kd.C k30 w A0 l0.length l0) (hc0 : l0.length ≤ c0)
    (h2 : w.cell? ⟨b1, 0, none⟩ = some (.int .i64 s)) (h3 : w.cell? ⟨b2, 0, none⟩ = some (.int .i64 c)) (hs : spanned_ l0 a1 a2) (hl : l0.length < 4398046511104) :
    Calls Try.prog 31 #[.slice A0 l0.length c0, .int .i64 a1, .int .i64 a2, .func (.func 32) #[] #[.pointer (some ⟨b1, 0, none⟩), .pointer (some ⟨b2, 0, none⟩)]] w fun e w' => ∃ v0_ : Value, e = .returned (.tuple #[v0_, .int .i64 0]) ∧ Kd.R k30 30 w' w.heap.size (fun _ => True) v0_ (upon_ (over_ s c) l0 a1.toNat a2.toNat) ∧ Below w.heap.size w w' := by
  have HR0 := Aside0.mk hr0
  have HC0 := Aside0.mk hc0
  have HB := Aside0.mk (Below.refl w.heap.size w)
  have H2 := Aside0.mk h2
  have H3 := Aside0.mk h3
  have HL := Aside0.mk hl
  clear hr0 hc0 h2 h3 hl
  obtain ⟨hs0, hs1, hs2⟩ := hs
  obtain ⟨p, rfl⟩ := Int.eq_ofNat_of_zero_le hs0
  obtain ⟨q, rfl⟩ := Int.eq_ofNat_of_zero_le (show 0 ≤ a2 by omega)
  have hpq : p ≤ q := by omega
  have hq : q ≤ l0.length := by omega
  have A6 := Aside0.mk (show cells_span.f l0 (p : Int) (q : Int) = some true by unfold cells_span.f; rw [if_pos hs0, if_pos hs1, decide_eq_true hs2])
  have A8 := Aside0.mk (show slices_Clone_Cell.f l0 = some l0 by unfold slices_Clone_Cell.f; rw [if_pos HL.out])
  clear hs0 hs1 hs2
  rw [Int.toNat_natCast, Int.toNat_natCast]
  have hmx : q ≤ 9223372036854775807 := by have := HL.out; omega
  go_enter Try.func31, Try.ntmps31
  go_wp2_with (first | ((with_reducible refine gate_callee (f := 26) rfl ?_); refine goesL_ (some 15) rfl rfl Try.func26 (by kernel_rfl) rfl #[.slice A0 l0.length c0, .int .i64 (p : Int), .int .i64 (q : Int)] rfl (by (try simp only [List.map_toArray, List.map_cons, List.map_nil]); first | done | rfl) ?_; (with_reducible refine (cells_span.calls _ _ l0 (p : Int) (q : Int) true _ HR0.out HC0.out A6.out).mono ?_); rintro e w' ⟨rfl, ⟨nd, rfl⟩⟩; refine ⟨_, rfl, ?_⟩) | ((with_reducible refine gate_callee (f := 28) rfl ?_); refine goesL_ (some 18) rfl rfl Try.func28 (by kernel_rfl) rfl #[.slice A0 l0.length c0] rfl (by (try simp only [List.map_toArray, List.map_cons, List.map_nil]); first | done | rfl) ?_; (with_reducible refine (slices_Clone_Cell.calls _ _ l0 l0 _ ?side1 ?side2 A8.out).mono ?_); (case side1 => repeat (first | exact HR0.out | (with_reducible refine Kd.C_alloc ?_ _) | (with_reducible refine Kd.C_drewN ?_ _) | (with_reducible refine Kd.C_drew ?_))); (case side2 => exact HC0.out); rintro e w9 ⟨v155, rfl, ho0, hb⟩; refine ⟨_, rfl, ?_⟩; have n0_ := Aside0.mk (Kd.R_lower ho0 (below_size (by repeat (first | (with_reducible first | exact HB.out | apply below_alloc | apply pw_below_drewN | apply below_drew1) | exact HB.out)))); have n1_ := Aside0.mk (below_step (by repeat (first | (with_reducible first | exact HB.out | apply below_alloc | apply pw_below_drewN | apply below_drew1) | exact HB.out)) hb); clear HB; have HO156 := n0_; have HB := n1_; clear n0_ n1_; (try clear hb); (try clear ho0)))
  go_loopw [11] (fun v wr => ∃ (k : Nat) (xs : List S30), v = .int .i64 (k : Int) ∧ p ≤ k ∧ k ≤ q ∧ Aside0 (xs.length = l0.length) ∧ Aside0 (upon_ (over_ s c) xs k q = upon_ (over_ s c) l0 p q) ∧ Aside0 (Kd.R k30 30 wr w.heap.size (fun _ => True) v155 xs) ∧ Aside0 (Below w.heap.size w wr)) (fun v _ => q - (intOf v).toNat)
  case atStart => exact ⟨p, l0, rfl, Nat.le_refl _, hpq, ⟨rfl⟩, ⟨rfl⟩, HO156, HB⟩
  case round =>
    obtain ⟨k, xs, rfl, hk1, hk2, HN, HU, HO, HB⟩ := hrel
    by_cases hlt : k < q
    · have hkx : k < xs.length := by have := HN.out; omega
      obtain ⟨g, cap, ev, hgb, hgl, cl, hcl⟩ := Kd.R_form HO.out (by omega)
      subst ev
      obtain ⟨⟨x0, x1, x2⟩, ⟨f0, f1, f2⟩, hset, _⟩ := cell_elem_ HO.out k hkx
      have HSET := Aside0.mk (hset ((over_ s c (rd_T30 xs (k : Int))).f1))
      have HST := Aside0.mk (upon_step_ (over_ s c) xs k q hlt (by rw [HN.out]; exact hq) _ (rd_at_ hkx))
      have H2' := (HB.out.cell (World.block_lt_of_cell? w _ H2.out)).trans H2.out
      have H3' := (HB.out.cell (World.block_lt_of_cell? w _ H3.out)).trans H3.out
      go_wp2_with (go_at_call 32; refine (setOne_ _ ⟨g, k * 3, none⟩ b1 b2 _ s c x1 f1 H2' H3').mono ?_; rintro e w' ⟨rfl, ⟨n, rfl⟩⟩)
      go_roundw
      case rel => exact ⟨k + 1, _, by go_num, by omega, by omega, ⟨by rw [List.length_set]; exact HN.out⟩, ⟨HST.out.trans HU.out⟩, ⟨Kd.R_drewN HSET.out _⟩, ⟨pw_below_drewN (below_set HB.out hgb) _⟩⟩
      case measure => simp [intOf]; omega
    · obtain rfl : q = k := by omega
      have e_ := HU.out
      rw [upon_none_ _ _ _ (by rw [HN.out]; exact hq)] at e_
      have E_ := Aside0.mk e_
      clear e_
      go_wp2
      go_ret2
      exact ⟨_, rfl, by rw [← E_.out]; exact HO.out, HB.out⟩
set_option maxHeartbeats 4000000 in
theorem eachOff_ (A0 : Option Addr) (c0 : Nat) (l0 : List (S30)) (a1 : Int) (a2 : Int) (fv : Value) (w : World) (hr0 : Kd.C k30 w A0 l0.length l0) (hc0 : l0.length ≤ c0) (hs : ¬ spanned_ l0 a1 a2) :
    Calls Try.prog 31 #[.slice A0 l0.length c0, .int .i64 a1, .int .i64 a2, fv] w fun e w' => e = .returned (.tuple #[.slice none 0 0, .int .i64 1]) ∧ Drawn0 w w' := by
  have A6 := Aside0.mk (show cells_span.f l0 a1 a2 = some false by
    unfold spanned_ at hs
    unfold cells_span.f
    by_cases h1 : a1 ≥ 0
    · rw [if_pos h1]
      by_cases h2 : a1 ≤ a2
      · rw [if_pos h2, decide_eq_false (fun h3 => hs ⟨h1, h2, h3⟩)]
      · rw [if_neg h2]
    · rw [if_neg h1])
  have HR0 := Aside0.mk hr0
  have HC0 := Aside0.mk hc0
  clear hr0 hc0 hs
  go_enter Try.func31, Try.ntmps31
  go_wp2_with (go_at_call 26; refine (cells_span.calls _ _ l0 a1 a2 false _ HR0.out HC0.out A6.out).mono ?_; rintro e w' ⟨rfl, ⟨nd, rfl⟩⟩)
  go_ret2
  exact ⟨rfl, ⟨⟨nd, rfl⟩⟩⟩
def cells_Set.f (l0 : List (S30)) (a1 : Int) (a2 : Int) (a3 : Int) (a4 : Int) : Option ((List (S30)) × Int) :=
  if spanned_ l0 a1 a2 then (if l0.length < 4398046511104 then some (upon_ (over_ a3 a4) l0 a1.toNat a2.toNat, 0) else none) else some ([], 1)
set_option maxHeartbeats 4000000 in
theorem cells_Set.calls (A0 : Option Addr) (c0 : Nat) (l0 : List (S30)) (a1 : Int) (a2 : Int) (a3 : Int) (a4 : Int) (r1 : List (S30)) (r2 : Int) (w : World) (hr0 : Kd.C k30 w A0 l0.length l0) (hc0 : l0.length ≤ c0) (h : cells_Set.f l0 a1 a2 a3 a4 = some (r1, r2)) :
    Calls Try.prog 20 #[.slice A0 l0.length c0, .int .i64 a1, .int .i64 a2, .int .i64 a3, .int .i64 a4] w fun e w' => ∃ v0_ : Value, e = .returned (.tuple #[v0_, .int .i64 r2]) ∧ Kd.R k30 30 w' w.heap.size (fun _ => True) v0_ r1 ∧ Below w.heap.size w w' := by
  unfold cells_Set.f at h
  by_cases hs : spanned_ l0 a1 a2
  · rw [if_pos hs] at h
    by_cases hl : l0.length < 4398046511104
    · rw [if_pos hl] at h
      simp only [Option.some.injEq, Prod.mk.injEq] at h
      obtain ⟨rfl, rfl⟩ := h
      have HE := Aside0.mk (eachSet_ A0 c0 l0 a1 a2 a3 a4 w.heap.size (w.heap.size + 1) ((w.alloc (.cells #[.int .i64 a3] 3)).alloc (.cells #[.int .i64 a4] 3)) (Kd.C_alloc (Kd.C_alloc hr0 _) _) hc0 (cell_alloc_ _ (cell_new_ w _ _)) (by have h_ := cell_new_ (w.alloc (.cells #[.int .i64 a3] 3)) (.int .i64 a4) 3; rwa [World.size_alloc] at h_) hs hl)
      clear hr0 hc0 hs hl
      go_enter Try.func20, Try.ntmps20
      go_wp2_with (go_at_call 31; refine HE.out.mono ?_; rintro e w' ⟨v, rfl, ho, hb⟩; have HO := Aside0.mk ho; have HB := Aside0.mk hb; clear ho hb)
      go_ret2
      exact ⟨_, rfl, Kd.R_lower HO.out (by simp <;> omega), below_then (below_alloc (below_alloc (Below.refl _ _) _) _) (by simp <;> omega) HB.out⟩
    · rw [if_neg hl] at h
      exact absurd h (by simp)
  · rw [if_neg hs] at h
    simp only [Option.some.injEq, Prod.mk.injEq] at h
    obtain ⟨rfl, rfl⟩ := h
    have HE := Aside0.mk (eachOff_ A0 c0 l0 a1 a2 (.func (.func 32) #[] #[.pointer (some ⟨w.heap.size, 0, none⟩), .pointer (some ⟨w.heap.size + 1, 0, none⟩)]) ((w.alloc (.cells #[.int .i64 a3] 3)).alloc (.cells #[.int .i64 a4] 3)) (Kd.C_alloc (Kd.C_alloc hr0 _) _) hc0 hs)
    clear hr0 hc0 hs
    go_enter Try.func20, Try.ntmps20
    go_wp2_with (go_at_call 31; refine HE.out.mono ?_; rintro e w' ⟨rfl, ⟨nd, rfl⟩⟩)
    go_ret2
    exact ⟨_, rfl, Kd.R_nil _ _ _ _ _, pw_below_drewN (below_alloc (below_alloc (Below.refl _ _) (.cells #[.int .i64 a3] 3)) (.cells #[.int .i64 a4] 3)) nd⟩

end Go.Proofs.Ytgdpknmffohhaaa.Pr
