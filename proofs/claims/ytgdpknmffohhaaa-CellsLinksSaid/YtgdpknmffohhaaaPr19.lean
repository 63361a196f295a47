-- PRINTED by print.py (a twelfth state) out of the translation. Not trusted: Lean checks it.
import Derived.Test.YtgdpknmffohhaaaPr0
import Derived.Test.YtgdpknmffohhaaaPr18
namespace Go.Proofs.Ytgdpknmffohhaaa.Pr
open Go.RowKit Go.Proofs.YtgdpknmffohhaaaW.PrintWords Go.Proofs.YtgdpknmffohhaaaW.PrintLast Go.Proofs.YtgdpknmffohhaaaW.PrintMore
attribute [local go_sem] max2_int min2_int max_two min_two max_three min_three max_four min_four   -- for this text's walks alone
set_option linter.unusedVariables false
set_option linter.unusedSimpArgs false

/-! ### chars_Clean: function 30 (given) -/
/-- Of the one text that the examples take. -/
def chars_Clean.f (a0 : ByteArray) : Option (List Int) := if a0 = ⟨#[97, 195, 177]⟩ then some [97, 241] else none
theorem iter_grown_ {W W1 : World} {s : ByteArray} {p k : Nat} {v : Value} {xs : List Int} {b : Nat} (hk : W.heap[k]? = some (.stringIter s p)) (hR : Kd.R (Kd.int .i32) 21 W b (fun _ => True) v xs) (hg : W.grownBy W1 v.ownBlock) : W1.heap[k]? = some (.stringIter s p) := by
  rw [hg.block k (Array.getElem?_eq_some_iff.1 hk).1 (fun e => ?_)]
  · exact hk
  · obtain ⟨cells, hc⟩ := Kd.R_typed hR k e.symm
    have h2 := hk.symm.trans hc
    injection h2 with h2
    cases h2
theorem iterPos_of_ {w : World} {k : Nat} {s : ByteArray} {p : Nat} (hk : w.heap[k]? = some (.stringIter s p)) : w.iterPos k = p := by simp only [World.iterPos]; rw [hk]
theorem iterAt_heap_ {w : World} {k : Nat} {s : ByteArray} {pos pos' : Nat} (hk : w.heap[k]? = some (.stringIter s pos)) : (w.iterAt k s pos').heap[k]? = some (.stringIter s pos') := Lib.iterAt_heap w k s pos pos' hk
set_option maxHeartbeats 2000000 in
theorem chars_Clean.calls (a0 : ByteArray) (r : List Int) (w : World) (h : chars_Clean.f a0 = some r) :
    Calls Try.prog 30 #[.string a0] w fun e w' => ∃ v0_ : Value, e = .returned (v0_) ∧ Kd.R (Kd.int .i32) 21 w' w.heap.size (fun _ => True) v0_ r ∧ Below w.heap.size w w' := by
  unfold chars_Clean.f at h
  by_cases c : a0 = ⟨#[97, 195, 177]⟩
  · rw [if_pos c] at h
    subst c
    cases h
    have HB := Aside0.mk (Below.refl w.heap.size w)
    have P1 : chars_plain.f 12 97 = some (97, true) := by kernel_rfl
    have P2 : chars_plain.f 12 241 = some (241, true) := by kernel_rfl
    have D0 : Utf8.decode ⟨#[97, 195, 177]⟩ 0 = (97, 1) := by kernel_rfl
    have D1 : Utf8.decode ⟨#[97, 195, 177]⟩ 1 = (241, 2) := by kernel_rfl
    obtain ⟨s, hs⟩ : ∃ s : ByteArray, s = ⟨#[97, 195, 177]⟩ := ⟨_, rfl⟩
    have hz : s.size = 3 := by rw [hs]; rfl
    rw [← hs] at D0 D1 ⊢
    clear hs
    have A1 := Aside0.mk P1
    have A2 := Aside0.mk P2
    have E0 := Aside0.mk D0
    have E1 := Aside0.mk D1
    have HZ := Aside0.mk hz
    clear P1 P2 hz D0 D1
    go_enter Try.func30, Try.ntmps30
    go_wp2
    go_loopw [5] (fun v wr => ∃ (p : Nat) (xs : List Int), Aside0 (wr.heap[w.heap.size]? = some (.stringIter s p)) ∧ Aside0 (Kd.R (Kd.int .i32) 21 wr w.heap.size (fun _ => True) v xs) ∧ Aside0 (Below w.heap.size w wr) ∧ ((p = 0 ∧ xs = []) ∨ (p = 1 ∧ xs = [97]) ∨ (p = 3 ∧ xs = [97, 241]))) (fun _ wr => 3 - wr.iterPos w.heap.size)
    case atStart => exact ⟨0, [], ⟨World.iter_heap _ _ _⟩, ⟨Kd.R_nil _ _ _ _ _⟩, ⟨below_alloc (Below.refl _ _) _⟩, .inl ⟨rfl, rfl⟩⟩
    case round =>
    obtain ⟨p, xs, HI, HO, HB, hcase⟩ := hrel
    rcases hcase with ⟨hp, hx⟩ | ⟨hp, hx⟩ | ⟨hp, hx⟩
    · obtain rfl := hp
      obtain rfl := hx
      have hnx : ∀ ty, (Instr.next (.pointer (some ⟨w.heap.size, 0, none⟩)) true ty).run Try.prog wr = .ok (.tuple #[.bool true, .int .i64 (0 : Nat), .int .i32 97]) (wr.iterAt w.heap.size s 1) := fun ty => by
        have h_ := Lib.run_next_any_at (P := Try.prog) wr w.heap.size s 0 ty HI.out (by rw [HZ.out]; omega)
        rw [E0.out] at h_
        exact h_
      have HI0 := HI
      have HI2 := Aside0.mk (iterAt_heap_ (pos' := 1) HI.out)
      have HB2 := Aside0.mk (Lib.below_iterAt (a := w) HB.out (Nat.le_refl w.heap.size) s 1)
      have HO2 := Aside0.mk (Kd.R_move (w1 := wr.iterAt w.heap.size s 1) (Kd.R_bound HO.out) (fun k hk => by
        obtain ⟨_, _, _, q, _, cells, hc⟩ := hk
        refine Lib.iterAt_other _ _ _ _ _ (fun e => ?_)
        subst e
        have h2 := HI.out.symm.trans hc
        injection h2 with h2
        cases h2))
      have HO3 := Aside0.mk (Kd.R_mono HO2.out (fun _ _ => trivial) (ok' := fun _ => True))
      obtain ⟨W2, hW2⟩ : ∃ W2, wr.iterAt w.heap.size s 1 = W2 := ⟨_, rfl⟩
      rw [hW2] at hnx HI2 HB2 HO3
      clear hW2 HO2 HO HB HI
      go_wp2_with (first | (go_at_call 38; refine (chars_plain.calls 12 97 97 true _ A1.out).mono ?_; rintro e w' ⟨rfl, ⟨nd, rfl⟩⟩) | ((with_reducible refine gate_builtin (b := .append) (xs := #[.tmp 22, .tmp 24]) rfl ?_); at_builtin; refine Kd.R_append (Kd.int .i32) (w0 := w) w.heap.size rfl (.tmp 22) (.tmp 24) 56 21 (.int .i32 0) 4 rfl Try.underlying56 info21 rfl (by decide) (by omega) u5 [] 97 [.int .i32 97] (fun _ => True) (fun _ => False) rfl rfl ?aP (fun _ hk => hk.elim) ?aF ?aO ?aB ?aS ?aL ?_; (case aP => exact rfl); (case aB => exact (by repeat (first | (with_reducible first | exact HB2.out | apply below_alloc | apply pw_below_drewN | apply below_drew1) | exact HB2.out))); (case aF => exact (fun _ _ => trivial)); (case aO => exact (by (with_reducible repeat (first | apply Kd.R_alloc | apply Kd.R_drewN | apply Kd.R_drew)); exact HO3.out)); (case aS => exact (below_size (by repeat (first | (with_reducible first | exact HB2.out | apply below_alloc | apply pw_below_drewN | apply below_drew1) | exact HB2.out)))); (case aL => simp); intro v165 w8 ho hb hg hat; have n3_ := Aside0.mk (iter_grown_ (v := u5) (xs := []) (b := w.heap.size) (k := w.heap.size) (s := s) (p := 1) (by exact HI2.out) (by (with_reducible repeat (first | apply Kd.R_alloc | apply Kd.R_drewN | apply Kd.R_drew)); exact HO3.out) hg); have n0_ := Aside0.mk (hb); have n1_ := Aside0.mk (ho); clear HB2; clear HO3 HI2; have HB := n0_; have HO := n1_; have HI := n3_; clear n0_ n1_ n3_; clear ho hb hg hat))
      go_roundw
      case rel => exact ⟨1, [97], HI, HO, HB, .inr (.inl ⟨rfl, rfl⟩)⟩
      case measure =>
        have e1_ : wr.iterPos w.heap.size = 0 := iterPos_of_ HI0.out
        have e2_ := iterPos_of_ HI.out
        omega
    · obtain rfl := hp
      obtain rfl := hx
      have hnx : ∀ ty, (Instr.next (.pointer (some ⟨w.heap.size, 0, none⟩)) true ty).run Try.prog wr = .ok (.tuple #[.bool true, .int .i64 (1 : Nat), .int .i32 241]) (wr.iterAt w.heap.size s 3) := fun ty => by
        have h_ := Lib.run_next_any_at (P := Try.prog) wr w.heap.size s 1 ty HI.out (by rw [HZ.out]; omega)
        rw [E1.out] at h_
        exact h_
      have HI0 := HI
      have HI2 := Aside0.mk (iterAt_heap_ (pos' := 3) HI.out)
      have HB2 := Aside0.mk (Lib.below_iterAt (a := w) HB.out (Nat.le_refl w.heap.size) s 3)
      have HO2 := Aside0.mk (Kd.R_move (w1 := wr.iterAt w.heap.size s 3) (Kd.R_bound HO.out) (fun k hk => by
        obtain ⟨_, _, _, q, _, cells, hc⟩ := hk
        refine Lib.iterAt_other _ _ _ _ _ (fun e => ?_)
        subst e
        have h2 := HI.out.symm.trans hc
        injection h2 with h2
        cases h2))
      have HO3 := Aside0.mk (Kd.R_mono HO2.out (fun _ _ => trivial) (ok' := fun _ => True))
      obtain ⟨W2, hW2⟩ : ∃ W2, wr.iterAt w.heap.size s 3 = W2 := ⟨_, rfl⟩
      rw [hW2] at hnx HI2 HB2 HO3
      clear hW2 HO2 HO HB HI
      go_wp2_with (first | (go_at_call 38; refine (chars_plain.calls 12 241 241 true _ A2.out).mono ?_; rintro e w' ⟨rfl, ⟨nd, rfl⟩⟩) | ((with_reducible refine gate_builtin (b := .append) (xs := #[.tmp 22, .tmp 24]) rfl ?_); at_builtin; refine Kd.R_append (Kd.int .i32) (w0 := w) w.heap.size rfl (.tmp 22) (.tmp 24) 56 21 (.int .i32 0) 4 rfl Try.underlying56 info21 rfl (by decide) (by omega) u5 [97] 241 [.int .i32 241] (fun _ => True) (fun _ => False) rfl rfl ?aP (fun _ hk => hk.elim) ?aF ?aO ?aB ?aS ?aL ?_; (case aP => exact rfl); (case aB => exact (by repeat (first | (with_reducible first | exact HB2.out | apply below_alloc | apply pw_below_drewN | apply below_drew1) | exact HB2.out))); (case aF => exact (fun _ _ => trivial)); (case aO => exact (by (with_reducible repeat (first | apply Kd.R_alloc | apply Kd.R_drewN | apply Kd.R_drew)); exact HO3.out)); (case aS => exact (below_size (by repeat (first | (with_reducible first | exact HB2.out | apply below_alloc | apply pw_below_drewN | apply below_drew1) | exact HB2.out)))); (case aL => simp); intro v165 w8 ho hb hg hat; have n3_ := Aside0.mk (iter_grown_ (v := u5) (xs := [97]) (b := w.heap.size) (k := w.heap.size) (s := s) (p := 3) (by exact HI2.out) (by (with_reducible repeat (first | apply Kd.R_alloc | apply Kd.R_drewN | apply Kd.R_drew)); exact HO3.out) hg); have n0_ := Aside0.mk (hb); have n1_ := Aside0.mk (ho); clear HB2; clear HO3 HI2; have HB := n0_; have HO := n1_; have HI := n3_; clear n0_ n1_ n3_; clear ho hb hg hat))
      go_roundw
      case rel => exact ⟨3, [97, 241], HI, HO, HB, .inr (.inr ⟨rfl, rfl⟩)⟩
      case measure =>
        have e1_ : wr.iterPos w.heap.size = 1 := iterPos_of_ HI0.out
        have e2_ := iterPos_of_ HI.out
        omega
    · obtain rfl := hp
      obtain rfl := hx
      have hnx : ∀ ty, (Instr.next (.pointer (some ⟨w.heap.size, 0, none⟩)) true ty).run Try.prog wr = .ok (.tuple #[.bool false]) wr := fun ty => Lib.run_next_end_at (P := Try.prog) wr w.heap.size s 3 ty HI.out (by rw [HZ.out]; omega)
      go_wp2
      go_ret
      exact ⟨_, rfl, HO.out, HB.out⟩
  · rw [if_neg c] at h
    exact absurd h (by simp)

end Go.Proofs.Ytgdpknmffohhaaa.Pr
