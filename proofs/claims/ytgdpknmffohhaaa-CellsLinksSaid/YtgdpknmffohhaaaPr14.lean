-- PRINTED by print.py (a twelfth state) out of the translation. Not trusted: Lean checks it.
import Derived.Test.YtgdpknmffohhaaaPr0
namespace Go.Proofs.Ytgdpknmffohhaaa.Pr
open Go.RowKit Go.Proofs.YtgdpknmffohhaaaW.PrintWords Go.Proofs.YtgdpknmffohhaaaW.PrintLast Go.Proofs.YtgdpknmffohhaaaW.PrintMore
attribute [local go_sem] max2_int min2_int max_two min_two max_three min_three max_four min_four   -- for this text's walks alone
set_option linter.unusedVariables false
set_option linter.unusedSimpArgs false

/-! ### slices_Concat_Cell: function 27 (given) -/
def slices_Concat_Cell.f (l0 : List (List (S30))) : Option (List (S30)) := if l0.flatten.length < 4398046511104 then some l0.flatten else none
set_option maxHeartbeats 4000000 in
theorem growNil_ (n : Nat) (hn : n < 4398046511104) (w : World) :
    Calls Try.prog 36 #[.slice none 0 0, .int .i64 (n : Int)] w fun e w' => ∃ v0_ : Value, e = .returned (v0_) ∧ Kd.R k30 30 w' w.heap.size (fun _ => True) v0_ ([] : List S30) ∧ Below w.heap.size w w' := by
  have HB := Aside0.mk (Below.refl w.heap.size w)
  have HN := Aside0.mk hn
  by_cases h0 : n = 0
  · subst h0
    go_enter Try.func36, Try.ntmps36
    go_wp2
    go_ret
    exact ⟨_, rfl, Kd.R_nil _ _ _ _ _, Below.refl _ _⟩
  · have hn0 : 0 < n := by omega
    have hn1 : n ≤ 9223372036854775807 := by omega
    clear h0 hn
    go_enter Try.func36, Try.ntmps36
    go_wp2_with ((with_reducible refine gate_builtin (b := .append) (xs := #[.tmp 20, .tmp 21]) rfl ?_); at_builtin; refine Kd.R_append_zeros k30 (w0 := w) w.heap.size rfl (.tmp 20) (.tmp 21) 22 3 30 (.agg #[(.int .i32 0), (.int .i64 0), (.string ⟨#[]⟩)]) 32 rfl Try.underlying22 Try.underlying3 info30 rfl (by decide) (by omega) (.slice none 0 0) ([] : List S30) z30 (n : Int) (fun _ => True) rfl rfl ?aZ (fun _ _ => trivial) (Kd.R_nil _ _ _ _ _) (by omega) HB.out (Nat.le_refl _) ?aL ?_; (case aZ => exact k30_mkM _ _ _ z30); (case aL => have h_ := HN.out; simp only [List.length_nil]; omega); intro v1 w1 ho hb hg hat; obtain ⟨A1, c1, e1⟩ := Kd.R_slice ho; have hl1 := (List.length_nil (α := S30)); subst e1; have HO := Aside0.mk ho; have HB1 := Aside0.mk hb; clear ho hb hg hat)
    go_ret
    exact ⟨_, rfl, Kd.R_take HO.out (m := 0) (Nat.zero_le _), HB1.out⟩
theorem rows_at_ {w : World} {A0 : Option Addr} {l0 : List (List S30)} (hr0 : Kd.C (Kd.slice 30 k30) w A0 l0.length l0) (k : Nat) (hk : k < l0.length) :
    ∃ (ad : Addr) (Ak : Option Addr) (ck : Nat), A0 = some ad ∧ w.cell? (ad.add k) = some (.slice Ak (l0.getD k []).length ck) ∧ (l0.getD k []).length ≤ ck ∧ Kd.C k30 w Ak (l0.getD k []).length (l0.getD k []) := by
  obtain ⟨ad, e, hc⟩ := hr0.2.2 (by omega)
  obtain ⟨c, hl, hk1, hcell⟩ := hc k _ (List.getElem?_eq_getElem hk)
  obtain ⟨Ak, ck, rfl, hle, hC⟩ := hk1
  have h2 := hcell 0 _ rfl
  rw [show (Kd.slice 30 k30).sz = 1 from rfl, Nat.mul_one, Nat.add_zero] at h2
  have e2 : l0.getD k [] = l0[k] := by rw [List.getD_eq_getElem?_getD, List.getElem?_eq_getElem hk]; rfl
  rw [e2]
  exact ⟨ad, Ak, ck, e, h2, hle, hC⟩
theorem flat_step_ {α : Type} (l : List (List α)) (k : Nat) (hk : k < l.length) : (l.take (k + 1)).flatten = (l.take k).flatten ++ l.getD k [] := by
  rw [List.take_succ_eq_append_getElem hk, List.flatten_append, List.getD_eq_getElem?_getD, List.getElem?_eq_getElem hk]
  simp
theorem flat_le_ {α : Type} (l : List (List α)) (k : Nat) : (l.take k).flatten.length ≤ l.flatten.length := by
  have h : l.flatten = (l.take k).flatten ++ (l.drop k).flatten := by rw [← List.flatten_append, List.take_append_drop]
  rw [h, List.length_append]
  omega
set_option maxHeartbeats 4000000 in
theorem slices_Concat_Cell.calls (A0 : Option Addr) (c0 : Nat) (l0 : List (List (S30))) (r : List (S30)) (w : World) (hr0 : Kd.C (Kd.slice 30 k30) w A0 l0.length l0) (hc0 : l0.length ≤ c0) (h : slices_Concat_Cell.f l0 = some r) :
    Calls Try.prog 27 #[.slice A0 l0.length c0] w fun e w' => ∃ v0_ : Value, e = .returned (v0_) ∧ Kd.R k30 30 w' w.heap.size (fun _ => True) v0_ r ∧ Below w.heap.size w w' := by
  unfold slices_Concat_Cell.f at h
  by_cases hl : l0.flatten.length < 4398046511104
  · rw [if_pos hl] at h
    obtain rfl := Option.some.inj h
    have HR0 := Aside0.mk hr0
    have HL := Aside0.mk hl
    have hmx : l0.length ≤ 9223372036854775807 := hr0.2.1
    have HB := Aside0.mk (Below.refl w.heap.size w)
    clear hr0 hc0 hl h
    go_enter Try.func27, Try.ntmps27
    go_wp2
    go_loop [3, 11] (fun s v => ∃ k m1 : Nat, v = .int .i64 (k : Int) ∧ k ≤ l0.length ∧ s = .int .i64 (m1 : Int) ∧ Aside0 (m1 = (l0.take k).flatten.length)) (fun _ v => l0.length - (intOf v).toNat)
    case atStart => exact ⟨0, 0, rfl, Nat.zero_le _, rfl, ⟨rfl⟩⟩
    case round =>
      obtain ⟨k, m1, rfl, hk, rfl, M1⟩ := hrel
      by_cases hlt : k < l0.length
      · obtain ⟨ad, Ak, ck, e, hcell, _, _⟩ := rows_at_ HR0.out k hlt
        subst e
        have hfl := flat_step_ l0 k hlt
        have h1 := flat_le_ l0 (k + 1)
        have h2 : (l0.take (k + 1)).flatten.length = (l0.take k).flatten.length + (l0.getD k []).length := by rw [hfl, List.length_append]
        have hb := HL.out
        have hm1 := M1.out
        have h3 : (m1 : Int) + ((l0.getD k []).length : Int) ≤ 4398046511104 := by omega
        obtain ⟨m2, hm2⟩ : ∃ m, m = (l0.getD k []).length := ⟨_, rfl⟩
        have E2' : Aside0 (m1 + m2 = (l0.take (k + 1)).flatten.length) := ⟨by rw [hm1, hm2]; exact h2.symm⟩
        rw [← hm2] at h3 hcell
        clear hfl h1 h2 hb hm1 hm2
        have h4 : 0 ≤ (m1 : Int) + (m2 : Int) := by omega
        go_wp2
        go_round
        case rel => exact ⟨k + 1, m1 + m2, by go_num, by omega, by go_num, E2'⟩
        case measure => simp [intOf]; omega
      · have hk' : k = l0.length := by omega
        have hm1 := M1.out
        rw [hk', List.take_length] at hm1
        have hb := HL.out
        have HG := Aside0.mk (growNil_ m1 (by omega) w)
        have h3 : (m1 : Int) ≤ 4398046511104 := by omega
        clear hb hm1 hk'
        go_wp2_with (go_at_call 36; refine HG.out.mono ?_; rintro e w1 ⟨v1, rfl, ho, hb⟩; have HO := Aside0.mk ho; have HB1 := Aside0.mk hb; clear ho hb)
        go_loopw [6, 27] (fun v i wr => ∃ k : Nat, i = .int .i64 (k : Int) ∧ k ≤ l0.length ∧ Aside0 (Kd.R k30 30 wr w.heap.size (fun _ => True) v (l0.take k).flatten) ∧ Aside0 (Below w.heap.size w wr)) (fun _ i _ => l0.length - (intOf i).toNat)
        case atStart => exact ⟨0, rfl, Nat.zero_le _, HO, HB1⟩
        case round =>
          clear HO HB1 HB
          obtain ⟨k, rfl, hk, HO, HB⟩ := hrel
          by_cases hlt : k < l0.length
          · obtain ⟨ad, Ak, ck, e, hcell0, hck, hC⟩ := rows_at_ HR0.out k hlt
            subst e
            have hcell := (HB.out.cell (World.block_lt_of_cell? w _ hcell0)).trans hcell0
            have HC := Aside0.mk hC
            have hfl := flat_step_ l0 k hlt
            have h1 := flat_le_ l0 (k + 1)
            have h2 : (l0.take (k + 1)).flatten.length = (l0.take k).flatten.length + (l0.getD k []).length := by rw [hfl, List.length_append]
            have LM : Aside0 ((l0.take k).flatten.length + (l0.getD k []).length < 4398046511104) := ⟨by have h_ := HL.out; omega⟩
            clear h2
            have EF := Aside0.mk hfl
            clear hfl h1 hcell0 hC
            obtain ⟨lk, hlk⟩ : ∃ x, x = l0.getD k [] := ⟨_, rfl⟩
            rw [← hlk] at hcell hck HC LM EF
            clear hlk
            go_wp2_with ((with_reducible refine gate_builtin (b := .append) (xs := #[.tmp 31, .tmp 32]) rfl ?_); at_builtin; refine Kd.R_append_rows k30 (w0 := w) w.heap.size rfl (.tmp 31) (.tmp 32) 22 30 (.agg #[(.int .i32 0), (.int .i64 0), (.string ⟨#[]⟩)]) 32 rfl Try.underlying22 info30 rfl (by decide) (by omega) u6 (l0.take k).flatten lk _ _ _ (fun _ => True) (fun _ => False) rfl rfl HO.out (Kd.C_below HC.out HB.out) (fun _ _ h => h) (fun _ h => h.elim) (fun _ _ => trivial) HB.out (below_size HB.out) ?aL ?_; (case aL => have h_ := LM.out; omega); intro v151 w5 ho hb hg hat; rw [← EF.out] at ho; have n0_ := Aside0.mk (hb); have n1_ := Aside0.mk (ho); clear HB HO; have HB := n0_; have HO := n1_; clear n0_ n1_; clear ho hb hg hat)
            go_roundw
            case rel => exact ⟨k + 1, by go_num, by omega, HO, HB⟩
            case measure => simp [intOf]; omega
          · have hk' : k = l0.length := by omega
            have HK := Aside0.mk (show l0.flatten = (l0.take k).flatten by rw [hk', List.take_length])
            clear hk'
            go_wp2
            go_ret
            exact ⟨_, rfl, by rw [HK.out]; exact HO.out, HB.out⟩
  · rw [if_neg hl] at h
    exact absurd h (by simp)

end Go.Proofs.Ytgdpknmffohhaaa.Pr
