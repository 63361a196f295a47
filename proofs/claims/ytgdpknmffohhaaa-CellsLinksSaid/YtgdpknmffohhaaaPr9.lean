-- PRINTED by print.py (a twelfth state) out of the translation. Not trusted: Lean checks it.
import Derived.Test.YtgdpknmffohhaaaPr0
import Derived.Test.YtgdpknmffohhaaaPr3
import Derived.Test.YtgdpknmffohhaaaPr5
import Derived.Test.YtgdpknmffohhaaaPr8
namespace Go.Proofs.Ytgdpknmffohhaaa.Pr
open Go.RowKit Go.Proofs.YtgdpknmffohhaaaW.PrintWords Go.Proofs.YtgdpknmffohhaaaW.PrintLast Go.Proofs.YtgdpknmffohhaaaW.PrintMore
attribute [local go_sem] max2_int min2_int max_two min_two max_three min_three max_four min_four   -- for this text's walks alone
set_option linter.unusedVariables false
set_option linter.unusedSimpArgs false

/-! ### lib_iter -/
attribute [local go_sem] Oper.semAt_some
def encR_ (x : S28) : Array Value := #[.agg #[.int .i64 x.f0, .int .i64 x.f1, .int .i64 x.f2, .string x.f3, .int .i64 x.f4]]
theorem fresh_box_ (wr : World) (O : Obj) (nq : Nat) : Below wr.heap.size wr ((wr.alloc O).drew.drewN nq) ∧ ((wr.alloc O).drew.drewN nq).heap[wr.heap.size]? = some O ∧ wr.grownBy ((wr.alloc O).drew.drewN nq) none := by
  have hb : Below wr.heap.size wr ((wr.alloc O).drew.drewN nq) := pw_below_drewN (below_drew (below_alloc (Below.refl _ _) O)) nq
  exact ⟨hb, heap_alloc_new wr O, grown_of_below hb none⟩
theorem fresh_boxN_ (wr : World) (O : Obj) (nz nq : Nat) : Below wr.heap.size wr (((wr.alloc O).drewN nz).drewN nq) ∧ (((wr.alloc O).drewN nz).drewN nq).heap[wr.heap.size]? = some O ∧ wr.grownBy (((wr.alloc O).drewN nz).drewN nq) none := by
  have hb : Below wr.heap.size wr (((wr.alloc O).drewN nz).drewN nq) := pw_below_drewN (pw_below_drewN (below_alloc (Below.refl _ _) O) nz) nq
  exact ⟨hb, heap_alloc_new wr O, grown_of_below hb none⟩
theorem box_to_ (wr : World) (a b c d e v : Value) (t : TypeId) (n : Nat) : ((wr.alloc (.cells #[a, b, c, d, e] t)).drewN n).setCell ⟨wr.heap.size, 1, none⟩ v = (wr.alloc (.cells #[a, v, c, d, e] t)).drewN n := by
  show ((wr.alloc (.cells #[a, b, c, d, e] t)).setCell ⟨wr.heap.size, 1, none⟩ v).drewN n = _
  rw [World.setCell_alloc_at _ _ _ _ _ rfl]
  rfl
theorem run_brk_ (k : Nat) (c : S30) (t : List S30) (h : c.f0 = 10) : encR_ (runAt_ k c t) = #[.agg #[.int .i64 (k : Int), .int .i64 ((k : Int) + 1), .int .i64 c.f1, .string c.f2, .int .i64 1]] := by
  unfold encR_ runAt_
  rw [if_pos h, if_pos h]
  simp
theorem run_not_ (k : Nat) (c : S30) (t : List S30) (m : Nat) (h : ¬ c.f0 = 10) (hm : ext_ c.f1 c.f2 t = m) : encR_ (runAt_ k c t) = #[.agg #[.int .i64 (k : Int), .int .i64 (((k + 1 + m : Nat) : Int)), .int .i64 c.f1, .string c.f2, .int .i64 0]] := by
  unfold encR_ runAt_
  rw [if_neg h, if_neg h, hm]
set_option maxRecDepth 100000 in
set_option maxHeartbeats 8000000 in
theorem runs1_ (n l Bn o n₀ : Nat) (A0 : Option Addr) (c0 : Nat) (l0 : List S30) (J Jx : List S28 → World → Prop) (W : World)
    (hJ : AbidesFrom W.heap.size J)
    (hY : ∀ pre x W1, J pre W1 → pre.length < l0.length → YieldAt Fence.wide (n - 1) Try.prog l (encR_ x) W1 fun e W' =>
      (e = .returned (.bool true) ∧ J (pre ++ [x]) W' ∧ Kp_ n₀ o W1 W') ∨ (e = .returned (.bool false) ∧ Jx (pre ++ [x]) W'))
    (hBn : W.heap[Bn]? = some (.cells #[.slice A0 l0.length c0] 22 (0, 0))) (hC : ∀ W', Below n₀ W W' → Kd.C k30 W' A0 l0.length l0)
    (hWF : WFo_ o W) (hfree : Free_ o W Bn) (ho : o < W.heap.size) (hn₀ : n₀ ≤ W.heap.size) (hmx : l0.length ≤ 1000000000) (hn1 : 1 ≤ n) (h0 : J [] W) :
    Calls Try.prog 35 #[.func (.yield l) #[] #[], .pointer (some ⟨Bn, 0, none⟩)] W fun e W' => (∃ v, e = .returned v) ∧ ((∃ ys, ys = runs_ l0 ∧ J ys W') ∨ (∃ pre : List S28, True ∧ Jx pre W')) := by
  go_enter Try.func35, Try.ntmps35
  go_wp2
  go_loopw [3] (fun v wr => ∃ (k : Nat) (pre : List S28), v = .int .i64 (k : Int) ∧ k ≤ l0.length ∧ Aside0 (pre.length ≤ k) ∧ Aside0 (pre ++ runsFrom_ (l0.length - k) k (l0.drop k) = runs_ l0) ∧ Aside0 (J pre wr) ∧ Aside0 (Below n₀ W wr ∧ W.heap.size ≤ wr.heap.size) ∧ Aside0 (wr.heap[Bn]? = some (.cells #[.slice A0 l0.length c0] 22 (0, 0))) ∧ Aside0 (WFo_ o wr ∧ Free_ o wr Bn)) (fun v _ => l0.length - (intOf v).toNat)
  case atStart => exact ⟨0, [], rfl, Nat.zero_le _, ⟨Nat.le_refl _⟩, ⟨rfl⟩, ⟨h0⟩, ⟨Below.refl _ _, Nat.le_refl _⟩, ⟨hBn⟩, ⟨hWF, hfree⟩⟩
  case round =>
    obtain ⟨k, pre, rfl, hk, HP, HR, HJ, HB, HBn, HW⟩ := hrel
    have hb0 := blk_cell HBn.out 0
    have hb1 : wr.cell? ⟨Bn, 0, none⟩ = some (.slice A0 l0.length c0) := hb0.trans rfl
    clear hb0
    have HC := Aside0.mk hC
    have HJ' := Aside0.mk hJ
    have HY := Aside0.mk hY
    clear hC hJ hY hBn hWF hfree
    by_cases hlt : k < l0.length
    · have hCk := HC.out wr HB.out.1
      obtain ⟨ad, e, x0, x1, x2⟩ := at_T30 hCk (k : Int) (by omega) (by omega)
      subst e
      rw [Int.toNat_natCast] at x0 x1 x2
      obtain ⟨c, hcc⟩ : ∃ c, rd_T30 l0 (k : Int) = c := ⟨_, rfl⟩
      have HAT := Aside0.mk (show l0[k]? = some c by rw [← hcc]; exact rd_at_ hlt)
      rw [hcc] at x0 x1 x2
      have HCk := Aside0.mk hCk
      clear hcc hCk
      have hb1a := fun o' => cell_alloc_ (W := wr) o' hb1
      have x0a := fun o' => cell_alloc_ (W := wr) o' x0
      have x1a := fun o' => cell_alloc_ (W := wr) o' x1
      have x2a := fun o' => cell_alloc_ (W := wr) o' x2
      by_cases c10 : c.f0 = 10
      · have d10 : (c.f0 == 10) = true := beq_iff_eq.mpr c10
        have C10 := Aside0.mk c10
        clear c10
        go_wp2
        go_region
        go_wp2_with fail
        refine wp_loop_rounds 1 ?_
        rw [rounds_succ]
        go_wp2
        go_quiet (fail)
        go_upto_region 7 with (fail)
        obtain ⟨W2, hW2⟩ : ∃ W2, (wr.alloc (.cells #[.int .i64 (k : Int), .int .i64 ((k : Int) + 1), .int .i64 c.f1, .string c.f2, .int .i64 1] 28)).drew.drewN nq = W2 := ⟨_, rfl⟩
        have F := fresh_box_ wr (.cells #[.int .i64 (k : Int), .int .i64 ((k : Int) + 1), .int .i64 c.f1, .string c.f2, .int .i64 1] 28) nq
        rw [hW2] at F ⊢
        clear hW2 hb1a x0a x1a x2a hb1 x0 x1 x2
        obtain ⟨F1, F2, F3⟩ := F
        have HJ2 := HJ'.out pre wr W2 none HJ.out F3 (fun _ e => by cases e)
        obtain ⟨fn, tmps, assign, body, hy, hR⟩ := HY.out pre (runAt_ k c (l0.drop (k + 1))) W2 HJ2 (by have := HP.out; omega)
        rw [run_brk_ k c _ C10.out] at hy
        have hF2 := blk_cell F2 0
        have g0 : W2.cell? ⟨wr.heap.size, 0, none⟩ = some (.int .i64 (k : Int)) := (blk_cell F2 0).trans rfl
        have g1 : W2.cell? ⟨wr.heap.size, 1, none⟩ = some (.int .i64 ((k : Int) + 1)) := (blk_cell F2 1).trans rfl
        have g2 : W2.cell? ⟨wr.heap.size, 2, none⟩ = some (.int .i64 c.f1) := (blk_cell F2 2).trans rfl
        have g3 : W2.cell? ⟨wr.heap.size, 3, none⟩ = some (.string c.f2) := (blk_cell F2 3).trans rfl
        have g4 : W2.cell? ⟨wr.heap.size, 4, none⟩ = some (.int .i64 1) := (blk_cell F2 4).trans rfl
        clear hF2
        have KP := Kp_.grown (n₀ := n₀) (o := o) (A := wr) (B := W2) (by have := HB.out.2; omega) (by have := HB.out.2; omega) F1
        have NF := Aside0.mk (free_new_ HW.out.1 (show o < wr.heap.size by have := HB.out.2; omega) F1 (Nat.le_refl _) F2)
        have KQ := Aside0.mk (KP.2 HW.out.1)
        have KB := Aside0.mk KP.1
        have FF2 := Aside0.mk F2
        have FF1 := Aside0.mk F1
        clear KP F1 F2 F3 HJ2
        refine (wpIn_wide (n := n)).1 ?_
        gi_wp2
        refine hR.mono ?_
        rintro e W3 (⟨rfl, hJ3, hk3⟩ | ⟨rfl, hJx3⟩)
        · have K3 := Aside0.mk (hk3.2 KQ.out.1)
          have h1 : W3.cell? ⟨wr.heap.size, 1, none⟩ = some (.int .i64 ((k : Int) + 1)) := (blk_cell ((K3.out.2 _ NF.out).1.trans FF2.out) 1).trans rfl
          have HB3 := Aside0.mk (show Below n₀ W W3 ∧ W.heap.size ≤ W3.heap.size from ⟨(HB.out.1.trans KB.out).trans hk3.1, Nat.le_trans HB.out.2 (Nat.le_trans KB.out.size hk3.1.size)⟩)
          have HBn3 := Aside0.mk (show W3.heap[Bn]? = some (.cells #[.slice (some ad) l0.length c0] 22 (0, 0)) from ((K3.out.2 Bn (KQ.out.2 Bn HW.out.2).2).1.trans (KQ.out.2 Bn HW.out.2).1).trans HBn.out)
          have HW3 := Aside0.mk (show WFo_ o W3 ∧ Free_ o W3 Bn from ⟨K3.out.1, (K3.out.2 Bn (KQ.out.2 Bn HW.out.2).2).2⟩)
          have HR3 := Aside0.mk (show (pre ++ [runAt_ k c (l0.drop (k + 1))]) ++ runsFrom_ (l0.length - (k + 1)) (k + 1) (l0.drop (k + 1)) = runs_ l0 by
            have e_ := runsFrom_step_ l0 k c HAT.out
            rw [if_pos C10.out] at e_
            rw [List.append_assoc, ← HR.out, e_]
            rfl)
          have HJ3 := Aside0.mk hJ3
          clear hk3 hJ3 hR hy
          gi_wp2
          go_wp2
          go_roundw
          case rel => exact ⟨k + 1, _, by go_num, by omega, ⟨by have := HP.out; simp; omega⟩, HR3, HJ3, HB3, HBn3, HW3⟩
          case measure => simp [intOf]; omega
        · gi_wp2
          go_wp2
          refine bodyPost_ret (results_none rfl _ _ _) rfl ?_
          exact ⟨⟨_, rfl⟩, .inr ⟨_, trivial, hJx3⟩⟩
      · have d10 : (c.f0 == 10) = false := beq_eq_false_iff_ne.mpr c10
        have C10 := Aside0.mk c10
        clear c10
        go_wp2
        go_region
        go_wp2_with fail
        go_loopg [30] (l0.length - (k + 1)) (fun d _ w' => ∃ (j nq : Nat), w' = (wr.alloc (.cells #[.int .i64 (k : Int), .int .i64 (j : Int), .int .i64 c.f1, .string c.f2, .int .i64 0] 28)).drewN nq ∧ Aside0 (d = l0.length - j) ∧ k + 1 ≤ j ∧ j ≤ l0.length ∧ Aside0 ((j - (k + 1)) + ext_ c.f1 c.f2 (l0.drop j) = ext_ c.f1 c.f2 (l0.drop (k + 1))))
        case atStart => exact ⟨k + 1, 1, rfl, ⟨rfl⟩, Nat.le_refl _, by omega, ⟨by rw [Nat.sub_self, Nat.zero_add]⟩⟩
        case round =>
        obtain ⟨j, nz, rfl, HD, hj1, hj2, HE⟩ := hrel
        have hq : ∀ (o' : Obj) (m : Nat) (a : Addr), ((wr.alloc o').drewN m).cell? a = (wr.alloc o').cell? a := fun _ _ _ => rfl
        by_cases hlj : j < l0.length
        · obtain ⟨ad', e', y0, y1, y2⟩ := at_T30 HCk.out (j : Int) (by omega) (by omega)
          cases e'
          rw [Int.toNat_natCast] at y0 y1 y2
          obtain ⟨y, hyy⟩ : ∃ y, rd_T30 l0 (j : Int) = y := ⟨_, rfl⟩
          have HAJ := Aside0.mk (show l0[j]? = some y by rw [← hyy]; exact rd_at_ hlj)
          rw [hyy] at y0 y1 y2
          clear hyy
          have y0a := fun o' => cell_alloc_ (W := wr) o' y0
          have y1a := fun o' => cell_alloc_ (W := wr) o' y1
          have y2a := fun o' => cell_alloc_ (W := wr) o' y2
          by_cases e0 : y.f0 = 10
          · have t0 : (y.f0 != 10) = false := bne_eq_false_iff_eq.mpr e0
            have HX := Aside0.mk (show ext_ c.f1 c.f2 (l0.drop (k + 1)) = j - (k + 1) by
              have h_ := ext_step_ c.f1 c.f2 l0 j y HAJ.out
              rw [if_neg (fun h => h.1 e0)] at h_
              have h2_ := HE.out
              omega)
            clear e0
            go_wp2
            go_quiet (fail)
            go_upto_region 7 with (fail)
            obtain ⟨W2, hW2⟩ : ∃ W2, ((wr.alloc (.cells #[.int .i64 (k : Int), .int .i64 (j : Int), .int .i64 c.f1, .string c.f2, .int .i64 0] 28)).drewN nz).drewN nq = W2 := ⟨_, rfl⟩
            have F := fresh_boxN_ wr (.cells #[.int .i64 (k : Int), .int .i64 (j : Int), .int .i64 c.f1, .string c.f2, .int .i64 0] 28) nz nq
            rw [hW2] at F ⊢
            clear hW2 hb1a x0a x1a x2a hb1 x0 x1 x2 hq
            obtain ⟨F1, F2, F3⟩ := F
            have HJ2 := HJ'.out pre wr W2 none HJ.out F3 (fun _ e => by cases e)
            obtain ⟨fn, tmps, assign, body, hy, hR⟩ := HY.out pre (runAt_ k c (l0.drop (k + 1))) W2 HJ2 (by have := HP.out; omega)
            rw [run_not_ k c _ (j - (k + 1)) C10.out HX.out, show k + 1 + (j - (k + 1)) = j by omega] at hy
            have hF2 := blk_cell F2 0
            have g0 : W2.cell? ⟨wr.heap.size, 0, none⟩ = some (.int .i64 (k : Int)) := (blk_cell F2 0).trans rfl
            have g1 : W2.cell? ⟨wr.heap.size, 1, none⟩ = some (.int .i64 (j : Int)) := (blk_cell F2 1).trans rfl
            have g2 : W2.cell? ⟨wr.heap.size, 2, none⟩ = some (.int .i64 c.f1) := (blk_cell F2 2).trans rfl
            have g3 : W2.cell? ⟨wr.heap.size, 3, none⟩ = some (.string c.f2) := (blk_cell F2 3).trans rfl
            have g4 : W2.cell? ⟨wr.heap.size, 4, none⟩ = some (.int .i64 0) := (blk_cell F2 4).trans rfl
            clear hF2
            have KP := Kp_.grown (n₀ := n₀) (o := o) (A := wr) (B := W2) (by have := HB.out.2; omega) (by have := HB.out.2; omega) F1
            have NF := Aside0.mk (free_new_ HW.out.1 (show o < wr.heap.size by have := HB.out.2; omega) F1 (Nat.le_refl _) F2)
            have KQ := Aside0.mk (KP.2 HW.out.1)
            have KB := Aside0.mk KP.1
            have FF2 := Aside0.mk F2
            have FF1 := Aside0.mk F1
            clear KP F1 F2 F3 HJ2
            refine (wpIn_wide (n := n)).1 ?_
            gi_wp2
            refine hR.mono ?_
            rintro e W3 (⟨rfl, hJ3, hk3⟩ | ⟨rfl, hJx3⟩)
            · have K3 := Aside0.mk (hk3.2 KQ.out.1)
              have h1 : W3.cell? ⟨wr.heap.size, 1, none⟩ = some (.int .i64 (j : Int)) := (blk_cell ((K3.out.2 _ NF.out).1.trans FF2.out) 1).trans rfl
              have HB3 := Aside0.mk (show Below n₀ W W3 ∧ W.heap.size ≤ W3.heap.size from ⟨(HB.out.1.trans KB.out).trans hk3.1, Nat.le_trans HB.out.2 (Nat.le_trans KB.out.size hk3.1.size)⟩)
              have HBn3 := Aside0.mk (show W3.heap[Bn]? = some (.cells #[.slice (some ad) l0.length c0] 22 (0, 0)) from ((K3.out.2 Bn (KQ.out.2 Bn HW.out.2).2).1.trans (KQ.out.2 Bn HW.out.2).1).trans HBn.out)
              have HW3 := Aside0.mk (show WFo_ o W3 ∧ Free_ o W3 Bn from ⟨K3.out.1, (K3.out.2 Bn (KQ.out.2 Bn HW.out.2).2).2⟩)
              have HR3 := Aside0.mk (show (pre ++ [runAt_ k c (l0.drop (k + 1))]) ++ runsFrom_ (l0.length - j) j (l0.drop j) = runs_ l0 by
                have e_ := runsFrom_step_ l0 k c HAT.out
                rw [if_neg C10.out, HX.out, show k + 1 + (j - (k + 1)) = j by omega] at e_
                rw [List.append_assoc, ← HR.out, e_]
                rfl)
              have HJ3 := Aside0.mk hJ3
              clear hk3 hJ3 hR hy
              gi_wp2
              go_wp2
              go_roundw
              case rel => exact ⟨j, _, rfl, hj2, ⟨by have := HP.out; simp; omega⟩, HR3, HJ3, HB3, HBn3, HW3⟩
              case measure => simp [intOf]; omega
            · gi_wp2
              go_wp2
              refine bodyPost_ret (results_none rfl _ _ _) rfl ?_
              exact ⟨⟨_, rfl⟩, .inr ⟨_, trivial, hJx3⟩⟩
          · have t0 : (y.f0 != 10) = true := bne_iff_ne.mpr e0
            have E0 := Aside0.mk e0
            clear e0
            by_cases e1 : y.f1 = c.f1
            · have t1 : (y.f1 == c.f1) = true := beq_iff_eq.mpr e1
              have E1 := Aside0.mk e1
              clear e1
              by_cases e2 : y.f2.toList = c.f2.toList
              · have t2 : (y.f2.toList == c.f2.toList) = true := beq_iff_eq.mpr e2
                have E2 := Aside0.mk e2
                clear e2
                go_wp2
                go_quiet (fail)
                go_wp2
                go_roundg (l0.length - (j + 1))
                case rel => exact ⟨j + 1, _, box_to_ _ _ _ _ _ _ _ _ _, ⟨rfl⟩, by omega, by omega, ⟨by have h_ := ext_step_ c.f1 c.f2 l0 j y HAJ.out; rw [if_pos ⟨E0.out, E1.out, E2.out⟩] at h_; have h2_ := HE.out; omega⟩⟩
                case measure => have := HD.out; omega
              · have t2 : (y.f2.toList == c.f2.toList) = false := beq_eq_false_iff_ne.mpr e2
                have HX := Aside0.mk (show ext_ c.f1 c.f2 (l0.drop (k + 1)) = j - (k + 1) by
                  have h_ := ext_step_ c.f1 c.f2 l0 j y HAJ.out
                  rw [if_neg (fun h => e2 h.2.2)] at h_
                  have h2_ := HE.out
                  omega)
                clear e2
                go_wp2
                go_quiet (fail)
                go_upto_region 7 with (fail)
                obtain ⟨W2, hW2⟩ : ∃ W2, ((wr.alloc (.cells #[.int .i64 (k : Int), .int .i64 (j : Int), .int .i64 c.f1, .string c.f2, .int .i64 0] 28)).drewN nz).drewN nq = W2 := ⟨_, rfl⟩
                have F := fresh_boxN_ wr (.cells #[.int .i64 (k : Int), .int .i64 (j : Int), .int .i64 c.f1, .string c.f2, .int .i64 0] 28) nz nq
                rw [hW2] at F ⊢
                clear hW2 hb1a x0a x1a x2a hb1 x0 x1 x2 hq
                obtain ⟨F1, F2, F3⟩ := F
                have HJ2 := HJ'.out pre wr W2 none HJ.out F3 (fun _ e => by cases e)
                obtain ⟨fn, tmps, assign, body, hy, hR⟩ := HY.out pre (runAt_ k c (l0.drop (k + 1))) W2 HJ2 (by have := HP.out; omega)
                rw [run_not_ k c _ (j - (k + 1)) C10.out HX.out, show k + 1 + (j - (k + 1)) = j by omega] at hy
                have hF2 := blk_cell F2 0
                have g0 : W2.cell? ⟨wr.heap.size, 0, none⟩ = some (.int .i64 (k : Int)) := (blk_cell F2 0).trans rfl
                have g1 : W2.cell? ⟨wr.heap.size, 1, none⟩ = some (.int .i64 (j : Int)) := (blk_cell F2 1).trans rfl
                have g2 : W2.cell? ⟨wr.heap.size, 2, none⟩ = some (.int .i64 c.f1) := (blk_cell F2 2).trans rfl
                have g3 : W2.cell? ⟨wr.heap.size, 3, none⟩ = some (.string c.f2) := (blk_cell F2 3).trans rfl
                have g4 : W2.cell? ⟨wr.heap.size, 4, none⟩ = some (.int .i64 0) := (blk_cell F2 4).trans rfl
                clear hF2
                have KP := Kp_.grown (n₀ := n₀) (o := o) (A := wr) (B := W2) (by have := HB.out.2; omega) (by have := HB.out.2; omega) F1
                have NF := Aside0.mk (free_new_ HW.out.1 (show o < wr.heap.size by have := HB.out.2; omega) F1 (Nat.le_refl _) F2)
                have KQ := Aside0.mk (KP.2 HW.out.1)
                have KB := Aside0.mk KP.1
                have FF2 := Aside0.mk F2
                have FF1 := Aside0.mk F1
                clear KP F1 F2 F3 HJ2
                refine (wpIn_wide (n := n)).1 ?_
                gi_wp2
                refine hR.mono ?_
                rintro e W3 (⟨rfl, hJ3, hk3⟩ | ⟨rfl, hJx3⟩)
                · have K3 := Aside0.mk (hk3.2 KQ.out.1)
                  have h1 : W3.cell? ⟨wr.heap.size, 1, none⟩ = some (.int .i64 (j : Int)) := (blk_cell ((K3.out.2 _ NF.out).1.trans FF2.out) 1).trans rfl
                  have HB3 := Aside0.mk (show Below n₀ W W3 ∧ W.heap.size ≤ W3.heap.size from ⟨(HB.out.1.trans KB.out).trans hk3.1, Nat.le_trans HB.out.2 (Nat.le_trans KB.out.size hk3.1.size)⟩)
                  have HBn3 := Aside0.mk (show W3.heap[Bn]? = some (.cells #[.slice (some ad) l0.length c0] 22 (0, 0)) from ((K3.out.2 Bn (KQ.out.2 Bn HW.out.2).2).1.trans (KQ.out.2 Bn HW.out.2).1).trans HBn.out)
                  have HW3 := Aside0.mk (show WFo_ o W3 ∧ Free_ o W3 Bn from ⟨K3.out.1, (K3.out.2 Bn (KQ.out.2 Bn HW.out.2).2).2⟩)
                  have HR3 := Aside0.mk (show (pre ++ [runAt_ k c (l0.drop (k + 1))]) ++ runsFrom_ (l0.length - j) j (l0.drop j) = runs_ l0 by
                    have e_ := runsFrom_step_ l0 k c HAT.out
                    rw [if_neg C10.out, HX.out, show k + 1 + (j - (k + 1)) = j by omega] at e_
                    rw [List.append_assoc, ← HR.out, e_]
                    rfl)
                  have HJ3 := Aside0.mk hJ3
                  clear hk3 hJ3 hR hy
                  gi_wp2
                  go_wp2
                  go_roundw
                  case rel => exact ⟨j, _, rfl, hj2, ⟨by have := HP.out; simp; omega⟩, HR3, HJ3, HB3, HBn3, HW3⟩
                  case measure => simp [intOf]; omega
                · gi_wp2
                  go_wp2
                  refine bodyPost_ret (results_none rfl _ _ _) rfl ?_
                  exact ⟨⟨_, rfl⟩, .inr ⟨_, trivial, hJx3⟩⟩
            · have t1 : (y.f1 == c.f1) = false := beq_eq_false_iff_ne.mpr e1
              have HX := Aside0.mk (show ext_ c.f1 c.f2 (l0.drop (k + 1)) = j - (k + 1) by
                have h_ := ext_step_ c.f1 c.f2 l0 j y HAJ.out
                rw [if_neg (fun h => e1 h.2.1)] at h_
                have h2_ := HE.out
                omega)
              clear e1
              go_wp2
              go_quiet (fail)
              go_upto_region 7 with (fail)
              obtain ⟨W2, hW2⟩ : ∃ W2, ((wr.alloc (.cells #[.int .i64 (k : Int), .int .i64 (j : Int), .int .i64 c.f1, .string c.f2, .int .i64 0] 28)).drewN nz).drewN nq = W2 := ⟨_, rfl⟩
              have F := fresh_boxN_ wr (.cells #[.int .i64 (k : Int), .int .i64 (j : Int), .int .i64 c.f1, .string c.f2, .int .i64 0] 28) nz nq
              rw [hW2] at F ⊢
              clear hW2 hb1a x0a x1a x2a hb1 x0 x1 x2 hq
              obtain ⟨F1, F2, F3⟩ := F
              have HJ2 := HJ'.out pre wr W2 none HJ.out F3 (fun _ e => by cases e)
              obtain ⟨fn, tmps, assign, body, hy, hR⟩ := HY.out pre (runAt_ k c (l0.drop (k + 1))) W2 HJ2 (by have := HP.out; omega)
              rw [run_not_ k c _ (j - (k + 1)) C10.out HX.out, show k + 1 + (j - (k + 1)) = j by omega] at hy
              have hF2 := blk_cell F2 0
              have g0 : W2.cell? ⟨wr.heap.size, 0, none⟩ = some (.int .i64 (k : Int)) := (blk_cell F2 0).trans rfl
              have g1 : W2.cell? ⟨wr.heap.size, 1, none⟩ = some (.int .i64 (j : Int)) := (blk_cell F2 1).trans rfl
              have g2 : W2.cell? ⟨wr.heap.size, 2, none⟩ = some (.int .i64 c.f1) := (blk_cell F2 2).trans rfl
              have g3 : W2.cell? ⟨wr.heap.size, 3, none⟩ = some (.string c.f2) := (blk_cell F2 3).trans rfl
              have g4 : W2.cell? ⟨wr.heap.size, 4, none⟩ = some (.int .i64 0) := (blk_cell F2 4).trans rfl
              clear hF2
              have KP := Kp_.grown (n₀ := n₀) (o := o) (A := wr) (B := W2) (by have := HB.out.2; omega) (by have := HB.out.2; omega) F1
              have NF := Aside0.mk (free_new_ HW.out.1 (show o < wr.heap.size by have := HB.out.2; omega) F1 (Nat.le_refl _) F2)
              have KQ := Aside0.mk (KP.2 HW.out.1)
              have KB := Aside0.mk KP.1
              have FF2 := Aside0.mk F2
              have FF1 := Aside0.mk F1
              clear KP F1 F2 F3 HJ2
              refine (wpIn_wide (n := n)).1 ?_
              gi_wp2
              refine hR.mono ?_
              rintro e W3 (⟨rfl, hJ3, hk3⟩ | ⟨rfl, hJx3⟩)
              · have K3 := Aside0.mk (hk3.2 KQ.out.1)
                have h1 : W3.cell? ⟨wr.heap.size, 1, none⟩ = some (.int .i64 (j : Int)) := (blk_cell ((K3.out.2 _ NF.out).1.trans FF2.out) 1).trans rfl
                have HB3 := Aside0.mk (show Below n₀ W W3 ∧ W.heap.size ≤ W3.heap.size from ⟨(HB.out.1.trans KB.out).trans hk3.1, Nat.le_trans HB.out.2 (Nat.le_trans KB.out.size hk3.1.size)⟩)
                have HBn3 := Aside0.mk (show W3.heap[Bn]? = some (.cells #[.slice (some ad) l0.length c0] 22 (0, 0)) from ((K3.out.2 Bn (KQ.out.2 Bn HW.out.2).2).1.trans (KQ.out.2 Bn HW.out.2).1).trans HBn.out)
                have HW3 := Aside0.mk (show WFo_ o W3 ∧ Free_ o W3 Bn from ⟨K3.out.1, (K3.out.2 Bn (KQ.out.2 Bn HW.out.2).2).2⟩)
                have HR3 := Aside0.mk (show (pre ++ [runAt_ k c (l0.drop (k + 1))]) ++ runsFrom_ (l0.length - j) j (l0.drop j) = runs_ l0 by
                  have e_ := runsFrom_step_ l0 k c HAT.out
                  rw [if_neg C10.out, HX.out, show k + 1 + (j - (k + 1)) = j by omega] at e_
                  rw [List.append_assoc, ← HR.out, e_]
                  rfl)
                have HJ3 := Aside0.mk hJ3
                clear hk3 hJ3 hR hy
                gi_wp2
                go_wp2
                go_roundw
                case rel => exact ⟨j, _, rfl, hj2, ⟨by have := HP.out; simp; omega⟩, HR3, HJ3, HB3, HBn3, HW3⟩
                case measure => simp [intOf]; omega
              · gi_wp2
                go_wp2
                refine bodyPost_ret (results_none rfl _ _ _) rfl ?_
                exact ⟨⟨_, rfl⟩, .inr ⟨_, trivial, hJx3⟩⟩
        · have HX := Aside0.mk (show ext_ c.f1 c.f2 (l0.drop (k + 1)) = j - (k + 1) by
            have h2_ := HE.out
            rw [show l0.drop j = [] from List.drop_of_length_le (by omega)] at h2_
            exact h2_.symm)
          go_wp2
          go_quiet (fail)
          go_upto_region 7 with (fail)
          obtain ⟨W2, hW2⟩ : ∃ W2, ((wr.alloc (.cells #[.int .i64 (k : Int), .int .i64 (j : Int), .int .i64 c.f1, .string c.f2, .int .i64 0] 28)).drewN nz).drewN nq = W2 := ⟨_, rfl⟩
          have F := fresh_boxN_ wr (.cells #[.int .i64 (k : Int), .int .i64 (j : Int), .int .i64 c.f1, .string c.f2, .int .i64 0] 28) nz nq
          rw [hW2] at F ⊢
          clear hW2 hb1a x0a x1a x2a hb1 x0 x1 x2 hq
          obtain ⟨F1, F2, F3⟩ := F
          have HJ2 := HJ'.out pre wr W2 none HJ.out F3 (fun _ e => by cases e)
          obtain ⟨fn, tmps, assign, body, hy, hR⟩ := HY.out pre (runAt_ k c (l0.drop (k + 1))) W2 HJ2 (by have := HP.out; omega)
          rw [run_not_ k c _ (j - (k + 1)) C10.out HX.out, show k + 1 + (j - (k + 1)) = j by omega] at hy
          have hF2 := blk_cell F2 0
          have g0 : W2.cell? ⟨wr.heap.size, 0, none⟩ = some (.int .i64 (k : Int)) := (blk_cell F2 0).trans rfl
          have g1 : W2.cell? ⟨wr.heap.size, 1, none⟩ = some (.int .i64 (j : Int)) := (blk_cell F2 1).trans rfl
          have g2 : W2.cell? ⟨wr.heap.size, 2, none⟩ = some (.int .i64 c.f1) := (blk_cell F2 2).trans rfl
          have g3 : W2.cell? ⟨wr.heap.size, 3, none⟩ = some (.string c.f2) := (blk_cell F2 3).trans rfl
          have g4 : W2.cell? ⟨wr.heap.size, 4, none⟩ = some (.int .i64 0) := (blk_cell F2 4).trans rfl
          clear hF2
          have KP := Kp_.grown (n₀ := n₀) (o := o) (A := wr) (B := W2) (by have := HB.out.2; omega) (by have := HB.out.2; omega) F1
          have NF := Aside0.mk (free_new_ HW.out.1 (show o < wr.heap.size by have := HB.out.2; omega) F1 (Nat.le_refl _) F2)
          have KQ := Aside0.mk (KP.2 HW.out.1)
          have KB := Aside0.mk KP.1
          have FF2 := Aside0.mk F2
          have FF1 := Aside0.mk F1
          clear KP F1 F2 F3 HJ2
          refine (wpIn_wide (n := n)).1 ?_
          gi_wp2
          refine hR.mono ?_
          rintro e W3 (⟨rfl, hJ3, hk3⟩ | ⟨rfl, hJx3⟩)
          · have K3 := Aside0.mk (hk3.2 KQ.out.1)
            have h1 : W3.cell? ⟨wr.heap.size, 1, none⟩ = some (.int .i64 (j : Int)) := (blk_cell ((K3.out.2 _ NF.out).1.trans FF2.out) 1).trans rfl
            have HB3 := Aside0.mk (show Below n₀ W W3 ∧ W.heap.size ≤ W3.heap.size from ⟨(HB.out.1.trans KB.out).trans hk3.1, Nat.le_trans HB.out.2 (Nat.le_trans KB.out.size hk3.1.size)⟩)
            have HBn3 := Aside0.mk (show W3.heap[Bn]? = some (.cells #[.slice (some ad) l0.length c0] 22 (0, 0)) from ((K3.out.2 Bn (KQ.out.2 Bn HW.out.2).2).1.trans (KQ.out.2 Bn HW.out.2).1).trans HBn.out)
            have HW3 := Aside0.mk (show WFo_ o W3 ∧ Free_ o W3 Bn from ⟨K3.out.1, (K3.out.2 Bn (KQ.out.2 Bn HW.out.2).2).2⟩)
            have HR3 := Aside0.mk (show (pre ++ [runAt_ k c (l0.drop (k + 1))]) ++ runsFrom_ (l0.length - j) j (l0.drop j) = runs_ l0 by
              have e_ := runsFrom_step_ l0 k c HAT.out
              rw [if_neg C10.out, HX.out, show k + 1 + (j - (k + 1)) = j by omega] at e_
              rw [List.append_assoc, ← HR.out, e_]
              rfl)
            have HJ3 := Aside0.mk hJ3
            clear hk3 hJ3 hR hy
            gi_wp2
            go_wp2
            go_roundw
            case rel => exact ⟨j, _, rfl, hj2, ⟨by have := HP.out; simp; omega⟩, HR3, HJ3, HB3, HBn3, HW3⟩
            case measure => simp [intOf]; omega
          · gi_wp2
            go_wp2
            refine bodyPost_ret (results_none rfl _ _ _) rfl ?_
            exact ⟨⟨_, rfl⟩, .inr ⟨_, trivial, hJx3⟩⟩
    · have HF := Aside0.mk (show pre = runs_ l0 by
        have h_ := HR.out
        rw [show l0.length - k = 0 by omega] at h_
        simpa [runsFrom_] using h_)
      go_wp2
      go_end0
      exact ⟨⟨_, rfl⟩, .inl ⟨pre, HF.out, HJ.out⟩⟩

end Go.Proofs.Ytgdpknmffohhaaa.Pr
