-- PRINTED by print.py (a twelfth state) out of the translation. Not trusted: Lean checks it.
import Derived.Test.YtgdpknmffohhaaaPr0
import Derived.Test.YtgdpknmffohhaaaPr10
import Derived.Test.YtgdpknmffohhaaaPr11
import Derived.Test.YtgdpknmffohhaaaPr26
namespace Go.Proofs.Ytgdpknmffohhaaa.Pr
open Go.RowKit Go.Proofs.YtgdpknmffohhaaaW.PrintWords Go.Proofs.YtgdpknmffohhaaaW.PrintLast Go.Proofs.YtgdpknmffohhaaaW.PrintMore
attribute [local go_sem] max2_int min2_int max_two min_two max_three min_three max_four min_four   -- for this text's walks alone
set_option linter.unusedVariables false
set_option linter.unusedSimpArgs false

/-! ### quillworklaw05_CellsWhole: function 3 -/
mutual
def quillworklaw05_CellsWhole.l0 : Nat → List (S30) → List (S28) → Int → Int → Option (Bool)
  | 0, _, _, _, _ => none
  | k + 1, x0, x3, x4, x5 => if x5 < (x3.length : Int) then (if 0 ≤ x5 then (if ((rd_T28 x3 x5).f0) = x4 then (if ((rd_T28 x3 x5).f1) ≤ ((rd_T28 x3 x5).f0) then (quillworklaw05_CellsWhole.j1 k x0 x3 x5 true ((rd_T28 x3 x5).f0) ((rd_T28 x3 x5).f1) ((rd_T28 x3 x5).f2) ((rd_T28 x3 x5).f3) ((rd_T28 x3 x5).f4)) else (if ((rd_T28 x3 x5).f1) > (x0.length : Int) then (quillworklaw05_CellsWhole.j1 k x0 x3 x5 true ((rd_T28 x3 x5).f0) ((rd_T28 x3 x5).f1) ((rd_T28 x3 x5).f2) ((rd_T28 x3 x5).f3) ((rd_T28 x3 x5).f4)) else (if ((rd_T28 x3 x5).f4) = 1 then (quillworklaw05_CellsWhole.j1 k x0 x3 x5 (((rd_T28 x3 x5).f1) != (wrap64 (((rd_T28 x3 x5).f0) + 1))) ((rd_T28 x3 x5).f0) ((rd_T28 x3 x5).f1) ((rd_T28 x3 x5).f2) ((rd_T28 x3 x5).f3) ((rd_T28 x3 x5).f4)) else (quillworklaw05_CellsWhole.j1 k x0 x3 x5 false ((rd_T28 x3 x5).f0) ((rd_T28 x3 x5).f1) ((rd_T28 x3 x5).f2) ((rd_T28 x3 x5).f3) ((rd_T28 x3 x5).f4))))) else (quillworklaw05_CellsWhole.j1 k x0 x3 x5 true ((rd_T28 x3 x5).f0) ((rd_T28 x3 x5).f1) ((rd_T28 x3 x5).f2) ((rd_T28 x3 x5).f3) ((rd_T28 x3 x5).f4))) else (none)) else (if x4 = (x0.length : Int) then ((quillworklaw05_awake.f k).bind fun t153 => (some t153)) else (some false))
def quillworklaw05_CellsWhole.j1 : Nat → List (S30) → List (S28) → Int → Bool → Int → Int → Int → ByteArray → Int → Option (Bool)
  | 0, _, _, _, _, _, _, _, _, _ => none
  | k + 1, x0, x3, x5, x53, x156000, x156001, x156002, x156003, x156004 => if x53 = true then (some false) else (quillworklaw05_CellsWhole.l1 k x0 x3 x5 x156000 x156000 x156001 x156002 x156003 x156004)
def quillworklaw05_CellsWhole.l1 : Nat → List (S30) → List (S28) → Int → Int → Int → Int → Int → ByteArray → Int → Option (Bool)
  | 0, _, _, _, _, _, _, _, _, _ => none
  | k + 1, x0, x3, x5, x7, x156000, x156001, x156002, x156003, x156004 => if x7 < x156001 then (if 0 ≤ x7 then (if x7 < (x0.length : Int) then (if ((rd_T30 x0 x7).f1) = x156002 then (if ((rd_T30 x0 x7).f2).toList = x156003.toList then (if ((((rd_T30 x0 x7).f0) == 10) != (x156004 == 1)) = true then (some false) else (quillworklaw05_CellsWhole.l1 k x0 x3 x5 (wrap64 (x7 + 1)) x156000 x156001 x156002 x156003 x156004)) else (some false)) else (some false)) else (none)) else (none)) else (if x5 > 0 then (if x156004 = 0 then (if 0 ≤ (wrap64 (x5 - 1)) then (if (wrap64 (x5 - 1)) < (x3.length : Int) then (if ((rd_T28 x3 (wrap64 (x5 - 1))).f4) = 0 then (if x156002 = ((rd_T28 x3 (wrap64 (x5 - 1))).f2) then (if x156003.toList = ((rd_T28 x3 (wrap64 (x5 - 1))).f3).toList then (some false) else (quillworklaw05_CellsWhole.l0 k x0 x3 x156001 (wrap64 (x5 + 1)))) else (quillworklaw05_CellsWhole.l0 k x0 x3 x156001 (wrap64 (x5 + 1)))) else (quillworklaw05_CellsWhole.l0 k x0 x3 x156001 (wrap64 (x5 + 1)))) else (none)) else (none)) else (quillworklaw05_CellsWhole.l0 k x0 x3 x156001 (wrap64 (x5 + 1)))) else (quillworklaw05_CellsWhole.l0 k x0 x3 x156001 (wrap64 (x5 + 1))))
end
def quillworklaw05_CellsWhole.f (k : Nat) (l0 : List (S30)) : Option (Bool) := (quillworklaw05_long.f k l0).bind fun t148 => (if t148 = true then ((quillworklaw05_awake.f k).bind fun t149 => (some t149)) else ((cells_Runs.f l0).bind fun t150 => (quillworklaw05_CellsWhole.l0 k l0 t150 0 0)))
theorem quillworklaw05_CellsWhole.mono_l : ∀ k, (∀ y0 y1 y2 y3, LeO (quillworklaw05_CellsWhole.l0 k y0 y1 y2 y3) (quillworklaw05_CellsWhole.l0 (k + 1) y0 y1 y2 y3)) ∧ (∀ y0 y1 y2 y3 y4 y5 y6 y7 y8, LeO (quillworklaw05_CellsWhole.j1 k y0 y1 y2 y3 y4 y5 y6 y7 y8) (quillworklaw05_CellsWhole.j1 (k + 1) y0 y1 y2 y3 y4 y5 y6 y7 y8)) ∧ (∀ y0 y1 y2 y3 y4 y5 y6 y7 y8, LeO (quillworklaw05_CellsWhole.l1 k y0 y1 y2 y3 y4 y5 y6 y7 y8) (quillworklaw05_CellsWhole.l1 (k + 1) y0 y1 y2 y3 y4 y5 y6 y7 y8))
  | 0 => ⟨fun _ _ _ _ r h => by simp [quillworklaw05_CellsWhole.l0] at h, fun _ _ _ _ _ _ _ _ _ r h => by simp [quillworklaw05_CellsWhole.j1] at h, fun _ _ _ _ _ _ _ _ _ r h => by simp [quillworklaw05_CellsWhole.l1] at h⟩
  | k + 1 => by
    obtain ⟨ih0, ih1, ih2⟩ := quillworklaw05_CellsWhole.mono_l k
    refine ⟨?_, ?_, ?_⟩
    · intro y0 y1 y2 y3
      unfold quillworklaw05_CellsWhole.l0
      repeat' first
      | (with_reducible exact ih0 _ _ _ _)
      | (with_reducible exact ih1 _ _ _ _ _ _ _ _ _)
      | (with_reducible exact ih2 _ _ _ _ _ _ _ _ _)
      | (with_reducible exact quillworklaw05_awake.mono _)
      | (with_reducible exact quillworklaw05_long.mono _ _)
      | (with_reducible exact LeO.refl _)
      | (with_reducible exact LeO.none _)
      | (with_reducible refine LeO.ite ?_ ?_)
      | (with_reducible refine LeO.bind ?_ (fun _ => ?_))
      | exact ih0 _ _ _ _
      | exact ih1 _ _ _ _ _ _ _ _ _
      | exact ih2 _ _ _ _ _ _ _ _ _
      | exact quillworklaw05_awake.mono _
      | exact quillworklaw05_long.mono _ _
      | exact LeO.none _
      | refine LeO.ite ?_ ?_
      | refine LeO.bind ?_ (fun _ => ?_)
    · intro y0 y1 y2 y3 y4 y5 y6 y7 y8
      unfold quillworklaw05_CellsWhole.j1
      repeat' first
      | (with_reducible exact ih0 _ _ _ _)
      | (with_reducible exact ih1 _ _ _ _ _ _ _ _ _)
      | (with_reducible exact ih2 _ _ _ _ _ _ _ _ _)
      | (with_reducible exact quillworklaw05_awake.mono _)
      | (with_reducible exact quillworklaw05_long.mono _ _)
      | (with_reducible exact LeO.refl _)
      | (with_reducible exact LeO.none _)
      | (with_reducible refine LeO.ite ?_ ?_)
      | (with_reducible refine LeO.bind ?_ (fun _ => ?_))
      | exact ih0 _ _ _ _
      | exact ih1 _ _ _ _ _ _ _ _ _
      | exact ih2 _ _ _ _ _ _ _ _ _
      | exact quillworklaw05_awake.mono _
      | exact quillworklaw05_long.mono _ _
      | exact LeO.none _
      | refine LeO.ite ?_ ?_
      | refine LeO.bind ?_ (fun _ => ?_)
    · intro y0 y1 y2 y3 y4 y5 y6 y7 y8
      unfold quillworklaw05_CellsWhole.l1
      repeat' first
      | (with_reducible exact ih0 _ _ _ _)
      | (with_reducible exact ih1 _ _ _ _ _ _ _ _ _)
      | (with_reducible exact ih2 _ _ _ _ _ _ _ _ _)
      | (with_reducible exact quillworklaw05_awake.mono _)
      | (with_reducible exact quillworklaw05_long.mono _ _)
      | (with_reducible exact LeO.refl _)
      | (with_reducible exact LeO.none _)
      | (with_reducible refine LeO.ite ?_ ?_)
      | (with_reducible refine LeO.bind ?_ (fun _ => ?_))
      | exact ih0 _ _ _ _
      | exact ih1 _ _ _ _ _ _ _ _ _
      | exact ih2 _ _ _ _ _ _ _ _ _
      | exact quillworklaw05_awake.mono _
      | exact quillworklaw05_long.mono _ _
      | exact LeO.none _
      | refine LeO.ite ?_ ?_
      | refine LeO.bind ?_ (fun _ => ?_)
theorem quillworklaw05_CellsWhole.mono : ∀ a0 k, LeO (quillworklaw05_CellsWhole.f k a0) (quillworklaw05_CellsWhole.f (k + 1) a0) := by
  intro a0 k
  obtain ⟨ih0, ih1, ih2⟩ := quillworklaw05_CellsWhole.mono_l k
  unfold quillworklaw05_CellsWhole.f
  repeat' first
      | (with_reducible exact ih0 _ _ _ _)
      | (with_reducible exact ih1 _ _ _ _ _ _ _ _ _)
      | (with_reducible exact ih2 _ _ _ _ _ _ _ _ _)
      | (with_reducible exact quillworklaw05_awake.mono _)
      | (with_reducible exact quillworklaw05_long.mono _ _)
      | (with_reducible exact LeO.refl _)
      | (with_reducible exact LeO.none _)
      | (with_reducible refine LeO.ite ?_ ?_)
      | (with_reducible refine LeO.bind ?_ (fun _ => ?_))
      | exact ih0 _ _ _ _
      | exact ih1 _ _ _ _ _ _ _ _ _
      | exact ih2 _ _ _ _ _ _ _ _ _
      | exact quillworklaw05_awake.mono _
      | exact quillworklaw05_long.mono _ _
      | exact LeO.none _
      | refine LeO.ite ?_ ?_
      | refine LeO.bind ?_ (fun _ => ?_)
set_option maxHeartbeats 8000000 in
set_option maxRecDepth 100000 in
theorem quillworklaw05_CellsWhole.calls (k : Nat) (A0 : Option Addr) (c0 : Nat) (l0 : List (S30)) (r : Bool) (w : World) (hr0 : Kd.C k30 w A0 l0.length l0) (hc0 : l0.length ≤ c0) (h : quillworklaw05_CellsWhole.f k l0 = some r) :
    Calls Try.prog 3 #[.slice A0 l0.length c0] w fun e w' => e = .returned (.bool r) ∧ Below w.heap.size w w' := by
  have hu28 := Try.underlying28
  have HR0 := Aside0.mk hr0
  have HC0 := Aside0.mk hc0
  clear hr0 hc0
  have HB := Aside0.mk (Below.refl w.heap.size w)
  have H : ((quillworklaw05_long.f k l0).bind fun t148 => (if t148 = true then ((quillworklaw05_awake.f k).bind fun t149 => (some t149)) else ((cells_Runs.f l0).bind fun t150 => (quillworklaw05_CellsWhole.l0 k l0 t150 0 0)))) = some r := h
  clear h
  replace H := Option.bind_eq_some_iff.mp H
  obtain ⟨t148, A20, H⟩ := H
  replace H : (if t148 = true then ((quillworklaw05_awake.f k).bind fun t149 => (some t149)) else ((cells_Runs.f l0).bind fun t150 => (quillworklaw05_CellsWhole.l0 k l0 t150 0 0))) = some r := H
  have A2 := Aside0.mk A20
  clear A20
  by_cases c3 : t148 = true
  · subst c3
    have H1 : ((quillworklaw05_awake.f k).bind fun t149 => (some t149)) = some r := by rw [if_pos rfl] at H; exact H
    clear H
    have H := H1
    clear H1
    replace H := Option.bind_eq_some_iff.mp H
    obtain ⟨t149, A40, H⟩ := H
    replace H : (some t149) = some r := H
    have A4 := Aside0.mk A40
    clear A40
    obtain rfl := Option.some.inj H
    go_enter Try.func3, Try.ntmps3
    go_wp2_with (first | (go_at_call 7; (with_reducible refine (quillworklaw05_long.calls k _ _ l0 true _ ?side1 ?side2 A2.out).mono ?_); (case side1 => repeat (first | exact HR0.out | (with_reducible refine Kd.C_alloc ?_ _) | (with_reducible refine Kd.C_drewN ?_ _) | (with_reducible refine Kd.C_drew ?_))); (case side2 => exact HC0.out); rintro e w' ⟨rfl, ⟨nd, rfl⟩⟩; (try first | exact ⟨rfl, _, World.drewN_drewN _ _ _⟩ | exact ⟨rfl, _, Eq.trans (World.drewN_drewN _ _ _) (congrArg (World.drewN _) (Nat.add_assoc _ _ _))⟩)) | (go_at_call 8; (with_reducible refine (quillworklaw05_awake.calls k  t149 _ A4.out).mono ?_); rintro e w5 ⟨rfl, hb⟩; have n0_ := Aside0.mk (below_step (by repeat (first | (with_reducible first | exact HB.out | apply below_alloc | apply pw_below_drewN | apply below_drew1) | exact HB.out)) hb); clear HB; have HB := n0_; clear n0_; (try clear hb); (try clear hb2); (try clear hk); (try clear hi)))
    repeat (go_quiet (first | (go_at_call 7; (with_reducible refine (quillworklaw05_long.calls k _ _ l0 true _ ?side1 ?side2 A2.out).mono ?_); (case side1 => repeat (first | exact HR0.out | (with_reducible refine Kd.C_alloc ?_ _) | (with_reducible refine Kd.C_drewN ?_ _) | (with_reducible refine Kd.C_drew ?_))); (case side2 => exact HC0.out); rintro e w' ⟨rfl, ⟨nd, rfl⟩⟩; (try first | exact ⟨rfl, _, World.drewN_drewN _ _ _⟩ | exact ⟨rfl, _, Eq.trans (World.drewN_drewN _ _ _) (congrArg (World.drewN _) (Nat.add_assoc _ _ _))⟩)) | (go_at_call 8; (with_reducible refine (quillworklaw05_awake.calls k  t149 _ A4.out).mono ?_); rintro e w5 ⟨rfl, hb⟩; have n0_ := Aside0.mk (below_step (by repeat (first | (with_reducible first | exact HB.out | apply below_alloc | apply pw_below_drewN | apply below_drew1) | exact HB.out)) hb); clear HB; have HB := n0_; clear n0_; (try clear hb); (try clear hb2); (try clear hk); (try clear hi))); try go_wp2_with (first | (go_at_call 7; (with_reducible refine (quillworklaw05_long.calls k _ _ l0 true _ ?side1 ?side2 A2.out).mono ?_); (case side1 => repeat (first | exact HR0.out | (with_reducible refine Kd.C_alloc ?_ _) | (with_reducible refine Kd.C_drewN ?_ _) | (with_reducible refine Kd.C_drew ?_))); (case side2 => exact HC0.out); rintro e w' ⟨rfl, ⟨nd, rfl⟩⟩; (try first | exact ⟨rfl, _, World.drewN_drewN _ _ _⟩ | exact ⟨rfl, _, Eq.trans (World.drewN_drewN _ _ _) (congrArg (World.drewN _) (Nat.add_assoc _ _ _))⟩)) | (go_at_call 8; (with_reducible refine (quillworklaw05_awake.calls k  t149 _ A4.out).mono ?_); rintro e w5 ⟨rfl, hb⟩; have n0_ := Aside0.mk (below_step (by repeat (first | (with_reducible first | exact HB.out | apply below_alloc | apply pw_below_drewN | apply below_drew1) | exact HB.out)) hb); clear HB; have HB := n0_; clear n0_; (try clear hb); (try clear hb2); (try clear hk); (try clear hi))))
    go_ret
    exact ⟨by first | rfl | (simp [errW_none, errW_some] <;> rfl) | (simp [*, errW_none, errW_some] <;> rfl), by repeat (first | (with_reducible first | exact HB.out | apply below_alloc | apply pw_below_drewN | apply below_drew1) | exact HB.out)⟩
  · replace c3 := Bool.eq_false_iff.mpr c3
    subst c3
    have H1 : ((cells_Runs.f l0).bind fun t150 => (quillworklaw05_CellsWhole.l0 k l0 t150 0 0)) = some r := by rw [if_neg (show ¬ (false = true) by decide)] at H; exact H
    clear H
    have H := H1
    clear H1
    replace H := Option.bind_eq_some_iff.mp H
    obtain ⟨t150, A60, H⟩ := H
    replace H : (quillworklaw05_CellsWhole.l0 k l0 t150 0 0) = some r := H
    have A6 := Aside0.mk A60
    clear A60
    have H' := Aside0.mk H
    clear H
    go_enter Try.func3, Try.ntmps3
    go_wp2_with (first | (go_at_call 7; (with_reducible refine (quillworklaw05_long.calls k _ _ l0 false _ ?side1 ?side2 A2.out).mono ?_); (case side1 => repeat (first | exact HR0.out | (with_reducible refine Kd.C_alloc ?_ _) | (with_reducible refine Kd.C_drewN ?_ _) | (with_reducible refine Kd.C_drew ?_))); (case side2 => exact HC0.out); rintro e w' ⟨rfl, ⟨nd, rfl⟩⟩; (try first | exact ⟨rfl, _, World.drewN_drewN _ _ _⟩ | exact ⟨rfl, _, Eq.trans (World.drewN_drewN _ _ _) (congrArg (World.drewN _) (Nat.add_assoc _ _ _))⟩)) | (go_at_call 9; (with_reducible refine (cells_Runs.calls _ _ l0 t150 _ ?side1 ?side2 A6.out).mono ?_); (case side1 => repeat (first | exact HR0.out | (with_reducible refine Kd.C_alloc ?_ _) | (with_reducible refine Kd.C_drewN ?_ _) | (with_reducible refine Kd.C_drew ?_))); (case side2 => exact HC0.out); rintro e w7 ⟨v151, rfl, ho0, hb⟩; have n0_ := Aside0.mk (Kd.R_lower ho0 (below_size (by repeat (first | (with_reducible first | exact HB.out | apply below_alloc | apply pw_below_drewN | apply below_drew1) | exact HB.out)))); have n1_ := Aside0.mk (below_step (by repeat (first | (with_reducible first | exact HB.out | apply below_alloc | apply pw_below_drewN | apply below_drew1) | exact HB.out)) hb); clear HB; have HO152 := n0_; have HB := n1_; clear n0_ n1_; (try clear hb); (try clear hb2); (try clear hk); (try clear hi); (try clear ho0)))
    repeat (go_quiet (first | (go_at_call 7; (with_reducible refine (quillworklaw05_long.calls k _ _ l0 false _ ?side1 ?side2 A2.out).mono ?_); (case side1 => repeat (first | exact HR0.out | (with_reducible refine Kd.C_alloc ?_ _) | (with_reducible refine Kd.C_drewN ?_ _) | (with_reducible refine Kd.C_drew ?_))); (case side2 => exact HC0.out); rintro e w' ⟨rfl, ⟨nd, rfl⟩⟩; (try first | exact ⟨rfl, _, World.drewN_drewN _ _ _⟩ | exact ⟨rfl, _, Eq.trans (World.drewN_drewN _ _ _) (congrArg (World.drewN _) (Nat.add_assoc _ _ _))⟩)) | (go_at_call 9; (with_reducible refine (cells_Runs.calls _ _ l0 t150 _ ?side1 ?side2 A6.out).mono ?_); (case side1 => repeat (first | exact HR0.out | (with_reducible refine Kd.C_alloc ?_ _) | (with_reducible refine Kd.C_drewN ?_ _) | (with_reducible refine Kd.C_drew ?_))); (case side2 => exact HC0.out); rintro e w7 ⟨v151, rfl, ho0, hb⟩; have n0_ := Aside0.mk (Kd.R_lower ho0 (below_size (by repeat (first | (with_reducible first | exact HB.out | apply below_alloc | apply pw_below_drewN | apply below_drew1) | exact HB.out)))); have n1_ := Aside0.mk (below_step (by repeat (first | (with_reducible first | exact HB.out | apply below_alloc | apply pw_below_drewN | apply below_drew1) | exact HB.out)) hb); clear HB; have HO152 := n0_; have HB := n1_; clear n0_ n1_; (try clear hb); (try clear hb2); (try clear hk); (try clear hi); (try clear ho0))); try go_wp2_with (first | (go_at_call 7; (with_reducible refine (quillworklaw05_long.calls k _ _ l0 false _ ?side1 ?side2 A2.out).mono ?_); (case side1 => repeat (first | exact HR0.out | (with_reducible refine Kd.C_alloc ?_ _) | (with_reducible refine Kd.C_drewN ?_ _) | (with_reducible refine Kd.C_drew ?_))); (case side2 => exact HC0.out); rintro e w' ⟨rfl, ⟨nd, rfl⟩⟩; (try first | exact ⟨rfl, _, World.drewN_drewN _ _ _⟩ | exact ⟨rfl, _, Eq.trans (World.drewN_drewN _ _ _) (congrArg (World.drewN _) (Nat.add_assoc _ _ _))⟩)) | (go_at_call 9; (with_reducible refine (cells_Runs.calls _ _ l0 t150 _ ?side1 ?side2 A6.out).mono ?_); (case side1 => repeat (first | exact HR0.out | (with_reducible refine Kd.C_alloc ?_ _) | (with_reducible refine Kd.C_drewN ?_ _) | (with_reducible refine Kd.C_drew ?_))); (case side2 => exact HC0.out); rintro e w7 ⟨v151, rfl, ho0, hb⟩; have n0_ := Aside0.mk (Kd.R_lower ho0 (below_size (by repeat (first | (with_reducible first | exact HB.out | apply below_alloc | apply pw_below_drewN | apply below_drew1) | exact HB.out)))); have n1_ := Aside0.mk (below_step (by repeat (first | (with_reducible first | exact HB.out | apply below_alloc | apply pw_below_drewN | apply below_drew1) | exact HB.out)) hb); clear HB; have HO152 := n0_; have HB := n1_; clear n0_ n1_; (try clear hb); (try clear hb2); (try clear hk); (try clear hi); (try clear ho0))))
    go_loopg [4, 5] k (fun kq v4 v5 w' => ∃ (x4_1 : Int) (x5_1 : Int), v4 = .int .i64 x4_1 ∧ v5 = .int .i64 x5_1 ∧ Aside0 (quillworklaw05_CellsWhole.l0 kq l0 t150 x4_1 x5_1 = some r) ∧ Aside0 (kq ≤ k) ∧ Aside0 (Kd.R k28 28 w' w.heap.size (fun _ => True) v151 t150) ∧ Aside0 (Below w.heap.size w w'))
    case atStart => exact ⟨(0), (0), (by first | rfl | (simp; done) | (simp [*]; done)), (by first | rfl | (simp; done) | (simp [*]; done)), H', ⟨Nat.le_refl _⟩, ⟨by (with_reducible repeat (first | apply Kd.R_alloc | apply Kd.R_drewN | apply Kd.R_drew)); exact HO152.out⟩, ⟨by repeat (first | (with_reducible first | exact HB.out | apply below_alloc | apply pw_below_drewN | apply below_drew1) | exact HB.out)⟩⟩
    case round =>
      clear H'
      try clear p2
      try clear c3
      obtain ⟨x4_1, x5_1, rfl, rfl, HA, HK1, HO_3, HB⟩ := hrel
      cases gk with
      | zero => exact absurd HA.out (by simp [quillworklaw05_CellsWhole.l0])
      | succ k1 =>
        have H := HA.out
        clear HA
        simp only [quillworklaw05_CellsWhole.l0] at H
        by_cases c8 : x5_1 < (t150.length : Int)
        · rw [if_pos c8] at H
          have c8b0 : decide (x5_1 < (t150.length : Int)) = true := decide_eq_true c8
          clear c8
          by_cases c9 : 0 ≤ x5_1
          · rw [if_pos c9] at H
            have c9b0 : decide (0 ≤ x5_1) = true := decide_eq_true c9
            clear c9
            have HC10 := Aside0.mk H
            clear H
            obtain ⟨Ao11, co11, eo11⟩ := Kd.R_slice HO_3.out
            subst eo11
            have p154 : 0 ≤ (x5_1 : Int) := of_decide_eq_true (by first | (with_reducible assumption) | assumption)
            have q154 : x5_1 < (t150.length : Int) := of_decide_eq_true (by first | (with_reducible assumption) | assumption)
            obtain ⟨ad154, e154, hx154_0, hx154_1, hx154_2, hx154_3, hx154_4⟩ := at_T28 (Kd.R_reads' HO_3.out).2.2 x5_1 p154 q154
            cases e154
            replace p154 := eq_true p154
            replace q154 := eq_true q154
            go_upto_region 9 with (first | ((with_reducible refine gate_dst (N := 6) rfl ?_); (try (refine gate_guard (by rfl) ?_; dsimp only)); refine box_event ?hg (N := 6) ?hd (cs := #[.int .i64 0, .int .i64 0, .int .i64 0, .string (⟨#[]⟩ : ByteArray), .int .i64 0]) (t := 28) ?hr ?_; (case hd => rfl); (case hg => rfl); (case hr => first | (go_simp; done) | (go_simp; rfl)); intro gb155 hg w12 hbox hb; have n0_ := Aside0.mk (Kd.R_below (Kd.R_elderB (by (with_reducible repeat (first | apply Kd.R_alloc | apply Kd.R_drewN | apply Kd.R_drew)); exact HO_3.out) gb155 (Nat.le_of_eq hg.symm)) hb); have n1_ := Aside0.mk (below_step (by repeat (first | (with_reducible first | exact HB.out | apply below_alloc | apply pw_below_drewN | apply below_drew1) | exact HB.out)) hb); have n2_ := Aside0.mk (hbox); have n3_ := Aside0.mk ((by rw [hg]; exact (below_size (by repeat (first | (with_reducible first | exact HB.out | apply below_alloc | apply pw_below_drewN | apply below_drew1) | exact HB.out))) : w.heap.size ≤ gb155)); have n4_ := Aside0.mk ((by rw [hg]; exact (below_size (by repeat (first | (with_reducible first | exact HB.out | apply below_alloc | apply pw_below_drewN | apply below_drew1) | exact HB.out))) : w.heap.size ≤ gb155)); clear HO_3; clear HB; have HO_3 := n0_; have HB := n1_; have BK155 := n2_; have GW155 := n3_; have GE155 := n4_; clear n0_ n1_ n2_ n3_ n4_; clear hb hbox hg; have hcz13_0 : w12.cell? ⟨gb155, 0, none⟩ = some (.int .i64 0) := (blk_cell BK155.out 0).trans rfl; have hcz13_1 : w12.cell? ⟨gb155, 1, none⟩ = some (.int .i64 0) := (blk_cell BK155.out 1).trans rfl; have hcz13_2 : w12.cell? ⟨gb155, 2, none⟩ = some (.int .i64 0) := (blk_cell BK155.out 2).trans rfl; have hcz13_3 : w12.cell? ⟨gb155, 3, none⟩ = some (.string (⟨#[]⟩ : ByteArray)) := (blk_cell BK155.out 3).trans rfl; have hcz13_4 : w12.cell? ⟨gb155, 4, none⟩ = some (.int .i64 0) := (blk_cell BK155.out 4).trans rfl; have hfz13_0 := blk_frozen BK155.out 0; have hfz13_1 := blk_frozen BK155.out 1; have hfz13_2 := blk_frozen BK155.out 2; have hfz13_3 := blk_frozen BK155.out 3; have hfz13_4 := blk_frozen BK155.out 4))
            repeat (go_quiet (first | ((with_reducible refine gate_dst (N := 6) rfl ?_); (try (refine gate_guard (by rfl) ?_; dsimp only)); refine box_event ?hg (N := 6) ?hd (cs := #[.int .i64 0, .int .i64 0, .int .i64 0, .string (⟨#[]⟩ : ByteArray), .int .i64 0]) (t := 28) ?hr ?_; (case hd => rfl); (case hg => rfl); (case hr => first | (go_simp; done) | (go_simp; rfl)); intro gb155 hg w12 hbox hb; have n0_ := Aside0.mk (Kd.R_below (Kd.R_elderB (by (with_reducible repeat (first | apply Kd.R_alloc | apply Kd.R_drewN | apply Kd.R_drew)); exact HO_3.out) gb155 (Nat.le_of_eq hg.symm)) hb); have n1_ := Aside0.mk (below_step (by repeat (first | (with_reducible first | exact HB.out | apply below_alloc | apply pw_below_drewN | apply below_drew1) | exact HB.out)) hb); have n2_ := Aside0.mk (hbox); have n3_ := Aside0.mk ((by rw [hg]; exact (below_size (by repeat (first | (with_reducible first | exact HB.out | apply below_alloc | apply pw_below_drewN | apply below_drew1) | exact HB.out))) : w.heap.size ≤ gb155)); have n4_ := Aside0.mk ((by rw [hg]; exact (below_size (by repeat (first | (with_reducible first | exact HB.out | apply below_alloc | apply pw_below_drewN | apply below_drew1) | exact HB.out))) : w.heap.size ≤ gb155)); clear HO_3; clear HB; have HO_3 := n0_; have HB := n1_; have BK155 := n2_; have GW155 := n3_; have GE155 := n4_; clear n0_ n1_ n2_ n3_ n4_; clear hb hbox hg; have hcz13_0 : w12.cell? ⟨gb155, 0, none⟩ = some (.int .i64 0) := (blk_cell BK155.out 0).trans rfl; have hcz13_1 : w12.cell? ⟨gb155, 1, none⟩ = some (.int .i64 0) := (blk_cell BK155.out 1).trans rfl; have hcz13_2 : w12.cell? ⟨gb155, 2, none⟩ = some (.int .i64 0) := (blk_cell BK155.out 2).trans rfl; have hcz13_3 : w12.cell? ⟨gb155, 3, none⟩ = some (.string (⟨#[]⟩ : ByteArray)) := (blk_cell BK155.out 3).trans rfl; have hcz13_4 : w12.cell? ⟨gb155, 4, none⟩ = some (.int .i64 0) := (blk_cell BK155.out 4).trans rfl; have hfz13_0 := blk_frozen BK155.out 0; have hfz13_1 := blk_frozen BK155.out 1; have hfz13_2 := blk_frozen BK155.out 2; have hfz13_3 := blk_frozen BK155.out 3; have hfz13_4 := blk_frozen BK155.out 4)); go_upto_region 9 with (first | ((with_reducible refine gate_dst (N := 6) rfl ?_); (try (refine gate_guard (by rfl) ?_; dsimp only)); refine box_event ?hg (N := 6) ?hd (cs := #[.int .i64 0, .int .i64 0, .int .i64 0, .string (⟨#[]⟩ : ByteArray), .int .i64 0]) (t := 28) ?hr ?_; (case hd => rfl); (case hg => rfl); (case hr => first | (go_simp; done) | (go_simp; rfl)); intro gb155 hg w12 hbox hb; have n0_ := Aside0.mk (Kd.R_below (Kd.R_elderB (by (with_reducible repeat (first | apply Kd.R_alloc | apply Kd.R_drewN | apply Kd.R_drew)); exact HO_3.out) gb155 (Nat.le_of_eq hg.symm)) hb); have n1_ := Aside0.mk (below_step (by repeat (first | (with_reducible first | exact HB.out | apply below_alloc | apply pw_below_drewN | apply below_drew1) | exact HB.out)) hb); have n2_ := Aside0.mk (hbox); have n3_ := Aside0.mk ((by rw [hg]; exact (below_size (by repeat (first | (with_reducible first | exact HB.out | apply below_alloc | apply pw_below_drewN | apply below_drew1) | exact HB.out))) : w.heap.size ≤ gb155)); have n4_ := Aside0.mk ((by rw [hg]; exact (below_size (by repeat (first | (with_reducible first | exact HB.out | apply below_alloc | apply pw_below_drewN | apply below_drew1) | exact HB.out))) : w.heap.size ≤ gb155)); clear HO_3; clear HB; have HO_3 := n0_; have HB := n1_; have BK155 := n2_; have GW155 := n3_; have GE155 := n4_; clear n0_ n1_ n2_ n3_ n4_; clear hb hbox hg; have hcz13_0 : w12.cell? ⟨gb155, 0, none⟩ = some (.int .i64 0) := (blk_cell BK155.out 0).trans rfl; have hcz13_1 : w12.cell? ⟨gb155, 1, none⟩ = some (.int .i64 0) := (blk_cell BK155.out 1).trans rfl; have hcz13_2 : w12.cell? ⟨gb155, 2, none⟩ = some (.int .i64 0) := (blk_cell BK155.out 2).trans rfl; have hcz13_3 : w12.cell? ⟨gb155, 3, none⟩ = some (.string (⟨#[]⟩ : ByteArray)) := (blk_cell BK155.out 3).trans rfl; have hcz13_4 : w12.cell? ⟨gb155, 4, none⟩ = some (.int .i64 0) := (blk_cell BK155.out 4).trans rfl; have hfz13_0 := blk_frozen BK155.out 0; have hfz13_1 := blk_frozen BK155.out 1; have hfz13_2 := blk_frozen BK155.out 2; have hfz13_3 := blk_frozen BK155.out 3; have hfz13_4 := blk_frozen BK155.out 4)))
            (try simp only [Act.put, List.setIfInBounds_toArray, List.set_cons_zero, List.set_cons_succ])
            go_cut [53] (fun v53 wc => ∃ (kq : Nat) (x53_9 : Bool), v53 = .bool x53_9 ∧ Aside0 (quillworklaw05_CellsWhole.j1 kq l0 t150 x5_1 x53_9 ((rd_T28 t150 x5_1).f0) ((rd_T28 t150 x5_1).f1) ((rd_T28 t150 x5_1).f2) ((rd_T28 t150 x5_1).f3) ((rd_T28 t150 x5_1).f4) = some r) ∧ Aside0 (kq ≤ k1) ∧ Aside0 (Kd.R k28 28 wc w.heap.size (fun k_ => k_ ≠ gb155) (.slice (some ad154) t150.length co11) t150) ∧ Aside0 (wc.heap[gb155]? = some (.cells #[.int .i64 ((rd_T28 t150 x5_1).f0), .int .i64 ((rd_T28 t150 x5_1).f1), .int .i64 ((rd_T28 t150 x5_1).f2), .string ((rd_T28 t150 x5_1).f3), .int .i64 ((rd_T28 t150 x5_1).f4)] 28 (0, 0))) ∧ Aside0 (Below w.heap.size w wc))
            case first =>
              have H := HC10.out
              clear HC10
              by_cases c14 : ((rd_T28 t150 x5_1).f0) = x4_1
              · rw [if_pos c14] at H
                have c14b0 : (((rd_T28 t150 x5_1).f0) == x4_1) = true := beq_iff_eq.mpr c14
                have c14b1 : (((rd_T28 t150 x5_1).f0) != x4_1) = false := bne_eq_false_iff_eq.mpr c14
                clear c14
                (first | rw [c14b0] | (simp only [i64_w, i32_w]; rw [c14b0]) | skip)
                by_cases c15 : ((rd_T28 t150 x5_1).f1) ≤ ((rd_T28 t150 x5_1).f0)
                · rw [if_pos c15] at H
                  have c15b0 : decide (((rd_T28 t150 x5_1).f1) ≤ ((rd_T28 t150 x5_1).f0)) = true := decide_eq_true c15
                  clear c15
                  have H' := Aside0.mk H
                  clear H
                  have hcz16_0 : w12.cell? ⟨gb155, 0, none⟩ = some (.int .i64 0) := (blk_cell BK155.out 0).trans rfl
                  have hcz16_1 : w12.cell? ⟨gb155, 1, none⟩ = some (.int .i64 0) := (blk_cell BK155.out 1).trans rfl
                  have hcz16_2 : w12.cell? ⟨gb155, 2, none⟩ = some (.int .i64 0) := (blk_cell BK155.out 2).trans rfl
                  have hcz16_3 : w12.cell? ⟨gb155, 3, none⟩ = some (.string (⟨#[]⟩ : ByteArray)) := (blk_cell BK155.out 3).trans rfl
                  have hcz16_4 : w12.cell? ⟨gb155, 4, none⟩ = some (.int .i64 0) := (blk_cell BK155.out 4).trans rfl
                  have hfz16_0 := blk_frozen BK155.out 0
                  have hfz16_1 := blk_frozen BK155.out 1
                  have hfz16_2 := blk_frozen BK155.out 2
                  have hfz16_3 := blk_frozen BK155.out 3
                  have hfz16_4 := blk_frozen BK155.out 4
                  go_wp2
                  repeat (go_quiet (fail); try go_wp2)
                  go_meet
                  case rel => exact ⟨_, (true), (by first | rfl | (simp; done) | (simp [*]; done)), H', ⟨by have := HK1.out; first | omega | exact Nat.le_refl _⟩, ⟨by (with_reducible repeat (first | apply Kd.R_alloc | apply Kd.R_drewN | apply Kd.R_drew)); exact Kd.R_mono (Kd.R_far (p := ⟨gb155, 4, none⟩) (Kd.R_far (p := ⟨gb155, 3, none⟩) (Kd.R_far (p := ⟨gb155, 2, none⟩) (Kd.R_far (p := ⟨gb155, 1, none⟩) (Kd.R_far (p := ⟨gb155, 0, none⟩) (Kd.R_mono HO_3.out (fun k_ hk => (⟨hk, hk.2⟩ : _ ∧ k_ ≠ gb155))) (fun _ hk => hk.2) (.int .i64 ((rd_T28 t150 x5_1).f0))) (fun _ hk => hk.2) (.int .i64 ((rd_T28 t150 x5_1).f1))) (fun _ hk => hk.2) (.int .i64 ((rd_T28 t150 x5_1).f2))) (fun _ hk => hk.2) (.string ((rd_T28 t150 x5_1).f3))) (fun _ hk => hk.2) (.int .i64 ((rd_T28 t150 x5_1).f4))) (fun _ hk => hk.1.2)⟩, ⟨by (with_reducible repeat (first | refine blk_drewN ?_ _ | refine blk_drew ?_ | refine blk_alloc ?_ _)); refine blk_put (cs := #[.int .i64 ((rd_T28 t150 x5_1).f0), .int .i64 ((rd_T28 t150 x5_1).f1), .int .i64 ((rd_T28 t150 x5_1).f2), .string ((rd_T28 t150 x5_1).f3), .int .i64 0]) ?_ 4 _ rfl; (with_reducible repeat (first | refine blk_drewN ?_ _ | refine blk_drew ?_ | refine blk_alloc ?_ _)); refine blk_put (cs := #[.int .i64 ((rd_T28 t150 x5_1).f0), .int .i64 ((rd_T28 t150 x5_1).f1), .int .i64 ((rd_T28 t150 x5_1).f2), .string (⟨#[]⟩ : ByteArray), .int .i64 0]) ?_ 3 _ rfl; (with_reducible repeat (first | refine blk_drewN ?_ _ | refine blk_drew ?_ | refine blk_alloc ?_ _)); refine blk_put (cs := #[.int .i64 ((rd_T28 t150 x5_1).f0), .int .i64 ((rd_T28 t150 x5_1).f1), .int .i64 0, .string (⟨#[]⟩ : ByteArray), .int .i64 0]) ?_ 2 _ rfl; (with_reducible repeat (first | refine blk_drewN ?_ _ | refine blk_drew ?_ | refine blk_alloc ?_ _)); refine blk_put (cs := #[.int .i64 ((rd_T28 t150 x5_1).f0), .int .i64 0, .int .i64 0, .string (⟨#[]⟩ : ByteArray), .int .i64 0]) ?_ 1 _ rfl; (with_reducible repeat (first | refine blk_drewN ?_ _ | refine blk_drew ?_ | refine blk_alloc ?_ _)); refine blk_put (cs := #[.int .i64 0, .int .i64 0, .int .i64 0, .string (⟨#[]⟩ : ByteArray), .int .i64 0]) ?_ 0 _ rfl; (with_reducible repeat (first | refine blk_drewN ?_ _ | refine blk_drew ?_ | refine blk_alloc ?_ _)); exact BK155.out⟩, ⟨by repeat (first | (with_reducible first | exact HB.out | apply below_alloc | apply pw_below_drewN | apply below_drew1 | refine below_set ?_ GE155.out) | exact HB.out)⟩⟩
                · rw [if_neg c15] at H
                  have c15b0 : decide (((rd_T28 t150 x5_1).f1) ≤ ((rd_T28 t150 x5_1).f0)) = false := decide_eq_false c15
                  clear c15
                  by_cases c17 : ((rd_T28 t150 x5_1).f1) > (l0.length : Int)
                  · rw [if_pos c17] at H
                    have c17b0 : decide ((l0.length : Int) < ((rd_T28 t150 x5_1).f1)) = true := decide_eq_true c17
                    clear c17
                    have H' := Aside0.mk H
                    clear H
                    have hcz18_0 : w12.cell? ⟨gb155, 0, none⟩ = some (.int .i64 0) := (blk_cell BK155.out 0).trans rfl
                    have hcz18_1 : w12.cell? ⟨gb155, 1, none⟩ = some (.int .i64 0) := (blk_cell BK155.out 1).trans rfl
                    have hcz18_2 : w12.cell? ⟨gb155, 2, none⟩ = some (.int .i64 0) := (blk_cell BK155.out 2).trans rfl
                    have hcz18_3 : w12.cell? ⟨gb155, 3, none⟩ = some (.string (⟨#[]⟩ : ByteArray)) := (blk_cell BK155.out 3).trans rfl
                    have hcz18_4 : w12.cell? ⟨gb155, 4, none⟩ = some (.int .i64 0) := (blk_cell BK155.out 4).trans rfl
                    have hfz18_0 := blk_frozen BK155.out 0
                    have hfz18_1 := blk_frozen BK155.out 1
                    have hfz18_2 := blk_frozen BK155.out 2
                    have hfz18_3 := blk_frozen BK155.out 3
                    have hfz18_4 := blk_frozen BK155.out 4
                    go_wp2
                    repeat (go_quiet (fail); try go_wp2)
                    go_meet
                    case rel => exact ⟨_, (true), (by first | rfl | (simp; done) | (simp [*]; done)), H', ⟨by have := HK1.out; first | omega | exact Nat.le_refl _⟩, ⟨by (with_reducible repeat (first | apply Kd.R_alloc | apply Kd.R_drewN | apply Kd.R_drew)); exact Kd.R_mono (Kd.R_far (p := ⟨gb155, 4, none⟩) (Kd.R_far (p := ⟨gb155, 3, none⟩) (Kd.R_far (p := ⟨gb155, 2, none⟩) (Kd.R_far (p := ⟨gb155, 1, none⟩) (Kd.R_far (p := ⟨gb155, 0, none⟩) (Kd.R_mono HO_3.out (fun k_ hk => (⟨hk, hk.2⟩ : _ ∧ k_ ≠ gb155))) (fun _ hk => hk.2) (.int .i64 ((rd_T28 t150 x5_1).f0))) (fun _ hk => hk.2) (.int .i64 ((rd_T28 t150 x5_1).f1))) (fun _ hk => hk.2) (.int .i64 ((rd_T28 t150 x5_1).f2))) (fun _ hk => hk.2) (.string ((rd_T28 t150 x5_1).f3))) (fun _ hk => hk.2) (.int .i64 ((rd_T28 t150 x5_1).f4))) (fun _ hk => hk.1.2)⟩, ⟨by (with_reducible repeat (first | refine blk_drewN ?_ _ | refine blk_drew ?_ | refine blk_alloc ?_ _)); refine blk_put (cs := #[.int .i64 ((rd_T28 t150 x5_1).f0), .int .i64 ((rd_T28 t150 x5_1).f1), .int .i64 ((rd_T28 t150 x5_1).f2), .string ((rd_T28 t150 x5_1).f3), .int .i64 0]) ?_ 4 _ rfl; (with_reducible repeat (first | refine blk_drewN ?_ _ | refine blk_drew ?_ | refine blk_alloc ?_ _)); refine blk_put (cs := #[.int .i64 ((rd_T28 t150 x5_1).f0), .int .i64 ((rd_T28 t150 x5_1).f1), .int .i64 ((rd_T28 t150 x5_1).f2), .string (⟨#[]⟩ : ByteArray), .int .i64 0]) ?_ 3 _ rfl; (with_reducible repeat (first | refine blk_drewN ?_ _ | refine blk_drew ?_ | refine blk_alloc ?_ _)); refine blk_put (cs := #[.int .i64 ((rd_T28 t150 x5_1).f0), .int .i64 ((rd_T28 t150 x5_1).f1), .int .i64 0, .string (⟨#[]⟩ : ByteArray), .int .i64 0]) ?_ 2 _ rfl; (with_reducible repeat (first | refine blk_drewN ?_ _ | refine blk_drew ?_ | refine blk_alloc ?_ _)); refine blk_put (cs := #[.int .i64 ((rd_T28 t150 x5_1).f0), .int .i64 0, .int .i64 0, .string (⟨#[]⟩ : ByteArray), .int .i64 0]) ?_ 1 _ rfl; (with_reducible repeat (first | refine blk_drewN ?_ _ | refine blk_drew ?_ | refine blk_alloc ?_ _)); refine blk_put (cs := #[.int .i64 0, .int .i64 0, .int .i64 0, .string (⟨#[]⟩ : ByteArray), .int .i64 0]) ?_ 0 _ rfl; (with_reducible repeat (first | refine blk_drewN ?_ _ | refine blk_drew ?_ | refine blk_alloc ?_ _)); exact BK155.out⟩, ⟨by repeat (first | (with_reducible first | exact HB.out | apply below_alloc | apply pw_below_drewN | apply below_drew1 | refine below_set ?_ GE155.out) | exact HB.out)⟩⟩
                  · rw [if_neg c17] at H
                    have c17b0 : decide ((l0.length : Int) < ((rd_T28 t150 x5_1).f1)) = false := decide_eq_false c17
                    clear c17
                    by_cases c19 : ((rd_T28 t150 x5_1).f4) = 1
                    · rw [if_pos c19] at H
                      have c19b0 : (((rd_T28 t150 x5_1).f4) == 1) = true := beq_iff_eq.mpr c19
                      have c19b1 : (((rd_T28 t150 x5_1).f4) != 1) = false := bne_eq_false_iff_eq.mpr c19
                      clear c19
                      have H' := Aside0.mk H
                      clear H
                      have hcz20_0 : w12.cell? ⟨gb155, 0, none⟩ = some (.int .i64 0) := (blk_cell BK155.out 0).trans rfl
                      have hcz20_1 : w12.cell? ⟨gb155, 1, none⟩ = some (.int .i64 0) := (blk_cell BK155.out 1).trans rfl
                      have hcz20_2 : w12.cell? ⟨gb155, 2, none⟩ = some (.int .i64 0) := (blk_cell BK155.out 2).trans rfl
                      have hcz20_3 : w12.cell? ⟨gb155, 3, none⟩ = some (.string (⟨#[]⟩ : ByteArray)) := (blk_cell BK155.out 3).trans rfl
                      have hcz20_4 : w12.cell? ⟨gb155, 4, none⟩ = some (.int .i64 0) := (blk_cell BK155.out 4).trans rfl
                      have hfz20_0 := blk_frozen BK155.out 0
                      have hfz20_1 := blk_frozen BK155.out 1
                      have hfz20_2 := blk_frozen BK155.out 2
                      have hfz20_3 := blk_frozen BK155.out 3
                      have hfz20_4 := blk_frozen BK155.out 4
                      go_wp2
                      repeat (go_quiet (fail); try go_wp2)
                      go_meet
                      case rel => exact ⟨_, ((((rd_T28 t150 x5_1).f1) != (wrap64 (((rd_T28 t150 x5_1).f0) + 1)))), (by first | rfl | (simp; done) | (simp [*]; done)), H', ⟨by have := HK1.out; first | omega | exact Nat.le_refl _⟩, ⟨by (with_reducible repeat (first | apply Kd.R_alloc | apply Kd.R_drewN | apply Kd.R_drew)); exact Kd.R_mono (Kd.R_far (p := ⟨gb155, 4, none⟩) (Kd.R_far (p := ⟨gb155, 3, none⟩) (Kd.R_far (p := ⟨gb155, 2, none⟩) (Kd.R_far (p := ⟨gb155, 1, none⟩) (Kd.R_far (p := ⟨gb155, 0, none⟩) (Kd.R_mono HO_3.out (fun k_ hk => (⟨hk, hk.2⟩ : _ ∧ k_ ≠ gb155))) (fun _ hk => hk.2) (.int .i64 ((rd_T28 t150 x5_1).f0))) (fun _ hk => hk.2) (.int .i64 ((rd_T28 t150 x5_1).f1))) (fun _ hk => hk.2) (.int .i64 ((rd_T28 t150 x5_1).f2))) (fun _ hk => hk.2) (.string ((rd_T28 t150 x5_1).f3))) (fun _ hk => hk.2) (.int .i64 ((rd_T28 t150 x5_1).f4))) (fun _ hk => hk.1.2)⟩, ⟨by (with_reducible repeat (first | refine blk_drewN ?_ _ | refine blk_drew ?_ | refine blk_alloc ?_ _)); refine blk_put (cs := #[.int .i64 ((rd_T28 t150 x5_1).f0), .int .i64 ((rd_T28 t150 x5_1).f1), .int .i64 ((rd_T28 t150 x5_1).f2), .string ((rd_T28 t150 x5_1).f3), .int .i64 0]) ?_ 4 _ rfl; (with_reducible repeat (first | refine blk_drewN ?_ _ | refine blk_drew ?_ | refine blk_alloc ?_ _)); refine blk_put (cs := #[.int .i64 ((rd_T28 t150 x5_1).f0), .int .i64 ((rd_T28 t150 x5_1).f1), .int .i64 ((rd_T28 t150 x5_1).f2), .string (⟨#[]⟩ : ByteArray), .int .i64 0]) ?_ 3 _ rfl; (with_reducible repeat (first | refine blk_drewN ?_ _ | refine blk_drew ?_ | refine blk_alloc ?_ _)); refine blk_put (cs := #[.int .i64 ((rd_T28 t150 x5_1).f0), .int .i64 ((rd_T28 t150 x5_1).f1), .int .i64 0, .string (⟨#[]⟩ : ByteArray), .int .i64 0]) ?_ 2 _ rfl; (with_reducible repeat (first | refine blk_drewN ?_ _ | refine blk_drew ?_ | refine blk_alloc ?_ _)); refine blk_put (cs := #[.int .i64 ((rd_T28 t150 x5_1).f0), .int .i64 0, .int .i64 0, .string (⟨#[]⟩ : ByteArray), .int .i64 0]) ?_ 1 _ rfl; (with_reducible repeat (first | refine blk_drewN ?_ _ | refine blk_drew ?_ | refine blk_alloc ?_ _)); refine blk_put (cs := #[.int .i64 0, .int .i64 0, .int .i64 0, .string (⟨#[]⟩ : ByteArray), .int .i64 0]) ?_ 0 _ rfl; (with_reducible repeat (first | refine blk_drewN ?_ _ | refine blk_drew ?_ | refine blk_alloc ?_ _)); exact BK155.out⟩, ⟨by repeat (first | (with_reducible first | exact HB.out | apply below_alloc | apply pw_below_drewN | apply below_drew1 | refine below_set ?_ GE155.out) | exact HB.out)⟩⟩
                    · rw [if_neg c19] at H
                      have c19b0 : (((rd_T28 t150 x5_1).f4) == 1) = false := beq_eq_false_iff_ne.mpr c19
                      have c19b1 : (((rd_T28 t150 x5_1).f4) != 1) = true := bne_iff_ne.mpr c19
                      have H' := Aside0.mk H
                      clear H
                      have hcz21_0 : w12.cell? ⟨gb155, 0, none⟩ = some (.int .i64 0) := (blk_cell BK155.out 0).trans rfl
                      have hcz21_1 : w12.cell? ⟨gb155, 1, none⟩ = some (.int .i64 0) := (blk_cell BK155.out 1).trans rfl
                      have hcz21_2 : w12.cell? ⟨gb155, 2, none⟩ = some (.int .i64 0) := (blk_cell BK155.out 2).trans rfl
                      have hcz21_3 : w12.cell? ⟨gb155, 3, none⟩ = some (.string (⟨#[]⟩ : ByteArray)) := (blk_cell BK155.out 3).trans rfl
                      have hcz21_4 : w12.cell? ⟨gb155, 4, none⟩ = some (.int .i64 0) := (blk_cell BK155.out 4).trans rfl
                      have hfz21_0 := blk_frozen BK155.out 0
                      have hfz21_1 := blk_frozen BK155.out 1
                      have hfz21_2 := blk_frozen BK155.out 2
                      have hfz21_3 := blk_frozen BK155.out 3
                      have hfz21_4 := blk_frozen BK155.out 4
                      go_wp2
                      repeat (go_quiet (fail); try go_wp2)
                      go_meet
                      case rel => exact ⟨_, (false), (by first | rfl | (simp; done) | (simp [*]; done)), H', ⟨by have := HK1.out; first | omega | exact Nat.le_refl _⟩, ⟨by (with_reducible repeat (first | apply Kd.R_alloc | apply Kd.R_drewN | apply Kd.R_drew)); exact Kd.R_mono (Kd.R_far (p := ⟨gb155, 4, none⟩) (Kd.R_far (p := ⟨gb155, 3, none⟩) (Kd.R_far (p := ⟨gb155, 2, none⟩) (Kd.R_far (p := ⟨gb155, 1, none⟩) (Kd.R_far (p := ⟨gb155, 0, none⟩) (Kd.R_mono HO_3.out (fun k_ hk => (⟨hk, hk.2⟩ : _ ∧ k_ ≠ gb155))) (fun _ hk => hk.2) (.int .i64 ((rd_T28 t150 x5_1).f0))) (fun _ hk => hk.2) (.int .i64 ((rd_T28 t150 x5_1).f1))) (fun _ hk => hk.2) (.int .i64 ((rd_T28 t150 x5_1).f2))) (fun _ hk => hk.2) (.string ((rd_T28 t150 x5_1).f3))) (fun _ hk => hk.2) (.int .i64 ((rd_T28 t150 x5_1).f4))) (fun _ hk => hk.1.2)⟩, ⟨by (with_reducible repeat (first | refine blk_drewN ?_ _ | refine blk_drew ?_ | refine blk_alloc ?_ _)); refine blk_put (cs := #[.int .i64 ((rd_T28 t150 x5_1).f0), .int .i64 ((rd_T28 t150 x5_1).f1), .int .i64 ((rd_T28 t150 x5_1).f2), .string ((rd_T28 t150 x5_1).f3), .int .i64 0]) ?_ 4 _ rfl; (with_reducible repeat (first | refine blk_drewN ?_ _ | refine blk_drew ?_ | refine blk_alloc ?_ _)); refine blk_put (cs := #[.int .i64 ((rd_T28 t150 x5_1).f0), .int .i64 ((rd_T28 t150 x5_1).f1), .int .i64 ((rd_T28 t150 x5_1).f2), .string (⟨#[]⟩ : ByteArray), .int .i64 0]) ?_ 3 _ rfl; (with_reducible repeat (first | refine blk_drewN ?_ _ | refine blk_drew ?_ | refine blk_alloc ?_ _)); refine blk_put (cs := #[.int .i64 ((rd_T28 t150 x5_1).f0), .int .i64 ((rd_T28 t150 x5_1).f1), .int .i64 0, .string (⟨#[]⟩ : ByteArray), .int .i64 0]) ?_ 2 _ rfl; (with_reducible repeat (first | refine blk_drewN ?_ _ | refine blk_drew ?_ | refine blk_alloc ?_ _)); refine blk_put (cs := #[.int .i64 ((rd_T28 t150 x5_1).f0), .int .i64 0, .int .i64 0, .string (⟨#[]⟩ : ByteArray), .int .i64 0]) ?_ 1 _ rfl; (with_reducible repeat (first | refine blk_drewN ?_ _ | refine blk_drew ?_ | refine blk_alloc ?_ _)); refine blk_put (cs := #[.int .i64 0, .int .i64 0, .int .i64 0, .string (⟨#[]⟩ : ByteArray), .int .i64 0]) ?_ 0 _ rfl; (with_reducible repeat (first | refine blk_drewN ?_ _ | refine blk_drew ?_ | refine blk_alloc ?_ _)); exact BK155.out⟩, ⟨by repeat (first | (with_reducible first | exact HB.out | apply below_alloc | apply pw_below_drewN | apply below_drew1 | refine below_set ?_ GE155.out) | exact HB.out)⟩⟩
              · rw [if_neg c14] at H
                have c14b0 : (((rd_T28 t150 x5_1).f0) == x4_1) = false := beq_eq_false_iff_ne.mpr c14
                have c14b1 : (((rd_T28 t150 x5_1).f0) != x4_1) = true := bne_iff_ne.mpr c14
                (first | rw [c14b0] | (simp only [i64_w, i32_w]; rw [c14b0]) | skip)
                have H' := Aside0.mk H
                clear H
                have hcz22_0 : w12.cell? ⟨gb155, 0, none⟩ = some (.int .i64 0) := (blk_cell BK155.out 0).trans rfl
                have hcz22_1 : w12.cell? ⟨gb155, 1, none⟩ = some (.int .i64 0) := (blk_cell BK155.out 1).trans rfl
                have hcz22_2 : w12.cell? ⟨gb155, 2, none⟩ = some (.int .i64 0) := (blk_cell BK155.out 2).trans rfl
                have hcz22_3 : w12.cell? ⟨gb155, 3, none⟩ = some (.string (⟨#[]⟩ : ByteArray)) := (blk_cell BK155.out 3).trans rfl
                have hcz22_4 : w12.cell? ⟨gb155, 4, none⟩ = some (.int .i64 0) := (blk_cell BK155.out 4).trans rfl
                have hfz22_0 := blk_frozen BK155.out 0
                have hfz22_1 := blk_frozen BK155.out 1
                have hfz22_2 := blk_frozen BK155.out 2
                have hfz22_3 := blk_frozen BK155.out 3
                have hfz22_4 := blk_frozen BK155.out 4
                go_wp2
                repeat (go_quiet (fail); try go_wp2)
                go_meet
                case rel => exact ⟨_, (true), (by first | rfl | (simp; done) | (simp [*]; done)), H', ⟨by have := HK1.out; first | omega | exact Nat.le_refl _⟩, ⟨by (with_reducible repeat (first | apply Kd.R_alloc | apply Kd.R_drewN | apply Kd.R_drew)); exact Kd.R_mono (Kd.R_far (p := ⟨gb155, 4, none⟩) (Kd.R_far (p := ⟨gb155, 3, none⟩) (Kd.R_far (p := ⟨gb155, 2, none⟩) (Kd.R_far (p := ⟨gb155, 1, none⟩) (Kd.R_far (p := ⟨gb155, 0, none⟩) (Kd.R_mono HO_3.out (fun k_ hk => (⟨hk, hk.2⟩ : _ ∧ k_ ≠ gb155))) (fun _ hk => hk.2) (.int .i64 ((rd_T28 t150 x5_1).f0))) (fun _ hk => hk.2) (.int .i64 ((rd_T28 t150 x5_1).f1))) (fun _ hk => hk.2) (.int .i64 ((rd_T28 t150 x5_1).f2))) (fun _ hk => hk.2) (.string ((rd_T28 t150 x5_1).f3))) (fun _ hk => hk.2) (.int .i64 ((rd_T28 t150 x5_1).f4))) (fun _ hk => hk.1.2)⟩, ⟨by (with_reducible repeat (first | refine blk_drewN ?_ _ | refine blk_drew ?_ | refine blk_alloc ?_ _)); refine blk_put (cs := #[.int .i64 ((rd_T28 t150 x5_1).f0), .int .i64 ((rd_T28 t150 x5_1).f1), .int .i64 ((rd_T28 t150 x5_1).f2), .string ((rd_T28 t150 x5_1).f3), .int .i64 0]) ?_ 4 _ rfl; (with_reducible repeat (first | refine blk_drewN ?_ _ | refine blk_drew ?_ | refine blk_alloc ?_ _)); refine blk_put (cs := #[.int .i64 ((rd_T28 t150 x5_1).f0), .int .i64 ((rd_T28 t150 x5_1).f1), .int .i64 ((rd_T28 t150 x5_1).f2), .string (⟨#[]⟩ : ByteArray), .int .i64 0]) ?_ 3 _ rfl; (with_reducible repeat (first | refine blk_drewN ?_ _ | refine blk_drew ?_ | refine blk_alloc ?_ _)); refine blk_put (cs := #[.int .i64 ((rd_T28 t150 x5_1).f0), .int .i64 ((rd_T28 t150 x5_1).f1), .int .i64 0, .string (⟨#[]⟩ : ByteArray), .int .i64 0]) ?_ 2 _ rfl; (with_reducible repeat (first | refine blk_drewN ?_ _ | refine blk_drew ?_ | refine blk_alloc ?_ _)); refine blk_put (cs := #[.int .i64 ((rd_T28 t150 x5_1).f0), .int .i64 0, .int .i64 0, .string (⟨#[]⟩ : ByteArray), .int .i64 0]) ?_ 1 _ rfl; (with_reducible repeat (first | refine blk_drewN ?_ _ | refine blk_drew ?_ | refine blk_alloc ?_ _)); refine blk_put (cs := #[.int .i64 0, .int .i64 0, .int .i64 0, .string (⟨#[]⟩ : ByteArray), .int .i64 0]) ?_ 0 _ rfl; (with_reducible repeat (first | refine blk_drewN ?_ _ | refine blk_drew ?_ | refine blk_alloc ?_ _)); exact BK155.out⟩, ⟨by repeat (first | (with_reducible first | exact HB.out | apply below_alloc | apply pw_below_drewN | apply below_drew1 | refine below_set ?_ GE155.out) | exact HB.out)⟩⟩
            case rest =>
              clear HC10
              try clear c1
              try clear p1
              try clear q1
              try clear hx1
              try clear p2
              try clear c3
              try clear p6
              try clear c8
              try clear c8b0
              try clear c9
              try clear c9b0
              try clear c14
              try clear c14b0
              try clear c14b1
              try clear c15
              try clear c15b0
              try clear p15
              try clear q15
              try clear hx15
              try clear c17
              try clear c17b0
              try clear c19
              try clear c19b0
              try clear c19b1
              try clear hcz13_0
              try clear hcz13_1
              try clear hcz13_2
              try clear hcz13_3
              try clear hcz13_4
              try clear hcz16_0
              try clear hcz16_1
              try clear hcz16_2
              try clear hcz16_3
              try clear hcz16_4
              try clear hcz18_0
              try clear hcz18_1
              try clear hcz18_2
              try clear hcz18_3
              try clear hcz18_4
              try clear hcz20_0
              try clear hcz20_1
              try clear hcz20_2
              try clear hcz20_3
              try clear hcz20_4
              try clear hcz21_0
              try clear hcz21_1
              try clear hcz21_2
              try clear hcz21_3
              try clear hcz21_4
              try clear hcz22_0
              try clear hcz22_1
              try clear hcz22_2
              try clear hcz22_3
              try clear hcz22_4
              try clear hfz13_0
              try clear hfz13_1
              try clear hfz13_2
              try clear hfz13_3
              try clear hfz13_4
              try clear hfz16_0
              try clear hfz16_1
              try clear hfz16_2
              try clear hfz16_3
              try clear hfz16_4
              try clear hfz18_0
              try clear hfz18_1
              try clear hfz18_2
              try clear hfz18_3
              try clear hfz18_4
              try clear hfz20_0
              try clear hfz20_1
              try clear hfz20_2
              try clear hfz20_3
              try clear hfz20_4
              try clear hfz21_0
              try clear hfz21_1
              try clear hfz21_2
              try clear hfz21_3
              try clear hfz21_4
              try clear hfz22_0
              try clear hfz22_1
              try clear hfz22_2
              try clear hfz22_3
              try clear hfz22_4
              try clear hx154_0
              try clear hx154_1
              try clear hx154_2
              try clear hx154_3
              try clear hx154_4
              try clear p154
              try clear p2
              try clear q154
              obtain ⟨kq, x53_9, rfl, HA, HJ9, HO_3, BK155, HB⟩ := hcut
              cases kq with
              | zero => exact absurd HA.out (by simp [quillworklaw05_CellsWhole.j1])
              | succ kj9 =>
                have H := HA.out
                clear HA
                simp only [quillworklaw05_CellsWhole.j1] at H
                by_cases c23 : x53_9 = true
                · subst c23
                  have H1 : (some false) = some r := by rw [if_pos rfl] at H; exact H
                  clear H
                  have H := H1
                  clear H1
                  obtain rfl := Option.some.inj H
                  go_wp2
                  repeat (go_quiet (fail); try go_wp2)
                  go_ret
                  exact ⟨by first | rfl | (simp [errW_none, errW_some] <;> rfl) | (simp [*, errW_none, errW_some] <;> rfl), by repeat (first | (with_reducible first | exact HB.out | apply below_alloc | apply pw_below_drewN | apply below_drew1 | refine below_set ?_ GE155.out) | exact HB.out)⟩
                · replace c23 := Bool.eq_false_iff.mpr c23
                  subst c23
                  have H1 : (quillworklaw05_CellsWhole.l1 kj9 l0 t150 x5_1 ((rd_T28 t150 x5_1).f0) ((rd_T28 t150 x5_1).f0) ((rd_T28 t150 x5_1).f1) ((rd_T28 t150 x5_1).f2) ((rd_T28 t150 x5_1).f3) ((rd_T28 t150 x5_1).f4)) = some r := by rw [if_neg (show ¬ (false = true) by decide)] at H; exact H
                  clear H
                  have H := H1
                  clear H1
                  have H' := Aside0.mk H
                  clear H
                  have hcz24_0 : wc.cell? ⟨gb155, 0, none⟩ = some (.int .i64 ((rd_T28 t150 x5_1).f0)) := (blk_cell BK155.out 0).trans rfl
                  have hcz24_1 : wc.cell? ⟨gb155, 1, none⟩ = some (.int .i64 ((rd_T28 t150 x5_1).f1)) := (blk_cell BK155.out 1).trans rfl
                  have hcz24_2 : wc.cell? ⟨gb155, 2, none⟩ = some (.int .i64 ((rd_T28 t150 x5_1).f2)) := (blk_cell BK155.out 2).trans rfl
                  have hcz24_3 : wc.cell? ⟨gb155, 3, none⟩ = some (.string ((rd_T28 t150 x5_1).f3)) := (blk_cell BK155.out 3).trans rfl
                  have hcz24_4 : wc.cell? ⟨gb155, 4, none⟩ = some (.int .i64 ((rd_T28 t150 x5_1).f4)) := (blk_cell BK155.out 4).trans rfl
                  have hfz24_0 := blk_frozen BK155.out 0
                  have hfz24_1 := blk_frozen BK155.out 1
                  have hfz24_2 := blk_frozen BK155.out 2
                  have hfz24_3 := blk_frozen BK155.out 3
                  have hfz24_4 := blk_frozen BK155.out 4
                  go_wp2
                  repeat (go_quiet (fail); try go_wp2)
                  go_loopg [7] kj9 (fun kq v7 w' => ∃ (x7_3 : Int), v7 = .int .i64 x7_3 ∧ Aside0 (quillworklaw05_CellsWhole.l1 kq l0 t150 x5_1 x7_3 ((rd_T28 t150 x5_1).f0) ((rd_T28 t150 x5_1).f1) ((rd_T28 t150 x5_1).f2) ((rd_T28 t150 x5_1).f3) ((rd_T28 t150 x5_1).f4) = some r) ∧ Aside0 (kq ≤ kj9) ∧ Aside0 (Kd.R k28 28 w' w.heap.size (fun k_ => k_ ≠ gb155) (.slice (some ad154) t150.length co11) t150) ∧ Aside0 (w'.heap[gb155]? = some (.cells #[.int .i64 ((rd_T28 t150 x5_1).f0), .int .i64 ((rd_T28 t150 x5_1).f1), .int .i64 ((rd_T28 t150 x5_1).f2), .string ((rd_T28 t150 x5_1).f3), .int .i64 ((rd_T28 t150 x5_1).f4)] 28 (0, 0))) ∧ Aside0 (Below w.heap.size w w'))
                  case atStart => exact ⟨(((rd_T28 t150 x5_1).f0)), (by first | rfl | (simp; done) | (simp [*]; done)), H', ⟨Nat.le_refl _⟩, ⟨by (with_reducible repeat (first | apply Kd.R_alloc | apply Kd.R_drewN | apply Kd.R_drew)); exact HO_3.out⟩, ⟨by (with_reducible repeat (first | refine blk_drewN ?_ _ | refine blk_drew ?_ | refine blk_alloc ?_ _)); exact BK155.out⟩, ⟨by repeat (first | (with_reducible first | exact HB.out | apply below_alloc | apply pw_below_drewN | apply below_drew1 | refine below_set ?_ GE155.out) | exact HB.out)⟩⟩
                  case round =>
                    clear H'
                    try clear c1
                    try clear p1
                    try clear q1
                    try clear hx1
                    try clear c2
                    try clear p2
                    try clear c3
                    try clear p6
                    try clear c8
                    try clear c8b0
                    try clear c9
                    try clear c9b0
                    try clear c14
                    try clear c14b0
                    try clear c14b1
                    try clear c15
                    try clear c15b0
                    try clear p15
                    try clear q15
                    try clear hx15
                    try clear c17
                    try clear c17b0
                    try clear c19
                    try clear c19b0
                    try clear c19b1
                    try clear c23
                    try clear hcz13_0
                    try clear hcz13_1
                    try clear hcz13_2
                    try clear hcz13_3
                    try clear hcz13_4
                    try clear hcz16_0
                    try clear hcz16_1
                    try clear hcz16_2
                    try clear hcz16_3
                    try clear hcz16_4
                    try clear hcz18_0
                    try clear hcz18_1
                    try clear hcz18_2
                    try clear hcz18_3
                    try clear hcz18_4
                    try clear hcz20_0
                    try clear hcz20_1
                    try clear hcz20_2
                    try clear hcz20_3
                    try clear hcz20_4
                    try clear hcz21_0
                    try clear hcz21_1
                    try clear hcz21_2
                    try clear hcz21_3
                    try clear hcz21_4
                    try clear hcz22_0
                    try clear hcz22_1
                    try clear hcz22_2
                    try clear hcz22_3
                    try clear hcz22_4
                    try clear hcz24_0
                    try clear hcz24_1
                    try clear hcz24_2
                    try clear hcz24_3
                    try clear hcz24_4
                    try clear hfz13_0
                    try clear hfz13_1
                    try clear hfz13_2
                    try clear hfz13_3
                    try clear hfz13_4
                    try clear hfz16_0
                    try clear hfz16_1
                    try clear hfz16_2
                    try clear hfz16_3
                    try clear hfz16_4
                    try clear hfz18_0
                    try clear hfz18_1
                    try clear hfz18_2
                    try clear hfz18_3
                    try clear hfz18_4
                    try clear hfz20_0
                    try clear hfz20_1
                    try clear hfz20_2
                    try clear hfz20_3
                    try clear hfz20_4
                    try clear hfz21_0
                    try clear hfz21_1
                    try clear hfz21_2
                    try clear hfz21_3
                    try clear hfz21_4
                    try clear hfz22_0
                    try clear hfz22_1
                    try clear hfz22_2
                    try clear hfz22_3
                    try clear hfz22_4
                    try clear hfz24_0
                    try clear hfz24_1
                    try clear hfz24_2
                    try clear hfz24_3
                    try clear hfz24_4
                    try clear hx154_0
                    try clear hx154_1
                    try clear hx154_2
                    try clear hx154_3
                    try clear hx154_4
                    try clear p1
                    try clear p15
                    try clear p154
                    try clear p2
                    try clear p6
                    try clear q1
                    try clear q15
                    try clear q154
                    obtain ⟨x7_3, rfl, HA, HK3, HO_3, BK155, HB⟩ := hrel
                    cases gk with
                    | zero => exact absurd HA.out (by simp [quillworklaw05_CellsWhole.l1])
                    | succ k3 =>
                      have H := HA.out
                      clear HA
                      simp only [quillworklaw05_CellsWhole.l1] at H
                      by_cases c25 : x7_3 < ((rd_T28 t150 x5_1).f1)
                      · rw [if_pos c25] at H
                        have c25b0 : decide (x7_3 < ((rd_T28 t150 x5_1).f1)) = true := decide_eq_true c25
                        clear c25
                        by_cases c26 : 0 ≤ x7_3
                        · rw [if_pos c26] at H
                          have c26b0 : decide (0 ≤ x7_3) = true := decide_eq_true c26
                          clear c26
                          by_cases c27 : x7_3 < (l0.length : Int)
                          · rw [if_pos c27] at H
                            have c27b0 : decide (x7_3 < (l0.length : Int)) = true := decide_eq_true c27
                            clear c27
                            by_cases c28 : ((rd_T30 l0 x7_3).f1) = ((rd_T28 t150 x5_1).f2)
                            · rw [if_pos c28] at H
                              have c28b0 : (((rd_T30 l0 x7_3).f1) == ((rd_T28 t150 x5_1).f2)) = true := beq_iff_eq.mpr c28
                              have c28b1 : (((rd_T30 l0 x7_3).f1) != ((rd_T28 t150 x5_1).f2)) = false := bne_eq_false_iff_eq.mpr c28
                              clear c28
                              by_cases c29 : ((rd_T30 l0 x7_3).f2).toList = ((rd_T28 t150 x5_1).f3).toList
                              · rw [if_pos c29] at H
                                have c29b0 : (((rd_T30 l0 x7_3).f2).toList == ((rd_T28 t150 x5_1).f3).toList) = true := beq_iff_eq.mpr c29
                                have c29b1 : (((rd_T30 l0 x7_3).f2).toList != ((rd_T28 t150 x5_1).f3).toList) = false := bne_eq_false_iff_eq.mpr c29
                                clear c29
                                by_cases c30 : ((((rd_T30 l0 x7_3).f0) == 10) != (((rd_T28 t150 x5_1).f4) == 1)) = true
                                · rw [if_pos c30] at H
                                  have c30b0 : ((((rd_T30 l0 x7_3).f0) == 10) != (((rd_T28 t150 x5_1).f4) == 1)) = true := c30
                                  (try (have c30b1 : decide ((((rd_T30 l0 x7_3).f0) == 10) = (((rd_T28 t150 x5_1).f4) == 1)) = false := by simpa using c30))
                                  (try (have c30b2 : ((((rd_T30 l0 x7_3).f0) == 10) == (((rd_T28 t150 x5_1).f4) == 1)) = false := by simpa using c30))
                                  (try (have c30b3 : ¬ ((((rd_T30 l0 x7_3).f0) == 10) = (((rd_T28 t150 x5_1).f4) == 1)) := by simpa using c30))
                                  clear c30
                                  obtain rfl := Option.some.inj H
                                  have hcz31_0 : wr.cell? ⟨gb155, 0, none⟩ = some (.int .i64 ((rd_T28 t150 x5_1).f0)) := (blk_cell BK155.out 0).trans rfl
                                  have hcz31_1 : wr.cell? ⟨gb155, 1, none⟩ = some (.int .i64 ((rd_T28 t150 x5_1).f1)) := (blk_cell BK155.out 1).trans rfl
                                  have hcz31_2 : wr.cell? ⟨gb155, 2, none⟩ = some (.int .i64 ((rd_T28 t150 x5_1).f2)) := (blk_cell BK155.out 2).trans rfl
                                  have hcz31_3 : wr.cell? ⟨gb155, 3, none⟩ = some (.string ((rd_T28 t150 x5_1).f3)) := (blk_cell BK155.out 3).trans rfl
                                  have hcz31_4 : wr.cell? ⟨gb155, 4, none⟩ = some (.int .i64 ((rd_T28 t150 x5_1).f4)) := (blk_cell BK155.out 4).trans rfl
                                  have hfz31_0 := blk_frozen BK155.out 0
                                  have hfz31_1 := blk_frozen BK155.out 1
                                  have hfz31_2 := blk_frozen BK155.out 2
                                  have hfz31_3 := blk_frozen BK155.out 3
                                  have hfz31_4 := blk_frozen BK155.out 4
                                  have p156 : 0 ≤ (x7_3 : Int) := of_decide_eq_true (by first | (with_reducible assumption) | assumption)
                                  have q156 : x7_3 < (l0.length : Int) := of_decide_eq_true (by first | (with_reducible assumption) | assumption)
                                  obtain ⟨ad156, e156, hx156_0, hx156_1, hx156_2⟩ := at_T30 HR0.out x7_3 p156 q156
                                  cases e156
                                  replace hx156_0 := (HB.out.cell (World.block_lt_of_cell? w _ hx156_0)).trans hx156_0
                                  replace hx156_1 := (HB.out.cell (World.block_lt_of_cell? w _ hx156_1)).trans hx156_1
                                  replace hx156_2 := (HB.out.cell (World.block_lt_of_cell? w _ hx156_2)).trans hx156_2
                                  replace p156 := eq_true p156
                                  replace q156 := eq_true q156
                                  have p157 : 0 ≤ (x7_3 : Int) := of_decide_eq_true (by first | (with_reducible assumption) | assumption)
                                  have q157 : x7_3 < (l0.length : Int) := of_decide_eq_true (by first | (with_reducible assumption) | assumption)
                                  obtain ⟨ad157, e157, hx157_0, hx157_1, hx157_2⟩ := at_T30 HR0.out x7_3 p157 q157
                                  obtain rfl : ad156 = ad157 := (by injection e157)
                                  replace hx157_0 := (HB.out.cell (World.block_lt_of_cell? w _ hx157_0)).trans hx157_0
                                  replace hx157_1 := (HB.out.cell (World.block_lt_of_cell? w _ hx157_1)).trans hx157_1
                                  replace hx157_2 := (HB.out.cell (World.block_lt_of_cell? w _ hx157_2)).trans hx157_2
                                  replace p157 := eq_true p157
                                  replace q157 := eq_true q157
                                  have p158 : 0 ≤ (x7_3 : Int) := of_decide_eq_true (by first | (with_reducible assumption) | assumption)
                                  have q158 : x7_3 < (l0.length : Int) := of_decide_eq_true (by first | (with_reducible assumption) | assumption)
                                  obtain ⟨ad158, e158, hx158_0, hx158_1, hx158_2⟩ := at_T30 HR0.out x7_3 p158 q158
                                  obtain rfl : ad156 = ad158 := (by injection e158)
                                  replace hx158_0 := (HB.out.cell (World.block_lt_of_cell? w _ hx158_0)).trans hx158_0
                                  replace hx158_1 := (HB.out.cell (World.block_lt_of_cell? w _ hx158_1)).trans hx158_1
                                  replace hx158_2 := (HB.out.cell (World.block_lt_of_cell? w _ hx158_2)).trans hx158_2
                                  replace p158 := eq_true p158
                                  replace q158 := eq_true q158
                                  go_wp2
                                  repeat (go_quiet (fail); try go_wp2)
                                  go_ret
                                  exact ⟨by first | rfl | (simp [errW_none, errW_some] <;> rfl) | (simp [*, errW_none, errW_some] <;> rfl), by repeat (first | (with_reducible first | exact HB.out | apply below_alloc | apply pw_below_drewN | apply below_drew1 | refine below_set ?_ GE155.out) | exact HB.out)⟩
                                · rw [if_neg c30] at H
                                  have c30b0 : ((((rd_T30 l0 x7_3).f0) == 10) != (((rd_T28 t150 x5_1).f4) == 1)) = false := by simpa using c30
                                  (try (have c30b1 : decide ((((rd_T30 l0 x7_3).f0) == 10) = (((rd_T28 t150 x5_1).f4) == 1)) = true := by simpa using c30))
                                  (try (have c30b2 : ((((rd_T30 l0 x7_3).f0) == 10) == (((rd_T28 t150 x5_1).f4) == 1)) = true := by simpa using c30))
                                  clear c30
                                  have H' := Aside0.mk H
                                  clear H
                                  have hcz32_0 : wr.cell? ⟨gb155, 0, none⟩ = some (.int .i64 ((rd_T28 t150 x5_1).f0)) := (blk_cell BK155.out 0).trans rfl
                                  have hcz32_1 : wr.cell? ⟨gb155, 1, none⟩ = some (.int .i64 ((rd_T28 t150 x5_1).f1)) := (blk_cell BK155.out 1).trans rfl
                                  have hcz32_2 : wr.cell? ⟨gb155, 2, none⟩ = some (.int .i64 ((rd_T28 t150 x5_1).f2)) := (blk_cell BK155.out 2).trans rfl
                                  have hcz32_3 : wr.cell? ⟨gb155, 3, none⟩ = some (.string ((rd_T28 t150 x5_1).f3)) := (blk_cell BK155.out 3).trans rfl
                                  have hcz32_4 : wr.cell? ⟨gb155, 4, none⟩ = some (.int .i64 ((rd_T28 t150 x5_1).f4)) := (blk_cell BK155.out 4).trans rfl
                                  have hfz32_0 := blk_frozen BK155.out 0
                                  have hfz32_1 := blk_frozen BK155.out 1
                                  have hfz32_2 := blk_frozen BK155.out 2
                                  have hfz32_3 := blk_frozen BK155.out 3
                                  have hfz32_4 := blk_frozen BK155.out 4
                                  have p156 : 0 ≤ (x7_3 : Int) := of_decide_eq_true (by first | (with_reducible assumption) | assumption)
                                  have q156 : x7_3 < (l0.length : Int) := of_decide_eq_true (by first | (with_reducible assumption) | assumption)
                                  obtain ⟨ad156, e156, hx156_0, hx156_1, hx156_2⟩ := at_T30 HR0.out x7_3 p156 q156
                                  cases e156
                                  replace hx156_0 := (HB.out.cell (World.block_lt_of_cell? w _ hx156_0)).trans hx156_0
                                  replace hx156_1 := (HB.out.cell (World.block_lt_of_cell? w _ hx156_1)).trans hx156_1
                                  replace hx156_2 := (HB.out.cell (World.block_lt_of_cell? w _ hx156_2)).trans hx156_2
                                  replace p156 := eq_true p156
                                  replace q156 := eq_true q156
                                  have p157 : 0 ≤ (x7_3 : Int) := of_decide_eq_true (by first | (with_reducible assumption) | assumption)
                                  have q157 : x7_3 < (l0.length : Int) := of_decide_eq_true (by first | (with_reducible assumption) | assumption)
                                  obtain ⟨ad157, e157, hx157_0, hx157_1, hx157_2⟩ := at_T30 HR0.out x7_3 p157 q157
                                  obtain rfl : ad156 = ad157 := (by injection e157)
                                  replace hx157_0 := (HB.out.cell (World.block_lt_of_cell? w _ hx157_0)).trans hx157_0
                                  replace hx157_1 := (HB.out.cell (World.block_lt_of_cell? w _ hx157_1)).trans hx157_1
                                  replace hx157_2 := (HB.out.cell (World.block_lt_of_cell? w _ hx157_2)).trans hx157_2
                                  replace p157 := eq_true p157
                                  replace q157 := eq_true q157
                                  have p158 : 0 ≤ (x7_3 : Int) := of_decide_eq_true (by first | (with_reducible assumption) | assumption)
                                  have q158 : x7_3 < (l0.length : Int) := of_decide_eq_true (by first | (with_reducible assumption) | assumption)
                                  obtain ⟨ad158, e158, hx158_0, hx158_1, hx158_2⟩ := at_T30 HR0.out x7_3 p158 q158
                                  obtain rfl : ad156 = ad158 := (by injection e158)
                                  replace hx158_0 := (HB.out.cell (World.block_lt_of_cell? w _ hx158_0)).trans hx158_0
                                  replace hx158_1 := (HB.out.cell (World.block_lt_of_cell? w _ hx158_1)).trans hx158_1
                                  replace hx158_2 := (HB.out.cell (World.block_lt_of_cell? w _ hx158_2)).trans hx158_2
                                  replace p158 := eq_true p158
                                  replace q158 := eq_true q158
                                  go_wp2
                                  repeat (go_quiet (fail); try go_wp2)
                                  go_roundg k3
                                  case measure => have := HK1.out; have := HJ9.out; have := HK3.out; omega
                                  case rel => exact ⟨(wrap64 (x7_3 + 1)), (by first | rfl | (simp; done) | (simp [*]; done)), H', ⟨by have := HK1.out; have := HJ9.out; have := HK3.out; omega⟩, ⟨by (with_reducible repeat (first | apply Kd.R_alloc | apply Kd.R_drewN | apply Kd.R_drew)); exact HO_3.out⟩, ⟨by (with_reducible repeat (first | refine blk_drewN ?_ _ | refine blk_drew ?_ | refine blk_alloc ?_ _)); exact BK155.out⟩, ⟨by repeat (first | (with_reducible first | exact HB.out | apply below_alloc | apply pw_below_drewN | apply below_drew1 | refine below_set ?_ GE155.out) | exact HB.out)⟩⟩
                              · rw [if_neg c29] at H
                                have c29b0 : (((rd_T30 l0 x7_3).f2).toList == ((rd_T28 t150 x5_1).f3).toList) = false := beq_eq_false_iff_ne.mpr c29
                                have c29b1 : (((rd_T30 l0 x7_3).f2).toList != ((rd_T28 t150 x5_1).f3).toList) = true := bne_iff_ne.mpr c29
                                obtain rfl := Option.some.inj H
                                have hcz33_0 : wr.cell? ⟨gb155, 0, none⟩ = some (.int .i64 ((rd_T28 t150 x5_1).f0)) := (blk_cell BK155.out 0).trans rfl
                                have hcz33_1 : wr.cell? ⟨gb155, 1, none⟩ = some (.int .i64 ((rd_T28 t150 x5_1).f1)) := (blk_cell BK155.out 1).trans rfl
                                have hcz33_2 : wr.cell? ⟨gb155, 2, none⟩ = some (.int .i64 ((rd_T28 t150 x5_1).f2)) := (blk_cell BK155.out 2).trans rfl
                                have hcz33_3 : wr.cell? ⟨gb155, 3, none⟩ = some (.string ((rd_T28 t150 x5_1).f3)) := (blk_cell BK155.out 3).trans rfl
                                have hcz33_4 : wr.cell? ⟨gb155, 4, none⟩ = some (.int .i64 ((rd_T28 t150 x5_1).f4)) := (blk_cell BK155.out 4).trans rfl
                                have hfz33_0 := blk_frozen BK155.out 0
                                have hfz33_1 := blk_frozen BK155.out 1
                                have hfz33_2 := blk_frozen BK155.out 2
                                have hfz33_3 := blk_frozen BK155.out 3
                                have hfz33_4 := blk_frozen BK155.out 4
                                have p156 : 0 ≤ (x7_3 : Int) := of_decide_eq_true (by first | (with_reducible assumption) | assumption)
                                have q156 : x7_3 < (l0.length : Int) := of_decide_eq_true (by first | (with_reducible assumption) | assumption)
                                obtain ⟨ad156, e156, hx156_0, hx156_1, hx156_2⟩ := at_T30 HR0.out x7_3 p156 q156
                                cases e156
                                replace hx156_0 := (HB.out.cell (World.block_lt_of_cell? w _ hx156_0)).trans hx156_0
                                replace hx156_1 := (HB.out.cell (World.block_lt_of_cell? w _ hx156_1)).trans hx156_1
                                replace hx156_2 := (HB.out.cell (World.block_lt_of_cell? w _ hx156_2)).trans hx156_2
                                replace p156 := eq_true p156
                                replace q156 := eq_true q156
                                have p157 : 0 ≤ (x7_3 : Int) := of_decide_eq_true (by first | (with_reducible assumption) | assumption)
                                have q157 : x7_3 < (l0.length : Int) := of_decide_eq_true (by first | (with_reducible assumption) | assumption)
                                obtain ⟨ad157, e157, hx157_0, hx157_1, hx157_2⟩ := at_T30 HR0.out x7_3 p157 q157
                                obtain rfl : ad156 = ad157 := (by injection e157)
                                replace hx157_0 := (HB.out.cell (World.block_lt_of_cell? w _ hx157_0)).trans hx157_0
                                replace hx157_1 := (HB.out.cell (World.block_lt_of_cell? w _ hx157_1)).trans hx157_1
                                replace hx157_2 := (HB.out.cell (World.block_lt_of_cell? w _ hx157_2)).trans hx157_2
                                replace p157 := eq_true p157
                                replace q157 := eq_true q157
                                go_wp2
                                repeat (go_quiet (fail); try go_wp2)
                                go_ret
                                exact ⟨by first | rfl | (simp [errW_none, errW_some] <;> rfl) | (simp [*, errW_none, errW_some] <;> rfl), by repeat (first | (with_reducible first | exact HB.out | apply below_alloc | apply pw_below_drewN | apply below_drew1 | refine below_set ?_ GE155.out) | exact HB.out)⟩
                            · rw [if_neg c28] at H
                              have c28b0 : (((rd_T30 l0 x7_3).f1) == ((rd_T28 t150 x5_1).f2)) = false := beq_eq_false_iff_ne.mpr c28
                              have c28b1 : (((rd_T30 l0 x7_3).f1) != ((rd_T28 t150 x5_1).f2)) = true := bne_iff_ne.mpr c28
                              obtain rfl := Option.some.inj H
                              have hcz34_0 : wr.cell? ⟨gb155, 0, none⟩ = some (.int .i64 ((rd_T28 t150 x5_1).f0)) := (blk_cell BK155.out 0).trans rfl
                              have hcz34_1 : wr.cell? ⟨gb155, 1, none⟩ = some (.int .i64 ((rd_T28 t150 x5_1).f1)) := (blk_cell BK155.out 1).trans rfl
                              have hcz34_2 : wr.cell? ⟨gb155, 2, none⟩ = some (.int .i64 ((rd_T28 t150 x5_1).f2)) := (blk_cell BK155.out 2).trans rfl
                              have hcz34_3 : wr.cell? ⟨gb155, 3, none⟩ = some (.string ((rd_T28 t150 x5_1).f3)) := (blk_cell BK155.out 3).trans rfl
                              have hcz34_4 : wr.cell? ⟨gb155, 4, none⟩ = some (.int .i64 ((rd_T28 t150 x5_1).f4)) := (blk_cell BK155.out 4).trans rfl
                              have hfz34_0 := blk_frozen BK155.out 0
                              have hfz34_1 := blk_frozen BK155.out 1
                              have hfz34_2 := blk_frozen BK155.out 2
                              have hfz34_3 := blk_frozen BK155.out 3
                              have hfz34_4 := blk_frozen BK155.out 4
                              have p156 : 0 ≤ (x7_3 : Int) := of_decide_eq_true (by first | (with_reducible assumption) | assumption)
                              have q156 : x7_3 < (l0.length : Int) := of_decide_eq_true (by first | (with_reducible assumption) | assumption)
                              obtain ⟨ad156, e156, hx156_0, hx156_1, hx156_2⟩ := at_T30 HR0.out x7_3 p156 q156
                              cases e156
                              replace hx156_0 := (HB.out.cell (World.block_lt_of_cell? w _ hx156_0)).trans hx156_0
                              replace hx156_1 := (HB.out.cell (World.block_lt_of_cell? w _ hx156_1)).trans hx156_1
                              replace hx156_2 := (HB.out.cell (World.block_lt_of_cell? w _ hx156_2)).trans hx156_2
                              replace p156 := eq_true p156
                              replace q156 := eq_true q156
                              go_wp2
                              repeat (go_quiet (fail); try go_wp2)
                              go_ret
                              exact ⟨by first | rfl | (simp [errW_none, errW_some] <;> rfl) | (simp [*, errW_none, errW_some] <;> rfl), by repeat (first | (with_reducible first | exact HB.out | apply below_alloc | apply pw_below_drewN | apply below_drew1 | refine below_set ?_ GE155.out) | exact HB.out)⟩
                          · rw [if_neg c27] at H
                            exact absurd H (by simp)
                        · rw [if_neg c26] at H
                          exact absurd H (by simp)
                      · rw [if_neg c25] at H
                        have c25b0 : decide (x7_3 < ((rd_T28 t150 x5_1).f1)) = false := decide_eq_false c25
                        clear c25
                        by_cases c35 : x5_1 > 0
                        · rw [if_pos c35] at H
                          have c35b0 : decide (0 < x5_1) = true := decide_eq_true c35
                          clear c35
                          by_cases c36 : ((rd_T28 t150 x5_1).f4) = 0
                          · rw [if_pos c36] at H
                            have c36b0 : (((rd_T28 t150 x5_1).f4) == 0) = true := beq_iff_eq.mpr c36
                            have c36b1 : (((rd_T28 t150 x5_1).f4) != 0) = false := bne_eq_false_iff_eq.mpr c36
                            clear c36
                            obtain ⟨ji37, hji37⟩ : ∃ j_ : Int, (wrap64 (x5_1 - 1)) = j_ := ⟨_, rfl⟩
                            replace H : (if 0 ≤ (ji37) then (if (ji37) < (t150.length : Int) then (if ((rd_T28 t150 (ji37)).f4) = 0 then (if ((rd_T28 t150 x5_1).f2) = ((rd_T28 t150 (ji37)).f2) then (if ((rd_T28 t150 x5_1).f3).toList = ((rd_T28 t150 (ji37)).f3).toList then (some false) else (quillworklaw05_CellsWhole.l0 k3 l0 t150 ((rd_T28 t150 x5_1).f1) (wrap64 (x5_1 + 1)))) else (quillworklaw05_CellsWhole.l0 k3 l0 t150 ((rd_T28 t150 x5_1).f1) (wrap64 (x5_1 + 1)))) else (quillworklaw05_CellsWhole.l0 k3 l0 t150 ((rd_T28 t150 x5_1).f1) (wrap64 (x5_1 + 1)))) else (none)) else (none)) = some r := by first | (rw [hji37] at H; exact H) | (simp only [hji37] at H ⊢; exact H)
                            have hji37w : (IntKind.i64.wrap (x5_1 - 1)) = ji37 := (i64_w _).trans hji37
                            by_cases c38 : 0 ≤ (ji37)
                            · rw [if_pos c38] at H
                              have c38b0 : decide (0 ≤ (ji37)) = true := decide_eq_true c38
                              clear c38
                              by_cases c39 : (ji37) < (t150.length : Int)
                              · rw [if_pos c39] at H
                                have c39b0 : decide ((ji37) < (t150.length : Int)) = true := decide_eq_true c39
                                clear c39
                                by_cases c40 : ((rd_T28 t150 (ji37)).f4) = 0
                                · rw [if_pos c40] at H
                                  have c40b0 : (((rd_T28 t150 (ji37)).f4) == 0) = true := beq_iff_eq.mpr c40
                                  have c40b1 : (((rd_T28 t150 (ji37)).f4) != 0) = false := bne_eq_false_iff_eq.mpr c40
                                  clear c40
                                  by_cases c41 : ((rd_T28 t150 x5_1).f2) = ((rd_T28 t150 (ji37)).f2)
                                  · rw [if_pos c41] at H
                                    have c41b0 : (((rd_T28 t150 x5_1).f2) == ((rd_T28 t150 (ji37)).f2)) = true := beq_iff_eq.mpr c41
                                    have c41b1 : (((rd_T28 t150 x5_1).f2) != ((rd_T28 t150 (ji37)).f2)) = false := bne_eq_false_iff_eq.mpr c41
                                    clear c41
                                    by_cases c42 : ((rd_T28 t150 x5_1).f3).toList = ((rd_T28 t150 (ji37)).f3).toList
                                    · rw [if_pos c42] at H
                                      have c42b0 : (((rd_T28 t150 x5_1).f3).toList == ((rd_T28 t150 (ji37)).f3).toList) = true := beq_iff_eq.mpr c42
                                      have c42b1 : (((rd_T28 t150 x5_1).f3).toList != ((rd_T28 t150 (ji37)).f3).toList) = false := bne_eq_false_iff_eq.mpr c42
                                      clear c42
                                      obtain rfl := Option.some.inj H
                                      have hcz43_0 : wr.cell? ⟨gb155, 0, none⟩ = some (.int .i64 ((rd_T28 t150 x5_1).f0)) := (blk_cell BK155.out 0).trans rfl
                                      have hcz43_1 : wr.cell? ⟨gb155, 1, none⟩ = some (.int .i64 ((rd_T28 t150 x5_1).f1)) := (blk_cell BK155.out 1).trans rfl
                                      have hcz43_2 : wr.cell? ⟨gb155, 2, none⟩ = some (.int .i64 ((rd_T28 t150 x5_1).f2)) := (blk_cell BK155.out 2).trans rfl
                                      have hcz43_3 : wr.cell? ⟨gb155, 3, none⟩ = some (.string ((rd_T28 t150 x5_1).f3)) := (blk_cell BK155.out 3).trans rfl
                                      have hcz43_4 : wr.cell? ⟨gb155, 4, none⟩ = some (.int .i64 ((rd_T28 t150 x5_1).f4)) := (blk_cell BK155.out 4).trans rfl
                                      have hfz43_0 := blk_frozen BK155.out 0
                                      have hfz43_1 := blk_frozen BK155.out 1
                                      have hfz43_2 := blk_frozen BK155.out 2
                                      have hfz43_3 := blk_frozen BK155.out 3
                                      have hfz43_4 := blk_frozen BK155.out 4
                                      have p159 : 0 ≤ ((ji37) : Int) := of_decide_eq_true (by first | (with_reducible assumption) | assumption)
                                      have q159 : (ji37) < (t150.length : Int) := of_decide_eq_true (by first | (with_reducible assumption) | assumption)
                                      obtain ⟨ad159, e159, hx159_0, hx159_1, hx159_2, hx159_3, hx159_4⟩ := at_T28 (Kd.R_reads' HO_3.out).2.2 (ji37) p159 q159
                                      obtain rfl : ad154 = ad159 := (by injection e159)
                                      replace p159 := eq_true p159
                                      replace q159 := eq_true q159
                                      have p160 : 0 ≤ ((ji37) : Int) := of_decide_eq_true (by first | (with_reducible assumption) | assumption)
                                      have q160 : (ji37) < (t150.length : Int) := of_decide_eq_true (by first | (with_reducible assumption) | assumption)
                                      obtain ⟨ad160, e160, hx160_0, hx160_1, hx160_2, hx160_3, hx160_4⟩ := at_T28 (Kd.R_reads' HO_3.out).2.2 (ji37) p160 q160
                                      obtain rfl : ad154 = ad160 := (by injection e160)
                                      replace p160 := eq_true p160
                                      replace q160 := eq_true q160
                                      have p161 : 0 ≤ ((ji37) : Int) := of_decide_eq_true (by first | (with_reducible assumption) | assumption)
                                      have q161 : (ji37) < (t150.length : Int) := of_decide_eq_true (by first | (with_reducible assumption) | assumption)
                                      obtain ⟨ad161, e161, hx161_0, hx161_1, hx161_2, hx161_3, hx161_4⟩ := at_T28 (Kd.R_reads' HO_3.out).2.2 (ji37) p161 q161
                                      obtain rfl : ad154 = ad161 := (by injection e161)
                                      replace p161 := eq_true p161
                                      replace q161 := eq_true q161
                                      go_wp2
                                      repeat (go_quiet (fail); try go_wp2)
                                      go_ret
                                      exact ⟨by first | rfl | (simp [errW_none, errW_some] <;> rfl) | (simp only [← hji37]; first | rfl | (simp [errW_none, errW_some] <;> rfl)) | (simp [*, errW_none, errW_some] <;> rfl), by repeat (first | (with_reducible first | exact HB.out | apply below_alloc | apply pw_below_drewN | apply below_drew1 | refine below_set ?_ GE155.out) | exact HB.out)⟩
                                    · rw [if_neg c42] at H
                                      have c42b0 : (((rd_T28 t150 x5_1).f3).toList == ((rd_T28 t150 (ji37)).f3).toList) = false := beq_eq_false_iff_ne.mpr c42
                                      have c42b1 : (((rd_T28 t150 x5_1).f3).toList != ((rd_T28 t150 (ji37)).f3).toList) = true := bne_iff_ne.mpr c42
                                      have H' := Aside0.mk H
                                      clear H
                                      have hcz44_0 : wr.cell? ⟨gb155, 0, none⟩ = some (.int .i64 ((rd_T28 t150 x5_1).f0)) := (blk_cell BK155.out 0).trans rfl
                                      have hcz44_1 : wr.cell? ⟨gb155, 1, none⟩ = some (.int .i64 ((rd_T28 t150 x5_1).f1)) := (blk_cell BK155.out 1).trans rfl
                                      have hcz44_2 : wr.cell? ⟨gb155, 2, none⟩ = some (.int .i64 ((rd_T28 t150 x5_1).f2)) := (blk_cell BK155.out 2).trans rfl
                                      have hcz44_3 : wr.cell? ⟨gb155, 3, none⟩ = some (.string ((rd_T28 t150 x5_1).f3)) := (blk_cell BK155.out 3).trans rfl
                                      have hcz44_4 : wr.cell? ⟨gb155, 4, none⟩ = some (.int .i64 ((rd_T28 t150 x5_1).f4)) := (blk_cell BK155.out 4).trans rfl
                                      have hfz44_0 := blk_frozen BK155.out 0
                                      have hfz44_1 := blk_frozen BK155.out 1
                                      have hfz44_2 := blk_frozen BK155.out 2
                                      have hfz44_3 := blk_frozen BK155.out 3
                                      have hfz44_4 := blk_frozen BK155.out 4
                                      have p159 : 0 ≤ ((ji37) : Int) := of_decide_eq_true (by first | (with_reducible assumption) | assumption)
                                      have q159 : (ji37) < (t150.length : Int) := of_decide_eq_true (by first | (with_reducible assumption) | assumption)
                                      obtain ⟨ad159, e159, hx159_0, hx159_1, hx159_2, hx159_3, hx159_4⟩ := at_T28 (Kd.R_reads' HO_3.out).2.2 (ji37) p159 q159
                                      obtain rfl : ad154 = ad159 := (by injection e159)
                                      replace p159 := eq_true p159
                                      replace q159 := eq_true q159
                                      have p160 : 0 ≤ ((ji37) : Int) := of_decide_eq_true (by first | (with_reducible assumption) | assumption)
                                      have q160 : (ji37) < (t150.length : Int) := of_decide_eq_true (by first | (with_reducible assumption) | assumption)
                                      obtain ⟨ad160, e160, hx160_0, hx160_1, hx160_2, hx160_3, hx160_4⟩ := at_T28 (Kd.R_reads' HO_3.out).2.2 (ji37) p160 q160
                                      obtain rfl : ad154 = ad160 := (by injection e160)
                                      replace p160 := eq_true p160
                                      replace q160 := eq_true q160
                                      have p161 : 0 ≤ ((ji37) : Int) := of_decide_eq_true (by first | (with_reducible assumption) | assumption)
                                      have q161 : (ji37) < (t150.length : Int) := of_decide_eq_true (by first | (with_reducible assumption) | assumption)
                                      obtain ⟨ad161, e161, hx161_0, hx161_1, hx161_2, hx161_3, hx161_4⟩ := at_T28 (Kd.R_reads' HO_3.out).2.2 (ji37) p161 q161
                                      obtain rfl : ad154 = ad161 := (by injection e161)
                                      replace p161 := eq_true p161
                                      replace q161 := eq_true q161
                                      go_wp2
                                      repeat (go_quiet (fail); try go_wp2)
                                      go_roundg k3
                                      case measure => have := HK1.out; have := HJ9.out; have := HK3.out; omega
                                      case rel => exact ⟨(((rd_T28 t150 x5_1).f1)), (wrap64 (x5_1 + 1)), (by first | rfl | (simp; done) | (simp [*]; done)), (by first | rfl | (simp; done) | (simp [*]; done)), H', ⟨by have := HK1.out; have := HJ9.out; have := HK3.out; omega⟩, ⟨by (with_reducible repeat (first | apply Kd.R_alloc | apply Kd.R_drewN | apply Kd.R_drew)); exact Kd.R_mono HO_3.out (fun _ hk => trivial)⟩, ⟨by repeat (first | (with_reducible first | exact HB.out | apply below_alloc | apply pw_below_drewN | apply below_drew1 | refine below_set ?_ GE155.out) | exact HB.out)⟩⟩
                                  · rw [if_neg c41] at H
                                    have c41b0 : (((rd_T28 t150 x5_1).f2) == ((rd_T28 t150 (ji37)).f2)) = false := beq_eq_false_iff_ne.mpr c41
                                    have c41b1 : (((rd_T28 t150 x5_1).f2) != ((rd_T28 t150 (ji37)).f2)) = true := bne_iff_ne.mpr c41
                                    have H' := Aside0.mk H
                                    clear H
                                    have hcz45_0 : wr.cell? ⟨gb155, 0, none⟩ = some (.int .i64 ((rd_T28 t150 x5_1).f0)) := (blk_cell BK155.out 0).trans rfl
                                    have hcz45_1 : wr.cell? ⟨gb155, 1, none⟩ = some (.int .i64 ((rd_T28 t150 x5_1).f1)) := (blk_cell BK155.out 1).trans rfl
                                    have hcz45_2 : wr.cell? ⟨gb155, 2, none⟩ = some (.int .i64 ((rd_T28 t150 x5_1).f2)) := (blk_cell BK155.out 2).trans rfl
                                    have hcz45_3 : wr.cell? ⟨gb155, 3, none⟩ = some (.string ((rd_T28 t150 x5_1).f3)) := (blk_cell BK155.out 3).trans rfl
                                    have hcz45_4 : wr.cell? ⟨gb155, 4, none⟩ = some (.int .i64 ((rd_T28 t150 x5_1).f4)) := (blk_cell BK155.out 4).trans rfl
                                    have hfz45_0 := blk_frozen BK155.out 0
                                    have hfz45_1 := blk_frozen BK155.out 1
                                    have hfz45_2 := blk_frozen BK155.out 2
                                    have hfz45_3 := blk_frozen BK155.out 3
                                    have hfz45_4 := blk_frozen BK155.out 4
                                    have p159 : 0 ≤ ((ji37) : Int) := of_decide_eq_true (by first | (with_reducible assumption) | assumption)
                                    have q159 : (ji37) < (t150.length : Int) := of_decide_eq_true (by first | (with_reducible assumption) | assumption)
                                    obtain ⟨ad159, e159, hx159_0, hx159_1, hx159_2, hx159_3, hx159_4⟩ := at_T28 (Kd.R_reads' HO_3.out).2.2 (ji37) p159 q159
                                    obtain rfl : ad154 = ad159 := (by injection e159)
                                    replace p159 := eq_true p159
                                    replace q159 := eq_true q159
                                    have p160 : 0 ≤ ((ji37) : Int) := of_decide_eq_true (by first | (with_reducible assumption) | assumption)
                                    have q160 : (ji37) < (t150.length : Int) := of_decide_eq_true (by first | (with_reducible assumption) | assumption)
                                    obtain ⟨ad160, e160, hx160_0, hx160_1, hx160_2, hx160_3, hx160_4⟩ := at_T28 (Kd.R_reads' HO_3.out).2.2 (ji37) p160 q160
                                    obtain rfl : ad154 = ad160 := (by injection e160)
                                    replace p160 := eq_true p160
                                    replace q160 := eq_true q160
                                    go_wp2
                                    repeat (go_quiet (fail); try go_wp2)
                                    go_roundg k3
                                    case measure => have := HK1.out; have := HJ9.out; have := HK3.out; omega
                                    case rel => exact ⟨(((rd_T28 t150 x5_1).f1)), (wrap64 (x5_1 + 1)), (by first | rfl | (simp; done) | (simp [*]; done)), (by first | rfl | (simp; done) | (simp [*]; done)), H', ⟨by have := HK1.out; have := HJ9.out; have := HK3.out; omega⟩, ⟨by (with_reducible repeat (first | apply Kd.R_alloc | apply Kd.R_drewN | apply Kd.R_drew)); exact Kd.R_mono HO_3.out (fun _ hk => trivial)⟩, ⟨by repeat (first | (with_reducible first | exact HB.out | apply below_alloc | apply pw_below_drewN | apply below_drew1 | refine below_set ?_ GE155.out) | exact HB.out)⟩⟩
                                · rw [if_neg c40] at H
                                  have c40b0 : (((rd_T28 t150 (ji37)).f4) == 0) = false := beq_eq_false_iff_ne.mpr c40
                                  have c40b1 : (((rd_T28 t150 (ji37)).f4) != 0) = true := bne_iff_ne.mpr c40
                                  have H' := Aside0.mk H
                                  clear H
                                  have hcz46_0 : wr.cell? ⟨gb155, 0, none⟩ = some (.int .i64 ((rd_T28 t150 x5_1).f0)) := (blk_cell BK155.out 0).trans rfl
                                  have hcz46_1 : wr.cell? ⟨gb155, 1, none⟩ = some (.int .i64 ((rd_T28 t150 x5_1).f1)) := (blk_cell BK155.out 1).trans rfl
                                  have hcz46_2 : wr.cell? ⟨gb155, 2, none⟩ = some (.int .i64 ((rd_T28 t150 x5_1).f2)) := (blk_cell BK155.out 2).trans rfl
                                  have hcz46_3 : wr.cell? ⟨gb155, 3, none⟩ = some (.string ((rd_T28 t150 x5_1).f3)) := (blk_cell BK155.out 3).trans rfl
                                  have hcz46_4 : wr.cell? ⟨gb155, 4, none⟩ = some (.int .i64 ((rd_T28 t150 x5_1).f4)) := (blk_cell BK155.out 4).trans rfl
                                  have hfz46_0 := blk_frozen BK155.out 0
                                  have hfz46_1 := blk_frozen BK155.out 1
                                  have hfz46_2 := blk_frozen BK155.out 2
                                  have hfz46_3 := blk_frozen BK155.out 3
                                  have hfz46_4 := blk_frozen BK155.out 4
                                  have p159 : 0 ≤ ((ji37) : Int) := of_decide_eq_true (by first | (with_reducible assumption) | assumption)
                                  have q159 : (ji37) < (t150.length : Int) := of_decide_eq_true (by first | (with_reducible assumption) | assumption)
                                  obtain ⟨ad159, e159, hx159_0, hx159_1, hx159_2, hx159_3, hx159_4⟩ := at_T28 (Kd.R_reads' HO_3.out).2.2 (ji37) p159 q159
                                  obtain rfl : ad154 = ad159 := (by injection e159)
                                  replace p159 := eq_true p159
                                  replace q159 := eq_true q159
                                  go_wp2
                                  repeat (go_quiet (fail); try go_wp2)
                                  go_roundg k3
                                  case measure => have := HK1.out; have := HJ9.out; have := HK3.out; omega
                                  case rel => exact ⟨(((rd_T28 t150 x5_1).f1)), (wrap64 (x5_1 + 1)), (by first | rfl | (simp; done) | (simp [*]; done)), (by first | rfl | (simp; done) | (simp [*]; done)), H', ⟨by have := HK1.out; have := HJ9.out; have := HK3.out; omega⟩, ⟨by (with_reducible repeat (first | apply Kd.R_alloc | apply Kd.R_drewN | apply Kd.R_drew)); exact Kd.R_mono HO_3.out (fun _ hk => trivial)⟩, ⟨by repeat (first | (with_reducible first | exact HB.out | apply below_alloc | apply pw_below_drewN | apply below_drew1 | refine below_set ?_ GE155.out) | exact HB.out)⟩⟩
                              · rw [if_neg c39] at H
                                exact absurd H (by simp)
                            · rw [if_neg c38] at H
                              exact absurd H (by simp)
                          · rw [if_neg c36] at H
                            have c36b0 : (((rd_T28 t150 x5_1).f4) == 0) = false := beq_eq_false_iff_ne.mpr c36
                            have c36b1 : (((rd_T28 t150 x5_1).f4) != 0) = true := bne_iff_ne.mpr c36
                            have H' := Aside0.mk H
                            clear H
                            have hcz47_0 : wr.cell? ⟨gb155, 0, none⟩ = some (.int .i64 ((rd_T28 t150 x5_1).f0)) := (blk_cell BK155.out 0).trans rfl
                            have hcz47_1 : wr.cell? ⟨gb155, 1, none⟩ = some (.int .i64 ((rd_T28 t150 x5_1).f1)) := (blk_cell BK155.out 1).trans rfl
                            have hcz47_2 : wr.cell? ⟨gb155, 2, none⟩ = some (.int .i64 ((rd_T28 t150 x5_1).f2)) := (blk_cell BK155.out 2).trans rfl
                            have hcz47_3 : wr.cell? ⟨gb155, 3, none⟩ = some (.string ((rd_T28 t150 x5_1).f3)) := (blk_cell BK155.out 3).trans rfl
                            have hcz47_4 : wr.cell? ⟨gb155, 4, none⟩ = some (.int .i64 ((rd_T28 t150 x5_1).f4)) := (blk_cell BK155.out 4).trans rfl
                            have hfz47_0 := blk_frozen BK155.out 0
                            have hfz47_1 := blk_frozen BK155.out 1
                            have hfz47_2 := blk_frozen BK155.out 2
                            have hfz47_3 := blk_frozen BK155.out 3
                            have hfz47_4 := blk_frozen BK155.out 4
                            go_wp2
                            repeat (go_quiet (fail); try go_wp2)
                            go_roundg k3
                            case measure => have := HK1.out; have := HJ9.out; have := HK3.out; omega
                            case rel => exact ⟨(((rd_T28 t150 x5_1).f1)), (wrap64 (x5_1 + 1)), (by first | rfl | (simp; done) | (simp [*]; done)), (by first | rfl | (simp; done) | (simp [*]; done)), H', ⟨by have := HK1.out; have := HJ9.out; have := HK3.out; omega⟩, ⟨by (with_reducible repeat (first | apply Kd.R_alloc | apply Kd.R_drewN | apply Kd.R_drew)); exact Kd.R_mono HO_3.out (fun _ hk => trivial)⟩, ⟨by repeat (first | (with_reducible first | exact HB.out | apply below_alloc | apply pw_below_drewN | apply below_drew1 | refine below_set ?_ GE155.out) | exact HB.out)⟩⟩
                        · rw [if_neg c35] at H
                          have c35b0 : decide (0 < x5_1) = false := decide_eq_false c35
                          clear c35
                          have H' := Aside0.mk H
                          clear H
                          have hcz48_0 : wr.cell? ⟨gb155, 0, none⟩ = some (.int .i64 ((rd_T28 t150 x5_1).f0)) := (blk_cell BK155.out 0).trans rfl
                          have hcz48_1 : wr.cell? ⟨gb155, 1, none⟩ = some (.int .i64 ((rd_T28 t150 x5_1).f1)) := (blk_cell BK155.out 1).trans rfl
                          have hcz48_2 : wr.cell? ⟨gb155, 2, none⟩ = some (.int .i64 ((rd_T28 t150 x5_1).f2)) := (blk_cell BK155.out 2).trans rfl
                          have hcz48_3 : wr.cell? ⟨gb155, 3, none⟩ = some (.string ((rd_T28 t150 x5_1).f3)) := (blk_cell BK155.out 3).trans rfl
                          have hcz48_4 : wr.cell? ⟨gb155, 4, none⟩ = some (.int .i64 ((rd_T28 t150 x5_1).f4)) := (blk_cell BK155.out 4).trans rfl
                          have hfz48_0 := blk_frozen BK155.out 0
                          have hfz48_1 := blk_frozen BK155.out 1
                          have hfz48_2 := blk_frozen BK155.out 2
                          have hfz48_3 := blk_frozen BK155.out 3
                          have hfz48_4 := blk_frozen BK155.out 4
                          go_wp2
                          repeat (go_quiet (fail); try go_wp2)
                          go_roundg k3
                          case measure => have := HK1.out; have := HJ9.out; have := HK3.out; omega
                          case rel => exact ⟨(((rd_T28 t150 x5_1).f1)), (wrap64 (x5_1 + 1)), (by first | rfl | (simp; done) | (simp [*]; done)), (by first | rfl | (simp; done) | (simp [*]; done)), H', ⟨by have := HK1.out; have := HJ9.out; have := HK3.out; omega⟩, ⟨by (with_reducible repeat (first | apply Kd.R_alloc | apply Kd.R_drewN | apply Kd.R_drew)); exact Kd.R_mono HO_3.out (fun _ hk => trivial)⟩, ⟨by repeat (first | (with_reducible first | exact HB.out | apply below_alloc | apply pw_below_drewN | apply below_drew1 | refine below_set ?_ GE155.out) | exact HB.out)⟩⟩
          · rw [if_neg c9] at H
            exact absurd H (by simp)
        · rw [if_neg c8] at H
          have c8b0 : decide (x5_1 < (t150.length : Int)) = false := decide_eq_false c8
          clear c8
          by_cases c49 : x4_1 = (l0.length : Int)
          · rw [if_pos c49] at H
            have c49b0 : (x4_1 == (l0.length : Int)) = true := beq_iff_eq.mpr c49
            have c49b1 : (x4_1 != (l0.length : Int)) = false := bne_eq_false_iff_eq.mpr c49
            clear c49
            replace H := Option.bind_eq_some_iff.mp H
            obtain ⟨t153, A500, H⟩ := H
            replace H : (some t153) = some r := H
            have A50 := Aside0.mk A500
            clear A500
            obtain rfl := Option.some.inj H
            obtain ⟨Ao51, co51, eo51⟩ := Kd.R_slice HO_3.out
            subst eo51
            go_wp2_with (first | (go_at_call 8; (with_reducible refine (quillworklaw05_awake.calls k1  t153 _ A50.out).mono ?_); rintro e w52 ⟨rfl, hb⟩; have n0_ := Aside0.mk (Kd.R_below (by (with_reducible repeat (first | apply Kd.R_alloc | apply Kd.R_drewN | apply Kd.R_drew)); exact HO_3.out) hb); have n1_ := Aside0.mk (below_step (by repeat (first | (with_reducible first | exact HB.out | apply below_alloc | apply pw_below_drewN | apply below_drew1) | exact HB.out)) hb); clear HO_3; clear HB; have HO_3 := n0_; have HB := n1_; clear n0_ n1_; (try clear hb); (try clear hb2); (try clear hk); (try clear hi)))
            repeat (go_quiet (first | (go_at_call 8; (with_reducible refine (quillworklaw05_awake.calls k1  t153 _ A50.out).mono ?_); rintro e w52 ⟨rfl, hb⟩; have n0_ := Aside0.mk (Kd.R_below (by (with_reducible repeat (first | apply Kd.R_alloc | apply Kd.R_drewN | apply Kd.R_drew)); exact HO_3.out) hb); have n1_ := Aside0.mk (below_step (by repeat (first | (with_reducible first | exact HB.out | apply below_alloc | apply pw_below_drewN | apply below_drew1) | exact HB.out)) hb); clear HO_3; clear HB; have HO_3 := n0_; have HB := n1_; clear n0_ n1_; (try clear hb); (try clear hb2); (try clear hk); (try clear hi))); try go_wp2_with (first | (go_at_call 8; (with_reducible refine (quillworklaw05_awake.calls k1  t153 _ A50.out).mono ?_); rintro e w52 ⟨rfl, hb⟩; have n0_ := Aside0.mk (Kd.R_below (by (with_reducible repeat (first | apply Kd.R_alloc | apply Kd.R_drewN | apply Kd.R_drew)); exact HO_3.out) hb); have n1_ := Aside0.mk (below_step (by repeat (first | (with_reducible first | exact HB.out | apply below_alloc | apply pw_below_drewN | apply below_drew1) | exact HB.out)) hb); clear HO_3; clear HB; have HO_3 := n0_; have HB := n1_; clear n0_ n1_; (try clear hb); (try clear hb2); (try clear hk); (try clear hi))))
            go_ret
            exact ⟨by first | rfl | (simp [errW_none, errW_some] <;> rfl) | (simp [*, errW_none, errW_some] <;> rfl), by repeat (first | (with_reducible first | exact HB.out | apply below_alloc | apply pw_below_drewN | apply below_drew1) | exact HB.out)⟩
          · rw [if_neg c49] at H
            have c49b0 : (x4_1 == (l0.length : Int)) = false := beq_eq_false_iff_ne.mpr c49
            have c49b1 : (x4_1 != (l0.length : Int)) = true := bne_iff_ne.mpr c49
            obtain rfl := Option.some.inj H
            obtain ⟨Ao53, co53, eo53⟩ := Kd.R_slice HO_3.out
            subst eo53
            go_wp2
            repeat (go_quiet (fail); try go_wp2)
            go_ret
            exact ⟨by first | rfl | (simp [errW_none, errW_some] <;> rfl) | (simp [*, errW_none, errW_some] <;> rfl), by repeat (first | (with_reducible first | exact HB.out | apply below_alloc | apply pw_below_drewN | apply below_drew1) | exact HB.out)⟩

end Go.Proofs.Ytgdpknmffohhaaa.Pr
