-- PRINTED by print.py (a twelfth state) out of the translation. Not trusted: Lean checks it.
import Derived.Test.YtgdpknmffohhaaaPr0
import Derived.Test.YtgdpknmffohhaaaPr10
import Derived.Test.YtgdpknmffohhaaaPr12
import Derived.Test.YtgdpknmffohhaaaPr26
namespace Go.Proofs.Ytgdpknmffohhaaa.Pr
open Go.RowKit Go.Proofs.YtgdpknmffohhaaaW.PrintWords Go.Proofs.YtgdpknmffohhaaaW.PrintLast Go.Proofs.YtgdpknmffohhaaaW.PrintMore
attribute [local go_sem] max2_int min2_int max_two min_two max_three min_three max_four min_four   -- for this text's walks alone
set_option linter.unusedVariables false
set_option linter.unusedSimpArgs false

/-! ### quillworklaw05_CellsLinks: function 4 -/
mutual
def quillworklaw05_CellsLinks.j0 : Nat → List (S30) → Int → Int → Int → Bool → Option (Bool)
  | 0, _, _, _, _, _ => none
  | k + 1, x0, x5, x6, x7, x42 => if x42 = true then (some false) else (if x7 > 0 then (if 0 ≤ (wrap64 (x7 - 1)) then (if (wrap64 (x7 - 1)) < (x0.length : Int) then (if ((rd_T30 x0 (wrap64 (x7 - 1))).f2).toList = ([] : List UInt8) then (if x7 < (x0.length : Int) then (if 0 ≤ x7 then (quillworklaw05_CellsLinks.j1 k x0 x5 x6 x7 (((rd_T30 x0 x7).f2).toList != ([] : List UInt8))) else (none)) else (quillworklaw05_CellsLinks.j1 k x0 x5 x6 x7 false)) else (quillworklaw05_CellsLinks.j1 k x0 x5 x6 x7 true)) else (none)) else (none)) else (if x7 < (x0.length : Int) then (if 0 ≤ x7 then (quillworklaw05_CellsLinks.j1 k x0 x5 x6 x7 (((rd_T30 x0 x7).f2).toList != ([] : List UInt8))) else (none)) else (quillworklaw05_CellsLinks.j1 k x0 x5 x6 x7 false)))
def quillworklaw05_CellsLinks.j1 : Nat → List (S30) → Int → Int → Int → Bool → Option (Bool)
  | 0, _, _, _, _, _ => none
  | k + 1, x0, x5, x6, x7, x8 => if x5 = x6 then (if x8 = true then (some false) else (if x5 = x7 then ((quillworklaw05_awake.f k).bind fun t169 => (some t169)) else (some false))) else (if 0 ≤ x5 then (if x5 < (x0.length : Int) then (quillworklaw05_CellsLinks.l0 k x0 x5 x6 x8 ((rd_T30 x0 x5).f2) x5) else (none)) else (none))
def quillworklaw05_CellsLinks.l0 : Nat → List (S30) → Int → Int → Bool → ByteArray → Int → Option (Bool)
  | 0, _, _, _, _, _, _ => none
  | k + 1, x0, x5, x6, x8, x9, x10 => if x10 < x6 then (if 0 ≤ x10 then (if x10 < (x0.length : Int) then (if ((rd_T30 x0 x10).f2).toList = x9.toList then (quillworklaw05_CellsLinks.l0 k x0 x5 x6 x8 x9 (wrap64 (x10 + 1))) else (some false)) else (none)) else (none)) else (if x8 = true then (if x9.toList = ([] : List UInt8) then (some false) else (if x5 = 0 then (if x6 = (x0.length : Int) then ((quillworklaw05_awake.f k).bind fun t172 => (some t172)) else (if 0 ≤ x6 then (if x6 < (x0.length : Int) then (if ((rd_T30 x0 x6).f2).toList = x9.toList then (some false) else ((quillworklaw05_awake.f k).bind fun t174 => (some t174))) else (none)) else (none))) else (if 0 ≤ (wrap64 (x5 - 1)) then (if (wrap64 (x5 - 1)) < (x0.length : Int) then (if ((rd_T30 x0 (wrap64 (x5 - 1))).f2).toList = x9.toList then (some false) else (if x6 = (x0.length : Int) then ((quillworklaw05_awake.f k).bind fun t176 => (some t176)) else (if 0 ≤ x6 then (if x6 < (x0.length : Int) then (if ((rd_T30 x0 x6).f2).toList = x9.toList then (some false) else ((quillworklaw05_awake.f k).bind fun t178 => (some t178))) else (none)) else (none)))) else (none)) else (none)))) else (some false))
end
def quillworklaw05_CellsLinks.f (k : Nat) (l0 : List (S30)) (a1 : Int) : Option (Bool) := (quillworklaw05_long.f k l0).bind fun t162 => (if t162 = true then ((quillworklaw05_awake.f k).bind fun t163 => (some t163)) else ((cells_Within.f l0 a1).bind fun bt164 => (if bt164.1 > (mn (mx a1 0) (l0.length : Int)) then (quillworklaw05_CellsLinks.j0 k l0 bt164.1 bt164.2 (mn (mx a1 0) (l0.length : Int)) true) else (if bt164.2 < (mn (mx a1 0) (l0.length : Int)) then (quillworklaw05_CellsLinks.j0 k l0 bt164.1 bt164.2 (mn (mx a1 0) (l0.length : Int)) true) else (if bt164.1 < 0 then (quillworklaw05_CellsLinks.j0 k l0 bt164.1 bt164.2 (mn (mx a1 0) (l0.length : Int)) true) else (quillworklaw05_CellsLinks.j0 k l0 bt164.1 bt164.2 (mn (mx a1 0) (l0.length : Int)) (decide (bt164.2 > (l0.length : Int)))))))))
theorem quillworklaw05_CellsLinks.mono_l : ∀ k, (∀ y0 y1 y2 y3 y4, LeO (quillworklaw05_CellsLinks.j0 k y0 y1 y2 y3 y4) (quillworklaw05_CellsLinks.j0 (k + 1) y0 y1 y2 y3 y4)) ∧ (∀ y0 y1 y2 y3 y4, LeO (quillworklaw05_CellsLinks.j1 k y0 y1 y2 y3 y4) (quillworklaw05_CellsLinks.j1 (k + 1) y0 y1 y2 y3 y4)) ∧ (∀ y0 y1 y2 y3 y4 y5, LeO (quillworklaw05_CellsLinks.l0 k y0 y1 y2 y3 y4 y5) (quillworklaw05_CellsLinks.l0 (k + 1) y0 y1 y2 y3 y4 y5))
  | 0 => ⟨fun _ _ _ _ _ r h => by simp [quillworklaw05_CellsLinks.j0] at h, fun _ _ _ _ _ r h => by simp [quillworklaw05_CellsLinks.j1] at h, fun _ _ _ _ _ _ r h => by simp [quillworklaw05_CellsLinks.l0] at h⟩
  | k + 1 => by
    obtain ⟨ih0, ih1, ih2⟩ := quillworklaw05_CellsLinks.mono_l k
    refine ⟨?_, ?_, ?_⟩
    · intro y0 y1 y2 y3 y4
      unfold quillworklaw05_CellsLinks.j0
      repeat' first
      | (with_reducible exact ih0 _ _ _ _ _)
      | (with_reducible exact ih1 _ _ _ _ _)
      | (with_reducible exact ih2 _ _ _ _ _ _)
      | (with_reducible exact quillworklaw05_awake.mono _)
      | (with_reducible exact quillworklaw05_long.mono _ _)
      | (with_reducible exact LeO.refl _)
      | (with_reducible exact LeO.none _)
      | (with_reducible refine LeO.ite ?_ ?_)
      | (with_reducible refine LeO.bind ?_ (fun _ => ?_))
      | exact ih0 _ _ _ _ _
      | exact ih1 _ _ _ _ _
      | exact ih2 _ _ _ _ _ _
      | exact quillworklaw05_awake.mono _
      | exact quillworklaw05_long.mono _ _
      | exact LeO.none _
      | refine LeO.ite ?_ ?_
      | refine LeO.bind ?_ (fun _ => ?_)
    · intro y0 y1 y2 y3 y4
      unfold quillworklaw05_CellsLinks.j1
      repeat' first
      | (with_reducible exact ih0 _ _ _ _ _)
      | (with_reducible exact ih1 _ _ _ _ _)
      | (with_reducible exact ih2 _ _ _ _ _ _)
      | (with_reducible exact quillworklaw05_awake.mono _)
      | (with_reducible exact quillworklaw05_long.mono _ _)
      | (with_reducible exact LeO.refl _)
      | (with_reducible exact LeO.none _)
      | (with_reducible refine LeO.ite ?_ ?_)
      | (with_reducible refine LeO.bind ?_ (fun _ => ?_))
      | exact ih0 _ _ _ _ _
      | exact ih1 _ _ _ _ _
      | exact ih2 _ _ _ _ _ _
      | exact quillworklaw05_awake.mono _
      | exact quillworklaw05_long.mono _ _
      | exact LeO.none _
      | refine LeO.ite ?_ ?_
      | refine LeO.bind ?_ (fun _ => ?_)
    · intro y0 y1 y2 y3 y4 y5
      unfold quillworklaw05_CellsLinks.l0
      repeat' first
      | (with_reducible exact ih0 _ _ _ _ _)
      | (with_reducible exact ih1 _ _ _ _ _)
      | (with_reducible exact ih2 _ _ _ _ _ _)
      | (with_reducible exact quillworklaw05_awake.mono _)
      | (with_reducible exact quillworklaw05_long.mono _ _)
      | (with_reducible exact LeO.refl _)
      | (with_reducible exact LeO.none _)
      | (with_reducible refine LeO.ite ?_ ?_)
      | (with_reducible refine LeO.bind ?_ (fun _ => ?_))
      | exact ih0 _ _ _ _ _
      | exact ih1 _ _ _ _ _
      | exact ih2 _ _ _ _ _ _
      | exact quillworklaw05_awake.mono _
      | exact quillworklaw05_long.mono _ _
      | exact LeO.none _
      | refine LeO.ite ?_ ?_
      | refine LeO.bind ?_ (fun _ => ?_)
theorem quillworklaw05_CellsLinks.mono : ∀ a0 a1 k, LeO (quillworklaw05_CellsLinks.f k a0 a1) (quillworklaw05_CellsLinks.f (k + 1) a0 a1) := by
  intro a0 a1 k
  obtain ⟨ih0, ih1, ih2⟩ := quillworklaw05_CellsLinks.mono_l k
  unfold quillworklaw05_CellsLinks.f
  repeat' first
      | (with_reducible exact ih0 _ _ _ _ _)
      | (with_reducible exact ih1 _ _ _ _ _)
      | (with_reducible exact ih2 _ _ _ _ _ _)
      | (with_reducible exact quillworklaw05_awake.mono _)
      | (with_reducible exact quillworklaw05_long.mono _ _)
      | (with_reducible exact LeO.refl _)
      | (with_reducible exact LeO.none _)
      | (with_reducible refine LeO.ite ?_ ?_)
      | (with_reducible refine LeO.bind ?_ (fun _ => ?_))
      | exact ih0 _ _ _ _ _
      | exact ih1 _ _ _ _ _
      | exact ih2 _ _ _ _ _ _
      | exact quillworklaw05_awake.mono _
      | exact quillworklaw05_long.mono _ _
      | exact LeO.none _
      | refine LeO.ite ?_ ?_
      | refine LeO.bind ?_ (fun _ => ?_)
set_option maxHeartbeats 8000000 in
set_option maxRecDepth 100000 in
theorem quillworklaw05_CellsLinks.calls (k : Nat) (A0 : Option Addr) (c0 : Nat) (l0 : List (S30)) (a1 : Int) (r : Bool) (w : World) (hr0 : Kd.C k30 w A0 l0.length l0) (hc0 : l0.length ≤ c0) (h : quillworklaw05_CellsLinks.f k l0 a1 = some r) :
    Calls Try.prog 4 #[.slice A0 l0.length c0, .int .i64 a1] w fun e w' => e = .returned (.bool r) ∧ Below w.heap.size w w' := by
  have HR0 := Aside0.mk hr0
  have HC0 := Aside0.mk hc0
  clear hr0 hc0
  have HB := Aside0.mk (Below.refl w.heap.size w)
  have H : ((quillworklaw05_long.f k l0).bind fun t162 => (if t162 = true then ((quillworklaw05_awake.f k).bind fun t163 => (some t163)) else ((cells_Within.f l0 a1).bind fun bt164 => (if bt164.1 > (mn (mx a1 0) (l0.length : Int)) then (quillworklaw05_CellsLinks.j0 k l0 bt164.1 bt164.2 (mn (mx a1 0) (l0.length : Int)) true) else (if bt164.2 < (mn (mx a1 0) (l0.length : Int)) then (quillworklaw05_CellsLinks.j0 k l0 bt164.1 bt164.2 (mn (mx a1 0) (l0.length : Int)) true) else (if bt164.1 < 0 then (quillworklaw05_CellsLinks.j0 k l0 bt164.1 bt164.2 (mn (mx a1 0) (l0.length : Int)) true) else (quillworklaw05_CellsLinks.j0 k l0 bt164.1 bt164.2 (mn (mx a1 0) (l0.length : Int)) (decide (bt164.2 > (l0.length : Int)))))))))) = some r := h
  clear h
  replace H := Option.bind_eq_some_iff.mp H
  obtain ⟨t162, A30, H⟩ := H
  replace H : (if t162 = true then ((quillworklaw05_awake.f k).bind fun t163 => (some t163)) else ((cells_Within.f l0 a1).bind fun bt164 => (if bt164.1 > (mn (mx a1 0) (l0.length : Int)) then (quillworklaw05_CellsLinks.j0 k l0 bt164.1 bt164.2 (mn (mx a1 0) (l0.length : Int)) true) else (if bt164.2 < (mn (mx a1 0) (l0.length : Int)) then (quillworklaw05_CellsLinks.j0 k l0 bt164.1 bt164.2 (mn (mx a1 0) (l0.length : Int)) true) else (if bt164.1 < 0 then (quillworklaw05_CellsLinks.j0 k l0 bt164.1 bt164.2 (mn (mx a1 0) (l0.length : Int)) true) else (quillworklaw05_CellsLinks.j0 k l0 bt164.1 bt164.2 (mn (mx a1 0) (l0.length : Int)) (decide (bt164.2 > (l0.length : Int))))))))) = some r := H
  have A3 := Aside0.mk A30
  clear A30
  by_cases c4 : t162 = true
  · subst c4
    have H1 : ((quillworklaw05_awake.f k).bind fun t163 => (some t163)) = some r := by rw [if_pos rfl] at H; exact H
    clear H
    have H := H1
    clear H1
    replace H := Option.bind_eq_some_iff.mp H
    obtain ⟨t163, A50, H⟩ := H
    replace H : (some t163) = some r := H
    have A5 := Aside0.mk A50
    clear A50
    obtain rfl := Option.some.inj H
    go_enter Try.func4, Try.ntmps4
    go_wp2_with (first | ((with_reducible refine gate_callee (f := 7) rfl ?_); refine goesL_ (some 12) rfl rfl Try.func7 (by kernel_rfl) rfl #[.slice A0 l0.length c0] rfl (by (try simp only [List.map_toArray, List.map_cons, List.map_nil]); first | done | rfl | (simp only [List.length_drop, List.length_take]; rfl)) ?_; (with_reducible refine (quillworklaw05_long.calls k _ _ l0 true _ ?side1 ?side2 A3.out).mono ?_); (case side1 => repeat (first | exact HR0.out | (with_reducible refine Kd.C_alloc ?_ _) | (with_reducible refine Kd.C_drewN ?_ _) | (with_reducible refine Kd.C_drew ?_))); (case side2 => exact HC0.out); rintro e w' ⟨rfl, ⟨nd, rfl⟩⟩; refine ⟨_, rfl, ?_⟩) | ((with_reducible refine gate_callee (f := 8) rfl ?_); refine goesL_ (some 13) rfl rfl Try.func8 (by kernel_rfl) rfl #[] rfl (by (try simp only [List.map_toArray, List.map_cons, List.map_nil]); first | done | rfl | (simp only [List.length_drop, List.length_take]; rfl)) ?_; (with_reducible refine (quillworklaw05_awake.calls k  t163 _ A5.out).mono ?_); rintro e w6 ⟨rfl, hb⟩; refine ⟨_, rfl, ?_⟩; have n0_ := Aside0.mk (below_step (by repeat (first | (with_reducible first | exact HB.out | apply below_alloc | apply pw_below_drewN | apply below_drew1) | exact HB.out)) hb); clear HB; have HB := n0_; clear n0_; (try clear hb); (try clear hb2); (try clear hk); (try clear hi)))
    go_ret
    exact ⟨by first | rfl | (simp [errW_none, errW_some] <;> rfl) | (simp [*, errW_none, errW_some] <;> rfl), by repeat (first | (with_reducible first | exact HB.out | apply below_alloc | apply pw_below_drewN | apply below_drew1) | exact HB.out)⟩
  · replace c4 := Bool.eq_false_iff.mpr c4
    subst c4
    have H1 : ((cells_Within.f l0 a1).bind fun bt164 => (if bt164.1 > (mn (mx a1 0) (l0.length : Int)) then (quillworklaw05_CellsLinks.j0 k l0 bt164.1 bt164.2 (mn (mx a1 0) (l0.length : Int)) true) else (if bt164.2 < (mn (mx a1 0) (l0.length : Int)) then (quillworklaw05_CellsLinks.j0 k l0 bt164.1 bt164.2 (mn (mx a1 0) (l0.length : Int)) true) else (if bt164.1 < 0 then (quillworklaw05_CellsLinks.j0 k l0 bt164.1 bt164.2 (mn (mx a1 0) (l0.length : Int)) true) else (quillworklaw05_CellsLinks.j0 k l0 bt164.1 bt164.2 (mn (mx a1 0) (l0.length : Int)) (decide (bt164.2 > (l0.length : Int)))))))) = some r := by rw [if_neg (show ¬ (false = true) by decide)] at H; exact H
    clear H
    have H := H1
    clear H1
    replace H := Option.bind_eq_some_iff.mp H
    obtain ⟨⟨t164, t165⟩, A70, H⟩ := H
    replace H : (if t164 > (mn (mx a1 0) (l0.length : Int)) then (quillworklaw05_CellsLinks.j0 k l0 t164 t165 (mn (mx a1 0) (l0.length : Int)) true) else (if t165 < (mn (mx a1 0) (l0.length : Int)) then (quillworklaw05_CellsLinks.j0 k l0 t164 t165 (mn (mx a1 0) (l0.length : Int)) true) else (if t164 < 0 then (quillworklaw05_CellsLinks.j0 k l0 t164 t165 (mn (mx a1 0) (l0.length : Int)) true) else (quillworklaw05_CellsLinks.j0 k l0 t164 t165 (mn (mx a1 0) (l0.length : Int)) (decide (t165 > (l0.length : Int))))))) = some r := H
    have A7 := Aside0.mk A70
    clear A70
    obtain ⟨ji8, hji8⟩ : ∃ j_ : Int, (mx a1 0) = j_ := ⟨_, rfl⟩
    replace H : (if t164 > (mn (ji8) (l0.length : Int)) then (quillworklaw05_CellsLinks.j0 k l0 t164 t165 (mn (ji8) (l0.length : Int)) true) else (if t165 < (mn (ji8) (l0.length : Int)) then (quillworklaw05_CellsLinks.j0 k l0 t164 t165 (mn (ji8) (l0.length : Int)) true) else (if t164 < 0 then (quillworklaw05_CellsLinks.j0 k l0 t164 t165 (mn (ji8) (l0.length : Int)) true) else (quillworklaw05_CellsLinks.j0 k l0 t164 t165 (mn (ji8) (l0.length : Int)) (decide (t165 > (l0.length : Int))))))) = some r := by first | (rw [hji8] at H; exact H) | (simp only [hji8] at H ⊢; exact H)
    (try rw [hji8] at A3)
    (try rw [hji8] at A7)
    (try (have hji8l : 0 ≤ ji8 := by (rw [← hji8]; unfold mx; (repeat' split) <;> omega)))
    (try (have hji8m : 0 ≤ ji8 := by omega))
    have hji8_ : (if a1 < 0 then 0 else a1) = ji8 := hji8
    obtain ⟨ji9, hji9⟩ : ∃ j_ : Int, (mn (ji8) (l0.length : Int)) = j_ := ⟨_, rfl⟩
    replace H : (if t164 > (ji9) then (quillworklaw05_CellsLinks.j0 k l0 t164 t165 ji9 true) else (if t165 < (ji9) then (quillworklaw05_CellsLinks.j0 k l0 t164 t165 ji9 true) else (if t164 < 0 then (quillworklaw05_CellsLinks.j0 k l0 t164 t165 ji9 true) else (quillworklaw05_CellsLinks.j0 k l0 t164 t165 ji9 (decide (t165 > (l0.length : Int))))))) = some r := by first | (rw [hji9] at H; exact H) | (simp only [hji9] at H ⊢; exact H)
    (try rw [hji9] at A3)
    (try rw [hji9] at A7)
    have hji9_ : (if (l0.length : Int) < (ji8) then (l0.length : Int) else (ji8)) = ji9 := hji9
    have HC10 := Aside0.mk H
    clear H
    go_enter Try.func4, Try.ntmps4
    go_upto_region 5 with (first | ((with_reducible refine gate_callee (f := 7) rfl ?_); refine goesL_ (some 12) rfl rfl Try.func7 (by kernel_rfl) rfl #[.slice A0 l0.length c0] rfl (by (try simp only [List.map_toArray, List.map_cons, List.map_nil]); first | done | rfl | (simp only [List.length_drop, List.length_take]; rfl)) ?_; (with_reducible refine (quillworklaw05_long.calls k _ _ l0 false _ ?side1 ?side2 A3.out).mono ?_); (case side1 => repeat (first | exact HR0.out | (with_reducible refine Kd.C_alloc ?_ _) | (with_reducible refine Kd.C_drewN ?_ _) | (with_reducible refine Kd.C_drew ?_))); (case side2 => exact HC0.out); rintro e w' ⟨rfl, ⟨nd, rfl⟩⟩; refine ⟨_, rfl, ?_⟩) | ((with_reducible refine gate_callee (f := 10) rfl ?_); refine goesL_ (some 17) rfl rfl Try.func10 (by kernel_rfl) rfl #[.slice A0 l0.length c0, .int .i64 a1] rfl (by (try simp only [List.map_toArray, List.map_cons, List.map_nil]); first | done | rfl | (simp only [List.length_drop, List.length_take]; rfl)) ?_; (with_reducible refine (cells_Within.calls _ _ l0 a1 t164 t165 _ ?side1 ?side2 A7.out).mono ?_); (case side1 => repeat (first | exact HR0.out | (with_reducible refine Kd.C_alloc ?_ _) | (with_reducible refine Kd.C_drewN ?_ _) | (with_reducible refine Kd.C_drew ?_))); (case side2 => exact HC0.out); rintro e w11 ⟨rfl, hb⟩; refine ⟨_, rfl, ?_⟩; have n0_ := Aside0.mk (below_step (by repeat (first | (with_reducible first | exact HB.out | apply below_alloc | apply pw_below_drewN | apply below_drew1) | exact HB.out)) hb); clear HB; have HB := n0_; clear n0_; (try clear hb); (try clear hb2); (try clear hk); (try clear hi)))
    (try simp only [Act.put, List.setIfInBounds_toArray, List.set_cons_zero, List.set_cons_succ])
    go_cut [42] (fun v42 wc => ∃ (kq : Nat) (x42_9 : Bool), v42 = .bool x42_9 ∧ Aside0 (quillworklaw05_CellsLinks.j0 kq l0 t164 t165 ji9 x42_9 = some r) ∧ Aside0 (kq ≤ k) ∧ Aside0 (Below w.heap.size w wc))
    case first =>
      have H := HC10.out
      clear HC10
      by_cases c12 : t164 > (ji9)
      · rw [if_pos c12] at H
        have c12b0 : decide ((ji9) < t164) = true := decide_eq_true c12
        clear c12
        (first | rw [c12b0] | (simp only [i64_w, i32_w]; rw [c12b0]) | skip)
        have H' := Aside0.mk H
        clear H
        go_wp2
        go_meet
        case rel => exact ⟨_, (true), (by first | rfl | (simp; done) | (simp [*]; done)), H', ⟨by first | omega | exact Nat.le_refl _⟩, ⟨by repeat (first | (with_reducible first | exact HB.out | apply below_alloc | apply pw_below_drewN | apply below_drew1) | exact HB.out)⟩⟩
      · rw [if_neg c12] at H
        have c12b0 : decide ((ji9) < t164) = false := decide_eq_false c12
        clear c12
        (first | rw [c12b0] | (simp only [i64_w, i32_w]; rw [c12b0]) | skip)
        by_cases c13 : t165 < (ji9)
        · rw [if_pos c13] at H
          have c13b0 : decide (t165 < (ji9)) = true := decide_eq_true c13
          clear c13
          have H' := Aside0.mk H
          clear H
          go_wp2
          go_meet
          case rel => exact ⟨_, (true), (by first | rfl | (simp; done) | (simp [*]; done)), H', ⟨by first | omega | exact Nat.le_refl _⟩, ⟨by repeat (first | (with_reducible first | exact HB.out | apply below_alloc | apply pw_below_drewN | apply below_drew1) | exact HB.out)⟩⟩
        · rw [if_neg c13] at H
          have c13b0 : decide (t165 < (ji9)) = false := decide_eq_false c13
          clear c13
          by_cases c14 : t164 < 0
          · rw [if_pos c14] at H
            have c14b0 : decide (t164 < 0) = true := decide_eq_true c14
            clear c14
            have H' := Aside0.mk H
            clear H
            go_wp2
            go_meet
            case rel => exact ⟨_, (true), (by first | rfl | (simp; done) | (simp [*]; done)), H', ⟨by first | omega | exact Nat.le_refl _⟩, ⟨by repeat (first | (with_reducible first | exact HB.out | apply below_alloc | apply pw_below_drewN | apply below_drew1) | exact HB.out)⟩⟩
          · rw [if_neg c14] at H
            have c14b0 : decide (t164 < 0) = false := decide_eq_false c14
            clear c14
            have H' := Aside0.mk H
            clear H
            go_wp2
            go_meet
            case rel => exact ⟨_, (decide (t165 > (l0.length : Int))), (by first | rfl | (simp; done) | (simp [*]; done)), H', ⟨by first | omega | exact Nat.le_refl _⟩, ⟨by repeat (first | (with_reducible first | exact HB.out | apply below_alloc | apply pw_below_drewN | apply below_drew1) | exact HB.out)⟩⟩
    case rest =>
      clear HC10
      try clear c1
      try clear p2
      try clear c4
      try clear c7
      try clear c8
      try clear c10
      try clear c12
      try clear c12b0
      try clear c13
      try clear c13b0
      try clear c14
      try clear c14b0
      obtain ⟨kq, x42_9, rfl, HA, HJ9, HB⟩ := hcut
      cases kq with
      | zero => exact absurd HA.out (by simp [quillworklaw05_CellsLinks.j0])
      | succ kj9 =>
        have H := HA.out
        clear HA
        simp only [quillworklaw05_CellsLinks.j0] at H
        by_cases c15 : x42_9 = true
        · subst c15
          have H1 : (some false) = some r := by rw [if_pos rfl] at H; exact H
          clear H
          have H := H1
          clear H1
          obtain rfl := Option.some.inj H
          go_wp2
          go_ret
          exact ⟨by first | rfl | (simp [errW_none, errW_some] <;> rfl) | (simp only [← hji8, ← hji9]; first | rfl | (simp [errW_none, errW_some] <;> rfl)) | (simp [*, errW_none, errW_some] <;> rfl), by repeat (first | (with_reducible first | exact HB.out | apply below_alloc | apply pw_below_drewN | apply below_drew1) | exact HB.out)⟩
        · replace c15 := Bool.eq_false_iff.mpr c15
          subst c15
          have H1 : (if ji9 > 0 then (if 0 ≤ (wrap64 (ji9 - 1)) then (if (wrap64 (ji9 - 1)) < (l0.length : Int) then (if ((rd_T30 l0 (wrap64 (ji9 - 1))).f2).toList = ([] : List UInt8) then (if ji9 < (l0.length : Int) then (if 0 ≤ ji9 then (quillworklaw05_CellsLinks.j1 kj9 l0 t164 t165 ji9 (((rd_T30 l0 ji9).f2).toList != ([] : List UInt8))) else (none)) else (quillworklaw05_CellsLinks.j1 kj9 l0 t164 t165 ji9 false)) else (quillworklaw05_CellsLinks.j1 kj9 l0 t164 t165 ji9 true)) else (none)) else (none)) else (if ji9 < (l0.length : Int) then (if 0 ≤ ji9 then (quillworklaw05_CellsLinks.j1 kj9 l0 t164 t165 ji9 (((rd_T30 l0 ji9).f2).toList != ([] : List UInt8))) else (none)) else (quillworklaw05_CellsLinks.j1 kj9 l0 t164 t165 ji9 false))) = some r := by rw [if_neg (show ¬ (false = true) by decide)] at H; exact H
          clear H
          have H := H1
          clear H1
          have HC16 := Aside0.mk H
          clear H
          go_upto_region 7 with (fail)
          go_cut [8] (fun v8 wc => ∃ (kq : Nat) (x8_15 : Bool), v8 = .bool x8_15 ∧ Aside0 (quillworklaw05_CellsLinks.j1 kq l0 t164 t165 ji9 x8_15 = some r) ∧ Aside0 (kq ≤ kj9) ∧ Aside0 (Below w.heap.size w wc))
          case first =>
            have H := HC16.out
            clear HC16
            by_cases c17 : ji9 > 0
            · rw [if_pos c17] at H
              have c17b0 : decide (0 < ji9) = true := decide_eq_true c17
              clear c17
              (first | rw [c17b0] | (simp only [i64_w, i32_w]; rw [c17b0]) | skip)
              obtain ⟨ji18, hji18⟩ : ∃ j_ : Int, (wrap64 (ji9 - 1)) = j_ := ⟨_, rfl⟩
              replace H : (if 0 ≤ (ji18) then (if (ji18) < (l0.length : Int) then (if ((rd_T30 l0 (ji18)).f2).toList = ([] : List UInt8) then (if ji9 < (l0.length : Int) then (if 0 ≤ ji9 then (quillworklaw05_CellsLinks.j1 kj9 l0 t164 t165 ji9 (((rd_T30 l0 ji9).f2).toList != ([] : List UInt8))) else (none)) else (quillworklaw05_CellsLinks.j1 kj9 l0 t164 t165 ji9 false)) else (quillworklaw05_CellsLinks.j1 kj9 l0 t164 t165 ji9 true)) else (none)) else (none)) = some r := by first | (rw [hji18] at H; exact H) | (simp only [hji18] at H ⊢; exact H)
              have hji18w : (IntKind.i64.wrap (ji9 - 1)) = ji18 := (i64_w _).trans hji18
              by_cases c19 : 0 ≤ (ji18)
              · rw [if_pos c19] at H
                have c19b0 : decide (0 ≤ (ji18)) = true := decide_eq_true c19
                clear c19
                by_cases c20 : (ji18) < (l0.length : Int)
                · rw [if_pos c20] at H
                  have c20b0 : decide ((ji18) < (l0.length : Int)) = true := decide_eq_true c20
                  clear c20
                  by_cases c21 : ((rd_T30 l0 (ji18)).f2).toList = ([] : List UInt8)
                  · rw [if_pos c21] at H
                    have c21b0 : (((rd_T30 l0 (ji18)).f2).toList == ([] : List UInt8)) = true := beq_iff_eq.mpr c21
                    have c21b1 : (((rd_T30 l0 (ji18)).f2).toList != ([] : List UInt8)) = false := bne_eq_false_iff_eq.mpr c21
                    clear c21
                    by_cases c22 : ji9 < (l0.length : Int)
                    · rw [if_pos c22] at H
                      have c22b0 : decide (ji9 < (l0.length : Int)) = true := decide_eq_true c22
                      clear c22
                      by_cases c23 : 0 ≤ ji9
                      · rw [if_pos c23] at H
                        have c23b0 : decide (0 ≤ ji9) = true := decide_eq_true c23
                        clear c23
                        have H' := Aside0.mk H
                        clear H
                        have p166 : 0 ≤ ((ji18) : Int) := of_decide_eq_true (by first | (with_reducible assumption) | assumption)
                        have q166 : (ji18) < (l0.length : Int) := of_decide_eq_true (by first | (with_reducible assumption) | assumption)
                        obtain ⟨ad166, e166, hx166_0, hx166_1, hx166_2⟩ := at_T30 HR0.out (ji18) p166 q166
                        cases e166
                        replace hx166_0 := (HB.out.cell (World.block_lt_of_cell? w _ hx166_0)).trans hx166_0
                        replace hx166_1 := (HB.out.cell (World.block_lt_of_cell? w _ hx166_1)).trans hx166_1
                        replace hx166_2 := (HB.out.cell (World.block_lt_of_cell? w _ hx166_2)).trans hx166_2
                        replace p166 := eq_true p166
                        replace q166 := eq_true q166
                        have p167 : 0 ≤ (ji9 : Int) := of_decide_eq_true (by first | (with_reducible assumption) | assumption)
                        have q167 : ji9 < (l0.length : Int) := of_decide_eq_true (by first | (with_reducible assumption) | assumption)
                        obtain ⟨ad167, e167, hx167_0, hx167_1, hx167_2⟩ := at_T30 HR0.out ji9 p167 q167
                        obtain rfl : ad166 = ad167 := (by injection e167)
                        replace hx167_0 := (HB.out.cell (World.block_lt_of_cell? w _ hx167_0)).trans hx167_0
                        replace hx167_1 := (HB.out.cell (World.block_lt_of_cell? w _ hx167_1)).trans hx167_1
                        replace hx167_2 := (HB.out.cell (World.block_lt_of_cell? w _ hx167_2)).trans hx167_2
                        replace p167 := eq_true p167
                        replace q167 := eq_true q167
                        go_wp2
                        go_meet
                        case rel => exact ⟨_, ((((rd_T30 l0 ji9).f2).toList != ([] : List UInt8))), (by first | rfl | (simp; done) | (simp only [← hji9] <;> (first | rfl | (simp; done) | (simp; generalize ByteArray.toList _ = z_; cases z_ <;> rfl))) | (simp [*]; done)), H', ⟨by have := HJ9.out; first | omega | exact Nat.le_refl _⟩, ⟨by repeat (first | (with_reducible first | exact HB.out | apply below_alloc | apply pw_below_drewN | apply below_drew1) | exact HB.out)⟩⟩
                      · rw [if_neg c23] at H
                        exact absurd H (by simp)
                    · rw [if_neg c22] at H
                      have c22b0 : decide (ji9 < (l0.length : Int)) = false := decide_eq_false c22
                      clear c22
                      have H' := Aside0.mk H
                      clear H
                      have p166 : 0 ≤ ((ji18) : Int) := of_decide_eq_true (by first | (with_reducible assumption) | assumption)
                      have q166 : (ji18) < (l0.length : Int) := of_decide_eq_true (by first | (with_reducible assumption) | assumption)
                      obtain ⟨ad166, e166, hx166_0, hx166_1, hx166_2⟩ := at_T30 HR0.out (ji18) p166 q166
                      cases e166
                      replace hx166_0 := (HB.out.cell (World.block_lt_of_cell? w _ hx166_0)).trans hx166_0
                      replace hx166_1 := (HB.out.cell (World.block_lt_of_cell? w _ hx166_1)).trans hx166_1
                      replace hx166_2 := (HB.out.cell (World.block_lt_of_cell? w _ hx166_2)).trans hx166_2
                      replace p166 := eq_true p166
                      replace q166 := eq_true q166
                      go_wp2
                      go_meet
                      case rel => exact ⟨_, (false), (by first | rfl | (simp; done) | (simp [*]; done)), H', ⟨by have := HJ9.out; first | omega | exact Nat.le_refl _⟩, ⟨by repeat (first | (with_reducible first | exact HB.out | apply below_alloc | apply pw_below_drewN | apply below_drew1) | exact HB.out)⟩⟩
                  · rw [if_neg c21] at H
                    have c21b0 : (((rd_T30 l0 (ji18)).f2).toList == ([] : List UInt8)) = false := beq_eq_false_iff_ne.mpr c21
                    have c21b1 : (((rd_T30 l0 (ji18)).f2).toList != ([] : List UInt8)) = true := bne_iff_ne.mpr c21
                    have H' := Aside0.mk H
                    clear H
                    have p166 : 0 ≤ ((ji18) : Int) := of_decide_eq_true (by first | (with_reducible assumption) | assumption)
                    have q166 : (ji18) < (l0.length : Int) := of_decide_eq_true (by first | (with_reducible assumption) | assumption)
                    obtain ⟨ad166, e166, hx166_0, hx166_1, hx166_2⟩ := at_T30 HR0.out (ji18) p166 q166
                    cases e166
                    replace hx166_0 := (HB.out.cell (World.block_lt_of_cell? w _ hx166_0)).trans hx166_0
                    replace hx166_1 := (HB.out.cell (World.block_lt_of_cell? w _ hx166_1)).trans hx166_1
                    replace hx166_2 := (HB.out.cell (World.block_lt_of_cell? w _ hx166_2)).trans hx166_2
                    replace p166 := eq_true p166
                    replace q166 := eq_true q166
                    go_wp2
                    go_meet
                    case rel => exact ⟨_, (true), (by first | rfl | (simp; done) | (simp [*]; done)), H', ⟨by have := HJ9.out; first | omega | exact Nat.le_refl _⟩, ⟨by repeat (first | (with_reducible first | exact HB.out | apply below_alloc | apply pw_below_drewN | apply below_drew1) | exact HB.out)⟩⟩
                · rw [if_neg c20] at H
                  exact absurd H (by simp)
              · rw [if_neg c19] at H
                exact absurd H (by simp)
            · rw [if_neg c17] at H
              have c17b0 : decide (0 < ji9) = false := decide_eq_false c17
              clear c17
              (first | rw [c17b0] | (simp only [i64_w, i32_w]; rw [c17b0]) | skip)
              by_cases c24 : ji9 < (l0.length : Int)
              · rw [if_pos c24] at H
                have c24b0 : decide (ji9 < (l0.length : Int)) = true := decide_eq_true c24
                clear c24
                by_cases c25 : 0 ≤ ji9
                · rw [if_pos c25] at H
                  have c25b0 : decide (0 ≤ ji9) = true := decide_eq_true c25
                  clear c25
                  have H' := Aside0.mk H
                  clear H
                  have p168 : 0 ≤ (ji9 : Int) := of_decide_eq_true (by first | (with_reducible assumption) | assumption)
                  have q168 : ji9 < (l0.length : Int) := of_decide_eq_true (by first | (with_reducible assumption) | assumption)
                  obtain ⟨ad168, e168, hx168_0, hx168_1, hx168_2⟩ := at_T30 HR0.out ji9 p168 q168
                  cases e168
                  replace hx168_0 := (HB.out.cell (World.block_lt_of_cell? w _ hx168_0)).trans hx168_0
                  replace hx168_1 := (HB.out.cell (World.block_lt_of_cell? w _ hx168_1)).trans hx168_1
                  replace hx168_2 := (HB.out.cell (World.block_lt_of_cell? w _ hx168_2)).trans hx168_2
                  replace p168 := eq_true p168
                  replace q168 := eq_true q168
                  go_wp2
                  go_meet
                  case rel => exact ⟨_, ((((rd_T30 l0 ji9).f2).toList != ([] : List UInt8))), (by first | rfl | (simp; done) | (simp only [← hji9] <;> (first | rfl | (simp; done) | (simp; generalize ByteArray.toList _ = z_; cases z_ <;> rfl))) | (simp [*]; done)), H', ⟨by have := HJ9.out; first | omega | exact Nat.le_refl _⟩, ⟨by repeat (first | (with_reducible first | exact HB.out | apply below_alloc | apply pw_below_drewN | apply below_drew1) | exact HB.out)⟩⟩
                · rw [if_neg c25] at H
                  exact absurd H (by simp)
              · rw [if_neg c24] at H
                have c24b0 : decide (ji9 < (l0.length : Int)) = false := decide_eq_false c24
                clear c24
                have H' := Aside0.mk H
                clear H
                go_wp2
                go_meet
                case rel => exact ⟨_, (false), (by first | rfl | (simp; done) | (simp [*]; done)), H', ⟨by have := HJ9.out; first | omega | exact Nat.le_refl _⟩, ⟨by repeat (first | (with_reducible first | exact HB.out | apply below_alloc | apply pw_below_drewN | apply below_drew1) | exact HB.out)⟩⟩
          case rest =>
            clear HC16
            try clear c1
            try clear p1
            try clear q1
            try clear hx1
            try clear c2
            try clear p2
            try clear c4
            try clear p6
            try clear c7
            try clear c8
            try clear c10
            try clear c12
            try clear c12b0
            try clear c13
            try clear c13b0
            try clear c14
            try clear c14b0
            try clear c15
            try clear p16
            try clear q16
            try clear hx16
            try clear c17
            try clear c17b0
            try clear c19
            try clear c19b0
            try clear c20
            try clear c20b0
            try clear c21
            try clear c21b0
            try clear c21b1
            try clear c22
            try clear c22b0
            try clear c23
            try clear c23b0
            try clear c24
            try clear c24b0
            try clear c25
            try clear c25b0
            try clear hx166_0
            try clear hx166_1
            try clear hx166_2
            try clear hx167_0
            try clear hx167_1
            try clear hx167_2
            try clear hx168_0
            try clear hx168_1
            try clear hx168_2
            try clear p166
            try clear p167
            try clear p168
            try clear p2
            try clear q166
            try clear q167
            try clear q168
            obtain ⟨kq, x8_15, rfl, HA, HJ15, HB⟩ := hcut
            cases kq with
            | zero => exact absurd HA.out (by simp [quillworklaw05_CellsLinks.j1])
            | succ kj15 =>
              have H := HA.out
              clear HA
              simp only [quillworklaw05_CellsLinks.j1] at H
              by_cases c26 : t164 = t165
              · rw [if_pos c26] at H
                have c26b0 : (t164 == t165) = true := beq_iff_eq.mpr c26
                have c26b1 : (t164 != t165) = false := bne_eq_false_iff_eq.mpr c26
                clear c26
                by_cases c27 : x8_15 = true
                · subst c27
                  have H1 : (some false) = some r := by rw [if_pos rfl] at H; exact H
                  clear H
                  have H := H1
                  clear H1
                  obtain rfl := Option.some.inj H
                  go_wp2
                  go_ret
                  exact ⟨by first | rfl | (simp [errW_none, errW_some] <;> rfl) | (simp only [← hji8, ← hji9]; first | rfl | (simp [errW_none, errW_some] <;> rfl)) | (simp [*, errW_none, errW_some] <;> rfl), by repeat (first | (with_reducible first | exact HB.out | apply below_alloc | apply pw_below_drewN | apply below_drew1) | exact HB.out)⟩
                · replace c27 := Bool.eq_false_iff.mpr c27
                  subst c27
                  have H1 : (if t164 = ji9 then ((quillworklaw05_awake.f kj15).bind fun t169 => (some t169)) else (some false)) = some r := by rw [if_neg (show ¬ (false = true) by decide)] at H; exact H
                  clear H
                  have H := H1
                  clear H1
                  by_cases c28 : t164 = ji9
                  · rw [if_pos c28] at H
                    have c28b0 : (t164 == ji9) = true := beq_iff_eq.mpr c28
                    have c28b1 : (t164 != ji9) = false := bne_eq_false_iff_eq.mpr c28
                    clear c28
                    replace H := Option.bind_eq_some_iff.mp H
                    obtain ⟨t169, A290, H⟩ := H
                    replace H : (some t169) = some r := H
                    have A29 := Aside0.mk A290
                    clear A290
                    obtain rfl := Option.some.inj H
                    go_wp2_with (first | (go_at_call 8; (with_reducible refine (quillworklaw05_awake.calls kj15  t169 _ A29.out).mono ?_); rintro e w30 ⟨rfl, hb⟩; have n0_ := Aside0.mk (below_step (by repeat (first | (with_reducible first | exact HB.out | apply below_alloc | apply pw_below_drewN | apply below_drew1) | exact HB.out)) hb); clear HB; have HB := n0_; clear n0_; (try clear hb); (try clear hb2); (try clear hk); (try clear hi)))
                    go_ret
                    exact ⟨by first | rfl | (simp [errW_none, errW_some] <;> rfl) | (simp only [← hji8, ← hji9]; first | rfl | (simp [errW_none, errW_some] <;> rfl)) | (simp [*, errW_none, errW_some] <;> rfl), by repeat (first | (with_reducible first | exact HB.out | apply below_alloc | apply pw_below_drewN | apply below_drew1) | exact HB.out)⟩
                  · rw [if_neg c28] at H
                    have c28b0 : (t164 == ji9) = false := beq_eq_false_iff_ne.mpr c28
                    have c28b1 : (t164 != ji9) = true := bne_iff_ne.mpr c28
                    obtain rfl := Option.some.inj H
                    go_wp2
                    go_ret
                    exact ⟨by first | rfl | (simp [errW_none, errW_some] <;> rfl) | (simp only [← hji8, ← hji9]; first | rfl | (simp [errW_none, errW_some] <;> rfl)) | (simp [*, errW_none, errW_some] <;> rfl), by repeat (first | (with_reducible first | exact HB.out | apply below_alloc | apply pw_below_drewN | apply below_drew1) | exact HB.out)⟩
              · rw [if_neg c26] at H
                have c26b0 : (t164 == t165) = false := beq_eq_false_iff_ne.mpr c26
                have c26b1 : (t164 != t165) = true := bne_iff_ne.mpr c26
                by_cases c31 : 0 ≤ t164
                · rw [if_pos c31] at H
                  have c31b0 : decide (0 ≤ t164) = true := decide_eq_true c31
                  clear c31
                  by_cases c32 : t164 < (l0.length : Int)
                  · rw [if_pos c32] at H
                    have c32b0 : decide (t164 < (l0.length : Int)) = true := decide_eq_true c32
                    clear c32
                    have H' := Aside0.mk H
                    clear H
                    have p170 : 0 ≤ (t164 : Int) := of_decide_eq_true (by first | (with_reducible assumption) | assumption)
                    have q170 : t164 < (l0.length : Int) := of_decide_eq_true (by first | (with_reducible assumption) | assumption)
                    obtain ⟨ad170, e170, hx170_0, hx170_1, hx170_2⟩ := at_T30 HR0.out t164 p170 q170
                    cases e170
                    replace hx170_0 := (HB.out.cell (World.block_lt_of_cell? w _ hx170_0)).trans hx170_0
                    replace hx170_1 := (HB.out.cell (World.block_lt_of_cell? w _ hx170_1)).trans hx170_1
                    replace hx170_2 := (HB.out.cell (World.block_lt_of_cell? w _ hx170_2)).trans hx170_2
                    replace p170 := eq_true p170
                    replace q170 := eq_true q170
                    go_wp2
                    go_loopg [10] kj15 (fun kq v10 w' => ∃ (x10_3 : Int), v10 = .int .i64 x10_3 ∧ Aside0 (quillworklaw05_CellsLinks.l0 kq l0 t164 t165 x8_15 ((rd_T30 l0 t164).f2) x10_3 = some r) ∧ Aside0 (kq ≤ kj15) ∧ Aside0 (Below w.heap.size w w'))
                    case atStart => exact ⟨(t164), (by first | rfl | (simp; done) | (simp [*]; done)), H', ⟨Nat.le_refl _⟩, ⟨by repeat (first | (with_reducible first | exact HB.out | apply below_alloc | apply pw_below_drewN | apply below_drew1) | exact HB.out)⟩⟩
                    case round =>
                      clear H'
                      try clear c1
                      try clear p1
                      try clear q1
                      try clear hx1
                      try clear c2
                      try clear p2
                      try clear c3
                      try clear c4
                      try clear p6
                      try clear c7
                      try clear c8
                      try clear c10
                      try clear c12
                      try clear c12b0
                      try clear c13
                      try clear c13b0
                      try clear c14
                      try clear c14b0
                      try clear c15
                      try clear p16
                      try clear q16
                      try clear hx16
                      try clear c17
                      try clear c17b0
                      try clear p17
                      try clear q17
                      try clear hx17
                      try clear c19
                      try clear c19b0
                      try clear c20
                      try clear c20b0
                      try clear c21
                      try clear c21b0
                      try clear c21b1
                      try clear c22
                      try clear c22b0
                      try clear c23
                      try clear c23b0
                      try clear c24
                      try clear c24b0
                      try clear c25
                      try clear c25b0
                      try clear c26
                      try clear c26b0
                      try clear c26b1
                      try clear c27
                      try clear c28
                      try clear c28b0
                      try clear c28b1
                      try clear c31
                      try clear c31b0
                      try clear c32
                      try clear c32b0
                      try clear hx166_0
                      try clear hx166_1
                      try clear hx166_2
                      try clear hx167_0
                      try clear hx167_1
                      try clear hx167_2
                      try clear hx168_0
                      try clear hx168_1
                      try clear hx168_2
                      try clear hx170_0
                      try clear hx170_1
                      try clear hx170_2
                      try clear p1
                      try clear p16
                      try clear p166
                      try clear p167
                      try clear p168
                      try clear p170
                      try clear p2
                      try clear p6
                      try clear q1
                      try clear q16
                      try clear q166
                      try clear q167
                      try clear q168
                      try clear q170
                      obtain ⟨x10_3, rfl, HA, HK3, HB⟩ := hrel
                      cases gk with
                      | zero => exact absurd HA.out (by simp [quillworklaw05_CellsLinks.l0])
                      | succ k3 =>
                        have H := HA.out
                        clear HA
                        simp only [quillworklaw05_CellsLinks.l0] at H
                        by_cases c33 : x10_3 < t165
                        · rw [if_pos c33] at H
                          have c33b0 : decide (x10_3 < t165) = true := decide_eq_true c33
                          clear c33
                          by_cases c34 : 0 ≤ x10_3
                          · rw [if_pos c34] at H
                            have c34b0 : decide (0 ≤ x10_3) = true := decide_eq_true c34
                            clear c34
                            by_cases c35 : x10_3 < (l0.length : Int)
                            · rw [if_pos c35] at H
                              have c35b0 : decide (x10_3 < (l0.length : Int)) = true := decide_eq_true c35
                              clear c35
                              by_cases c36 : ((rd_T30 l0 x10_3).f2).toList = ((rd_T30 l0 t164).f2).toList
                              · rw [if_pos c36] at H
                                have c36b0 : (((rd_T30 l0 x10_3).f2).toList == ((rd_T30 l0 t164).f2).toList) = true := beq_iff_eq.mpr c36
                                have c36b1 : (((rd_T30 l0 x10_3).f2).toList != ((rd_T30 l0 t164).f2).toList) = false := bne_eq_false_iff_eq.mpr c36
                                clear c36
                                have H' := Aside0.mk H
                                clear H
                                have p171 : 0 ≤ (x10_3 : Int) := of_decide_eq_true (by first | (with_reducible assumption) | assumption)
                                have q171 : x10_3 < (l0.length : Int) := of_decide_eq_true (by first | (with_reducible assumption) | assumption)
                                obtain ⟨ad171, e171, hx171_0, hx171_1, hx171_2⟩ := at_T30 HR0.out x10_3 p171 q171
                                obtain rfl : ad170 = ad171 := (by injection e171)
                                replace hx171_0 := (HB.out.cell (World.block_lt_of_cell? w _ hx171_0)).trans hx171_0
                                replace hx171_1 := (HB.out.cell (World.block_lt_of_cell? w _ hx171_1)).trans hx171_1
                                replace hx171_2 := (HB.out.cell (World.block_lt_of_cell? w _ hx171_2)).trans hx171_2
                                replace p171 := eq_true p171
                                replace q171 := eq_true q171
                                go_wp2
                                go_roundg k3
                                case measure => have := HJ9.out; have := HJ15.out; have := HK3.out; omega
                                case rel => exact ⟨(wrap64 (x10_3 + 1)), (by first | rfl | (simp; done) | (simp [*]; done)), H', ⟨by have := HJ9.out; have := HJ15.out; have := HK3.out; omega⟩, ⟨by repeat (first | (with_reducible first | exact HB.out | apply below_alloc | apply pw_below_drewN | apply below_drew1) | exact HB.out)⟩⟩
                              · rw [if_neg c36] at H
                                have c36b0 : (((rd_T30 l0 x10_3).f2).toList == ((rd_T30 l0 t164).f2).toList) = false := beq_eq_false_iff_ne.mpr c36
                                have c36b1 : (((rd_T30 l0 x10_3).f2).toList != ((rd_T30 l0 t164).f2).toList) = true := bne_iff_ne.mpr c36
                                obtain rfl := Option.some.inj H
                                have p171 : 0 ≤ (x10_3 : Int) := of_decide_eq_true (by first | (with_reducible assumption) | assumption)
                                have q171 : x10_3 < (l0.length : Int) := of_decide_eq_true (by first | (with_reducible assumption) | assumption)
                                obtain ⟨ad171, e171, hx171_0, hx171_1, hx171_2⟩ := at_T30 HR0.out x10_3 p171 q171
                                obtain rfl : ad170 = ad171 := (by injection e171)
                                replace hx171_0 := (HB.out.cell (World.block_lt_of_cell? w _ hx171_0)).trans hx171_0
                                replace hx171_1 := (HB.out.cell (World.block_lt_of_cell? w _ hx171_1)).trans hx171_1
                                replace hx171_2 := (HB.out.cell (World.block_lt_of_cell? w _ hx171_2)).trans hx171_2
                                replace p171 := eq_true p171
                                replace q171 := eq_true q171
                                go_wp2
                                go_ret
                                exact ⟨by first | rfl | (simp [errW_none, errW_some] <;> rfl) | (simp only [← hji8, ← hji9]; first | rfl | (simp [errW_none, errW_some] <;> rfl)) | (simp [*, errW_none, errW_some] <;> rfl), by repeat (first | (with_reducible first | exact HB.out | apply below_alloc | apply pw_below_drewN | apply below_drew1) | exact HB.out)⟩
                            · rw [if_neg c35] at H
                              exact absurd H (by simp)
                          · rw [if_neg c34] at H
                            exact absurd H (by simp)
                        · rw [if_neg c33] at H
                          have c33b0 : decide (x10_3 < t165) = false := decide_eq_false c33
                          clear c33
                          by_cases c37 : x8_15 = true
                          · subst c37
                            have H1 : (if ((rd_T30 l0 t164).f2).toList = ([] : List UInt8) then (some false) else (if t164 = 0 then (if t165 = (l0.length : Int) then ((quillworklaw05_awake.f k3).bind fun t172 => (some t172)) else (if 0 ≤ t165 then (if t165 < (l0.length : Int) then (if ((rd_T30 l0 t165).f2).toList = ((rd_T30 l0 t164).f2).toList then (some false) else ((quillworklaw05_awake.f k3).bind fun t174 => (some t174))) else (none)) else (none))) else (if 0 ≤ (wrap64 (t164 - 1)) then (if (wrap64 (t164 - 1)) < (l0.length : Int) then (if ((rd_T30 l0 (wrap64 (t164 - 1))).f2).toList = ((rd_T30 l0 t164).f2).toList then (some false) else (if t165 = (l0.length : Int) then ((quillworklaw05_awake.f k3).bind fun t176 => (some t176)) else (if 0 ≤ t165 then (if t165 < (l0.length : Int) then (if ((rd_T30 l0 t165).f2).toList = ((rd_T30 l0 t164).f2).toList then (some false) else ((quillworklaw05_awake.f k3).bind fun t178 => (some t178))) else (none)) else (none)))) else (none)) else (none)))) = some r := by rw [if_pos rfl] at H; exact H
                            clear H
                            have H := H1
                            clear H1
                            by_cases c38 : ((rd_T30 l0 t164).f2).toList = ([] : List UInt8)
                            · rw [if_pos c38] at H
                              have c38b0 : (((rd_T30 l0 t164).f2).toList == ([] : List UInt8)) = true := beq_iff_eq.mpr c38
                              have c38b1 : (((rd_T30 l0 t164).f2).toList != ([] : List UInt8)) = false := bne_eq_false_iff_eq.mpr c38
                              clear c38
                              obtain rfl := Option.some.inj H
                              go_wp2
                              go_ret
                              exact ⟨by first | rfl | (simp [errW_none, errW_some] <;> rfl) | (simp only [← hji8, ← hji9]; first | rfl | (simp [errW_none, errW_some] <;> rfl)) | (simp [*, errW_none, errW_some] <;> rfl), by repeat (first | (with_reducible first | exact HB.out | apply below_alloc | apply pw_below_drewN | apply below_drew1) | exact HB.out)⟩
                            · rw [if_neg c38] at H
                              have c38b0 : (((rd_T30 l0 t164).f2).toList == ([] : List UInt8)) = false := beq_eq_false_iff_ne.mpr c38
                              have c38b1 : (((rd_T30 l0 t164).f2).toList != ([] : List UInt8)) = true := bne_iff_ne.mpr c38
                              by_cases c39 : t164 = 0
                              · rw [if_pos c39] at H
                                have c39b0 : (t164 == 0) = true := beq_iff_eq.mpr c39
                                have c39b1 : (t164 != 0) = false := bne_eq_false_iff_eq.mpr c39
                                clear c39
                                by_cases c40 : t165 = (l0.length : Int)
                                · rw [if_pos c40] at H
                                  have c40b0 : (t165 == (l0.length : Int)) = true := beq_iff_eq.mpr c40
                                  have c40b1 : (t165 != (l0.length : Int)) = false := bne_eq_false_iff_eq.mpr c40
                                  clear c40
                                  replace H := Option.bind_eq_some_iff.mp H
                                  obtain ⟨t172, A410, H⟩ := H
                                  replace H : (some t172) = some r := H
                                  have A41 := Aside0.mk A410
                                  clear A410
                                  obtain rfl := Option.some.inj H
                                  go_wp2_with (first | (go_at_call 8; (with_reducible refine (quillworklaw05_awake.calls k3  t172 _ A41.out).mono ?_); rintro e w42 ⟨rfl, hb⟩; have n0_ := Aside0.mk (below_step (by repeat (first | (with_reducible first | exact HB.out | apply below_alloc | apply pw_below_drewN | apply below_drew1) | exact HB.out)) hb); clear HB; have HB := n0_; clear n0_; (try clear hb); (try clear hb2); (try clear hk); (try clear hi)))
                                  go_ret
                                  exact ⟨by first | rfl | (simp [errW_none, errW_some] <;> rfl) | (simp only [← hji8, ← hji9]; first | rfl | (simp [errW_none, errW_some] <;> rfl)) | (simp [*, errW_none, errW_some] <;> rfl), by repeat (first | (with_reducible first | exact HB.out | apply below_alloc | apply pw_below_drewN | apply below_drew1) | exact HB.out)⟩
                                · rw [if_neg c40] at H
                                  have c40b0 : (t165 == (l0.length : Int)) = false := beq_eq_false_iff_ne.mpr c40
                                  have c40b1 : (t165 != (l0.length : Int)) = true := bne_iff_ne.mpr c40
                                  by_cases c43 : 0 ≤ t165
                                  · rw [if_pos c43] at H
                                    have c43b0 : decide (0 ≤ t165) = true := decide_eq_true c43
                                    clear c43
                                    by_cases c44 : t165 < (l0.length : Int)
                                    · rw [if_pos c44] at H
                                      have c44b0 : decide (t165 < (l0.length : Int)) = true := decide_eq_true c44
                                      clear c44
                                      by_cases c45 : ((rd_T30 l0 t165).f2).toList = ((rd_T30 l0 t164).f2).toList
                                      · rw [if_pos c45] at H
                                        have c45b0 : (((rd_T30 l0 t165).f2).toList == ((rd_T30 l0 t164).f2).toList) = true := beq_iff_eq.mpr c45
                                        have c45b1 : (((rd_T30 l0 t165).f2).toList != ((rd_T30 l0 t164).f2).toList) = false := bne_eq_false_iff_eq.mpr c45
                                        clear c45
                                        obtain rfl := Option.some.inj H
                                        have p173 : 0 ≤ (t165 : Int) := of_decide_eq_true (by first | (with_reducible assumption) | assumption)
                                        have q173 : t165 < (l0.length : Int) := of_decide_eq_true (by first | (with_reducible assumption) | assumption)
                                        obtain ⟨ad173, e173, hx173_0, hx173_1, hx173_2⟩ := at_T30 HR0.out t165 p173 q173
                                        obtain rfl : ad170 = ad173 := (by injection e173)
                                        replace hx173_0 := (HB.out.cell (World.block_lt_of_cell? w _ hx173_0)).trans hx173_0
                                        replace hx173_1 := (HB.out.cell (World.block_lt_of_cell? w _ hx173_1)).trans hx173_1
                                        replace hx173_2 := (HB.out.cell (World.block_lt_of_cell? w _ hx173_2)).trans hx173_2
                                        replace p173 := eq_true p173
                                        replace q173 := eq_true q173
                                        go_wp2
                                        go_ret
                                        exact ⟨by first | rfl | (simp [errW_none, errW_some] <;> rfl) | (simp only [← hji8, ← hji9]; first | rfl | (simp [errW_none, errW_some] <;> rfl)) | (simp [*, errW_none, errW_some] <;> rfl), by repeat (first | (with_reducible first | exact HB.out | apply below_alloc | apply pw_below_drewN | apply below_drew1) | exact HB.out)⟩
                                      · rw [if_neg c45] at H
                                        have c45b0 : (((rd_T30 l0 t165).f2).toList == ((rd_T30 l0 t164).f2).toList) = false := beq_eq_false_iff_ne.mpr c45
                                        have c45b1 : (((rd_T30 l0 t165).f2).toList != ((rd_T30 l0 t164).f2).toList) = true := bne_iff_ne.mpr c45
                                        replace H := Option.bind_eq_some_iff.mp H
                                        obtain ⟨t174, A460, H⟩ := H
                                        replace H : (some t174) = some r := H
                                        have A46 := Aside0.mk A460
                                        clear A460
                                        obtain rfl := Option.some.inj H
                                        have p173 : 0 ≤ (t165 : Int) := of_decide_eq_true (by first | (with_reducible assumption) | assumption)
                                        have q173 : t165 < (l0.length : Int) := of_decide_eq_true (by first | (with_reducible assumption) | assumption)
                                        obtain ⟨ad173, e173, hx173_0, hx173_1, hx173_2⟩ := at_T30 HR0.out t165 p173 q173
                                        obtain rfl : ad170 = ad173 := (by injection e173)
                                        replace hx173_0 := (HB.out.cell (World.block_lt_of_cell? w _ hx173_0)).trans hx173_0
                                        replace hx173_1 := (HB.out.cell (World.block_lt_of_cell? w _ hx173_1)).trans hx173_1
                                        replace hx173_2 := (HB.out.cell (World.block_lt_of_cell? w _ hx173_2)).trans hx173_2
                                        replace p173 := eq_true p173
                                        replace q173 := eq_true q173
                                        go_wp2_with (first | (go_at_call 8; (with_reducible refine (quillworklaw05_awake.calls k3  t174 _ A46.out).mono ?_); rintro e w47 ⟨rfl, hb⟩; have n0_ := Aside0.mk (below_step (by repeat (first | (with_reducible first | exact HB.out | apply below_alloc | apply pw_below_drewN | apply below_drew1) | exact HB.out)) hb); clear HB; have HB := n0_; clear n0_; (try clear hb); (try clear hb2); (try clear hk); (try clear hi)))
                                        go_ret
                                        exact ⟨by first | rfl | (simp [errW_none, errW_some] <;> rfl) | (simp only [← hji8, ← hji9]; first | rfl | (simp [errW_none, errW_some] <;> rfl)) | (simp [*, errW_none, errW_some] <;> rfl), by repeat (first | (with_reducible first | exact HB.out | apply below_alloc | apply pw_below_drewN | apply below_drew1) | exact HB.out)⟩
                                    · rw [if_neg c44] at H
                                      exact absurd H (by simp)
                                  · rw [if_neg c43] at H
                                    exact absurd H (by simp)
                              · rw [if_neg c39] at H
                                have c39b0 : (t164 == 0) = false := beq_eq_false_iff_ne.mpr c39
                                have c39b1 : (t164 != 0) = true := bne_iff_ne.mpr c39
                                obtain ⟨ji48, hji48⟩ : ∃ j_ : Int, (wrap64 (t164 - 1)) = j_ := ⟨_, rfl⟩
                                replace H : (if 0 ≤ (ji48) then (if (ji48) < (l0.length : Int) then (if ((rd_T30 l0 (ji48)).f2).toList = ((rd_T30 l0 t164).f2).toList then (some false) else (if t165 = (l0.length : Int) then ((quillworklaw05_awake.f k3).bind fun t176 => (some t176)) else (if 0 ≤ t165 then (if t165 < (l0.length : Int) then (if ((rd_T30 l0 t165).f2).toList = ((rd_T30 l0 t164).f2).toList then (some false) else ((quillworklaw05_awake.f k3).bind fun t178 => (some t178))) else (none)) else (none)))) else (none)) else (none)) = some r := by first | (rw [hji48] at H; exact H) | (simp only [hji48] at H ⊢; exact H)
                                have hji48w : (IntKind.i64.wrap (t164 - 1)) = ji48 := (i64_w _).trans hji48
                                by_cases c49 : 0 ≤ (ji48)
                                · rw [if_pos c49] at H
                                  have c49b0 : decide (0 ≤ (ji48)) = true := decide_eq_true c49
                                  clear c49
                                  by_cases c50 : (ji48) < (l0.length : Int)
                                  · rw [if_pos c50] at H
                                    have c50b0 : decide ((ji48) < (l0.length : Int)) = true := decide_eq_true c50
                                    clear c50
                                    by_cases c51 : ((rd_T30 l0 (ji48)).f2).toList = ((rd_T30 l0 t164).f2).toList
                                    · rw [if_pos c51] at H
                                      have c51b0 : (((rd_T30 l0 (ji48)).f2).toList == ((rd_T30 l0 t164).f2).toList) = true := beq_iff_eq.mpr c51
                                      have c51b1 : (((rd_T30 l0 (ji48)).f2).toList != ((rd_T30 l0 t164).f2).toList) = false := bne_eq_false_iff_eq.mpr c51
                                      clear c51
                                      obtain rfl := Option.some.inj H
                                      have p175 : 0 ≤ ((ji48) : Int) := of_decide_eq_true (by first | (with_reducible assumption) | assumption)
                                      have q175 : (ji48) < (l0.length : Int) := of_decide_eq_true (by first | (with_reducible assumption) | assumption)
                                      obtain ⟨ad175, e175, hx175_0, hx175_1, hx175_2⟩ := at_T30 HR0.out (ji48) p175 q175
                                      obtain rfl : ad170 = ad175 := (by injection e175)
                                      replace hx175_0 := (HB.out.cell (World.block_lt_of_cell? w _ hx175_0)).trans hx175_0
                                      replace hx175_1 := (HB.out.cell (World.block_lt_of_cell? w _ hx175_1)).trans hx175_1
                                      replace hx175_2 := (HB.out.cell (World.block_lt_of_cell? w _ hx175_2)).trans hx175_2
                                      replace p175 := eq_true p175
                                      replace q175 := eq_true q175
                                      go_wp2
                                      go_ret
                                      exact ⟨by first | rfl | (simp [errW_none, errW_some] <;> rfl) | (simp only [← hji8, ← hji9, ← hji48]; first | rfl | (simp [errW_none, errW_some] <;> rfl)) | (simp [*, errW_none, errW_some] <;> rfl), by repeat (first | (with_reducible first | exact HB.out | apply below_alloc | apply pw_below_drewN | apply below_drew1) | exact HB.out)⟩
                                    · rw [if_neg c51] at H
                                      have c51b0 : (((rd_T30 l0 (ji48)).f2).toList == ((rd_T30 l0 t164).f2).toList) = false := beq_eq_false_iff_ne.mpr c51
                                      have c51b1 : (((rd_T30 l0 (ji48)).f2).toList != ((rd_T30 l0 t164).f2).toList) = true := bne_iff_ne.mpr c51
                                      by_cases c52 : t165 = (l0.length : Int)
                                      · rw [if_pos c52] at H
                                        have c52b0 : (t165 == (l0.length : Int)) = true := beq_iff_eq.mpr c52
                                        have c52b1 : (t165 != (l0.length : Int)) = false := bne_eq_false_iff_eq.mpr c52
                                        clear c52
                                        replace H := Option.bind_eq_some_iff.mp H
                                        obtain ⟨t176, A530, H⟩ := H
                                        replace H : (some t176) = some r := H
                                        have A53 := Aside0.mk A530
                                        clear A530
                                        obtain rfl := Option.some.inj H
                                        have p175 : 0 ≤ ((ji48) : Int) := of_decide_eq_true (by first | (with_reducible assumption) | assumption)
                                        have q175 : (ji48) < (l0.length : Int) := of_decide_eq_true (by first | (with_reducible assumption) | assumption)
                                        obtain ⟨ad175, e175, hx175_0, hx175_1, hx175_2⟩ := at_T30 HR0.out (ji48) p175 q175
                                        obtain rfl : ad170 = ad175 := (by injection e175)
                                        replace hx175_0 := (HB.out.cell (World.block_lt_of_cell? w _ hx175_0)).trans hx175_0
                                        replace hx175_1 := (HB.out.cell (World.block_lt_of_cell? w _ hx175_1)).trans hx175_1
                                        replace hx175_2 := (HB.out.cell (World.block_lt_of_cell? w _ hx175_2)).trans hx175_2
                                        replace p175 := eq_true p175
                                        replace q175 := eq_true q175
                                        go_wp2_with (first | (go_at_call 8; (with_reducible refine (quillworklaw05_awake.calls k3  t176 _ A53.out).mono ?_); rintro e w54 ⟨rfl, hb⟩; have n0_ := Aside0.mk (below_step (by repeat (first | (with_reducible first | exact HB.out | apply below_alloc | apply pw_below_drewN | apply below_drew1) | exact HB.out)) hb); clear HB; have HB := n0_; clear n0_; (try clear hb); (try clear hb2); (try clear hk); (try clear hi)))
                                        go_ret
                                        exact ⟨by first | rfl | (simp [errW_none, errW_some] <;> rfl) | (simp only [← hji8, ← hji9, ← hji48]; first | rfl | (simp [errW_none, errW_some] <;> rfl)) | (simp [*, errW_none, errW_some] <;> rfl), by repeat (first | (with_reducible first | exact HB.out | apply below_alloc | apply pw_below_drewN | apply below_drew1) | exact HB.out)⟩
                                      · rw [if_neg c52] at H
                                        have c52b0 : (t165 == (l0.length : Int)) = false := beq_eq_false_iff_ne.mpr c52
                                        have c52b1 : (t165 != (l0.length : Int)) = true := bne_iff_ne.mpr c52
                                        by_cases c55 : 0 ≤ t165
                                        · rw [if_pos c55] at H
                                          have c55b0 : decide (0 ≤ t165) = true := decide_eq_true c55
                                          clear c55
                                          by_cases c56 : t165 < (l0.length : Int)
                                          · rw [if_pos c56] at H
                                            have c56b0 : decide (t165 < (l0.length : Int)) = true := decide_eq_true c56
                                            clear c56
                                            by_cases c57 : ((rd_T30 l0 t165).f2).toList = ((rd_T30 l0 t164).f2).toList
                                            · rw [if_pos c57] at H
                                              have c57b0 : (((rd_T30 l0 t165).f2).toList == ((rd_T30 l0 t164).f2).toList) = true := beq_iff_eq.mpr c57
                                              have c57b1 : (((rd_T30 l0 t165).f2).toList != ((rd_T30 l0 t164).f2).toList) = false := bne_eq_false_iff_eq.mpr c57
                                              clear c57
                                              obtain rfl := Option.some.inj H
                                              have p175 : 0 ≤ ((ji48) : Int) := of_decide_eq_true (by first | (with_reducible assumption) | assumption)
                                              have q175 : (ji48) < (l0.length : Int) := of_decide_eq_true (by first | (with_reducible assumption) | assumption)
                                              obtain ⟨ad175, e175, hx175_0, hx175_1, hx175_2⟩ := at_T30 HR0.out (ji48) p175 q175
                                              obtain rfl : ad170 = ad175 := (by injection e175)
                                              replace hx175_0 := (HB.out.cell (World.block_lt_of_cell? w _ hx175_0)).trans hx175_0
                                              replace hx175_1 := (HB.out.cell (World.block_lt_of_cell? w _ hx175_1)).trans hx175_1
                                              replace hx175_2 := (HB.out.cell (World.block_lt_of_cell? w _ hx175_2)).trans hx175_2
                                              replace p175 := eq_true p175
                                              replace q175 := eq_true q175
                                              have p177 : 0 ≤ (t165 : Int) := of_decide_eq_true (by first | (with_reducible assumption) | assumption)
                                              have q177 : t165 < (l0.length : Int) := of_decide_eq_true (by first | (with_reducible assumption) | assumption)
                                              obtain ⟨ad177, e177, hx177_0, hx177_1, hx177_2⟩ := at_T30 HR0.out t165 p177 q177
                                              obtain rfl : ad170 = ad177 := (by injection e177)
                                              replace hx177_0 := (HB.out.cell (World.block_lt_of_cell? w _ hx177_0)).trans hx177_0
                                              replace hx177_1 := (HB.out.cell (World.block_lt_of_cell? w _ hx177_1)).trans hx177_1
                                              replace hx177_2 := (HB.out.cell (World.block_lt_of_cell? w _ hx177_2)).trans hx177_2
                                              replace p177 := eq_true p177
                                              replace q177 := eq_true q177
                                              go_wp2
                                              go_ret
                                              exact ⟨by first | rfl | (simp [errW_none, errW_some] <;> rfl) | (simp only [← hji8, ← hji9, ← hji48]; first | rfl | (simp [errW_none, errW_some] <;> rfl)) | (simp [*, errW_none, errW_some] <;> rfl), by repeat (first | (with_reducible first | exact HB.out | apply below_alloc | apply pw_below_drewN | apply below_drew1) | exact HB.out)⟩
                                            · rw [if_neg c57] at H
                                              have c57b0 : (((rd_T30 l0 t165).f2).toList == ((rd_T30 l0 t164).f2).toList) = false := beq_eq_false_iff_ne.mpr c57
                                              have c57b1 : (((rd_T30 l0 t165).f2).toList != ((rd_T30 l0 t164).f2).toList) = true := bne_iff_ne.mpr c57
                                              replace H := Option.bind_eq_some_iff.mp H
                                              obtain ⟨t178, A580, H⟩ := H
                                              replace H : (some t178) = some r := H
                                              have A58 := Aside0.mk A580
                                              clear A580
                                              obtain rfl := Option.some.inj H
                                              have p175 : 0 ≤ ((ji48) : Int) := of_decide_eq_true (by first | (with_reducible assumption) | assumption)
                                              have q175 : (ji48) < (l0.length : Int) := of_decide_eq_true (by first | (with_reducible assumption) | assumption)
                                              obtain ⟨ad175, e175, hx175_0, hx175_1, hx175_2⟩ := at_T30 HR0.out (ji48) p175 q175
                                              obtain rfl : ad170 = ad175 := (by injection e175)
                                              replace hx175_0 := (HB.out.cell (World.block_lt_of_cell? w _ hx175_0)).trans hx175_0
                                              replace hx175_1 := (HB.out.cell (World.block_lt_of_cell? w _ hx175_1)).trans hx175_1
                                              replace hx175_2 := (HB.out.cell (World.block_lt_of_cell? w _ hx175_2)).trans hx175_2
                                              replace p175 := eq_true p175
                                              replace q175 := eq_true q175
                                              have p177 : 0 ≤ (t165 : Int) := of_decide_eq_true (by first | (with_reducible assumption) | assumption)
                                              have q177 : t165 < (l0.length : Int) := of_decide_eq_true (by first | (with_reducible assumption) | assumption)
                                              obtain ⟨ad177, e177, hx177_0, hx177_1, hx177_2⟩ := at_T30 HR0.out t165 p177 q177
                                              obtain rfl : ad170 = ad177 := (by injection e177)
                                              replace hx177_0 := (HB.out.cell (World.block_lt_of_cell? w _ hx177_0)).trans hx177_0
                                              replace hx177_1 := (HB.out.cell (World.block_lt_of_cell? w _ hx177_1)).trans hx177_1
                                              replace hx177_2 := (HB.out.cell (World.block_lt_of_cell? w _ hx177_2)).trans hx177_2
                                              replace p177 := eq_true p177
                                              replace q177 := eq_true q177
                                              go_wp2_with (first | (go_at_call 8; (with_reducible refine (quillworklaw05_awake.calls k3  t178 _ A58.out).mono ?_); rintro e w59 ⟨rfl, hb⟩; have n0_ := Aside0.mk (below_step (by repeat (first | (with_reducible first | exact HB.out | apply below_alloc | apply pw_below_drewN | apply below_drew1) | exact HB.out)) hb); clear HB; have HB := n0_; clear n0_; (try clear hb); (try clear hb2); (try clear hk); (try clear hi)))
                                              go_ret
                                              exact ⟨by first | rfl | (simp [errW_none, errW_some] <;> rfl) | (simp only [← hji8, ← hji9, ← hji48]; first | rfl | (simp [errW_none, errW_some] <;> rfl)) | (simp [*, errW_none, errW_some] <;> rfl), by repeat (first | (with_reducible first | exact HB.out | apply below_alloc | apply pw_below_drewN | apply below_drew1) | exact HB.out)⟩
                                          · rw [if_neg c56] at H
                                            exact absurd H (by simp)
                                        · rw [if_neg c55] at H
                                          exact absurd H (by simp)
                                  · rw [if_neg c50] at H
                                    exact absurd H (by simp)
                                · rw [if_neg c49] at H
                                  exact absurd H (by simp)
                          · replace c37 := Bool.eq_false_iff.mpr c37
                            subst c37
                            have H1 : (some false) = some r := by rw [if_neg (show ¬ (false = true) by decide)] at H; exact H
                            clear H
                            have H := H1
                            clear H1
                            obtain rfl := Option.some.inj H
                            go_wp2
                            go_ret
                            exact ⟨by first | rfl | (simp [errW_none, errW_some] <;> rfl) | (simp only [← hji8, ← hji9]; first | rfl | (simp [errW_none, errW_some] <;> rfl)) | (simp [*, errW_none, errW_some] <;> rfl), by repeat (first | (with_reducible first | exact HB.out | apply below_alloc | apply pw_below_drewN | apply below_drew1) | exact HB.out)⟩
                  · rw [if_neg c32] at H
                    exact absurd H (by simp)
                · rw [if_neg c31] at H
                  exact absurd H (by simp)

end Go.Proofs.Ytgdpknmffohhaaa.Pr
