/- Printed texts, and given ones, of the seat's functions, in one file. -/
import Derived.Test.YtgdpknmffohhaaaDoorM0
import Derived.Test.YtgdpknmffohhaaaDoorM1
import Derived.Test.YtgdpknmffohhaaaDoorM2
namespace Go.Proofs.YtgdpknmffohhaaaDoor.Pl
open Go.RowKit Go.Proofs.YtgdpknmffohhaaaDoorW.PrintWords Go.Proofs.YtgdpknmffohhaaaDoorW.PrintLast Go.Proofs.YtgdpknmffohhaaaDoorW.PrintMore
attribute [local go_sem] max2_int min2_int max_two min_two max_three min_three max_four min_four   -- for this text's walks alone
set_option linter.unusedVariables false
set_option linter.unusedSimpArgs false

/-! ### quillworkref06_List: function 47 -/
def quillworkref06_List.j0 : Nat → Int → Bool → Int → List Int → Int → List (S71) → Option (Int × List Int × Int × (List (S71)) × Int)
  | 0, _, _, _, _, _, _ => none
  | k + 1, x1, x18, x376000, x376001, x376002, x376003 => if x18 = true then (some (0, ([] : List Int), 0, ([] : List (S71)), 1)) else ((quillworkref06_Own.f x376000 x376001 x376002 x376003).bind fun bt379 => (if (x376001.length : Int) = 0 then (some (bt379.1, (([x1] : List Int)), 0, bt379.2.2.2, 0)) else (if 0 ≤ (wrap64 ((x376001.length : Int) - 1)) then (if (wrap64 ((x376001.length : Int) - 1)) < (x376001.length : Int) then (if (rd x376001 (wrap64 ((x376001.length : Int) - 1))) = x1 then (some (0, ([] : List Int), 0, ([] : List (S71)), 7)) else (if (wrap64 ((x376001.length : Int) - 1)) < (bt379.2.1.length : Int) then (some (bt379.1, (bt379.2.1.set ((wrap64 ((x376001.length : Int) - 1)) : Int).toNat x1), bt379.2.2.1, bt379.2.2.2, 0)) else (none))) else (none)) else (none))))
def quillworkref06_List.f (k : Nat) (a0_0 : Int) (l0_1 : List Int) (a0_2 : Int) (l0_3 : List (S71)) (a1 : Int) : Option (Int × List Int × Int × (List (S71)) × Int) := if a1 = 0 then ((quillworkref06_May.f k a0_0 l0_1 a0_2 l0_3).bind fun t377 => (quillworkref06_List.j0 k a1 (!t377) a0_0 l0_1 a0_2 l0_3)) else (if a1 = 1 then ((quillworkref06_May.f k a0_0 l0_1 a0_2 l0_3).bind fun t378 => (quillworkref06_List.j0 k a1 (!t378) a0_0 l0_1 a0_2 l0_3)) else (quillworkref06_List.j0 k a1 true a0_0 l0_1 a0_2 l0_3))
set_option maxHeartbeats 8000000 in
set_option maxRecDepth 100000 in
theorem quillworkref06_List.calls (k : Nat) (a0_0 : Int) (A0_1 : Option Addr) (c0_1 : Nat) (l0_1 : List Int) (a0_2 : Int) (A0_3 : Option Addr) (c0_3 : Nat) (l0_3 : List (S71)) (a1 : Int) (r1 : Int) (r2 : List Int) (r3 : Int) (r4 : List (S71)) (r5 : Int) (w : World) (hr0_1 : Kd.C (Kd.int .i64) w A0_1 l0_1.length l0_1) (hc0_1 : l0_1.length ≤ c0_1) (hr0_3 : Kd.C k71 w A0_3 l0_3.length l0_3) (hc0_3 : l0_3.length ≤ c0_3) (h : quillworkref06_List.f k a0_0 l0_1 a0_2 l0_3 a1 = some (r1, r2, r3, r4, r5)) :
    Calls Tryd.prog 47 #[.agg #[.int .i64 a0_0, .slice A0_1 l0_1.length c0_1, .int .i64 a0_2, .slice A0_3 l0_3.length c0_3], .int .i64 a1] w fun e w' => ∃ v1_ v3_ : Value, e = .returned (.tuple #[.agg #[.int .i64 r1, v1_, .int .i64 r3, v3_], .int .i64 r5]) ∧ Kd.R (Kd.int .i64) 3 w' w.heap.size (fun _ => True) v1_ r2 ∧ Kd.R k71 71 w' w.heap.size (fun _ => True) v3_ r4 ∧ Below w.heap.size w w' := by
  have hu38 := Tryd.underlying38
  have HR0_1 := Aside0.mk hr0_1
  have HC0_1 := Aside0.mk hc0_1
  clear hr0_1 hc0_1
  have HR0_3 := Aside0.mk hr0_3
  have HC0_3 := Aside0.mk hc0_3
  clear hr0_3 hc0_3
  have HB := Aside0.mk (Below.refl w.heap.size w)
  have H : (if a1 = 0 then ((quillworkref06_May.f k a0_0 l0_1 a0_2 l0_3).bind fun t377 => (quillworkref06_List.j0 k a1 (!t377) a0_0 l0_1 a0_2 l0_3)) else (if a1 = 1 then ((quillworkref06_May.f k a0_0 l0_1 a0_2 l0_3).bind fun t378 => (quillworkref06_List.j0 k a1 (!t378) a0_0 l0_1 a0_2 l0_3)) else (quillworkref06_List.j0 k a1 true a0_0 l0_1 a0_2 l0_3))) = some (r1, r2, r3, r4, r5) := h
  clear h
  have HC3 := Aside0.mk H
  clear H
  go_enter Tryd.func47, Tryd.ntmps47
  go_upto_region 1 with (first | ((with_reducible refine gate_dst (N := 2) rfl ?_); refine box_event ?hg (N := 2) ?hd (cs := #[.int .i64 a0_0, .slice A0_1 l0_1.length c0_1, .int .i64 a0_2, .slice A0_3 l0_3.length c0_3]) (t := 38) ?hr ?_; (case hd => rfl); (case hg => rfl); (case hr => first | (go_simp; done) | (go_simp; rfl)); intro gb375 hg w4 hbox hb; have n0_ := Aside0.mk (below_step (by repeat (first | (with_reducible first | exact HB.out | apply below_alloc | apply pw_below_drewN | apply below_drew1) | exact HB.out)) hb); have n1_ := Aside0.mk (hbox); have n2_ := Aside0.mk ((by rw [hg]; exact (below_size (by repeat (first | (with_reducible first | exact HB.out | apply below_alloc | apply pw_below_drewN | apply below_drew1) | exact HB.out))) : w.heap.size ≤ gb375)); have n3_ := Aside0.mk ((by rw [hg]; exact (below_size (by repeat (first | (with_reducible first | exact HB.out | apply below_alloc | apply pw_below_drewN | apply below_drew1) | exact HB.out))) : w.heap.size ≤ gb375)); clear HB; have HB := n0_; have BK375 := n1_; have GW375 := n2_; have GE375 := n3_; clear n0_ n1_ n2_ n3_; clear hb hbox hg) | ((with_reducible refine gate_dst (N := 4) rfl ?_); refine box_event ?hg (N := 4) ?hd (cs := #[.int .i64 0, .slice none 0 0, .int .i64 0, .slice none 0 0]) (t := 38) ?hr ?_; (case hd => rfl); (case hg => rfl); (case hr => first | (go_simp; done) | (go_simp; rfl)); intro gb376 hg w5 hbox hb; have n0_ := Aside0.mk (blk_below (g := gb375) (o := .cells #[.int .i64 a0_0, .slice A0_1 l0_1.length c0_1, .int .i64 a0_2, .slice A0_3 l0_3.length c0_3] 38 (0, 0)) (by (with_reducible repeat (first | refine blk_drewN ?_ _ | refine blk_drew ?_ | refine blk_alloc ?_ _)); exact BK375.out) hb); have n1_ := Aside0.mk (below_step (by repeat (first | (with_reducible first | exact HB.out | apply below_alloc | apply pw_below_drewN | apply below_drew1 | refine below_set ?_ GE375.out) | exact HB.out)) hb); have n2_ := Aside0.mk (hbox); have n3_ := Aside0.mk ((by rw [hg]; exact (below_size (by repeat (first | (with_reducible first | exact HB.out | apply below_alloc | apply pw_below_drewN | apply below_drew1 | refine below_set ?_ GE375.out) | exact HB.out))) : w.heap.size ≤ gb376)); have n4_ := Aside0.mk ((by rw [hg]; exact (below_size (by repeat (first | (with_reducible first | exact HB.out | apply below_alloc | apply pw_below_drewN | apply below_drew1 | refine below_set ?_ GE375.out) | exact HB.out))) : w.heap.size ≤ gb376)); have n5_ := Aside0.mk ((by rw [hg]; exact Nat.ne_of_lt (blk_lt (g := gb375) (o := .cells #[.int .i64 a0_0, .slice A0_1 l0_1.length c0_1, .int .i64 a0_2, .slice A0_3 l0_3.length c0_3] 38 (0, 0)) (by (with_reducible repeat (first | refine blk_drewN ?_ _ | refine blk_drew ?_ | refine blk_alloc ?_ _)); exact BK375.out)) : gb375 ≠ gb376)); have n6_ := Aside0.mk ((by rw [hg]; exact Nat.ne_of_gt (blk_lt (g := gb375) (o := .cells #[.int .i64 a0_0, .slice A0_1 l0_1.length c0_1, .int .i64 a0_2, .slice A0_3 l0_3.length c0_3] 38 (0, 0)) (by (with_reducible repeat (first | refine blk_drewN ?_ _ | refine blk_drew ?_ | refine blk_alloc ?_ _)); exact BK375.out)) : gb376 ≠ gb375)); clear BK375; clear HB; have BK375 := n0_; have HB := n1_; have BK376 := n2_; have GW376 := n3_; have GE376 := n4_; have NB375_376 := n5_; have NB376_375 := n6_; clear n0_ n1_ n2_ n3_ n4_ n5_ n6_; clear hb hbox hg))
  (try simp only [Act.put, List.setIfInBounds_toArray, List.set_cons_zero, List.set_cons_succ])
  go_cut [18] (fun v18 wc => ∃ (kq : Nat) (x18_2 : Bool), v18 = .bool x18_2 ∧ Aside0 (quillworkref06_List.j0 kq a1 x18_2 a0_0 l0_1 a0_2 l0_3 = some (r1, r2, r3, r4, r5)) ∧ Aside0 (kq ≤ k) ∧ Aside0 (wc.heap[gb375]? = some (.cells #[.int .i64 a0_0, (.slice A0_1 l0_1.length c0_1), .int .i64 a0_2, (.slice A0_3 l0_3.length c0_3)] 38 (0, 0))) ∧ Aside0 (wc.heap[gb376]? = some (.cells #[.int .i64 0, (.slice none 0 0), .int .i64 0, (.slice none 0 0)] 38 (0, 0))) ∧ Aside0 (Below w.heap.size w wc))
  case first =>
    have H := HC3.out
    clear HC3
    by_cases c6 : a1 = 0
    · rw [if_pos c6] at H
      have c6b0 : (a1 == 0) = true := beq_iff_eq.mpr c6
      have c6b1 : (a1 != 0) = false := bne_eq_false_iff_eq.mpr c6
      clear c6
      (first | rw [c6b0] | (simp only [i64_w, i32_w]; rw [c6b0]) | skip)
      replace H := Option.bind_eq_some_iff.mp H
      obtain ⟨t377, A70, H⟩ := H
      replace H : (quillworkref06_List.j0 k a1 (!t377) a0_0 l0_1 a0_2 l0_3) = some (r1, r2, r3, r4, r5) := H
      have A7 := Aside0.mk A70
      clear A70
      have H' := Aside0.mk H
      clear H
      have hnb8 := NB375_376.out
      have hnc8 := NB376_375.out
      have hcz9_0 : w5.cell? ⟨gb375, 0, none⟩ = some (.int .i64 a0_0) := (blk_cell BK375.out 0).trans rfl
      have hcz9_1 : w5.cell? ⟨gb375, 1, none⟩ = some (.slice A0_1 l0_1.length c0_1) := (blk_cell BK375.out 1).trans rfl
      have hcz9_2 : w5.cell? ⟨gb375, 2, none⟩ = some (.int .i64 a0_2) := (blk_cell BK375.out 2).trans rfl
      have hcz9_3 : w5.cell? ⟨gb375, 3, none⟩ = some (.slice A0_3 l0_3.length c0_3) := (blk_cell BK375.out 3).trans rfl
      have hfz9_0 := blk_frozen BK375.out 0
      have hfz9_1 := blk_frozen BK375.out 1
      have hfz9_2 := blk_frozen BK375.out 2
      have hfz9_3 := blk_frozen BK375.out 3
      go_wp2_with (first | (go_at_call 38; (with_reducible refine (quillworkref06_May.calls k a0_0 _ _ l0_1 a0_2 _ _ l0_3 t377 _ ?side1 ?side2 ?side3 ?side4 A7.out).mono ?_); (case side1 => repeat (first | exact (Kd.C_below HR0_1.out HB.out) | (with_reducible refine Kd.C_alloc ?_ _) | (with_reducible refine Kd.C_drewN ?_ _) | (with_reducible refine Kd.C_drew ?_))); (case side2 => exact HC0_1.out); (case side3 => repeat (first | exact (Kd.C_below HR0_3.out HB.out) | (with_reducible refine Kd.C_alloc ?_ _) | (with_reducible refine Kd.C_drewN ?_ _) | (with_reducible refine Kd.C_drew ?_))); (case side4 => exact HC0_3.out); rintro e w10 ⟨rfl, hb⟩; have n0_ := Aside0.mk (blk_below (g := gb375) (o := .cells #[.int .i64 a0_0, .slice A0_1 l0_1.length c0_1, .int .i64 a0_2, .slice A0_3 l0_3.length c0_3] 38 (0, 0)) (by (with_reducible repeat (first | refine blk_drewN ?_ _ | refine blk_drew ?_ | refine blk_alloc ?_ _)); exact BK375.out) hb); have n1_ := Aside0.mk (blk_below (g := gb376) (o := .cells #[.int .i64 0, .slice none 0 0, .int .i64 0, .slice none 0 0] 38 (0, 0)) (by (with_reducible repeat (first | refine blk_drewN ?_ _ | refine blk_drew ?_ | refine blk_alloc ?_ _)); exact BK376.out) hb); have n2_ := Aside0.mk (below_step (by repeat (first | (with_reducible first | exact HB.out | apply below_alloc | apply pw_below_drewN | apply below_drew1 | refine below_set ?_ GE375.out | refine below_set ?_ GE376.out) | exact HB.out)) hb); clear BK375; clear BK376; clear HB; have BK375 := n0_; have BK376 := n1_; have HB := n2_; clear n0_ n1_ n2_; (try clear hb); (try clear hb2); (try clear hk); (try clear hi)))
      go_meet
      case rel => exact ⟨_, (!t377), (by first | rfl | (simp; done) | (simp [*]; done)), H', ⟨by first | omega | exact Nat.le_refl _⟩, ⟨by (with_reducible repeat (first | refine blk_drewN ?_ _ | refine blk_drew ?_ | refine blk_alloc ?_ _)); exact BK375.out⟩, ⟨by (with_reducible repeat (first | refine blk_drewN ?_ _ | refine blk_drew ?_ | refine blk_alloc ?_ _)); exact BK376.out⟩, ⟨by repeat (first | (with_reducible first | exact HB.out | apply below_alloc | apply pw_below_drewN | apply below_drew1 | refine below_set ?_ GE375.out | refine below_set ?_ GE376.out) | exact HB.out)⟩⟩
    · rw [if_neg c6] at H
      have c6b0 : (a1 == 0) = false := beq_eq_false_iff_ne.mpr c6
      have c6b1 : (a1 != 0) = true := bne_iff_ne.mpr c6
      (first | rw [c6b0] | (simp only [i64_w, i32_w]; rw [c6b0]) | skip)
      by_cases c11 : a1 = 1
      · rw [if_pos c11] at H
        have c11b0 : (a1 == 1) = true := beq_iff_eq.mpr c11
        have c11b1 : (a1 != 1) = false := bne_eq_false_iff_eq.mpr c11
        clear c11
        replace H := Option.bind_eq_some_iff.mp H
        obtain ⟨t378, A120, H⟩ := H
        replace H : (quillworkref06_List.j0 k a1 (!t378) a0_0 l0_1 a0_2 l0_3) = some (r1, r2, r3, r4, r5) := H
        have A12 := Aside0.mk A120
        clear A120
        have H' := Aside0.mk H
        clear H
        have hnb13 := NB375_376.out
        have hnc13 := NB376_375.out
        have hcz14_0 : w5.cell? ⟨gb375, 0, none⟩ = some (.int .i64 a0_0) := (blk_cell BK375.out 0).trans rfl
        have hcz14_1 : w5.cell? ⟨gb375, 1, none⟩ = some (.slice A0_1 l0_1.length c0_1) := (blk_cell BK375.out 1).trans rfl
        have hcz14_2 : w5.cell? ⟨gb375, 2, none⟩ = some (.int .i64 a0_2) := (blk_cell BK375.out 2).trans rfl
        have hcz14_3 : w5.cell? ⟨gb375, 3, none⟩ = some (.slice A0_3 l0_3.length c0_3) := (blk_cell BK375.out 3).trans rfl
        have hfz14_0 := blk_frozen BK375.out 0
        have hfz14_1 := blk_frozen BK375.out 1
        have hfz14_2 := blk_frozen BK375.out 2
        have hfz14_3 := blk_frozen BK375.out 3
        go_wp2_with (first | (go_at_call 38; (with_reducible refine (quillworkref06_May.calls k a0_0 _ _ l0_1 a0_2 _ _ l0_3 t378 _ ?side1 ?side2 ?side3 ?side4 A12.out).mono ?_); (case side1 => repeat (first | exact (Kd.C_below HR0_1.out HB.out) | (with_reducible refine Kd.C_alloc ?_ _) | (with_reducible refine Kd.C_drewN ?_ _) | (with_reducible refine Kd.C_drew ?_))); (case side2 => exact HC0_1.out); (case side3 => repeat (first | exact (Kd.C_below HR0_3.out HB.out) | (with_reducible refine Kd.C_alloc ?_ _) | (with_reducible refine Kd.C_drewN ?_ _) | (with_reducible refine Kd.C_drew ?_))); (case side4 => exact HC0_3.out); rintro e w15 ⟨rfl, hb⟩; have n0_ := Aside0.mk (blk_below (g := gb375) (o := .cells #[.int .i64 a0_0, .slice A0_1 l0_1.length c0_1, .int .i64 a0_2, .slice A0_3 l0_3.length c0_3] 38 (0, 0)) (by (with_reducible repeat (first | refine blk_drewN ?_ _ | refine blk_drew ?_ | refine blk_alloc ?_ _)); exact BK375.out) hb); have n1_ := Aside0.mk (blk_below (g := gb376) (o := .cells #[.int .i64 0, .slice none 0 0, .int .i64 0, .slice none 0 0] 38 (0, 0)) (by (with_reducible repeat (first | refine blk_drewN ?_ _ | refine blk_drew ?_ | refine blk_alloc ?_ _)); exact BK376.out) hb); have n2_ := Aside0.mk (below_step (by repeat (first | (with_reducible first | exact HB.out | apply below_alloc | apply pw_below_drewN | apply below_drew1 | refine below_set ?_ GE375.out | refine below_set ?_ GE376.out) | exact HB.out)) hb); clear BK375; clear BK376; clear HB; have BK375 := n0_; have BK376 := n1_; have HB := n2_; clear n0_ n1_ n2_; (try clear hb); (try clear hb2); (try clear hk); (try clear hi)))
        go_meet
        case rel => exact ⟨_, (!t378), (by first | rfl | (simp; done) | (simp [*]; done)), H', ⟨by first | omega | exact Nat.le_refl _⟩, ⟨by (with_reducible repeat (first | refine blk_drewN ?_ _ | refine blk_drew ?_ | refine blk_alloc ?_ _)); exact BK375.out⟩, ⟨by (with_reducible repeat (first | refine blk_drewN ?_ _ | refine blk_drew ?_ | refine blk_alloc ?_ _)); exact BK376.out⟩, ⟨by repeat (first | (with_reducible first | exact HB.out | apply below_alloc | apply pw_below_drewN | apply below_drew1 | refine below_set ?_ GE375.out | refine below_set ?_ GE376.out) | exact HB.out)⟩⟩
      · rw [if_neg c11] at H
        have c11b0 : (a1 == 1) = false := beq_eq_false_iff_ne.mpr c11
        have c11b1 : (a1 != 1) = true := bne_iff_ne.mpr c11
        have H' := Aside0.mk H
        clear H
        go_wp2
        go_meet
        case rel => exact ⟨_, (true), (by first | rfl | (simp; done) | (simp [*]; done)), H', ⟨by first | omega | exact Nat.le_refl _⟩, ⟨by (with_reducible repeat (first | refine blk_drewN ?_ _ | refine blk_drew ?_ | refine blk_alloc ?_ _)); exact BK375.out⟩, ⟨by (with_reducible repeat (first | refine blk_drewN ?_ _ | refine blk_drew ?_ | refine blk_alloc ?_ _)); exact BK376.out⟩, ⟨by repeat (first | (with_reducible first | exact HB.out | apply below_alloc | apply pw_below_drewN | apply below_drew1 | refine below_set ?_ GE375.out | refine below_set ?_ GE376.out) | exact HB.out)⟩⟩
  case rest =>
    clear HC3
    try clear c1
    try clear p2
    try clear c4
    try clear c6
    try clear c6b0
    try clear c6b1
    try clear c8
    try clear c11
    try clear c11b0
    try clear c11b1
    try clear c13
    try clear hcz14_0
    try clear hcz14_1
    try clear hcz14_2
    try clear hcz14_3
    try clear hcz9_0
    try clear hcz9_1
    try clear hcz9_2
    try clear hcz9_3
    try clear hfz14_0
    try clear hfz14_1
    try clear hfz14_2
    try clear hfz14_3
    try clear hfz9_0
    try clear hfz9_1
    try clear hfz9_2
    try clear hfz9_3
    obtain ⟨kq, x18_2, rfl, HA, HJ2, BK375, BK376, HB⟩ := hcut
    cases kq with
    | zero => exact absurd HA.out (by simp [quillworkref06_List.j0])
    | succ kj2 =>
      have H := HA.out
      clear HA
      simp only [quillworkref06_List.j0] at H
      by_cases c16 : x18_2 = true
      · subst c16
        have H1 : (some (0, ([] : List Int), 0, ([] : List (S71)), 1)) = some (r1, r2, r3, r4, r5) := by rw [if_pos rfl] at H; exact H
        clear H
        have H := H1
        clear H1
        simp only [Option.some.injEq, Prod.mk.injEq] at H
        obtain ⟨rfl, rfl, rfl, rfl, rfl⟩ := H
        have hnb17 := NB376_375.out
        have hnc17 := NB375_376.out
        have hcz18_0 : wc.cell? ⟨gb376, 0, none⟩ = some (.int .i64 0) := (blk_cell BK376.out 0).trans rfl
        have hcz18_1 : wc.cell? ⟨gb376, 1, none⟩ = some (.slice none 0 0) := (blk_cell BK376.out 1).trans rfl
        have hcz18_2 : wc.cell? ⟨gb376, 2, none⟩ = some (.int .i64 0) := (blk_cell BK376.out 2).trans rfl
        have hcz18_3 : wc.cell? ⟨gb376, 3, none⟩ = some (.slice none 0 0) := (blk_cell BK376.out 3).trans rfl
        have hfz18_0 := blk_frozen BK376.out 0
        have hfz18_1 := blk_frozen BK376.out 1
        have hfz18_2 := blk_frozen BK376.out 2
        have hfz18_3 := blk_frozen BK376.out 3
        go_wp2
        refine bodyPost_ret (results_ct rfl _ _ gb376 38 #[.int .i64 0, .slice none 0 0, .int .i64 0, .slice none 0 0] (0, 0) _ rfl (by (with_reducible repeat (first | refine blk_drewN ?_ _ | refine blk_drew ?_ | refine blk_alloc ?_ _)); refine blk_put (cs := #[.int .i64 0, .slice none 0 0, .int .i64 0, .slice none 0 0]) ?_ 3 _ rfl; (with_reducible repeat (first | refine blk_drewN ?_ _ | refine blk_drew ?_ | refine blk_alloc ?_ _)); refine blk_put (cs := #[.int .i64 0, .slice none 0 0, .int .i64 0, .slice none 0 0]) ?_ 2 _ rfl; (with_reducible repeat (first | refine blk_drewN ?_ _ | refine blk_drew ?_ | refine blk_alloc ?_ _)); refine blk_put (cs := #[.int .i64 0, .slice none 0 0, .int .i64 0, .slice none 0 0]) ?_ 1 _ rfl; (with_reducible repeat (first | refine blk_drewN ?_ _ | refine blk_drew ?_ | refine blk_alloc ?_ _)); refine blk_put (cs := #[.int .i64 0, .slice none 0 0, .int .i64 0, .slice none 0 0]) ?_ 0 _ rfl; (with_reducible repeat (first | refine blk_drewN ?_ _ | refine blk_drew ?_ | refine blk_alloc ?_ _)); exact BK376.out) Tryd.underlying38 rfl (by kernel_rfl)) rfl ?_
        exact ⟨_, _, by first | rfl | (simp [errW_none, errW_some] <;> rfl) | (simp [*, errW_none, errW_some] <;> rfl), by first | exact Kd.R_nil _ _ _ _ _ | exact Kd.N_nil _ _ _ _ _ | exact Kd.V_nil _ _ _ _ _ | exact Kd.Q_nil _ _ _ _ _ | exact Kd.S_nil _ _ _ _ _, by first | exact Kd.R_nil _ _ _ _ _ | exact Kd.N_nil _ _ _ _ _ | exact Kd.V_nil _ _ _ _ _ | exact Kd.Q_nil _ _ _ _ _ | exact Kd.S_nil _ _ _ _ _, by repeat (first | (with_reducible first | exact HB.out | apply below_alloc | apply pw_below_drewN | apply below_drew1 | refine below_set ?_ GE375.out | refine below_set ?_ GE376.out) | exact HB.out)⟩
      · replace c16 := Bool.eq_false_iff.mpr c16
        subst c16
        have H1 : ((quillworkref06_Own.f a0_0 l0_1 a0_2 l0_3).bind fun bt379 => (if (l0_1.length : Int) = 0 then (some (bt379.1, (([a1] : List Int)), 0, bt379.2.2.2, 0)) else (if 0 ≤ (wrap64 ((l0_1.length : Int) - 1)) then (if (wrap64 ((l0_1.length : Int) - 1)) < (l0_1.length : Int) then (if (rd l0_1 (wrap64 ((l0_1.length : Int) - 1))) = a1 then (some (0, ([] : List Int), 0, ([] : List (S71)), 7)) else (if (wrap64 ((l0_1.length : Int) - 1)) < (bt379.2.1.length : Int) then (some (bt379.1, (bt379.2.1.set ((wrap64 ((l0_1.length : Int) - 1)) : Int).toNat a1), bt379.2.2.1, bt379.2.2.2, 0)) else (none))) else (none)) else (none)))) = some (r1, r2, r3, r4, r5) := by rw [if_neg (show ¬ (false = true) by decide)] at H; exact H
        clear H
        have H := H1
        clear H1
        replace H := Option.bind_eq_some_iff.mp H
        obtain ⟨⟨t379, t380, t383, t384⟩, A190, H⟩ := H
        replace H : (if (l0_1.length : Int) = 0 then (some (t379, (([a1] : List Int)), 0, t384, 0)) else (if 0 ≤ (wrap64 ((l0_1.length : Int) - 1)) then (if (wrap64 ((l0_1.length : Int) - 1)) < (l0_1.length : Int) then (if (rd l0_1 (wrap64 ((l0_1.length : Int) - 1))) = a1 then (some (0, ([] : List Int), 0, ([] : List (S71)), 7)) else (if (wrap64 ((l0_1.length : Int) - 1)) < (t380.length : Int) then (some (t379, (t380.set ((wrap64 ((l0_1.length : Int) - 1)) : Int).toNat a1), t383, t384, 0)) else (none))) else (none)) else (none))) = some (r1, r2, r3, r4, r5) := H
        have A19 := Aside0.mk A190
        clear A190
        by_cases c20 : (l0_1.length : Int) = 0
        · rw [if_pos c20] at H
          have c20b0 : ((l0_1.length : Int) == 0) = true := beq_iff_eq.mpr c20
          have c20b1 : ((l0_1.length : Int) != 0) = false := bne_eq_false_iff_eq.mpr c20
          clear c20
          obtain ⟨y388, hy388⟩ : ∃ y_ : List Int, y_ = (([a1] : List Int)) := ⟨_, rfl⟩
          replace H : (some (t379, y388, 0, t384, 0)) = some (r1, r2, r3, r4, r5) := by first | (rw [hy388]; with_reducible exact H) | (have H2_ := (Option.bind_some _ _).symm.trans H; rw [hy388]; with_reducible exact H2_) | (have H2_ := (Option.bind_some _ _).symm.trans H; with_reducible exact H2_) | with_reducible exact H | (rw [hy388]; exact H) | exact H
          have Ny388 := Aside0.mk hy388
          clear hy388
          simp only [Option.some.injEq, Prod.mk.injEq] at H
          obtain ⟨rfl, rfl, rfl, rfl, rfl⟩ := H
          have hnb21 := NB375_376.out
          have hnc21 := NB376_375.out
          have hcz22_0 : wc.cell? ⟨gb375, 0, none⟩ = some (.int .i64 a0_0) := (blk_cell BK375.out 0).trans rfl
          have hcz22_1 : wc.cell? ⟨gb375, 1, none⟩ = some (.slice A0_1 l0_1.length c0_1) := (blk_cell BK375.out 1).trans rfl
          have hcz22_2 : wc.cell? ⟨gb375, 2, none⟩ = some (.int .i64 a0_2) := (blk_cell BK375.out 2).trans rfl
          have hcz22_3 : wc.cell? ⟨gb375, 3, none⟩ = some (.slice A0_3 l0_3.length c0_3) := (blk_cell BK375.out 3).trans rfl
          have hfz22_0 := blk_frozen BK375.out 0
          have hfz22_1 := blk_frozen BK375.out 1
          have hfz22_2 := blk_frozen BK375.out 2
          have hfz22_3 := blk_frozen BK375.out 3
          go_wp2_with (first | ((with_reducible refine gate_callee (f := 26) rfl ?_); refine goesL_ (some 21) rfl rfl Tryd.func26 (by kernel_rfl) rfl #[.agg #[.int .i64 a0_0, .slice A0_1 l0_1.length c0_1, .int .i64 a0_2, .slice A0_3 l0_3.length c0_3]] rfl (by (try simp only [List.map_toArray, List.map_cons, List.map_nil]); first | done | rfl | (simp only [List.length_drop, List.length_take]; rfl)) ?_; (with_reducible refine (quillworkref06_Own.calls a0_0 _ _ l0_1 a0_2 _ _ l0_3 t379 t380 t383 t384 _ ?side1 ?side2 ?side3 ?side4 A19.out).mono ?_); (case side1 => repeat (first | exact (Kd.C_below HR0_1.out HB.out) | (with_reducible refine Kd.C_alloc ?_ _) | (with_reducible refine Kd.C_drewN ?_ _) | (with_reducible refine Kd.C_drew ?_))); (case side2 => exact HC0_1.out); (case side3 => repeat (first | exact (Kd.C_below HR0_3.out HB.out) | (with_reducible refine Kd.C_alloc ?_ _) | (with_reducible refine Kd.C_drewN ?_ _) | (with_reducible refine Kd.C_drew ?_))); (case side4 => exact HC0_3.out); rintro e w23 ⟨v381, v385, rfl, ho0, ho1, hb⟩; refine ⟨_, rfl, ?_⟩; have n0_ := Aside0.mk (Kd.R_lower ho0 (below_size (by repeat (first | (with_reducible first | exact HB.out | apply below_alloc | apply pw_below_drewN | apply below_drew1 | refine below_set ?_ GE375.out | refine below_set ?_ GE376.out) | exact HB.out)))); have n1_ := Aside0.mk (Kd.R_lower ho1 (below_size (by repeat (first | (with_reducible first | exact HB.out | apply below_alloc | apply pw_below_drewN | apply below_drew1 | refine below_set ?_ GE375.out | refine below_set ?_ GE376.out) | exact HB.out)))); have n2_ := Aside0.mk (blk_below (g := gb375) (o := .cells #[.int .i64 a0_0, .slice A0_1 l0_1.length c0_1, .int .i64 a0_2, .slice A0_3 l0_3.length c0_3] 38 (0, 0)) (by (with_reducible repeat (first | refine blk_drewN ?_ _ | refine blk_drew ?_ | refine blk_alloc ?_ _)); exact BK375.out) hb); have n3_ := Aside0.mk (blk_below (g := gb376) (o := .cells #[.int .i64 0, .slice none 0 0, .int .i64 0, .slice none 0 0] 38 (0, 0)) (by (with_reducible repeat (first | refine blk_drewN ?_ _ | refine blk_drew ?_ | refine blk_alloc ?_ _)); exact BK376.out) hb); have n4_ := Aside0.mk (below_step (by repeat (first | (with_reducible first | exact HB.out | apply below_alloc | apply pw_below_drewN | apply below_drew1 | refine below_set ?_ GE375.out | refine below_set ?_ GE376.out) | exact HB.out)) hb); clear BK375; clear BK376; clear HB; have HO382 := n0_; have HO386 := n1_; have BK375 := n2_; have BK376 := n3_; have HB := n4_; clear n0_ n1_ n2_ n3_ n4_; (try clear hb); (try clear hb2); (try clear hk); (try clear hi); (try clear ho0); (try clear ho1)) | ((with_reducible refine gate_dst (N := 6) rfl ?_); refine box_event ?hg (N := 6) ?hd (cs := #[.int .i64 0, .slice none 0 0, .int .i64 0, .slice none 0 0]) (t := 38) ?hr ?_; (case hd => rfl); (case hg => rfl); (case hr => first | (go_simp; done) | (go_simp; rfl)); intro gb387 hg w24 hbox hb; have n0_ := Aside0.mk (Kd.R_below (by (with_reducible repeat (first | apply Kd.R_alloc | apply Kd.R_drewN | apply Kd.R_drew)); exact HO382.out) hb); have n1_ := Aside0.mk (Kd.R_below (by (with_reducible repeat (first | apply Kd.R_alloc | apply Kd.R_drewN | apply Kd.R_drew)); exact HO386.out) hb); have n2_ := Aside0.mk (blk_below (g := gb375) (o := .cells #[.int .i64 a0_0, .slice A0_1 l0_1.length c0_1, .int .i64 a0_2, .slice A0_3 l0_3.length c0_3] 38 (0, 0)) (by (with_reducible repeat (first | refine blk_drewN ?_ _ | refine blk_drew ?_ | refine blk_alloc ?_ _)); exact BK375.out) hb); have n3_ := Aside0.mk (blk_below (g := gb376) (o := .cells #[.int .i64 0, .slice none 0 0, .int .i64 0, .slice none 0 0] 38 (0, 0)) (by (with_reducible repeat (first | refine blk_drewN ?_ _ | refine blk_drew ?_ | refine blk_alloc ?_ _)); exact BK376.out) hb); have n4_ := Aside0.mk (below_step (by repeat (first | (with_reducible first | exact HB.out | apply below_alloc | apply pw_below_drewN | apply below_drew1 | refine below_set ?_ GE375.out | refine below_set ?_ GE376.out) | exact HB.out)) hb); have n5_ := Aside0.mk (hbox); have n6_ := Aside0.mk ((by rw [hg]; exact (below_size (by repeat (first | (with_reducible first | exact HB.out | apply below_alloc | apply pw_below_drewN | apply below_drew1 | refine below_set ?_ GE375.out | refine below_set ?_ GE376.out) | exact HB.out))) : w.heap.size ≤ gb387)); have n7_ := Aside0.mk ((by rw [hg]; exact (below_size (by repeat (first | (with_reducible first | exact HB.out | apply below_alloc | apply pw_below_drewN | apply below_drew1 | refine below_set ?_ GE375.out | refine below_set ?_ GE376.out) | exact HB.out))) : w.heap.size ≤ gb387)); have n8_ := Aside0.mk ((by rw [hg]; exact Nat.ne_of_lt (blk_lt (g := gb375) (o := .cells #[.int .i64 a0_0, .slice A0_1 l0_1.length c0_1, .int .i64 a0_2, .slice A0_3 l0_3.length c0_3] 38 (0, 0)) (by (with_reducible repeat (first | refine blk_drewN ?_ _ | refine blk_drew ?_ | refine blk_alloc ?_ _)); exact BK375.out)) : gb375 ≠ gb387)); have n9_ := Aside0.mk ((by rw [hg]; exact Nat.ne_of_gt (blk_lt (g := gb375) (o := .cells #[.int .i64 a0_0, .slice A0_1 l0_1.length c0_1, .int .i64 a0_2, .slice A0_3 l0_3.length c0_3] 38 (0, 0)) (by (with_reducible repeat (first | refine blk_drewN ?_ _ | refine blk_drew ?_ | refine blk_alloc ?_ _)); exact BK375.out)) : gb387 ≠ gb375)); have n10_ := Aside0.mk ((by rw [hg]; exact Nat.ne_of_lt (blk_lt (g := gb376) (o := .cells #[.int .i64 0, .slice none 0 0, .int .i64 0, .slice none 0 0] 38 (0, 0)) (by (with_reducible repeat (first | refine blk_drewN ?_ _ | refine blk_drew ?_ | refine blk_alloc ?_ _)); exact BK376.out)) : gb376 ≠ gb387)); have n11_ := Aside0.mk ((by rw [hg]; exact Nat.ne_of_gt (blk_lt (g := gb376) (o := .cells #[.int .i64 0, .slice none 0 0, .int .i64 0, .slice none 0 0] 38 (0, 0)) (by (with_reducible repeat (first | refine blk_drewN ?_ _ | refine blk_drew ?_ | refine blk_alloc ?_ _)); exact BK376.out)) : gb387 ≠ gb376)); clear HO382; clear HO386; clear BK375; clear BK376; clear HB; have HO382 := n0_; have HO386 := n1_; have BK375 := n2_; have BK376 := n3_; have HB := n4_; have BK387 := n5_; have GW387 := n6_; have GE387 := n7_; have NB375_387 := n8_; have NB387_375 := n9_; have NB376_387 := n10_; have NB387_376 := n11_; clear n0_ n1_ n2_ n3_ n4_ n5_ n6_ n7_ n8_ n9_ n10_ n11_; clear hb hbox hg; have hnb25 := NB387_375.out; have hnc25 := NB375_387.out; have hnb26 := NB387_376.out; have hnc26 := NB376_387.out; have hcz27_0 : w24.cell? ⟨gb387, 0, none⟩ = some (.int .i64 0) := (blk_cell BK387.out 0).trans rfl; have hcz27_1 : w24.cell? ⟨gb387, 1, none⟩ = some (.slice none 0 0) := (blk_cell BK387.out 1).trans rfl; have hcz27_2 : w24.cell? ⟨gb387, 2, none⟩ = some (.int .i64 0) := (blk_cell BK387.out 2).trans rfl; have hcz27_3 : w24.cell? ⟨gb387, 3, none⟩ = some (.slice none 0 0) := (blk_cell BK387.out 3).trans rfl; have hfz27_0 := blk_frozen BK387.out 0; have hfz27_1 := blk_frozen BK387.out 1; have hfz27_2 := blk_frozen BK387.out 2; have hfz27_3 := blk_frozen BK387.out 3; obtain ⟨Ao28, co28, eo28⟩ := Kd.R_slice HO382.out; subst eo28; obtain ⟨Ao29, co29, eo29⟩ := Kd.R_slice HO386.out; subst eo29; have hcz30_0 : w24.cell? ⟨gb375, 0, none⟩ = some (.int .i64 a0_0) := (blk_cell BK375.out 0).trans rfl; have hcz30_1 : w24.cell? ⟨gb375, 1, none⟩ = some (.slice A0_1 l0_1.length c0_1) := (blk_cell BK375.out 1).trans rfl; have hcz30_2 : w24.cell? ⟨gb375, 2, none⟩ = some (.int .i64 a0_2) := (blk_cell BK375.out 2).trans rfl; have hcz30_3 : w24.cell? ⟨gb375, 3, none⟩ = some (.slice A0_3 l0_3.length c0_3) := (blk_cell BK375.out 3).trans rfl; have hfz30_0 := blk_frozen BK375.out 0; have hfz30_1 := blk_frozen BK375.out 1; have hfz30_2 := blk_frozen BK375.out 2; have hfz30_3 := blk_frozen BK375.out 3) | ((with_reducible refine gate_dst (N := 28) rfl ?_); refine Kd.R_lit (Kd.int .i64) _ 3 ?hg (N := 28) ?hd (xs := ([a1] : List Int)) (inner := [.int .i64 a1]) (ok := fun _ => True) (okp := fun _ => True) ?hr ?hp (fun _ hk => hk) trivial (Below.refl _ _) (Nat.le_refl _) (by simp) ?_; (case hd => rfl); (case hg => rfl); (case hr => first | (go_simp; done) | (go_simp; rfl)); (case hp => exact (Reps.one (show Kd.M (Kd.int .i64) _ _ _ a1 [.int .i64 a1] from rfl) (Reps.none _ _))); intro v389 w31 ho32 hb hg_ hnew_; clear hg_ hnew_; (first | rw [← Ny388.out] at ho32 | (simp only [Int.reduceToNat] at ho32; rw [← Ny388.out] at ho32)); have n0_ := Aside0.mk (Kd.R_elder' (by (with_reducible repeat (first | apply Kd.R_alloc | apply Kd.R_drewN | apply Kd.R_drew)); exact (Kd.R_mono (Kd.R_far (p := ⟨gb387, 3, none⟩) (Kd.R_far (p := ⟨gb387, 2, none⟩) (Kd.R_far (p := ⟨gb387, 1, none⟩) (Kd.R_far (p := ⟨gb387, 0, none⟩) (Kd.R_types HO382.out BK387.out (by decide)) (fun _ hk => hk.2) (.int .i64 t379)) (fun _ hk => hk.2) (.slice Ao28 t380.length co28)) (fun _ hk => hk.2) (.int .i64 t383)) (fun _ hk => hk.2) (.slice Ao29 t384.length co29)) (fun _ h_ => h_.1))) (Kd.R_base ho32) hb); have n1_ := Aside0.mk (Kd.R_below (by (with_reducible repeat (first | apply Kd.R_alloc | apply Kd.R_drewN | apply Kd.R_drew)); exact (Kd.R_mono (Kd.R_far (p := ⟨gb387, 3, none⟩) (Kd.R_far (p := ⟨gb387, 2, none⟩) (Kd.R_far (p := ⟨gb387, 1, none⟩) (Kd.R_far (p := ⟨gb387, 0, none⟩) (Kd.R_types HO386.out BK387.out (by decide)) (fun _ hk => hk.2) (.int .i64 t379)) (fun _ hk => hk.2) (.slice Ao28 t380.length co28)) (fun _ hk => hk.2) (.int .i64 t383)) (fun _ hk => hk.2) (.slice Ao29 t384.length co29)) (fun _ h_ => h_.1))) hb); have n2_ := Aside0.mk (Kd.R_lower (Kd.R_new' ho32 (Kd.R_lt (by (with_reducible repeat (first | apply Kd.R_alloc | apply Kd.R_drewN | apply Kd.R_drew)); exact (Kd.R_mono (Kd.R_far (p := ⟨gb387, 3, none⟩) (Kd.R_far (p := ⟨gb387, 2, none⟩) (Kd.R_far (p := ⟨gb387, 1, none⟩) (Kd.R_far (p := ⟨gb387, 0, none⟩) (Kd.R_types HO382.out BK387.out (by decide)) (fun _ hk => hk.2) (.int .i64 t379)) (fun _ hk => hk.2) (.slice Ao28 t380.length co28)) (fun _ hk => hk.2) (.int .i64 t383)) (fun _ hk => hk.2) (.slice Ao29 t384.length co29)) (fun _ h_ => h_.1))))) (below_size (by repeat (first | (with_reducible first | exact HB.out | apply below_alloc | apply pw_below_drewN | apply below_drew1 | refine below_set ?_ GE375.out | refine below_set ?_ GE376.out | refine below_set ?_ GE387.out) | exact HB.out)))); have n3_ := Aside0.mk (blk_below (g := gb375) (o := .cells #[.int .i64 a0_0, .slice A0_1 l0_1.length c0_1, .int .i64 a0_2, .slice A0_3 l0_3.length c0_3] 38 (0, 0)) (by (with_reducible repeat (first | refine blk_drewN ?_ _ | refine blk_drew ?_ | refine blk_alloc ?_ _)); refine blk_far ?_ NB375_387.out _; (with_reducible repeat (first | refine blk_drewN ?_ _ | refine blk_drew ?_ | refine blk_alloc ?_ _)); refine blk_far ?_ NB375_387.out _; (with_reducible repeat (first | refine blk_drewN ?_ _ | refine blk_drew ?_ | refine blk_alloc ?_ _)); refine blk_far ?_ NB375_387.out _; (with_reducible repeat (first | refine blk_drewN ?_ _ | refine blk_drew ?_ | refine blk_alloc ?_ _)); refine blk_far ?_ NB375_387.out _; (with_reducible repeat (first | refine blk_drewN ?_ _ | refine blk_drew ?_ | refine blk_alloc ?_ _)); exact BK375.out) hb); have n4_ := Aside0.mk (blk_below (g := gb376) (o := .cells #[.int .i64 0, .slice none 0 0, .int .i64 0, .slice none 0 0] 38 (0, 0)) (by (with_reducible repeat (first | refine blk_drewN ?_ _ | refine blk_drew ?_ | refine blk_alloc ?_ _)); refine blk_far ?_ NB376_387.out _; (with_reducible repeat (first | refine blk_drewN ?_ _ | refine blk_drew ?_ | refine blk_alloc ?_ _)); refine blk_far ?_ NB376_387.out _; (with_reducible repeat (first | refine blk_drewN ?_ _ | refine blk_drew ?_ | refine blk_alloc ?_ _)); refine blk_far ?_ NB376_387.out _; (with_reducible repeat (first | refine blk_drewN ?_ _ | refine blk_drew ?_ | refine blk_alloc ?_ _)); refine blk_far ?_ NB376_387.out _; (with_reducible repeat (first | refine blk_drewN ?_ _ | refine blk_drew ?_ | refine blk_alloc ?_ _)); exact BK376.out) hb); have n5_ := Aside0.mk (blk_below (g := gb387) (o := .cells #[.int .i64 t379, .slice Ao28 t380.length co28, .int .i64 t383, .slice Ao29 t384.length co29] 38 (0, 0)) (by (with_reducible repeat (first | refine blk_drewN ?_ _ | refine blk_drew ?_ | refine blk_alloc ?_ _)); refine blk_put (cs := #[.int .i64 t379, .slice Ao28 t380.length co28, .int .i64 t383, .slice none 0 0]) ?_ 3 _ rfl; (with_reducible repeat (first | refine blk_drewN ?_ _ | refine blk_drew ?_ | refine blk_alloc ?_ _)); refine blk_put (cs := #[.int .i64 t379, .slice Ao28 t380.length co28, .int .i64 0, .slice none 0 0]) ?_ 2 _ rfl; (with_reducible repeat (first | refine blk_drewN ?_ _ | refine blk_drew ?_ | refine blk_alloc ?_ _)); refine blk_put (cs := #[.int .i64 t379, .slice none 0 0, .int .i64 0, .slice none 0 0]) ?_ 1 _ rfl; (with_reducible repeat (first | refine blk_drewN ?_ _ | refine blk_drew ?_ | refine blk_alloc ?_ _)); refine blk_put (cs := #[.int .i64 0, .slice none 0 0, .int .i64 0, .slice none 0 0]) ?_ 0 _ rfl; (with_reducible repeat (first | refine blk_drewN ?_ _ | refine blk_drew ?_ | refine blk_alloc ?_ _)); exact BK387.out) hb); have n6_ := Aside0.mk (below_step (by repeat (first | (with_reducible first | exact HB.out | apply below_alloc | apply pw_below_drewN | apply below_drew1 | refine below_set ?_ GE375.out | refine below_set ?_ GE376.out | refine below_set ?_ GE387.out) | exact HB.out)) hb); clear HO382; clear HO386; clear BK375; clear BK376; clear BK387; clear HB; have HO382 := n0_; have HO386 := n1_; have HO390 := n2_; have BK375 := n3_; have BK376 := n4_; have BK387 := n5_; have HB := n6_; clear n0_ n1_ n2_ n3_ n4_ n5_ n6_; clear hb ho32; obtain ⟨Ao33, co33, eo33⟩ := Kd.R_slice HO390.out; subst eo33; have hcz34_0 : w31.cell? ⟨gb387, 0, none⟩ = some (.int .i64 t379) := (blk_cell BK387.out 0).trans rfl; have hcz34_1 : w31.cell? ⟨gb387, 1, none⟩ = some (.slice Ao28 t380.length co28) := (blk_cell BK387.out 1).trans rfl; have hcz34_2 : w31.cell? ⟨gb387, 2, none⟩ = some (.int .i64 t383) := (blk_cell BK387.out 2).trans rfl; have hcz34_3 : w31.cell? ⟨gb387, 3, none⟩ = some (.slice Ao29 t384.length co29) := (blk_cell BK387.out 3).trans rfl; have hfz34_0 := blk_frozen BK387.out 0; have hfz34_1 := blk_frozen BK387.out 1; have hfz34_2 := blk_frozen BK387.out 2; have hfz34_3 := blk_frozen BK387.out 3; have hcz35_0 : w31.cell? ⟨gb376, 0, none⟩ = some (.int .i64 0) := (blk_cell BK376.out 0).trans rfl; have hcz35_1 : w31.cell? ⟨gb376, 1, none⟩ = some (.slice none 0 0) := (blk_cell BK376.out 1).trans rfl; have hcz35_2 : w31.cell? ⟨gb376, 2, none⟩ = some (.int .i64 0) := (blk_cell BK376.out 2).trans rfl; have hcz35_3 : w31.cell? ⟨gb376, 3, none⟩ = some (.slice none 0 0) := (blk_cell BK376.out 3).trans rfl; have hfz35_0 := blk_frozen BK376.out 0; have hfz35_1 := blk_frozen BK376.out 1; have hfz35_2 := blk_frozen BK376.out 2; have hfz35_3 := blk_frozen BK376.out 3))
          refine bodyPost_ret (results_ct rfl _ _ gb376 38 #[.int .i64 t379, .slice Ao33 y388.length co33, .int .i64 0, .slice Ao29 t384.length co29] (0, 0) _ rfl (by (with_reducible repeat (first | refine blk_drewN ?_ _ | refine blk_drew ?_ | refine blk_alloc ?_ _)); refine blk_put (cs := #[.int .i64 t379, .slice Ao33 y388.length co33, .int .i64 0, .slice none 0 0]) ?_ 3 _ rfl; (with_reducible repeat (first | refine blk_drewN ?_ _ | refine blk_drew ?_ | refine blk_alloc ?_ _)); refine blk_put (cs := #[.int .i64 t379, .slice Ao33 y388.length co33, .int .i64 0, .slice none 0 0]) ?_ 2 _ rfl; (with_reducible repeat (first | refine blk_drewN ?_ _ | refine blk_drew ?_ | refine blk_alloc ?_ _)); refine blk_put (cs := #[.int .i64 t379, .slice none 0 0, .int .i64 0, .slice none 0 0]) ?_ 1 _ rfl; (with_reducible repeat (first | refine blk_drewN ?_ _ | refine blk_drew ?_ | refine blk_alloc ?_ _)); refine blk_put (cs := #[.int .i64 0, .slice none 0 0, .int .i64 0, .slice none 0 0]) ?_ 0 _ rfl; (with_reducible repeat (first | refine blk_drewN ?_ _ | refine blk_drew ?_ | refine blk_alloc ?_ _)); refine blk_far ?_ NB376_387.out _; (with_reducible repeat (first | refine blk_drewN ?_ _ | refine blk_drew ?_ | refine blk_alloc ?_ _)); refine blk_far ?_ NB376_387.out _; (with_reducible repeat (first | refine blk_drewN ?_ _ | refine blk_drew ?_ | refine blk_alloc ?_ _)); exact BK376.out) Tryd.underlying38 rfl (by kernel_rfl)) rfl ?_
          exact ⟨_, _, by first | rfl | (simp [errW_none, errW_some] <;> rfl) | (simp [*, errW_none, errW_some] <;> rfl), by (with_reducible repeat (first | apply Kd.R_alloc | apply Kd.R_drewN | apply Kd.R_drew)); exact Kd.R_mono (Kd.R_far (p := ⟨gb376, 3, none⟩) (Kd.R_far (p := ⟨gb376, 2, none⟩) (Kd.R_far (p := ⟨gb376, 1, none⟩) (Kd.R_far (p := ⟨gb376, 0, none⟩) (Kd.R_far (p := ⟨gb387, 2, none⟩) (Kd.R_far (p := ⟨gb387, 1, none⟩) (Kd.R_types (Kd.R_types HO390.out BK387.out (by decide)) BK376.out (by decide)) (fun _ hk => hk.1.2) (.slice Ao33 y388.length co33)) (fun _ hk => hk.1.2) (.int .i64 0)) (fun _ hk => hk.2) (.int .i64 t379)) (fun _ hk => hk.2) (.slice Ao33 y388.length co33)) (fun _ hk => hk.2) (.int .i64 0)) (fun _ hk => hk.2) (.slice Ao29 t384.length co29)) (fun _ hk => trivial), by (with_reducible repeat (first | apply Kd.R_alloc | apply Kd.R_drewN | apply Kd.R_drew)); exact Kd.R_mono (Kd.R_far (p := ⟨gb376, 3, none⟩) (Kd.R_far (p := ⟨gb376, 2, none⟩) (Kd.R_far (p := ⟨gb376, 1, none⟩) (Kd.R_far (p := ⟨gb376, 0, none⟩) (Kd.R_far (p := ⟨gb387, 2, none⟩) (Kd.R_far (p := ⟨gb387, 1, none⟩) (Kd.R_types (Kd.R_types HO386.out BK387.out (by decide)) BK376.out (by decide)) (fun _ hk => hk.1.2) (.slice Ao33 y388.length co33)) (fun _ hk => hk.1.2) (.int .i64 0)) (fun _ hk => hk.2) (.int .i64 t379)) (fun _ hk => hk.2) (.slice Ao33 y388.length co33)) (fun _ hk => hk.2) (.int .i64 0)) (fun _ hk => hk.2) (.slice Ao29 t384.length co29)) (fun _ hk => trivial), by repeat (first | (with_reducible first | exact HB.out | apply below_alloc | apply pw_below_drewN | apply below_drew1 | refine below_set ?_ GE375.out | refine below_set ?_ GE376.out | refine below_set ?_ GE387.out) | exact HB.out)⟩
        · rw [if_neg c20] at H
          have c20b0 : ((l0_1.length : Int) == 0) = false := beq_eq_false_iff_ne.mpr c20
          have c20b1 : ((l0_1.length : Int) != 0) = true := bne_iff_ne.mpr c20
          have c20b2 : ¬ (l0_1 = []) := fun h_ => c20 (by rw [h_]; rfl)
          obtain ⟨ji36, hji36⟩ : ∃ j_ : Int, (wrap64 ((l0_1.length : Int) - 1)) = j_ := ⟨_, rfl⟩
          replace H : (if 0 ≤ (ji36) then (if (ji36) < (l0_1.length : Int) then (if (rd l0_1 (ji36)) = a1 then (some (0, ([] : List Int), 0, ([] : List (S71)), 7)) else (if (ji36) < (t380.length : Int) then (some (t379, (t380.set ((ji36) : Int).toNat a1), t383, t384, 0)) else (none))) else (none)) else (none)) = some (r1, r2, r3, r4, r5) := by first | (rw [hji36] at H; exact H) | (simp only [hji36] at H ⊢; exact H)
          (try rw [hji36] at A19)
          have hji36w : (IntKind.i64.wrap ((l0_1.length : Int) - 1)) = ji36 := (i64_w _).trans hji36
          by_cases c37 : 0 ≤ (ji36)
          · rw [if_pos c37] at H
            have c37b0 : decide (0 ≤ (ji36)) = true := decide_eq_true c37
            clear c37
            by_cases c38 : (ji36) < (l0_1.length : Int)
            · rw [if_pos c38] at H
              have c38b0 : decide ((ji36) < (l0_1.length : Int)) = true := decide_eq_true c38
              clear c38
              by_cases c39 : (rd l0_1 (ji36)) = a1
              · rw [if_pos c39] at H
                have c39b0 : ((rd l0_1 (ji36)) == a1) = true := beq_iff_eq.mpr c39
                have c39b1 : ((rd l0_1 (ji36)) != a1) = false := bne_eq_false_iff_eq.mpr c39
                clear c39
                simp only [Option.some.injEq, Prod.mk.injEq] at H
                obtain ⟨rfl, rfl, rfl, rfl, rfl⟩ := H
                have hnb40 := NB375_376.out
                have hnc40 := NB376_375.out
                have hcz41_0 : wc.cell? ⟨gb375, 0, none⟩ = some (.int .i64 a0_0) := (blk_cell BK375.out 0).trans rfl
                have hcz41_1 : wc.cell? ⟨gb375, 1, none⟩ = some (.slice A0_1 l0_1.length c0_1) := (blk_cell BK375.out 1).trans rfl
                have hcz41_2 : wc.cell? ⟨gb375, 2, none⟩ = some (.int .i64 a0_2) := (blk_cell BK375.out 2).trans rfl
                have hcz41_3 : wc.cell? ⟨gb375, 3, none⟩ = some (.slice A0_3 l0_3.length c0_3) := (blk_cell BK375.out 3).trans rfl
                have hfz41_0 := blk_frozen BK375.out 0
                have hfz41_1 := blk_frozen BK375.out 1
                have hfz41_2 := blk_frozen BK375.out 2
                have hfz41_3 := blk_frozen BK375.out 3
                go_wp2_with (first | ((with_reducible refine gate_callee (f := 26) rfl ?_); refine goesL_ (some 21) rfl rfl Tryd.func26 (by kernel_rfl) rfl #[.agg #[.int .i64 a0_0, .slice A0_1 l0_1.length c0_1, .int .i64 a0_2, .slice A0_3 l0_3.length c0_3]] rfl (by (try simp only [List.map_toArray, List.map_cons, List.map_nil]); first | done | rfl | (simp only [List.length_drop, List.length_take]; rfl)) ?_; (with_reducible refine (quillworkref06_Own.calls a0_0 _ _ l0_1 a0_2 _ _ l0_3 t379 t380 t383 t384 _ ?side1 ?side2 ?side3 ?side4 A19.out).mono ?_); (case side1 => repeat (first | exact (Kd.C_below HR0_1.out HB.out) | (with_reducible refine Kd.C_alloc ?_ _) | (with_reducible refine Kd.C_drewN ?_ _) | (with_reducible refine Kd.C_drew ?_))); (case side2 => exact HC0_1.out); (case side3 => repeat (first | exact (Kd.C_below HR0_3.out HB.out) | (with_reducible refine Kd.C_alloc ?_ _) | (with_reducible refine Kd.C_drewN ?_ _) | (with_reducible refine Kd.C_drew ?_))); (case side4 => exact HC0_3.out); rintro e w42 ⟨v381, v385, rfl, ho0, ho1, hb⟩; refine ⟨_, rfl, ?_⟩; have n0_ := Aside0.mk (Kd.R_lower ho0 (below_size (by repeat (first | (with_reducible first | exact HB.out | apply below_alloc | apply pw_below_drewN | apply below_drew1 | refine below_set ?_ GE375.out | refine below_set ?_ GE376.out) | exact HB.out)))); have n1_ := Aside0.mk (Kd.R_lower ho1 (below_size (by repeat (first | (with_reducible first | exact HB.out | apply below_alloc | apply pw_below_drewN | apply below_drew1 | refine below_set ?_ GE375.out | refine below_set ?_ GE376.out) | exact HB.out)))); have n2_ := Aside0.mk (blk_below (g := gb375) (o := .cells #[.int .i64 a0_0, .slice A0_1 l0_1.length c0_1, .int .i64 a0_2, .slice A0_3 l0_3.length c0_3] 38 (0, 0)) (by (with_reducible repeat (first | refine blk_drewN ?_ _ | refine blk_drew ?_ | refine blk_alloc ?_ _)); exact BK375.out) hb); have n3_ := Aside0.mk (blk_below (g := gb376) (o := .cells #[.int .i64 0, .slice none 0 0, .int .i64 0, .slice none 0 0] 38 (0, 0)) (by (with_reducible repeat (first | refine blk_drewN ?_ _ | refine blk_drew ?_ | refine blk_alloc ?_ _)); exact BK376.out) hb); have n4_ := Aside0.mk (below_step (by repeat (first | (with_reducible first | exact HB.out | apply below_alloc | apply pw_below_drewN | apply below_drew1 | refine below_set ?_ GE375.out | refine below_set ?_ GE376.out) | exact HB.out)) hb); clear BK375; clear BK376; clear HB; have HO382 := n0_; have HO386 := n1_; have BK375 := n2_; have BK376 := n3_; have HB := n4_; clear n0_ n1_ n2_ n3_ n4_; (try clear hb); (try clear hb2); (try clear hk); (try clear hi); (try clear ho0); (try clear ho1)) | ((with_reducible refine gate_dst (N := 6) rfl ?_); refine box_event ?hg (N := 6) ?hd (cs := #[.int .i64 0, .slice none 0 0, .int .i64 0, .slice none 0 0]) (t := 38) ?hr ?_; (case hd => rfl); (case hg => rfl); (case hr => first | (go_simp; done) | (go_simp; rfl)); intro gb387 hg w43 hbox hb; have n0_ := Aside0.mk (Kd.R_below (by (with_reducible repeat (first | apply Kd.R_alloc | apply Kd.R_drewN | apply Kd.R_drew)); exact HO382.out) hb); have n1_ := Aside0.mk (Kd.R_below (by (with_reducible repeat (first | apply Kd.R_alloc | apply Kd.R_drewN | apply Kd.R_drew)); exact HO386.out) hb); have n2_ := Aside0.mk (blk_below (g := gb375) (o := .cells #[.int .i64 a0_0, .slice A0_1 l0_1.length c0_1, .int .i64 a0_2, .slice A0_3 l0_3.length c0_3] 38 (0, 0)) (by (with_reducible repeat (first | refine blk_drewN ?_ _ | refine blk_drew ?_ | refine blk_alloc ?_ _)); exact BK375.out) hb); have n3_ := Aside0.mk (blk_below (g := gb376) (o := .cells #[.int .i64 0, .slice none 0 0, .int .i64 0, .slice none 0 0] 38 (0, 0)) (by (with_reducible repeat (first | refine blk_drewN ?_ _ | refine blk_drew ?_ | refine blk_alloc ?_ _)); exact BK376.out) hb); have n4_ := Aside0.mk (below_step (by repeat (first | (with_reducible first | exact HB.out | apply below_alloc | apply pw_below_drewN | apply below_drew1 | refine below_set ?_ GE375.out | refine below_set ?_ GE376.out) | exact HB.out)) hb); have n5_ := Aside0.mk (hbox); have n6_ := Aside0.mk ((by rw [hg]; exact (below_size (by repeat (first | (with_reducible first | exact HB.out | apply below_alloc | apply pw_below_drewN | apply below_drew1 | refine below_set ?_ GE375.out | refine below_set ?_ GE376.out) | exact HB.out))) : w.heap.size ≤ gb387)); have n7_ := Aside0.mk ((by rw [hg]; exact (below_size (by repeat (first | (with_reducible first | exact HB.out | apply below_alloc | apply pw_below_drewN | apply below_drew1 | refine below_set ?_ GE375.out | refine below_set ?_ GE376.out) | exact HB.out))) : w.heap.size ≤ gb387)); have n8_ := Aside0.mk ((by rw [hg]; exact Nat.ne_of_lt (blk_lt (g := gb375) (o := .cells #[.int .i64 a0_0, .slice A0_1 l0_1.length c0_1, .int .i64 a0_2, .slice A0_3 l0_3.length c0_3] 38 (0, 0)) (by (with_reducible repeat (first | refine blk_drewN ?_ _ | refine blk_drew ?_ | refine blk_alloc ?_ _)); exact BK375.out)) : gb375 ≠ gb387)); have n9_ := Aside0.mk ((by rw [hg]; exact Nat.ne_of_gt (blk_lt (g := gb375) (o := .cells #[.int .i64 a0_0, .slice A0_1 l0_1.length c0_1, .int .i64 a0_2, .slice A0_3 l0_3.length c0_3] 38 (0, 0)) (by (with_reducible repeat (first | refine blk_drewN ?_ _ | refine blk_drew ?_ | refine blk_alloc ?_ _)); exact BK375.out)) : gb387 ≠ gb375)); have n10_ := Aside0.mk ((by rw [hg]; exact Nat.ne_of_lt (blk_lt (g := gb376) (o := .cells #[.int .i64 0, .slice none 0 0, .int .i64 0, .slice none 0 0] 38 (0, 0)) (by (with_reducible repeat (first | refine blk_drewN ?_ _ | refine blk_drew ?_ | refine blk_alloc ?_ _)); exact BK376.out)) : gb376 ≠ gb387)); have n11_ := Aside0.mk ((by rw [hg]; exact Nat.ne_of_gt (blk_lt (g := gb376) (o := .cells #[.int .i64 0, .slice none 0 0, .int .i64 0, .slice none 0 0] 38 (0, 0)) (by (with_reducible repeat (first | refine blk_drewN ?_ _ | refine blk_drew ?_ | refine blk_alloc ?_ _)); exact BK376.out)) : gb387 ≠ gb376)); clear HO382; clear HO386; clear BK375; clear BK376; clear HB; have HO382 := n0_; have HO386 := n1_; have BK375 := n2_; have BK376 := n3_; have HB := n4_; have BK387 := n5_; have GW387 := n6_; have GE387 := n7_; have NB375_387 := n8_; have NB387_375 := n9_; have NB376_387 := n10_; have NB387_376 := n11_; clear n0_ n1_ n2_ n3_ n4_ n5_ n6_ n7_ n8_ n9_ n10_ n11_; clear hb hbox hg; have hnb44 := NB387_375.out; have hnc44 := NB375_387.out; have hnb45 := NB387_376.out; have hnc45 := NB376_387.out; have hcz46_0 : w43.cell? ⟨gb387, 0, none⟩ = some (.int .i64 0) := (blk_cell BK387.out 0).trans rfl; have hcz46_1 : w43.cell? ⟨gb387, 1, none⟩ = some (.slice none 0 0) := (blk_cell BK387.out 1).trans rfl; have hcz46_2 : w43.cell? ⟨gb387, 2, none⟩ = some (.int .i64 0) := (blk_cell BK387.out 2).trans rfl; have hcz46_3 : w43.cell? ⟨gb387, 3, none⟩ = some (.slice none 0 0) := (blk_cell BK387.out 3).trans rfl; have hfz46_0 := blk_frozen BK387.out 0; have hfz46_1 := blk_frozen BK387.out 1; have hfz46_2 := blk_frozen BK387.out 2; have hfz46_3 := blk_frozen BK387.out 3; obtain ⟨Ao47, co47, eo47⟩ := Kd.R_slice HO382.out; subst eo47; obtain ⟨Ao48, co48, eo48⟩ := Kd.R_slice HO386.out; subst eo48; have hcz49_0 : w43.cell? ⟨gb375, 0, none⟩ = some (.int .i64 a0_0) := (blk_cell BK375.out 0).trans rfl; have hcz49_1 : w43.cell? ⟨gb375, 1, none⟩ = some (.slice A0_1 l0_1.length c0_1) := (blk_cell BK375.out 1).trans rfl; have hcz49_2 : w43.cell? ⟨gb375, 2, none⟩ = some (.int .i64 a0_2) := (blk_cell BK375.out 2).trans rfl; have hcz49_3 : w43.cell? ⟨gb375, 3, none⟩ = some (.slice A0_3 l0_3.length c0_3) := (blk_cell BK375.out 3).trans rfl; have hfz49_0 := blk_frozen BK375.out 0; have hfz49_1 := blk_frozen BK375.out 1; have hfz49_2 := blk_frozen BK375.out 2; have hfz49_3 := blk_frozen BK375.out 3; have p391 : 0 ≤ ((ji36) : Int) := of_decide_eq_true (by first | (with_reducible assumption) | assumption); have q391 : (ji36) < (l0_1.length : Int) := of_decide_eq_true (by first | (with_reducible assumption) | assumption); obtain ⟨ad391, e391, hx391_0⟩ := Kd.at_int HR0_1.out (ji36) p391 q391; cases e391; have hn391_0 : ad391.block ≠ gb387 := Nat.ne_of_lt (Nat.lt_of_lt_of_le (by have := World.block_lt_of_cell? _ _ hx391_0; first | rwa [add_block] at this | exact this) GW387.out); have hn391_1 : ad391.block ≠ gb387 := Nat.ne_of_lt (Nat.lt_of_lt_of_le (by have := World.block_lt_of_cell? _ _ hx391_0; first | rwa [add_block] at this | exact this) GW387.out); have hn391_2 : ad391.block ≠ gb387 := Nat.ne_of_lt (Nat.lt_of_lt_of_le (by have := World.block_lt_of_cell? _ _ hx391_0; first | rwa [add_block] at this | exact this) GW387.out); have hn391_3 : ad391.block ≠ gb387 := Nat.ne_of_lt (Nat.lt_of_lt_of_le (by have := World.block_lt_of_cell? _ _ hx391_0; first | rwa [add_block] at this | exact this) GW387.out); replace hx391_0 := (HB.out.cell (World.block_lt_of_cell? w _ hx391_0)).trans hx391_0; replace hx391_0 := (cell_far (p := ⟨gb387, 0, none⟩) (by first | (rw [add_block]; exact hn391_0) | (show (Addr.add _ _).block ≠ _; rw [add_block]; exact hn391_0) | exact hn391_0) (.int .i64 t379)).trans hx391_0; replace hx391_0 := (cell_far (p := ⟨gb387, 1, none⟩) (by first | (rw [add_block]; exact hn391_1) | (show (Addr.add _ _).block ≠ _; rw [add_block]; exact hn391_1) | exact hn391_1) (.slice Ao47 t380.length co47)).trans hx391_0; replace hx391_0 := (cell_far (p := ⟨gb387, 2, none⟩) (by first | (rw [add_block]; exact hn391_2) | (show (Addr.add _ _).block ≠ _; rw [add_block]; exact hn391_2) | exact hn391_2) (.int .i64 t383)).trans hx391_0; replace hx391_0 := (cell_far (p := ⟨gb387, 3, none⟩) (by first | (rw [add_block]; exact hn391_3) | (show (Addr.add _ _).block ≠ _; rw [add_block]; exact hn391_3) | exact hn391_3) (.slice Ao48 t384.length co48)).trans hx391_0; clear hn391_0; clear hn391_1; clear hn391_2; clear hn391_3; replace p391 := eq_true p391; replace q391 := eq_true q391; have hcz50_0 : w43.cell? ⟨gb376, 0, none⟩ = some (.int .i64 0) := (blk_cell BK376.out 0).trans rfl; have hcz50_1 : w43.cell? ⟨gb376, 1, none⟩ = some (.slice none 0 0) := (blk_cell BK376.out 1).trans rfl; have hcz50_2 : w43.cell? ⟨gb376, 2, none⟩ = some (.int .i64 0) := (blk_cell BK376.out 2).trans rfl; have hcz50_3 : w43.cell? ⟨gb376, 3, none⟩ = some (.slice none 0 0) := (blk_cell BK376.out 3).trans rfl; have hfz50_0 := blk_frozen BK376.out 0; have hfz50_1 := blk_frozen BK376.out 1; have hfz50_2 := blk_frozen BK376.out 2; have hfz50_3 := blk_frozen BK376.out 3))
                refine bodyPost_ret (results_ct rfl _ _ gb376 38 #[.int .i64 0, .slice none 0 0, .int .i64 0, .slice none 0 0] (0, 0) _ rfl (by (with_reducible repeat (first | refine blk_drewN ?_ _ | refine blk_drew ?_ | refine blk_alloc ?_ _)); refine blk_put (cs := #[.int .i64 0, .slice none 0 0, .int .i64 0, .slice none 0 0]) ?_ 3 _ rfl; (with_reducible repeat (first | refine blk_drewN ?_ _ | refine blk_drew ?_ | refine blk_alloc ?_ _)); refine blk_put (cs := #[.int .i64 0, .slice none 0 0, .int .i64 0, .slice none 0 0]) ?_ 2 _ rfl; (with_reducible repeat (first | refine blk_drewN ?_ _ | refine blk_drew ?_ | refine blk_alloc ?_ _)); refine blk_put (cs := #[.int .i64 0, .slice none 0 0, .int .i64 0, .slice none 0 0]) ?_ 1 _ rfl; (with_reducible repeat (first | refine blk_drewN ?_ _ | refine blk_drew ?_ | refine blk_alloc ?_ _)); refine blk_put (cs := #[.int .i64 0, .slice none 0 0, .int .i64 0, .slice none 0 0]) ?_ 0 _ rfl; (with_reducible repeat (first | refine blk_drewN ?_ _ | refine blk_drew ?_ | refine blk_alloc ?_ _)); refine blk_far ?_ NB376_387.out _; (with_reducible repeat (first | refine blk_drewN ?_ _ | refine blk_drew ?_ | refine blk_alloc ?_ _)); refine blk_far ?_ NB376_387.out _; (with_reducible repeat (first | refine blk_drewN ?_ _ | refine blk_drew ?_ | refine blk_alloc ?_ _)); refine blk_far ?_ NB376_387.out _; (with_reducible repeat (first | refine blk_drewN ?_ _ | refine blk_drew ?_ | refine blk_alloc ?_ _)); refine blk_far ?_ NB376_387.out _; (with_reducible repeat (first | refine blk_drewN ?_ _ | refine blk_drew ?_ | refine blk_alloc ?_ _)); exact BK376.out) Tryd.underlying38 rfl (by kernel_rfl)) rfl ?_
                exact ⟨_, _, by first | rfl | (simp [errW_none, errW_some] <;> rfl) | (simp only [← hji36]; first | rfl | (simp [errW_none, errW_some] <;> rfl)) | (simp [*, errW_none, errW_some] <;> rfl), by first | exact Kd.R_nil _ _ _ _ _ | exact Kd.N_nil _ _ _ _ _ | exact Kd.V_nil _ _ _ _ _ | exact Kd.Q_nil _ _ _ _ _ | exact Kd.S_nil _ _ _ _ _, by first | exact Kd.R_nil _ _ _ _ _ | exact Kd.N_nil _ _ _ _ _ | exact Kd.V_nil _ _ _ _ _ | exact Kd.Q_nil _ _ _ _ _ | exact Kd.S_nil _ _ _ _ _, by repeat (first | (with_reducible first | exact HB.out | apply below_alloc | apply pw_below_drewN | apply below_drew1 | refine below_set ?_ GE375.out | refine below_set ?_ GE376.out | refine below_set ?_ GE387.out) | exact HB.out)⟩
              · rw [if_neg c39] at H
                have c39b0 : ((rd l0_1 (ji36)) == a1) = false := beq_eq_false_iff_ne.mpr c39
                have c39b1 : ((rd l0_1 (ji36)) != a1) = true := bne_iff_ne.mpr c39
                by_cases c51 : (ji36) < (t380.length : Int)
                · rw [if_pos c51] at H
                  have c51b0 : decide ((ji36) < (t380.length : Int)) = true := decide_eq_true c51
                  clear c51
                  obtain ⟨y392, hy392⟩ : ∃ y_ : List Int, y_ = (t380.set ((ji36) : Int).toNat a1) := ⟨_, rfl⟩
                  replace H : (some (t379, y392, t383, t384, 0)) = some (r1, r2, r3, r4, r5) := by first | (rw [hy392]; with_reducible exact H) | (have H2_ := (Option.bind_some _ _).symm.trans H; rw [hy392]; with_reducible exact H2_) | (have H2_ := (Option.bind_some _ _).symm.trans H; with_reducible exact H2_) | with_reducible exact H | (rw [hy392]; exact H) | exact H
                  have Ny392 := Aside0.mk hy392
                  clear hy392
                  simp only [Option.some.injEq, Prod.mk.injEq] at H
                  obtain ⟨rfl, rfl, rfl, rfl, rfl⟩ := H
                  have hnb53 := NB375_376.out
                  have hnc53 := NB376_375.out
                  have hcz54_0 : wc.cell? ⟨gb375, 0, none⟩ = some (.int .i64 a0_0) := (blk_cell BK375.out 0).trans rfl
                  have hcz54_1 : wc.cell? ⟨gb375, 1, none⟩ = some (.slice A0_1 l0_1.length c0_1) := (blk_cell BK375.out 1).trans rfl
                  have hcz54_2 : wc.cell? ⟨gb375, 2, none⟩ = some (.int .i64 a0_2) := (blk_cell BK375.out 2).trans rfl
                  have hcz54_3 : wc.cell? ⟨gb375, 3, none⟩ = some (.slice A0_3 l0_3.length c0_3) := (blk_cell BK375.out 3).trans rfl
                  have hfz54_0 := blk_frozen BK375.out 0
                  have hfz54_1 := blk_frozen BK375.out 1
                  have hfz54_2 := blk_frozen BK375.out 2
                  have hfz54_3 := blk_frozen BK375.out 3
                  go_wp2_with (first | ((with_reducible refine gate_callee (f := 26) rfl ?_); refine goesL_ (some 21) rfl rfl Tryd.func26 (by kernel_rfl) rfl #[.agg #[.int .i64 a0_0, .slice A0_1 l0_1.length c0_1, .int .i64 a0_2, .slice A0_3 l0_3.length c0_3]] rfl (by (try simp only [List.map_toArray, List.map_cons, List.map_nil]); first | done | rfl | (simp only [List.length_drop, List.length_take]; rfl)) ?_; (with_reducible refine (quillworkref06_Own.calls a0_0 _ _ l0_1 a0_2 _ _ l0_3 t379 t380 t383 t384 _ ?side1 ?side2 ?side3 ?side4 A19.out).mono ?_); (case side1 => repeat (first | exact (Kd.C_below HR0_1.out HB.out) | (with_reducible refine Kd.C_alloc ?_ _) | (with_reducible refine Kd.C_drewN ?_ _) | (with_reducible refine Kd.C_drew ?_))); (case side2 => exact HC0_1.out); (case side3 => repeat (first | exact (Kd.C_below HR0_3.out HB.out) | (with_reducible refine Kd.C_alloc ?_ _) | (with_reducible refine Kd.C_drewN ?_ _) | (with_reducible refine Kd.C_drew ?_))); (case side4 => exact HC0_3.out); rintro e w55 ⟨v381, v385, rfl, ho0, ho1, hb⟩; refine ⟨_, rfl, ?_⟩; have n0_ := Aside0.mk (Kd.R_lower ho0 (below_size (by repeat (first | (with_reducible first | exact HB.out | apply below_alloc | apply pw_below_drewN | apply below_drew1 | refine below_set ?_ GE375.out | refine below_set ?_ GE376.out) | exact HB.out)))); have n1_ := Aside0.mk (Kd.R_lower ho1 (below_size (by repeat (first | (with_reducible first | exact HB.out | apply below_alloc | apply pw_below_drewN | apply below_drew1 | refine below_set ?_ GE375.out | refine below_set ?_ GE376.out) | exact HB.out)))); have n2_ := Aside0.mk (blk_below (g := gb375) (o := .cells #[.int .i64 a0_0, .slice A0_1 l0_1.length c0_1, .int .i64 a0_2, .slice A0_3 l0_3.length c0_3] 38 (0, 0)) (by (with_reducible repeat (first | refine blk_drewN ?_ _ | refine blk_drew ?_ | refine blk_alloc ?_ _)); exact BK375.out) hb); have n3_ := Aside0.mk (blk_below (g := gb376) (o := .cells #[.int .i64 0, .slice none 0 0, .int .i64 0, .slice none 0 0] 38 (0, 0)) (by (with_reducible repeat (first | refine blk_drewN ?_ _ | refine blk_drew ?_ | refine blk_alloc ?_ _)); exact BK376.out) hb); have n4_ := Aside0.mk (below_step (by repeat (first | (with_reducible first | exact HB.out | apply below_alloc | apply pw_below_drewN | apply below_drew1 | refine below_set ?_ GE375.out | refine below_set ?_ GE376.out) | exact HB.out)) hb); clear BK375; clear BK376; clear HB; have HO382 := n0_; have HO386 := n1_; have BK375 := n2_; have BK376 := n3_; have HB := n4_; clear n0_ n1_ n2_ n3_ n4_; (try clear hb); (try clear hb2); (try clear hk); (try clear hi); (try clear ho0); (try clear ho1)) | ((with_reducible refine gate_dst (N := 6) rfl ?_); refine box_event ?hg (N := 6) ?hd (cs := #[.int .i64 0, .slice none 0 0, .int .i64 0, .slice none 0 0]) (t := 38) ?hr ?_; (case hd => rfl); (case hg => rfl); (case hr => first | (go_simp; done) | (go_simp; rfl)); intro gb387 hg w56 hbox hb; have n0_ := Aside0.mk (Kd.R_below (by (with_reducible repeat (first | apply Kd.R_alloc | apply Kd.R_drewN | apply Kd.R_drew)); exact HO382.out) hb); have n1_ := Aside0.mk (Kd.R_below (by (with_reducible repeat (first | apply Kd.R_alloc | apply Kd.R_drewN | apply Kd.R_drew)); exact HO386.out) hb); have n2_ := Aside0.mk (blk_below (g := gb375) (o := .cells #[.int .i64 a0_0, .slice A0_1 l0_1.length c0_1, .int .i64 a0_2, .slice A0_3 l0_3.length c0_3] 38 (0, 0)) (by (with_reducible repeat (first | refine blk_drewN ?_ _ | refine blk_drew ?_ | refine blk_alloc ?_ _)); exact BK375.out) hb); have n3_ := Aside0.mk (blk_below (g := gb376) (o := .cells #[.int .i64 0, .slice none 0 0, .int .i64 0, .slice none 0 0] 38 (0, 0)) (by (with_reducible repeat (first | refine blk_drewN ?_ _ | refine blk_drew ?_ | refine blk_alloc ?_ _)); exact BK376.out) hb); have n4_ := Aside0.mk (below_step (by repeat (first | (with_reducible first | exact HB.out | apply below_alloc | apply pw_below_drewN | apply below_drew1 | refine below_set ?_ GE375.out | refine below_set ?_ GE376.out) | exact HB.out)) hb); have n5_ := Aside0.mk (hbox); have n6_ := Aside0.mk ((by rw [hg]; exact (below_size (by repeat (first | (with_reducible first | exact HB.out | apply below_alloc | apply pw_below_drewN | apply below_drew1 | refine below_set ?_ GE375.out | refine below_set ?_ GE376.out) | exact HB.out))) : w.heap.size ≤ gb387)); have n7_ := Aside0.mk ((by rw [hg]; exact (below_size (by repeat (first | (with_reducible first | exact HB.out | apply below_alloc | apply pw_below_drewN | apply below_drew1 | refine below_set ?_ GE375.out | refine below_set ?_ GE376.out) | exact HB.out))) : w.heap.size ≤ gb387)); have n8_ := Aside0.mk ((by rw [hg]; exact Nat.ne_of_lt (blk_lt (g := gb375) (o := .cells #[.int .i64 a0_0, .slice A0_1 l0_1.length c0_1, .int .i64 a0_2, .slice A0_3 l0_3.length c0_3] 38 (0, 0)) (by (with_reducible repeat (first | refine blk_drewN ?_ _ | refine blk_drew ?_ | refine blk_alloc ?_ _)); exact BK375.out)) : gb375 ≠ gb387)); have n9_ := Aside0.mk ((by rw [hg]; exact Nat.ne_of_gt (blk_lt (g := gb375) (o := .cells #[.int .i64 a0_0, .slice A0_1 l0_1.length c0_1, .int .i64 a0_2, .slice A0_3 l0_3.length c0_3] 38 (0, 0)) (by (with_reducible repeat (first | refine blk_drewN ?_ _ | refine blk_drew ?_ | refine blk_alloc ?_ _)); exact BK375.out)) : gb387 ≠ gb375)); have n10_ := Aside0.mk ((by rw [hg]; exact Nat.ne_of_lt (blk_lt (g := gb376) (o := .cells #[.int .i64 0, .slice none 0 0, .int .i64 0, .slice none 0 0] 38 (0, 0)) (by (with_reducible repeat (first | refine blk_drewN ?_ _ | refine blk_drew ?_ | refine blk_alloc ?_ _)); exact BK376.out)) : gb376 ≠ gb387)); have n11_ := Aside0.mk ((by rw [hg]; exact Nat.ne_of_gt (blk_lt (g := gb376) (o := .cells #[.int .i64 0, .slice none 0 0, .int .i64 0, .slice none 0 0] 38 (0, 0)) (by (with_reducible repeat (first | refine blk_drewN ?_ _ | refine blk_drew ?_ | refine blk_alloc ?_ _)); exact BK376.out)) : gb387 ≠ gb376)); clear HO382; clear HO386; clear BK375; clear BK376; clear HB; have HO382 := n0_; have HO386 := n1_; have BK375 := n2_; have BK376 := n3_; have HB := n4_; have BK387 := n5_; have GW387 := n6_; have GE387 := n7_; have NB375_387 := n8_; have NB387_375 := n9_; have NB376_387 := n10_; have NB387_376 := n11_; clear n0_ n1_ n2_ n3_ n4_ n5_ n6_ n7_ n8_ n9_ n10_ n11_; clear hb hbox hg; have hnb57 := NB387_375.out; have hnc57 := NB375_387.out; have hnb58 := NB387_376.out; have hnc58 := NB376_387.out; have hcz59_0 : w56.cell? ⟨gb387, 0, none⟩ = some (.int .i64 0) := (blk_cell BK387.out 0).trans rfl; have hcz59_1 : w56.cell? ⟨gb387, 1, none⟩ = some (.slice none 0 0) := (blk_cell BK387.out 1).trans rfl; have hcz59_2 : w56.cell? ⟨gb387, 2, none⟩ = some (.int .i64 0) := (blk_cell BK387.out 2).trans rfl; have hcz59_3 : w56.cell? ⟨gb387, 3, none⟩ = some (.slice none 0 0) := (blk_cell BK387.out 3).trans rfl; have hfz59_0 := blk_frozen BK387.out 0; have hfz59_1 := blk_frozen BK387.out 1; have hfz59_2 := blk_frozen BK387.out 2; have hfz59_3 := blk_frozen BK387.out 3; obtain ⟨Ao60, co60, eo60⟩ := Kd.R_slice HO382.out; subst eo60; obtain ⟨Ao61, co61, eo61⟩ := Kd.R_slice HO386.out; subst eo61) | ((with_reducible refine gate_store (t := 38) (p := 6) rfl ?_); refine store_event (t := 38) (p := 6) (v := ?vo_w62) (w1 := ((((w56.setCell ⟨gb387, 0, none⟩ (.int .i64 t379)).setCell ⟨gb387, 1, none⟩ (.slice Ao60 t380.length co60)).setCell ⟨gb387, 2, none⟩ (.int .i64 t383)).setCell ⟨gb387, 3, none⟩ (.slice Ao61 t384.length co61))) ?hg ?ho ?hn ?hr ?_; (case ho => rfl); (case hg => rfl); (case hn => rfl); (case hr => first | (go_simp; done) | (go_simp; rfl)); intro w62 hw; have n0_ : Aside0 (Kd.R (Kd.int .i64) 3 w62 w.heap.size (fun _ => True) (.slice Ao60 t380.length co60) t380) := ⟨(by rw [hw]; exact (by (with_reducible repeat (first | apply Kd.R_alloc | apply Kd.R_drewN | apply Kd.R_drew)); exact Kd.R_mono (Kd.R_far (p := ⟨gb387, 3, none⟩) (Kd.R_far (p := ⟨gb387, 2, none⟩) (Kd.R_far (p := ⟨gb387, 1, none⟩) (Kd.R_far (p := ⟨gb387, 0, none⟩) (Kd.R_types HO382.out BK387.out (by decide)) (fun _ hk => hk.2) (.int .i64 t379)) (fun _ hk => hk.2) (.slice Ao60 t380.length co60)) (fun _ hk => hk.2) (.int .i64 t383)) (fun _ hk => hk.2) (.slice Ao61 t384.length co61)) (fun _ hk => trivial)))⟩; have n1_ : Aside0 (Kd.R k71 71 w62 w.heap.size (fun _ => True) (.slice Ao61 t384.length co61) t384) := ⟨(by rw [hw]; exact (by (with_reducible repeat (first | apply Kd.R_alloc | apply Kd.R_drewN | apply Kd.R_drew)); exact Kd.R_mono (Kd.R_far (p := ⟨gb387, 3, none⟩) (Kd.R_far (p := ⟨gb387, 2, none⟩) (Kd.R_far (p := ⟨gb387, 1, none⟩) (Kd.R_far (p := ⟨gb387, 0, none⟩) (Kd.R_types HO386.out BK387.out (by decide)) (fun _ hk => hk.2) (.int .i64 t379)) (fun _ hk => hk.2) (.slice Ao60 t380.length co60)) (fun _ hk => hk.2) (.int .i64 t383)) (fun _ hk => hk.2) (.slice Ao61 t384.length co61)) (fun _ hk => trivial)))⟩; have n2_ : Aside0 (w62.heap[gb375]? = some (.cells #[.int .i64 a0_0, .slice A0_1 l0_1.length c0_1, .int .i64 a0_2, .slice A0_3 l0_3.length c0_3] 38 (0, 0))) := ⟨(by rw [hw]; exact (by (with_reducible repeat (first | refine blk_drewN ?_ _ | refine blk_drew ?_ | refine blk_alloc ?_ _)); refine blk_far ?_ NB375_387.out _; (with_reducible repeat (first | refine blk_drewN ?_ _ | refine blk_drew ?_ | refine blk_alloc ?_ _)); refine blk_far ?_ NB375_387.out _; (with_reducible repeat (first | refine blk_drewN ?_ _ | refine blk_drew ?_ | refine blk_alloc ?_ _)); refine blk_far ?_ NB375_387.out _; (with_reducible repeat (first | refine blk_drewN ?_ _ | refine blk_drew ?_ | refine blk_alloc ?_ _)); refine blk_far ?_ NB375_387.out _; (with_reducible repeat (first | refine blk_drewN ?_ _ | refine blk_drew ?_ | refine blk_alloc ?_ _)); exact BK375.out))⟩; have n3_ : Aside0 (w62.heap[gb376]? = some (.cells #[.int .i64 0, .slice none 0 0, .int .i64 0, .slice none 0 0] 38 (0, 0))) := ⟨(by rw [hw]; exact (by (with_reducible repeat (first | refine blk_drewN ?_ _ | refine blk_drew ?_ | refine blk_alloc ?_ _)); refine blk_far ?_ NB376_387.out _; (with_reducible repeat (first | refine blk_drewN ?_ _ | refine blk_drew ?_ | refine blk_alloc ?_ _)); refine blk_far ?_ NB376_387.out _; (with_reducible repeat (first | refine blk_drewN ?_ _ | refine blk_drew ?_ | refine blk_alloc ?_ _)); refine blk_far ?_ NB376_387.out _; (with_reducible repeat (first | refine blk_drewN ?_ _ | refine blk_drew ?_ | refine blk_alloc ?_ _)); refine blk_far ?_ NB376_387.out _; (with_reducible repeat (first | refine blk_drewN ?_ _ | refine blk_drew ?_ | refine blk_alloc ?_ _)); exact BK376.out))⟩; have n4_ : Aside0 (w62.heap[gb387]? = some (.cells #[.int .i64 t379, .slice Ao60 t380.length co60, .int .i64 t383, .slice Ao61 t384.length co61] 38 (0, 0))) := ⟨(by rw [hw]; exact (by (with_reducible repeat (first | refine blk_drewN ?_ _ | refine blk_drew ?_ | refine blk_alloc ?_ _)); refine blk_put (cs := #[.int .i64 t379, .slice Ao60 t380.length co60, .int .i64 t383, .slice none 0 0]) ?_ 3 _ rfl; (with_reducible repeat (first | refine blk_drewN ?_ _ | refine blk_drew ?_ | refine blk_alloc ?_ _)); refine blk_put (cs := #[.int .i64 t379, .slice Ao60 t380.length co60, .int .i64 0, .slice none 0 0]) ?_ 2 _ rfl; (with_reducible repeat (first | refine blk_drewN ?_ _ | refine blk_drew ?_ | refine blk_alloc ?_ _)); refine blk_put (cs := #[.int .i64 t379, .slice none 0 0, .int .i64 0, .slice none 0 0]) ?_ 1 _ rfl; (with_reducible repeat (first | refine blk_drewN ?_ _ | refine blk_drew ?_ | refine blk_alloc ?_ _)); refine blk_put (cs := #[.int .i64 0, .slice none 0 0, .int .i64 0, .slice none 0 0]) ?_ 0 _ rfl; (with_reducible repeat (first | refine blk_drewN ?_ _ | refine blk_drew ?_ | refine blk_alloc ?_ _)); exact BK387.out))⟩; have n5_ : Aside0 (Below w.heap.size w w62) := ⟨(by rw [hw]; exact (by repeat (first | (with_reducible first | exact HB.out | apply below_alloc | apply pw_below_drewN | apply below_drew1 | refine below_set ?_ GE375.out | refine below_set ?_ GE376.out | refine below_set ?_ GE387.out) | exact HB.out)))⟩; clear hw; clear HO382; clear HO386; clear BK375; clear BK376; clear BK387; clear HB; have HO382 := n0_; have HO386 := n1_; have BK375 := n2_; have BK376 := n3_; have BK387 := n4_; have HB := n5_; clear n0_ n1_ n2_ n3_ n4_ n5_; have hcz63_0 : w62.cell? ⟨gb375, 0, none⟩ = some (.int .i64 a0_0) := (blk_cell BK375.out 0).trans rfl; have hcz63_1 : w62.cell? ⟨gb375, 1, none⟩ = some (.slice A0_1 l0_1.length c0_1) := (blk_cell BK375.out 1).trans rfl; have hcz63_2 : w62.cell? ⟨gb375, 2, none⟩ = some (.int .i64 a0_2) := (blk_cell BK375.out 2).trans rfl; have hcz63_3 : w62.cell? ⟨gb375, 3, none⟩ = some (.slice A0_3 l0_3.length c0_3) := (blk_cell BK375.out 3).trans rfl; have hfz63_0 := blk_frozen BK375.out 0; have hfz63_1 := blk_frozen BK375.out 1; have hfz63_2 := blk_frozen BK375.out 2; have hfz63_3 := blk_frozen BK375.out 3; have p391 : 0 ≤ ((ji36) : Int) := of_decide_eq_true (by first | (with_reducible assumption) | assumption); have q391 : (ji36) < (l0_1.length : Int) := of_decide_eq_true (by first | (with_reducible assumption) | assumption); obtain ⟨ad391, e391, hx391_0⟩ := Kd.at_int HR0_1.out (ji36) p391 q391; cases e391; replace hx391_0 := (HB.out.cell (World.block_lt_of_cell? w _ hx391_0)).trans hx391_0; replace p391 := eq_true p391; replace q391 := eq_true q391; have hcz64_0 : w62.cell? ⟨gb387, 0, none⟩ = some (.int .i64 t379) := (blk_cell BK387.out 0).trans rfl; have hcz64_1 : w62.cell? ⟨gb387, 1, none⟩ = some (.slice Ao60 t380.length co60) := (blk_cell BK387.out 1).trans rfl; have hcz64_2 : w62.cell? ⟨gb387, 2, none⟩ = some (.int .i64 t383) := (blk_cell BK387.out 2).trans rfl; have hcz64_3 : w62.cell? ⟨gb387, 3, none⟩ = some (.slice Ao61 t384.length co61) := (blk_cell BK387.out 3).trans rfl; have hfz64_0 := blk_frozen BK387.out 0; have hfz64_1 := blk_frozen BK387.out 1; have hfz64_2 := blk_frozen BK387.out 2; have hfz64_3 := blk_frozen BK387.out 3; have p52 : 0 ≤ ((ji36) : Int) := of_decide_eq_true (by first | (with_reducible assumption) | assumption); have q52 : ((ji36) : Int) < ((t380.length : Int) : Int) := of_decide_eq_true (by first | (with_reducible assumption) | assumption); obtain ⟨go52, co52, eo52, gb52, gl52, cl52, HG52⟩ := Kd.R_form HO382.out (by omega); (first | cases eo52 | (injection eo52 with ea_ en_ ec_; (first | subst ea_ | (injection ea_ with ea_; subst ea_)); subst ec_; clear en_)); have GB52 := Aside0.mk gb52; have GG52 := Aside0.mk HG52; clear gb52 gl52 HG52; obtain ⟨hx52_0, hf52_0⟩ := Kd.R_celln 0 HO382.out ((ji36) : Int) p52 q52; replace p52 := eq_true p52; replace q52 := eq_true q52; obtain ⟨hy65_, hz65_⟩ := Kd.R_celln 0 HO382.out ((ji36) : Int) (of_decide_eq_true (by first | (with_reducible assumption) | assumption)) (of_decide_eq_true (by first | (with_reducible assumption) | assumption)); have HP65 := Kd.R_putg HO382.out ((ji36) : Int) a1) | ((with_reducible refine gate_store (t := 3) (p := 46) rfl ?_); refine store_event (t := 3) (p := 46) (v := ?vo_w66) (w1 := (w62.setCell ⟨go52, ((ji36) : Int).toNat, none⟩ (.int .i64 a1))) ?hg ?ho ?hn ?hr ?_; (case ho => rfl); (case hg => rfl); (case hn => rfl); (case hr => first | (go_simp; done) | (go_simp; rfl)); intro w66 hw; have hg : w62.grownBy w66 (some go52) := (by rw [hw]; exact HP65.2); have hp_ : Kd.R (Kd.int .i64) 3 w66 w.heap.size (fun _ => True) (.slice (some ⟨go52, 0, none⟩) t380.length co60) y392 := (by rw [hw, Ny392.out]; exact HP65.1); clear HP65; have n0_ := Aside0.mk (blk_grown (g := gb375) (o := .cells #[.int .i64 a0_0, .slice (some ad391) l0_1.length c0_1, .int .i64 a0_2, .slice A0_3 l0_3.length c0_3] 38 (0, 0)) (by (with_reducible repeat (first | refine blk_drewN ?_ _ | refine blk_drew ?_ | refine blk_alloc ?_ _)); exact BK375.out) hg (Kd.R_ne HO382.out BK375.out (by decide))); have n1_ := Aside0.mk (blk_grown (g := gb376) (o := .cells #[.int .i64 0, .slice none 0 0, .int .i64 0, .slice none 0 0] 38 (0, 0)) (by (with_reducible repeat (first | refine blk_drewN ?_ _ | refine blk_drew ?_ | refine blk_alloc ?_ _)); exact BK376.out) hg (Kd.R_ne HO382.out BK376.out (by decide))); have n2_ := Aside0.mk (hp_); have n3_ := Aside0.mk (Kd.R_over' (v := (.slice (some ⟨go52, 0, none⟩) t380.length co60)) (by (with_reducible repeat (first | apply Kd.R_alloc | apply Kd.R_drewN | apply Kd.R_drew)); exact HO386.out) (Kd.R_typed HO382.out) (by decide) hg); have n4_ := Aside0.mk (blk_grown (g := gb387) (o := .cells #[.int .i64 t379, .slice (some ⟨go52, 0, none⟩) t380.length co60, .int .i64 t383, .slice Ao61 t384.length co61] 38 (0, 0)) (by (with_reducible repeat (first | refine blk_drewN ?_ _ | refine blk_drew ?_ | refine blk_alloc ?_ _)); exact BK387.out) hg (Kd.R_ne HO382.out BK387.out (by decide))); have n5_ := Aside0.mk ((by rw [hw]; exact below_set (HB.out) GB52.out : Below w.heap.size w w66)); clear BK375; clear BK376; clear HO382; clear HO386; clear BK387; clear HB; have BK375 := n0_; have BK376 := n1_; have HO382 := n2_; have HO386 := n3_; have BK387 := n4_; have HB := n5_; clear n0_ n1_ n2_ n3_ n4_ n5_; clear hg hw hp_; have hcz67_0 : w66.cell? ⟨gb387, 0, none⟩ = some (.int .i64 t379) := (blk_cell BK387.out 0).trans rfl; have hcz67_1 : w66.cell? ⟨gb387, 1, none⟩ = some (.slice (some ⟨go52, 0, none⟩) t380.length co60) := (blk_cell BK387.out 1).trans rfl; have hcz67_2 : w66.cell? ⟨gb387, 2, none⟩ = some (.int .i64 t383) := (blk_cell BK387.out 2).trans rfl; have hcz67_3 : w66.cell? ⟨gb387, 3, none⟩ = some (.slice Ao61 t384.length co61) := (blk_cell BK387.out 3).trans rfl; have hfz67_0 := blk_frozen BK387.out 0; have hfz67_1 := blk_frozen BK387.out 1; have hfz67_2 := blk_frozen BK387.out 2; have hfz67_3 := blk_frozen BK387.out 3; have hcz68_0 : w66.cell? ⟨gb376, 0, none⟩ = some (.int .i64 0) := (blk_cell BK376.out 0).trans rfl; have hcz68_1 : w66.cell? ⟨gb376, 1, none⟩ = some (.slice none 0 0) := (blk_cell BK376.out 1).trans rfl; have hcz68_2 : w66.cell? ⟨gb376, 2, none⟩ = some (.int .i64 0) := (blk_cell BK376.out 2).trans rfl; have hcz68_3 : w66.cell? ⟨gb376, 3, none⟩ = some (.slice none 0 0) := (blk_cell BK376.out 3).trans rfl; have hfz68_0 := blk_frozen BK376.out 0; have hfz68_1 := blk_frozen BK376.out 1; have hfz68_2 := blk_frozen BK376.out 2; have hfz68_3 := blk_frozen BK376.out 3))
                  refine bodyPost_ret (results_ct rfl _ _ gb376 38 #[.int .i64 t379, .slice (some ⟨go52, 0, none⟩) t380.length co60, .int .i64 t383, .slice Ao61 t384.length co61] (0, 0) _ rfl (by (with_reducible repeat (first | refine blk_drewN ?_ _ | refine blk_drew ?_ | refine blk_alloc ?_ _)); refine blk_put (cs := #[.int .i64 t379, .slice (some ⟨go52, 0, none⟩) t380.length co60, .int .i64 t383, .slice none 0 0]) ?_ 3 _ rfl; (with_reducible repeat (first | refine blk_drewN ?_ _ | refine blk_drew ?_ | refine blk_alloc ?_ _)); refine blk_put (cs := #[.int .i64 t379, .slice (some ⟨go52, 0, none⟩) t380.length co60, .int .i64 0, .slice none 0 0]) ?_ 2 _ rfl; (with_reducible repeat (first | refine blk_drewN ?_ _ | refine blk_drew ?_ | refine blk_alloc ?_ _)); refine blk_put (cs := #[.int .i64 t379, .slice none 0 0, .int .i64 0, .slice none 0 0]) ?_ 1 _ rfl; (with_reducible repeat (first | refine blk_drewN ?_ _ | refine blk_drew ?_ | refine blk_alloc ?_ _)); refine blk_put (cs := #[.int .i64 0, .slice none 0 0, .int .i64 0, .slice none 0 0]) ?_ 0 _ rfl; (with_reducible repeat (first | refine blk_drewN ?_ _ | refine blk_drew ?_ | refine blk_alloc ?_ _)); exact BK376.out) Tryd.underlying38 rfl (by kernel_rfl)) rfl ?_
                  exact ⟨_, _, by first | rfl | (simp [errW_none, errW_some] <;> rfl) | (simp only [← hji36]; first | rfl | (simp [errW_none, errW_some] <;> rfl)) | (simp [*, errW_none, errW_some] <;> rfl), by (with_reducible repeat (first | apply Kd.R_alloc | apply Kd.R_drewN | apply Kd.R_drew)); exact Kd.R_mono (Kd.R_far (p := ⟨gb376, 3, none⟩) (Kd.R_far (p := ⟨gb376, 2, none⟩) (Kd.R_far (p := ⟨gb376, 1, none⟩) (Kd.R_far (p := ⟨gb376, 0, none⟩) (Kd.R_types HO382.out BK376.out (by decide)) (fun _ hk => hk.2) (.int .i64 t379)) (fun _ hk => hk.2) (.slice (some ⟨go52, 0, none⟩) t380.length co60)) (fun _ hk => hk.2) (.int .i64 t383)) (fun _ hk => hk.2) (.slice Ao61 t384.length co61)) (fun _ hk => trivial), by (with_reducible repeat (first | apply Kd.R_alloc | apply Kd.R_drewN | apply Kd.R_drew)); exact Kd.R_mono (Kd.R_far (p := ⟨gb376, 3, none⟩) (Kd.R_far (p := ⟨gb376, 2, none⟩) (Kd.R_far (p := ⟨gb376, 1, none⟩) (Kd.R_far (p := ⟨gb376, 0, none⟩) (Kd.R_types HO386.out BK376.out (by decide)) (fun _ hk => hk.2) (.int .i64 t379)) (fun _ hk => hk.2) (.slice (some ⟨go52, 0, none⟩) t380.length co60)) (fun _ hk => hk.2) (.int .i64 t383)) (fun _ hk => hk.2) (.slice Ao61 t384.length co61)) (fun _ hk => trivial), by repeat (first | (with_reducible first | exact HB.out | apply below_alloc | apply pw_below_drewN | apply below_drew1 | refine below_set ?_ GE375.out | refine below_set ?_ GE376.out | refine below_set ?_ GE387.out) | exact HB.out)⟩
                · rw [if_neg c51] at H
                  exact absurd H (by simp)
            · rw [if_neg c38] at H
              exact absurd H (by simp)
          · rw [if_neg c37] at H
            exact absurd H (by simp)

end Go.Proofs.YtgdpknmffohhaaaDoor.Pl

namespace Go.Proofs.YtgdpknmffohhaaaDoor.Pl
open Go.RowKit Go.Proofs.YtgdpknmffohhaaaDoorW.PrintWords Go.Proofs.YtgdpknmffohhaaaDoorW.PrintLast Go.Proofs.YtgdpknmffohhaaaDoorW.PrintMore
attribute [local go_sem] max2_int min2_int max_two min_two max_three min_three max_four min_four   -- for this text's walks alone
set_option linter.unusedVariables false
set_option linter.unusedSimpArgs false

/-! ### quillworkref06_Join: function 31 -/
end Go.Proofs.YtgdpknmffohhaaaDoor.Pl

/- ref06.List, ref06.Join: the program's answers. -/
namespace Go.Proofs.YtgdpknmffohhaaaDoor.Pl
open Go.RowKit Go.Lib Go.Proofs.YtgdpknmffohhaaaDoorW.PrintWords Go.Proofs.YtgdpknmffohhaaaDoorW.PrintLast Go.Proofs.YtgdpknmffohhaaaDoorW.PrintMore
set_option linter.unusedVariables false
theorem reflist_in_ (kind : Int) (x : Ln) (hz : Sz x) : Ev (fun k => (quillworkref06_May.f k x.q x.ls x.k x.cs).bind fun t => (quillworkref06_List.j0 k kind (!t) x.q x.ls x.k x.cs)) (tup_ (turnR (listF kind) x)) := by
  refine Ev.bind (ref_may_ x hz) ?_
  unfold turnR
  cases hm : mayL x with
  | false =>
    refine Ev.step (f := fun _ => some _) (fun k => ?_) (Ev.now _)
    simp only [quillworkref06_List.j0]
    rfl
  | true =>
    have hp := (mayL_parts hm).1
    rw [if_pos rfl]
    unfold listF
    refine Ev.step (f := fun _ => some _) (fun k => ?_) (Ev.now _)
    simp only [quillworkref06_List.j0]
    rw [if_neg (by decide), own_is_ x hz, Option.bind_some]
    dsimp only
    by_cases h0 : x.ls = []
    · rw [if_pos (by rw [h0]; rfl), if_pos h0, if_pos rfl]
      rfl
    · have hl : 0 < x.ls.length := List.length_pos_iff.2 h0
      have hla : lastF x.ls = rd x.ls ((x.ls.length : Int) - 1) := by unfold lastF; rw [if_neg (by omega)]
      rw [if_neg (by omega), if_neg h0, w64s_ _ (by omega), if_pos (by omega), if_pos (by omega), ← hla]
      dsimp only
      by_cases he : lastF x.ls = kind
      · rw [if_pos he, if_neg (by simp [he])]
        rfl
      · rw [if_neg he, if_pos (by omega), if_pos (by simp [he]), show ((x.ls.length : Int) - 1).toNat = x.ls.length - 1 by omega]
        rfl
theorem reflist_ev_ (kind : Int) (x : Ln) (hz : Sz x) : Ev (fun k => quillworkref06_List.f k x.q x.ls x.k x.cs kind) (tup_ (listR kind x)) := by
  unfold quillworkref06_List.f listR
  by_cases h0 : kind = 0
  · rw [if_pos (.inl h0)]
    exact Ev.congr (fun k => if_pos h0) (reflist_in_ kind x hz)
  · refine Ev.congr (fun k => if_neg h0) ?_
    by_cases h1 : kind = 1
    · rw [if_pos (.inr h1)]
      exact Ev.congr (fun k => if_pos h1) (reflist_in_ kind x hz)
    · rw [if_neg (by omega)]
      refine Ev.congr (fun k => if_neg h1) ?_
      refine Ev.step (f := fun _ => some _) (fun k => ?_) (Ev.now _)
      simp only [quillworkref06_List.j0]
      rfl
theorem reflist_calls_ (kind : Int) (x : Ln) (v : Value) (w : World) (hx : RdL w v x) (hz : Sz x) :
    Calls Tryd.prog 47 #[v, .int .i64 kind] w fun e w' => Back_ w (listR kind x) e w' := by
  obtain ⟨_, _, rfl, ⟨A1, c1, rfl, h1, hc1⟩, ⟨A3, c3, rfl, h3, hc3⟩⟩ := hx
  obtain ⟨k, hk⟩ := (reflist_ev_ kind x hz).rounds
  refine (quillworkref06_List.calls k _ _ _ _ _ _ _ _ _ _ _ _ _ _ w h1 hc1 h3 hc3 hk).mono ?_
  rintro e w' ⟨v1, v3, rfl, g1, g3, hb⟩
  exact ⟨_, rfl, ⟨_, _, rfl, Wr.of_R g1, Wr.of_R g3⟩, hb⟩
end Go.Proofs.YtgdpknmffohhaaaDoor.Pl

/- ref06.Format, walked. -/
namespace Go.Proofs.YtgdpknmffohhaaaDoor.Pl
open Go.RowKit Go.Lib Go.Proofs.YtgdpknmffohhaaaDoorW.PrintWords Go.Proofs.YtgdpknmffohhaaaDoorW.PrintLast Go.Proofs.YtgdpknmffohhaaaDoorW.PrintMore
set_option linter.unusedVariables false
theorem turnR_off' {F : Ln → Bool × Ln} {x : Ln} {r : Ln × Int} (hm : mayL x = true) : (turnR F x = r) = ((if (F x).1 = true then ((F x).2, (0 : Int)) else (zeroLn, 7)) = r) := by
  unfold turnR
  rw [if_pos hm]
set_option maxRecDepth 100000 in
set_option maxHeartbeats 8000000 in
theorem refformat_calls_ (kind : Int) (x : Ln) (v : Value) (w : World) (hx : RdL w v x) (hz : Sz x) :
    Calls Tryd.prog 49 #[v, .int .i64 kind] w fun e w' => Back_ w (formatR kind x) e w' := by
  have hu38 := Tryd.underlying38
  have HMY := Aside0.mk (fun W (hW : Below w.heap.size w W) => refmay_calls_ x v W (hx.below hW) hz)
  have HO := Aside0.mk (fun W (hW : Below w.heap.size w W) => refown_calls_ x v W (hx.below hW) hz)
  obtain ⟨_, _, rfl, ⟨A1, c1, rfl, h1, hc1⟩, ⟨A3, c3, rfl, h3, hc3⟩⟩ := hx
  obtain ⟨F0, F1, FB⟩ := two_boxes_ w (.cells #[.int .i64 x.q, .slice A1 x.ls.length c1, .int .i64 x.k, .slice A3 x.cs.length c3] 38) (.cells #[.int .i64 0, .slice none 0 0, .int .i64 0, .slice none 0 0] 38)
  clear h1 h3 hc1 hc3
  go_enter Tryd.func49, Tryd.ntmps49
  go_upto_region 1 with (fail)
  generalize (w.alloc (.cells #[.int .i64 x.q, .slice A1 x.ls.length c1, .int .i64 x.k, .slice A3 x.cs.length c3] 38)).alloc (.cells #[.int .i64 0, .slice none 0 0, .int .i64 0, .slice none 0 0] 38) = W0 at F0 F1 FB ⊢
  have p0 : W0.cell? ⟨w.heap.size, 0, none⟩ = some (.int .i64 x.q) := (blk_cell F0 0).trans rfl
  have p1 : W0.cell? ⟨w.heap.size, 1, none⟩ = some (.slice A1 x.ls.length c1) := (blk_cell F0 1).trans rfl
  have p2 : W0.cell? ⟨w.heap.size, 2, none⟩ = some (.int .i64 x.k) := (blk_cell F0 2).trans rfl
  have p3 : W0.cell? ⟨w.heap.size, 3, none⟩ = some (.slice A3 x.cs.length c3) := (blk_cell F0 3).trans rfl
  have q0 : W0.cell? ⟨w.heap.size + 1, 0, none⟩ = some (.int .i64 0) := (blk_cell F1 0).trans rfl
  have qe0 : W0.frozen? ⟨w.heap.size + 1, 0, none⟩ = false := blk_frozen F1 0
  have q1 : W0.cell? ⟨w.heap.size + 1, 1, none⟩ = some (.slice none 0 0) := (blk_cell F1 1).trans rfl
  have qe1 : W0.frozen? ⟨w.heap.size + 1, 1, none⟩ = false := blk_frozen F1 1
  have q2 : W0.cell? ⟨w.heap.size + 1, 2, none⟩ = some (.int .i64 0) := (blk_cell F1 2).trans rfl
  have qe2 : W0.frozen? ⟨w.heap.size + 1, 2, none⟩ = false := blk_frozen F1 2
  have q3 : W0.cell? ⟨w.heap.size + 1, 3, none⟩ = some (.slice none 0 0) := (blk_cell F1 3).trans rfl
  have qe3 : W0.frozen? ⟨w.heap.size + 1, 3, none⟩ = false := blk_frozen F1 3
  have HF0 := Aside0.mk F0
  have HF1 := Aside0.mk F1
  have HFB := Aside0.mk FB
  clear F0 F1 FB
  by_cases hk1 : kind < 0
  · have HR := Aside0.mk (show formatR kind x = (zeroLn, 1) by unfold formatR; rw [if_neg (by omega)])
    have e1 : decide (kind < 0) = true := decide_eq_true hk1
    clear hk1
    go_wp2
    refine bodyPost_ret (results_ct rfl _ _ (w.heap.size + 1) 38 #[.int .i64 0, .slice none 0 0, .int .i64 0, .slice none 0 0] (0, 0) _ rfl (put4_blk HF1.out) Tryd.underlying38 rfl (by kernel_rfl)) rfl ?_
    exact ⟨_, by rw [HR.out]; rfl, by rw [HR.out]; exact WrL_zero _ _, put4_below HFB.out (by omega)⟩
  have e1 : decide (kind < 0) = false := decide_eq_false hk1
  by_cases hk2 : 3 < kind
  · have HR := Aside0.mk (show formatR kind x = (zeroLn, 1) by unfold formatR; rw [if_neg (by omega)])
    have e2 : decide (3 < kind) = true := decide_eq_true hk2
    clear hk1 hk2
    go_wp2
    refine bodyPost_ret (results_ct rfl _ _ (w.heap.size + 1) 38 #[.int .i64 0, .slice none 0 0, .int .i64 0, .slice none 0 0] (0, 0) _ rfl (put4_blk HF1.out) Tryd.underlying38 rfl (by kernel_rfl)) rfl ?_
    exact ⟨_, by rw [HR.out]; rfl, by rw [HR.out]; exact WrL_zero _ _, put4_below HFB.out (by omega)⟩
  have e2 : decide (3 < kind) = false := decide_eq_false hk2
  have hf0 : formatR kind x = turnR (formatF kind) x := by unfold formatR; rw [if_pos (by omega)]
  clear hk1 hk2
  cases hm : mayL x with
  | false =>
    rw [hm] at HMY
    have HR := Aside0.mk (show formatR kind x = (zeroLn, 1) by rw [hf0]; unfold turnR; rw [if_neg (by rw [hm]; decide)])
    clear hf0 hm
    go_wp2_with (go_at_call 38; refine (HMY.out _ HFB.out).mono ?_; rintro e w1 ⟨rfl, hb⟩; have HB1 := Aside0.mk hb; have fb := blk_below HF0.out hb; have fz := blk_below HF1.out hb; have r0 : w1.cell? ⟨w.heap.size, 0, none⟩ = some (.int .i64 x.q) := (blk_cell fb 0).trans rfl; have r1 : w1.cell? ⟨w.heap.size, 1, none⟩ = some (.slice A1 x.ls.length c1) := (blk_cell fb 1).trans rfl; have r2 : w1.cell? ⟨w.heap.size, 2, none⟩ = some (.int .i64 x.k) := (blk_cell fb 2).trans rfl; have r3 : w1.cell? ⟨w.heap.size, 3, none⟩ = some (.slice A3 x.cs.length c3) := (blk_cell fb 3).trans rfl; have s0 : w1.cell? ⟨w.heap.size + 1, 0, none⟩ = some (.int .i64 0) := (blk_cell fz 0).trans rfl; have se0 : w1.frozen? ⟨w.heap.size + 1, 0, none⟩ = false := blk_frozen fz 0; have s1 : w1.cell? ⟨w.heap.size + 1, 1, none⟩ = some (.slice none 0 0) := (blk_cell fz 1).trans rfl; have se1 : w1.frozen? ⟨w.heap.size + 1, 1, none⟩ = false := blk_frozen fz 1; have s2 : w1.cell? ⟨w.heap.size + 1, 2, none⟩ = some (.int .i64 0) := (blk_cell fz 2).trans rfl; have se2 : w1.frozen? ⟨w.heap.size + 1, 2, none⟩ = false := blk_frozen fz 2; have s3 : w1.cell? ⟨w.heap.size + 1, 3, none⟩ = some (.slice none 0 0) := (blk_cell fz 3).trans rfl; have se3 : w1.frozen? ⟨w.heap.size + 1, 3, none⟩ = false := blk_frozen fz 3; have HG0 := Aside0.mk fb; have HG1 := Aside0.mk fz; clear hb fb fz)
    refine bodyPost_ret (results_ct rfl _ _ (w.heap.size + 1) 38 #[.int .i64 0, .slice none 0 0, .int .i64 0, .slice none 0 0] (0, 0) _ rfl (put4_blk HG1.out) Tryd.underlying38 rfl (by kernel_rfl)) rfl ?_
    exact ⟨_, by rw [HR.out]; rfl, by rw [HR.out]; exact WrL_zero _ _, put4_below (below_step HFB.out HB1.out) (by omega)⟩
  | true =>
    rw [hm] at HMY
    by_cases hl : 0 < x.ls.length
    · have e3 : decide (0 < x.ls.length) = true := decide_eq_true hl
      have HR := Aside0.mk (show formatR kind x = (zeroLn, 7) by rw [hf0, turnR_off' hm]; unfold formatF; rw [if_neg (show ¬ x.ls = [] by intro e; rw [e] at hl; exact absurd hl (by simp))]; rfl)
      clear hf0 hm hl
      go_wp2_with (go_at_call 38; refine (HMY.out _ HFB.out).mono ?_; rintro e w1 ⟨rfl, hb⟩; have HB1 := Aside0.mk hb; have fb := blk_below HF0.out hb; have fz := blk_below HF1.out hb; have r0 : w1.cell? ⟨w.heap.size, 0, none⟩ = some (.int .i64 x.q) := (blk_cell fb 0).trans rfl; have r1 : w1.cell? ⟨w.heap.size, 1, none⟩ = some (.slice A1 x.ls.length c1) := (blk_cell fb 1).trans rfl; have r2 : w1.cell? ⟨w.heap.size, 2, none⟩ = some (.int .i64 x.k) := (blk_cell fb 2).trans rfl; have r3 : w1.cell? ⟨w.heap.size, 3, none⟩ = some (.slice A3 x.cs.length c3) := (blk_cell fb 3).trans rfl; have s0 : w1.cell? ⟨w.heap.size + 1, 0, none⟩ = some (.int .i64 0) := (blk_cell fz 0).trans rfl; have se0 : w1.frozen? ⟨w.heap.size + 1, 0, none⟩ = false := blk_frozen fz 0; have s1 : w1.cell? ⟨w.heap.size + 1, 1, none⟩ = some (.slice none 0 0) := (blk_cell fz 1).trans rfl; have se1 : w1.frozen? ⟨w.heap.size + 1, 1, none⟩ = false := blk_frozen fz 1; have s2 : w1.cell? ⟨w.heap.size + 1, 2, none⟩ = some (.int .i64 0) := (blk_cell fz 2).trans rfl; have se2 : w1.frozen? ⟨w.heap.size + 1, 2, none⟩ = false := blk_frozen fz 2; have s3 : w1.cell? ⟨w.heap.size + 1, 3, none⟩ = some (.slice none 0 0) := (blk_cell fz 3).trans rfl; have se3 : w1.frozen? ⟨w.heap.size + 1, 3, none⟩ = false := blk_frozen fz 3; have HG0 := Aside0.mk fb; have HG1 := Aside0.mk fz; clear hb fb fz)
      refine bodyPost_ret (results_ct rfl _ _ (w.heap.size + 1) 38 #[.int .i64 0, .slice none 0 0, .int .i64 0, .slice none 0 0] (0, 0) _ rfl (put4_blk HG1.out) Tryd.underlying38 rfl (by kernel_rfl)) rfl ?_
      exact ⟨_, by rw [HR.out]; rfl, by rw [HR.out]; exact WrL_zero _ _, put4_below (below_step HFB.out HB1.out) (by omega)⟩
    · have e3 : decide (0 < x.ls.length) = false := decide_eq_false hl
      have hl0 : x.ls = [] := List.length_eq_zero_iff.1 (by omega)
      by_cases hkk : x.k = kind
      · have HR := Aside0.mk (show formatR kind x = (zeroLn, 7) by rw [hf0, turnR_off' hm]; unfold formatF; rw [if_pos hl0]; simp [hkk])
        have e4 : (x.k == kind) = true := beq_iff_eq.2 hkk
        clear hf0 hm hl hl0 hkk
        go_wp2_with (go_at_call 38; refine (HMY.out _ HFB.out).mono ?_; rintro e w1 ⟨rfl, hb⟩; have HB1 := Aside0.mk hb; have fb := blk_below HF0.out hb; have fz := blk_below HF1.out hb; have r0 : w1.cell? ⟨w.heap.size, 0, none⟩ = some (.int .i64 x.q) := (blk_cell fb 0).trans rfl; have r1 : w1.cell? ⟨w.heap.size, 1, none⟩ = some (.slice A1 x.ls.length c1) := (blk_cell fb 1).trans rfl; have r2 : w1.cell? ⟨w.heap.size, 2, none⟩ = some (.int .i64 x.k) := (blk_cell fb 2).trans rfl; have r3 : w1.cell? ⟨w.heap.size, 3, none⟩ = some (.slice A3 x.cs.length c3) := (blk_cell fb 3).trans rfl; have s0 : w1.cell? ⟨w.heap.size + 1, 0, none⟩ = some (.int .i64 0) := (blk_cell fz 0).trans rfl; have se0 : w1.frozen? ⟨w.heap.size + 1, 0, none⟩ = false := blk_frozen fz 0; have s1 : w1.cell? ⟨w.heap.size + 1, 1, none⟩ = some (.slice none 0 0) := (blk_cell fz 1).trans rfl; have se1 : w1.frozen? ⟨w.heap.size + 1, 1, none⟩ = false := blk_frozen fz 1; have s2 : w1.cell? ⟨w.heap.size + 1, 2, none⟩ = some (.int .i64 0) := (blk_cell fz 2).trans rfl; have se2 : w1.frozen? ⟨w.heap.size + 1, 2, none⟩ = false := blk_frozen fz 2; have s3 : w1.cell? ⟨w.heap.size + 1, 3, none⟩ = some (.slice none 0 0) := (blk_cell fz 3).trans rfl; have se3 : w1.frozen? ⟨w.heap.size + 1, 3, none⟩ = false := blk_frozen fz 3; have HG0 := Aside0.mk fb; have HG1 := Aside0.mk fz; clear hb fb fz)
        refine bodyPost_ret (results_ct rfl _ _ (w.heap.size + 1) 38 #[.int .i64 0, .slice none 0 0, .int .i64 0, .slice none 0 0] (0, 0) _ rfl (put4_blk HG1.out) Tryd.underlying38 rfl (by kernel_rfl)) rfl ?_
        exact ⟨_, by rw [HR.out]; rfl, by rw [HR.out]; exact WrL_zero _ _, put4_below (below_step HFB.out HB1.out) (by omega)⟩
      · have HR := Aside0.mk (show formatR kind x = ({ x with k := kind }, 0) by rw [hf0]; unfold turnR formatF; rw [if_pos hm, if_pos hl0, if_pos (by simp [hkk])])
        have e4 : (x.k == kind) = false := beq_eq_false_iff_ne.2 hkk
        clear hf0 hm hl hl0 hkk
        go_upto_region 6 with (first | (go_at_call 38; refine (HMY.out _ HFB.out).mono ?_; rintro e w1 ⟨rfl, hb⟩; have HB1 := Aside0.mk hb; have fb := blk_below HF0.out hb; have fz := blk_below HF1.out hb; have r0 : w1.cell? ⟨w.heap.size, 0, none⟩ = some (.int .i64 x.q) := (blk_cell fb 0).trans rfl; have r1 : w1.cell? ⟨w.heap.size, 1, none⟩ = some (.slice A1 x.ls.length c1) := (blk_cell fb 1).trans rfl; have r2 : w1.cell? ⟨w.heap.size, 2, none⟩ = some (.int .i64 x.k) := (blk_cell fb 2).trans rfl; have r3 : w1.cell? ⟨w.heap.size, 3, none⟩ = some (.slice A3 x.cs.length c3) := (blk_cell fb 3).trans rfl; have s0 : w1.cell? ⟨w.heap.size + 1, 0, none⟩ = some (.int .i64 0) := (blk_cell fz 0).trans rfl; have se0 : w1.frozen? ⟨w.heap.size + 1, 0, none⟩ = false := blk_frozen fz 0; have s1 : w1.cell? ⟨w.heap.size + 1, 1, none⟩ = some (.slice none 0 0) := (blk_cell fz 1).trans rfl; have se1 : w1.frozen? ⟨w.heap.size + 1, 1, none⟩ = false := blk_frozen fz 1; have s2 : w1.cell? ⟨w.heap.size + 1, 2, none⟩ = some (.int .i64 0) := (blk_cell fz 2).trans rfl; have se2 : w1.frozen? ⟨w.heap.size + 1, 2, none⟩ = false := blk_frozen fz 2; have s3 : w1.cell? ⟨w.heap.size + 1, 3, none⟩ = some (.slice none 0 0) := (blk_cell fz 3).trans rfl; have se3 : w1.frozen? ⟨w.heap.size + 1, 3, none⟩ = false := blk_frozen fz 3; have HG0 := Aside0.mk fb; have HG1 := Aside0.mk fz; clear hb fb fz) | (go_at_call 26; refine (HO.out _ (below_step HFB.out HB1.out)).mono ?_; rintro e w2 ⟨u1, u3, rfl, ho1, ho3, hb⟩; obtain ⟨B1, d1, rfl⟩ := Kd.R_slice ho1; obtain ⟨B3, d3, rfl⟩ := Kd.R_slice ho3; have HO1 := Aside0.mk (Wr.of_R ho1); have HO3 := Aside0.mk (Wr.of_R ho3); have HB2 := Aside0.mk hb; clear ho1 ho3 hb))
        have F3 := heap_alloc_new w2 (.cells #[.int .i64 x.q, .slice B1 x.ls.length d1, .int .i64 x.k, .slice B3 x.cs.length d3] 38)
        have FL := below_alloc (Below.refl w2.heap.size w2) (.cells #[.int .i64 x.q, .slice B1 x.ls.length d1, .int .i64 x.k, .slice B3 x.cs.length d3] 38)
        have FR := blk_below (blk_below HG1.out HB2.out) FL
        have hbo : w.heap.size + 1 ≠ w2.heap.size := Nat.ne_of_lt (blk_lt (blk_below HG1.out HB2.out))
        have hbg : w.heap.size ≤ w2.heap.size := by have := blk_lt (blk_below HG1.out HB2.out); omega
        have HBB := below_step (below_step (below_step HFB.out HB1.out) HB2.out) FL
        have hsz1 := (below_step HFB.out HB1.out).size
        have h1 := (HO1.out.below FL).lower hsz1
        have h3 := (HO3.out.below FL).lower hsz1
        generalize w2.alloc (.cells #[.int .i64 x.q, .slice B1 x.ls.length d1, .int .i64 x.k, .slice B3 x.cs.length d3] 38) = W3 at F3 FL FR HBB h1 h3 ⊢
        generalize w2.heap.size = bo at F3 hbo hbg ⊢
        have o0 : W3.cell? ⟨bo, 0, none⟩ = some (.int .i64 x.q) := (blk_cell F3 0).trans rfl
        have oe0 : W3.frozen? ⟨bo, 0, none⟩ = false := blk_frozen F3 0
        have o1 : W3.cell? ⟨bo, 1, none⟩ = some (.slice B1 x.ls.length d1) := (blk_cell F3 1).trans rfl
        have oe1 : W3.frozen? ⟨bo, 1, none⟩ = false := blk_frozen F3 1
        have o2 : W3.cell? ⟨bo, 2, none⟩ = some (.int .i64 x.k) := (blk_cell F3 2).trans rfl
        have oe2 : W3.frozen? ⟨bo, 2, none⟩ = false := blk_frozen F3 2
        have o3 : W3.cell? ⟨bo, 3, none⟩ = some (.slice B3 x.cs.length d3) := (blk_cell F3 3).trans rfl
        have oe3 : W3.frozen? ⟨bo, 3, none⟩ = false := blk_frozen F3 3
        have A3 := Aside0.mk F3
        have AR := Aside0.mk FR
        have AB := Aside0.mk HBB
        have A1_ := Aside0.mk h1
        have A3_ := Aside0.mk h3
        have AO := Aside0.mk hbo
        have AG := Aside0.mk hbg
        clear F3 FR FL HBB h1 h3 hbo hbg hsz1 HO1 HO3 HB1 HB2 HG0 HG1 HF0 HF1 HFB HMY HO e1 e2 e3 e4 p0 p1 p2 p3 q0 qe0 q1 qe1 q2 qe2 q3 qe3 r0 r1 r2 r3 s0 se0 s1 se1 s2 se2 s3 se3
        go_upto_region 7 with (fail)
        have q0 := blk_put A3.out 2 (.int .i64 kind) rfl
        have q1 := blk_off_ (g := bo) (i := 2) (u := .int .i64 kind) AR.out AO.out
        have q2 := WrI_put_ A1_.out A3.out (by decide) 2 (.int .i64 kind)
        have q3 := WrC_put_ A3_.out A3.out (by decide) 2 (.int .i64 kind)
        have q4 := below_set (g := bo) (j := 2) (v := .int .i64 kind) AB.out AG.out
        generalize W3.setCell ⟨bo, 2, none⟩ (.int .i64 kind) = W4 at q0 q1 q2 q3 q4 ⊢
        have g0 : W4.cell? ⟨bo, 0, none⟩ = some (.int .i64 x.q) := (blk_cell q0 0).trans rfl
        have g1 : W4.cell? ⟨bo, 1, none⟩ = some (.slice B1 x.ls.length d1) := (blk_cell q0 1).trans rfl
        have g2 : W4.cell? ⟨bo, 2, none⟩ = some (.int .i64 kind) := (blk_cell q0 2).trans rfl
        have g3 : W4.cell? ⟨bo, 3, none⟩ = some (.slice B3 x.cs.length d3) := (blk_cell q0 3).trans rfl
        have h0 : W4.cell? ⟨w.heap.size + 1, 0, none⟩ = some (.int .i64 0) := (blk_cell q1 0).trans rfl
        have he0 : W4.frozen? ⟨w.heap.size + 1, 0, none⟩ = false := blk_frozen q1 0
        have h1 : W4.cell? ⟨w.heap.size + 1, 1, none⟩ = some (.slice none 0 0) := (blk_cell q1 1).trans rfl
        have he1 : W4.frozen? ⟨w.heap.size + 1, 1, none⟩ = false := blk_frozen q1 1
        have h2 : W4.cell? ⟨w.heap.size + 1, 2, none⟩ = some (.int .i64 0) := (blk_cell q1 2).trans rfl
        have he2 : W4.frozen? ⟨w.heap.size + 1, 2, none⟩ = false := blk_frozen q1 2
        have h3 : W4.cell? ⟨w.heap.size + 1, 3, none⟩ = some (.slice none 0 0) := (blk_cell q1 3).trans rfl
        have he3 : W4.frozen? ⟨w.heap.size + 1, 3, none⟩ = false := blk_frozen q1 3
        have HQ := Aside0.mk (show WrL W4 w.heap.size (.agg #[.int .i64 x.q, .slice B1 x.ls.length d1, .int .i64 kind, .slice B3 x.cs.length d3]) { x with k := kind } from ⟨_, _, rfl, q2, q3⟩)
        have S1 := Aside0.mk q1
        have S4 := Aside0.mk q4
        clear q0 q1 q2 q3 q4 A3 AR AB A1_ A3_ AO AG o0 oe0 o1 oe1 o2 oe2 o3 oe3
        go_wp2_with (fail)
        refine bodyPost_ret (results_ct rfl _ _ (w.heap.size + 1) 38 #[.int .i64 x.q, .slice B1 x.ls.length d1, .int .i64 kind, .slice B3 x.cs.length d3] (0, 0) _ rfl (put4_blk S1.out) Tryd.underlying38 rfl (by kernel_rfl)) rfl ?_
        exact ⟨_, by rw [HR.out]; rfl, by rw [HR.out]; exact put4_WrL HQ.out S1.out, put4_below S4.out (by omega)⟩
end Go.Proofs.YtgdpknmffohhaaaDoor.Pl

/- lines.Frame, lines.Join. -/
namespace Go.Proofs.YtgdpknmffohhaaaDoor.Pl
open Go.RowKit Go.Lib Go.Proofs.YtgdpknmffohhaaaDoorW.PrintWords Go.Proofs.YtgdpknmffohhaaaDoorW.PrintLast Go.Proofs.YtgdpknmffohhaaaDoorW.PrintMore
set_option linter.unusedVariables false
set_option maxRecDepth 100000 in
set_option maxHeartbeats 4000000 in
theorem frame_calls_ (x : Ln) (v : Value) (w : World) (hx : RdL w v x) (hz : Sz x) :
    Calls Tryd.prog 40 #[v] w fun e w' => ∃ B1 d1, e = .returned (.agg #[.int .i64 x.q, .slice B1 x.ls.length d1, .int .i64 x.k, .slice none 0 0]) ∧ Kd.R (Kd.int .i64) 3 w' w.heap.size (fun _ => True) (.slice B1 x.ls.length d1) x.ls ∧ Below w.heap.size w w' := by
  have hu38 := Tryd.underlying38
  obtain ⟨_, _, rfl, ⟨A1, c1, rfl, h1, hc1⟩, ⟨A3, c3, rfl, h3, hc3⟩⟩ := hx
  have hX : RdL w (.agg #[.int .i64 x.q, .slice A1 x.ls.length c1, .int .i64 x.k, .slice A3 x.cs.length c3]) x := ⟨_, _, rfl, ⟨A1, c1, rfl, h1, hc1⟩, ⟨A3, c3, rfl, h3, hc3⟩⟩
  have HO := Aside0.mk (fun W (hW : Below w.heap.size w W) => own_calls_ x _ W (hX.below hW) hz)
  obtain ⟨F1, F2, F3⟩ := two_boxes_ w (.cells #[.int .i64 x.q, .slice A1 x.ls.length c1, .int .i64 x.k, .slice A3 x.cs.length c3] 38) (.cells #[.int .i64 0, .slice none 0 0, .int .i64 0, .slice none 0 0] 38)
  clear h1 h3 hc1 hc3 hz hX
  go_enter Tryd.func40, Tryd.ntmps40
  go_upto_region 1 with (fail)
  generalize (w.alloc (.cells #[.int .i64 x.q, .slice A1 x.ls.length c1, .int .i64 x.k, .slice A3 x.cs.length c3] 38)).alloc (.cells #[.int .i64 0, .slice none 0 0, .int .i64 0, .slice none 0 0] 38) = W0 at F1 F2 F3 ⊢
  have a0 : W0.cell? ⟨w.heap.size, 0, none⟩ = some (.int .i64 x.q) := (blk_cell F1 0).trans rfl
  have a1 : W0.cell? ⟨w.heap.size, 1, none⟩ = some (.slice A1 x.ls.length c1) := (blk_cell F1 1).trans rfl
  have a2 : W0.cell? ⟨w.heap.size, 2, none⟩ = some (.int .i64 x.k) := (blk_cell F1 2).trans rfl
  have a3 : W0.cell? ⟨w.heap.size, 3, none⟩ = some (.slice A3 x.cs.length c3) := (blk_cell F1 3).trans rfl
  have H1 := Aside0.mk F1
  have H2 := Aside0.mk F2
  have H3 := Aside0.mk F3
  clear F1 F2 F3
  go_upto_region 2 with (go_at_call 39; refine (HO.out _ H3.out).mono ?_; rintro e w2 ⟨u1, u3, rfl, ho1, ho3, hb⟩; obtain ⟨B1, d1, rfl⟩ := Kd.R_slice ho1; obtain ⟨B3, d3, rfl⟩ := Kd.R_slice ho3; have HO1 := Aside0.mk ho1; have fb := blk_below H1.out hb; have e0 := blk_frozen fb 0; have e1 := blk_frozen fb 1; have e2 := blk_frozen fb 2; have e3 := blk_frozen fb 3; have b0 : w2.cell? ⟨w.heap.size, 0, none⟩ = some (.int .i64 x.q) := (blk_cell fb 0).trans rfl; have b1 : w2.cell? ⟨w.heap.size, 1, none⟩ = some (.slice A1 x.ls.length c1) := (blk_cell fb 1).trans rfl; have b2 : w2.cell? ⟨w.heap.size, 2, none⟩ = some (.int .i64 x.k) := (blk_cell fb 2).trans rfl; have b3 : w2.cell? ⟨w.heap.size, 3, none⟩ = some (.slice A3 x.cs.length c3) := (blk_cell fb 3).trans rfl; have FB := Aside0.mk fb; have HB2 := Aside0.mk hb; clear ho1 ho3 hb fb)
  have P1 := put4_blk (a := .int .i64 x.q) (b := .slice B1 x.ls.length d1) (c := .int .i64 x.k) (d := .slice B3 x.cs.length d3) FB.out
  have P2 := put4_off (g := w.heap.size) (a := .int .i64 x.q) (b := .slice B1 x.ls.length d1) (c := .int .i64 x.k) (d := .slice B3 x.cs.length d3) (blk_below H2.out HB2.out) (by omega)
  have PO1 := put4_R (a := .int .i64 x.q) (b := .slice B1 x.ls.length d1) (c := .int .i64 x.k) (d := .slice B3 x.cs.length d3) (Kd.R_lower HO1.out (below_size H3.out)) FB.out (by decide)
  have PB := put4_below (a := .int .i64 x.q) (b := .slice B1 x.ls.length d1) (c := .int .i64 x.k) (d := .slice B3 x.cs.length d3) (below_step H3.out HB2.out) (Nat.le_refl _)
  unfold put4_ at P1 P2 PO1 PB
  generalize (((w2.setCell ⟨w.heap.size, 0, none⟩ (.int .i64 x.q)).setCell ⟨w.heap.size, 1, none⟩ (.slice B1 x.ls.length d1)).setCell ⟨w.heap.size, 2, none⟩ (.int .i64 x.k)).setCell ⟨w.heap.size, 3, none⟩ (.slice B3 x.cs.length d3) = W3 at P1 P2 PO1 PB ⊢
  clear e0 e1 e2 e3 b0 b1 b2 b3 a0 a1 a2 a3 HO1 FB HB2 H1 H2 H3 HO
  have e3 := blk_frozen P1 3
  have b3 : W3.cell? ⟨w.heap.size, 3, none⟩ = some (.slice B3 x.cs.length d3) := (blk_cell P1 3).trans rfl
  have q1 : (W3.setCell ⟨w.heap.size, 3, none⟩ (.slice none 0 0)).heap[w.heap.size]? = some (.cells #[.int .i64 x.q, .slice B1 x.ls.length d1, .int .i64 x.k, .slice none 0 0] 38 (0, 0)) := blk_put P1 3 _ rfl
  have q2 := blk_off_ (i := 3) (u := .slice none 0 0) (g := w.heap.size) P2 (by omega)
  have qO := R_put_ PO1 P1 (by decide) 3 (.slice none 0 0)
  have qB := below_set (g := w.heap.size) (j := 3) (v := .slice none 0 0) PB (Nat.le_refl _)
  go_upto_region 3 with (fail)
  generalize W3.setCell ⟨w.heap.size, 3, none⟩ (.slice none 0 0) = W4 at q1 q2 qO qB ⊢
  clear e3 b3 P1 P2 PO1 PB
  have a0 : W4.cell? ⟨w.heap.size, 0, none⟩ = some (.int .i64 x.q) := (blk_cell q1 0).trans rfl
  have a1 : W4.cell? ⟨w.heap.size, 1, none⟩ = some (.slice B1 x.ls.length d1) := (blk_cell q1 1).trans rfl
  have a2 : W4.cell? ⟨w.heap.size, 2, none⟩ = some (.int .i64 x.k) := (blk_cell q1 2).trans rfl
  have a3 : W4.cell? ⟨w.heap.size, 3, none⟩ = some (.slice none 0 0) := (blk_cell q1 3).trans rfl
  have e0 := blk_frozen q2 0
  have e1 := blk_frozen q2 1
  have e2 := blk_frozen q2 2
  have e3 := blk_frozen q2 3
  have b0 : W4.cell? ⟨w.heap.size + 1, 0, none⟩ = some (.int .i64 0) := (blk_cell q2 0).trans rfl
  have b1 : W4.cell? ⟨w.heap.size + 1, 1, none⟩ = some (.slice none 0 0) := (blk_cell q2 1).trans rfl
  have b2 : W4.cell? ⟨w.heap.size + 1, 2, none⟩ = some (.int .i64 0) := (blk_cell q2 2).trans rfl
  have b3 : W4.cell? ⟨w.heap.size + 1, 3, none⟩ = some (.slice none 0 0) := (blk_cell q2 3).trans rfl
  have Q2 := Aside0.mk q2
  have QO := Aside0.mk qO
  have QB := Aside0.mk qB
  clear q1 q2 qO qB
  go_wp2
  refine bodyPost_ret (results_cell_row rfl _ _ (w.heap.size + 1) 38 #[.int .i64 x.q, .slice B1 x.ls.length d1, .int .i64 x.k, .slice none 0 0] (0, 0) _ rfl (put4_blk Q2.out) Tryd.underlying38 rfl (by kernel_rfl)) rfl ?_
  exact ⟨_, _, rfl, put4_R QO.out Q2.out (by decide), put4_below QB.out (Nat.le_succ _)⟩
end Go.Proofs.YtgdpknmffohhaaaDoor.Pl
