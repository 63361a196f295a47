/- Printed texts, and given ones, of the seat's functions, in one file. -/
import Derived.Test.YtgdpknmffohhaaaDoorM0
import Derived.Test.YtgdpknmffohhaaaDoorM1
import Derived.BigRegion
namespace Go.Proofs.YtgdpknmffohhaaaDoor.Pl
open Go.RowKit Go.Proofs.YtgdpknmffohhaaaDoorW.PrintWords Go.Proofs.YtgdpknmffohhaaaDoorW.PrintLast Go.Proofs.YtgdpknmffohhaaaDoorW.PrintMore
attribute [local go_sem] max2_int min2_int max_two min_two max_three min_three max_four min_four   -- for this text's walks alone
set_option linter.unusedVariables false
set_option linter.unusedSimpArgs false

/-! ### quillworkref06_Same: function 32 -/
def quillworkref06_Same.f (k : Nat) (a0_0 : Int) (l0_1 : List Int) (a0_2 : Int) (l0_3 : List (S71)) (a1_0 : Int) (l1_1 : List Int) (a1_2 : Int) (l1_3 : List (S71)) : Option (Bool) := if a0_0 = a1_0 then ((quillworkref06_ints.f k l0_1 l1_1).bind fun t430 => (if t430 = true then (if a0_2 = a1_2 then ((quillworkref05_Same.f k l0_3 l1_3).bind fun t431 => (some t431)) else (some false)) else (some false))) else (some false)
set_option maxHeartbeats 8000000 in
set_option maxRecDepth 100000 in
theorem quillworkref06_Same.calls (k : Nat) (a0_0 : Int) (A0_1 : Option Addr) (c0_1 : Nat) (l0_1 : List Int) (a0_2 : Int) (A0_3 : Option Addr) (c0_3 : Nat) (l0_3 : List (S71)) (a1_0 : Int) (A1_1 : Option Addr) (c1_1 : Nat) (l1_1 : List Int) (a1_2 : Int) (A1_3 : Option Addr) (c1_3 : Nat) (l1_3 : List (S71)) (r : Bool) (w : World) (hr0_1 : Kd.C (Kd.int .i64) w A0_1 l0_1.length l0_1) (hc0_1 : l0_1.length ≤ c0_1) (hr0_3 : Kd.C k71 w A0_3 l0_3.length l0_3) (hc0_3 : l0_3.length ≤ c0_3) (hr1_1 : Kd.C (Kd.int .i64) w A1_1 l1_1.length l1_1) (hc1_1 : l1_1.length ≤ c1_1) (hr1_3 : Kd.C k71 w A1_3 l1_3.length l1_3) (hc1_3 : l1_3.length ≤ c1_3) (h : quillworkref06_Same.f k a0_0 l0_1 a0_2 l0_3 a1_0 l1_1 a1_2 l1_3 = some r) :
    Calls Tryd.prog 32 #[.agg #[.int .i64 a0_0, .slice A0_1 l0_1.length c0_1, .int .i64 a0_2, .slice A0_3 l0_3.length c0_3], .agg #[.int .i64 a1_0, .slice A1_1 l1_1.length c1_1, .int .i64 a1_2, .slice A1_3 l1_3.length c1_3]] w fun e w' => e = .returned (.bool r) ∧ Below w.heap.size w w' := by
  have hu38 := Tryd.underlying38
  have HR0_1 := Aside0.mk hr0_1
  have HC0_1 := Aside0.mk hc0_1
  clear hr0_1 hc0_1
  have HR0_3 := Aside0.mk hr0_3
  have HC0_3 := Aside0.mk hc0_3
  clear hr0_3 hc0_3
  have HR1_1 := Aside0.mk hr1_1
  have HC1_1 := Aside0.mk hc1_1
  clear hr1_1 hc1_1
  have HR1_3 := Aside0.mk hr1_3
  have HC1_3 := Aside0.mk hc1_3
  clear hr1_3 hc1_3
  have HB := Aside0.mk (Below.refl w.heap.size w)
  have H : (if a0_0 = a1_0 then ((quillworkref06_ints.f k l0_1 l1_1).bind fun t430 => (if t430 = true then (if a0_2 = a1_2 then ((quillworkref05_Same.f k l0_3 l1_3).bind fun t431 => (some t431)) else (some false)) else (some false))) else (some false)) = some r := h
  clear h
  by_cases c3 : a0_0 = a1_0
  · rw [if_pos c3] at H
    have c3b0 : (a0_0 == a1_0) = true := beq_iff_eq.mpr c3
    have c3b1 : (a0_0 != a1_0) = false := bne_eq_false_iff_eq.mpr c3
    clear c3
    replace H := Option.bind_eq_some_iff.mp H
    obtain ⟨t430, A40, H⟩ := H
    replace H : (if t430 = true then (if a0_2 = a1_2 then ((quillworkref05_Same.f k l0_3 l1_3).bind fun t431 => (some t431)) else (some false)) else (some false)) = some r := H
    have A4 := Aside0.mk A40
    clear A40
    by_cases c5 : t430 = true
    · subst c5
      have H1 : (if a0_2 = a1_2 then ((quillworkref05_Same.f k l0_3 l1_3).bind fun t431 => (some t431)) else (some false)) = some r := by rw [if_pos rfl] at H; exact H
      clear H
      have H := H1
      clear H1
      by_cases c6 : a0_2 = a1_2
      · rw [if_pos c6] at H
        have c6b0 : (a0_2 == a1_2) = true := beq_iff_eq.mpr c6
        have c6b1 : (a0_2 != a1_2) = false := bne_eq_false_iff_eq.mpr c6
        clear c6
        replace H := Option.bind_eq_some_iff.mp H
        obtain ⟨t431, A70, H⟩ := H
        replace H : (some t431) = some r := H
        have A7 := Aside0.mk A70
        clear A70
        obtain rfl := Option.some.inj H
        go_enter Tryd.func32, Tryd.ntmps32
        go_wp2_with (first | ((with_reducible refine gate_dst (N := 2) rfl ?_); refine box_event ?hg (N := 2) ?hd (cs := #[.int .i64 a0_0, .slice A0_1 l0_1.length c0_1, .int .i64 a0_2, .slice A0_3 l0_3.length c0_3]) (t := 38) ?hr ?_; (case hd => rfl); (case hg => rfl); (case hr => first | (go_simp; done) | (go_simp; rfl)); intro gb428 hg w8 hbox hb; have n0_ := Aside0.mk (below_step (by repeat (first | (with_reducible first | exact HB.out | apply below_alloc | apply pw_below_drewN | apply below_drew1) | exact HB.out)) hb); have n1_ := Aside0.mk (hbox); have n2_ := Aside0.mk ((by rw [hg]; exact (below_size (by repeat (first | (with_reducible first | exact HB.out | apply below_alloc | apply pw_below_drewN | apply below_drew1) | exact HB.out))) : w.heap.size ≤ gb428)); have n3_ := Aside0.mk ((by rw [hg]; exact (below_size (by repeat (first | (with_reducible first | exact HB.out | apply below_alloc | apply pw_below_drewN | apply below_drew1) | exact HB.out))) : w.heap.size ≤ gb428)); clear HB; have HB := n0_; have BK428 := n1_; have GW428 := n2_; have GE428 := n3_; clear n0_ n1_ n2_ n3_; clear hb hbox hg) | ((with_reducible refine gate_dst (N := 3) rfl ?_); refine box_event ?hg (N := 3) ?hd (cs := #[.int .i64 a1_0, .slice A1_1 l1_1.length c1_1, .int .i64 a1_2, .slice A1_3 l1_3.length c1_3]) (t := 38) ?hr ?_; (case hd => rfl); (case hg => rfl); (case hr => first | (go_simp; done) | (go_simp; rfl)); intro gb429 hg w9 hbox hb; have n0_ := Aside0.mk (blk_below (g := gb428) (o := .cells #[.int .i64 a0_0, .slice A0_1 l0_1.length c0_1, .int .i64 a0_2, .slice A0_3 l0_3.length c0_3] 38 (0, 0)) (by (with_reducible repeat (first | refine blk_drewN ?_ _ | refine blk_drew ?_ | refine blk_alloc ?_ _)); exact BK428.out) hb); have n1_ := Aside0.mk (below_step (by repeat (first | (with_reducible first | exact HB.out | apply below_alloc | apply pw_below_drewN | apply below_drew1 | refine below_set ?_ GE428.out) | exact HB.out)) hb); have n2_ := Aside0.mk (hbox); have n3_ := Aside0.mk ((by rw [hg]; exact (below_size (by repeat (first | (with_reducible first | exact HB.out | apply below_alloc | apply pw_below_drewN | apply below_drew1 | refine below_set ?_ GE428.out) | exact HB.out))) : w.heap.size ≤ gb429)); have n4_ := Aside0.mk ((by rw [hg]; exact (below_size (by repeat (first | (with_reducible first | exact HB.out | apply below_alloc | apply pw_below_drewN | apply below_drew1 | refine below_set ?_ GE428.out) | exact HB.out))) : w.heap.size ≤ gb429)); have n5_ := Aside0.mk ((by rw [hg]; exact Nat.ne_of_lt (blk_lt (g := gb428) (o := .cells #[.int .i64 a0_0, .slice A0_1 l0_1.length c0_1, .int .i64 a0_2, .slice A0_3 l0_3.length c0_3] 38 (0, 0)) (by (with_reducible repeat (first | refine blk_drewN ?_ _ | refine blk_drew ?_ | refine blk_alloc ?_ _)); exact BK428.out)) : gb428 ≠ gb429)); have n6_ := Aside0.mk ((by rw [hg]; exact Nat.ne_of_gt (blk_lt (g := gb428) (o := .cells #[.int .i64 a0_0, .slice A0_1 l0_1.length c0_1, .int .i64 a0_2, .slice A0_3 l0_3.length c0_3] 38 (0, 0)) (by (with_reducible repeat (first | refine blk_drewN ?_ _ | refine blk_drew ?_ | refine blk_alloc ?_ _)); exact BK428.out)) : gb429 ≠ gb428)); clear BK428; clear HB; have BK428 := n0_; have HB := n1_; have BK429 := n2_; have GW429 := n3_; have GE429 := n4_; have NB428_429 := n5_; have NB429_428 := n6_; clear n0_ n1_ n2_ n3_ n4_ n5_ n6_; clear hb hbox hg; have hnb10 := NB428_429.out; have hnc10 := NB429_428.out; have hcz11_0 : w9.cell? ⟨gb428, 0, none⟩ = some (.int .i64 a0_0) := (blk_cell BK428.out 0).trans rfl; have hcz11_1 : w9.cell? ⟨gb428, 1, none⟩ = some (.slice A0_1 l0_1.length c0_1) := (blk_cell BK428.out 1).trans rfl; have hcz11_2 : w9.cell? ⟨gb428, 2, none⟩ = some (.int .i64 a0_2) := (blk_cell BK428.out 2).trans rfl; have hcz11_3 : w9.cell? ⟨gb428, 3, none⟩ = some (.slice A0_3 l0_3.length c0_3) := (blk_cell BK428.out 3).trans rfl; have hfz11_0 := blk_frozen BK428.out 0; have hfz11_1 := blk_frozen BK428.out 1; have hfz11_2 := blk_frozen BK428.out 2; have hfz11_3 := blk_frozen BK428.out 3; have hcz12_0 : w9.cell? ⟨gb429, 0, none⟩ = some (.int .i64 a1_0) := (blk_cell BK429.out 0).trans rfl; have hcz12_1 : w9.cell? ⟨gb429, 1, none⟩ = some (.slice A1_1 l1_1.length c1_1) := (blk_cell BK429.out 1).trans rfl; have hcz12_2 : w9.cell? ⟨gb429, 2, none⟩ = some (.int .i64 a1_2) := (blk_cell BK429.out 2).trans rfl; have hcz12_3 : w9.cell? ⟨gb429, 3, none⟩ = some (.slice A1_3 l1_3.length c1_3) := (blk_cell BK429.out 3).trans rfl; have hfz12_0 := blk_frozen BK429.out 0; have hfz12_1 := blk_frozen BK429.out 1; have hfz12_2 := blk_frozen BK429.out 2; have hfz12_3 := blk_frozen BK429.out 3) | (go_at_call 80; (with_reducible refine (quillworkref06_ints.calls k _ _ l0_1 _ _ l1_1 true _ ?side1 ?side2 ?side3 ?side4 A4.out).mono ?_); (case side1 => repeat (first | exact (Kd.C_below HR0_1.out HB.out) | (with_reducible refine Kd.C_alloc ?_ _) | (with_reducible refine Kd.C_drewN ?_ _) | (with_reducible refine Kd.C_drew ?_))); (case side2 => exact HC0_1.out); (case side3 => repeat (first | exact (Kd.C_below HR1_1.out HB.out) | (with_reducible refine Kd.C_alloc ?_ _) | (with_reducible refine Kd.C_drewN ?_ _) | (with_reducible refine Kd.C_drew ?_))); (case side4 => exact HC1_1.out); rintro e w' ⟨rfl, ⟨nd, rfl⟩⟩) | (go_at_call 36; (with_reducible refine (quillworkref05_Same.calls k _ _ l0_3 _ _ l1_3 t431 _ ?side1 ?side2 ?side3 ?side4 A7.out).mono ?_); (case side1 => repeat (first | exact (Kd.C_below HR0_3.out (by repeat (first | (with_reducible first | exact HB.out | apply below_alloc | apply pw_below_drewN | apply below_drew1 | refine below_set ?_ GE428.out | refine below_set ?_ GE429.out) | exact HB.out))) | (with_reducible refine Kd.C_alloc ?_ _) | (with_reducible refine Kd.C_drewN ?_ _) | (with_reducible refine Kd.C_drew ?_))); (case side2 => exact HC0_3.out); (case side3 => repeat (first | exact (Kd.C_below HR1_3.out (by repeat (first | (with_reducible first | exact HB.out | apply below_alloc | apply pw_below_drewN | apply below_drew1 | refine below_set ?_ GE428.out | refine below_set ?_ GE429.out) | exact HB.out))) | (with_reducible refine Kd.C_alloc ?_ _) | (with_reducible refine Kd.C_drewN ?_ _) | (with_reducible refine Kd.C_drew ?_))); (case side4 => exact HC1_3.out); rintro e w' ⟨rfl, ⟨nd, rfl⟩⟩))
        go_ret
        exact ⟨by first | rfl | (simp [errW_none, errW_some] <;> rfl) | (simp [*, errW_none, errW_some] <;> rfl), by repeat (first | (with_reducible first | exact HB.out | apply below_alloc | apply pw_below_drewN | apply below_drew1 | refine below_set ?_ GE428.out | refine below_set ?_ GE429.out) | exact HB.out)⟩
      · rw [if_neg c6] at H
        have c6b0 : (a0_2 == a1_2) = false := beq_eq_false_iff_ne.mpr c6
        have c6b1 : (a0_2 != a1_2) = true := bne_iff_ne.mpr c6
        obtain rfl := Option.some.inj H
        go_enter Tryd.func32, Tryd.ntmps32
        go_wp2_with (first | ((with_reducible refine gate_dst (N := 2) rfl ?_); refine box_event ?hg (N := 2) ?hd (cs := #[.int .i64 a0_0, .slice A0_1 l0_1.length c0_1, .int .i64 a0_2, .slice A0_3 l0_3.length c0_3]) (t := 38) ?hr ?_; (case hd => rfl); (case hg => rfl); (case hr => first | (go_simp; done) | (go_simp; rfl)); intro gb428 hg w13 hbox hb; have n0_ := Aside0.mk (below_step (by repeat (first | (with_reducible first | exact HB.out | apply below_alloc | apply pw_below_drewN | apply below_drew1) | exact HB.out)) hb); have n1_ := Aside0.mk (hbox); have n2_ := Aside0.mk ((by rw [hg]; exact (below_size (by repeat (first | (with_reducible first | exact HB.out | apply below_alloc | apply pw_below_drewN | apply below_drew1) | exact HB.out))) : w.heap.size ≤ gb428)); have n3_ := Aside0.mk ((by rw [hg]; exact (below_size (by repeat (first | (with_reducible first | exact HB.out | apply below_alloc | apply pw_below_drewN | apply below_drew1) | exact HB.out))) : w.heap.size ≤ gb428)); clear HB; have HB := n0_; have BK428 := n1_; have GW428 := n2_; have GE428 := n3_; clear n0_ n1_ n2_ n3_; clear hb hbox hg) | ((with_reducible refine gate_dst (N := 3) rfl ?_); refine box_event ?hg (N := 3) ?hd (cs := #[.int .i64 a1_0, .slice A1_1 l1_1.length c1_1, .int .i64 a1_2, .slice A1_3 l1_3.length c1_3]) (t := 38) ?hr ?_; (case hd => rfl); (case hg => rfl); (case hr => first | (go_simp; done) | (go_simp; rfl)); intro gb429 hg w14 hbox hb; have n0_ := Aside0.mk (blk_below (g := gb428) (o := .cells #[.int .i64 a0_0, .slice A0_1 l0_1.length c0_1, .int .i64 a0_2, .slice A0_3 l0_3.length c0_3] 38 (0, 0)) (by (with_reducible repeat (first | refine blk_drewN ?_ _ | refine blk_drew ?_ | refine blk_alloc ?_ _)); exact BK428.out) hb); have n1_ := Aside0.mk (below_step (by repeat (first | (with_reducible first | exact HB.out | apply below_alloc | apply pw_below_drewN | apply below_drew1 | refine below_set ?_ GE428.out) | exact HB.out)) hb); have n2_ := Aside0.mk (hbox); have n3_ := Aside0.mk ((by rw [hg]; exact (below_size (by repeat (first | (with_reducible first | exact HB.out | apply below_alloc | apply pw_below_drewN | apply below_drew1 | refine below_set ?_ GE428.out) | exact HB.out))) : w.heap.size ≤ gb429)); have n4_ := Aside0.mk ((by rw [hg]; exact (below_size (by repeat (first | (with_reducible first | exact HB.out | apply below_alloc | apply pw_below_drewN | apply below_drew1 | refine below_set ?_ GE428.out) | exact HB.out))) : w.heap.size ≤ gb429)); have n5_ := Aside0.mk ((by rw [hg]; exact Nat.ne_of_lt (blk_lt (g := gb428) (o := .cells #[.int .i64 a0_0, .slice A0_1 l0_1.length c0_1, .int .i64 a0_2, .slice A0_3 l0_3.length c0_3] 38 (0, 0)) (by (with_reducible repeat (first | refine blk_drewN ?_ _ | refine blk_drew ?_ | refine blk_alloc ?_ _)); exact BK428.out)) : gb428 ≠ gb429)); have n6_ := Aside0.mk ((by rw [hg]; exact Nat.ne_of_gt (blk_lt (g := gb428) (o := .cells #[.int .i64 a0_0, .slice A0_1 l0_1.length c0_1, .int .i64 a0_2, .slice A0_3 l0_3.length c0_3] 38 (0, 0)) (by (with_reducible repeat (first | refine blk_drewN ?_ _ | refine blk_drew ?_ | refine blk_alloc ?_ _)); exact BK428.out)) : gb429 ≠ gb428)); clear BK428; clear HB; have BK428 := n0_; have HB := n1_; have BK429 := n2_; have GW429 := n3_; have GE429 := n4_; have NB428_429 := n5_; have NB429_428 := n6_; clear n0_ n1_ n2_ n3_ n4_ n5_ n6_; clear hb hbox hg; have hnb15 := NB428_429.out; have hnc15 := NB429_428.out; have hcz16_0 : w14.cell? ⟨gb428, 0, none⟩ = some (.int .i64 a0_0) := (blk_cell BK428.out 0).trans rfl; have hcz16_1 : w14.cell? ⟨gb428, 1, none⟩ = some (.slice A0_1 l0_1.length c0_1) := (blk_cell BK428.out 1).trans rfl; have hcz16_2 : w14.cell? ⟨gb428, 2, none⟩ = some (.int .i64 a0_2) := (blk_cell BK428.out 2).trans rfl; have hcz16_3 : w14.cell? ⟨gb428, 3, none⟩ = some (.slice A0_3 l0_3.length c0_3) := (blk_cell BK428.out 3).trans rfl; have hfz16_0 := blk_frozen BK428.out 0; have hfz16_1 := blk_frozen BK428.out 1; have hfz16_2 := blk_frozen BK428.out 2; have hfz16_3 := blk_frozen BK428.out 3; have hcz17_0 : w14.cell? ⟨gb429, 0, none⟩ = some (.int .i64 a1_0) := (blk_cell BK429.out 0).trans rfl; have hcz17_1 : w14.cell? ⟨gb429, 1, none⟩ = some (.slice A1_1 l1_1.length c1_1) := (blk_cell BK429.out 1).trans rfl; have hcz17_2 : w14.cell? ⟨gb429, 2, none⟩ = some (.int .i64 a1_2) := (blk_cell BK429.out 2).trans rfl; have hcz17_3 : w14.cell? ⟨gb429, 3, none⟩ = some (.slice A1_3 l1_3.length c1_3) := (blk_cell BK429.out 3).trans rfl; have hfz17_0 := blk_frozen BK429.out 0; have hfz17_1 := blk_frozen BK429.out 1; have hfz17_2 := blk_frozen BK429.out 2; have hfz17_3 := blk_frozen BK429.out 3) | (go_at_call 80; (with_reducible refine (quillworkref06_ints.calls k _ _ l0_1 _ _ l1_1 true _ ?side1 ?side2 ?side3 ?side4 A4.out).mono ?_); (case side1 => repeat (first | exact (Kd.C_below HR0_1.out HB.out) | (with_reducible refine Kd.C_alloc ?_ _) | (with_reducible refine Kd.C_drewN ?_ _) | (with_reducible refine Kd.C_drew ?_))); (case side2 => exact HC0_1.out); (case side3 => repeat (first | exact (Kd.C_below HR1_1.out HB.out) | (with_reducible refine Kd.C_alloc ?_ _) | (with_reducible refine Kd.C_drewN ?_ _) | (with_reducible refine Kd.C_drew ?_))); (case side4 => exact HC1_1.out); rintro e w' ⟨rfl, ⟨nd, rfl⟩⟩))
        go_ret
        exact ⟨by first | rfl | (simp [errW_none, errW_some] <;> rfl) | (simp [*, errW_none, errW_some] <;> rfl), by repeat (first | (with_reducible first | exact HB.out | apply below_alloc | apply pw_below_drewN | apply below_drew1 | refine below_set ?_ GE428.out | refine below_set ?_ GE429.out) | exact HB.out)⟩
    · replace c5 := Bool.eq_false_iff.mpr c5
      subst c5
      have H1 : (some false) = some r := by rw [if_neg (show ¬ (false = true) by decide)] at H; exact H
      clear H
      have H := H1
      clear H1
      obtain rfl := Option.some.inj H
      go_enter Tryd.func32, Tryd.ntmps32
      go_wp2_with (first | ((with_reducible refine gate_dst (N := 2) rfl ?_); refine box_event ?hg (N := 2) ?hd (cs := #[.int .i64 a0_0, .slice A0_1 l0_1.length c0_1, .int .i64 a0_2, .slice A0_3 l0_3.length c0_3]) (t := 38) ?hr ?_; (case hd => rfl); (case hg => rfl); (case hr => first | (go_simp; done) | (go_simp; rfl)); intro gb428 hg w18 hbox hb; have n0_ := Aside0.mk (below_step (by repeat (first | (with_reducible first | exact HB.out | apply below_alloc | apply pw_below_drewN | apply below_drew1) | exact HB.out)) hb); have n1_ := Aside0.mk (hbox); have n2_ := Aside0.mk ((by rw [hg]; exact (below_size (by repeat (first | (with_reducible first | exact HB.out | apply below_alloc | apply pw_below_drewN | apply below_drew1) | exact HB.out))) : w.heap.size ≤ gb428)); have n3_ := Aside0.mk ((by rw [hg]; exact (below_size (by repeat (first | (with_reducible first | exact HB.out | apply below_alloc | apply pw_below_drewN | apply below_drew1) | exact HB.out))) : w.heap.size ≤ gb428)); clear HB; have HB := n0_; have BK428 := n1_; have GW428 := n2_; have GE428 := n3_; clear n0_ n1_ n2_ n3_; clear hb hbox hg) | ((with_reducible refine gate_dst (N := 3) rfl ?_); refine box_event ?hg (N := 3) ?hd (cs := #[.int .i64 a1_0, .slice A1_1 l1_1.length c1_1, .int .i64 a1_2, .slice A1_3 l1_3.length c1_3]) (t := 38) ?hr ?_; (case hd => rfl); (case hg => rfl); (case hr => first | (go_simp; done) | (go_simp; rfl)); intro gb429 hg w19 hbox hb; have n0_ := Aside0.mk (blk_below (g := gb428) (o := .cells #[.int .i64 a0_0, .slice A0_1 l0_1.length c0_1, .int .i64 a0_2, .slice A0_3 l0_3.length c0_3] 38 (0, 0)) (by (with_reducible repeat (first | refine blk_drewN ?_ _ | refine blk_drew ?_ | refine blk_alloc ?_ _)); exact BK428.out) hb); have n1_ := Aside0.mk (below_step (by repeat (first | (with_reducible first | exact HB.out | apply below_alloc | apply pw_below_drewN | apply below_drew1 | refine below_set ?_ GE428.out) | exact HB.out)) hb); have n2_ := Aside0.mk (hbox); have n3_ := Aside0.mk ((by rw [hg]; exact (below_size (by repeat (first | (with_reducible first | exact HB.out | apply below_alloc | apply pw_below_drewN | apply below_drew1 | refine below_set ?_ GE428.out) | exact HB.out))) : w.heap.size ≤ gb429)); have n4_ := Aside0.mk ((by rw [hg]; exact (below_size (by repeat (first | (with_reducible first | exact HB.out | apply below_alloc | apply pw_below_drewN | apply below_drew1 | refine below_set ?_ GE428.out) | exact HB.out))) : w.heap.size ≤ gb429)); have n5_ := Aside0.mk ((by rw [hg]; exact Nat.ne_of_lt (blk_lt (g := gb428) (o := .cells #[.int .i64 a0_0, .slice A0_1 l0_1.length c0_1, .int .i64 a0_2, .slice A0_3 l0_3.length c0_3] 38 (0, 0)) (by (with_reducible repeat (first | refine blk_drewN ?_ _ | refine blk_drew ?_ | refine blk_alloc ?_ _)); exact BK428.out)) : gb428 ≠ gb429)); have n6_ := Aside0.mk ((by rw [hg]; exact Nat.ne_of_gt (blk_lt (g := gb428) (o := .cells #[.int .i64 a0_0, .slice A0_1 l0_1.length c0_1, .int .i64 a0_2, .slice A0_3 l0_3.length c0_3] 38 (0, 0)) (by (with_reducible repeat (first | refine blk_drewN ?_ _ | refine blk_drew ?_ | refine blk_alloc ?_ _)); exact BK428.out)) : gb429 ≠ gb428)); clear BK428; clear HB; have BK428 := n0_; have HB := n1_; have BK429 := n2_; have GW429 := n3_; have GE429 := n4_; have NB428_429 := n5_; have NB429_428 := n6_; clear n0_ n1_ n2_ n3_ n4_ n5_ n6_; clear hb hbox hg; have hnb20 := NB428_429.out; have hnc20 := NB429_428.out; have hcz21_0 : w19.cell? ⟨gb428, 0, none⟩ = some (.int .i64 a0_0) := (blk_cell BK428.out 0).trans rfl; have hcz21_1 : w19.cell? ⟨gb428, 1, none⟩ = some (.slice A0_1 l0_1.length c0_1) := (blk_cell BK428.out 1).trans rfl; have hcz21_2 : w19.cell? ⟨gb428, 2, none⟩ = some (.int .i64 a0_2) := (blk_cell BK428.out 2).trans rfl; have hcz21_3 : w19.cell? ⟨gb428, 3, none⟩ = some (.slice A0_3 l0_3.length c0_3) := (blk_cell BK428.out 3).trans rfl; have hfz21_0 := blk_frozen BK428.out 0; have hfz21_1 := blk_frozen BK428.out 1; have hfz21_2 := blk_frozen BK428.out 2; have hfz21_3 := blk_frozen BK428.out 3; have hcz22_0 : w19.cell? ⟨gb429, 0, none⟩ = some (.int .i64 a1_0) := (blk_cell BK429.out 0).trans rfl; have hcz22_1 : w19.cell? ⟨gb429, 1, none⟩ = some (.slice A1_1 l1_1.length c1_1) := (blk_cell BK429.out 1).trans rfl; have hcz22_2 : w19.cell? ⟨gb429, 2, none⟩ = some (.int .i64 a1_2) := (blk_cell BK429.out 2).trans rfl; have hcz22_3 : w19.cell? ⟨gb429, 3, none⟩ = some (.slice A1_3 l1_3.length c1_3) := (blk_cell BK429.out 3).trans rfl; have hfz22_0 := blk_frozen BK429.out 0; have hfz22_1 := blk_frozen BK429.out 1; have hfz22_2 := blk_frozen BK429.out 2; have hfz22_3 := blk_frozen BK429.out 3) | (go_at_call 80; (with_reducible refine (quillworkref06_ints.calls k _ _ l0_1 _ _ l1_1 false _ ?side1 ?side2 ?side3 ?side4 A4.out).mono ?_); (case side1 => repeat (first | exact (Kd.C_below HR0_1.out HB.out) | (with_reducible refine Kd.C_alloc ?_ _) | (with_reducible refine Kd.C_drewN ?_ _) | (with_reducible refine Kd.C_drew ?_))); (case side2 => exact HC0_1.out); (case side3 => repeat (first | exact (Kd.C_below HR1_1.out HB.out) | (with_reducible refine Kd.C_alloc ?_ _) | (with_reducible refine Kd.C_drewN ?_ _) | (with_reducible refine Kd.C_drew ?_))); (case side4 => exact HC1_1.out); rintro e w' ⟨rfl, ⟨nd, rfl⟩⟩))
      go_ret
      exact ⟨by first | rfl | (simp [errW_none, errW_some] <;> rfl) | (simp [*, errW_none, errW_some] <;> rfl), by repeat (first | (with_reducible first | exact HB.out | apply below_alloc | apply pw_below_drewN | apply below_drew1 | refine below_set ?_ GE428.out | refine below_set ?_ GE429.out) | exact HB.out)⟩
  · rw [if_neg c3] at H
    have c3b0 : (a0_0 == a1_0) = false := beq_eq_false_iff_ne.mpr c3
    have c3b1 : (a0_0 != a1_0) = true := bne_iff_ne.mpr c3
    obtain rfl := Option.some.inj H
    go_enter Tryd.func32, Tryd.ntmps32
    go_wp2_with (first | ((with_reducible refine gate_dst (N := 2) rfl ?_); refine box_event ?hg (N := 2) ?hd (cs := #[.int .i64 a0_0, .slice A0_1 l0_1.length c0_1, .int .i64 a0_2, .slice A0_3 l0_3.length c0_3]) (t := 38) ?hr ?_; (case hd => rfl); (case hg => rfl); (case hr => first | (go_simp; done) | (go_simp; rfl)); intro gb428 hg w23 hbox hb; have n0_ := Aside0.mk (below_step (by repeat (first | (with_reducible first | exact HB.out | apply below_alloc | apply pw_below_drewN | apply below_drew1) | exact HB.out)) hb); have n1_ := Aside0.mk (hbox); have n2_ := Aside0.mk ((by rw [hg]; exact (below_size (by repeat (first | (with_reducible first | exact HB.out | apply below_alloc | apply pw_below_drewN | apply below_drew1) | exact HB.out))) : w.heap.size ≤ gb428)); have n3_ := Aside0.mk ((by rw [hg]; exact (below_size (by repeat (first | (with_reducible first | exact HB.out | apply below_alloc | apply pw_below_drewN | apply below_drew1) | exact HB.out))) : w.heap.size ≤ gb428)); clear HB; have HB := n0_; have BK428 := n1_; have GW428 := n2_; have GE428 := n3_; clear n0_ n1_ n2_ n3_; clear hb hbox hg) | ((with_reducible refine gate_dst (N := 3) rfl ?_); refine box_event ?hg (N := 3) ?hd (cs := #[.int .i64 a1_0, .slice A1_1 l1_1.length c1_1, .int .i64 a1_2, .slice A1_3 l1_3.length c1_3]) (t := 38) ?hr ?_; (case hd => rfl); (case hg => rfl); (case hr => first | (go_simp; done) | (go_simp; rfl)); intro gb429 hg w24 hbox hb; have n0_ := Aside0.mk (blk_below (g := gb428) (o := .cells #[.int .i64 a0_0, .slice A0_1 l0_1.length c0_1, .int .i64 a0_2, .slice A0_3 l0_3.length c0_3] 38 (0, 0)) (by (with_reducible repeat (first | refine blk_drewN ?_ _ | refine blk_drew ?_ | refine blk_alloc ?_ _)); exact BK428.out) hb); have n1_ := Aside0.mk (below_step (by repeat (first | (with_reducible first | exact HB.out | apply below_alloc | apply pw_below_drewN | apply below_drew1 | refine below_set ?_ GE428.out) | exact HB.out)) hb); have n2_ := Aside0.mk (hbox); have n3_ := Aside0.mk ((by rw [hg]; exact (below_size (by repeat (first | (with_reducible first | exact HB.out | apply below_alloc | apply pw_below_drewN | apply below_drew1 | refine below_set ?_ GE428.out) | exact HB.out))) : w.heap.size ≤ gb429)); have n4_ := Aside0.mk ((by rw [hg]; exact (below_size (by repeat (first | (with_reducible first | exact HB.out | apply below_alloc | apply pw_below_drewN | apply below_drew1 | refine below_set ?_ GE428.out) | exact HB.out))) : w.heap.size ≤ gb429)); have n5_ := Aside0.mk ((by rw [hg]; exact Nat.ne_of_lt (blk_lt (g := gb428) (o := .cells #[.int .i64 a0_0, .slice A0_1 l0_1.length c0_1, .int .i64 a0_2, .slice A0_3 l0_3.length c0_3] 38 (0, 0)) (by (with_reducible repeat (first | refine blk_drewN ?_ _ | refine blk_drew ?_ | refine blk_alloc ?_ _)); exact BK428.out)) : gb428 ≠ gb429)); have n6_ := Aside0.mk ((by rw [hg]; exact Nat.ne_of_gt (blk_lt (g := gb428) (o := .cells #[.int .i64 a0_0, .slice A0_1 l0_1.length c0_1, .int .i64 a0_2, .slice A0_3 l0_3.length c0_3] 38 (0, 0)) (by (with_reducible repeat (first | refine blk_drewN ?_ _ | refine blk_drew ?_ | refine blk_alloc ?_ _)); exact BK428.out)) : gb429 ≠ gb428)); clear BK428; clear HB; have BK428 := n0_; have HB := n1_; have BK429 := n2_; have GW429 := n3_; have GE429 := n4_; have NB428_429 := n5_; have NB429_428 := n6_; clear n0_ n1_ n2_ n3_ n4_ n5_ n6_; clear hb hbox hg; have hnb25 := NB428_429.out; have hnc25 := NB429_428.out; have hcz26_0 : w24.cell? ⟨gb428, 0, none⟩ = some (.int .i64 a0_0) := (blk_cell BK428.out 0).trans rfl; have hcz26_1 : w24.cell? ⟨gb428, 1, none⟩ = some (.slice A0_1 l0_1.length c0_1) := (blk_cell BK428.out 1).trans rfl; have hcz26_2 : w24.cell? ⟨gb428, 2, none⟩ = some (.int .i64 a0_2) := (blk_cell BK428.out 2).trans rfl; have hcz26_3 : w24.cell? ⟨gb428, 3, none⟩ = some (.slice A0_3 l0_3.length c0_3) := (blk_cell BK428.out 3).trans rfl; have hfz26_0 := blk_frozen BK428.out 0; have hfz26_1 := blk_frozen BK428.out 1; have hfz26_2 := blk_frozen BK428.out 2; have hfz26_3 := blk_frozen BK428.out 3; have hcz27_0 : w24.cell? ⟨gb429, 0, none⟩ = some (.int .i64 a1_0) := (blk_cell BK429.out 0).trans rfl; have hcz27_1 : w24.cell? ⟨gb429, 1, none⟩ = some (.slice A1_1 l1_1.length c1_1) := (blk_cell BK429.out 1).trans rfl; have hcz27_2 : w24.cell? ⟨gb429, 2, none⟩ = some (.int .i64 a1_2) := (blk_cell BK429.out 2).trans rfl; have hcz27_3 : w24.cell? ⟨gb429, 3, none⟩ = some (.slice A1_3 l1_3.length c1_3) := (blk_cell BK429.out 3).trans rfl; have hfz27_0 := blk_frozen BK429.out 0; have hfz27_1 := blk_frozen BK429.out 1; have hfz27_2 := blk_frozen BK429.out 2; have hfz27_3 := blk_frozen BK429.out 3))
    go_ret
    exact ⟨by first | rfl | (simp [errW_none, errW_some] <;> rfl) | (simp [*, errW_none, errW_some] <;> rfl), by repeat (first | (with_reducible first | exact HB.out | apply below_alloc | apply pw_below_drewN | apply below_drew1 | refine below_set ?_ GE428.out | refine below_set ?_ GE429.out) | exact HB.out)⟩

end Go.Proofs.YtgdpknmffohhaaaDoor.Pl

namespace Go.Proofs.YtgdpknmffohhaaaDoor.Pl
open Go.RowKit Go.Proofs.YtgdpknmffohhaaaDoorW.PrintWords Go.Proofs.YtgdpknmffohhaaaDoorW.PrintLast Go.Proofs.YtgdpknmffohhaaaDoorW.PrintMore
attribute [local go_sem] max2_int min2_int max_two min_two max_three min_three max_four min_four   -- for this text's walks alone
set_option linter.unusedVariables false
set_option linter.unusedSimpArgs false

/-! ### quillworkref06_Frame: function 41 -/
def quillworkref06_Frame.f (a0_0 : Int) (l0_1 : List Int) (a0_2 : Int) (l0_3 : List (S71)) : Option (Int × List Int × Int × (List (S71))) := (some (([] : List Int) : List Int)).bind fun y270 => (if y270.length + l0_1.length < 17592186044416 then (some (a0_0, (y270 ++ l0_1), a0_2, ([] : List (S71)))) else (none))
def quillworkref06_Frame.T1 : Bool × List (List Nat × List Nat) := (true, [([], []), ([0], [0]), ([], []), ([], []), ([3], [3]), ([2, 4], [2, 4]), ([], []), ([6], [6]), ([1, 5, 7], [1, 5, 7]), ([8, 5, 0, 1, 2, 3, 4, 5, 6, 7, 8], [8])])
def quillworkref06_Frame.B1 : List Nat := [0, 1, 0, 0, 8, 28, 0, 64, 255, 511]
theorem quillworkref06_Frame.tab1 : rtab .any (opsOf Tryd.f41 1) = quillworkref06_Frame.T1 := by kernel_rfl
theorem quillworkref06_Frame.bits1 : waitsOk quillworkref06_Frame.T1.2 quillworkref06_Frame.B1 = true := by kernel_rfl
set_option maxHeartbeats 8000000 in
set_option maxRecDepth 100000 in
theorem quillworkref06_Frame.calls (a0_0 : Int) (A0_1 : Option Addr) (c0_1 : Nat) (l0_1 : List Int) (a0_2 : Int) (A0_3 : Option Addr) (c0_3 : Nat) (l0_3 : List (S71)) (r1 : Int) (r2 : List Int) (r3 : Int) (r4 : List (S71)) (w : World) (hr0_1 : Kd.C (Kd.int .i64) w A0_1 l0_1.length l0_1) (hc0_1 : l0_1.length ≤ c0_1) (hr0_3 : Kd.C k71 w A0_3 l0_3.length l0_3) (hc0_3 : l0_3.length ≤ c0_3) (h : quillworkref06_Frame.f a0_0 l0_1 a0_2 l0_3 = some (r1, r2, r3, r4)) :
    Calls Tryd.prog 41 #[.agg #[.int .i64 a0_0, .slice A0_1 l0_1.length c0_1, .int .i64 a0_2, .slice A0_3 l0_3.length c0_3]] w fun e w' => ∃ v1_ v3_ : Value, e = .returned (.agg #[.int .i64 r1, v1_, .int .i64 r3, v3_]) ∧ Kd.R (Kd.int .i64) 3 w' w.heap.size (fun _ => True) v1_ r2 ∧ Kd.R k71 71 w' w.heap.size (fun _ => True) v3_ r4 ∧ Below w.heap.size w w' := by
  have hu38 := Tryd.underlying38
  have HR0_1 := Aside0.mk hr0_1
  have HC0_1 := Aside0.mk hc0_1
  clear hr0_1 hc0_1
  have HR0_3 := Aside0.mk hr0_3
  have HC0_3 := Aside0.mk hc0_3
  clear hr0_3 hc0_3
  have HB := Aside0.mk (Below.refl w.heap.size w)
  have H : ((some (([] : List Int) : List Int)).bind fun y270 => (if y270.length + l0_1.length < 17592186044416 then (some (a0_0, (y270 ++ l0_1), a0_2, ([] : List (S71)))) else (none))) = some (r1, r2, r3, r4) := h
  clear h
  obtain ⟨y270, hy270⟩ : ∃ y_ : List Int, y_ = (([] : List Int)) := ⟨_, rfl⟩
  replace H : (if y270.length + l0_1.length < 17592186044416 then (some (a0_0, (y270 ++ l0_1), a0_2, ([] : List (S71)))) else (none)) = some (r1, r2, r3, r4) := by first | (rw [hy270]; with_reducible exact H) | (have H2_ := (Option.bind_some _ _).symm.trans H; rw [hy270]; with_reducible exact H2_) | (have H2_ := (Option.bind_some _ _).symm.trans H; with_reducible exact H2_) | with_reducible exact H | (rw [hy270]; exact H) | exact H
  have Ny270 := Aside0.mk hy270
  clear hy270
  by_cases c2 : y270.length + l0_1.length < 17592186044416
  · rw [if_pos c2] at H
    have LMc2 := Aside0.mk c2
    clear c2
    obtain ⟨y273, hy273⟩ : ∃ y_ : List Int, y_ = (y270 ++ l0_1) := ⟨_, rfl⟩
    replace H : (some (a0_0, y273, a0_2, ([] : List (S71)))) = some (r1, r2, r3, r4) := by first | (rw [hy273]; with_reducible exact H) | (have H2_ := (Option.bind_some _ _).symm.trans H; rw [hy273]; with_reducible exact H2_) | (have H2_ := (Option.bind_some _ _).symm.trans H; with_reducible exact H2_) | with_reducible exact H | (rw [hy273]; exact H) | exact H
    have Ny273 := Aside0.mk hy273
    clear hy273
    simp only [Option.some.injEq, Prod.mk.injEq] at H
    obtain ⟨rfl, rfl, rfl, rfl⟩ := H
    go_enter Tryd.func41, Tryd.ntmps41
    try go_wp2_with (first | ((with_reducible refine gate_dst (N := 1) rfl ?_); refine box_event ?hg (N := 1) ?hd (cs := #[.int .i64 a0_0, .slice A0_1 l0_1.length c0_1, .int .i64 a0_2, .slice A0_3 l0_3.length c0_3]) (t := 38) ?hr ?_; (case hd => rfl); (case hg => rfl); (case hr => first | (go_simp; done) | (go_simp; rfl)); intro gb268 hg w3 hbox hb; have n0_ := Aside0.mk (below_step (by repeat (first | (with_reducible first | exact HB.out | apply below_alloc | apply pw_below_drewN | apply below_drew1) | exact HB.out)) hb); have n1_ := Aside0.mk (hbox); have n2_ := Aside0.mk ((by rw [hg]; exact (below_size (by repeat (first | (with_reducible first | exact HB.out | apply below_alloc | apply pw_below_drewN | apply below_drew1) | exact HB.out))) : w.heap.size ≤ gb268)); have n3_ := Aside0.mk ((by rw [hg]; exact (below_size (by repeat (first | (with_reducible first | exact HB.out | apply below_alloc | apply pw_below_drewN | apply below_drew1) | exact HB.out))) : w.heap.size ≤ gb268)); clear HB; have HB := n0_; have BK268 := n1_; have GW268 := n2_; have GE268 := n3_; clear n0_ n1_ n2_ n3_; clear hb hbox hg) | ((with_reducible refine gate_dst (N := 2) rfl ?_); refine box_event ?hg (N := 2) ?hd (cs := #[.int .i64 0, .slice none 0 0, .int .i64 0, .slice none 0 0]) (t := 38) ?hr ?_; (case hd => rfl); (case hg => rfl); (case hr => first | (go_simp; done) | (go_simp; rfl)); intro gb269 hg w4 hbox hb; have n0_ := Aside0.mk (blk_below (g := gb268) (o := .cells #[.int .i64 a0_0, .slice A0_1 l0_1.length c0_1, .int .i64 a0_2, .slice A0_3 l0_3.length c0_3] 38 (0, 0)) (by (with_reducible repeat (first | refine blk_drewN ?_ _ | refine blk_drew ?_ | refine blk_alloc ?_ _)); exact BK268.out) hb); have n1_ := Aside0.mk (below_step (by repeat (first | (with_reducible first | exact HB.out | apply below_alloc | apply pw_below_drewN | apply below_drew1 | refine below_set ?_ GE268.out) | exact HB.out)) hb); have n2_ := Aside0.mk (hbox); have n3_ := Aside0.mk ((by rw [hg]; exact (below_size (by repeat (first | (with_reducible first | exact HB.out | apply below_alloc | apply pw_below_drewN | apply below_drew1 | refine below_set ?_ GE268.out) | exact HB.out))) : w.heap.size ≤ gb269)); have n4_ := Aside0.mk ((by rw [hg]; exact (below_size (by repeat (first | (with_reducible first | exact HB.out | apply below_alloc | apply pw_below_drewN | apply below_drew1 | refine below_set ?_ GE268.out) | exact HB.out))) : w.heap.size ≤ gb269)); have n5_ := Aside0.mk ((by rw [hg]; exact Nat.ne_of_lt (blk_lt (g := gb268) (o := .cells #[.int .i64 a0_0, .slice A0_1 l0_1.length c0_1, .int .i64 a0_2, .slice A0_3 l0_3.length c0_3] 38 (0, 0)) (by (with_reducible repeat (first | refine blk_drewN ?_ _ | refine blk_drew ?_ | refine blk_alloc ?_ _)); exact BK268.out)) : gb268 ≠ gb269)); have n6_ := Aside0.mk ((by rw [hg]; exact Nat.ne_of_gt (blk_lt (g := gb268) (o := .cells #[.int .i64 a0_0, .slice A0_1 l0_1.length c0_1, .int .i64 a0_2, .slice A0_3 l0_3.length c0_3] 38 (0, 0)) (by (with_reducible repeat (first | refine blk_drewN ?_ _ | refine blk_drew ?_ | refine blk_alloc ?_ _)); exact BK268.out)) : gb269 ≠ gb268)); clear BK268; clear HB; have BK268 := n0_; have HB := n1_; have BK269 := n2_; have GW269 := n3_; have GE269 := n4_; have NB268_269 := n5_; have NB269_268 := n6_; clear n0_ n1_ n2_ n3_ n4_ n5_ n6_; clear hb hbox hg))
    have n0_ := Aside0.mk (blk_drew BK268.out)
    have n1_ := Aside0.mk (blk_drew BK269.out)
    have n2_ := Aside0.mk (below_drew1 HB.out)
    clear BK268
    clear BK269
    clear HB
    have BK268 := n0_
    have BK269 := n1_
    have HB := n2_
    clear n0_ n1_ n2_
    refine start_ (n := 10) (S := fun w' => w'.cell? ⟨gb268, 0, none⟩ = some (.int .i64 a0_0) ∧ w'.cell? ⟨gb268, 1, none⟩ = some (.slice A0_1 l0_1.length c0_1) ∧ w'.cell? ⟨gb268, 2, none⟩ = some (.int .i64 a0_2) ∧ w'.cell? ⟨gb268, 3, none⟩ = some (.slice A0_3 l0_3.length c0_3)) (ds := []) #[false, false, false, false, false, false, false, false, false, false] (by kernel_rfl) rfl rfl ⟨(blk_cell BK268.out 0).trans rfl, (blk_cell BK268.out 1).trans rfl, (blk_cell BK268.out 2).trans rfl, (blk_cell BK268.out 3).trans rfl⟩ (fun hHeld => ?_); refine with_tabW quillworkref06_Frame.tab1 quillworkref06_Frame.bits1 (fun HT_ HW_ => ?_)
    generalize w4.drew = w5 at BK268 BK269 HB hHeld ⊢
    refine pure_ (i := 0) (N := some 3) (v := ?_) (a' := ?_) #[true, false, false, false, false, false, false, false, false, false] rfl rfl (any_of HT_.out (by kernel_rfl)) (fun _ _ _ h => h) (Or.inl ⟨by rfl, ?_⟩) ?_ ?_
    rotate_left
    · intro w'
      go_simp
      with_reducible rfl
    rotate_left
    · simp only [Act.put, List.setIfInBounds_toArray, List.set_cons_zero, List.set_cons_succ, i64_w, i32_w]
      rfl
    refine pure_ (i := 3) (N := some 6) (v := ?_) (a' := ?_) #[true, false, false, true, false, false, false, false, false, false] rfl rfl (any_of HT_.out (by kernel_rfl)) (fun _ _ _ h => h) (Or.inl ⟨by rfl, ?_⟩) ?_ ?_
    rotate_left
    · intro w'
      go_simp
      with_reducible rfl
    rotate_left
    · simp only [Act.put, List.setIfInBounds_toArray, List.set_cons_zero, List.set_cons_succ, i64_w, i32_w]
      rfl
    refine pure_ (i := 6) (N := some 9) (v := ?_) (a' := ?_) #[true, false, false, true, false, false, true, false, false, false] rfl rfl (any_of HT_.out (by kernel_rfl)) (fun _ _ _ h => h) (Or.inl ⟨by rfl, ?_⟩) ?_ ?_
    rotate_left
    · intro w'
      go_simp
      with_reducible rfl
    rotate_left
    · simp only [Act.put, List.setIfInBounds_toArray, List.set_cons_zero, List.set_cons_succ, i64_w, i32_w]
      rfl
    refine take_ (i := 1) (N := some 4) (v := ?_) (a' := ?_) #[true, true, false, true, false, false, true, false, false, false] rfl rfl (take_ofW HT_.out HW_.out (by kernel_rfl)) (fun _ _ _ h => h) (Or.inl ⟨by rfl, ?_⟩) hHeld ?_ ?_
    rotate_left
    · rintro w' ⟨s0, s1, s2, s3⟩
      go_simp
      with_reducible rfl
    rotate_left
    · simp only [Act.put, List.setIfInBounds_toArray, List.set_cons_zero, List.set_cons_succ, i64_w, i32_w]
      rfl
    refine take_ (i := 4) (N := some 7) (v := ?_) (a' := ?_) #[true, true, false, true, true, false, true, false, false, false] rfl rfl (take_ofW HT_.out HW_.out (by kernel_rfl)) (fun _ _ _ h => h) (Or.inl ⟨by rfl, ?_⟩) hHeld ?_ ?_
    rotate_left
    · rintro w' ⟨s0, s1, s2, s3⟩
      go_simp
      with_reducible rfl
    rotate_left
    · simp only [Act.put, List.setIfInBounds_toArray, List.set_cons_zero, List.set_cons_succ, i64_w, i32_w]
      rfl
    refine take_ (i := 7) (N := some 10) (v := ?_) (a' := ?_) #[true, true, false, true, true, false, true, true, false, false] rfl rfl (take_ofW HT_.out HW_.out (by kernel_rfl)) (fun _ _ _ h => h) (Or.inl ⟨by rfl, ?_⟩) hHeld ?_ ?_
    rotate_left
    · rintro w' ⟨s0, s1, s2, s3⟩
      go_simp
      with_reducible rfl
    rotate_left
    · simp only [Act.put, List.setIfInBounds_toArray, List.set_cons_zero, List.set_cons_succ, i64_w, i32_w]
      rfl
    refine one_ (i := 2) (N := some 5) #[true, true, true, true, true, false, true, true, false, false] rfl rfl (one_of HT_.out (by kernel_rfl)) (by decide) (fun K hK => ?_)
    refine Kd.R_lit_step (Kd.int .i64) _ 3 ?hg (N := 5) ?hd (xs := ([] : List Int)) (inner := []) (ok := fun _ => True) (okp := fun _ => True) ?hr ?hp (fun _ hk => hk) trivial (Below.refl _ _) (Nat.le_refl _) (by simp) ?_; (case hd => rfl); (case hg => rfl); (case hr => first | (go_simp; done) | (go_simp; rfl)); (case hp => exact (Reps.none _ _))
    intro v271 w6 ho7 hb hg_ hnew_
    clear hg_ hnew_
    (first | rw [← Ny270.out] at ho7 | (simp only [Int.reduceToNat] at ho7; rw [← Ny270.out] at ho7))
    have n0_ := Aside0.mk (Kd.R_lower ho7 (below_size (by repeat (first | (with_reducible first | exact HB.out | apply below_alloc | apply pw_below_drewN | apply below_drew1 | refine below_set ?_ GE268.out | refine below_set ?_ GE269.out) | exact HB.out))))
    have n1_ := Aside0.mk (blk_below (g := gb268) (o := .cells #[.int .i64 a0_0, .slice A0_1 l0_1.length c0_1, .int .i64 a0_2, .slice A0_3 l0_3.length c0_3] 38 (0, 0)) (by (with_reducible repeat (first | refine blk_drewN ?_ _ | refine blk_drew ?_ | refine blk_alloc ?_ _)); exact BK268.out) hb)
    have n2_ := Aside0.mk (blk_below (g := gb269) (o := .cells #[.int .i64 0, .slice none 0 0, .int .i64 0, .slice none 0 0] 38 (0, 0)) (by (with_reducible repeat (first | refine blk_drewN ?_ _ | refine blk_drew ?_ | refine blk_alloc ?_ _)); exact BK269.out) hb)
    have n3_ := Aside0.mk (below_step (by repeat (first | (with_reducible first | exact HB.out | apply below_alloc | apply pw_below_drewN | apply below_drew1 | refine below_set ?_ GE268.out | refine below_set ?_ GE269.out) | exact HB.out)) hb)
    clear BK268
    clear BK269
    clear HB
    have HO272 := n0_
    have BK268 := n1_
    have BK269 := n2_
    have HB := n3_
    clear n0_ n1_ n2_ n3_
    clear hb ho7
    refine hK.out _ _ ⟨(blk_cell BK268.out 0).trans rfl, (blk_cell BK268.out 1).trans rfl, (blk_cell BK268.out 2).trans rfl, (blk_cell BK268.out 3).trans rfl⟩ (fun hHeld => ?_)
    clear hK K
    refine norm_ (a' := ?_) ?_ ?_
    rotate_left
    · show Act.put _ (some 5) _ = _
      simp only [Act.put, List.setIfInBounds_toArray, List.set_cons_zero, List.set_cons_succ, i64_w, i32_w]
      rfl
    refine one_ (i := 5) (N := some 8) #[true, true, true, true, true, true, true, true, false, false] rfl rfl (one_of HT_.out (by kernel_rfl)) (by decide) (fun K hK => ?_)
    refine Kd.R_append_rows_step (Kd.int .i64) (w0 := w) w.heap.size (by rfl) (.tmp 5) (.tmp 7) 35 3 (.int .i64 0) 8 rfl Tryd.underlying35 info3 rfl (by decide) (by omega) v271 y270 l0_1 _ _ _ (fun _ => True) (fun _ => False) rfl rfl ?aO ?aR (fun _ _ h => h) (fun _ h => h.elim) ?aF ?aB ?aS ?aL ?_
    (case aR => repeat (first | exact (Kd.C_below HR0_1.out HB.out) | (with_reducible refine Kd.C_alloc ?_ _) | (with_reducible refine Kd.C_drewN ?_ _) | (with_reducible refine Kd.C_drew ?_)))
    (case aB => exact (by repeat (first | (with_reducible first | exact HB.out | apply below_alloc | apply pw_below_drewN | apply below_drew1 | refine below_set ?_ GE268.out | refine below_set ?_ GE269.out) | exact HB.out)))
    (case aF => exact (fun _ _ => trivial))
    (case aO => exact (by (with_reducible repeat (first | apply Kd.R_alloc | apply Kd.R_drewN | apply Kd.R_drew)); exact HO272.out))
    (case aS => exact (below_size (by repeat (first | (with_reducible first | exact HB.out | apply below_alloc | apply pw_below_drewN | apply below_drew1 | refine below_set ?_ GE268.out | refine below_set ?_ GE269.out) | exact HB.out))))
    (case aL => have := LMc2.out; omega)
    intro v274 w8 ho hb hg hat
    rw [← Ny273.out] at ho
    have n0_ := Aside0.mk (blk_grown (g := gb268) (o := .cells #[.int .i64 a0_0, .slice A0_1 l0_1.length c0_1, .int .i64 a0_2, .slice A0_3 l0_3.length c0_3] 38 (0, 0)) (by (with_reducible repeat (first | refine blk_drewN ?_ _ | refine blk_drew ?_ | refine blk_alloc ?_ _)); exact BK268.out) hg (Kd.R_ne HO272.out BK268.out (by decide)))
    have n1_ := Aside0.mk (blk_grown (g := gb269) (o := .cells #[.int .i64 0, .slice none 0 0, .int .i64 0, .slice none 0 0] 38 (0, 0)) (by (with_reducible repeat (first | refine blk_drewN ?_ _ | refine blk_drew ?_ | refine blk_alloc ?_ _)); exact BK269.out) hg (Kd.R_ne HO272.out BK269.out (by decide)))
    have n2_ := Aside0.mk (hb)
    have n3_ := Aside0.mk (ho)
    clear BK268
    clear BK269
    clear HB
    clear HO272
    have BK268 := n0_
    have BK269 := n1_
    have HB := n2_
    have HO275 := n3_
    clear n0_ n1_ n2_ n3_
    clear ho hb hg hat
    obtain ⟨Ao9, co9, eo9⟩ := Kd.R_slice HO275.out
    (first | subst eo9 | (injection eo9 with f1_ f2_ f3_; have f4_ := f1_.symm; have f5_ := f3_.symm; clear f1_ f2_ f3_; subst f4_; subst f5_))
    refine hK.out _ _ ⟨(blk_cell BK268.out 0).trans rfl, (blk_cell BK268.out 1).trans rfl, (blk_cell BK268.out 2).trans rfl, (blk_cell BK268.out 3).trans rfl⟩ (fun hHeld => ?_)
    clear hK K
    refine norm_ (a' := ?_) ?_ ?_
    rotate_left
    · show Act.put _ (some 8) _ = _
      simp only [Act.put, List.setIfInBounds_toArray, List.set_cons_zero, List.set_cons_succ, i64_w, i32_w]
      rfl
    refine pure_ (i := 8) (N := some 11) (v := ?_) (a' := ?_) #[true, true, true, true, true, true, true, true, true, false] rfl rfl (any_of HT_.out (by kernel_rfl)) (fun _ _ _ h => h) (Or.inl ⟨by rfl, ?_⟩) ?_ ?_
    rotate_left
    · intro w'
      go_simp
      with_reducible rfl
    rotate_left
    · simp only [Act.put, List.setIfInBounds_toArray, List.set_cons_zero, List.set_cons_succ, i64_w, i32_w]
      rfl
    refine one_ (i := 9) (N := none) #[true, true, true, true, true, true, true, true, true, true] rfl rfl (one_of HT_.out (by kernel_rfl)) (by decide) (fun K hK => ?_)
    have hs10 : w8.cell? ⟨gb269, 0, none⟩ = some (.int .i64 0) := (blk_cell BK269.out 0).trans rfl
    have hfs10 := blk_frozen BK269.out 0
    have hns10_0 := NB268_269.out
    have hms10_0 := NB269_268.out
    have hs11 : w8.cell? ⟨gb269, 1, none⟩ = some (.slice none 0 0) := (blk_cell BK269.out 1).trans rfl
    have hfs11 := blk_frozen BK269.out 1
    have hns11_0 := NB268_269.out
    have hms11_0 := NB269_268.out
    have hs12 : w8.cell? ⟨gb269, 2, none⟩ = some (.int .i64 0) := (blk_cell BK269.out 2).trans rfl
    have hfs12 := blk_frozen BK269.out 2
    have hns12_0 := NB268_269.out
    have hms12_0 := NB269_268.out
    have hs13 : w8.cell? ⟨gb269, 3, none⟩ = some (.slice none 0 0) := (blk_cell BK269.out 3).trans rfl
    have hfs13 := blk_frozen BK269.out 3
    have hns13_0 := NB268_269.out
    have hms13_0 := NB269_268.out
    refine skip_ (w1 := ?_) (by rfl) rfl ?_ ?_
    rotate_left
    · go_simp
      rfl
    refine hK.out _ _ ⟨((cell_far (p := ⟨gb269, _, none⟩) NB268_269.out _).trans (((cell_far (p := ⟨gb269, _, none⟩) NB268_269.out _).trans (((cell_far (p := ⟨gb269, _, none⟩) NB268_269.out _).trans (((cell_far (p := ⟨gb269, _, none⟩) NB268_269.out _).trans (hHeld.1)))))))), ((cell_far (p := ⟨gb269, _, none⟩) NB268_269.out _).trans (((cell_far (p := ⟨gb269, _, none⟩) NB268_269.out _).trans (((cell_far (p := ⟨gb269, _, none⟩) NB268_269.out _).trans (((cell_far (p := ⟨gb269, _, none⟩) NB268_269.out _).trans (hHeld.2.1)))))))), ((cell_far (p := ⟨gb269, _, none⟩) NB268_269.out _).trans (((cell_far (p := ⟨gb269, _, none⟩) NB268_269.out _).trans (((cell_far (p := ⟨gb269, _, none⟩) NB268_269.out _).trans (((cell_far (p := ⟨gb269, _, none⟩) NB268_269.out _).trans (hHeld.2.2.1)))))))), ((cell_far (p := ⟨gb269, _, none⟩) NB268_269.out _).trans (((cell_far (p := ⟨gb269, _, none⟩) NB268_269.out _).trans (((cell_far (p := ⟨gb269, _, none⟩) NB268_269.out _).trans (((cell_far (p := ⟨gb269, _, none⟩) NB268_269.out _).trans (hHeld.2.2.2))))))))⟩ (fun hHeld => ?_)
    clear hK K
    refine done_ (done_of HT_.out (by kernel_rfl)) ?_
    try go_wp2
    refine bodyPost_ret (results_cell_row rfl _ _ gb269 38 #[.int .i64 a0_0, .slice Ao9 y273.length co9, .int .i64 a0_2, .slice none 0 0] (0, 0) _ rfl (by (with_reducible repeat (first | refine blk_drewN ?_ _ | refine blk_drew ?_ | refine blk_alloc ?_ _)); refine blk_put (cs := #[.int .i64 a0_0, .slice Ao9 y273.length co9, .int .i64 a0_2, .slice none 0 0]) ?_ 3 _ rfl; (with_reducible repeat (first | refine blk_drewN ?_ _ | refine blk_drew ?_ | refine blk_alloc ?_ _)); refine blk_put (cs := #[.int .i64 a0_0, .slice Ao9 y273.length co9, .int .i64 0, .slice none 0 0]) ?_ 2 _ rfl; (with_reducible repeat (first | refine blk_drewN ?_ _ | refine blk_drew ?_ | refine blk_alloc ?_ _)); refine blk_put (cs := #[.int .i64 a0_0, .slice none 0 0, .int .i64 0, .slice none 0 0]) ?_ 1 _ rfl; (with_reducible repeat (first | refine blk_drewN ?_ _ | refine blk_drew ?_ | refine blk_alloc ?_ _)); refine blk_put (cs := #[.int .i64 0, .slice none 0 0, .int .i64 0, .slice none 0 0]) ?_ 0 _ rfl; (with_reducible repeat (first | refine blk_drewN ?_ _ | refine blk_drew ?_ | refine blk_alloc ?_ _)); exact BK269.out) Tryd.underlying38 rfl (by kernel_rfl)) rfl ?_
    exact ⟨_, _, by first | rfl | (simp [errW_none, errW_some] <;> rfl) | (simp [*, errW_none, errW_some] <;> rfl), by (with_reducible repeat (first | apply Kd.R_alloc | apply Kd.R_drewN | apply Kd.R_drew)); exact Kd.R_mono (Kd.R_far (p := ⟨gb269, 3, none⟩) (Kd.R_far (p := ⟨gb269, 2, none⟩) (Kd.R_far (p := ⟨gb269, 1, none⟩) (Kd.R_far (p := ⟨gb269, 0, none⟩) (Kd.R_types HO275.out BK269.out (by decide)) (fun _ hk => hk.2) (.int .i64 a0_0)) (fun _ hk => hk.2) (.slice Ao9 y273.length co9)) (fun _ hk => hk.2) (.int .i64 a0_2)) (fun _ hk => hk.2) (.slice none 0 0)) (fun _ hk => trivial), by first | exact Kd.R_nil _ _ _ _ _ | exact Kd.N_nil _ _ _ _ _ | exact Kd.V_nil _ _ _ _ _ | exact Kd.Q_nil _ _ _ _ _ | exact Kd.S_nil _ _ _ _ _, by repeat (first | (with_reducible first | exact HB.out | apply below_alloc | apply pw_below_drewN | apply below_drew1 | refine below_set ?_ GE268.out | refine below_set ?_ GE269.out) | exact HB.out)⟩
  · rw [if_neg c2] at H
    exact absurd H (by simp)

end Go.Proofs.YtgdpknmffohhaaaDoor.Pl

/- The reference's Same and Frame of lines, and its Indent. -/
namespace Go.Proofs.YtgdpknmffohhaaaDoor.Pl
open Go.RowKit Go.Lib Go.Proofs.YtgdpknmffohhaaaDoorW.PrintWords Go.Proofs.YtgdpknmffohhaaaDoorW.PrintLast Go.Proofs.YtgdpknmffohhaaaDoorW.PrintMore
set_option linter.unusedVariables false
theorem intsR_loop_ (x y : List Int) (hl : x.length = y.length) (hx : x.length ≤ 1000000000) : ∀ (m i : Nat), x.length - i = m → i ≤ x.length → Ev (fun k => quillworkref06_ints.l0 k x y (i : Int)) (x.drop i == y.drop i) := by
  intro m
  induction m with
  | zero =>
    intro i hm hi
    refine Ev.step (f := fun _ => some _) (fun k => ?_) (Ev.now _)
    simp only [quillworkref06_ints.l0]
    rw [if_neg (by omega), List.drop_eq_nil_of_le (by omega), List.drop_eq_nil_of_le (by omega)]
    rfl
  | succ m ih =>
    intro i hm hi
    have e3 : wrap64 ((i : Int) + 1) = ((i + 1 : Nat) : Int) := by rw [w64s_ _ (by omega)]; omega
    have hd : (x.drop i == y.drop i) = ((x[i]'(by omega) == y[i]'(by omega)) && (x.drop (i + 1) == y.drop (i + 1))) := by
      rw [List.drop_eq_getElem_cons (show i < x.length by omega), List.drop_eq_getElem_cons (show i < y.length by omega)]
      rfl
    rw [hd]
    by_cases h : x[i]'(by omega) = y[i]'(by omega)
    · rw [beq_iff_eq.mpr h, Bool.true_and]
      refine Ev.step (fun k => ?_) (ih (i + 1) (by omega) (by omega))
      simp only [quillworkref06_ints.l0]
      rw [if_pos (by omega), if_pos (by omega), if_pos (by omega), if_pos (by rw [rdi_ (by omega), rdi_ (by omega)]; exact h), e3]
    · rw [beq_eq_false_iff_ne.mpr h, Bool.false_and]
      refine Ev.step (f := fun _ => some _) (fun k => ?_) (Ev.now _)
      simp only [quillworkref06_ints.l0]
      rw [if_pos (by omega), if_pos (by omega), if_pos (by omega), if_neg (by rw [rdi_ (by omega), rdi_ (by omega)]; exact h)]
theorem intsR_ (x y : List Int) (hx : x.length ≤ 1000000000) : Ev (fun k => quillworkref06_ints.f k x y) (x == y) := by
  unfold quillworkref06_ints.f
  by_cases h : x.length = y.length
  · exact Ev.congr (fun k => if_pos (by omega)) (intsR_loop_ x y h hx _ 0 rfl (Nat.zero_le _))
  · have : (x == y) = false := beq_eq_false_iff_ne.mpr (fun e => h (congrArg List.length e))
    rw [this]
    exact Ev.congr (fun k => if_neg (by omega)) (Ev.now _)
theorem eqR_ (x y : List S71) (hl : x.length ≤ 1000000000) : Ev (fun k => quillworkref05_Same.f k x y) (sameC x y) := by
  unfold quillworkref05_Same.f
  by_cases h : x.length = y.length
  · exact Ev.congr (fun k => if_pos (by omega)) (eqR_loop_ x y h hl _ 0 rfl (Nat.zero_le _))
  · rw [sameC_len h]
    exact Ev.congr (fun k => if_neg (by omega)) (Ev.now _)
theorem refsame_ev_ (x y : Ln) (hx : x.ls.length ≤ 1000000000) (hc : x.cs.length ≤ 1000000000) : Ev (fun k => quillworkref06_Same.f k x.q x.ls x.k x.cs y.q y.ls y.k y.cs) (sameL x y) := by
  unfold quillworkref06_Same.f sameL
  by_cases h0 : x.q = y.q
  · rw [beq_iff_eq.mpr h0, Bool.true_and]
    refine Ev.congr (fun k => if_pos h0) ?_
    refine Ev.bind (intsR_ _ _ hx) ?_
    cases e : x.ls == y.ls with
    | true =>
      refine Ev.congr (fun k => if_pos rfl) ?_
      by_cases h1 : x.k = y.k
      · rw [beq_iff_eq.mpr h1, Bool.true_and, Bool.true_and]
        exact Ev.congr (fun k => if_pos h1) (Ev.bind (eqR_ _ _ hc) (Ev.now _))
      · rw [beq_eq_false_iff_ne.mpr h1]
        exact Ev.congr (fun k => if_neg h1) (Ev.now _)
    | false =>
      rw [Bool.false_and, Bool.and_false]
      exact Ev.congr (fun k => if_neg (by decide)) (Ev.now _)
  · rw [beq_eq_false_iff_ne.mpr h0]
    exact Ev.congr (fun k => if_neg h0) (Ev.now _)
theorem refsame_calls_ (x y : Ln) (v u : Value) (w : World) (hx : RdL w v x) (hy : RdL w u y) (hz : Sz x) :
    Calls Tryd.prog 32 #[v, u] w fun e w' => e = .returned (.bool (sameL x y)) ∧ Below w.heap.size w w' := by
  obtain ⟨_, _, rfl, ⟨A1, c1, rfl, h1, hc1⟩, ⟨A3, c3, rfl, h3, hc3⟩⟩ := hx
  obtain ⟨_, _, rfl, ⟨B1, d1, rfl, g1, gc1⟩, ⟨B3, d3, rfl, g3, gc3⟩⟩ := hy
  obtain ⟨k, hk⟩ := (refsame_ev_ x y (by have := hz.1; omega) (by have := hz.2.1; omega)).rounds
  exact quillworkref06_Same.calls k _ _ _ _ _ _ _ _ _ _ _ _ _ _ _ _ _ w h1 hc1 h3 hc3 g1 gc1 g3 gc3 hk
end Go.Proofs.YtgdpknmffohhaaaDoor.Pl

/- law06.is: are two answers the same; and the first is written over. -/
namespace Go.Proofs.YtgdpknmffohhaaaDoor.Pl
open Go.RowKit Go.Lib Go.Proofs.YtgdpknmffohhaaaDoorW.PrintWords Go.Proofs.YtgdpknmffohhaaaDoorW.PrintLast Go.Proofs.YtgdpknmffohhaaaDoorW.PrintMore
set_option linter.unusedVariables false
theorem add_off_ (b off i : Nat) : (⟨b, off, none⟩ : Addr).add i = ⟨b, off + i, none⟩ := by
  unfold Addr.add
  split <;> simp_all
def WBlk (W : World) (g t n : Nat) : Prop := ∃ cs : Array Value, W.heap[g]? = some (.cells cs t (0, 0)) ∧ cs.size = n
theorem WBlk.cell {W : World} {g t n j : Nat} (h : WBlk W g t n) (hj : j < n) : ∃ z, W.cell? ⟨g, j, none⟩ = some z := by
  obtain ⟨cs, h1, rfl⟩ := h
  exact ⟨cs[j], (blk_cell h1 j).trans (Array.getElem?_eq_getElem hj)⟩
theorem WBlk.frozen {W : World} {g t n : Nat} (h : WBlk W g t n) (j : Nat) : W.frozen? ⟨g, j, none⟩ = false := by
  obtain ⟨cs, h1, _⟩ := h
  exact blk_frozen h1 j
theorem WBlk.set {W : World} {g t n : Nat} (h : WBlk W g t n) (g' j : Nat) (u : Value) : WBlk (W.setCell ⟨g', j, none⟩ u) g t n := by
  obtain ⟨cs, h1, h2⟩ := h
  by_cases e : g = g'
  · subst e
    exact ⟨_, blk_put h1 j u rfl, by rw [Array.size_setIfInBounds]; exact h2⟩
  · exact ⟨cs, blk_off_ h1 e, h2⟩
theorem WBlk.below {W W1 : World} {g t n : Nat} (h : WBlk W g t n) (hb : Below W.heap.size W W1) : WBlk W1 g t n := by
  obtain ⟨cs, h1, h2⟩ := h
  exact ⟨cs, blk_below h1 hb, h2⟩
/-- a row that may be written over -/
def Rows_ (W : World) (N base : Nat) (A : Option Addr) (len sz t : Nat) : Prop :=
  0 < len → ∃ g off n, A = some ⟨g, off, none⟩ ∧ base ≤ g ∧ g < N ∧ WBlk W g t n ∧ ∀ j, j < len * sz → off + j < n
theorem Rows_.set {W : World} {N base len sz t : Nat} {A : Option Addr} (h : Rows_ W N base A len sz t) (g' j : Nat) (u : Value) : Rows_ (W.setCell ⟨g', j, none⟩ u) N base A len sz t := fun hp => by
  obtain ⟨g, off, n, h1, h2, h3, h4, h5⟩ := h hp
  exact ⟨g, off, n, h1, h2, h3, h4.set g' j u, h5⟩
theorem Rows_.below {W W1 : World} {N base len sz t : Nat} {A : Option Addr} (h : Rows_ W N base A len sz t) (hb : Below W.heap.size W W1) : Rows_ W1 N base A len sz t := fun hp => by
  obtain ⟨g, off, n, h1, h2, h3, h4, h5⟩ := h hp
  exact ⟨g, off, n, h1, h2, h3, h4.below hb, h5⟩
theorem Rows_.of_Wr {α : Type} {d : Kd α} {e base : Nat} {W : World} {A : Option Addr} {c : Nat} {xs : List α} (hC : d.C W A xs.length xs) (hp : 0 < xs.length → ∃ g off cells, A = some ⟨g, off, none⟩ ∧ base ≤ g ∧ W.heap[g]? = some (.cells cells e (0, 0))) (hs : 0 < d.sz) : Rows_ W W.heap.size base A xs.length d.sz e := fun hl => by
  obtain ⟨g, off, cells, rfl, h1, h2⟩ := hp hl
  refine ⟨g, off, cells.size, rfl, h1, blk_lt h2, ⟨cells, h2, rfl⟩, fun j hj => ?_⟩
  obtain ⟨ad, had, hc⟩ := hC.2.2 hl
  injection had with had
  subst had
  have hq : j / d.sz < xs.length := Nat.div_lt_of_lt_mul (by rw [Nat.mul_comm]; exact hj)
  obtain ⟨cc, hcl, _, hcell⟩ := hc (j / d.sz) _ (List.getElem?_eq_getElem hq)
  have hm : j % d.sz < cc.length := by rw [hcl]; exact Nat.mod_lt _ hs
  have h3 := hcell (j % d.sz) _ (List.getElem?_eq_getElem hm)
  rw [show j / d.sz * d.sz + j % d.sz = j by rw [Nat.mul_comm]; exact Nat.div_add_mod _ _] at h3
  have h4 : W.cell? ⟨g, off + j, none⟩ = some cc[j % d.sz] := by rw [← add_off_]; exact h3
  rw [blk_cell h2] at h4
  exact (Array.getElem?_eq_some_iff.1 h4).1
/-- the boxes of lines stay -/
def Boxes_ (w W : World) : Prop := ∀ (k : Nat) (cells : Array Value), w.heap[k]? = some (.cells cells 38 (0, 0)) → W.heap[k]? = some (.cells cells 38 (0, 0))
theorem Boxes_.of_below {w W : World} (h : Below w.heap.size w W) : Boxes_ w W := fun k cells hk => blk_below hk h
theorem Boxes_.set {w W : World} {g t n : Nat} (h : Boxes_ w W) (hb : WBlk W g t n) (ht : t ≠ 38) (j : Nat) (u : Value) : Boxes_ w (W.setCell ⟨g, j, none⟩ u) := fun k cells hk => by
  obtain ⟨cs, h1, _⟩ := hb
  have h2 := h k cells hk
  refine blk_off_ h2 (fun e => ?_)
  subst e
  rw [h1] at h2
  injection h2 with h2
  injection h2 with _ h2
  exact ht h2
/-- addresses that a row does not have -/
def OffR_ (A : Option Addr) (m : Nat) (ad : Addr) : Prop := ∀ a j, A = some a → j < m → ad ≠ a.add j
/-- blocks keep their types -/
def Typ_ (w W : World) : Prop := ∀ (k t : Nat) (cells : Array Value), w.heap[k]? = some (.cells cells t (0, 0)) → ∃ cells', W.heap[k]? = some (.cells cells' t (0, 0))
theorem Typ_.set {w W : World} (h : Typ_ w W) (g j : Nat) (u : Value) : Typ_ w (W.setCell ⟨g, j, none⟩ u) := fun k t cells hk => by
  obtain ⟨c', h1⟩ := h k t cells hk
  by_cases e : k = g
  · subst e
    exact ⟨_, blk_put h1 j u rfl⟩
  · exact ⟨c', blk_off_ h1 e⟩
def Sp_ (A1 : Option Addr) (n1 : Nat) (A3 : Option Addr) (n3 : Nat) (w W : World) : Prop := (∀ ad, OffR_ A1 n1 ad → OffR_ A3 n3 ad → ad.block < w.heap.size → W.cell? ad = w.cell? ad) ∧ Typ_ w W
theorem Sp_.of_below {A1 A3 : Option Addr} {n1 n3 : Nat} {w W : World} (h : Below w.heap.size w W) : Sp_ A1 n1 A3 n3 w W := ⟨fun ad _ _ hb => h.cell hb, fun k t cells hk => ⟨cells, blk_below hk h⟩⟩
theorem Sp_.set1 {A1 A3 : Option Addr} {n1 n3 : Nat} {w W : World} (h : Sp_ A1 n1 A3 n3 w W) {g off j : Nat} (hA : A1 = some ⟨g, off, none⟩) (hj : j < n1) (u : Value) : Sp_ A1 n1 A3 n3 w (W.setCell ⟨g, off + j, none⟩ u) :=
  ⟨fun ad h1 h3 hb => (World.cell?_setCell_other _ _ _ _ (fun e => h1 _ j hA hj (by rw [add_off_]; exact e.symm))).trans (h.1 ad h1 h3 hb), h.2.set _ _ _⟩
theorem Sp_.set3 {A1 A3 : Option Addr} {n1 n3 : Nat} {w W : World} (h : Sp_ A1 n1 A3 n3 w W) {g off j : Nat} (hA : A3 = some ⟨g, off, none⟩) (hj : j < n3) (u : Value) : Sp_ A1 n1 A3 n3 w (W.setCell ⟨g, off + j, none⟩ u) :=
  ⟨fun ad h1 h3 hb => (World.cell?_setCell_other _ _ _ _ (fun e => h3 _ j hA hj (by rw [add_off_]; exact e.symm))).trans (h.1 ad h1 h3 hb), h.2.set _ _ _⟩
/-- what is no cell of the line's rows stays -/
def Spared_ (v : Value) (x : Ln) (w W : World) : Prop := ∀ A1 c1 A3 c3, v = .agg #[.int .i64 x.q, .slice A1 x.ls.length c1, .int .i64 x.k, .slice A3 x.cs.length c3] → Sp_ A1 x.ls.length A3 (x.cs.length * 3) w W
theorem Spared_.mk' {x : Ln} {A1 A3 : Option Addr} {c1 c3 : Nat} {w W : World} (h : Sp_ A1 x.ls.length A3 (x.cs.length * 3) w W) : Spared_ (.agg #[.int .i64 x.q, .slice A1 x.ls.length c1, .int .i64 x.k, .slice A3 x.cs.length c3]) x w W := fun B1 d1 B3 d3 e => by
  injection e with e
  injection e with e
  injection e with _ e
  injection e with e1 e
  injection e with _ e
  injection e with e3 _
  injection e1 with e1
  injection e3 with e3
  subst e1
  subst e3
  exact h
set_option maxRecDepth 100000 in
set_option maxHeartbeats 8000000 in
theorem is_calls_ (x y : Ln) (ee ff : Int) (v u : Value) (w : World) (base : Nat) (hx : WrL w base v x) (hy : RdL w u y) (hz : Sz x) (hbw : base ≤ w.heap.size) :
    Calls Tryd.prog 29 #[v, .int .i64 ee, u, .int .i64 ff] w fun e w' => e = .returned (.bool (decide (ee = ff) && sameL x y)) ∧ Below base w w' ∧ Boxes_ w w' ∧ Spared_ v x w w' := by
  have hu38 := Tryd.underlying38
  have HSM0 := Aside0.mk (fun W (hW : Below w.heap.size w W) => refsame_calls_ x y v u W (hx.rd.below hW) (hy.below hW) hz)
  obtain ⟨_, _, rfl, ⟨A1, c1, rfl, h1, hc1, hp1⟩, ⟨A3, c3, rfl, h3, hc3, hp3⟩⟩ := hx
  obtain ⟨_, _, rfl, ⟨D1, e1, rfl, g1, gc1⟩, ⟨D3, e3, rfl, g3, gc3⟩⟩ := hy
  have HR1 := Aside0.mk (Rows_.of_Wr (c := c1) h1 hp1 (by decide))
  have HR3 := Aside0.mk (Rows_.of_Wr (c := c3) h3 hp3 (by decide))
  obtain ⟨F0, F1, FB⟩ := two_boxes_ w (.cells #[.int .i64 x.q, .slice A1 x.ls.length c1, .int .i64 x.k, .slice A3 x.cs.length c3] 38) (.cells #[.int .i64 y.q, .slice D1 y.ls.length e1, .int .i64 y.k, .slice D3 y.cs.length e3] 38)
  have HZ := Aside0.mk hz
  have HBW := Aside0.mk hbw
  clear h1 h3 hc1 hc3 hp1 hp3 g1 g3 gc1 gc3 hz hbw
  go_enter Tryd.func29, Tryd.ntmps29
  go_upto_region 1 with (fail)
  generalize (w.alloc (.cells #[.int .i64 x.q, .slice A1 x.ls.length c1, .int .i64 x.k, .slice A3 x.cs.length c3] 38)).alloc (.cells #[.int .i64 y.q, .slice D1 y.ls.length e1, .int .i64 y.k, .slice D3 y.cs.length e3] 38) = W0 at F0 F1 FB ⊢
  have p0 : W0.cell? ⟨w.heap.size, 0, none⟩ = some (.int .i64 x.q) := (blk_cell F0 0).trans rfl
  have p1 : W0.cell? ⟨w.heap.size, 1, none⟩ = some (.slice A1 x.ls.length c1) := (blk_cell F0 1).trans rfl
  have p2 : W0.cell? ⟨w.heap.size, 2, none⟩ = some (.int .i64 x.k) := (blk_cell F0 2).trans rfl
  have p3 : W0.cell? ⟨w.heap.size, 3, none⟩ = some (.slice A3 x.cs.length c3) := (blk_cell F0 3).trans rfl
  have q0 : W0.cell? ⟨w.heap.size + 1, 0, none⟩ = some (.int .i64 y.q) := (blk_cell F1 0).trans rfl
  have q1 : W0.cell? ⟨w.heap.size + 1, 1, none⟩ = some (.slice D1 y.ls.length e1) := (blk_cell F1 1).trans rfl
  have q2 : W0.cell? ⟨w.heap.size + 1, 2, none⟩ = some (.int .i64 y.k) := (blk_cell F1 2).trans rfl
  have q3 : W0.cell? ⟨w.heap.size + 1, 3, none⟩ = some (.slice D3 y.cs.length e3) := (blk_cell F1 3).trans rfl
  have HF0 := Aside0.mk F0
  have HFB := Aside0.mk FB
  have HSM := Aside0.mk (HSM0.out W0 FB)
  clear F0 F1 FB HSM0
  by_cases hef : ee = ff
  case' pos =>
    have hb1 : (ee == ff) = true := beq_iff_eq.2 hef
    have hb2 : decide (ee = ff) = true := decide_eq_true hef
    obtain ⟨b, hb⟩ : ∃ b, sameL x y = b := ⟨_, rfl⟩
    rw [hb] at HSM
    have HR := Aside0.mk (show (decide (ee = ff) && sameL x y) = b by rw [hb2, hb]; rfl)
    clear hef hb hb2
    go_wp2_with (go_at_call 32; refine HSM.out.mono ?_; rintro e W1 ⟨rfl, hb⟩; have HB1 := Aside0.mk (below_step HFB.out hb); have HF1 := Aside0.mk (blk_below HF0.out hb); clear hb)
    clear hb1
  case' neg =>
    have hb1 : (ee == ff) = false := beq_eq_false_iff_ne.2 hef
    have HR := Aside0.mk (show (decide (ee = ff) && sameL x y) = false by rw [decide_eq_false hef]; rfl)
    clear hef
    go_wp2
    have HB1 := HFB
    have HF1 := HF0
    clear hb1
    generalize W0 = W1 at HB1 HF1 ⊢
  all_goals
    have HQ1 := Aside0.mk (HR1.out.below HB1.out)
    have HQ3 := Aside0.mk (HR3.out.below HB1.out)
    have HB2 := Aside0.mk (HB1.out.mono HBW.out)
    have HX := Aside0.mk (Boxes_.of_below HB1.out)
    have HSP := Aside0.mk (Sp_.of_below (A1 := A1) (n1 := x.ls.length) (A3 := A3) (n3 := x.cs.length * 3) HB1.out)
    clear HB1 HR1 HR3 HF0 HFB HSM p0 p1 p2 p3 q0 q1 q2 q3
    go_loopg [10] x.ls.length (fun g v10 w' => ∃ (i : Nat), v10 = .int .i64 (i : Int) ∧ i + g = x.ls.length ∧ Aside0 (w'.heap[w.heap.size]? = some (.cells #[.int .i64 x.q, .slice A1 x.ls.length c1, .int .i64 x.k, .slice A3 x.cs.length c3] 38 (0, 0))) ∧ Aside0 (Rows_ w' w.heap.size base A1 x.ls.length (Kd.int .i64).sz 3) ∧ Aside0 (Rows_ w' w.heap.size base A3 x.cs.length k71.sz 71) ∧ Aside0 (Below base w w') ∧ Aside0 (Boxes_ w w') ∧ Aside0 (Sp_ A1 x.ls.length A3 (x.cs.length * 3) w w'))
    case atStart => exact ⟨0, rfl, by omega, HF1, HQ1, HQ3, HB2, HX, HSP⟩
    case round =>
      clear HF1 HQ1 HQ3 HB2 HX HSP
      obtain ⟨i, rfl, hig, HF, H1, H3, HB, HX, HSP⟩ := hrel
      have fl := HF.out
      have l0 : wr.cell? ⟨w.heap.size, 0, none⟩ = some (.int .i64 x.q) := (blk_cell fl 0).trans rfl
      have l1 : wr.cell? ⟨w.heap.size, 1, none⟩ = some (.slice A1 x.ls.length c1) := (blk_cell fl 1).trans rfl
      have l2 : wr.cell? ⟨w.heap.size, 2, none⟩ = some (.int .i64 x.k) := (blk_cell fl 2).trans rfl
      have l3 : wr.cell? ⟨w.heap.size, 3, none⟩ = some (.slice A3 x.cs.length c3) := (blk_cell fl 3).trans rfl
      clear fl
      cases gk with
      | succ r =>
        have e1 : decide ((i : Int) < (x.ls.length : Int)) = true := decide_eq_true (by omega)
        have w1' : IntKind.i64.wrap ((i : Int) + 1) = ((i + 1 : Nat) : Int) := by rw [i64_w]; unfold wrap64; have := HZ.out.1; omega
        obtain ⟨g, off, n, hA, hbg, hgN, hblk, hn⟩ := H1.out (by omega)
        have hnn := hn i (by show i < x.ls.length * 1; omega)
        obtain ⟨z, hcz⟩ := hblk.cell hnn
        have hfz := hblk.frozen (off + i)
        obtain ⟨ad, had⟩ : ∃ ad : Addr, (⟨g, off, none⟩ : Addr) = ad := ⟨_, rfl⟩
        have hadd : (⟨g, off + i, none⟩ : Addr) = ad.add i := by rw [← had, add_off_]
        rw [hadd] at hcz hfz
        rw [had] at hA
        subst hA
        have HADD := Aside0.mk hadd
        have HAD := Aside0.mk had
        have HG := Aside0.mk (And.intro hbg hgN)
        have HWB := Aside0.mk hblk
        clear hbg hgN hblk hn hnn hadd had
        have hi1 : (i : Int) < (x.ls.length : Int) := by omega
        go_wp2
        go_roundg r
        case measure => omega
        case rel => exact ⟨i + 1, by first | rfl | (simp; done), by omega, ⟨by rw [← HADD.out]; exact blk_off_ HF.out (by have := HG.out.2; omega)⟩, ⟨by rw [← HADD.out]; exact H1.out.set _ _ _⟩, ⟨by rw [← HADD.out]; exact H3.out.set _ _ _⟩, ⟨by rw [← HADD.out]; exact HB.out.setCell HG.out.1 _⟩, ⟨by rw [← HADD.out]; exact HX.out.set HWB.out (by decide) _ _⟩, ⟨by rw [← HADD.out]; exact HSP.out.set1 (congrArg some HAD.out.symm) (by omega) _⟩⟩
      | zero =>
        obtain rfl : i = x.ls.length := by omega
        have e1 : decide ((x.ls.length : Int) < (x.ls.length : Int)) = false := decide_eq_false (by omega)
        go_wp2
        clear e1 l0 l1 l2 l3
        go_loopg [11] x.cs.length (fun g v11 w' => ∃ (i : Nat), v11 = .int .i64 (i : Int) ∧ i + g = x.cs.length ∧ Aside0 (w'.heap[w.heap.size]? = some (.cells #[.int .i64 x.q, .slice A1 x.ls.length c1, .int .i64 x.k, .slice A3 x.cs.length c3] 38 (0, 0))) ∧ Aside0 (Rows_ w' w.heap.size base A3 x.cs.length k71.sz 71) ∧ Aside0 (Below base w w') ∧ Aside0 (Boxes_ w w') ∧ Aside0 (Sp_ A1 x.ls.length A3 (x.cs.length * 3) w w'))
        case atStart => exact ⟨0, rfl, by omega, HF, H3, HB, HX, HSP⟩
        case round =>
          clear HF H3 HB H1 HX HSP
          obtain ⟨i, rfl, hig2, HF, H3, HB, HX, HSP⟩ := hrel
          have fl := HF.out
          have l0 : wr.cell? ⟨w.heap.size, 0, none⟩ = some (.int .i64 x.q) := (blk_cell fl 0).trans rfl
          have l1 : wr.cell? ⟨w.heap.size, 1, none⟩ = some (.slice A1 x.ls.length c1) := (blk_cell fl 1).trans rfl
          have l2 : wr.cell? ⟨w.heap.size, 2, none⟩ = some (.int .i64 x.k) := (blk_cell fl 2).trans rfl
          have l3 : wr.cell? ⟨w.heap.size, 3, none⟩ = some (.slice A3 x.cs.length c3) := (blk_cell fl 3).trans rfl
          clear fl
          cases gk with
          | succ r =>
            have e1 : decide ((i : Int) < (x.cs.length : Int)) = true := decide_eq_true (by omega)
            have w1' : IntKind.i64.wrap ((i : Int) + 1) = ((i + 1 : Nat) : Int) := by rw [i64_w]; unfold wrap64; have := HZ.out.2.1; omega
            obtain ⟨g, off, n, hA, hbg, hgN, hblk, hn⟩ := H3.out (by omega)
            have hnn := hn (i * 3 + 1) (by show i * 3 + 1 < x.cs.length * 3; omega)
            obtain ⟨z, hcz⟩ := hblk.cell hnn
            have hfz := hblk.frozen (off + (i * 3 + 1))
            obtain ⟨ad, had⟩ : ∃ ad : Addr, (⟨g, off, none⟩ : Addr) = ad := ⟨_, rfl⟩
            have hadd : (⟨g, off + (i * 3 + 1), none⟩ : Addr) = ⟨(ad.add (i * 3)).block, (ad.add (i * 3)).off + 1, none⟩ := by rw [← had, add_off_]; show _ = (⟨g, off + i * 3 + 1, none⟩ : Addr); rw [Nat.add_assoc]
            rw [hadd] at hcz hfz
            rw [had] at hA
            subst hA
            have HADD := Aside0.mk hadd
            have HAD := Aside0.mk had
            have HG := Aside0.mk (And.intro hbg hgN)
            have HWB := Aside0.mk hblk
            clear hbg hgN hblk hn hnn hadd had
            have hi1 : (i : Int) < (x.cs.length : Int) := by omega
            go_wp2
            go_roundg r
            case measure => omega
            case rel => exact ⟨i + 1, by first | rfl | (simp; done), by omega, ⟨by rw [← HADD.out]; exact blk_off_ HF.out (by have := HG.out.2; omega)⟩, ⟨by rw [← HADD.out]; exact H3.out.set _ _ _⟩, ⟨by rw [← HADD.out]; exact HB.out.setCell HG.out.1 _⟩, ⟨by rw [← HADD.out]; exact HX.out.set HWB.out (by decide) _ _⟩, ⟨by rw [← HADD.out]; exact HSP.out.set3 (congrArg some HAD.out.symm) (by omega) _⟩⟩
          | zero =>
            obtain rfl : i = x.cs.length := by omega
            have e1 : decide ((x.cs.length : Int) < (x.cs.length : Int)) = false := decide_eq_false (by omega)
            go_wp2
            go_ret
            exact ⟨by rw [HR.out]; rfl, HB.out, HX.out, Spared_.mk' HSP.out⟩
end Go.Proofs.YtgdpknmffohhaaaDoor.Pl

/- quillworklaw06.turn: one of the calls; what it may come to. -/
namespace Go.Proofs.YtgdpknmffohhaaaDoor.Pl
open Go.RowKit Go.Lib Go.Proofs.YtgdpknmffohhaaaDoorW.PrintWords Go.Proofs.YtgdpknmffohhaaaDoorW.PrintLast Go.Proofs.YtgdpknmffohhaaaDoorW.PrintMore
set_option linter.unusedVariables false
end Go.Proofs.YtgdpknmffohhaaaDoor.Pl

/- How long an answer of chapter 06 may be. -/
namespace Go.Proofs.YtgdpknmffohhaaaDoor.Pl
open Go.RowKit Go.Lib Go.Proofs.YtgdpknmffohhaaaDoorW.PrintWords Go.Proofs.YtgdpknmffohhaaaDoorW.PrintLast Go.Proofs.YtgdpknmffohhaaaDoorW.PrintMore
theorem Sz_zero : Sz zeroLn := ⟨by decide, by decide, fun c hc => by cases hc⟩
end Go.Proofs.YtgdpknmffohhaaaDoor.Pl

/- Rows stay where only lines' boxes are written. -/
namespace Go.Proofs.YtgdpknmffohhaaaDoor.Pl
open Go.RowKit Go.Lib Go.Proofs.YtgdpknmffohhaaaDoorW.PrintWords Go.Proofs.YtgdpknmffohhaaaDoorW.PrintLast Go.Proofs.YtgdpknmffohhaaaDoorW.PrintMore
set_option linter.unusedVariables false
/-- blocks below N that are no line's box stay -/
def Keep_ (N : Nat) (W W' : World) : Prop := ∀ (k t : Nat) (cells : Array Value), k < N → t ≠ 38 → W.heap[k]? = some (.cells cells t (0, 0)) → W'.heap[k]? = some (.cells cells t (0, 0))
theorem Keep_.refl (N : Nat) (W : World) : Keep_ N W W := fun _ _ _ _ _ h => h
theorem Keep_.trans {N : Nat} {W W1 W2 : World} (h : Keep_ N W W1) (h2 : Keep_ N W1 W2) : Keep_ N W W2 := fun k t cells hk ht hc => h2 k t cells hk ht (h k t cells hk ht hc)
theorem Keep_.mono {N M : Nat} {W W1 : World} (h : Keep_ N W W1) (hm : M ≤ N) : Keep_ M W W1 := fun k t cells hk ht hc => h k t cells (Nat.lt_of_lt_of_le hk hm) ht hc
theorem Keep_.below {N : Nat} {W W1 : World} (h : Below N W W1) : Keep_ N W W1 := fun k t cells hk _ hc => (h.block k hk).trans hc
theorem Keep_.set {N : Nat} {W : World} {g j : Nat} {u : Value} {cs : Array Value} (hb : W.heap[g]? = some (.cells cs 38 (0, 0))) : Keep_ N W (W.setCell ⟨g, j, none⟩ u) := fun k t cells hk ht hc => blk_off_ hc (fun e => by
  subst e
  rw [hb] at hc
  injection hc with hc
  injection hc with _ hc
  exact ht hc.symm)
theorem Keep_.put4 {N : Nat} {W : World} {g : Nat} {a b c d z0 z1 z2 z3 : Value} (hb : W.heap[g]? = some (.cells #[z0, z1, z2, z3] 38 (0, 0))) : Keep_ N W (put4_ W g a b c d) :=
  (((Keep_.set hb).trans (Keep_.set (blk_put hb 0 a rfl))).trans (Keep_.set (blk_put (blk_put hb 0 a rfl) 1 b rfl))).trans (Keep_.set (blk_put (blk_put (blk_put hb 0 a rfl) 1 b rfl) 2 c rfl))
theorem Wr.keep {α : Type} {d : Kd α} {e : Nat} {W W1 : World} {base : Nat} {v : Value} {xs : List α} (h : Wr d e W base v xs) (hk : Keep_ W.heap.size W W1) (ht : e ≠ 38) (hK : ∀ (W W1 : World) x cs, d.K W x cs → d.K W1 x cs) : Wr d e W1 base v xs := by
  obtain ⟨A, c, e1, h1, h2, h3⟩ := h
  refine ⟨A, c, e1, ⟨h1.1, h1.2.1, fun hp => ?_⟩, h2, fun hp => ?_⟩
  · obtain ⟨ad, e2, h4⟩ := h1.2.2 hp
    obtain ⟨g', off, cells', e3, h5, h6⟩ := h3 hp
    refine ⟨ad, e2, fun j p hj => ?_⟩
    obtain ⟨cs, h7, h8, h9⟩ := h4 j p hj
    refine ⟨cs, h7, hK _ _ _ _ h8, fun i' u' hu => ?_⟩
    have := h9 i' u' hu
    rw [e2] at e3
    injection e3 with e3
    subst e3
    rw [add_off_] at this ⊢
    rw [blk_cell h6] at this
    rw [blk_cell (hk g' e cells' (blk_lt h6) ht h6)]
    exact this
  · obtain ⟨g', off, cells', e3, h5, h6⟩ := h3 hp
    exact ⟨g', off, cells', e3, h5, hk g' e cells' (blk_lt h6) ht h6⟩
theorem WrL.keep {W W1 : World} {base : Nat} {v : Value} {x : Ln} (h : WrL W base v x) (hk : Keep_ W.heap.size W W1) : WrL W1 base v x := by
  obtain ⟨v1, v3, e, h1, h3⟩ := h
  exact ⟨v1, v3, e, h1.keep hk (by decide) (fun _ _ _ _ h => h), h3.keep hk (by decide) (fun _ _ _ _ h => h)⟩
end Go.Proofs.YtgdpknmffohhaaaDoor.Pl

/- Two lines made in one region; rows of cells of their own. -/
namespace Go.Proofs.YtgdpknmffohhaaaDoor.Pl
open Go.RowKit Go.Lib Go.Proofs.YtgdpknmffohhaaaDoorW.PrintWords Go.Proofs.YtgdpknmffohhaaaDoorW.PrintLast Go.Proofs.YtgdpknmffohhaaaDoorW.PrintMore
set_option linter.unusedVariables false
/-- what the region that makes the two lines has made -/
structure TwoS where
  B1 : Option Addr
  d1 : Nat
  B3 : Option Addr
  d3 : Nat
  D1 : Option Addr
  e1 : Nat
  D3 : Option Addr
  e3 : Nat
  p : Nat
  q : Nat
theorem refownW_calls_ (x : Ln) (v : Value) (w : World) (hx : RdL w v x) (hz : Sz x) :
    Calls Tryd.prog 26 #[v] w fun e w' => ∃ A1 c1 A3 c3, e = .returned (.agg #[.int .i64 x.q, .slice A1 x.ls.length c1, .int .i64 x.k, .slice A3 x.cs.length c3]) ∧ WrL w' w.heap.size (.agg #[.int .i64 x.q, .slice A1 x.ls.length c1, .int .i64 x.k, .slice A3 x.cs.length c3]) x ∧ Below w.heap.size w w' := by
  refine (refown_calls_ x v w hx hz).mono ?_
  rintro e w' ⟨v1, v3, rfl, g1, g3, hb⟩
  obtain ⟨B1, d1, rfl⟩ := Kd.R_slice g1
  obtain ⟨B3, d3, rfl⟩ := Kd.R_slice g3
  exact ⟨B1, d1, B3, d3, rfl, ⟨_, _, rfl, Wr.of_R g1, Wr.of_R g3⟩, hb⟩
theorem refframeW_calls_ (x : Ln) (v : Value) (w : World) (hx : RdL w v x) (hz : Sz x) :
    Calls Tryd.prog 41 #[v] w fun e w' => ∃ A1 c1 A3 c3, e = .returned (.agg #[.int .i64 x.q, .slice A1 x.ls.length c1, .int .i64 x.k, .slice A3 0 c3]) ∧ WrL w' w.heap.size (.agg #[.int .i64 x.q, .slice A1 x.ls.length c1, .int .i64 x.k, .slice A3 0 c3]) ⟨x.q, x.ls, x.k, []⟩ ∧ Below w.heap.size w w' := by
  obtain ⟨_, _, rfl, ⟨A1, c1, rfl, h1, hc1⟩, ⟨A3, c3, rfl, h3, hc3⟩⟩ := hx
  refine (quillworkref06_Frame.calls _ _ _ _ _ _ _ _ x.q x.ls x.k [] w h1 hc1 h3 hc3 ?_).mono ?_
  · unfold quillworkref06_Frame.f
    simp only [Option.bind_some, List.nil_append, List.length_nil]
    rw [if_pos (by have := hz.1; omega)]
  · rintro e w' ⟨v1, v3, rfl, g1, g3, hb⟩
    obtain ⟨B1, d1, rfl⟩ := Kd.R_slice g1
    obtain ⟨B3, d3, rfl⟩ := Kd.R_slice g3
    exact ⟨B1, d1, B3, d3, rfl, ⟨_, _, rfl, Wr.of_R g1, Wr.of_R g3⟩, hb⟩
theorem ref05own_ (A : Option Addr) (c n : Nat) (xs : List S71) (w : World) (h : Kd.C k71 w A n xs) (hn : xs.length = n) (hc : n ≤ c) (hl : n ≤ 100000) :
    Calls Tryd.prog 55 #[.slice A n c] w fun e w' => ∃ B d, e = .returned (.slice B n d) ∧ Wr k71 71 w' w.heap.size (.slice B n d) xs ∧ Below w.heap.size w w' := by
  subst hn
  refine (quillworkref05_Own.calls A c xs xs w h hc ?_).mono ?_
  · unfold quillworkref05_Own.f
    simp only [Option.bind_some, List.nil_append, List.length_nil]
    rw [if_pos (by omega)]
  · rintro e w' ⟨v, rfl, g, hb⟩
    obtain ⟨B, d, rfl⟩ := Kd.R_slice g
    exact ⟨B, d, rfl, Wr.of_R g, hb⟩
end Go.Proofs.YtgdpknmffohhaaaDoor.Pl

/- lines.Frame, lines.Join. -/
namespace Go.Proofs.YtgdpknmffohhaaaDoor.Pl
open Go.RowKit Go.Lib Go.Proofs.YtgdpknmffohhaaaDoorW.PrintWords Go.Proofs.YtgdpknmffohhaaaDoorW.PrintLast Go.Proofs.YtgdpknmffohhaaaDoorW.PrintMore
set_option linter.unusedVariables false
set_option maxRecDepth 100000 in
set_option maxHeartbeats 4000000 in
theorem frame_calls_ (x : Ln) (v : Value) (w : World) (hx : RdL w v x) (hz : Sz x) :
    Calls Tryd.prog 40 #[v] w fun e w' => ∃ B1 d1, e = .returned (.agg #[.int .i64 x.q, .slice B1 x.ls.length d1, .int .i64 x.k, .slice none 0 0]) ∧ Kd.R (Kd.int .i64) 3 w' w.heap.size (fun _ => True) (.slice B1 x.ls.length d1) x.ls ∧ Below w.heap.size w w' := by
  have hu38 := Tryd.underlying38
  obtain ⟨_, _, rfl, ⟨A1, c1, rfl, h1, hc1⟩, ⟨A3, c3, rfl, h3, hc3⟩⟩ := hx
  have hX : RdL w (.agg #[.int .i64 x.q, .slice A1 x.ls.length c1, .int .i64 x.k, .slice A3 x.cs.length c3]) x := ⟨_, _, rfl, ⟨A1, c1, rfl, h1, hc1⟩, ⟨A3, c3, rfl, h3, hc3⟩⟩
  have HO := Aside0.mk (fun W (hW : Below w.heap.size w W) => own_calls_ x _ W (hX.below hW) hz)
  obtain ⟨F1, F2, F3⟩ := two_boxes_ w (.cells #[.int .i64 x.q, .slice A1 x.ls.length c1, .int .i64 x.k, .slice A3 x.cs.length c3] 38) (.cells #[.int .i64 0, .slice none 0 0, .int .i64 0, .slice none 0 0] 38)
  clear h1 h3 hc1 hc3 hz hX
  go_enter Tryd.func40, Tryd.ntmps40
  go_upto_region 1 with (fail)
  generalize (w.alloc (.cells #[.int .i64 x.q, .slice A1 x.ls.length c1, .int .i64 x.k, .slice A3 x.cs.length c3] 38)).alloc (.cells #[.int .i64 0, .slice none 0 0, .int .i64 0, .slice none 0 0] 38) = W0 at F1 F2 F3 ⊢
  have a0 : W0.cell? ⟨w.heap.size, 0, none⟩ = some (.int .i64 x.q) := (blk_cell F1 0).trans rfl
  have a1 : W0.cell? ⟨w.heap.size, 1, none⟩ = some (.slice A1 x.ls.length c1) := (blk_cell F1 1).trans rfl
  have a2 : W0.cell? ⟨w.heap.size, 2, none⟩ = some (.int .i64 x.k) := (blk_cell F1 2).trans rfl
  have a3 : W0.cell? ⟨w.heap.size, 3, none⟩ = some (.slice A3 x.cs.length c3) := (blk_cell F1 3).trans rfl
  have H1 := Aside0.mk F1
  have H2 := Aside0.mk F2
  have H3 := Aside0.mk F3
  clear F1 F2 F3
  go_upto_region 2 with (go_at_call 39; refine (HO.out _ H3.out).mono ?_; rintro e w2 ⟨u1, u3, rfl, ho1, ho3, hb⟩; obtain ⟨B1, d1, rfl⟩ := Kd.R_slice ho1; obtain ⟨B3, d3, rfl⟩ := Kd.R_slice ho3; have HO1 := Aside0.mk ho1; have fb := blk_below H1.out hb; have e0 := blk_frozen fb 0; have e1 := blk_frozen fb 1; have e2 := blk_frozen fb 2; have e3 := blk_frozen fb 3; have b0 : w2.cell? ⟨w.heap.size, 0, none⟩ = some (.int .i64 x.q) := (blk_cell fb 0).trans rfl; have b1 : w2.cell? ⟨w.heap.size, 1, none⟩ = some (.slice A1 x.ls.length c1) := (blk_cell fb 1).trans rfl; have b2 : w2.cell? ⟨w.heap.size, 2, none⟩ = some (.int .i64 x.k) := (blk_cell fb 2).trans rfl; have b3 : w2.cell? ⟨w.heap.size, 3, none⟩ = some (.slice A3 x.cs.length c3) := (blk_cell fb 3).trans rfl; have FB := Aside0.mk fb; have HB2 := Aside0.mk hb; clear ho1 ho3 hb fb)
  have P1 := put4_blk (a := .int .i64 x.q) (b := .slice B1 x.ls.length d1) (c := .int .i64 x.k) (d := .slice B3 x.cs.length d3) FB.out
  have P2 := put4_off (g := w.heap.size) (a := .int .i64 x.q) (b := .slice B1 x.ls.length d1) (c := .int .i64 x.k) (d := .slice B3 x.cs.length d3) (blk_below H2.out HB2.out) (by omega)
  have PO1 := put4_R (a := .int .i64 x.q) (b := .slice B1 x.ls.length d1) (c := .int .i64 x.k) (d := .slice B3 x.cs.length d3) (Kd.R_lower HO1.out (below_size H3.out)) FB.out (by decide)
  have PB := put4_below (a := .int .i64 x.q) (b := .slice B1 x.ls.length d1) (c := .int .i64 x.k) (d := .slice B3 x.cs.length d3) (below_step H3.out HB2.out) (Nat.le_refl _)
  unfold put4_ at P1 P2 PO1 PB
  generalize (((w2.setCell ⟨w.heap.size, 0, none⟩ (.int .i64 x.q)).setCell ⟨w.heap.size, 1, none⟩ (.slice B1 x.ls.length d1)).setCell ⟨w.heap.size, 2, none⟩ (.int .i64 x.k)).setCell ⟨w.heap.size, 3, none⟩ (.slice B3 x.cs.length d3) = W3 at P1 P2 PO1 PB ⊢
  clear e0 e1 e2 e3 b0 b1 b2 b3 a0 a1 a2 a3 HO1 FB HB2 H1 H2 H3 HO
  have e3 := blk_frozen P1 3
  have b3 : W3.cell? ⟨w.heap.size, 3, none⟩ = some (.slice B3 x.cs.length d3) := (blk_cell P1 3).trans rfl
  have q1 : (W3.setCell ⟨w.heap.size, 3, none⟩ (.slice none 0 0)).heap[w.heap.size]? = some (.cells #[.int .i64 x.q, .slice B1 x.ls.length d1, .int .i64 x.k, .slice none 0 0] 38 (0, 0)) := blk_put P1 3 _ rfl
  have q2 := blk_off_ (i := 3) (u := .slice none 0 0) (g := w.heap.size) P2 (by omega)
  have qO := R_put_ PO1 P1 (by decide) 3 (.slice none 0 0)
  have qB := below_set (g := w.heap.size) (j := 3) (v := .slice none 0 0) PB (Nat.le_refl _)
  go_upto_region 3 with (fail)
  generalize W3.setCell ⟨w.heap.size, 3, none⟩ (.slice none 0 0) = W4 at q1 q2 qO qB ⊢
  clear e3 b3 P1 P2 PO1 PB
  have a0 : W4.cell? ⟨w.heap.size, 0, none⟩ = some (.int .i64 x.q) := (blk_cell q1 0).trans rfl
  have a1 : W4.cell? ⟨w.heap.size, 1, none⟩ = some (.slice B1 x.ls.length d1) := (blk_cell q1 1).trans rfl
  have a2 : W4.cell? ⟨w.heap.size, 2, none⟩ = some (.int .i64 x.k) := (blk_cell q1 2).trans rfl
  have a3 : W4.cell? ⟨w.heap.size, 3, none⟩ = some (.slice none 0 0) := (blk_cell q1 3).trans rfl
  have e0 := blk_frozen q2 0
  have e1 := blk_frozen q2 1
  have e2 := blk_frozen q2 2
  have e3 := blk_frozen q2 3
  have b0 : W4.cell? ⟨w.heap.size + 1, 0, none⟩ = some (.int .i64 0) := (blk_cell q2 0).trans rfl
  have b1 : W4.cell? ⟨w.heap.size + 1, 1, none⟩ = some (.slice none 0 0) := (blk_cell q2 1).trans rfl
  have b2 : W4.cell? ⟨w.heap.size + 1, 2, none⟩ = some (.int .i64 0) := (blk_cell q2 2).trans rfl
  have b3 : W4.cell? ⟨w.heap.size + 1, 3, none⟩ = some (.slice none 0 0) := (blk_cell q2 3).trans rfl
  have Q2 := Aside0.mk q2
  have QO := Aside0.mk qO
  have QB := Aside0.mk qB
  clear q1 q2 qO qB
  go_wp2
  refine bodyPost_ret (results_cell_row rfl _ _ (w.heap.size + 1) 38 #[.int .i64 x.q, .slice B1 x.ls.length d1, .int .i64 x.k, .slice none 0 0] (0, 0) _ rfl (put4_blk Q2.out) Tryd.underlying38 rfl (by kernel_rfl)) rfl ?_
  exact ⟨_, _, rfl, put4_R QO.out Q2.out (by decide), put4_below QB.out (Nat.le_succ _)⟩
end Go.Proofs.YtgdpknmffohhaaaDoor.Pl

/- lines.Split: two lines out of one. -/
namespace Go.Proofs.YtgdpknmffohhaaaDoor.Pl
open Go.RowKit Go.Lib Go.Proofs.YtgdpknmffohhaaaDoorW.PrintWords Go.Proofs.YtgdpknmffohhaaaDoorW.PrintLast Go.Proofs.YtgdpknmffohhaaaDoorW.PrintMore
set_option linter.unusedVariables false
set_option linter.unusedSimpArgs false
/-- what the region that makes the two lines has made -/
structure SpS where
  B1 : Option Addr
  d1 : Nat
  B3 : Option Addr
  d3 : Nat
  D1 : Option Addr
  e1 : Nat
  p : Nat
  q : Nat
def Two_ (base : Nat) (x : Ln) (W : World) (s : SpS) : Prop :=
  Kd.R (Kd.int .i64) 3 W base (fun _ => True) (.slice s.B1 x.ls.length s.d1) x.ls ∧ Kd.R k71 71 W base (fun _ => True) (.slice s.B3 x.cs.length s.d3) x.cs ∧ Kd.R (Kd.int .i64) 3 W base (fun _ => True) (.slice s.D1 x.ls.length s.e1) x.ls ∧
    ∃ N, (∀ k, (Value.slice s.B1 x.ls.length s.d1).ownBlock = some k → k < N) ∧ ∀ k, (Value.slice s.D1 x.ls.length s.e1).ownBlock = some k → N ≤ k
def SpF (w : World) (x : Ln) (s : SpS) (W : World) : Prop :=
  Two_ w.heap.size x W s ∧ W.heap[s.p]? = some (.cells #[.int .i64 0, .slice none 0 0, .int .i64 0, .slice none 0 0] 38 (0, 0)) ∧ W.heap[s.q]? = some (.cells #[.int .i64 0, .slice none 0 0, .int .i64 0, .slice none 0 0] 38 (0, 0)) ∧ s.p ≠ s.q ∧ w.heap.size + 3 ≤ s.p ∧ w.heap.size + 3 ≤ s.q ∧ W.heap[w.heap.size + 1]? = some (.cells #[.int .i64 0, .slice none 0 0, .int .i64 0, .slice none 0 0] 38 (0, 0)) ∧ W.heap[w.heap.size + 2]? = some (.cells #[.int .i64 0, .slice none 0 0, .int .i64 0, .slice none 0 0] 38 (0, 0)) ∧ Below w.heap.size w W
def splitA (x : Ln) (n : Nat) : Ln := { x with cs := x.cs.take n }
def splitB (x : Ln) (n : Nat) : Ln := if n = x.cs.length then { x with k := 0, cs := [] } else { x with cs := x.cs.drop n }
def splitR (x : Ln) (at_ : Int) : Ln × Ln × Int := if mayL x = true ∧ 0 ≤ at_ ∧ at_ ≤ (x.cs.length : Int) then (splitA x at_.toNat, splitB x at_.toNat, 0) else (zeroLn, zeroLn, 1)
/-- two parts of memory are apart -/
def Apart_ (A : Option Addr) (n : Nat) (B : Option Addr) (m : Nat) : Prop := ∀ a b i j, A = some a → B = some b → i < n → j < m → a.add i ≠ b.add j
def SplitBack_ (w : World) (r : Ln × Ln × Int) (e : Ending) (w' : World) : Prop := ∃ A1 a1 A3 a3 B1 b1 B3 b3,
  e = .returned (.tuple #[.agg #[.int .i64 r.1.q, .slice A1 r.1.ls.length a1, .int .i64 r.1.k, .slice A3 r.1.cs.length a3], .agg #[.int .i64 r.2.1.q, .slice B1 r.2.1.ls.length b1, .int .i64 r.2.1.k, .slice B3 r.2.1.cs.length b3], .int .i64 r.2.2]) ∧
    WrL w' w.heap.size (.agg #[.int .i64 r.1.q, .slice A1 r.1.ls.length a1, .int .i64 r.1.k, .slice A3 r.1.cs.length a3]) r.1 ∧ WrL w' w.heap.size (.agg #[.int .i64 r.2.1.q, .slice B1 r.2.1.ls.length b1, .int .i64 r.2.1.k, .slice B3 r.2.1.cs.length b3]) r.2.1 ∧
    Apart_ A1 r.1.ls.length B1 r.2.1.ls.length ∧ Apart_ A3 (r.1.cs.length * 3) B3 (r.2.1.cs.length * 3) ∧ Below w.heap.size w w'
theorem zero_back_ {w W : World} (h : Below w.heap.size w W) : SplitBack_ w (zeroLn, zeroLn, 1) (.returned (.tuple #[.agg #[.int .i64 0, .slice none 0 0, .int .i64 0, .slice none 0 0], .agg #[.int .i64 0, .slice none 0 0, .int .i64 0, .slice none 0 0], .int .i64 1])) W :=
  ⟨none, 0, none, 0, none, 0, none, 0, rfl, WrL_zero _ _, WrL_zero _ _, (by intro a b i j h; cases h), (by intro a b i j h; cases h), h⟩
theorem Wr_take_ {W : World} {base c n : Nat} {A : Option Addr} {xs : List S71} (h : Kd.R k71 71 W base (fun _ => True) (.slice A xs.length c) xs) (hn : n ≤ xs.length) : Wr k71 71 W base (.slice A n n) (xs.take n) := by
  obtain ⟨_, h1, h2⟩ := Kd.R_reads' h
  have hl : (xs.take n).length = n := by rw [List.length_take]; omega
  refine ⟨A, n, by rw [hl], Kd.C_take h2 hn, by omega, fun hp => ?_⟩
  obtain ⟨g, cap, e1, h4, h5, cells, h6⟩ := Kd.R_form h (by omega)
  injection e1 with e2
  exact ⟨g, 0, cells, e2, h4, h6⟩
theorem Wr_drop_ {W : World} {base c n g : Nat} {xs : List S71} (h : Kd.R k71 71 W base (fun _ => True) (.slice (some ⟨g, 0, none⟩) xs.length c) xs) (hn : n < xs.length) : Wr k71 71 W base (.slice (some ⟨g, n * 3, none⟩) (xs.length - n) (c - n)) (xs.drop n) := by
  obtain ⟨_, h1, h2⟩ := Kd.R_reads' h
  have hl : (xs.drop n).length = xs.length - n := by rw [List.length_drop]
  have h3 := Kd.C_drop (m := n) h2 (by omega) h1
  rw [if_neg (by omega)] at h3
  refine ⟨some ⟨g, n * 3, none⟩, c - n, by rw [hl], ?_, by omega, fun hp => ?_⟩
  · have e : (Option.map (fun x : Addr => x.add (n * k71.sz)) (some (⟨g, 0, none⟩ : Addr))) = some ⟨g, n * 3, none⟩ := by
      show some ((⟨g, 0, none⟩ : Addr).add (n * 3)) = _
      rw [add_plain]
    rw [e] at h3
    exact h3
  · obtain ⟨g', cap, e1, h4, h5, cells, h6⟩ := Kd.R_form h (by omega)
    injection e1 with e2
    injection e2 with e2
    injection e2 with e2
    subst e2
    exact ⟨g, n * 3, cells, rfl, h4, h6⟩
theorem apart_blocks_ {A B : Option Addr} {n1 c1 n2 c2 N n m : Nat} (hA : ∀ k, (Value.slice A n1 c1).ownBlock = some k → k < N) (hB : ∀ k, (Value.slice B n2 c2).ownBlock = some k → N ≤ k) : Apart_ A n B m := by
  intro a b i j ea eb _ _ e
  subst ea
  subst eb
  have h1 := hA a.block rfl
  have h2 := hB b.block rfl
  have h3 := congrArg Addr.block e
  rw [add_block, add_block] at h3
  omega
def Sp2_ (w : World) (x : Ln) (s : SpS) (p3 q2 q3 : Value) (W : World) : Prop :=
  W.heap[s.p]? = some (.cells #[.int .i64 x.q, .slice s.B1 x.ls.length s.d1, .int .i64 x.k, p3] 38 (0, 0)) ∧ W.heap[s.q]? = some (.cells #[.int .i64 x.q, .slice s.D1 x.ls.length s.e1, q2, q3] 38 (0, 0)) ∧
    W.heap[w.heap.size + 1]? = some (.cells #[.int .i64 0, .slice none 0 0, .int .i64 0, .slice none 0 0] 38 (0, 0)) ∧ W.heap[w.heap.size + 2]? = some (.cells #[.int .i64 0, .slice none 0 0, .int .i64 0, .slice none 0 0] 38 (0, 0)) ∧ Two_ w.heap.size x W s ∧ Below w.heap.size w W
theorem Sp2_.move {w : World} {x : Ln} {s : SpS} {p3 q2 q3 : Value} {W : World} (h : Sp2_ w x s p3 q2 q3 W) (hpq : s.p ≠ s.q) (hp : w.heap.size + 3 ≤ s.p) (hq : w.heap.size + 3 ≤ s.q) (u : Value) :
    Sp2_ w x s u q2 q3 (W.setCell ⟨s.p, 3, none⟩ u) ∧ Sp2_ w x s p3 q2 u (W.setCell ⟨s.q, 3, none⟩ u) ∧ Sp2_ w x s p3 u q3 (W.setCell ⟨s.q, 2, none⟩ u) := by
  obtain ⟨h1, h2, h3, h4, ⟨h5, h6, h7, h8⟩, h9⟩ := h
  refine ⟨⟨blk_put h1 3 _ rfl, blk_off_ h2 (Ne.symm hpq), blk_off_ h3 (by omega), blk_off_ h4 (by omega), ⟨R_put_ h5 h1 (by decide) 3 u, R_put_ h6 h1 (by decide) 3 u, R_put_ h7 h1 (by decide) 3 u, h8⟩, below_set h9 (by omega)⟩,
    ⟨blk_off_ h1 hpq, blk_put h2 3 _ rfl, blk_off_ h3 (by omega), blk_off_ h4 (by omega), ⟨R_put_ h5 h2 (by decide) 3 u, R_put_ h6 h2 (by decide) 3 u, R_put_ h7 h2 (by decide) 3 u, h8⟩, below_set h9 (by omega)⟩,
    ⟨blk_off_ h1 hpq, blk_put h2 2 _ rfl, blk_off_ h3 (by omega), blk_off_ h4 (by omega), ⟨R_put_ h5 h2 (by decide) 2 u, R_put_ h6 h2 (by decide) 2 u, R_put_ h7 h2 (by decide) 2 u, h8⟩, below_set h9 (by omega)⟩⟩
theorem split_end_ {w W : World} {x : Ln} {n d1 a3 e1 mb b3 : Nat} {B1 A3 D1 B3 : Option Addr} {kb : Int} (hn : n ≤ x.cs.length) (hq : (splitB x n).q = x.q ∧ (splitB x n).ls = x.ls) (hk : (splitB x n).k = kb) (hm : (splitB x n).cs.length = mb)
    (wa1 : Wr (Kd.int .i64) 3 W w.heap.size (.slice B1 x.ls.length d1) x.ls) (wa3 : Wr k71 71 W w.heap.size (.slice A3 n a3) (x.cs.take n)) (wb1 : Wr (Kd.int .i64) 3 W w.heap.size (.slice D1 x.ls.length e1) x.ls) (wb3 : Wr k71 71 W w.heap.size (.slice B3 mb b3) (splitB x n).cs)
    (a1 : Apart_ B1 x.ls.length D1 x.ls.length) (a2 : Apart_ A3 (n * 3) B3 (mb * 3)) (hB : Below w.heap.size w W) :
    SplitBack_ w (splitA x n, splitB x n, 0) (.returned (.tuple #[.agg #[.int .i64 x.q, .slice B1 x.ls.length d1, .int .i64 x.k, .slice A3 n a3], .agg #[.int .i64 x.q, .slice D1 x.ls.length e1, .int .i64 kb, .slice B3 mb b3], .int .i64 0])) W := by
  have la : (splitA x n).cs.length = n := by show (x.cs.take n).length = n; rw [List.length_take]; omega
  refine ⟨B1, d1, A3, a3, D1, e1, B3, b3, ?_, ⟨_, _, rfl, wa1, ?_⟩, ⟨_, _, rfl, ?_, ?_⟩, ?_, ?_, hB⟩
  · dsimp only
    rw [la, hm, hk, hq.1, hq.2]
    rfl
  · dsimp only
    rw [la]
    exact wa3
  · dsimp only
    rw [hq.2]
    exact wb1
  · dsimp only
    rw [hm]
    exact wb3
  · dsimp only
    rw [hq.2]
    exact a1
  · dsimp only
    rw [la, hm]
    exact a2
set_option maxRecDepth 100000 in
set_option maxHeartbeats 20000000 in
theorem split_calls_ (x : Ln) (at_ : Int) (v : Value) (w : World) (hx : RdL w v x) (hz : Sz x) (hG : Gl_ w) :
    Calls Tryd.prog 27 #[v, .int .i64 at_] w fun e w' => SplitBack_ w (splitR x at_) e w' := by
  have hu38 := Tryd.underlying38
  obtain ⟨_, _, rfl, ⟨A1, c1, rfl, h1, hc1⟩, ⟨A3, c3, rfl, h3, hc3⟩⟩ := hx
  have hX : RdL w (.agg #[.int .i64 x.q, .slice A1 x.ls.length c1, .int .i64 x.k, .slice A3 x.cs.length c3]) x := ⟨_, _, rfl, ⟨A1, c1, rfl, h1, hc1⟩, ⟨A3, c3, rfl, h3, hc3⟩⟩
  have HM := Aside0.mk (fun W (hW : Below w.heap.size w W) => may_calls_ x _ W (hX.below hW) hz (hG.below hW))
  have HO := Aside0.mk (fun W (hW : Below w.heap.size w W) => own_calls_ x _ W (hX.below hW) hz)
  have HF := Aside0.mk (fun W (hW : Below w.heap.size w W) => frame_calls_ x _ W (hX.below hW) hz)
  obtain ⟨F1, F1', F2, F3⟩ := three_boxes_ w (.cells #[.int .i64 x.q, .slice A1 x.ls.length c1, .int .i64 x.k, .slice A3 x.cs.length c3] 38) (.cells #[.int .i64 0, .slice none 0 0, .int .i64 0, .slice none 0 0] 38) (.cells #[.int .i64 0, .slice none 0 0, .int .i64 0, .slice none 0 0] 38)
  have HLC := Aside0.mk (show x.cs.length ≤ 100000 from hz.2.1)
  clear h1 h3 hc1 hc3 hz hG hX
  go_enter Tryd.func27, Tryd.ntmps27
  go_upto_region 1 with (fail)
  generalize ((w.alloc (.cells #[.int .i64 x.q, .slice A1 x.ls.length c1, .int .i64 x.k, .slice A3 x.cs.length c3] 38)).alloc (.cells #[.int .i64 0, .slice none 0 0, .int .i64 0, .slice none 0 0] 38)).alloc (.cells #[.int .i64 0, .slice none 0 0, .int .i64 0, .slice none 0 0] 38) = W0 at F1 F1' F2 F3 ⊢
  have a0 : W0.cell? ⟨w.heap.size, 0, none⟩ = some (.int .i64 x.q) := (blk_cell F1 0).trans rfl
  have a1 : W0.cell? ⟨w.heap.size, 1, none⟩ = some (.slice A1 x.ls.length c1) := (blk_cell F1 1).trans rfl
  have a2 : W0.cell? ⟨w.heap.size, 2, none⟩ = some (.int .i64 x.k) := (blk_cell F1 2).trans rfl
  have a3 : W0.cell? ⟨w.heap.size, 3, none⟩ = some (.slice A3 x.cs.length c3) := (blk_cell F1 3).trans rfl
  have H0 := Aside0.mk F1
  have H1 := Aside0.mk F1'
  have H2 := Aside0.mk F2
  have H3 := Aside0.mk F3
  clear F1 F1' F2 F3
  cases hm : mayL x with
  | false =>
    rw [hm] at HM
    have HR := Aside0.mk (show splitR x at_ = (zeroLn, zeroLn, 1) by unfold splitR; rw [hm]; simp)
    go_wp2_with (go_at_call 37; refine (HM.out _ H3.out).mono ?_; rintro e w1 ⟨rfl, hb⟩; have HB1 := Aside0.mk hb; have fb := blk_below H1.out hb; have b0 : w1.cell? ⟨w.heap.size + 1, 0, none⟩ = some (.int .i64 0) := (blk_cell fb 0).trans rfl; have be0 := blk_frozen fb 0; have b1 : w1.cell? ⟨w.heap.size + 1, 1, none⟩ = some (.slice none 0 0) := (blk_cell fb 1).trans rfl; have be1 := blk_frozen fb 1; have b2 : w1.cell? ⟨w.heap.size + 1, 2, none⟩ = some (.int .i64 0) := (blk_cell fb 2).trans rfl; have be2 := blk_frozen fb 2; have b3 : w1.cell? ⟨w.heap.size + 1, 3, none⟩ = some (.slice none 0 0) := (blk_cell fb 3).trans rfl; have be3 := blk_frozen fb 3; have fc := blk_below H2.out hb; have m0 : w1.cell? ⟨w.heap.size + 2, 0, none⟩ = some (.int .i64 0) := (blk_cell fc 0).trans rfl; have me0 := blk_frozen fc 0; have m1 : w1.cell? ⟨w.heap.size + 2, 1, none⟩ = some (.slice none 0 0) := (blk_cell fc 1).trans rfl; have me1 := blk_frozen fc 1; have m2 : w1.cell? ⟨w.heap.size + 2, 2, none⟩ = some (.int .i64 0) := (blk_cell fc 2).trans rfl; have me2 := blk_frozen fc 2; have m3 : w1.cell? ⟨w.heap.size + 2, 3, none⟩ = some (.slice none 0 0) := (blk_cell fc 3).trans rfl; have me3 := blk_frozen fc 3; have g3 : w1.cell? ⟨w.heap.size, 3, none⟩ = some (.slice A3 x.cs.length c3) := (hb.cell (World.block_lt_of_cell? _ _ a3)).trans a3; have FB := Aside0.mk fb; have FC := Aside0.mk fc; clear hb fb fc)
    refine bodyPost_ret (results_list (rs := [.cell 4 38, .cell 5 38, .tmp 6]) rfl (by simp) (.cell (w.heap.size + 1) 38 #[.int .i64 0, .slice none 0 0, .int .i64 0, .slice none 0 0] (0, 0) _ rfl (put4_off (put4_blk FB.out) (by omega)) Tryd.underlying38 rfl (by kernel_rfl) (.cell (w.heap.size + 2) 38 #[.int .i64 0, .slice none 0 0, .int .i64 0, .slice none 0 0] (0, 0) _ rfl (put4_blk (put4_off FC.out (by omega))) Tryd.underlying38 rfl (by kernel_rfl) (.tmp .nil)))) rfl ?_
    rw [HR.out]
    exact zero_back_ (put4_below (put4_below (below_step H3.out HB1.out) (by omega)) (by omega))
  | true =>
    rw [hm] at HM
    by_cases k0_ : at_ < 0
    · have t0 : decide (at_ < 0) = true := decide_eq_true k0_
      have HR := Aside0.mk (show splitR x at_ = (zeroLn, zeroLn, 1) by unfold splitR; rw [if_neg (by omega)])
      clear k0_
      go_wp2_with (go_at_call 37; refine (HM.out _ H3.out).mono ?_; rintro e w1 ⟨rfl, hb⟩; have HB1 := Aside0.mk hb; have fb := blk_below H1.out hb; have b0 : w1.cell? ⟨w.heap.size + 1, 0, none⟩ = some (.int .i64 0) := (blk_cell fb 0).trans rfl; have be0 := blk_frozen fb 0; have b1 : w1.cell? ⟨w.heap.size + 1, 1, none⟩ = some (.slice none 0 0) := (blk_cell fb 1).trans rfl; have be1 := blk_frozen fb 1; have b2 : w1.cell? ⟨w.heap.size + 1, 2, none⟩ = some (.int .i64 0) := (blk_cell fb 2).trans rfl; have be2 := blk_frozen fb 2; have b3 : w1.cell? ⟨w.heap.size + 1, 3, none⟩ = some (.slice none 0 0) := (blk_cell fb 3).trans rfl; have be3 := blk_frozen fb 3; have fc := blk_below H2.out hb; have m0 : w1.cell? ⟨w.heap.size + 2, 0, none⟩ = some (.int .i64 0) := (blk_cell fc 0).trans rfl; have me0 := blk_frozen fc 0; have m1 : w1.cell? ⟨w.heap.size + 2, 1, none⟩ = some (.slice none 0 0) := (blk_cell fc 1).trans rfl; have me1 := blk_frozen fc 1; have m2 : w1.cell? ⟨w.heap.size + 2, 2, none⟩ = some (.int .i64 0) := (blk_cell fc 2).trans rfl; have me2 := blk_frozen fc 2; have m3 : w1.cell? ⟨w.heap.size + 2, 3, none⟩ = some (.slice none 0 0) := (blk_cell fc 3).trans rfl; have me3 := blk_frozen fc 3; have g3 : w1.cell? ⟨w.heap.size, 3, none⟩ = some (.slice A3 x.cs.length c3) := (hb.cell (World.block_lt_of_cell? _ _ a3)).trans a3; have FB := Aside0.mk fb; have FC := Aside0.mk fc; clear hb fb fc)
      refine bodyPost_ret (results_list (rs := [.cell 4 38, .cell 5 38, .tmp 6]) rfl (by simp) (.cell (w.heap.size + 1) 38 #[.int .i64 0, .slice none 0 0, .int .i64 0, .slice none 0 0] (0, 0) _ rfl (put4_off (put4_blk FB.out) (by omega)) Tryd.underlying38 rfl (by kernel_rfl) (.cell (w.heap.size + 2) 38 #[.int .i64 0, .slice none 0 0, .int .i64 0, .slice none 0 0] (0, 0) _ rfl (put4_blk (put4_off FC.out (by omega))) Tryd.underlying38 rfl (by kernel_rfl) (.tmp .nil)))) rfl ?_
      rw [HR.out]
      exact zero_back_ (put4_below (put4_below (below_step H3.out HB1.out) (by omega)) (by omega))
    have t0 : decide (at_ < 0) = false := decide_eq_false k0_
    by_cases k1_ : (x.cs.length : Int) < at_
    · have t1 : decide ((x.cs.length : Int) < at_) = true := decide_eq_true k1_
      have HR := Aside0.mk (show splitR x at_ = (zeroLn, zeroLn, 1) by unfold splitR; rw [if_neg (by omega)])
      clear k0_ k1_
      go_wp2_with (go_at_call 37; refine (HM.out _ H3.out).mono ?_; rintro e w1 ⟨rfl, hb⟩; have HB1 := Aside0.mk hb; have fb := blk_below H1.out hb; have b0 : w1.cell? ⟨w.heap.size + 1, 0, none⟩ = some (.int .i64 0) := (blk_cell fb 0).trans rfl; have be0 := blk_frozen fb 0; have b1 : w1.cell? ⟨w.heap.size + 1, 1, none⟩ = some (.slice none 0 0) := (blk_cell fb 1).trans rfl; have be1 := blk_frozen fb 1; have b2 : w1.cell? ⟨w.heap.size + 1, 2, none⟩ = some (.int .i64 0) := (blk_cell fb 2).trans rfl; have be2 := blk_frozen fb 2; have b3 : w1.cell? ⟨w.heap.size + 1, 3, none⟩ = some (.slice none 0 0) := (blk_cell fb 3).trans rfl; have be3 := blk_frozen fb 3; have fc := blk_below H2.out hb; have m0 : w1.cell? ⟨w.heap.size + 2, 0, none⟩ = some (.int .i64 0) := (blk_cell fc 0).trans rfl; have me0 := blk_frozen fc 0; have m1 : w1.cell? ⟨w.heap.size + 2, 1, none⟩ = some (.slice none 0 0) := (blk_cell fc 1).trans rfl; have me1 := blk_frozen fc 1; have m2 : w1.cell? ⟨w.heap.size + 2, 2, none⟩ = some (.int .i64 0) := (blk_cell fc 2).trans rfl; have me2 := blk_frozen fc 2; have m3 : w1.cell? ⟨w.heap.size + 2, 3, none⟩ = some (.slice none 0 0) := (blk_cell fc 3).trans rfl; have me3 := blk_frozen fc 3; have g3 : w1.cell? ⟨w.heap.size, 3, none⟩ = some (.slice A3 x.cs.length c3) := (hb.cell (World.block_lt_of_cell? _ _ a3)).trans a3; have FB := Aside0.mk fb; have FC := Aside0.mk fc; clear hb fb fc)
      refine bodyPost_ret (results_list (rs := [.cell 4 38, .cell 5 38, .tmp 6]) rfl (by simp) (.cell (w.heap.size + 1) 38 #[.int .i64 0, .slice none 0 0, .int .i64 0, .slice none 0 0] (0, 0) _ rfl (put4_off (put4_blk FB.out) (by omega)) Tryd.underlying38 rfl (by kernel_rfl) (.cell (w.heap.size + 2) 38 #[.int .i64 0, .slice none 0 0, .int .i64 0, .slice none 0 0] (0, 0) _ rfl (put4_blk (put4_off FC.out (by omega))) Tryd.underlying38 rfl (by kernel_rfl) (.tmp .nil)))) rfl ?_
      rw [HR.out]
      exact zero_back_ (put4_below (put4_below (below_step H3.out HB1.out) (by omega)) (by omega))
    have t1 : decide ((x.cs.length : Int) < at_) = false := decide_eq_false k1_
    obtain ⟨n, rfl⟩ := Int.eq_ofNat_of_zero_le (show 0 ≤ at_ by omega)
    have HR := Aside0.mk (show splitR x (n : Int) = (splitA x n, splitB x n, 0) by unfold splitR; rw [if_pos ⟨hm, by omega, by omega⟩, Int.toNat_natCast])
    have hnl : n ≤ x.cs.length := by omega
    have t2 : decide (x.cs.length < n) = false := decide_eq_false (by omega)
    clear k0_ k1_
    go_upto_region 3 with (go_at_call 37; refine (HM.out _ H3.out).mono ?_; rintro e w1 ⟨rfl, hb⟩; have HB1 := Aside0.mk hb; have fb := blk_below H1.out hb; have b0 : w1.cell? ⟨w.heap.size + 1, 0, none⟩ = some (.int .i64 0) := (blk_cell fb 0).trans rfl; have be0 := blk_frozen fb 0; have b1 : w1.cell? ⟨w.heap.size + 1, 1, none⟩ = some (.slice none 0 0) := (blk_cell fb 1).trans rfl; have be1 := blk_frozen fb 1; have b2 : w1.cell? ⟨w.heap.size + 1, 2, none⟩ = some (.int .i64 0) := (blk_cell fb 2).trans rfl; have be2 := blk_frozen fb 2; have b3 : w1.cell? ⟨w.heap.size + 1, 3, none⟩ = some (.slice none 0 0) := (blk_cell fb 3).trans rfl; have be3 := blk_frozen fb 3; have fc := blk_below H2.out hb; have m0 : w1.cell? ⟨w.heap.size + 2, 0, none⟩ = some (.int .i64 0) := (blk_cell fc 0).trans rfl; have me0 := blk_frozen fc 0; have m1 : w1.cell? ⟨w.heap.size + 2, 1, none⟩ = some (.slice none 0 0) := (blk_cell fc 1).trans rfl; have me1 := blk_frozen fc 1; have m2 : w1.cell? ⟨w.heap.size + 2, 2, none⟩ = some (.int .i64 0) := (blk_cell fc 2).trans rfl; have me2 := blk_frozen fc 2; have m3 : w1.cell? ⟨w.heap.size + 2, 3, none⟩ = some (.slice none 0 0) := (blk_cell fc 3).trans rfl; have me3 := blk_frozen fc 3; have g3 : w1.cell? ⟨w.heap.size, 3, none⟩ = some (.slice A3 x.cs.length c3) := (hb.cell (World.block_lt_of_cell? _ _ a3)).trans a3; have FB := Aside0.mk fb; have FC := Aside0.mk fc; clear hb fb fc)
    have K0 := Aside0.mk (show w1.drew.heap[w.heap.size]? = some (.cells #[.int .i64 x.q, .slice A1 x.ls.length c1, .int .i64 x.k, .slice A3 x.cs.length c3] 38 (0, 0)) from (blk_below H0.out HB1.out : w1.heap[w.heap.size]? = some (.cells #[.int .i64 x.q, .slice A1 x.ls.length c1, .int .i64 x.k, .slice A3 x.cs.length c3] 38 (0, 0))))
    have K1 := Aside0.mk (show w1.drew.heap[w.heap.size + 1]? = some (.cells #[.int .i64 0, .slice none 0 0, .int .i64 0, .slice none 0 0] 38 (0, 0)) from FB.out)
    have K2 := Aside0.mk (show w1.drew.heap[w.heap.size + 2]? = some (.cells #[.int .i64 0, .slice none 0 0, .int .i64 0, .slice none 0 0] 38 (0, 0)) from FC.out)
    have KB := Aside0.mk (below_drew1 (below_step H3.out HB1.out))
    clear H0 H1 H2 H3 HB1 FB FC HM a0 a1 a2 a3 g3 b0 be0 b1 be1 b2 be2 b3 be3 m0 me0 m1 me1 m2 me2 m3 me3
    refine start_ (n := 8) (S := fun W' => W'.cell? ⟨w.heap.size, 0, none⟩ = some (.int .i64 x.q) ∧ W'.cell? ⟨w.heap.size, 1, none⟩ = some (.slice A1 x.ls.length c1) ∧ W'.cell? ⟨w.heap.size, 2, none⟩ = some (.int .i64 x.k) ∧ W'.cell? ⟨w.heap.size, 3, none⟩ = some (.slice A3 x.cs.length c3)) (ds := [6, 7]) #[false, false, false, false, false, false, false, false] (by kernel_rfl) rfl rfl ⟨(blk_cell K0.out 0).trans rfl, (blk_cell K0.out 1).trans rfl, (blk_cell K0.out 2).trans rfl, (blk_cell K0.out 3).trans rfl⟩ (fun hHeld => ?_)
    generalize w1.drew = w10 at K0 K1 K2 KB hHeld ⊢
    refine take_ (i := 0) (N := some 25) (v := ?_) (a' := ?_) #[true, false, false, false, false, false, false, false] rfl rfl (by kernel_rfl) (fun _ _ _ h => h) (Or.inl ⟨by rfl, ?_⟩) hHeld ?_ ?_
    rotate_left
    · rintro w' ⟨s0, s1, s2, s3⟩
      go_simp
      with_reducible rfl
    rotate_left
    · simp only [Act.put, List.setIfInBounds_toArray, List.set_cons_zero, List.set_cons_succ]
      rfl
    refine take_ (i := 2) (N := some 27) (v := ?_) (a' := ?_) #[true, false, true, false, false, false, false, false] rfl rfl (by kernel_rfl) (fun _ _ _ h => h) (Or.inl ⟨by rfl, ?_⟩) hHeld ?_ ?_
    rotate_left
    · rintro w' ⟨s0, s1, s2, s3⟩
      go_simp
      with_reducible rfl
    rotate_left
    · simp only [Act.put, List.setIfInBounds_toArray, List.set_cons_zero, List.set_cons_succ]
      rfl
    refine join_ (σ := SpS) 2 #[true, true, true, true, true, true, false, false] (fun s => [(26, .agg #[.int .i64 x.q, .slice s.B1 x.ls.length s.d1, .int .i64 x.k, .slice s.B3 x.cs.length s.d3]), (28, .agg #[.int .i64 x.q, .slice s.D1 x.ls.length s.e1, .int .i64 x.k, .slice none 0 0]), (7, .pointer (some ⟨s.p, 0, none⟩)), (8, .pointer (some ⟨s.q, 0, none⟩))]) (fun s W => SpF w x s W) ?_ (fun hcont => ?_)
    rotate_left
    · clear hHeld
      refine three_ (i := 1) (Ni := some 26) (j := 4) (Nj := some 7) (k := 5) (Nk := some 8) #[true, true, true, false, false, false, false, false] #[true, false, true, false, true, false, false, false] #[true, false, true, false, false, true, false, false] rfl rfl rfl rfl rfl rfl (by kernel_rfl) (by decide) (by decide) (by decide) (fun K hK => ?_) (fun K hK => ?_) (fun K hK => ?_)
      · refine goes_ Tryd.func39 (by kernel_rfl) rfl #[.agg #[.int .i64 x.q, .slice A1 x.ls.length c1, .int .i64 x.k, .slice A3 x.cs.length c3]] (by rfl) rfl rfl (by (try simp only [List.map_toArray, List.map_cons, List.map_nil]); first | done | rfl) ?_
        refine (HO.out _ KB.out).mono ?_
        rintro e w11 ⟨u1, u3, rfl, ho1, ho3, hb⟩
        obtain ⟨B1, d1, rfl⟩ := Kd.R_slice ho1
        obtain ⟨B3, d3, rfl⟩ := Kd.R_slice ho3
        have HO1 := Aside0.mk ho1
        have HO3 := Aside0.mk ho3
        have HB1 := Aside0.mk hb
        refine ⟨_, rfl, ?_⟩
        refine hK.out _ _ ⟨(blk_cell (blk_below K0.out HB1.out) 0).trans rfl, (blk_cell (blk_below K0.out HB1.out) 1).trans rfl, (blk_cell (blk_below K0.out HB1.out) 2).trans rfl, (blk_cell (blk_below K0.out HB1.out) 3).trans rfl⟩ (fun hHeld => ?_)
        clear hK K hb
        refine norm_ (a' := ?_) ?_ ?_
        rotate_left
        · show Act.put _ (some 26) _ = _
          simp only [Act.put, List.setIfInBounds_toArray, List.set_cons_zero, List.set_cons_succ]
          rfl
        refine three_ (i := 3) (Ni := some 28) (j := 4) (Nj := some 7) (k := 5) (Nk := some 8) #[true, true, true, true, false, false, false, false] #[true, true, true, false, true, false, false, false] #[true, true, true, false, false, true, false, false] rfl rfl rfl rfl rfl rfl (by kernel_rfl) (by decide) (by decide) (by decide) (fun K hK => ?_) (fun K hK => ?_) (fun K hK => ?_)
        · refine goes_ Tryd.func40 (by kernel_rfl) rfl #[.agg #[.int .i64 x.q, .slice A1 x.ls.length c1, .int .i64 x.k, .slice A3 x.cs.length c3]] (by rfl) rfl rfl (by (try simp only [List.map_toArray, List.map_cons, List.map_nil]); first | done | rfl) ?_
          refine (HF.out _ (below_step KB.out HB1.out)).mono ?_
          rintro e w12 ⟨D1, e1, rfl, hd1, hb⟩
          have HD1 := Aside0.mk hd1
          have HB2 := Aside0.mk hb
          refine ⟨_, rfl, ?_⟩
          refine hK.out _ _ ⟨(blk_cell (blk_below (blk_below K0.out HB1.out) HB2.out) 0).trans rfl, (blk_cell (blk_below (blk_below K0.out HB1.out) HB2.out) 1).trans rfl, (blk_cell (blk_below (blk_below K0.out HB1.out) HB2.out) 2).trans rfl, (blk_cell (blk_below (blk_below K0.out HB1.out) HB2.out) 3).trans rfl⟩ (fun hHeld => ?_)
          clear hK K hb
          refine norm_ (a' := ?_) ?_ ?_
          rotate_left
          · show Act.put _ (some 28) _ = _
            simp only [Act.put, List.setIfInBounds_toArray, List.set_cons_zero, List.set_cons_succ]
            rfl
          refine two_ (i := 4) (Ni := some 7) (j := 5) (Nj := some 8) #[true, true, true, true, true, false, false, false] #[true, true, true, true, false, true, false, false] rfl rfl rfl rfl (by kernel_rfl) (by decide) (by decide) (fun K hK => ?_) (fun K hK => ?_)
          · refine box_step ?hg (N := 7) ?hd (cs := #[.int .i64 0, .slice none 0 0, .int .i64 0, .slice none 0 0]) (t := 38) ?hr ?_; (case hd => rfl); (case hg => rfl); (case hr => first | (go_simp; done) | (go_simp; rfl))
            intro g4 hg4 w13 hbox hb
            have HX4 := Aside0.mk hbox
            have HB3 := Aside0.mk hb
            refine hK.out _ _ ⟨(blk_cell (blk_below (blk_below (blk_below K0.out HB1.out) HB2.out) HB3.out) 0).trans rfl, (blk_cell (blk_below (blk_below (blk_below K0.out HB1.out) HB2.out) HB3.out) 1).trans rfl, (blk_cell (blk_below (blk_below (blk_below K0.out HB1.out) HB2.out) HB3.out) 2).trans rfl, (blk_cell (blk_below (blk_below (blk_below K0.out HB1.out) HB2.out) HB3.out) 3).trans rfl⟩ (fun hHeld => ?_)
            clear hK K hb
            refine norm_ (a' := ?_) ?_ ?_
            rotate_left
            · show Act.put _ (some 7) _ = _
              simp only [Act.put, List.setIfInBounds_toArray, List.set_cons_zero, List.set_cons_succ]
              rfl
            refine one_ (i := 5) (N := some 8) #[true, true, true, true, true, true, false, false] rfl rfl (by kernel_rfl) (by decide) (fun K hK => ?_)
            refine box_step ?hg (N := 8) ?hd (cs := #[.int .i64 0, .slice none 0 0, .int .i64 0, .slice none 0 0]) (t := 38) ?hr ?_; (case hd => rfl); (case hg => rfl); (case hr => first | (go_simp; done) | (go_simp; rfl))
            intro g5 hg5 w14 hbox hb
            have HX5 := Aside0.mk hbox
            have HB4 := Aside0.mk hb
            refine hK.out _ _ ⟨(blk_cell (blk_below (blk_below (blk_below (blk_below K0.out HB1.out) HB2.out) HB3.out) HB4.out) 0).trans rfl, (blk_cell (blk_below (blk_below (blk_below (blk_below K0.out HB1.out) HB2.out) HB3.out) HB4.out) 1).trans rfl, (blk_cell (blk_below (blk_below (blk_below (blk_below K0.out HB1.out) HB2.out) HB3.out) HB4.out) 2).trans rfl, (blk_cell (blk_below (blk_below (blk_below (blk_below K0.out HB1.out) HB2.out) HB3.out) HB4.out) 3).trans rfl⟩ (fun hHeld => ?_)
            clear hK K hb
            refine norm_ (a' := ?_) ?_ ?_
            rotate_left
            · show Act.put _ (some 8) _ = _
              simp only [Act.put, List.setIfInBounds_toArray, List.set_cons_zero, List.set_cons_succ]
              rfl
            have z1 := HB1.out.size
            have z2 := HB2.out.size
            have z3 := HB3.out.size
            have z4 := HB4.out.size
            have y4 := blk_lt HX4.out
            have y5 := blk_lt HX5.out
            have y0 := blk_lt K2.out
            refine hcont ⟨B1, d1, B3, d3, D1, e1, g4, g5⟩ _ ⟨⟨Kd.R_lower (Kd.R_below (Kd.R_below (Kd.R_below HO1.out HB2.out) HB3.out) HB4.out) (below_size KB.out), Kd.R_lower (Kd.R_below (Kd.R_below (Kd.R_below HO3.out HB2.out) HB3.out) HB4.out) (below_size KB.out), Kd.R_lower (Kd.R_below (Kd.R_below HD1.out HB3.out) HB4.out) (below_size (below_step KB.out HB1.out)), w11.heap.size, fun k hk => ((Kd.R_bound HO1.out).1 k hk).2.2.1, fun k hk => ?_⟩, (blk_below HX4.out HB4.out), HX5.out, (show g4 ≠ g5 by omega), (show w.heap.size + 3 ≤ g4 by omega), (show w.heap.size + 3 ≤ g5 by omega), (blk_below (blk_below (blk_below (blk_below K1.out HB1.out) HB2.out) HB3.out) HB4.out), (blk_below (blk_below (blk_below (blk_below K2.out HB1.out) HB2.out) HB3.out) HB4.out), (below_step (below_step (below_step (below_step KB.out HB1.out) HB2.out) HB3.out) HB4.out)⟩
            have := ((Kd.R_bound HD1.out).1 k hk).2.1
            omega
          · refine box_step ?hg (N := 8) ?hd (cs := #[.int .i64 0, .slice none 0 0, .int .i64 0, .slice none 0 0]) (t := 38) ?hr ?_; (case hd => rfl); (case hg => rfl); (case hr => first | (go_simp; done) | (go_simp; rfl))
            intro g5 hg5 w13 hbox hb
            have HX5 := Aside0.mk hbox
            have HB3 := Aside0.mk hb
            refine hK.out _ _ ⟨(blk_cell (blk_below (blk_below (blk_below K0.out HB1.out) HB2.out) HB3.out) 0).trans rfl, (blk_cell (blk_below (blk_below (blk_below K0.out HB1.out) HB2.out) HB3.out) 1).trans rfl, (blk_cell (blk_below (blk_below (blk_below K0.out HB1.out) HB2.out) HB3.out) 2).trans rfl, (blk_cell (blk_below (blk_below (blk_below K0.out HB1.out) HB2.out) HB3.out) 3).trans rfl⟩ (fun hHeld => ?_)
            clear hK K hb
            refine norm_ (a' := ?_) ?_ ?_
            rotate_left
            · show Act.put _ (some 8) _ = _
              simp only [Act.put, List.setIfInBounds_toArray, List.set_cons_zero, List.set_cons_succ]
              rfl
            refine one_ (i := 4) (N := some 7) #[true, true, true, true, true, true, false, false] rfl rfl (by kernel_rfl) (by decide) (fun K hK => ?_)
            refine box_step ?hg (N := 7) ?hd (cs := #[.int .i64 0, .slice none 0 0, .int .i64 0, .slice none 0 0]) (t := 38) ?hr ?_; (case hd => rfl); (case hg => rfl); (case hr => first | (go_simp; done) | (go_simp; rfl))
            intro g4 hg4 w14 hbox hb
            have HX4 := Aside0.mk hbox
            have HB4 := Aside0.mk hb
            refine hK.out _ _ ⟨(blk_cell (blk_below (blk_below (blk_below (blk_below K0.out HB1.out) HB2.out) HB3.out) HB4.out) 0).trans rfl, (blk_cell (blk_below (blk_below (blk_below (blk_below K0.out HB1.out) HB2.out) HB3.out) HB4.out) 1).trans rfl, (blk_cell (blk_below (blk_below (blk_below (blk_below K0.out HB1.out) HB2.out) HB3.out) HB4.out) 2).trans rfl, (blk_cell (blk_below (blk_below (blk_below (blk_below K0.out HB1.out) HB2.out) HB3.out) HB4.out) 3).trans rfl⟩ (fun hHeld => ?_)
            clear hK K hb
            refine norm_ (a' := ?_) ?_ ?_
            rotate_left
            · show Act.put _ (some 7) _ = _
              simp only [Act.put, List.setIfInBounds_toArray, List.set_cons_zero, List.set_cons_succ]
              rfl
            have z1 := HB1.out.size
            have z2 := HB2.out.size
            have z3 := HB3.out.size
            have z4 := HB4.out.size
            have y4 := blk_lt HX4.out
            have y5 := blk_lt HX5.out
            have y0 := blk_lt K2.out
            refine hcont ⟨B1, d1, B3, d3, D1, e1, g4, g5⟩ _ ⟨⟨Kd.R_lower (Kd.R_below (Kd.R_below (Kd.R_below HO1.out HB2.out) HB3.out) HB4.out) (below_size KB.out), Kd.R_lower (Kd.R_below (Kd.R_below (Kd.R_below HO3.out HB2.out) HB3.out) HB4.out) (below_size KB.out), Kd.R_lower (Kd.R_below (Kd.R_below HD1.out HB3.out) HB4.out) (below_size (below_step KB.out HB1.out)), w11.heap.size, fun k hk => ((Kd.R_bound HO1.out).1 k hk).2.2.1, fun k hk => ?_⟩, HX4.out, (blk_below HX5.out HB4.out), (show g4 ≠ g5 by omega), (show w.heap.size + 3 ≤ g4 by omega), (show w.heap.size + 3 ≤ g5 by omega), (blk_below (blk_below (blk_below (blk_below K1.out HB1.out) HB2.out) HB3.out) HB4.out), (blk_below (blk_below (blk_below (blk_below K2.out HB1.out) HB2.out) HB3.out) HB4.out), (below_step (below_step (below_step (below_step KB.out HB1.out) HB2.out) HB3.out) HB4.out)⟩
            have := ((Kd.R_bound HD1.out).1 k hk).2.1
            omega
        · refine box_step ?hg (N := 7) ?hd (cs := #[.int .i64 0, .slice none 0 0, .int .i64 0, .slice none 0 0]) (t := 38) ?hr ?_; (case hd => rfl); (case hg => rfl); (case hr => first | (go_simp; done) | (go_simp; rfl))
          intro g4 hg4 w12 hbox hb
          have HX4 := Aside0.mk hbox
          have HB2 := Aside0.mk hb
          refine hK.out _ _ ⟨(blk_cell (blk_below (blk_below K0.out HB1.out) HB2.out) 0).trans rfl, (blk_cell (blk_below (blk_below K0.out HB1.out) HB2.out) 1).trans rfl, (blk_cell (blk_below (blk_below K0.out HB1.out) HB2.out) 2).trans rfl, (blk_cell (blk_below (blk_below K0.out HB1.out) HB2.out) 3).trans rfl⟩ (fun hHeld => ?_)
          clear hK K hb
          refine norm_ (a' := ?_) ?_ ?_
          rotate_left
          · show Act.put _ (some 7) _ = _
            simp only [Act.put, List.setIfInBounds_toArray, List.set_cons_zero, List.set_cons_succ]
            rfl
          refine two_ (i := 3) (Ni := some 28) (j := 5) (Nj := some 8) #[true, true, true, true, true, false, false, false] #[true, true, true, false, true, true, false, false] rfl rfl rfl rfl (by kernel_rfl) (by decide) (by decide) (fun K hK => ?_) (fun K hK => ?_)
          · refine goes_ Tryd.func40 (by kernel_rfl) rfl #[.agg #[.int .i64 x.q, .slice A1 x.ls.length c1, .int .i64 x.k, .slice A3 x.cs.length c3]] (by rfl) rfl rfl (by (try simp only [List.map_toArray, List.map_cons, List.map_nil]); first | done | rfl) ?_
            refine (HF.out _ (below_step (below_step KB.out HB1.out) HB2.out)).mono ?_
            rintro e w13 ⟨D1, e1, rfl, hd1, hb⟩
            have HD1 := Aside0.mk hd1
            have HB3 := Aside0.mk hb
            refine ⟨_, rfl, ?_⟩
            refine hK.out _ _ ⟨(blk_cell (blk_below (blk_below (blk_below K0.out HB1.out) HB2.out) HB3.out) 0).trans rfl, (blk_cell (blk_below (blk_below (blk_below K0.out HB1.out) HB2.out) HB3.out) 1).trans rfl, (blk_cell (blk_below (blk_below (blk_below K0.out HB1.out) HB2.out) HB3.out) 2).trans rfl, (blk_cell (blk_below (blk_below (blk_below K0.out HB1.out) HB2.out) HB3.out) 3).trans rfl⟩ (fun hHeld => ?_)
            clear hK K hb
            refine norm_ (a' := ?_) ?_ ?_
            rotate_left
            · show Act.put _ (some 28) _ = _
              simp only [Act.put, List.setIfInBounds_toArray, List.set_cons_zero, List.set_cons_succ]
              rfl
            refine one_ (i := 5) (N := some 8) #[true, true, true, true, true, true, false, false] rfl rfl (by kernel_rfl) (by decide) (fun K hK => ?_)
            refine box_step ?hg (N := 8) ?hd (cs := #[.int .i64 0, .slice none 0 0, .int .i64 0, .slice none 0 0]) (t := 38) ?hr ?_; (case hd => rfl); (case hg => rfl); (case hr => first | (go_simp; done) | (go_simp; rfl))
            intro g5 hg5 w14 hbox hb
            have HX5 := Aside0.mk hbox
            have HB4 := Aside0.mk hb
            refine hK.out _ _ ⟨(blk_cell (blk_below (blk_below (blk_below (blk_below K0.out HB1.out) HB2.out) HB3.out) HB4.out) 0).trans rfl, (blk_cell (blk_below (blk_below (blk_below (blk_below K0.out HB1.out) HB2.out) HB3.out) HB4.out) 1).trans rfl, (blk_cell (blk_below (blk_below (blk_below (blk_below K0.out HB1.out) HB2.out) HB3.out) HB4.out) 2).trans rfl, (blk_cell (blk_below (blk_below (blk_below (blk_below K0.out HB1.out) HB2.out) HB3.out) HB4.out) 3).trans rfl⟩ (fun hHeld => ?_)
            clear hK K hb
            refine norm_ (a' := ?_) ?_ ?_
            rotate_left
            · show Act.put _ (some 8) _ = _
              simp only [Act.put, List.setIfInBounds_toArray, List.set_cons_zero, List.set_cons_succ]
              rfl
            have z1 := HB1.out.size
            have z2 := HB2.out.size
            have z3 := HB3.out.size
            have z4 := HB4.out.size
            have y4 := blk_lt HX4.out
            have y5 := blk_lt HX5.out
            have y0 := blk_lt K2.out
            refine hcont ⟨B1, d1, B3, d3, D1, e1, g4, g5⟩ _ ⟨⟨Kd.R_lower (Kd.R_below (Kd.R_below (Kd.R_below HO1.out HB2.out) HB3.out) HB4.out) (below_size KB.out), Kd.R_lower (Kd.R_below (Kd.R_below (Kd.R_below HO3.out HB2.out) HB3.out) HB4.out) (below_size KB.out), Kd.R_lower (Kd.R_below HD1.out HB4.out) (below_size (below_step (below_step KB.out HB1.out) HB2.out)), w11.heap.size, fun k hk => ((Kd.R_bound HO1.out).1 k hk).2.2.1, fun k hk => ?_⟩, (blk_below (blk_below HX4.out HB3.out) HB4.out), HX5.out, (show g4 ≠ g5 by omega), (show w.heap.size + 3 ≤ g4 by omega), (show w.heap.size + 3 ≤ g5 by omega), (blk_below (blk_below (blk_below (blk_below K1.out HB1.out) HB2.out) HB3.out) HB4.out), (blk_below (blk_below (blk_below (blk_below K2.out HB1.out) HB2.out) HB3.out) HB4.out), (below_step (below_step (below_step (below_step KB.out HB1.out) HB2.out) HB3.out) HB4.out)⟩
            have := ((Kd.R_bound HD1.out).1 k hk).2.1
            omega
          · refine box_step ?hg (N := 8) ?hd (cs := #[.int .i64 0, .slice none 0 0, .int .i64 0, .slice none 0 0]) (t := 38) ?hr ?_; (case hd => rfl); (case hg => rfl); (case hr => first | (go_simp; done) | (go_simp; rfl))
            intro g5 hg5 w13 hbox hb
            have HX5 := Aside0.mk hbox
            have HB3 := Aside0.mk hb
            refine hK.out _ _ ⟨(blk_cell (blk_below (blk_below (blk_below K0.out HB1.out) HB2.out) HB3.out) 0).trans rfl, (blk_cell (blk_below (blk_below (blk_below K0.out HB1.out) HB2.out) HB3.out) 1).trans rfl, (blk_cell (blk_below (blk_below (blk_below K0.out HB1.out) HB2.out) HB3.out) 2).trans rfl, (blk_cell (blk_below (blk_below (blk_below K0.out HB1.out) HB2.out) HB3.out) 3).trans rfl⟩ (fun hHeld => ?_)
            clear hK K hb
            refine norm_ (a' := ?_) ?_ ?_
            rotate_left
            · show Act.put _ (some 8) _ = _
              simp only [Act.put, List.setIfInBounds_toArray, List.set_cons_zero, List.set_cons_succ]
              rfl
            refine one_ (i := 3) (N := some 28) #[true, true, true, true, true, true, false, false] rfl rfl (by kernel_rfl) (by decide) (fun K hK => ?_)
            refine goes_ Tryd.func40 (by kernel_rfl) rfl #[.agg #[.int .i64 x.q, .slice A1 x.ls.length c1, .int .i64 x.k, .slice A3 x.cs.length c3]] (by rfl) rfl rfl (by (try simp only [List.map_toArray, List.map_cons, List.map_nil]); first | done | rfl) ?_
            refine (HF.out _ (below_step (below_step (below_step KB.out HB1.out) HB2.out) HB3.out)).mono ?_
            rintro e w14 ⟨D1, e1, rfl, hd1, hb⟩
            have HD1 := Aside0.mk hd1
            have HB4 := Aside0.mk hb
            refine ⟨_, rfl, ?_⟩
            refine hK.out _ _ ⟨(blk_cell (blk_below (blk_below (blk_below (blk_below K0.out HB1.out) HB2.out) HB3.out) HB4.out) 0).trans rfl, (blk_cell (blk_below (blk_below (blk_below (blk_below K0.out HB1.out) HB2.out) HB3.out) HB4.out) 1).trans rfl, (blk_cell (blk_below (blk_below (blk_below (blk_below K0.out HB1.out) HB2.out) HB3.out) HB4.out) 2).trans rfl, (blk_cell (blk_below (blk_below (blk_below (blk_below K0.out HB1.out) HB2.out) HB3.out) HB4.out) 3).trans rfl⟩ (fun hHeld => ?_)
            clear hK K hb
            refine norm_ (a' := ?_) ?_ ?_
            rotate_left
            · show Act.put _ (some 28) _ = _
              simp only [Act.put, List.setIfInBounds_toArray, List.set_cons_zero, List.set_cons_succ]
              rfl
            have z1 := HB1.out.size
            have z2 := HB2.out.size
            have z3 := HB3.out.size
            have z4 := HB4.out.size
            have y4 := blk_lt HX4.out
            have y5 := blk_lt HX5.out
            have y0 := blk_lt K2.out
            refine hcont ⟨B1, d1, B3, d3, D1, e1, g4, g5⟩ _ ⟨⟨Kd.R_lower (Kd.R_below (Kd.R_below (Kd.R_below HO1.out HB2.out) HB3.out) HB4.out) (below_size KB.out), Kd.R_lower (Kd.R_below (Kd.R_below (Kd.R_below HO3.out HB2.out) HB3.out) HB4.out) (below_size KB.out), Kd.R_lower HD1.out (below_size (below_step (below_step (below_step KB.out HB1.out) HB2.out) HB3.out)), w11.heap.size, fun k hk => ((Kd.R_bound HO1.out).1 k hk).2.2.1, fun k hk => ?_⟩, (blk_below (blk_below HX4.out HB3.out) HB4.out), (blk_below HX5.out HB4.out), (show g4 ≠ g5 by omega), (show w.heap.size + 3 ≤ g4 by omega), (show w.heap.size + 3 ≤ g5 by omega), (blk_below (blk_below (blk_below (blk_below K1.out HB1.out) HB2.out) HB3.out) HB4.out), (blk_below (blk_below (blk_below (blk_below K2.out HB1.out) HB2.out) HB3.out) HB4.out), (below_step (below_step (below_step (below_step KB.out HB1.out) HB2.out) HB3.out) HB4.out)⟩
            have := ((Kd.R_bound HD1.out).1 k hk).2.1
            omega
        · refine box_step ?hg (N := 8) ?hd (cs := #[.int .i64 0, .slice none 0 0, .int .i64 0, .slice none 0 0]) (t := 38) ?hr ?_; (case hd => rfl); (case hg => rfl); (case hr => first | (go_simp; done) | (go_simp; rfl))
          intro g5 hg5 w12 hbox hb
          have HX5 := Aside0.mk hbox
          have HB2 := Aside0.mk hb
          refine hK.out _ _ ⟨(blk_cell (blk_below (blk_below K0.out HB1.out) HB2.out) 0).trans rfl, (blk_cell (blk_below (blk_below K0.out HB1.out) HB2.out) 1).trans rfl, (blk_cell (blk_below (blk_below K0.out HB1.out) HB2.out) 2).trans rfl, (blk_cell (blk_below (blk_below K0.out HB1.out) HB2.out) 3).trans rfl⟩ (fun hHeld => ?_)
          clear hK K hb
          refine norm_ (a' := ?_) ?_ ?_
          rotate_left
          · show Act.put _ (some 8) _ = _
            simp only [Act.put, List.setIfInBounds_toArray, List.set_cons_zero, List.set_cons_succ]
            rfl
          refine two_ (i := 3) (Ni := some 28) (j := 4) (Nj := some 7) #[true, true, true, true, false, true, false, false] #[true, true, true, false, true, true, false, false] rfl rfl rfl rfl (by kernel_rfl) (by decide) (by decide) (fun K hK => ?_) (fun K hK => ?_)
          · refine goes_ Tryd.func40 (by kernel_rfl) rfl #[.agg #[.int .i64 x.q, .slice A1 x.ls.length c1, .int .i64 x.k, .slice A3 x.cs.length c3]] (by rfl) rfl rfl (by (try simp only [List.map_toArray, List.map_cons, List.map_nil]); first | done | rfl) ?_
            refine (HF.out _ (below_step (below_step KB.out HB1.out) HB2.out)).mono ?_
            rintro e w13 ⟨D1, e1, rfl, hd1, hb⟩
            have HD1 := Aside0.mk hd1
            have HB3 := Aside0.mk hb
            refine ⟨_, rfl, ?_⟩
            refine hK.out _ _ ⟨(blk_cell (blk_below (blk_below (blk_below K0.out HB1.out) HB2.out) HB3.out) 0).trans rfl, (blk_cell (blk_below (blk_below (blk_below K0.out HB1.out) HB2.out) HB3.out) 1).trans rfl, (blk_cell (blk_below (blk_below (blk_below K0.out HB1.out) HB2.out) HB3.out) 2).trans rfl, (blk_cell (blk_below (blk_below (blk_below K0.out HB1.out) HB2.out) HB3.out) 3).trans rfl⟩ (fun hHeld => ?_)
            clear hK K hb
            refine norm_ (a' := ?_) ?_ ?_
            rotate_left
            · show Act.put _ (some 28) _ = _
              simp only [Act.put, List.setIfInBounds_toArray, List.set_cons_zero, List.set_cons_succ]
              rfl
            refine one_ (i := 4) (N := some 7) #[true, true, true, true, true, true, false, false] rfl rfl (by kernel_rfl) (by decide) (fun K hK => ?_)
            refine box_step ?hg (N := 7) ?hd (cs := #[.int .i64 0, .slice none 0 0, .int .i64 0, .slice none 0 0]) (t := 38) ?hr ?_; (case hd => rfl); (case hg => rfl); (case hr => first | (go_simp; done) | (go_simp; rfl))
            intro g4 hg4 w14 hbox hb
            have HX4 := Aside0.mk hbox
            have HB4 := Aside0.mk hb
            refine hK.out _ _ ⟨(blk_cell (blk_below (blk_below (blk_below (blk_below K0.out HB1.out) HB2.out) HB3.out) HB4.out) 0).trans rfl, (blk_cell (blk_below (blk_below (blk_below (blk_below K0.out HB1.out) HB2.out) HB3.out) HB4.out) 1).trans rfl, (blk_cell (blk_below (blk_below (blk_below (blk_below K0.out HB1.out) HB2.out) HB3.out) HB4.out) 2).trans rfl, (blk_cell (blk_below (blk_below (blk_below (blk_below K0.out HB1.out) HB2.out) HB3.out) HB4.out) 3).trans rfl⟩ (fun hHeld => ?_)
            clear hK K hb
            refine norm_ (a' := ?_) ?_ ?_
            rotate_left
            · show Act.put _ (some 7) _ = _
              simp only [Act.put, List.setIfInBounds_toArray, List.set_cons_zero, List.set_cons_succ]
              rfl
            have z1 := HB1.out.size
            have z2 := HB2.out.size
            have z3 := HB3.out.size
            have z4 := HB4.out.size
            have y4 := blk_lt HX4.out
            have y5 := blk_lt HX5.out
            have y0 := blk_lt K2.out
            refine hcont ⟨B1, d1, B3, d3, D1, e1, g4, g5⟩ _ ⟨⟨Kd.R_lower (Kd.R_below (Kd.R_below (Kd.R_below HO1.out HB2.out) HB3.out) HB4.out) (below_size KB.out), Kd.R_lower (Kd.R_below (Kd.R_below (Kd.R_below HO3.out HB2.out) HB3.out) HB4.out) (below_size KB.out), Kd.R_lower (Kd.R_below HD1.out HB4.out) (below_size (below_step (below_step KB.out HB1.out) HB2.out)), w11.heap.size, fun k hk => ((Kd.R_bound HO1.out).1 k hk).2.2.1, fun k hk => ?_⟩, HX4.out, (blk_below (blk_below HX5.out HB3.out) HB4.out), (show g4 ≠ g5 by omega), (show w.heap.size + 3 ≤ g4 by omega), (show w.heap.size + 3 ≤ g5 by omega), (blk_below (blk_below (blk_below (blk_below K1.out HB1.out) HB2.out) HB3.out) HB4.out), (blk_below (blk_below (blk_below (blk_below K2.out HB1.out) HB2.out) HB3.out) HB4.out), (below_step (below_step (below_step (below_step KB.out HB1.out) HB2.out) HB3.out) HB4.out)⟩
            have := ((Kd.R_bound HD1.out).1 k hk).2.1
            omega
          · refine box_step ?hg (N := 7) ?hd (cs := #[.int .i64 0, .slice none 0 0, .int .i64 0, .slice none 0 0]) (t := 38) ?hr ?_; (case hd => rfl); (case hg => rfl); (case hr => first | (go_simp; done) | (go_simp; rfl))
            intro g4 hg4 w13 hbox hb
            have HX4 := Aside0.mk hbox
            have HB3 := Aside0.mk hb
            refine hK.out _ _ ⟨(blk_cell (blk_below (blk_below (blk_below K0.out HB1.out) HB2.out) HB3.out) 0).trans rfl, (blk_cell (blk_below (blk_below (blk_below K0.out HB1.out) HB2.out) HB3.out) 1).trans rfl, (blk_cell (blk_below (blk_below (blk_below K0.out HB1.out) HB2.out) HB3.out) 2).trans rfl, (blk_cell (blk_below (blk_below (blk_below K0.out HB1.out) HB2.out) HB3.out) 3).trans rfl⟩ (fun hHeld => ?_)
            clear hK K hb
            refine norm_ (a' := ?_) ?_ ?_
            rotate_left
            · show Act.put _ (some 7) _ = _
              simp only [Act.put, List.setIfInBounds_toArray, List.set_cons_zero, List.set_cons_succ]
              rfl
            refine one_ (i := 3) (N := some 28) #[true, true, true, true, true, true, false, false] rfl rfl (by kernel_rfl) (by decide) (fun K hK => ?_)
            refine goes_ Tryd.func40 (by kernel_rfl) rfl #[.agg #[.int .i64 x.q, .slice A1 x.ls.length c1, .int .i64 x.k, .slice A3 x.cs.length c3]] (by rfl) rfl rfl (by (try simp only [List.map_toArray, List.map_cons, List.map_nil]); first | done | rfl) ?_
            refine (HF.out _ (below_step (below_step (below_step KB.out HB1.out) HB2.out) HB3.out)).mono ?_
            rintro e w14 ⟨D1, e1, rfl, hd1, hb⟩
            have HD1 := Aside0.mk hd1
            have HB4 := Aside0.mk hb
            refine ⟨_, rfl, ?_⟩
            refine hK.out _ _ ⟨(blk_cell (blk_below (blk_below (blk_below (blk_below K0.out HB1.out) HB2.out) HB3.out) HB4.out) 0).trans rfl, (blk_cell (blk_below (blk_below (blk_below (blk_below K0.out HB1.out) HB2.out) HB3.out) HB4.out) 1).trans rfl, (blk_cell (blk_below (blk_below (blk_below (blk_below K0.out HB1.out) HB2.out) HB3.out) HB4.out) 2).trans rfl, (blk_cell (blk_below (blk_below (blk_below (blk_below K0.out HB1.out) HB2.out) HB3.out) HB4.out) 3).trans rfl⟩ (fun hHeld => ?_)
            clear hK K hb
            refine norm_ (a' := ?_) ?_ ?_
            rotate_left
            · show Act.put _ (some 28) _ = _
              simp only [Act.put, List.setIfInBounds_toArray, List.set_cons_zero, List.set_cons_succ]
              rfl
            have z1 := HB1.out.size
            have z2 := HB2.out.size
            have z3 := HB3.out.size
            have z4 := HB4.out.size
            have y4 := blk_lt HX4.out
            have y5 := blk_lt HX5.out
            have y0 := blk_lt K2.out
            refine hcont ⟨B1, d1, B3, d3, D1, e1, g4, g5⟩ _ ⟨⟨Kd.R_lower (Kd.R_below (Kd.R_below (Kd.R_below HO1.out HB2.out) HB3.out) HB4.out) (below_size KB.out), Kd.R_lower (Kd.R_below (Kd.R_below (Kd.R_below HO3.out HB2.out) HB3.out) HB4.out) (below_size KB.out), Kd.R_lower HD1.out (below_size (below_step (below_step (below_step KB.out HB1.out) HB2.out) HB3.out)), w11.heap.size, fun k hk => ((Kd.R_bound HO1.out).1 k hk).2.2.1, fun k hk => ?_⟩, (blk_below HX4.out HB4.out), (blk_below (blk_below HX5.out HB3.out) HB4.out), (show g4 ≠ g5 by omega), (show w.heap.size + 3 ≤ g4 by omega), (show w.heap.size + 3 ≤ g5 by omega), (blk_below (blk_below (blk_below (blk_below K1.out HB1.out) HB2.out) HB3.out) HB4.out), (blk_below (blk_below (blk_below (blk_below K2.out HB1.out) HB2.out) HB3.out) HB4.out), (below_step (below_step (below_step (below_step KB.out HB1.out) HB2.out) HB3.out) HB4.out)⟩
            have := ((Kd.R_bound HD1.out).1 k hk).2.1
            omega
      · refine box_step ?hg (N := 7) ?hd (cs := #[.int .i64 0, .slice none 0 0, .int .i64 0, .slice none 0 0]) (t := 38) ?hr ?_; (case hd => rfl); (case hg => rfl); (case hr => first | (go_simp; done) | (go_simp; rfl))
        intro g4 hg4 w11 hbox hb
        have HX4 := Aside0.mk hbox
        have HB1 := Aside0.mk hb
        refine hK.out _ _ ⟨(blk_cell (blk_below K0.out HB1.out) 0).trans rfl, (blk_cell (blk_below K0.out HB1.out) 1).trans rfl, (blk_cell (blk_below K0.out HB1.out) 2).trans rfl, (blk_cell (blk_below K0.out HB1.out) 3).trans rfl⟩ (fun hHeld => ?_)
        clear hK K hb
        refine norm_ (a' := ?_) ?_ ?_
        rotate_left
        · show Act.put _ (some 7) _ = _
          simp only [Act.put, List.setIfInBounds_toArray, List.set_cons_zero, List.set_cons_succ]
          rfl
        refine two_ (i := 1) (Ni := some 26) (j := 5) (Nj := some 8) #[true, true, true, false, true, false, false, false] #[true, false, true, false, true, true, false, false] rfl rfl rfl rfl (by kernel_rfl) (by decide) (by decide) (fun K hK => ?_) (fun K hK => ?_)
        · refine goes_ Tryd.func39 (by kernel_rfl) rfl #[.agg #[.int .i64 x.q, .slice A1 x.ls.length c1, .int .i64 x.k, .slice A3 x.cs.length c3]] (by rfl) rfl rfl (by (try simp only [List.map_toArray, List.map_cons, List.map_nil]); first | done | rfl) ?_
          refine (HO.out _ (below_step KB.out HB1.out)).mono ?_
          rintro e w12 ⟨u1, u3, rfl, ho1, ho3, hb⟩
          obtain ⟨B1, d1, rfl⟩ := Kd.R_slice ho1
          obtain ⟨B3, d3, rfl⟩ := Kd.R_slice ho3
          have HO1 := Aside0.mk ho1
          have HO3 := Aside0.mk ho3
          have HB2 := Aside0.mk hb
          refine ⟨_, rfl, ?_⟩
          refine hK.out _ _ ⟨(blk_cell (blk_below (blk_below K0.out HB1.out) HB2.out) 0).trans rfl, (blk_cell (blk_below (blk_below K0.out HB1.out) HB2.out) 1).trans rfl, (blk_cell (blk_below (blk_below K0.out HB1.out) HB2.out) 2).trans rfl, (blk_cell (blk_below (blk_below K0.out HB1.out) HB2.out) 3).trans rfl⟩ (fun hHeld => ?_)
          clear hK K hb
          refine norm_ (a' := ?_) ?_ ?_
          rotate_left
          · show Act.put _ (some 26) _ = _
            simp only [Act.put, List.setIfInBounds_toArray, List.set_cons_zero, List.set_cons_succ]
            rfl
          refine two_ (i := 3) (Ni := some 28) (j := 5) (Nj := some 8) #[true, true, true, true, true, false, false, false] #[true, true, true, false, true, true, false, false] rfl rfl rfl rfl (by kernel_rfl) (by decide) (by decide) (fun K hK => ?_) (fun K hK => ?_)
          · refine goes_ Tryd.func40 (by kernel_rfl) rfl #[.agg #[.int .i64 x.q, .slice A1 x.ls.length c1, .int .i64 x.k, .slice A3 x.cs.length c3]] (by rfl) rfl rfl (by (try simp only [List.map_toArray, List.map_cons, List.map_nil]); first | done | rfl) ?_
            refine (HF.out _ (below_step (below_step KB.out HB1.out) HB2.out)).mono ?_
            rintro e w13 ⟨D1, e1, rfl, hd1, hb⟩
            have HD1 := Aside0.mk hd1
            have HB3 := Aside0.mk hb
            refine ⟨_, rfl, ?_⟩
            refine hK.out _ _ ⟨(blk_cell (blk_below (blk_below (blk_below K0.out HB1.out) HB2.out) HB3.out) 0).trans rfl, (blk_cell (blk_below (blk_below (blk_below K0.out HB1.out) HB2.out) HB3.out) 1).trans rfl, (blk_cell (blk_below (blk_below (blk_below K0.out HB1.out) HB2.out) HB3.out) 2).trans rfl, (blk_cell (blk_below (blk_below (blk_below K0.out HB1.out) HB2.out) HB3.out) 3).trans rfl⟩ (fun hHeld => ?_)
            clear hK K hb
            refine norm_ (a' := ?_) ?_ ?_
            rotate_left
            · show Act.put _ (some 28) _ = _
              simp only [Act.put, List.setIfInBounds_toArray, List.set_cons_zero, List.set_cons_succ]
              rfl
            refine one_ (i := 5) (N := some 8) #[true, true, true, true, true, true, false, false] rfl rfl (by kernel_rfl) (by decide) (fun K hK => ?_)
            refine box_step ?hg (N := 8) ?hd (cs := #[.int .i64 0, .slice none 0 0, .int .i64 0, .slice none 0 0]) (t := 38) ?hr ?_; (case hd => rfl); (case hg => rfl); (case hr => first | (go_simp; done) | (go_simp; rfl))
            intro g5 hg5 w14 hbox hb
            have HX5 := Aside0.mk hbox
            have HB4 := Aside0.mk hb
            refine hK.out _ _ ⟨(blk_cell (blk_below (blk_below (blk_below (blk_below K0.out HB1.out) HB2.out) HB3.out) HB4.out) 0).trans rfl, (blk_cell (blk_below (blk_below (blk_below (blk_below K0.out HB1.out) HB2.out) HB3.out) HB4.out) 1).trans rfl, (blk_cell (blk_below (blk_below (blk_below (blk_below K0.out HB1.out) HB2.out) HB3.out) HB4.out) 2).trans rfl, (blk_cell (blk_below (blk_below (blk_below (blk_below K0.out HB1.out) HB2.out) HB3.out) HB4.out) 3).trans rfl⟩ (fun hHeld => ?_)
            clear hK K hb
            refine norm_ (a' := ?_) ?_ ?_
            rotate_left
            · show Act.put _ (some 8) _ = _
              simp only [Act.put, List.setIfInBounds_toArray, List.set_cons_zero, List.set_cons_succ]
              rfl
            have z1 := HB1.out.size
            have z2 := HB2.out.size
            have z3 := HB3.out.size
            have z4 := HB4.out.size
            have y4 := blk_lt HX4.out
            have y5 := blk_lt HX5.out
            have y0 := blk_lt K2.out
            refine hcont ⟨B1, d1, B3, d3, D1, e1, g4, g5⟩ _ ⟨⟨Kd.R_lower (Kd.R_below (Kd.R_below HO1.out HB3.out) HB4.out) (below_size (below_step KB.out HB1.out)), Kd.R_lower (Kd.R_below (Kd.R_below HO3.out HB3.out) HB4.out) (below_size (below_step KB.out HB1.out)), Kd.R_lower (Kd.R_below HD1.out HB4.out) (below_size (below_step (below_step KB.out HB1.out) HB2.out)), w12.heap.size, fun k hk => ((Kd.R_bound HO1.out).1 k hk).2.2.1, fun k hk => ?_⟩, (blk_below (blk_below (blk_below HX4.out HB2.out) HB3.out) HB4.out), HX5.out, (show g4 ≠ g5 by omega), (show w.heap.size + 3 ≤ g4 by omega), (show w.heap.size + 3 ≤ g5 by omega), (blk_below (blk_below (blk_below (blk_below K1.out HB1.out) HB2.out) HB3.out) HB4.out), (blk_below (blk_below (blk_below (blk_below K2.out HB1.out) HB2.out) HB3.out) HB4.out), (below_step (below_step (below_step (below_step KB.out HB1.out) HB2.out) HB3.out) HB4.out)⟩
            have := ((Kd.R_bound HD1.out).1 k hk).2.1
            omega
          · refine box_step ?hg (N := 8) ?hd (cs := #[.int .i64 0, .slice none 0 0, .int .i64 0, .slice none 0 0]) (t := 38) ?hr ?_; (case hd => rfl); (case hg => rfl); (case hr => first | (go_simp; done) | (go_simp; rfl))
            intro g5 hg5 w13 hbox hb
            have HX5 := Aside0.mk hbox
            have HB3 := Aside0.mk hb
            refine hK.out _ _ ⟨(blk_cell (blk_below (blk_below (blk_below K0.out HB1.out) HB2.out) HB3.out) 0).trans rfl, (blk_cell (blk_below (blk_below (blk_below K0.out HB1.out) HB2.out) HB3.out) 1).trans rfl, (blk_cell (blk_below (blk_below (blk_below K0.out HB1.out) HB2.out) HB3.out) 2).trans rfl, (blk_cell (blk_below (blk_below (blk_below K0.out HB1.out) HB2.out) HB3.out) 3).trans rfl⟩ (fun hHeld => ?_)
            clear hK K hb
            refine norm_ (a' := ?_) ?_ ?_
            rotate_left
            · show Act.put _ (some 8) _ = _
              simp only [Act.put, List.setIfInBounds_toArray, List.set_cons_zero, List.set_cons_succ]
              rfl
            refine one_ (i := 3) (N := some 28) #[true, true, true, true, true, true, false, false] rfl rfl (by kernel_rfl) (by decide) (fun K hK => ?_)
            refine goes_ Tryd.func40 (by kernel_rfl) rfl #[.agg #[.int .i64 x.q, .slice A1 x.ls.length c1, .int .i64 x.k, .slice A3 x.cs.length c3]] (by rfl) rfl rfl (by (try simp only [List.map_toArray, List.map_cons, List.map_nil]); first | done | rfl) ?_
            refine (HF.out _ (below_step (below_step (below_step KB.out HB1.out) HB2.out) HB3.out)).mono ?_
            rintro e w14 ⟨D1, e1, rfl, hd1, hb⟩
            have HD1 := Aside0.mk hd1
            have HB4 := Aside0.mk hb
            refine ⟨_, rfl, ?_⟩
            refine hK.out _ _ ⟨(blk_cell (blk_below (blk_below (blk_below (blk_below K0.out HB1.out) HB2.out) HB3.out) HB4.out) 0).trans rfl, (blk_cell (blk_below (blk_below (blk_below (blk_below K0.out HB1.out) HB2.out) HB3.out) HB4.out) 1).trans rfl, (blk_cell (blk_below (blk_below (blk_below (blk_below K0.out HB1.out) HB2.out) HB3.out) HB4.out) 2).trans rfl, (blk_cell (blk_below (blk_below (blk_below (blk_below K0.out HB1.out) HB2.out) HB3.out) HB4.out) 3).trans rfl⟩ (fun hHeld => ?_)
            clear hK K hb
            refine norm_ (a' := ?_) ?_ ?_
            rotate_left
            · show Act.put _ (some 28) _ = _
              simp only [Act.put, List.setIfInBounds_toArray, List.set_cons_zero, List.set_cons_succ]
              rfl
            have z1 := HB1.out.size
            have z2 := HB2.out.size
            have z3 := HB3.out.size
            have z4 := HB4.out.size
            have y4 := blk_lt HX4.out
            have y5 := blk_lt HX5.out
            have y0 := blk_lt K2.out
            refine hcont ⟨B1, d1, B3, d3, D1, e1, g4, g5⟩ _ ⟨⟨Kd.R_lower (Kd.R_below (Kd.R_below HO1.out HB3.out) HB4.out) (below_size (below_step KB.out HB1.out)), Kd.R_lower (Kd.R_below (Kd.R_below HO3.out HB3.out) HB4.out) (below_size (below_step KB.out HB1.out)), Kd.R_lower HD1.out (below_size (below_step (below_step (below_step KB.out HB1.out) HB2.out) HB3.out)), w12.heap.size, fun k hk => ((Kd.R_bound HO1.out).1 k hk).2.2.1, fun k hk => ?_⟩, (blk_below (blk_below (blk_below HX4.out HB2.out) HB3.out) HB4.out), (blk_below HX5.out HB4.out), (show g4 ≠ g5 by omega), (show w.heap.size + 3 ≤ g4 by omega), (show w.heap.size + 3 ≤ g5 by omega), (blk_below (blk_below (blk_below (blk_below K1.out HB1.out) HB2.out) HB3.out) HB4.out), (blk_below (blk_below (blk_below (blk_below K2.out HB1.out) HB2.out) HB3.out) HB4.out), (below_step (below_step (below_step (below_step KB.out HB1.out) HB2.out) HB3.out) HB4.out)⟩
            have := ((Kd.R_bound HD1.out).1 k hk).2.1
            omega
        · refine box_step ?hg (N := 8) ?hd (cs := #[.int .i64 0, .slice none 0 0, .int .i64 0, .slice none 0 0]) (t := 38) ?hr ?_; (case hd => rfl); (case hg => rfl); (case hr => first | (go_simp; done) | (go_simp; rfl))
          intro g5 hg5 w12 hbox hb
          have HX5 := Aside0.mk hbox
          have HB2 := Aside0.mk hb
          refine hK.out _ _ ⟨(blk_cell (blk_below (blk_below K0.out HB1.out) HB2.out) 0).trans rfl, (blk_cell (blk_below (blk_below K0.out HB1.out) HB2.out) 1).trans rfl, (blk_cell (blk_below (blk_below K0.out HB1.out) HB2.out) 2).trans rfl, (blk_cell (blk_below (blk_below K0.out HB1.out) HB2.out) 3).trans rfl⟩ (fun hHeld => ?_)
          clear hK K hb
          refine norm_ (a' := ?_) ?_ ?_
          rotate_left
          · show Act.put _ (some 8) _ = _
            simp only [Act.put, List.setIfInBounds_toArray, List.set_cons_zero, List.set_cons_succ]
            rfl
          refine one_ (i := 1) (N := some 26) #[true, true, true, false, true, true, false, false] rfl rfl (by kernel_rfl) (by decide) (fun K hK => ?_)
          refine goes_ Tryd.func39 (by kernel_rfl) rfl #[.agg #[.int .i64 x.q, .slice A1 x.ls.length c1, .int .i64 x.k, .slice A3 x.cs.length c3]] (by rfl) rfl rfl (by (try simp only [List.map_toArray, List.map_cons, List.map_nil]); first | done | rfl) ?_
          refine (HO.out _ (below_step (below_step KB.out HB1.out) HB2.out)).mono ?_
          rintro e w13 ⟨u1, u3, rfl, ho1, ho3, hb⟩
          obtain ⟨B1, d1, rfl⟩ := Kd.R_slice ho1
          obtain ⟨B3, d3, rfl⟩ := Kd.R_slice ho3
          have HO1 := Aside0.mk ho1
          have HO3 := Aside0.mk ho3
          have HB3 := Aside0.mk hb
          refine ⟨_, rfl, ?_⟩
          refine hK.out _ _ ⟨(blk_cell (blk_below (blk_below (blk_below K0.out HB1.out) HB2.out) HB3.out) 0).trans rfl, (blk_cell (blk_below (blk_below (blk_below K0.out HB1.out) HB2.out) HB3.out) 1).trans rfl, (blk_cell (blk_below (blk_below (blk_below K0.out HB1.out) HB2.out) HB3.out) 2).trans rfl, (blk_cell (blk_below (blk_below (blk_below K0.out HB1.out) HB2.out) HB3.out) 3).trans rfl⟩ (fun hHeld => ?_)
          clear hK K hb
          refine norm_ (a' := ?_) ?_ ?_
          rotate_left
          · show Act.put _ (some 26) _ = _
            simp only [Act.put, List.setIfInBounds_toArray, List.set_cons_zero, List.set_cons_succ]
            rfl
          refine one_ (i := 3) (N := some 28) #[true, true, true, true, true, true, false, false] rfl rfl (by kernel_rfl) (by decide) (fun K hK => ?_)
          refine goes_ Tryd.func40 (by kernel_rfl) rfl #[.agg #[.int .i64 x.q, .slice A1 x.ls.length c1, .int .i64 x.k, .slice A3 x.cs.length c3]] (by rfl) rfl rfl (by (try simp only [List.map_toArray, List.map_cons, List.map_nil]); first | done | rfl) ?_
          refine (HF.out _ (below_step (below_step (below_step KB.out HB1.out) HB2.out) HB3.out)).mono ?_
          rintro e w14 ⟨D1, e1, rfl, hd1, hb⟩
          have HD1 := Aside0.mk hd1
          have HB4 := Aside0.mk hb
          refine ⟨_, rfl, ?_⟩
          refine hK.out _ _ ⟨(blk_cell (blk_below (blk_below (blk_below (blk_below K0.out HB1.out) HB2.out) HB3.out) HB4.out) 0).trans rfl, (blk_cell (blk_below (blk_below (blk_below (blk_below K0.out HB1.out) HB2.out) HB3.out) HB4.out) 1).trans rfl, (blk_cell (blk_below (blk_below (blk_below (blk_below K0.out HB1.out) HB2.out) HB3.out) HB4.out) 2).trans rfl, (blk_cell (blk_below (blk_below (blk_below (blk_below K0.out HB1.out) HB2.out) HB3.out) HB4.out) 3).trans rfl⟩ (fun hHeld => ?_)
          clear hK K hb
          refine norm_ (a' := ?_) ?_ ?_
          rotate_left
          · show Act.put _ (some 28) _ = _
            simp only [Act.put, List.setIfInBounds_toArray, List.set_cons_zero, List.set_cons_succ]
            rfl
          have z1 := HB1.out.size
          have z2 := HB2.out.size
          have z3 := HB3.out.size
          have z4 := HB4.out.size
          have y4 := blk_lt HX4.out
          have y5 := blk_lt HX5.out
          have y0 := blk_lt K2.out
          refine hcont ⟨B1, d1, B3, d3, D1, e1, g4, g5⟩ _ ⟨⟨Kd.R_lower (Kd.R_below HO1.out HB4.out) (below_size (below_step (below_step KB.out HB1.out) HB2.out)), Kd.R_lower (Kd.R_below HO3.out HB4.out) (below_size (below_step (below_step KB.out HB1.out) HB2.out)), Kd.R_lower HD1.out (below_size (below_step (below_step (below_step KB.out HB1.out) HB2.out) HB3.out)), w13.heap.size, fun k hk => ((Kd.R_bound HO1.out).1 k hk).2.2.1, fun k hk => ?_⟩, (blk_below (blk_below (blk_below HX4.out HB2.out) HB3.out) HB4.out), (blk_below (blk_below HX5.out HB3.out) HB4.out), (show g4 ≠ g5 by omega), (show w.heap.size + 3 ≤ g4 by omega), (show w.heap.size + 3 ≤ g5 by omega), (blk_below (blk_below (blk_below (blk_below K1.out HB1.out) HB2.out) HB3.out) HB4.out), (blk_below (blk_below (blk_below (blk_below K2.out HB1.out) HB2.out) HB3.out) HB4.out), (below_step (below_step (below_step (below_step KB.out HB1.out) HB2.out) HB3.out) HB4.out)⟩
          have := ((Kd.R_bound HD1.out).1 k hk).2.1
          omega
      · refine box_step ?hg (N := 8) ?hd (cs := #[.int .i64 0, .slice none 0 0, .int .i64 0, .slice none 0 0]) (t := 38) ?hr ?_; (case hd => rfl); (case hg => rfl); (case hr => first | (go_simp; done) | (go_simp; rfl))
        intro g5 hg5 w11 hbox hb
        have HX5 := Aside0.mk hbox
        have HB1 := Aside0.mk hb
        refine hK.out _ _ ⟨(blk_cell (blk_below K0.out HB1.out) 0).trans rfl, (blk_cell (blk_below K0.out HB1.out) 1).trans rfl, (blk_cell (blk_below K0.out HB1.out) 2).trans rfl, (blk_cell (blk_below K0.out HB1.out) 3).trans rfl⟩ (fun hHeld => ?_)
        clear hK K hb
        refine norm_ (a' := ?_) ?_ ?_
        rotate_left
        · show Act.put _ (some 8) _ = _
          simp only [Act.put, List.setIfInBounds_toArray, List.set_cons_zero, List.set_cons_succ]
          rfl
        refine two_ (i := 1) (Ni := some 26) (j := 4) (Nj := some 7) #[true, true, true, false, false, true, false, false] #[true, false, true, false, true, true, false, false] rfl rfl rfl rfl (by kernel_rfl) (by decide) (by decide) (fun K hK => ?_) (fun K hK => ?_)
        · refine goes_ Tryd.func39 (by kernel_rfl) rfl #[.agg #[.int .i64 x.q, .slice A1 x.ls.length c1, .int .i64 x.k, .slice A3 x.cs.length c3]] (by rfl) rfl rfl (by (try simp only [List.map_toArray, List.map_cons, List.map_nil]); first | done | rfl) ?_
          refine (HO.out _ (below_step KB.out HB1.out)).mono ?_
          rintro e w12 ⟨u1, u3, rfl, ho1, ho3, hb⟩
          obtain ⟨B1, d1, rfl⟩ := Kd.R_slice ho1
          obtain ⟨B3, d3, rfl⟩ := Kd.R_slice ho3
          have HO1 := Aside0.mk ho1
          have HO3 := Aside0.mk ho3
          have HB2 := Aside0.mk hb
          refine ⟨_, rfl, ?_⟩
          refine hK.out _ _ ⟨(blk_cell (blk_below (blk_below K0.out HB1.out) HB2.out) 0).trans rfl, (blk_cell (blk_below (blk_below K0.out HB1.out) HB2.out) 1).trans rfl, (blk_cell (blk_below (blk_below K0.out HB1.out) HB2.out) 2).trans rfl, (blk_cell (blk_below (blk_below K0.out HB1.out) HB2.out) 3).trans rfl⟩ (fun hHeld => ?_)
          clear hK K hb
          refine norm_ (a' := ?_) ?_ ?_
          rotate_left
          · show Act.put _ (some 26) _ = _
            simp only [Act.put, List.setIfInBounds_toArray, List.set_cons_zero, List.set_cons_succ]
            rfl
          refine two_ (i := 3) (Ni := some 28) (j := 4) (Nj := some 7) #[true, true, true, true, false, true, false, false] #[true, true, true, false, true, true, false, false] rfl rfl rfl rfl (by kernel_rfl) (by decide) (by decide) (fun K hK => ?_) (fun K hK => ?_)
          · refine goes_ Tryd.func40 (by kernel_rfl) rfl #[.agg #[.int .i64 x.q, .slice A1 x.ls.length c1, .int .i64 x.k, .slice A3 x.cs.length c3]] (by rfl) rfl rfl (by (try simp only [List.map_toArray, List.map_cons, List.map_nil]); first | done | rfl) ?_
            refine (HF.out _ (below_step (below_step KB.out HB1.out) HB2.out)).mono ?_
            rintro e w13 ⟨D1, e1, rfl, hd1, hb⟩
            have HD1 := Aside0.mk hd1
            have HB3 := Aside0.mk hb
            refine ⟨_, rfl, ?_⟩
            refine hK.out _ _ ⟨(blk_cell (blk_below (blk_below (blk_below K0.out HB1.out) HB2.out) HB3.out) 0).trans rfl, (blk_cell (blk_below (blk_below (blk_below K0.out HB1.out) HB2.out) HB3.out) 1).trans rfl, (blk_cell (blk_below (blk_below (blk_below K0.out HB1.out) HB2.out) HB3.out) 2).trans rfl, (blk_cell (blk_below (blk_below (blk_below K0.out HB1.out) HB2.out) HB3.out) 3).trans rfl⟩ (fun hHeld => ?_)
            clear hK K hb
            refine norm_ (a' := ?_) ?_ ?_
            rotate_left
            · show Act.put _ (some 28) _ = _
              simp only [Act.put, List.setIfInBounds_toArray, List.set_cons_zero, List.set_cons_succ]
              rfl
            refine one_ (i := 4) (N := some 7) #[true, true, true, true, true, true, false, false] rfl rfl (by kernel_rfl) (by decide) (fun K hK => ?_)
            refine box_step ?hg (N := 7) ?hd (cs := #[.int .i64 0, .slice none 0 0, .int .i64 0, .slice none 0 0]) (t := 38) ?hr ?_; (case hd => rfl); (case hg => rfl); (case hr => first | (go_simp; done) | (go_simp; rfl))
            intro g4 hg4 w14 hbox hb
            have HX4 := Aside0.mk hbox
            have HB4 := Aside0.mk hb
            refine hK.out _ _ ⟨(blk_cell (blk_below (blk_below (blk_below (blk_below K0.out HB1.out) HB2.out) HB3.out) HB4.out) 0).trans rfl, (blk_cell (blk_below (blk_below (blk_below (blk_below K0.out HB1.out) HB2.out) HB3.out) HB4.out) 1).trans rfl, (blk_cell (blk_below (blk_below (blk_below (blk_below K0.out HB1.out) HB2.out) HB3.out) HB4.out) 2).trans rfl, (blk_cell (blk_below (blk_below (blk_below (blk_below K0.out HB1.out) HB2.out) HB3.out) HB4.out) 3).trans rfl⟩ (fun hHeld => ?_)
            clear hK K hb
            refine norm_ (a' := ?_) ?_ ?_
            rotate_left
            · show Act.put _ (some 7) _ = _
              simp only [Act.put, List.setIfInBounds_toArray, List.set_cons_zero, List.set_cons_succ]
              rfl
            have z1 := HB1.out.size
            have z2 := HB2.out.size
            have z3 := HB3.out.size
            have z4 := HB4.out.size
            have y4 := blk_lt HX4.out
            have y5 := blk_lt HX5.out
            have y0 := blk_lt K2.out
            refine hcont ⟨B1, d1, B3, d3, D1, e1, g4, g5⟩ _ ⟨⟨Kd.R_lower (Kd.R_below (Kd.R_below HO1.out HB3.out) HB4.out) (below_size (below_step KB.out HB1.out)), Kd.R_lower (Kd.R_below (Kd.R_below HO3.out HB3.out) HB4.out) (below_size (below_step KB.out HB1.out)), Kd.R_lower (Kd.R_below HD1.out HB4.out) (below_size (below_step (below_step KB.out HB1.out) HB2.out)), w12.heap.size, fun k hk => ((Kd.R_bound HO1.out).1 k hk).2.2.1, fun k hk => ?_⟩, HX4.out, (blk_below (blk_below (blk_below HX5.out HB2.out) HB3.out) HB4.out), (show g4 ≠ g5 by omega), (show w.heap.size + 3 ≤ g4 by omega), (show w.heap.size + 3 ≤ g5 by omega), (blk_below (blk_below (blk_below (blk_below K1.out HB1.out) HB2.out) HB3.out) HB4.out), (blk_below (blk_below (blk_below (blk_below K2.out HB1.out) HB2.out) HB3.out) HB4.out), (below_step (below_step (below_step (below_step KB.out HB1.out) HB2.out) HB3.out) HB4.out)⟩
            have := ((Kd.R_bound HD1.out).1 k hk).2.1
            omega
          · refine box_step ?hg (N := 7) ?hd (cs := #[.int .i64 0, .slice none 0 0, .int .i64 0, .slice none 0 0]) (t := 38) ?hr ?_; (case hd => rfl); (case hg => rfl); (case hr => first | (go_simp; done) | (go_simp; rfl))
            intro g4 hg4 w13 hbox hb
            have HX4 := Aside0.mk hbox
            have HB3 := Aside0.mk hb
            refine hK.out _ _ ⟨(blk_cell (blk_below (blk_below (blk_below K0.out HB1.out) HB2.out) HB3.out) 0).trans rfl, (blk_cell (blk_below (blk_below (blk_below K0.out HB1.out) HB2.out) HB3.out) 1).trans rfl, (blk_cell (blk_below (blk_below (blk_below K0.out HB1.out) HB2.out) HB3.out) 2).trans rfl, (blk_cell (blk_below (blk_below (blk_below K0.out HB1.out) HB2.out) HB3.out) 3).trans rfl⟩ (fun hHeld => ?_)
            clear hK K hb
            refine norm_ (a' := ?_) ?_ ?_
            rotate_left
            · show Act.put _ (some 7) _ = _
              simp only [Act.put, List.setIfInBounds_toArray, List.set_cons_zero, List.set_cons_succ]
              rfl
            refine one_ (i := 3) (N := some 28) #[true, true, true, true, true, true, false, false] rfl rfl (by kernel_rfl) (by decide) (fun K hK => ?_)
            refine goes_ Tryd.func40 (by kernel_rfl) rfl #[.agg #[.int .i64 x.q, .slice A1 x.ls.length c1, .int .i64 x.k, .slice A3 x.cs.length c3]] (by rfl) rfl rfl (by (try simp only [List.map_toArray, List.map_cons, List.map_nil]); first | done | rfl) ?_
            refine (HF.out _ (below_step (below_step (below_step KB.out HB1.out) HB2.out) HB3.out)).mono ?_
            rintro e w14 ⟨D1, e1, rfl, hd1, hb⟩
            have HD1 := Aside0.mk hd1
            have HB4 := Aside0.mk hb
            refine ⟨_, rfl, ?_⟩
            refine hK.out _ _ ⟨(blk_cell (blk_below (blk_below (blk_below (blk_below K0.out HB1.out) HB2.out) HB3.out) HB4.out) 0).trans rfl, (blk_cell (blk_below (blk_below (blk_below (blk_below K0.out HB1.out) HB2.out) HB3.out) HB4.out) 1).trans rfl, (blk_cell (blk_below (blk_below (blk_below (blk_below K0.out HB1.out) HB2.out) HB3.out) HB4.out) 2).trans rfl, (blk_cell (blk_below (blk_below (blk_below (blk_below K0.out HB1.out) HB2.out) HB3.out) HB4.out) 3).trans rfl⟩ (fun hHeld => ?_)
            clear hK K hb
            refine norm_ (a' := ?_) ?_ ?_
            rotate_left
            · show Act.put _ (some 28) _ = _
              simp only [Act.put, List.setIfInBounds_toArray, List.set_cons_zero, List.set_cons_succ]
              rfl
            have z1 := HB1.out.size
            have z2 := HB2.out.size
            have z3 := HB3.out.size
            have z4 := HB4.out.size
            have y4 := blk_lt HX4.out
            have y5 := blk_lt HX5.out
            have y0 := blk_lt K2.out
            refine hcont ⟨B1, d1, B3, d3, D1, e1, g4, g5⟩ _ ⟨⟨Kd.R_lower (Kd.R_below (Kd.R_below HO1.out HB3.out) HB4.out) (below_size (below_step KB.out HB1.out)), Kd.R_lower (Kd.R_below (Kd.R_below HO3.out HB3.out) HB4.out) (below_size (below_step KB.out HB1.out)), Kd.R_lower HD1.out (below_size (below_step (below_step (below_step KB.out HB1.out) HB2.out) HB3.out)), w12.heap.size, fun k hk => ((Kd.R_bound HO1.out).1 k hk).2.2.1, fun k hk => ?_⟩, (blk_below HX4.out HB4.out), (blk_below (blk_below (blk_below HX5.out HB2.out) HB3.out) HB4.out), (show g4 ≠ g5 by omega), (show w.heap.size + 3 ≤ g4 by omega), (show w.heap.size + 3 ≤ g5 by omega), (blk_below (blk_below (blk_below (blk_below K1.out HB1.out) HB2.out) HB3.out) HB4.out), (blk_below (blk_below (blk_below (blk_below K2.out HB1.out) HB2.out) HB3.out) HB4.out), (below_step (below_step (below_step (below_step KB.out HB1.out) HB2.out) HB3.out) HB4.out)⟩
            have := ((Kd.R_bound HD1.out).1 k hk).2.1
            omega
        · refine box_step ?hg (N := 7) ?hd (cs := #[.int .i64 0, .slice none 0 0, .int .i64 0, .slice none 0 0]) (t := 38) ?hr ?_; (case hd => rfl); (case hg => rfl); (case hr => first | (go_simp; done) | (go_simp; rfl))
          intro g4 hg4 w12 hbox hb
          have HX4 := Aside0.mk hbox
          have HB2 := Aside0.mk hb
          refine hK.out _ _ ⟨(blk_cell (blk_below (blk_below K0.out HB1.out) HB2.out) 0).trans rfl, (blk_cell (blk_below (blk_below K0.out HB1.out) HB2.out) 1).trans rfl, (blk_cell (blk_below (blk_below K0.out HB1.out) HB2.out) 2).trans rfl, (blk_cell (blk_below (blk_below K0.out HB1.out) HB2.out) 3).trans rfl⟩ (fun hHeld => ?_)
          clear hK K hb
          refine norm_ (a' := ?_) ?_ ?_
          rotate_left
          · show Act.put _ (some 7) _ = _
            simp only [Act.put, List.setIfInBounds_toArray, List.set_cons_zero, List.set_cons_succ]
            rfl
          refine one_ (i := 1) (N := some 26) #[true, true, true, false, true, true, false, false] rfl rfl (by kernel_rfl) (by decide) (fun K hK => ?_)
          refine goes_ Tryd.func39 (by kernel_rfl) rfl #[.agg #[.int .i64 x.q, .slice A1 x.ls.length c1, .int .i64 x.k, .slice A3 x.cs.length c3]] (by rfl) rfl rfl (by (try simp only [List.map_toArray, List.map_cons, List.map_nil]); first | done | rfl) ?_
          refine (HO.out _ (below_step (below_step KB.out HB1.out) HB2.out)).mono ?_
          rintro e w13 ⟨u1, u3, rfl, ho1, ho3, hb⟩
          obtain ⟨B1, d1, rfl⟩ := Kd.R_slice ho1
          obtain ⟨B3, d3, rfl⟩ := Kd.R_slice ho3
          have HO1 := Aside0.mk ho1
          have HO3 := Aside0.mk ho3
          have HB3 := Aside0.mk hb
          refine ⟨_, rfl, ?_⟩
          refine hK.out _ _ ⟨(blk_cell (blk_below (blk_below (blk_below K0.out HB1.out) HB2.out) HB3.out) 0).trans rfl, (blk_cell (blk_below (blk_below (blk_below K0.out HB1.out) HB2.out) HB3.out) 1).trans rfl, (blk_cell (blk_below (blk_below (blk_below K0.out HB1.out) HB2.out) HB3.out) 2).trans rfl, (blk_cell (blk_below (blk_below (blk_below K0.out HB1.out) HB2.out) HB3.out) 3).trans rfl⟩ (fun hHeld => ?_)
          clear hK K hb
          refine norm_ (a' := ?_) ?_ ?_
          rotate_left
          · show Act.put _ (some 26) _ = _
            simp only [Act.put, List.setIfInBounds_toArray, List.set_cons_zero, List.set_cons_succ]
            rfl
          refine one_ (i := 3) (N := some 28) #[true, true, true, true, true, true, false, false] rfl rfl (by kernel_rfl) (by decide) (fun K hK => ?_)
          refine goes_ Tryd.func40 (by kernel_rfl) rfl #[.agg #[.int .i64 x.q, .slice A1 x.ls.length c1, .int .i64 x.k, .slice A3 x.cs.length c3]] (by rfl) rfl rfl (by (try simp only [List.map_toArray, List.map_cons, List.map_nil]); first | done | rfl) ?_
          refine (HF.out _ (below_step (below_step (below_step KB.out HB1.out) HB2.out) HB3.out)).mono ?_
          rintro e w14 ⟨D1, e1, rfl, hd1, hb⟩
          have HD1 := Aside0.mk hd1
          have HB4 := Aside0.mk hb
          refine ⟨_, rfl, ?_⟩
          refine hK.out _ _ ⟨(blk_cell (blk_below (blk_below (blk_below (blk_below K0.out HB1.out) HB2.out) HB3.out) HB4.out) 0).trans rfl, (blk_cell (blk_below (blk_below (blk_below (blk_below K0.out HB1.out) HB2.out) HB3.out) HB4.out) 1).trans rfl, (blk_cell (blk_below (blk_below (blk_below (blk_below K0.out HB1.out) HB2.out) HB3.out) HB4.out) 2).trans rfl, (blk_cell (blk_below (blk_below (blk_below (blk_below K0.out HB1.out) HB2.out) HB3.out) HB4.out) 3).trans rfl⟩ (fun hHeld => ?_)
          clear hK K hb
          refine norm_ (a' := ?_) ?_ ?_
          rotate_left
          · show Act.put _ (some 28) _ = _
            simp only [Act.put, List.setIfInBounds_toArray, List.set_cons_zero, List.set_cons_succ]
            rfl
          have z1 := HB1.out.size
          have z2 := HB2.out.size
          have z3 := HB3.out.size
          have z4 := HB4.out.size
          have y4 := blk_lt HX4.out
          have y5 := blk_lt HX5.out
          have y0 := blk_lt K2.out
          refine hcont ⟨B1, d1, B3, d3, D1, e1, g4, g5⟩ _ ⟨⟨Kd.R_lower (Kd.R_below HO1.out HB4.out) (below_size (below_step (below_step KB.out HB1.out) HB2.out)), Kd.R_lower (Kd.R_below HO3.out HB4.out) (below_size (below_step (below_step KB.out HB1.out) HB2.out)), Kd.R_lower HD1.out (below_size (below_step (below_step (below_step KB.out HB1.out) HB2.out) HB3.out)), w13.heap.size, fun k hk => ((Kd.R_bound HO1.out).1 k hk).2.2.1, fun k hk => ?_⟩, (blk_below (blk_below HX4.out HB3.out) HB4.out), (blk_below (blk_below (blk_below HX5.out HB2.out) HB3.out) HB4.out), (show g4 ≠ g5 by omega), (show w.heap.size + 3 ≤ g4 by omega), (show w.heap.size + 3 ≤ g5 by omega), (blk_below (blk_below (blk_below (blk_below K1.out HB1.out) HB2.out) HB3.out) HB4.out), (blk_below (blk_below (blk_below (blk_below K2.out HB1.out) HB2.out) HB3.out) HB4.out), (below_step (below_step (below_step (below_step KB.out HB1.out) HB2.out) HB3.out) HB4.out)⟩
          have := ((Kd.R_bound HD1.out).1 k hk).2.1
          omega
    · intro s W hF
      obtain ⟨⟨hR1, hR3, hRD, N, hN1, hN2⟩, hp, hq, hpq, hpz, hqz, hb1, hb2, hB⟩ := hF
      obtain ⟨B1, d1, B3, d3, D1, e1, p, q⟩ := s
      refine norm_ (a' := ?_) ?_ ?_
      rotate_left
      · simp only [putAll, Act.put, List.setIfInBounds_toArray, List.set_cons_zero, List.set_cons_succ]
        rfl
      have p0 : W.cell? ⟨p, 0, none⟩ = some (.int .i64 0) := (blk_cell hp 0).trans rfl
      have p1 : W.cell? ⟨p, 1, none⟩ = some (.slice none 0 0) := (blk_cell hp 1).trans rfl
      have p2 : W.cell? ⟨p, 2, none⟩ = some (.int .i64 0) := (blk_cell hp 2).trans rfl
      have p3 : W.cell? ⟨p, 3, none⟩ = some (.slice none 0 0) := (blk_cell hp 3).trans rfl
      have pf0 := blk_frozen hp 0
      have pf1 := blk_frozen hp 1
      have pf2 := blk_frozen hp 2
      have pf3 := blk_frozen hp 3
      refine last_ (i := 6) (N := none) #[true, true, true, true, true, true, true, false] rfl rfl (by kernel_rfl) (by decide) (fun K hK => ?_)
      refine skip_ (w1 := put4_ W p (.int .i64 x.q) (.slice B1 x.ls.length d1) (.int .i64 x.k) (.slice B3 x.cs.length d3)) (by rfl) rfl (by go_simp; rfl) ?_
      refine hK.out _ _ ?_
      clear hK K p0 p1 p2 p3 pf0 pf1 pf2 pf3
      have hp' := put4_blk (a := .int .i64 x.q) (b := .slice B1 x.ls.length d1) (c := .int .i64 x.k) (d := .slice B3 x.cs.length d3) hp
      have hq' := put4_off (g := p) (a := .int .i64 x.q) (b := .slice B1 x.ls.length d1) (c := .int .i64 x.k) (d := .slice B3 x.cs.length d3) hq (Ne.symm hpq)
      have hb1' := put4_off (g := p) (a := .int .i64 x.q) (b := .slice B1 x.ls.length d1) (c := .int .i64 x.k) (d := .slice B3 x.cs.length d3) hb1 (show w.heap.size + 1 ≠ p by dsimp only at hpz; omega)
      have hb2' := put4_off (g := p) (a := .int .i64 x.q) (b := .slice B1 x.ls.length d1) (c := .int .i64 x.k) (d := .slice B3 x.cs.length d3) hb2 (show w.heap.size + 2 ≠ p by dsimp only at hpz; omega)
      have hR1' := put4_R (a := .int .i64 x.q) (b := .slice B1 x.ls.length d1) (c := .int .i64 x.k) (d := .slice B3 x.cs.length d3) hR1 hp (by decide)
      have hR3' := put4_R (a := .int .i64 x.q) (b := .slice B1 x.ls.length d1) (c := .int .i64 x.k) (d := .slice B3 x.cs.length d3) hR3 hp (by decide)
      have hRD' := put4_R (a := .int .i64 x.q) (b := .slice B1 x.ls.length d1) (c := .int .i64 x.k) (d := .slice B3 x.cs.length d3) hRD hp (by decide)
      have hB' := put4_below (a := .int .i64 x.q) (b := .slice B1 x.ls.length d1) (c := .int .i64 x.k) (d := .slice B3 x.cs.length d3) hB (show w.heap.size ≤ p by dsimp only at hpz; omega)
      generalize put4_ W p (.int .i64 x.q) (.slice B1 x.ls.length d1) (.int .i64 x.k) (.slice B3 x.cs.length d3) = W1 at hp' hq' hb1' hb2' hR1' hR3' hRD' hB' ⊢
      clear hp hq hb1 hb2 hR1 hR3 hRD hB
      dsimp only at hpq hpz hqz hN1 hN2 hp' hq' hb1' hb2' hR1' hR3' hRD' hB'
      have p0 : W1.cell? ⟨q, 0, none⟩ = some (.int .i64 0) := (blk_cell hq' 0).trans rfl
      have p1 : W1.cell? ⟨q, 1, none⟩ = some (.slice none 0 0) := (blk_cell hq' 1).trans rfl
      have p2 : W1.cell? ⟨q, 2, none⟩ = some (.int .i64 0) := (blk_cell hq' 2).trans rfl
      have p3 : W1.cell? ⟨q, 3, none⟩ = some (.slice none 0 0) := (blk_cell hq' 3).trans rfl
      have pf0 := blk_frozen hq' 0
      have pf1 := blk_frozen hq' 1
      have pf2 := blk_frozen hq' 2
      have pf3 := blk_frozen hq' 3
      refine last_ (i := 7) (N := none) #[true, true, true, true, true, true, true, true] rfl rfl (by kernel_rfl) (by decide) (fun K hK => ?_)
      refine skip_ (w1 := put4_ W1 q (.int .i64 x.q) (.slice D1 x.ls.length e1) (.int .i64 x.k) (.slice none 0 0)) (by rfl) rfl (by go_simp; rfl) ?_
      refine hK.out _ _ ?_
      clear hK K p0 p1 p2 p3 pf0 pf1 pf2 pf3
      refine done_ (by kernel_rfl) ?_
      have hq := put4_blk (a := .int .i64 x.q) (b := .slice D1 x.ls.length e1) (c := .int .i64 x.k) (d := .slice none 0 0) hq'
      have hp := put4_off (g := q) (a := .int .i64 x.q) (b := .slice D1 x.ls.length e1) (c := .int .i64 x.k) (d := .slice none 0 0) hp' hpq
      have hb1 := put4_off (g := q) (a := .int .i64 x.q) (b := .slice D1 x.ls.length e1) (c := .int .i64 x.k) (d := .slice none 0 0) hb1' (show w.heap.size + 1 ≠ q by omega)
      have hb2 := put4_off (g := q) (a := .int .i64 x.q) (b := .slice D1 x.ls.length e1) (c := .int .i64 x.k) (d := .slice none 0 0) hb2' (show w.heap.size + 2 ≠ q by omega)
      have hR1 := put4_R (a := .int .i64 x.q) (b := .slice D1 x.ls.length e1) (c := .int .i64 x.k) (d := .slice none 0 0) hR1' hq' (by decide)
      have hR3 := put4_R (a := .int .i64 x.q) (b := .slice D1 x.ls.length e1) (c := .int .i64 x.k) (d := .slice none 0 0) hR3' hq' (by decide)
      have hRD := put4_R (a := .int .i64 x.q) (b := .slice D1 x.ls.length e1) (c := .int .i64 x.k) (d := .slice none 0 0) hRD' hq' (by decide)
      have hB := put4_below (a := .int .i64 x.q) (b := .slice D1 x.ls.length e1) (c := .int .i64 x.k) (d := .slice none 0 0) hB' (show w.heap.size ≤ q by omega)
      generalize put4_ W1 q (.int .i64 x.q) (.slice D1 x.ls.length e1) (.int .i64 x.k) (.slice none 0 0) = V at hp hq hb1 hb2 hR1 hR3 hRD hB ⊢
      clear hp' hq' hb1' hb2' hR1' hR3' hRD' hB' HO HF
      have hS := Aside0.mk (show Sp2_ w x ⟨B1, d1, B3, d3, D1, e1, p, q⟩ (.slice B3 x.cs.length d3) (.int .i64 x.k) (.slice none 0 0) V from ⟨hp, hq, hb1, hb2, ⟨hR1, hR3, hRD, N, hN1, hN2⟩, hB⟩)
      have r2 := cut_hm_ (P := Tryd.prog) 36 71 .i64 .i64 Tryd.underlying36 infoC_.choose_spec.1 B3 x.cs.length d3 (n : Int) (by omega) (by omega) (Kd.R_reads' hR3).2.1
      rw [Int.toNat_natCast] at r2
      have g3 : V.cell? ⟨p, 3, none⟩ = some (.slice B3 x.cs.length d3) := (blk_cell hp 3).trans rfl
      have g4 : V.cell? ⟨q, 3, none⟩ = some (.slice none 0 0) := (blk_cell hq 3).trans rfl
      have g5 := blk_frozen hp 3
      have g6 := blk_frozen hq 3
      have g7 : ∀ u, (V.setCell ⟨q, 3, none⟩ u).cell? ⟨p, 3, none⟩ = some (.slice B3 x.cs.length d3) := fun u => (cell_far (p := ⟨q, 3, none⟩) hpq u).trans g3
      have g8 : ∀ u, (V.setCell ⟨q, 3, none⟩ u).frozen? ⟨p, 3, none⟩ = false := fun u => blk_frozen (blk_off_ hp hpq) 3
      have hR3' := Aside0.mk hR3
      clear hp hq hb1 hb2 hR1 hR3 hRD hB hN1 hN2
      by_cases hne : n = x.cs.length
      · obtain ⟨X, cx, r1, _, _⟩ := dropC_ B3 x.cs d3 n hnl (Kd.R_reads' hR3'.out).2.1
        rw [show x.cs.length - n = 0 by omega] at r1
        have HNE := Aside0.mk hne
        clear hne
        go_upto_region 7 with (fail)
        have hS2 := (((hS.out.move hpq hpz hqz (.slice X 0 cx)).2.1).move hpq hpz hqz (.slice B3 n n)).1
        dsimp only at hS2
        generalize (V.setCell ⟨q, 3, none⟩ (.slice X 0 cx)).setCell ⟨p, 3, none⟩ (.slice B3 n n) = V1 at hS2 ⊢
        clear hS g3 g4 g5 g6 g7 g8 r1 r2
        have hS := (((hS2.move hpq hpz hqz (.int .i64 0)).2.2).move hpq hpz hqz (.slice none 0 0)).2.1
        dsimp only at hS
        have g4 : V1.cell? ⟨q, 3, none⟩ = some (.slice X 0 cx) := (blk_cell hS2.2.1 3).trans rfl
        have g9 : V1.cell? ⟨q, 2, none⟩ = some (.int .i64 x.k) := (blk_cell hS2.2.1 2).trans rfl
        have g5 := blk_frozen hS2.2.1 3
        have g6 := blk_frozen hS2.2.1 2
        clear hS2
        go_upto_region 8 with (fail)
        generalize (V1.setCell ⟨q, 2, none⟩ (.int .i64 0)).setCell ⟨q, 3, none⟩ (.slice none 0 0) = V2 at hS ⊢
        clear g4 g9 g5 g6
        obtain ⟨k1, k2, k3, k4, ⟨k5, k6, k7, k8⟩, k9⟩ := hS
        have v0 : V2.cell? ⟨p, 0, none⟩ = some _ := (blk_cell k1 0).trans rfl
        have v1 : V2.cell? ⟨p, 1, none⟩ = some _ := (blk_cell k1 1).trans rfl
        have v2 : V2.cell? ⟨p, 2, none⟩ = some _ := (blk_cell k1 2).trans rfl
        have v3 : V2.cell? ⟨p, 3, none⟩ = some _ := (blk_cell k1 3).trans rfl
        have z0 : V2.cell? ⟨q, 0, none⟩ = some _ := (blk_cell k2 0).trans rfl
        have z1 : V2.cell? ⟨q, 1, none⟩ = some _ := (blk_cell k2 1).trans rfl
        have z2 : V2.cell? ⟨q, 2, none⟩ = some _ := (blk_cell k2 2).trans rfl
        have z3 : V2.cell? ⟨q, 3, none⟩ = some _ := (blk_cell k2 3).trans rfl
        have b0 : V2.cell? ⟨w.heap.size + 1, 0, none⟩ = some (.int .i64 0) := (blk_cell k3 0).trans rfl
        have be0 := blk_frozen k3 0
        have b1 : V2.cell? ⟨w.heap.size + 1, 1, none⟩ = some (.slice none 0 0) := (blk_cell k3 1).trans rfl
        have be1 := blk_frozen k3 1
        have b2 : V2.cell? ⟨w.heap.size + 1, 2, none⟩ = some (.int .i64 0) := (blk_cell k3 2).trans rfl
        have be2 := blk_frozen k3 2
        have b3 : V2.cell? ⟨w.heap.size + 1, 3, none⟩ = some (.slice none 0 0) := (blk_cell k3 3).trans rfl
        have be3 := blk_frozen k3 3
        have m0 : V2.cell? ⟨w.heap.size + 2, 0, none⟩ = some (.int .i64 0) := (blk_cell k4 0).trans rfl
        have me0 := blk_frozen k4 0
        have m1 : V2.cell? ⟨w.heap.size + 2, 1, none⟩ = some (.slice none 0 0) := (blk_cell k4 1).trans rfl
        have me1 := blk_frozen k4 1
        have m2 : V2.cell? ⟨w.heap.size + 2, 2, none⟩ = some (.int .i64 0) := (blk_cell k4 2).trans rfl
        have me2 := blk_frozen k4 2
        have m3 : V2.cell? ⟨w.heap.size + 2, 3, none⟩ = some (.slice none 0 0) := (blk_cell k4 3).trans rfl
        have me3 := blk_frozen k4 3
        have J1 := Aside0.mk k1
        have J2 := Aside0.mk k2
        have J3 := Aside0.mk k3
        have J4 := Aside0.mk k4
        have J5 := Aside0.mk k5
        have J6 := Aside0.mk k6
        have J7 := Aside0.mk k7
        have J9 := Aside0.mk k9
        have hN := k8
        clear k1 k2 k3 k4 k5 k6 k7 k8 k9
        refine start_ (n := 5) (S := fun W' => (W'.cell? ⟨p, 0, none⟩ = some (.int .i64 x.q) ∧ W'.cell? ⟨p, 1, none⟩ = some (.slice B1 x.ls.length d1) ∧ W'.cell? ⟨p, 2, none⟩ = some (.int .i64 x.k) ∧ W'.cell? ⟨p, 3, none⟩ = some (.slice B3 n n)) ∧ (W'.cell? ⟨q, 0, none⟩ = some (.int .i64 x.q) ∧ W'.cell? ⟨q, 1, none⟩ = some (.slice D1 x.ls.length e1) ∧ W'.cell? ⟨q, 2, none⟩ = some (.int .i64 0) ∧ W'.cell? ⟨q, 3, none⟩ = some (.slice none 0 0))) (ds := [3, 4]) #[false, false, false, false, false] (by kernel_rfl) rfl rfl ⟨⟨v0, v1, v2, v3⟩, ⟨z0, z1, z2, z3⟩⟩ (fun hHeld => ?_)
        refine take_ (i := 0) (N := some 46) (v := ?_) (a' := ?_) #[true, false, false, false, false] rfl rfl (by kernel_rfl) (fun _ _ _ h => h) (Or.inl ⟨by rfl, ?_⟩) hHeld ?_ ?_
        rotate_left
        · rintro w' ⟨⟨s0, s1, s2, s3⟩, ⟨t0, t1, t2, t3⟩⟩
          go_simp
          with_reducible rfl
        rotate_left
        · simp only [Act.put, List.setIfInBounds_toArray, List.set_cons_zero, List.set_cons_succ]
          rfl
        refine take_ (i := 1) (N := some 47) (v := ?_) (a' := ?_) #[true, true, false, false, false] rfl rfl (by kernel_rfl) (fun _ _ _ h => h) (Or.inl ⟨by rfl, ?_⟩) hHeld ?_ ?_
        rotate_left
        · rintro w' ⟨⟨s0, s1, s2, s3⟩, ⟨t0, t1, t2, t3⟩⟩
          go_simp
          with_reducible rfl
        rotate_left
        · simp only [Act.put, List.setIfInBounds_toArray, List.set_cons_zero, List.set_cons_succ]
          rfl
        refine one_ (i := 2) (N := none) #[true, true, true, false, false] rfl rfl (by kernel_rfl) (by decide) (fun K hK => ?_)
        refine skip_ (w1 := put4_ V2.drew (w.heap.size + 1) (.int .i64 x.q) (.slice B1 x.ls.length d1) (.int .i64 x.k) (.slice B3 n n)) (by rfl) rfl (by go_simp; rfl) ?_
        have L1 := put4_off (g := w.heap.size + 1) (a := .int .i64 x.q) (b := .slice B1 x.ls.length d1) (c := .int .i64 x.k) (d := .slice B3 n n) (show V2.drew.heap[p]? = some _ from J1.out) (by omega)
        have L2 := put4_off (g := w.heap.size + 1) (a := .int .i64 x.q) (b := .slice B1 x.ls.length d1) (c := .int .i64 x.k) (d := .slice B3 n n) (show V2.drew.heap[q]? = some _ from J2.out) (by omega)
        have L4 := put4_off (g := w.heap.size + 1) (a := .int .i64 x.q) (b := .slice B1 x.ls.length d1) (c := .int .i64 x.k) (d := .slice B3 n n) (show V2.drew.heap[w.heap.size + 2]? = some _ from J4.out) (by omega)
        refine hK.out _ _ ⟨⟨(blk_cell L1 0).trans rfl, (blk_cell L1 1).trans rfl, (blk_cell L1 2).trans rfl, (blk_cell L1 3).trans rfl⟩, ⟨(blk_cell L2 0).trans rfl, (blk_cell L2 1).trans rfl, (blk_cell L2 2).trans rfl, (blk_cell L2 3).trans rfl⟩⟩ (fun hHeld => ?_)
        clear hK K hHeld L1 L2
        clear v0 v1 v2 v3 z0 z1 z2 z3 b0 be0 b1 be1 b2 be2 b3 be3 m0 me0 m1 me1 m2 me2 m3 me3
        have m0 := (blk_cell L4 0).trans rfl
        have me0 := blk_frozen L4 0
        have m1 := (blk_cell L4 1).trans rfl
        have me1 := blk_frozen L4 1
        have m2 := (blk_cell L4 2).trans rfl
        have me2 := blk_frozen L4 2
        have m3 := (blk_cell L4 3).trans rfl
        have me3 := blk_frozen L4 3
        refine last_ (i := 3) (N := none) #[true, true, true, true, false] rfl rfl (by kernel_rfl) (by decide) (fun K hK => ?_)
        refine skip_ (w1 := put4_ (put4_ V2.drew (w.heap.size + 1) (.int .i64 x.q) (.slice B1 x.ls.length d1) (.int .i64 x.k) (.slice B3 n n)) (w.heap.size + 2) (.int .i64 x.q) (.slice D1 x.ls.length e1) (.int .i64 0) (.slice none 0 0)) (by rfl) rfl (by go_simp; rfl) ?_
        refine hK.out _ _ ?_
        clear hK K
        refine pure_ (i := 4) (N := some 6) (v := ?_) (a' := ?_) #[true, true, true, true, true] rfl rfl (by kernel_rfl) (fun _ _ _ h => h) (Or.inl ⟨by rfl, ?_⟩) ?_ ?_
        rotate_left
        · intro w'
          go_simp
          with_reducible rfl
        rotate_left
        · simp only [Act.put, List.setIfInBounds_toArray, List.set_cons_zero, List.set_cons_succ]
          rfl
        refine done_ (by kernel_rfl) ?_
        go_wp2
        refine bodyPost_ret (results_list (rs := [.cell 4 38, .cell 5 38, .tmp 6]) rfl (by simp) (.cell (w.heap.size + 1) 38 #[.int .i64 x.q, .slice B1 x.ls.length d1, .int .i64 x.k, .slice B3 n n] (0, 0) _ rfl (put4_off (put4_blk J3.out) (by omega)) Tryd.underlying38 rfl (by kernel_rfl) (.cell (w.heap.size + 2) 38 #[.int .i64 x.q, .slice D1 x.ls.length e1, .int .i64 0, .slice none 0 0] (0, 0) _ rfl (put4_blk (put4_off J4.out (by omega))) Tryd.underlying38 rfl (by kernel_rfl) (.tmp .nil)))) rfl ?_
        rw [HR.out]
        obtain ⟨N, hN1, hN2⟩ := hN
        have eB : splitB x n = ⟨x.q, x.ls, 0, []⟩ := by unfold splitB; rw [if_pos HNE.out]
        exact split_end_ hnl (by rw [eB]; exact ⟨rfl, rfl⟩) (by rw [eB]) (by rw [eB]; rfl) (put4_WrI (put4_WrI (Wr.of_R (Kd.R_drew J5.out)) (blk_drew J3.out) (by decide)) (put4_off (blk_drew J4.out) (by omega)) (by decide)) (put4_WrC (put4_WrC (Wr_take_ (Kd.R_drew J6.out) hnl) (blk_drew J3.out) (by decide)) (put4_off (blk_drew J4.out) (by omega)) (by decide))
          (put4_WrI (put4_WrI (Wr.of_R (Kd.R_drew J7.out)) (blk_drew J3.out) (by decide)) (put4_off (blk_drew J4.out) (by omega)) (by decide)) (by rw [eB]; exact Wr_nil _ _ _ _) (apart_blocks_ hN1 hN2) (by intro a b i j h1 h2 _ hj; omega) (put4_below (put4_below (below_drew1 J9.out) (by omega)) (by omega))
      · obtain ⟨g, cap, ec, hgb, _, _⟩ := Kd.R_form hR3'.out (by omega)
        injection ec with ec1 _ ec2
        subst ec1
        subst ec2
        have r1 := cut_from (P := Tryd.prog) 36 71 .i64 Tryd.underlying36 infoC_.choose_spec.1 3 infoC_.choose_spec.2 (some ⟨g, 0, none⟩) x.cs.length d3 (n : Int) (by omega) (by omega)
        rw [Int.toNat_natCast, if_neg (by have := (Kd.R_reads' hR3'.out).2.1; omega)] at r1
        obtain ⟨m, hmm⟩ : ∃ m, x.cs.length - n = m + 1 := ⟨x.cs.length - n - 1, by omega⟩
        have r1' : ∀ W : World, (Instr.slice 36 (.slice (some ⟨g, 0, none⟩) x.cs.length d3) (some (.int .i64 (n : Int))) none none).run Tryd.prog W = .ok (.slice (some ⟨g, n * 3, none⟩) (m + 1) (d3 - n)) W := fun W => by
          rw [r1 W, hmm]
          show Result.ok (Value.slice (some ((⟨g, 0, none⟩ : Addr).add (n * 3))) _ _) W = _
          rw [add_plain]
        clear r1
        have HNE := Aside0.mk hne
        clear hne
        have m_0 : (((m : Int) + 1) == 0) = false := beq_eq_false_iff_ne.mpr (by omega)
        go_upto_region 8 with (fail)
        have hS2 := (((hS.out.move hpq hpz hqz (.slice (some ⟨g, n * 3, none⟩) (m + 1) (d3 - n))).2.1).move hpq hpz hqz (.slice (some ⟨g, 0, none⟩) n n)).1
        dsimp only at hS2
        generalize (V.setCell ⟨q, 3, none⟩ (.slice (some ⟨g, n * 3, none⟩) (m + 1) (d3 - n))).setCell ⟨p, 3, none⟩ (.slice (some ⟨g, 0, none⟩) n n) = V2 at hS2 ⊢
        clear hS g3 g4 g5 g6 g7 g8 r1' r2
        have hS := hS2
        clear hS2
        obtain ⟨k1, k2, k3, k4, ⟨k5, k6, k7, k8⟩, k9⟩ := hS
        have v0 : V2.cell? ⟨p, 0, none⟩ = some _ := (blk_cell k1 0).trans rfl
        have v1 : V2.cell? ⟨p, 1, none⟩ = some _ := (blk_cell k1 1).trans rfl
        have v2 : V2.cell? ⟨p, 2, none⟩ = some _ := (blk_cell k1 2).trans rfl
        have v3 : V2.cell? ⟨p, 3, none⟩ = some _ := (blk_cell k1 3).trans rfl
        have z0 : V2.cell? ⟨q, 0, none⟩ = some _ := (blk_cell k2 0).trans rfl
        have z1 : V2.cell? ⟨q, 1, none⟩ = some _ := (blk_cell k2 1).trans rfl
        have z2 : V2.cell? ⟨q, 2, none⟩ = some _ := (blk_cell k2 2).trans rfl
        have z3 : V2.cell? ⟨q, 3, none⟩ = some _ := (blk_cell k2 3).trans rfl
        have b0 : V2.cell? ⟨w.heap.size + 1, 0, none⟩ = some (.int .i64 0) := (blk_cell k3 0).trans rfl
        have be0 := blk_frozen k3 0
        have b1 : V2.cell? ⟨w.heap.size + 1, 1, none⟩ = some (.slice none 0 0) := (blk_cell k3 1).trans rfl
        have be1 := blk_frozen k3 1
        have b2 : V2.cell? ⟨w.heap.size + 1, 2, none⟩ = some (.int .i64 0) := (blk_cell k3 2).trans rfl
        have be2 := blk_frozen k3 2
        have b3 : V2.cell? ⟨w.heap.size + 1, 3, none⟩ = some (.slice none 0 0) := (blk_cell k3 3).trans rfl
        have be3 := blk_frozen k3 3
        have m0 : V2.cell? ⟨w.heap.size + 2, 0, none⟩ = some (.int .i64 0) := (blk_cell k4 0).trans rfl
        have me0 := blk_frozen k4 0
        have m1 : V2.cell? ⟨w.heap.size + 2, 1, none⟩ = some (.slice none 0 0) := (blk_cell k4 1).trans rfl
        have me1 := blk_frozen k4 1
        have m2 : V2.cell? ⟨w.heap.size + 2, 2, none⟩ = some (.int .i64 0) := (blk_cell k4 2).trans rfl
        have me2 := blk_frozen k4 2
        have m3 : V2.cell? ⟨w.heap.size + 2, 3, none⟩ = some (.slice none 0 0) := (blk_cell k4 3).trans rfl
        have me3 := blk_frozen k4 3
        have J1 := Aside0.mk k1
        have J2 := Aside0.mk k2
        have J3 := Aside0.mk k3
        have J4 := Aside0.mk k4
        have J5 := Aside0.mk k5
        have J6 := Aside0.mk k6
        have J7 := Aside0.mk k7
        have J9 := Aside0.mk k9
        have hN := k8
        clear k1 k2 k3 k4 k5 k6 k7 k8 k9
        refine start_ (n := 5) (S := fun W' => (W'.cell? ⟨p, 0, none⟩ = some (.int .i64 x.q) ∧ W'.cell? ⟨p, 1, none⟩ = some (.slice B1 x.ls.length d1) ∧ W'.cell? ⟨p, 2, none⟩ = some (.int .i64 x.k) ∧ W'.cell? ⟨p, 3, none⟩ = some (.slice (some ⟨g, 0, none⟩) n n)) ∧ (W'.cell? ⟨q, 0, none⟩ = some (.int .i64 x.q) ∧ W'.cell? ⟨q, 1, none⟩ = some (.slice D1 x.ls.length e1) ∧ W'.cell? ⟨q, 2, none⟩ = some (.int .i64 x.k) ∧ W'.cell? ⟨q, 3, none⟩ = some (.slice (some ⟨g, n * 3, none⟩) (m + 1) (d3 - n)))) (ds := [3, 4]) #[false, false, false, false, false] (by kernel_rfl) rfl rfl ⟨⟨v0, v1, v2, v3⟩, ⟨z0, z1, z2, z3⟩⟩ (fun hHeld => ?_)
        refine take_ (i := 0) (N := some 46) (v := ?_) (a' := ?_) #[true, false, false, false, false] rfl rfl (by kernel_rfl) (fun _ _ _ h => h) (Or.inl ⟨by rfl, ?_⟩) hHeld ?_ ?_
        rotate_left
        · rintro w' ⟨⟨s0, s1, s2, s3⟩, ⟨t0, t1, t2, t3⟩⟩
          go_simp
          with_reducible rfl
        rotate_left
        · simp only [Act.put, List.setIfInBounds_toArray, List.set_cons_zero, List.set_cons_succ]
          rfl
        refine take_ (i := 1) (N := some 47) (v := ?_) (a' := ?_) #[true, true, false, false, false] rfl rfl (by kernel_rfl) (fun _ _ _ h => h) (Or.inl ⟨by rfl, ?_⟩) hHeld ?_ ?_
        rotate_left
        · rintro w' ⟨⟨s0, s1, s2, s3⟩, ⟨t0, t1, t2, t3⟩⟩
          go_simp
          with_reducible rfl
        rotate_left
        · simp only [Act.put, List.setIfInBounds_toArray, List.set_cons_zero, List.set_cons_succ]
          rfl
        refine one_ (i := 2) (N := none) #[true, true, true, false, false] rfl rfl (by kernel_rfl) (by decide) (fun K hK => ?_)
        refine skip_ (w1 := put4_ V2.drew (w.heap.size + 1) (.int .i64 x.q) (.slice B1 x.ls.length d1) (.int .i64 x.k) (.slice (some ⟨g, 0, none⟩) n n)) (by rfl) rfl (by go_simp; rfl) ?_
        have L1 := put4_off (g := w.heap.size + 1) (a := .int .i64 x.q) (b := .slice B1 x.ls.length d1) (c := .int .i64 x.k) (d := .slice (some ⟨g, 0, none⟩) n n) (show V2.drew.heap[p]? = some _ from J1.out) (by omega)
        have L2 := put4_off (g := w.heap.size + 1) (a := .int .i64 x.q) (b := .slice B1 x.ls.length d1) (c := .int .i64 x.k) (d := .slice (some ⟨g, 0, none⟩) n n) (show V2.drew.heap[q]? = some _ from J2.out) (by omega)
        have L4 := put4_off (g := w.heap.size + 1) (a := .int .i64 x.q) (b := .slice B1 x.ls.length d1) (c := .int .i64 x.k) (d := .slice (some ⟨g, 0, none⟩) n n) (show V2.drew.heap[w.heap.size + 2]? = some _ from J4.out) (by omega)
        refine hK.out _ _ ⟨⟨(blk_cell L1 0).trans rfl, (blk_cell L1 1).trans rfl, (blk_cell L1 2).trans rfl, (blk_cell L1 3).trans rfl⟩, ⟨(blk_cell L2 0).trans rfl, (blk_cell L2 1).trans rfl, (blk_cell L2 2).trans rfl, (blk_cell L2 3).trans rfl⟩⟩ (fun hHeld => ?_)
        clear hK K hHeld L1 L2
        clear v0 v1 v2 v3 z0 z1 z2 z3 b0 be0 b1 be1 b2 be2 b3 be3 m0 me0 m1 me1 m2 me2 m3 me3
        have m0 := (blk_cell L4 0).trans rfl
        have me0 := blk_frozen L4 0
        have m1 := (blk_cell L4 1).trans rfl
        have me1 := blk_frozen L4 1
        have m2 := (blk_cell L4 2).trans rfl
        have me2 := blk_frozen L4 2
        have m3 := (blk_cell L4 3).trans rfl
        have me3 := blk_frozen L4 3
        refine last_ (i := 3) (N := none) #[true, true, true, true, false] rfl rfl (by kernel_rfl) (by decide) (fun K hK => ?_)
        refine skip_ (w1 := put4_ (put4_ V2.drew (w.heap.size + 1) (.int .i64 x.q) (.slice B1 x.ls.length d1) (.int .i64 x.k) (.slice (some ⟨g, 0, none⟩) n n)) (w.heap.size + 2) (.int .i64 x.q) (.slice D1 x.ls.length e1) (.int .i64 x.k) (.slice (some ⟨g, n * 3, none⟩) (m + 1) (d3 - n))) (by rfl) rfl (by go_simp; rfl) ?_
        refine hK.out _ _ ?_
        clear hK K
        refine pure_ (i := 4) (N := some 6) (v := ?_) (a' := ?_) #[true, true, true, true, true] rfl rfl (by kernel_rfl) (fun _ _ _ h => h) (Or.inl ⟨by rfl, ?_⟩) ?_ ?_
        rotate_left
        · intro w'
          go_simp
          with_reducible rfl
        rotate_left
        · simp only [Act.put, List.setIfInBounds_toArray, List.set_cons_zero, List.set_cons_succ]
          rfl
        refine done_ (by kernel_rfl) ?_
        go_wp2
        refine bodyPost_ret (results_list (rs := [.cell 4 38, .cell 5 38, .tmp 6]) rfl (by simp) (.cell (w.heap.size + 1) 38 #[.int .i64 x.q, .slice B1 x.ls.length d1, .int .i64 x.k, .slice (some ⟨g, 0, none⟩) n n] (0, 0) _ rfl (put4_off (put4_blk J3.out) (by omega)) Tryd.underlying38 rfl (by kernel_rfl) (.cell (w.heap.size + 2) 38 #[.int .i64 x.q, .slice D1 x.ls.length e1, .int .i64 x.k, .slice (some ⟨g, n * 3, none⟩) (m + 1) (d3 - n)] (0, 0) _ rfl (put4_blk (put4_off J4.out (by omega))) Tryd.underlying38 rfl (by kernel_rfl) (.tmp .nil)))) rfl ?_
        rw [HR.out]
        obtain ⟨N, hN1, hN2⟩ := hN
        have eB : splitB x n = { x with cs := x.cs.drop n } := by unfold splitB; rw [if_neg HNE.out]
        have wd := Wr_drop_ (Kd.R_drew J6.out) (show n < x.cs.length by have := HNE.out; omega)
        rw [hmm] at wd
        exact split_end_ hnl (by rw [eB]; exact ⟨rfl, rfl⟩) (by rw [eB]) (by rw [eB]; show (x.cs.drop n).length = _; rw [List.length_drop, hmm]) (put4_WrI (put4_WrI (Wr.of_R (Kd.R_drew J5.out)) (blk_drew J3.out) (by decide)) (put4_off (blk_drew J4.out) (by omega)) (by decide)) (put4_WrC (put4_WrC (Wr_take_ (Kd.R_drew J6.out) hnl) (blk_drew J3.out) (by decide)) (put4_off (blk_drew J4.out) (by omega)) (by decide))
          (put4_WrI (put4_WrI (Wr.of_R (Kd.R_drew J7.out)) (blk_drew J3.out) (by decide)) (put4_off (blk_drew J4.out) (by omega)) (by decide)) (by rw [eB]; exact put4_WrC (put4_WrC wd (blk_drew J3.out) (by decide)) (put4_off (blk_drew J4.out) (by omega)) (by decide)) (apart_blocks_ hN1 hN2)
          (by
            intro a b i j ea eb hi hj e
            cases ea
            cases eb
            have e2 := congrArg Addr.off e
            rw [add_plain] at e2
            have e3 : ((⟨g, n * 3, none⟩ : Addr).add j).off = n * 3 + j := by unfold Addr.add; split <;> simp_all
            rw [e3] at e2
            dsimp only at e2
            omega) (put4_below (put4_below (below_drew1 J9.out) (by omega)) (by omega))
end Go.Proofs.YtgdpknmffohhaaaDoor.Pl
