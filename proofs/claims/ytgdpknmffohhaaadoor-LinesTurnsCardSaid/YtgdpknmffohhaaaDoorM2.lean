/- Printed texts, and given ones, of the seat's functions, in one file. -/
import Derived.Test.YtgdpknmffohhaaaDoorM0
import Derived.Test.YtgdpknmffohhaaaDoorM1
namespace Go.Proofs.YtgdpknmffohhaaaDoor.Pl
open Go.RowKit Go.Proofs.YtgdpknmffohhaaaDoorW.PrintWords Go.Proofs.YtgdpknmffohhaaaDoorW.PrintLast Go.Proofs.YtgdpknmffohhaaaDoorW.PrintMore
attribute [local go_sem] max2_int min2_int max_two min_two max_three min_three max_four min_four   -- for this text's walks alone
set_option linter.unusedVariables false
set_option linter.unusedSimpArgs false

/-! ### quillworkref06_Same: function 32 -/
def quillworkref06_Same.f (k : Nat) (a0_0 : Int) (l0_1 : List Int) (a0_2 : Int) (l0_3 : List (S71)) (a1_0 : Int) (l1_1 : List Int) (a1_2 : Int) (l1_3 : List (S71)) : Option (Bool) := if a0_0 = a1_0 then ((quillworkref06_ints.f k l0_1 l1_1).bind fun t430 => (if t430 = true then (if a0_2 = a1_2 then ((quillworkref05_Same.f k l0_3 l1_3).bind fun t431 => (some t431)) else (some false)) else (some false))) else (some false)
set_option maxHeartbeats 8000000 in
set_option maxRecDepth 100000 in
theorem quillworkref06_Same.calls (k : Nat) (a0_0 : Int) (A0_1 : Option Addr) (c0_1 : Nat) (l0_1 : List Int) (a0_2 : Int) (A0_3 : Option Addr) (c0_3 : Nat) (l0_3 : List (S71)) (a1_0 : Int) (A1_1 : Option Addr) (c1_1 : Nat) (l1_1 : List Int) (a1_2 : Int) (A1_3 : Option Addr) (c1_3 : Nat) (l1_3 : List (S71)) (r : Bool) (w : World) (hr0_1 : Kd.C (Kd.int .i64) w A0_1 l0_1.length l0_1) (hc0_1 : l0_1.length ≤ c0_1) (hr0_3 : Kd.C k71 w A0_3 l0_3.length l0_3) (hc0_3 : l0_3.length ≤ c0_3) (hr1_1 : Kd.C (Kd.int .i64) w A1_1 l1_1.length l1_1) (hc1_1 : l1_1.length ≤ c1_1) (hr1_3 : Kd.C k71 w A1_3 l1_3.length l1_3) (hc1_3 : l1_3.length ≤ c1_3) (h : quillworkref06_Same.f k a0_0 l0_1 a0_2 l0_3 a1_0 l1_1 a1_2 l1_3 = some r) :
    Calls Tryd.prog 32 #[.agg #[.int .i64 a0_0, .slice A0_1 l0_1.length c0_1, .int .i64 a0_2, .slice A0_3 l0_3.length c0_3], .agg #[.int .i64 a1_0, .slice A1_1 l1_1.length c1_1, .int .i64 a1_2, .slice A1_3 l1_3.length c1_3]] w fun e w' => e = .returned (.bool r) ∧ Below w.heap.size w w' := by
  have hu38 := Tryd.underlying38
  have HR0_1 := Aside0.mk hr0_1
  have HC0_1 := Aside0.mk hc0_1
  clear hr0_1 hc0_1
  have HR0_3 := Aside0.mk hr0_3
  have HC0_3 := Aside0.mk hc0_3
  clear hr0_3 hc0_3
  have HR1_1 := Aside0.mk hr1_1
  have HC1_1 := Aside0.mk hc1_1
  clear hr1_1 hc1_1
  have HR1_3 := Aside0.mk hr1_3
  have HC1_3 := Aside0.mk hc1_3
  clear hr1_3 hc1_3
  have HB := Aside0.mk (Below.refl w.heap.size w)
  have H : (if a0_0 = a1_0 then ((quillworkref06_ints.f k l0_1 l1_1).bind fun t430 => (if t430 = true then (if a0_2 = a1_2 then ((quillworkref05_Same.f k l0_3 l1_3).bind fun t431 => (some t431)) else (some false)) else (some false))) else (some false)) = some r := h
  clear h
  by_cases c3 : a0_0 = a1_0
  · rw [if_pos c3] at H
    have c3b0 : (a0_0 == a1_0) = true := beq_iff_eq.mpr c3
    have c3b1 : (a0_0 != a1_0) = false := bne_eq_false_iff_eq.mpr c3
    clear c3
    replace H := Option.bind_eq_some_iff.mp H
    obtain ⟨t430, A40, H⟩ := H
    replace H : (if t430 = true then (if a0_2 = a1_2 then ((quillworkref05_Same.f k l0_3 l1_3).bind fun t431 => (some t431)) else (some false)) else (some false)) = some r := H
    have A4 := Aside0.mk A40
    clear A40
    by_cases c5 : t430 = true
    · subst c5
      have H1 : (if a0_2 = a1_2 then ((quillworkref05_Same.f k l0_3 l1_3).bind fun t431 => (some t431)) else (some false)) = some r := by rw [if_pos rfl] at H; exact H
      clear H
      have H := H1
      clear H1
      by_cases c6 : a0_2 = a1_2
      · rw [if_pos c6] at H
        have c6b0 : (a0_2 == a1_2) = true := beq_iff_eq.mpr c6
        have c6b1 : (a0_2 != a1_2) = false := bne_eq_false_iff_eq.mpr c6
        clear c6
        replace H := Option.bind_eq_some_iff.mp H
        obtain ⟨t431, A70, H⟩ := H
        replace H : (some t431) = some r := H
        have A7 := Aside0.mk A70
        clear A70
        obtain rfl := Option.some.inj H
        go_enter Tryd.func32, Tryd.ntmps32
        go_wp2_with (first | ((with_reducible refine gate_dst (N := 2) rfl ?_); refine box_event ?hg (N := 2) ?hd (cs := #[.int .i64 a0_0, .slice A0_1 l0_1.length c0_1, .int .i64 a0_2, .slice A0_3 l0_3.length c0_3]) (t := 38) ?hr ?_; (case hd => rfl); (case hg => rfl); (case hr => first | (go_simp; done) | (go_simp; rfl)); intro gb428 hg w8 hbox hb; have n0_ := Aside0.mk (below_step (by repeat (first | (with_reducible first | exact HB.out | apply below_alloc | apply pw_below_drewN | apply below_drew1) | exact HB.out)) hb); have n1_ := Aside0.mk (hbox); have n2_ := Aside0.mk ((by rw [hg]; exact (below_size (by repeat (first | (with_reducible first | exact HB.out | apply below_alloc | apply pw_below_drewN | apply below_drew1) | exact HB.out))) : w.heap.size ≤ gb428)); have n3_ := Aside0.mk ((by rw [hg]; exact (below_size (by repeat (first | (with_reducible first | exact HB.out | apply below_alloc | apply pw_below_drewN | apply below_drew1) | exact HB.out))) : w.heap.size ≤ gb428)); clear HB; have HB := n0_; have BK428 := n1_; have GW428 := n2_; have GE428 := n3_; clear n0_ n1_ n2_ n3_; clear hb hbox hg) | ((with_reducible refine gate_dst (N := 3) rfl ?_); refine box_event ?hg (N := 3) ?hd (cs := #[.int .i64 a1_0, .slice A1_1 l1_1.length c1_1, .int .i64 a1_2, .slice A1_3 l1_3.length c1_3]) (t := 38) ?hr ?_; (case hd => rfl); (case hg => rfl); (case hr => first | (go_simp; done) | (go_simp; rfl)); intro gb429 hg w9 hbox hb; have n0_ := Aside0.mk (blk_below (g := gb428) (o := .cells #[.int .i64 a0_0, .slice A0_1 l0_1.length c0_1, .int .i64 a0_2, .slice A0_3 l0_3.length c0_3] 38 (0, 0)) (by (with_reducible repeat (first | refine blk_drewN ?_ _ | refine blk_drew ?_ | refine blk_alloc ?_ _)); exact BK428.out) hb); have n1_ := Aside0.mk (below_step (by repeat (first | (with_reducible first | exact HB.out | apply below_alloc | apply pw_below_drewN | apply below_drew1 | refine below_set ?_ GE428.out) | exact HB.out)) hb); have n2_ := Aside0.mk (hbox); have n3_ := Aside0.mk ((by rw [hg]; exact (below_size (by repeat (first | (with_reducible first | exact HB.out | apply below_alloc | apply pw_below_drewN | apply below_drew1 | refine below_set ?_ GE428.out) | exact HB.out))) : w.heap.size ≤ gb429)); have n4_ := Aside0.mk ((by rw [hg]; exact (below_size (by repeat (first | (with_reducible first | exact HB.out | apply below_alloc | apply pw_below_drewN | apply below_drew1 | refine below_set ?_ GE428.out) | exact HB.out))) : w.heap.size ≤ gb429)); have n5_ := Aside0.mk ((by rw [hg]; exact Nat.ne_of_lt (blk_lt (g := gb428) (o := .cells #[.int .i64 a0_0, .slice A0_1 l0_1.length c0_1, .int .i64 a0_2, .slice A0_3 l0_3.length c0_3] 38 (0, 0)) (by (with_reducible repeat (first | refine blk_drewN ?_ _ | refine blk_drew ?_ | refine blk_alloc ?_ _)); exact BK428.out)) : gb428 ≠ gb429)); have n6_ := Aside0.mk ((by rw [hg]; exact Nat.ne_of_gt (blk_lt (g := gb428) (o := .cells #[.int .i64 a0_0, .slice A0_1 l0_1.length c0_1, .int .i64 a0_2, .slice A0_3 l0_3.length c0_3] 38 (0, 0)) (by (with_reducible repeat (first | refine blk_drewN ?_ _ | refine blk_drew ?_ | refine blk_alloc ?_ _)); exact BK428.out)) : gb429 ≠ gb428)); clear BK428; clear HB; have BK428 := n0_; have HB := n1_; have BK429 := n2_; have GW429 := n3_; have GE429 := n4_; have NB428_429 := n5_; have NB429_428 := n6_; clear n0_ n1_ n2_ n3_ n4_ n5_ n6_; clear hb hbox hg; have hnb10 := NB428_429.out; have hnc10 := NB429_428.out; have hcz11_0 : w9.cell? ⟨gb428, 0, none⟩ = some (.int .i64 a0_0) := (blk_cell BK428.out 0).trans rfl; have hcz11_1 : w9.cell? ⟨gb428, 1, none⟩ = some (.slice A0_1 l0_1.length c0_1) := (blk_cell BK428.out 1).trans rfl; have hcz11_2 : w9.cell? ⟨gb428, 2, none⟩ = some (.int .i64 a0_2) := (blk_cell BK428.out 2).trans rfl; have hcz11_3 : w9.cell? ⟨gb428, 3, none⟩ = some (.slice A0_3 l0_3.length c0_3) := (blk_cell BK428.out 3).trans rfl; have hfz11_0 := blk_frozen BK428.out 0; have hfz11_1 := blk_frozen BK428.out 1; have hfz11_2 := blk_frozen BK428.out 2; have hfz11_3 := blk_frozen BK428.out 3; have hcz12_0 : w9.cell? ⟨gb429, 0, none⟩ = some (.int .i64 a1_0) := (blk_cell BK429.out 0).trans rfl; have hcz12_1 : w9.cell? ⟨gb429, 1, none⟩ = some (.slice A1_1 l1_1.length c1_1) := (blk_cell BK429.out 1).trans rfl; have hcz12_2 : w9.cell? ⟨gb429, 2, none⟩ = some (.int .i64 a1_2) := (blk_cell BK429.out 2).trans rfl; have hcz12_3 : w9.cell? ⟨gb429, 3, none⟩ = some (.slice A1_3 l1_3.length c1_3) := (blk_cell BK429.out 3).trans rfl; have hfz12_0 := blk_frozen BK429.out 0; have hfz12_1 := blk_frozen BK429.out 1; have hfz12_2 := blk_frozen BK429.out 2; have hfz12_3 := blk_frozen BK429.out 3) | (go_at_call 80; (with_reducible refine (quillworkref06_ints.calls k _ _ l0_1 _ _ l1_1 true _ ?side1 ?side2 ?side3 ?side4 A4.out).mono ?_); (case side1 => repeat (first | exact (Kd.C_below HR0_1.out HB.out) | (with_reducible refine Kd.C_alloc ?_ _) | (with_reducible refine Kd.C_drewN ?_ _) | (with_reducible refine Kd.C_drew ?_))); (case side2 => exact HC0_1.out); (case side3 => repeat (first | exact (Kd.C_below HR1_1.out HB.out) | (with_reducible refine Kd.C_alloc ?_ _) | (with_reducible refine Kd.C_drewN ?_ _) | (with_reducible refine Kd.C_drew ?_))); (case side4 => exact HC1_1.out); rintro e w' ⟨rfl, ⟨nd, rfl⟩⟩) | (go_at_call 36; (with_reducible refine (quillworkref05_Same.calls k _ _ l0_3 _ _ l1_3 t431 _ ?side1 ?side2 ?side3 ?side4 A7.out).mono ?_); (case side1 => repeat (first | exact (Kd.C_below HR0_3.out (by repeat (first | (with_reducible first | exact HB.out | apply below_alloc | apply pw_below_drewN | apply below_drew1 | refine below_set ?_ GE428.out | refine below_set ?_ GE429.out) | exact HB.out))) | (with_reducible refine Kd.C_alloc ?_ _) | (with_reducible refine Kd.C_drewN ?_ _) | (with_reducible refine Kd.C_drew ?_))); (case side2 => exact HC0_3.out); (case side3 => repeat (first | exact (Kd.C_below HR1_3.out (by repeat (first | (with_reducible first | exact HB.out | apply below_alloc | apply pw_below_drewN | apply below_drew1 | refine below_set ?_ GE428.out | refine below_set ?_ GE429.out) | exact HB.out))) | (with_reducible refine Kd.C_alloc ?_ _) | (with_reducible refine Kd.C_drewN ?_ _) | (with_reducible refine Kd.C_drew ?_))); (case side4 => exact HC1_3.out); rintro e w' ⟨rfl, ⟨nd, rfl⟩⟩))
        go_ret
        exact ⟨by first | rfl | (simp [errW_none, errW_some] <;> rfl) | (simp [*, errW_none, errW_some] <;> rfl), by repeat (first | (with_reducible first | exact HB.out | apply below_alloc | apply pw_below_drewN | apply below_drew1 | refine below_set ?_ GE428.out | refine below_set ?_ GE429.out) | exact HB.out)⟩
      · rw [if_neg c6] at H
        have c6b0 : (a0_2 == a1_2) = false := beq_eq_false_iff_ne.mpr c6
        have c6b1 : (a0_2 != a1_2) = true := bne_iff_ne.mpr c6
        obtain rfl := Option.some.inj H
        go_enter Tryd.func32, Tryd.ntmps32
        go_wp2_with (first | ((with_reducible refine gate_dst (N := 2) rfl ?_); refine box_event ?hg (N := 2) ?hd (cs := #[.int .i64 a0_0, .slice A0_1 l0_1.length c0_1, .int .i64 a0_2, .slice A0_3 l0_3.length c0_3]) (t := 38) ?hr ?_; (case hd => rfl); (case hg => rfl); (case hr => first | (go_simp; done) | (go_simp; rfl)); intro gb428 hg w13 hbox hb; have n0_ := Aside0.mk (below_step (by repeat (first | (with_reducible first | exact HB.out | apply below_alloc | apply pw_below_drewN | apply below_drew1) | exact HB.out)) hb); have n1_ := Aside0.mk (hbox); have n2_ := Aside0.mk ((by rw [hg]; exact (below_size (by repeat (first | (with_reducible first | exact HB.out | apply below_alloc | apply pw_below_drewN | apply below_drew1) | exact HB.out))) : w.heap.size ≤ gb428)); have n3_ := Aside0.mk ((by rw [hg]; exact (below_size (by repeat (first | (with_reducible first | exact HB.out | apply below_alloc | apply pw_below_drewN | apply below_drew1) | exact HB.out))) : w.heap.size ≤ gb428)); clear HB; have HB := n0_; have BK428 := n1_; have GW428 := n2_; have GE428 := n3_; clear n0_ n1_ n2_ n3_; clear hb hbox hg) | ((with_reducible refine gate_dst (N := 3) rfl ?_); refine box_event ?hg (N := 3) ?hd (cs := #[.int .i64 a1_0, .slice A1_1 l1_1.length c1_1, .int .i64 a1_2, .slice A1_3 l1_3.length c1_3]) (t := 38) ?hr ?_; (case hd => rfl); (case hg => rfl); (case hr => first | (go_simp; done) | (go_simp; rfl)); intro gb429 hg w14 hbox hb; have n0_ := Aside0.mk (blk_below (g := gb428) (o := .cells #[.int .i64 a0_0, .slice A0_1 l0_1.length c0_1, .int .i64 a0_2, .slice A0_3 l0_3.length c0_3] 38 (0, 0)) (by (with_reducible repeat (first | refine blk_drewN ?_ _ | refine blk_drew ?_ | refine blk_alloc ?_ _)); exact BK428.out) hb); have n1_ := Aside0.mk (below_step (by repeat (first | (with_reducible first | exact HB.out | apply below_alloc | apply pw_below_drewN | apply below_drew1 | refine below_set ?_ GE428.out) | exact HB.out)) hb); have n2_ := Aside0.mk (hbox); have n3_ := Aside0.mk ((by rw [hg]; exact (below_size (by repeat (first | (with_reducible first | exact HB.out | apply below_alloc | apply pw_below_drewN | apply below_drew1 | refine below_set ?_ GE428.out) | exact HB.out))) : w.heap.size ≤ gb429)); have n4_ := Aside0.mk ((by rw [hg]; exact (below_size (by repeat (first | (with_reducible first | exact HB.out | apply below_alloc | apply pw_below_drewN | apply below_drew1 | refine below_set ?_ GE428.out) | exact HB.out))) : w.heap.size ≤ gb429)); have n5_ := Aside0.mk ((by rw [hg]; exact Nat.ne_of_lt (blk_lt (g := gb428) (o := .cells #[.int .i64 a0_0, .slice A0_1 l0_1.length c0_1, .int .i64 a0_2, .slice A0_3 l0_3.length c0_3] 38 (0, 0)) (by (with_reducible repeat (first | refine blk_drewN ?_ _ | refine blk_drew ?_ | refine blk_alloc ?_ _)); exact BK428.out)) : gb428 ≠ gb429)); have n6_ := Aside0.mk ((by rw [hg]; exact Nat.ne_of_gt (blk_lt (g := gb428) (o := .cells #[.int .i64 a0_0, .slice A0_1 l0_1.length c0_1, .int .i64 a0_2, .slice A0_3 l0_3.length c0_3] 38 (0, 0)) (by (with_reducible repeat (first | refine blk_drewN ?_ _ | refine blk_drew ?_ | refine blk_alloc ?_ _)); exact BK428.out)) : gb429 ≠ gb428)); clear BK428; clear HB; have BK428 := n0_; have HB := n1_; have BK429 := n2_; have GW429 := n3_; have GE429 := n4_; have NB428_429 := n5_; have NB429_428 := n6_; clear n0_ n1_ n2_ n3_ n4_ n5_ n6_; clear hb hbox hg; have hnb15 := NB428_429.out; have hnc15 := NB429_428.out; have hcz16_0 : w14.cell? ⟨gb428, 0, none⟩ = some (.int .i64 a0_0) := (blk_cell BK428.out 0).trans rfl; have hcz16_1 : w14.cell? ⟨gb428, 1, none⟩ = some (.slice A0_1 l0_1.length c0_1) := (blk_cell BK428.out 1).trans rfl; have hcz16_2 : w14.cell? ⟨gb428, 2, none⟩ = some (.int .i64 a0_2) := (blk_cell BK428.out 2).trans rfl; have hcz16_3 : w14.cell? ⟨gb428, 3, none⟩ = some (.slice A0_3 l0_3.length c0_3) := (blk_cell BK428.out 3).trans rfl; have hfz16_0 := blk_frozen BK428.out 0; have hfz16_1 := blk_frozen BK428.out 1; have hfz16_2 := blk_frozen BK428.out 2; have hfz16_3 := blk_frozen BK428.out 3; have hcz17_0 : w14.cell? ⟨gb429, 0, none⟩ = some (.int .i64 a1_0) := (blk_cell BK429.out 0).trans rfl; have hcz17_1 : w14.cell? ⟨gb429, 1, none⟩ = some (.slice A1_1 l1_1.length c1_1) := (blk_cell BK429.out 1).trans rfl; have hcz17_2 : w14.cell? ⟨gb429, 2, none⟩ = some (.int .i64 a1_2) := (blk_cell BK429.out 2).trans rfl; have hcz17_3 : w14.cell? ⟨gb429, 3, none⟩ = some (.slice A1_3 l1_3.length c1_3) := (blk_cell BK429.out 3).trans rfl; have hfz17_0 := blk_frozen BK429.out 0; have hfz17_1 := blk_frozen BK429.out 1; have hfz17_2 := blk_frozen BK429.out 2; have hfz17_3 := blk_frozen BK429.out 3) | (go_at_call 80; (with_reducible refine (quillworkref06_ints.calls k _ _ l0_1 _ _ l1_1 true _ ?side1 ?side2 ?side3 ?side4 A4.out).mono ?_); (case side1 => repeat (first | exact (Kd.C_below HR0_1.out HB.out) | (with_reducible refine Kd.C_alloc ?_ _) | (with_reducible refine Kd.C_drewN ?_ _) | (with_reducible refine Kd.C_drew ?_))); (case side2 => exact HC0_1.out); (case side3 => repeat (first | exact (Kd.C_below HR1_1.out HB.out) | (with_reducible refine Kd.C_alloc ?_ _) | (with_reducible refine Kd.C_drewN ?_ _) | (with_reducible refine Kd.C_drew ?_))); (case side4 => exact HC1_1.out); rintro e w' ⟨rfl, ⟨nd, rfl⟩⟩))
        go_ret
        exact ⟨by first | rfl | (simp [errW_none, errW_some] <;> rfl) | (simp [*, errW_none, errW_some] <;> rfl), by repeat (first | (with_reducible first | exact HB.out | apply below_alloc | apply pw_below_drewN | apply below_drew1 | refine below_set ?_ GE428.out | refine below_set ?_ GE429.out) | exact HB.out)⟩
    · replace c5 := Bool.eq_false_iff.mpr c5
      subst c5
      have H1 : (some false) = some r := by rw [if_neg (show ¬ (false = true) by decide)] at H; exact H
      clear H
      have H := H1
      clear H1
      obtain rfl := Option.some.inj H
      go_enter Tryd.func32, Tryd.ntmps32
      go_wp2_with (first | ((with_reducible refine gate_dst (N := 2) rfl ?_); refine box_event ?hg (N := 2) ?hd (cs := #[.int .i64 a0_0, .slice A0_1 l0_1.length c0_1, .int .i64 a0_2, .slice A0_3 l0_3.length c0_3]) (t := 38) ?hr ?_; (case hd => rfl); (case hg => rfl); (case hr => first | (go_simp; done) | (go_simp; rfl)); intro gb428 hg w18 hbox hb; have n0_ := Aside0.mk (below_step (by repeat (first | (with_reducible first | exact HB.out | apply below_alloc | apply pw_below_drewN | apply below_drew1) | exact HB.out)) hb); have n1_ := Aside0.mk (hbox); have n2_ := Aside0.mk ((by rw [hg]; exact (below_size (by repeat (first | (with_reducible first | exact HB.out | apply below_alloc | apply pw_below_drewN | apply below_drew1) | exact HB.out))) : w.heap.size ≤ gb428)); have n3_ := Aside0.mk ((by rw [hg]; exact (below_size (by repeat (first | (with_reducible first | exact HB.out | apply below_alloc | apply pw_below_drewN | apply below_drew1) | exact HB.out))) : w.heap.size ≤ gb428)); clear HB; have HB := n0_; have BK428 := n1_; have GW428 := n2_; have GE428 := n3_; clear n0_ n1_ n2_ n3_; clear hb hbox hg) | ((with_reducible refine gate_dst (N := 3) rfl ?_); refine box_event ?hg (N := 3) ?hd (cs := #[.int .i64 a1_0, .slice A1_1 l1_1.length c1_1, .int .i64 a1_2, .slice A1_3 l1_3.length c1_3]) (t := 38) ?hr ?_; (case hd => rfl); (case hg => rfl); (case hr => first | (go_simp; done) | (go_simp; rfl)); intro gb429 hg w19 hbox hb; have n0_ := Aside0.mk (blk_below (g := gb428) (o := .cells #[.int .i64 a0_0, .slice A0_1 l0_1.length c0_1, .int .i64 a0_2, .slice A0_3 l0_3.length c0_3] 38 (0, 0)) (by (with_reducible repeat (first | refine blk_drewN ?_ _ | refine blk_drew ?_ | refine blk_alloc ?_ _)); exact BK428.out) hb); have n1_ := Aside0.mk (below_step (by repeat (first | (with_reducible first | exact HB.out | apply below_alloc | apply pw_below_drewN | apply below_drew1 | refine below_set ?_ GE428.out) | exact HB.out)) hb); have n2_ := Aside0.mk (hbox); have n3_ := Aside0.mk ((by rw [hg]; exact (below_size (by repeat (first | (with_reducible first | exact HB.out | apply below_alloc | apply pw_below_drewN | apply below_drew1 | refine below_set ?_ GE428.out) | exact HB.out))) : w.heap.size ≤ gb429)); have n4_ := Aside0.mk ((by rw [hg]; exact (below_size (by repeat (first | (with_reducible first | exact HB.out | apply below_alloc | apply pw_below_drewN | apply below_drew1 | refine below_set ?_ GE428.out) | exact HB.out))) : w.heap.size ≤ gb429)); have n5_ := Aside0.mk ((by rw [hg]; exact Nat.ne_of_lt (blk_lt (g := gb428) (o := .cells #[.int .i64 a0_0, .slice A0_1 l0_1.length c0_1, .int .i64 a0_2, .slice A0_3 l0_3.length c0_3] 38 (0, 0)) (by (with_reducible repeat (first | refine blk_drewN ?_ _ | refine blk_drew ?_ | refine blk_alloc ?_ _)); exact BK428.out)) : gb428 ≠ gb429)); have n6_ := Aside0.mk ((by rw [hg]; exact Nat.ne_of_gt (blk_lt (g := gb428) (o := .cells #[.int .i64 a0_0, .slice A0_1 l0_1.length c0_1, .int .i64 a0_2, .slice A0_3 l0_3.length c0_3] 38 (0, 0)) (by (with_reducible repeat (first | refine blk_drewN ?_ _ | refine blk_drew ?_ | refine blk_alloc ?_ _)); exact BK428.out)) : gb429 ≠ gb428)); clear BK428; clear HB; have BK428 := n0_; have HB := n1_; have BK429 := n2_; have GW429 := n3_; have GE429 := n4_; have NB428_429 := n5_; have NB429_428 := n6_; clear n0_ n1_ n2_ n3_ n4_ n5_ n6_; clear hb hbox hg; have hnb20 := NB428_429.out; have hnc20 := NB429_428.out; have hcz21_0 : w19.cell? ⟨gb428, 0, none⟩ = some (.int .i64 a0_0) := (blk_cell BK428.out 0).trans rfl; have hcz21_1 : w19.cell? ⟨gb428, 1, none⟩ = some (.slice A0_1 l0_1.length c0_1) := (blk_cell BK428.out 1).trans rfl; have hcz21_2 : w19.cell? ⟨gb428, 2, none⟩ = some (.int .i64 a0_2) := (blk_cell BK428.out 2).trans rfl; have hcz21_3 : w19.cell? ⟨gb428, 3, none⟩ = some (.slice A0_3 l0_3.length c0_3) := (blk_cell BK428.out 3).trans rfl; have hfz21_0 := blk_frozen BK428.out 0; have hfz21_1 := blk_frozen BK428.out 1; have hfz21_2 := blk_frozen BK428.out 2; have hfz21_3 := blk_frozen BK428.out 3; have hcz22_0 : w19.cell? ⟨gb429, 0, none⟩ = some (.int .i64 a1_0) := (blk_cell BK429.out 0).trans rfl; have hcz22_1 : w19.cell? ⟨gb429, 1, none⟩ = some (.slice A1_1 l1_1.length c1_1) := (blk_cell BK429.out 1).trans rfl; have hcz22_2 : w19.cell? ⟨gb429, 2, none⟩ = some (.int .i64 a1_2) := (blk_cell BK429.out 2).trans rfl; have hcz22_3 : w19.cell? ⟨gb429, 3, none⟩ = some (.slice A1_3 l1_3.length c1_3) := (blk_cell BK429.out 3).trans rfl; have hfz22_0 := blk_frozen BK429.out 0; have hfz22_1 := blk_frozen BK429.out 1; have hfz22_2 := blk_frozen BK429.out 2; have hfz22_3 := blk_frozen BK429.out 3) | (go_at_call 80; (with_reducible refine (quillworkref06_ints.calls k _ _ l0_1 _ _ l1_1 false _ ?side1 ?side2 ?side3 ?side4 A4.out).mono ?_); (case side1 => repeat (first | exact (Kd.C_below HR0_1.out HB.out) | (with_reducible refine Kd.C_alloc ?_ _) | (with_reducible refine Kd.C_drewN ?_ _) | (with_reducible refine Kd.C_drew ?_))); (case side2 => exact HC0_1.out); (case side3 => repeat (first | exact (Kd.C_below HR1_1.out HB.out) | (with_reducible refine Kd.C_alloc ?_ _) | (with_reducible refine Kd.C_drewN ?_ _) | (with_reducible refine Kd.C_drew ?_))); (case side4 => exact HC1_1.out); rintro e w' ⟨rfl, ⟨nd, rfl⟩⟩))
      go_ret
      exact ⟨by first | rfl | (simp [errW_none, errW_some] <;> rfl) | (simp [*, errW_none, errW_some] <;> rfl), by repeat (first | (with_reducible first | exact HB.out | apply below_alloc | apply pw_below_drewN | apply below_drew1 | refine below_set ?_ GE428.out | refine below_set ?_ GE429.out) | exact HB.out)⟩
  · rw [if_neg c3] at H
    have c3b0 : (a0_0 == a1_0) = false := beq_eq_false_iff_ne.mpr c3
    have c3b1 : (a0_0 != a1_0) = true := bne_iff_ne.mpr c3
    obtain rfl := Option.some.inj H
    go_enter Tryd.func32, Tryd.ntmps32
    go_wp2_with (first | ((with_reducible refine gate_dst (N := 2) rfl ?_); refine box_event ?hg (N := 2) ?hd (cs := #[.int .i64 a0_0, .slice A0_1 l0_1.length c0_1, .int .i64 a0_2, .slice A0_3 l0_3.length c0_3]) (t := 38) ?hr ?_; (case hd => rfl); (case hg => rfl); (case hr => first | (go_simp; done) | (go_simp; rfl)); intro gb428 hg w23 hbox hb; have n0_ := Aside0.mk (below_step (by repeat (first | (with_reducible first | exact HB.out | apply below_alloc | apply pw_below_drewN | apply below_drew1) | exact HB.out)) hb); have n1_ := Aside0.mk (hbox); have n2_ := Aside0.mk ((by rw [hg]; exact (below_size (by repeat (first | (with_reducible first | exact HB.out | apply below_alloc | apply pw_below_drewN | apply below_drew1) | exact HB.out))) : w.heap.size ≤ gb428)); have n3_ := Aside0.mk ((by rw [hg]; exact (below_size (by repeat (first | (with_reducible first | exact HB.out | apply below_alloc | apply pw_below_drewN | apply below_drew1) | exact HB.out))) : w.heap.size ≤ gb428)); clear HB; have HB := n0_; have BK428 := n1_; have GW428 := n2_; have GE428 := n3_; clear n0_ n1_ n2_ n3_; clear hb hbox hg) | ((with_reducible refine gate_dst (N := 3) rfl ?_); refine box_event ?hg (N := 3) ?hd (cs := #[.int .i64 a1_0, .slice A1_1 l1_1.length c1_1, .int .i64 a1_2, .slice A1_3 l1_3.length c1_3]) (t := 38) ?hr ?_; (case hd => rfl); (case hg => rfl); (case hr => first | (go_simp; done) | (go_simp; rfl)); intro gb429 hg w24 hbox hb; have n0_ := Aside0.mk (blk_below (g := gb428) (o := .cells #[.int .i64 a0_0, .slice A0_1 l0_1.length c0_1, .int .i64 a0_2, .slice A0_3 l0_3.length c0_3] 38 (0, 0)) (by (with_reducible repeat (first | refine blk_drewN ?_ _ | refine blk_drew ?_ | refine blk_alloc ?_ _)); exact BK428.out) hb); have n1_ := Aside0.mk (below_step (by repeat (first | (with_reducible first | exact HB.out | apply below_alloc | apply pw_below_drewN | apply below_drew1 | refine below_set ?_ GE428.out) | exact HB.out)) hb); have n2_ := Aside0.mk (hbox); have n3_ := Aside0.mk ((by rw [hg]; exact (below_size (by repeat (first | (with_reducible first | exact HB.out | apply below_alloc | apply pw_below_drewN | apply below_drew1 | refine below_set ?_ GE428.out) | exact HB.out))) : w.heap.size ≤ gb429)); have n4_ := Aside0.mk ((by rw [hg]; exact (below_size (by repeat (first | (with_reducible first | exact HB.out | apply below_alloc | apply pw_below_drewN | apply below_drew1 | refine below_set ?_ GE428.out) | exact HB.out))) : w.heap.size ≤ gb429)); have n5_ := Aside0.mk ((by rw [hg]; exact Nat.ne_of_lt (blk_lt (g := gb428) (o := .cells #[.int .i64 a0_0, .slice A0_1 l0_1.length c0_1, .int .i64 a0_2, .slice A0_3 l0_3.length c0_3] 38 (0, 0)) (by (with_reducible repeat (first | refine blk_drewN ?_ _ | refine blk_drew ?_ | refine blk_alloc ?_ _)); exact BK428.out)) : gb428 ≠ gb429)); have n6_ := Aside0.mk ((by rw [hg]; exact Nat.ne_of_gt (blk_lt (g := gb428) (o := .cells #[.int .i64 a0_0, .slice A0_1 l0_1.length c0_1, .int .i64 a0_2, .slice A0_3 l0_3.length c0_3] 38 (0, 0)) (by (with_reducible repeat (first | refine blk_drewN ?_ _ | refine blk_drew ?_ | refine blk_alloc ?_ _)); exact BK428.out)) : gb429 ≠ gb428)); clear BK428; clear HB; have BK428 := n0_; have HB := n1_; have BK429 := n2_; have GW429 := n3_; have GE429 := n4_; have NB428_429 := n5_; have NB429_428 := n6_; clear n0_ n1_ n2_ n3_ n4_ n5_ n6_; clear hb hbox hg; have hnb25 := NB428_429.out; have hnc25 := NB429_428.out; have hcz26_0 : w24.cell? ⟨gb428, 0, none⟩ = some (.int .i64 a0_0) := (blk_cell BK428.out 0).trans rfl; have hcz26_1 : w24.cell? ⟨gb428, 1, none⟩ = some (.slice A0_1 l0_1.length c0_1) := (blk_cell BK428.out 1).trans rfl; have hcz26_2 : w24.cell? ⟨gb428, 2, none⟩ = some (.int .i64 a0_2) := (blk_cell BK428.out 2).trans rfl; have hcz26_3 : w24.cell? ⟨gb428, 3, none⟩ = some (.slice A0_3 l0_3.length c0_3) := (blk_cell BK428.out 3).trans rfl; have hfz26_0 := blk_frozen BK428.out 0; have hfz26_1 := blk_frozen BK428.out 1; have hfz26_2 := blk_frozen BK428.out 2; have hfz26_3 := blk_frozen BK428.out 3; have hcz27_0 : w24.cell? ⟨gb429, 0, none⟩ = some (.int .i64 a1_0) := (blk_cell BK429.out 0).trans rfl; have hcz27_1 : w24.cell? ⟨gb429, 1, none⟩ = some (.slice A1_1 l1_1.length c1_1) := (blk_cell BK429.out 1).trans rfl; have hcz27_2 : w24.cell? ⟨gb429, 2, none⟩ = some (.int .i64 a1_2) := (blk_cell BK429.out 2).trans rfl; have hcz27_3 : w24.cell? ⟨gb429, 3, none⟩ = some (.slice A1_3 l1_3.length c1_3) := (blk_cell BK429.out 3).trans rfl; have hfz27_0 := blk_frozen BK429.out 0; have hfz27_1 := blk_frozen BK429.out 1; have hfz27_2 := blk_frozen BK429.out 2; have hfz27_3 := blk_frozen BK429.out 3))
    go_ret
    exact ⟨by first | rfl | (simp [errW_none, errW_some] <;> rfl) | (simp [*, errW_none, errW_some] <;> rfl), by repeat (first | (with_reducible first | exact HB.out | apply below_alloc | apply pw_below_drewN | apply below_drew1 | refine below_set ?_ GE428.out | refine below_set ?_ GE429.out) | exact HB.out)⟩

end Go.Proofs.YtgdpknmffohhaaaDoor.Pl

namespace Go.Proofs.YtgdpknmffohhaaaDoor.Pl
open Go.RowKit Go.Proofs.YtgdpknmffohhaaaDoorW.PrintWords Go.Proofs.YtgdpknmffohhaaaDoorW.PrintLast Go.Proofs.YtgdpknmffohhaaaDoorW.PrintMore
attribute [local go_sem] max2_int min2_int max_two min_two max_three min_three max_four min_four   -- for this text's walks alone
set_option linter.unusedVariables false
set_option linter.unusedSimpArgs false

/-! ### quillworkref06_Frame: function 41 -/
end Go.Proofs.YtgdpknmffohhaaaDoor.Pl

/- The reference's Same and Frame of lines, and its Indent. -/
namespace Go.Proofs.YtgdpknmffohhaaaDoor.Pl
open Go.RowKit Go.Lib Go.Proofs.YtgdpknmffohhaaaDoorW.PrintWords Go.Proofs.YtgdpknmffohhaaaDoorW.PrintLast Go.Proofs.YtgdpknmffohhaaaDoorW.PrintMore
set_option linter.unusedVariables false
theorem intsR_loop_ (x y : List Int) (hl : x.length = y.length) (hx : x.length ≤ 1000000000) : ∀ (m i : Nat), x.length - i = m → i ≤ x.length → Ev (fun k => quillworkref06_ints.l0 k x y (i : Int)) (x.drop i == y.drop i) := by
  intro m
  induction m with
  | zero =>
    intro i hm hi
    refine Ev.step (f := fun _ => some _) (fun k => ?_) (Ev.now _)
    simp only [quillworkref06_ints.l0]
    rw [if_neg (by omega), List.drop_eq_nil_of_le (by omega), List.drop_eq_nil_of_le (by omega)]
    rfl
  | succ m ih =>
    intro i hm hi
    have e3 : wrap64 ((i : Int) + 1) = ((i + 1 : Nat) : Int) := by rw [w64s_ _ (by omega)]; omega
    have hd : (x.drop i == y.drop i) = ((x[i]'(by omega) == y[i]'(by omega)) && (x.drop (i + 1) == y.drop (i + 1))) := by
      rw [List.drop_eq_getElem_cons (show i < x.length by omega), List.drop_eq_getElem_cons (show i < y.length by omega)]
      rfl
    rw [hd]
    by_cases h : x[i]'(by omega) = y[i]'(by omega)
    · rw [beq_iff_eq.mpr h, Bool.true_and]
      refine Ev.step (fun k => ?_) (ih (i + 1) (by omega) (by omega))
      simp only [quillworkref06_ints.l0]
      rw [if_pos (by omega), if_pos (by omega), if_pos (by omega), if_pos (by rw [rdi_ (by omega), rdi_ (by omega)]; exact h), e3]
    · rw [beq_eq_false_iff_ne.mpr h, Bool.false_and]
      refine Ev.step (f := fun _ => some _) (fun k => ?_) (Ev.now _)
      simp only [quillworkref06_ints.l0]
      rw [if_pos (by omega), if_pos (by omega), if_pos (by omega), if_neg (by rw [rdi_ (by omega), rdi_ (by omega)]; exact h)]
theorem intsR_ (x y : List Int) (hx : x.length ≤ 1000000000) : Ev (fun k => quillworkref06_ints.f k x y) (x == y) := by
  unfold quillworkref06_ints.f
  by_cases h : x.length = y.length
  · exact Ev.congr (fun k => if_pos (by omega)) (intsR_loop_ x y h hx _ 0 rfl (Nat.zero_le _))
  · have : (x == y) = false := beq_eq_false_iff_ne.mpr (fun e => h (congrArg List.length e))
    rw [this]
    exact Ev.congr (fun k => if_neg (by omega)) (Ev.now _)
theorem eqR_ (x y : List S71) (hl : x.length ≤ 1000000000) : Ev (fun k => quillworkref05_Same.f k x y) (sameC x y) := by
  unfold quillworkref05_Same.f
  by_cases h : x.length = y.length
  · exact Ev.congr (fun k => if_pos (by omega)) (eqR_loop_ x y h hl _ 0 rfl (Nat.zero_le _))
  · rw [sameC_len h]
    exact Ev.congr (fun k => if_neg (by omega)) (Ev.now _)
theorem refsame_ev_ (x y : Ln) (hx : x.ls.length ≤ 1000000000) (hc : x.cs.length ≤ 1000000000) : Ev (fun k => quillworkref06_Same.f k x.q x.ls x.k x.cs y.q y.ls y.k y.cs) (sameL x y) := by
  unfold quillworkref06_Same.f sameL
  by_cases h0 : x.q = y.q
  · rw [beq_iff_eq.mpr h0, Bool.true_and]
    refine Ev.congr (fun k => if_pos h0) ?_
    refine Ev.bind (intsR_ _ _ hx) ?_
    cases e : x.ls == y.ls with
    | true =>
      refine Ev.congr (fun k => if_pos rfl) ?_
      by_cases h1 : x.k = y.k
      · rw [beq_iff_eq.mpr h1, Bool.true_and, Bool.true_and]
        exact Ev.congr (fun k => if_pos h1) (Ev.bind (eqR_ _ _ hc) (Ev.now _))
      · rw [beq_eq_false_iff_ne.mpr h1]
        exact Ev.congr (fun k => if_neg h1) (Ev.now _)
    | false =>
      rw [Bool.false_and, Bool.and_false]
      exact Ev.congr (fun k => if_neg (by decide)) (Ev.now _)
  · rw [beq_eq_false_iff_ne.mpr h0]
    exact Ev.congr (fun k => if_neg h0) (Ev.now _)
theorem refsame_calls_ (x y : Ln) (v u : Value) (w : World) (hx : RdL w v x) (hy : RdL w u y) (hz : Sz x) :
    Calls Tryd.prog 32 #[v, u] w fun e w' => e = .returned (.bool (sameL x y)) ∧ Below w.heap.size w w' := by
  obtain ⟨_, _, rfl, ⟨A1, c1, rfl, h1, hc1⟩, ⟨A3, c3, rfl, h3, hc3⟩⟩ := hx
  obtain ⟨_, _, rfl, ⟨B1, d1, rfl, g1, gc1⟩, ⟨B3, d3, rfl, g3, gc3⟩⟩ := hy
  obtain ⟨k, hk⟩ := (refsame_ev_ x y (by have := hz.1; omega) (by have := hz.2.1; omega)).rounds
  exact quillworkref06_Same.calls k _ _ _ _ _ _ _ _ _ _ _ _ _ _ _ _ _ w h1 hc1 h3 hc3 g1 gc1 g3 gc3 hk
end Go.Proofs.YtgdpknmffohhaaaDoor.Pl

/- law06.is: are two answers the same; and the first is written over. -/
namespace Go.Proofs.YtgdpknmffohhaaaDoor.Pl
open Go.RowKit Go.Lib Go.Proofs.YtgdpknmffohhaaaDoorW.PrintWords Go.Proofs.YtgdpknmffohhaaaDoorW.PrintLast Go.Proofs.YtgdpknmffohhaaaDoorW.PrintMore
set_option linter.unusedVariables false
theorem add_off_ (b off i : Nat) : (⟨b, off, none⟩ : Addr).add i = ⟨b, off + i, none⟩ := by
  unfold Addr.add
  split <;> simp_all
def WBlk (W : World) (g t n : Nat) : Prop := ∃ cs : Array Value, W.heap[g]? = some (.cells cs t (0, 0)) ∧ cs.size = n
theorem WBlk.cell {W : World} {g t n j : Nat} (h : WBlk W g t n) (hj : j < n) : ∃ z, W.cell? ⟨g, j, none⟩ = some z := by
  obtain ⟨cs, h1, rfl⟩ := h
  exact ⟨cs[j], (blk_cell h1 j).trans (Array.getElem?_eq_getElem hj)⟩
theorem WBlk.frozen {W : World} {g t n : Nat} (h : WBlk W g t n) (j : Nat) : W.frozen? ⟨g, j, none⟩ = false := by
  obtain ⟨cs, h1, _⟩ := h
  exact blk_frozen h1 j
theorem WBlk.set {W : World} {g t n : Nat} (h : WBlk W g t n) (g' j : Nat) (u : Value) : WBlk (W.setCell ⟨g', j, none⟩ u) g t n := by
  obtain ⟨cs, h1, h2⟩ := h
  by_cases e : g = g'
  · subst e
    exact ⟨_, blk_put h1 j u rfl, by rw [Array.size_setIfInBounds]; exact h2⟩
  · exact ⟨cs, blk_off_ h1 e, h2⟩
theorem WBlk.below {W W1 : World} {g t n : Nat} (h : WBlk W g t n) (hb : Below W.heap.size W W1) : WBlk W1 g t n := by
  obtain ⟨cs, h1, h2⟩ := h
  exact ⟨cs, blk_below h1 hb, h2⟩
/-- a row that may be written over -/
def Rows_ (W : World) (N base : Nat) (A : Option Addr) (len sz t : Nat) : Prop :=
  0 < len → ∃ g off n, A = some ⟨g, off, none⟩ ∧ base ≤ g ∧ g < N ∧ WBlk W g t n ∧ ∀ j, j < len * sz → off + j < n
theorem Rows_.set {W : World} {N base len sz t : Nat} {A : Option Addr} (h : Rows_ W N base A len sz t) (g' j : Nat) (u : Value) : Rows_ (W.setCell ⟨g', j, none⟩ u) N base A len sz t := fun hp => by
  obtain ⟨g, off, n, h1, h2, h3, h4, h5⟩ := h hp
  exact ⟨g, off, n, h1, h2, h3, h4.set g' j u, h5⟩
theorem Rows_.below {W W1 : World} {N base len sz t : Nat} {A : Option Addr} (h : Rows_ W N base A len sz t) (hb : Below W.heap.size W W1) : Rows_ W1 N base A len sz t := fun hp => by
  obtain ⟨g, off, n, h1, h2, h3, h4, h5⟩ := h hp
  exact ⟨g, off, n, h1, h2, h3, h4.below hb, h5⟩
theorem Rows_.of_Wr {α : Type} {d : Kd α} {e base : Nat} {W : World} {A : Option Addr} {c : Nat} {xs : List α} (hC : d.C W A xs.length xs) (hp : 0 < xs.length → ∃ g off cells, A = some ⟨g, off, none⟩ ∧ base ≤ g ∧ W.heap[g]? = some (.cells cells e (0, 0))) (hs : 0 < d.sz) : Rows_ W W.heap.size base A xs.length d.sz e := fun hl => by
  obtain ⟨g, off, cells, rfl, h1, h2⟩ := hp hl
  refine ⟨g, off, cells.size, rfl, h1, blk_lt h2, ⟨cells, h2, rfl⟩, fun j hj => ?_⟩
  obtain ⟨ad, had, hc⟩ := hC.2.2 hl
  injection had with had
  subst had
  have hq : j / d.sz < xs.length := Nat.div_lt_of_lt_mul (by rw [Nat.mul_comm]; exact hj)
  obtain ⟨cc, hcl, _, hcell⟩ := hc (j / d.sz) _ (List.getElem?_eq_getElem hq)
  have hm : j % d.sz < cc.length := by rw [hcl]; exact Nat.mod_lt _ hs
  have h3 := hcell (j % d.sz) _ (List.getElem?_eq_getElem hm)
  rw [show j / d.sz * d.sz + j % d.sz = j by rw [Nat.mul_comm]; exact Nat.div_add_mod _ _] at h3
  have h4 : W.cell? ⟨g, off + j, none⟩ = some cc[j % d.sz] := by rw [← add_off_]; exact h3
  rw [blk_cell h2] at h4
  exact (Array.getElem?_eq_some_iff.1 h4).1
/-- the boxes of lines stay -/
def Boxes_ (w W : World) : Prop := ∀ (k : Nat) (cells : Array Value), w.heap[k]? = some (.cells cells 38 (0, 0)) → W.heap[k]? = some (.cells cells 38 (0, 0))
theorem Boxes_.of_below {w W : World} (h : Below w.heap.size w W) : Boxes_ w W := fun k cells hk => blk_below hk h
theorem Boxes_.set {w W : World} {g t n : Nat} (h : Boxes_ w W) (hb : WBlk W g t n) (ht : t ≠ 38) (j : Nat) (u : Value) : Boxes_ w (W.setCell ⟨g, j, none⟩ u) := fun k cells hk => by
  obtain ⟨cs, h1, _⟩ := hb
  have h2 := h k cells hk
  refine blk_off_ h2 (fun e => ?_)
  subst e
  rw [h1] at h2
  injection h2 with h2
  injection h2 with _ h2
  exact ht h2
/-- addresses that a row does not have -/
def OffR_ (A : Option Addr) (m : Nat) (ad : Addr) : Prop := ∀ a j, A = some a → j < m → ad ≠ a.add j
def Sp_ (A1 : Option Addr) (n1 : Nat) (A3 : Option Addr) (n3 : Nat) (w W : World) : Prop := ∀ ad, OffR_ A1 n1 ad → OffR_ A3 n3 ad → ad.block < w.heap.size → W.cell? ad = w.cell? ad
theorem Sp_.of_below {A1 A3 : Option Addr} {n1 n3 : Nat} {w W : World} (h : Below w.heap.size w W) : Sp_ A1 n1 A3 n3 w W := fun ad _ _ hb => h.cell hb
theorem Sp_.set1 {A1 A3 : Option Addr} {n1 n3 : Nat} {w W : World} (h : Sp_ A1 n1 A3 n3 w W) {a : Addr} {j : Nat} (hA : A1 = some a) (hj : j < n1) (u : Value) : Sp_ A1 n1 A3 n3 w (W.setCell (a.add j) u) := fun ad h1 h3 hb => (World.cell?_setCell_other _ _ _ _ (fun e => h1 a j hA hj e.symm)).trans (h ad h1 h3 hb)
theorem Sp_.set3 {A1 A3 : Option Addr} {n1 n3 : Nat} {w W : World} (h : Sp_ A1 n1 A3 n3 w W) {a : Addr} {j : Nat} (hA : A3 = some a) (hj : j < n3) (u : Value) : Sp_ A1 n1 A3 n3 w (W.setCell (a.add j) u) := fun ad h1 h3 hb => (World.cell?_setCell_other _ _ _ _ (fun e => h3 a j hA hj e.symm)).trans (h ad h1 h3 hb)
/-- what is no cell of the line's rows stays -/
def Spared_ (v : Value) (x : Ln) (w W : World) : Prop := ∀ A1 c1 A3 c3, v = .agg #[.int .i64 x.q, .slice A1 x.ls.length c1, .int .i64 x.k, .slice A3 x.cs.length c3] → Sp_ A1 x.ls.length A3 (x.cs.length * 3) w W
theorem Spared_.mk' {x : Ln} {A1 A3 : Option Addr} {c1 c3 : Nat} {w W : World} (h : Sp_ A1 x.ls.length A3 (x.cs.length * 3) w W) : Spared_ (.agg #[.int .i64 x.q, .slice A1 x.ls.length c1, .int .i64 x.k, .slice A3 x.cs.length c3]) x w W := fun B1 d1 B3 d3 e => by
  injection e with e
  injection e with e
  injection e with _ e
  injection e with e1 e
  injection e with _ e
  injection e with e3 _
  injection e1 with e1
  injection e3 with e3
  subst e1
  subst e3
  exact h
set_option maxRecDepth 100000 in
set_option maxHeartbeats 8000000 in
theorem is_calls_ (x y : Ln) (ee ff : Int) (v u : Value) (w : World) (base : Nat) (hx : WrL w base v x) (hy : RdL w u y) (hz : Sz x) (hbw : base ≤ w.heap.size) :
    Calls Tryd.prog 29 #[v, .int .i64 ee, u, .int .i64 ff] w fun e w' => e = .returned (.bool (decide (ee = ff) && sameL x y)) ∧ Below base w w' ∧ Boxes_ w w' ∧ Spared_ v x w w' := by
  have hu38 := Tryd.underlying38
  have HSM0 := Aside0.mk (fun W (hW : Below w.heap.size w W) => refsame_calls_ x y v u W (hx.rd.below hW) (hy.below hW) hz)
  obtain ⟨_, _, rfl, ⟨A1, c1, rfl, h1, hc1, hp1⟩, ⟨A3, c3, rfl, h3, hc3, hp3⟩⟩ := hx
  obtain ⟨_, _, rfl, ⟨D1, e1, rfl, g1, gc1⟩, ⟨D3, e3, rfl, g3, gc3⟩⟩ := hy
  have HR1 := Aside0.mk (Rows_.of_Wr (c := c1) h1 hp1 (by decide))
  have HR3 := Aside0.mk (Rows_.of_Wr (c := c3) h3 hp3 (by decide))
  obtain ⟨F0, F1, FB⟩ := two_boxes_ w (.cells #[.int .i64 x.q, .slice A1 x.ls.length c1, .int .i64 x.k, .slice A3 x.cs.length c3] 38) (.cells #[.int .i64 y.q, .slice D1 y.ls.length e1, .int .i64 y.k, .slice D3 y.cs.length e3] 38)
  have HZ := Aside0.mk hz
  have HBW := Aside0.mk hbw
  clear h1 h3 hc1 hc3 hp1 hp3 g1 g3 gc1 gc3 hz hbw
  go_enter Tryd.func29, Tryd.ntmps29
  go_upto_region 1 with (fail)
  generalize (w.alloc (.cells #[.int .i64 x.q, .slice A1 x.ls.length c1, .int .i64 x.k, .slice A3 x.cs.length c3] 38)).alloc (.cells #[.int .i64 y.q, .slice D1 y.ls.length e1, .int .i64 y.k, .slice D3 y.cs.length e3] 38) = W0 at F0 F1 FB ⊢
  have p0 : W0.cell? ⟨w.heap.size, 0, none⟩ = some (.int .i64 x.q) := (blk_cell F0 0).trans rfl
  have p1 : W0.cell? ⟨w.heap.size, 1, none⟩ = some (.slice A1 x.ls.length c1) := (blk_cell F0 1).trans rfl
  have p2 : W0.cell? ⟨w.heap.size, 2, none⟩ = some (.int .i64 x.k) := (blk_cell F0 2).trans rfl
  have p3 : W0.cell? ⟨w.heap.size, 3, none⟩ = some (.slice A3 x.cs.length c3) := (blk_cell F0 3).trans rfl
  have q0 : W0.cell? ⟨w.heap.size + 1, 0, none⟩ = some (.int .i64 y.q) := (blk_cell F1 0).trans rfl
  have q1 : W0.cell? ⟨w.heap.size + 1, 1, none⟩ = some (.slice D1 y.ls.length e1) := (blk_cell F1 1).trans rfl
  have q2 : W0.cell? ⟨w.heap.size + 1, 2, none⟩ = some (.int .i64 y.k) := (blk_cell F1 2).trans rfl
  have q3 : W0.cell? ⟨w.heap.size + 1, 3, none⟩ = some (.slice D3 y.cs.length e3) := (blk_cell F1 3).trans rfl
  have HF0 := Aside0.mk F0
  have HFB := Aside0.mk FB
  have HSM := Aside0.mk (HSM0.out W0 FB)
  clear F0 F1 FB HSM0
  by_cases hef : ee = ff
  case' pos =>
    have hb1 : (ee == ff) = true := beq_iff_eq.2 hef
    have hb2 : decide (ee = ff) = true := decide_eq_true hef
    obtain ⟨b, hb⟩ : ∃ b, sameL x y = b := ⟨_, rfl⟩
    rw [hb] at HSM
    have HR := Aside0.mk (show (decide (ee = ff) && sameL x y) = b by rw [hb2, hb]; rfl)
    clear hef hb hb2
    go_wp2_with (go_at_call 32; refine HSM.out.mono ?_; rintro e W1 ⟨rfl, hb⟩; have HB1 := Aside0.mk (below_step HFB.out hb); have HF1 := Aside0.mk (blk_below HF0.out hb); clear hb)
    clear hb1
  case' neg =>
    have hb1 : (ee == ff) = false := beq_eq_false_iff_ne.2 hef
    have HR := Aside0.mk (show (decide (ee = ff) && sameL x y) = false by rw [decide_eq_false hef]; rfl)
    clear hef
    go_wp2
    have HB1 := HFB
    have HF1 := HF0
    clear hb1
    generalize W0 = W1 at HB1 HF1 ⊢
  all_goals
    have HQ1 := Aside0.mk (HR1.out.below HB1.out)
    have HQ3 := Aside0.mk (HR3.out.below HB1.out)
    have HB2 := Aside0.mk (HB1.out.mono HBW.out)
    have HX := Aside0.mk (Boxes_.of_below HB1.out)
    have HSP := Aside0.mk (Sp_.of_below (A1 := A1) (n1 := x.ls.length) (A3 := A3) (n3 := x.cs.length * 3) HB1.out)
    clear HB1 HR1 HR3 HF0 HFB HSM p0 p1 p2 p3 q0 q1 q2 q3
    go_loopg [10] x.ls.length (fun g v10 w' => ∃ (i : Nat), v10 = .int .i64 (i : Int) ∧ i + g = x.ls.length ∧ Aside0 (w'.heap[w.heap.size]? = some (.cells #[.int .i64 x.q, .slice A1 x.ls.length c1, .int .i64 x.k, .slice A3 x.cs.length c3] 38 (0, 0))) ∧ Aside0 (Rows_ w' w.heap.size base A1 x.ls.length (Kd.int .i64).sz 3) ∧ Aside0 (Rows_ w' w.heap.size base A3 x.cs.length k71.sz 71) ∧ Aside0 (Below base w w') ∧ Aside0 (Boxes_ w w') ∧ Aside0 (Sp_ A1 x.ls.length A3 (x.cs.length * 3) w w'))
    case atStart => exact ⟨0, rfl, by omega, HF1, HQ1, HQ3, HB2, HX, HSP⟩
    case round =>
      clear HF1 HQ1 HQ3 HB2 HX HSP
      obtain ⟨i, rfl, hig, HF, H1, H3, HB, HX, HSP⟩ := hrel
      have fl := HF.out
      have l0 : wr.cell? ⟨w.heap.size, 0, none⟩ = some (.int .i64 x.q) := (blk_cell fl 0).trans rfl
      have l1 : wr.cell? ⟨w.heap.size, 1, none⟩ = some (.slice A1 x.ls.length c1) := (blk_cell fl 1).trans rfl
      have l2 : wr.cell? ⟨w.heap.size, 2, none⟩ = some (.int .i64 x.k) := (blk_cell fl 2).trans rfl
      have l3 : wr.cell? ⟨w.heap.size, 3, none⟩ = some (.slice A3 x.cs.length c3) := (blk_cell fl 3).trans rfl
      clear fl
      cases gk with
      | succ r =>
        have e1 : decide ((i : Int) < (x.ls.length : Int)) = true := decide_eq_true (by omega)
        have w1' : IntKind.i64.wrap ((i : Int) + 1) = ((i + 1 : Nat) : Int) := by rw [i64_w]; unfold wrap64; have := HZ.out.1; omega
        obtain ⟨g, off, n, hA, hbg, hgN, hblk, hn⟩ := H1.out (by omega)
        have hnn := hn i (by show i < x.ls.length * 1; omega)
        obtain ⟨z, hcz⟩ := hblk.cell hnn
        have hfz := hblk.frozen (off + i)
        obtain ⟨ad, had⟩ : ∃ ad : Addr, (⟨g, off, none⟩ : Addr) = ad := ⟨_, rfl⟩
        have hadd : (⟨g, off + i, none⟩ : Addr) = ad.add i := by rw [← had, add_off_]
        rw [hadd] at hcz hfz
        rw [had] at hA
        subst hA
        have HADD := Aside0.mk hadd
        have HG := Aside0.mk (And.intro hbg hgN)
        have HWB := Aside0.mk hblk
        clear hbg hgN hblk hn hnn hadd had
        have hi1 : (i : Int) < (x.ls.length : Int) := by omega
        go_wp2
        go_roundg r
        case measure => omega
        case rel => exact ⟨i + 1, by first | rfl | (simp; done), by omega, ⟨by rw [← HADD.out]; exact blk_off_ HF.out (by have := HG.out.2; omega)⟩, ⟨by rw [← HADD.out]; exact H1.out.set _ _ _⟩, ⟨by rw [← HADD.out]; exact H3.out.set _ _ _⟩, ⟨by rw [← HADD.out]; exact HB.out.setCell HG.out.1 _⟩, ⟨by rw [← HADD.out]; exact HX.out.set HWB.out (by decide) _ _⟩, ⟨HSP.out.set1 rfl (by omega) _⟩⟩
      | zero =>
        obtain rfl : i = x.ls.length := by omega
        have e1 : decide ((x.ls.length : Int) < (x.ls.length : Int)) = false := decide_eq_false (by omega)
        go_wp2
        clear e1 l0 l1 l2 l3
        go_loopg [11] x.cs.length (fun g v11 w' => ∃ (i : Nat), v11 = .int .i64 (i : Int) ∧ i + g = x.cs.length ∧ Aside0 (w'.heap[w.heap.size]? = some (.cells #[.int .i64 x.q, .slice A1 x.ls.length c1, .int .i64 x.k, .slice A3 x.cs.length c3] 38 (0, 0))) ∧ Aside0 (Rows_ w' w.heap.size base A3 x.cs.length k71.sz 71) ∧ Aside0 (Below base w w') ∧ Aside0 (Boxes_ w w') ∧ Aside0 (Sp_ A1 x.ls.length A3 (x.cs.length * 3) w w'))
        case atStart => exact ⟨0, rfl, by omega, HF, H3, HB, HX, HSP⟩
        case round =>
          clear HF H3 HB H1 HX HSP
          obtain ⟨i, rfl, hig2, HF, H3, HB, HX, HSP⟩ := hrel
          have fl := HF.out
          have l0 : wr.cell? ⟨w.heap.size, 0, none⟩ = some (.int .i64 x.q) := (blk_cell fl 0).trans rfl
          have l1 : wr.cell? ⟨w.heap.size, 1, none⟩ = some (.slice A1 x.ls.length c1) := (blk_cell fl 1).trans rfl
          have l2 : wr.cell? ⟨w.heap.size, 2, none⟩ = some (.int .i64 x.k) := (blk_cell fl 2).trans rfl
          have l3 : wr.cell? ⟨w.heap.size, 3, none⟩ = some (.slice A3 x.cs.length c3) := (blk_cell fl 3).trans rfl
          clear fl
          cases gk with
          | succ r =>
            have e1 : decide ((i : Int) < (x.cs.length : Int)) = true := decide_eq_true (by omega)
            have w1' : IntKind.i64.wrap ((i : Int) + 1) = ((i + 1 : Nat) : Int) := by rw [i64_w]; unfold wrap64; have := HZ.out.2.1; omega
            obtain ⟨g, off, n, hA, hbg, hgN, hblk, hn⟩ := H3.out (by omega)
            have hnn := hn (i * 3 + 1) (by show i * 3 + 1 < x.cs.length * 3; omega)
            obtain ⟨z, hcz⟩ := hblk.cell hnn
            have hfz := hblk.frozen (off + (i * 3 + 1))
            obtain ⟨ad, had⟩ : ∃ ad : Addr, (⟨g, off, none⟩ : Addr) = ad := ⟨_, rfl⟩
            have hadd : (⟨g, off + (i * 3 + 1), none⟩ : Addr) = ⟨(ad.add (i * 3)).block, (ad.add (i * 3)).off + 1, none⟩ := by rw [← had, add_off_]; show _ = (⟨g, off + i * 3 + 1, none⟩ : Addr); rw [Nat.add_assoc]
            rw [hadd] at hcz hfz
            rw [had] at hA
            subst hA
            have HADD := Aside0.mk hadd
            have HAD := Aside0.mk had
            have HG := Aside0.mk (And.intro hbg hgN)
            have HWB := Aside0.mk hblk
            clear hbg hgN hblk hn hnn hadd had
            have hi1 : (i : Int) < (x.cs.length : Int) := by omega
            go_wp2
            go_roundg r
            case measure => omega
            case rel => exact ⟨i + 1, by first | rfl | (simp; done), by omega, ⟨by rw [← HADD.out]; exact blk_off_ HF.out (by have := HG.out.2; omega)⟩, ⟨by rw [← HADD.out]; exact H3.out.set _ _ _⟩, ⟨by rw [← HADD.out]; exact HB.out.setCell HG.out.1 _⟩, ⟨by rw [← HADD.out]; exact HX.out.set HWB.out (by decide) _ _⟩, ⟨by rw [← HADD.out, ← add_off_, HAD.out]; exact HSP.out.set3 rfl (by omega) _⟩⟩
          | zero =>
            obtain rfl : i = x.cs.length := by omega
            have e1 : decide ((x.cs.length : Int) < (x.cs.length : Int)) = false := decide_eq_false (by omega)
            go_wp2
            go_ret
            exact ⟨by rw [HR.out]; rfl, HB.out, HX.out, Spared_.mk' HSP.out⟩
end Go.Proofs.YtgdpknmffohhaaaDoor.Pl

/- Rows stay where only lines' boxes are written. -/
namespace Go.Proofs.YtgdpknmffohhaaaDoor.Pl
open Go.RowKit Go.Lib Go.Proofs.YtgdpknmffohhaaaDoorW.PrintWords Go.Proofs.YtgdpknmffohhaaaDoorW.PrintLast Go.Proofs.YtgdpknmffohhaaaDoorW.PrintMore
set_option linter.unusedVariables false
/-- blocks below N that are no line's box stay -/
def Keep_ (N : Nat) (W W' : World) : Prop := ∀ (k t : Nat) (cells : Array Value), k < N → t ≠ 38 → W.heap[k]? = some (.cells cells t (0, 0)) → W'.heap[k]? = some (.cells cells t (0, 0))
theorem Keep_.refl (N : Nat) (W : World) : Keep_ N W W := fun _ _ _ _ _ h => h
theorem Keep_.trans {N : Nat} {W W1 W2 : World} (h : Keep_ N W W1) (h2 : Keep_ N W1 W2) : Keep_ N W W2 := fun k t cells hk ht hc => h2 k t cells hk ht (h k t cells hk ht hc)
theorem Keep_.mono {N M : Nat} {W W1 : World} (h : Keep_ N W W1) (hm : M ≤ N) : Keep_ M W W1 := fun k t cells hk ht hc => h k t cells (Nat.lt_of_lt_of_le hk hm) ht hc
theorem Keep_.below {N : Nat} {W W1 : World} (h : Below N W W1) : Keep_ N W W1 := fun k t cells hk _ hc => (h.block k hk).trans hc
theorem Keep_.set {N : Nat} {W : World} {g j : Nat} {u : Value} {cs : Array Value} (hb : W.heap[g]? = some (.cells cs 38 (0, 0))) : Keep_ N W (W.setCell ⟨g, j, none⟩ u) := fun k t cells hk ht hc => blk_off_ hc (fun e => by
  subst e
  rw [hb] at hc
  injection hc with hc
  injection hc with _ hc
  exact ht hc.symm)
theorem Keep_.put4 {N : Nat} {W : World} {g : Nat} {a b c d z0 z1 z2 z3 : Value} (hb : W.heap[g]? = some (.cells #[z0, z1, z2, z3] 38 (0, 0))) : Keep_ N W (put4_ W g a b c d) :=
  (((Keep_.set hb).trans (Keep_.set (blk_put hb 0 a rfl))).trans (Keep_.set (blk_put (blk_put hb 0 a rfl) 1 b rfl))).trans (Keep_.set (blk_put (blk_put (blk_put hb 0 a rfl) 1 b rfl) 2 c rfl))
theorem Wr.keep {α : Type} {d : Kd α} {e : Nat} {W W1 : World} {base : Nat} {v : Value} {xs : List α} (h : Wr d e W base v xs) (hk : Keep_ W.heap.size W W1) (ht : e ≠ 38) (hK : ∀ (W W1 : World) x cs, d.K W x cs → d.K W1 x cs) : Wr d e W1 base v xs := by
  obtain ⟨A, c, e1, h1, h2, h3⟩ := h
  refine ⟨A, c, e1, ⟨h1.1, h1.2.1, fun hp => ?_⟩, h2, fun hp => ?_⟩
  · obtain ⟨ad, e2, h4⟩ := h1.2.2 hp
    obtain ⟨g', off, cells', e3, h5, h6⟩ := h3 hp
    refine ⟨ad, e2, fun j p hj => ?_⟩
    obtain ⟨cs, h7, h8, h9⟩ := h4 j p hj
    refine ⟨cs, h7, hK _ _ _ _ h8, fun i' u' hu => ?_⟩
    have := h9 i' u' hu
    rw [e2] at e3
    injection e3 with e3
    subst e3
    rw [add_off_] at this ⊢
    rw [blk_cell h6] at this
    rw [blk_cell (hk g' e cells' (blk_lt h6) ht h6)]
    exact this
  · obtain ⟨g', off, cells', e3, h5, h6⟩ := h3 hp
    exact ⟨g', off, cells', e3, h5, hk g' e cells' (blk_lt h6) ht h6⟩
theorem WrL.keep {W W1 : World} {base : Nat} {v : Value} {x : Ln} (h : WrL W base v x) (hk : Keep_ W.heap.size W W1) : WrL W1 base v x := by
  obtain ⟨v1, v3, e, h1, h3⟩ := h
  exact ⟨v1, v3, e, h1.keep hk (by decide) (fun _ _ _ _ h => h), h3.keep hk (by decide) (fun _ _ _ _ h => h)⟩
theorem put4_size (W : World) (g : Nat) (a b c d : Value) : (put4_ W g a b c d).heap.size = W.heap.size := by simp [put4_, World.setCell]
/-- some line's box -/
def LBox_ (W : World) (g : Nat) : Prop := ∃ a b c d, W.heap[g]? = some (.cells #[a, b, c, d] 38 (0, 0))
end Go.Proofs.YtgdpknmffohhaaaDoor.Pl

/- ref06.Outdent, walked. -/
namespace Go.Proofs.YtgdpknmffohhaaaDoor.Pl
open Go.RowKit Go.Lib Go.Proofs.YtgdpknmffohhaaaDoorW.PrintWords Go.Proofs.YtgdpknmffohhaaaDoorW.PrintLast Go.Proofs.YtgdpknmffohhaaaDoorW.PrintMore
set_option linter.unusedVariables false
theorem C_prefix_ {W : World} {A : Option Addr} {n m : Nat} {xs : List Int} (h : Kd.C (Kd.int .i64) W A n xs) (hm : m ≤ n) : Kd.C (Kd.int .i64) W A m (xs.take m) := by
  obtain ⟨h1, h2, h3⟩ := h
  refine ⟨by rw [List.length_take]; omega, by omega, fun hp => ?_⟩
  obtain ⟨ad, e, hc⟩ := h3 (by omega)
  refine ⟨ad, e, fun j p hj => hc j p ?_⟩
  rw [List.getElem?_take] at hj
  split at hj
  · exact hj
  · cases hj
theorem Wr_grown_ {W w1 : World} {base base' : Nat} {v1 v3 : Value} {ls : List Int} {cs : List S71} (h : Wr k71 71 W base v3 cs) (hr : Kd.R (Kd.int .i64) 3 W base' (fun _ => True) v1 ls) (hg : W.grownBy w1 v1.ownBlock) : Wr k71 71 w1 base v3 cs := by
  obtain ⟨A, c, e, h1, h2, h3⟩ := h
  have hkeep : ∀ (g off : Nat) (cells : Array Value), W.heap[g]? = some (Obj.cells cells 71 (0, 0)) → w1.heap[g]? = some (Obj.cells cells 71 (0, 0)) := fun g off cells h6 => blk_grown h6 hg (fun e => by
    obtain ⟨cs, hc⟩ := Kd.R_typed hr g e.symm
    rw [h6] at hc
    injection hc with hc
    injection hc with _ hc
    exact absurd hc (by decide))
  refine ⟨A, c, e, ⟨h1.1, h1.2.1, fun hp => ?_⟩, h2, fun hp => ?_⟩
  · obtain ⟨ad, had, hc⟩ := h1.2.2 hp
    obtain ⟨g, off, cells, e3, h5, h6⟩ := h3 hp
    refine ⟨ad, had, fun j p hj => ?_⟩
    obtain ⟨cs', h7, h8, h9⟩ := hc j p hj
    refine ⟨cs', h7, h8, fun i u hu => ?_⟩
    have h := h9 i u hu
    rw [e3] at had
    injection had with had
    subst had
    rw [show (⟨g, off, none⟩ : Addr).add (j * k71.sz + i) = ⟨g, off + (j * k71.sz + i), none⟩ by unfold Addr.add; split <;> simp_all] at h ⊢
    rw [blk_cell h6] at h
    rw [blk_cell (hkeep g off cells h6)]
    exact h
  · obtain ⟨g, off, cells, e3, h5, h6⟩ := h3 hp
    exact ⟨g, off, cells, e3, h5, hkeep g off cells h6⟩
set_option maxRecDepth 100000 in
set_option maxHeartbeats 8000000 in
theorem refoutdent_calls_ (x : Ln) (v : Value) (w : World) (hx : RdL w v x) (hz : Sz x) :
    Calls Tryd.prog 45 #[v] w fun e w' => Back_ w (turnR outdentF x) e w' := by
  have hu38 := Tryd.underlying38
  have HMY := Aside0.mk (fun W (hW : Below w.heap.size w W) => refmay_calls_ x v W (hx.below hW) hz)
  have HO := Aside0.mk (fun W (hW : Below w.heap.size w W) => refown_calls_ x v W (hx.below hW) hz)
  obtain ⟨_, _, rfl, ⟨A1, c1, rfl, h1, hc1⟩, ⟨A3, c3, rfl, h3, hc3⟩⟩ := hx
  have HC := Aside0.mk (show Kd.C (Kd.int .i64) w A1 x.ls.length x.ls from h1)
  have HCc := Aside0.mk hc1
  obtain ⟨F0, F1, FB⟩ := two_boxes_ w (.cells #[.int .i64 x.q, .slice A1 x.ls.length c1, .int .i64 x.k, .slice A3 x.cs.length c3] 38) (.cells #[.int .i64 0, .slice none 0 0, .int .i64 0, .slice none 0 0] 38)
  clear h1 h3 hc1 hc3
  go_enter Tryd.func45, Tryd.ntmps45
  go_upto_region 1 with (fail)
  generalize (w.alloc (.cells #[.int .i64 x.q, .slice A1 x.ls.length c1, .int .i64 x.k, .slice A3 x.cs.length c3] 38)).alloc (.cells #[.int .i64 0, .slice none 0 0, .int .i64 0, .slice none 0 0] 38) = W0 at F0 F1 FB ⊢
  have p0 : W0.cell? ⟨w.heap.size, 0, none⟩ = some (.int .i64 x.q) := (blk_cell F0 0).trans rfl
  have p1 : W0.cell? ⟨w.heap.size, 1, none⟩ = some (.slice A1 x.ls.length c1) := (blk_cell F0 1).trans rfl
  have p2 : W0.cell? ⟨w.heap.size, 2, none⟩ = some (.int .i64 x.k) := (blk_cell F0 2).trans rfl
  have p3 : W0.cell? ⟨w.heap.size, 3, none⟩ = some (.slice A3 x.cs.length c3) := (blk_cell F0 3).trans rfl
  have q0 : W0.cell? ⟨w.heap.size + 1, 0, none⟩ = some (.int .i64 0) := (blk_cell F1 0).trans rfl
  have qe0 : W0.frozen? ⟨w.heap.size + 1, 0, none⟩ = false := blk_frozen F1 0
  have q1 : W0.cell? ⟨w.heap.size + 1, 1, none⟩ = some (.slice none 0 0) := (blk_cell F1 1).trans rfl
  have qe1 : W0.frozen? ⟨w.heap.size + 1, 1, none⟩ = false := blk_frozen F1 1
  have q2 : W0.cell? ⟨w.heap.size + 1, 2, none⟩ = some (.int .i64 0) := (blk_cell F1 2).trans rfl
  have qe2 : W0.frozen? ⟨w.heap.size + 1, 2, none⟩ = false := blk_frozen F1 2
  have q3 : W0.cell? ⟨w.heap.size + 1, 3, none⟩ = some (.slice none 0 0) := (blk_cell F1 3).trans rfl
  have qe3 : W0.frozen? ⟨w.heap.size + 1, 3, none⟩ = false := blk_frozen F1 3
  have HF0 := Aside0.mk F0
  have HF1 := Aside0.mk F1
  have HFB := Aside0.mk FB
  clear F0 F1 FB
  cases hm : mayL x with
  | false =>
    rw [hm] at HMY
    have HR := Aside0.mk (show turnR outdentF x = (zeroLn, 1) by unfold turnR; rw [if_neg (by rw [hm]; decide)])
    clear hm
    go_wp2_with (go_at_call 38; refine (HMY.out _ HFB.out).mono ?_; rintro e w1 ⟨rfl, hb⟩; have HB1 := Aside0.mk hb; have fb := blk_below HF0.out hb; have fz := blk_below HF1.out hb; have r0 : w1.cell? ⟨w.heap.size, 0, none⟩ = some (.int .i64 x.q) := (blk_cell fb 0).trans rfl; have r1 : w1.cell? ⟨w.heap.size, 1, none⟩ = some (.slice A1 x.ls.length c1) := (blk_cell fb 1).trans rfl; have r2 : w1.cell? ⟨w.heap.size, 2, none⟩ = some (.int .i64 x.k) := (blk_cell fb 2).trans rfl; have r3 : w1.cell? ⟨w.heap.size, 3, none⟩ = some (.slice A3 x.cs.length c3) := (blk_cell fb 3).trans rfl; have s0 : w1.cell? ⟨w.heap.size + 1, 0, none⟩ = some (.int .i64 0) := (blk_cell fz 0).trans rfl; have se0 : w1.frozen? ⟨w.heap.size + 1, 0, none⟩ = false := blk_frozen fz 0; have s1 : w1.cell? ⟨w.heap.size + 1, 1, none⟩ = some (.slice none 0 0) := (blk_cell fz 1).trans rfl; have se1 : w1.frozen? ⟨w.heap.size + 1, 1, none⟩ = false := blk_frozen fz 1; have s2 : w1.cell? ⟨w.heap.size + 1, 2, none⟩ = some (.int .i64 0) := (blk_cell fz 2).trans rfl; have se2 : w1.frozen? ⟨w.heap.size + 1, 2, none⟩ = false := blk_frozen fz 2; have s3 : w1.cell? ⟨w.heap.size + 1, 3, none⟩ = some (.slice none 0 0) := (blk_cell fz 3).trans rfl; have se3 : w1.frozen? ⟨w.heap.size + 1, 3, none⟩ = false := blk_frozen fz 3; have HG0 := Aside0.mk fb; have HG1 := Aside0.mk fz; clear hb fb fz)
    refine bodyPost_ret (results_ct rfl _ _ (w.heap.size + 1) 38 #[.int .i64 0, .slice none 0 0, .int .i64 0, .slice none 0 0] (0, 0) _ rfl (put4_blk HG1.out) Tryd.underlying38 rfl (by kernel_rfl)) rfl ?_
    exact ⟨_, by rw [HR.out]; rfl, by rw [HR.out]; exact WrL_zero _ _, put4_below (below_step HFB.out HB1.out) (by omega)⟩
  | true =>
    rw [hm] at HMY
    have hp := (mayL_parts hm).1
    have HM := Aside0.mk hm
    clear hm
    go_upto_region 4 with (first | (go_at_call 38; refine (HMY.out _ HFB.out).mono ?_; rintro e w1 ⟨rfl, hb⟩; have HB1 := Aside0.mk hb; have fb := blk_below HF0.out hb; have fz := blk_below HF1.out hb; have r0 : w1.cell? ⟨w.heap.size, 0, none⟩ = some (.int .i64 x.q) := (blk_cell fb 0).trans rfl; have r1 : w1.cell? ⟨w.heap.size, 1, none⟩ = some (.slice A1 x.ls.length c1) := (blk_cell fb 1).trans rfl; have r2 : w1.cell? ⟨w.heap.size, 2, none⟩ = some (.int .i64 x.k) := (blk_cell fb 2).trans rfl; have r3 : w1.cell? ⟨w.heap.size, 3, none⟩ = some (.slice A3 x.cs.length c3) := (blk_cell fb 3).trans rfl; have s0 : w1.cell? ⟨w.heap.size + 1, 0, none⟩ = some (.int .i64 0) := (blk_cell fz 0).trans rfl; have se0 : w1.frozen? ⟨w.heap.size + 1, 0, none⟩ = false := blk_frozen fz 0; have s1 : w1.cell? ⟨w.heap.size + 1, 1, none⟩ = some (.slice none 0 0) := (blk_cell fz 1).trans rfl; have se1 : w1.frozen? ⟨w.heap.size + 1, 1, none⟩ = false := blk_frozen fz 1; have s2 : w1.cell? ⟨w.heap.size + 1, 2, none⟩ = some (.int .i64 0) := (blk_cell fz 2).trans rfl; have se2 : w1.frozen? ⟨w.heap.size + 1, 2, none⟩ = false := blk_frozen fz 2; have s3 : w1.cell? ⟨w.heap.size + 1, 3, none⟩ = some (.slice none 0 0) := (blk_cell fz 3).trans rfl; have se3 : w1.frozen? ⟨w.heap.size + 1, 3, none⟩ = false := blk_frozen fz 3; have HG0 := Aside0.mk fb; have HG1 := Aside0.mk fz; clear hb fb fz) | (go_at_call 26; refine (HO.out _ (below_step HFB.out HB1.out)).mono ?_; rintro e w2 ⟨u1, u3, rfl, ho1, ho3, hb⟩; obtain ⟨B1, d1, rfl⟩ := Kd.R_slice ho1; obtain ⟨B3, d3, rfl⟩ := Kd.R_slice ho3; have HO1 := Aside0.mk (Wr.of_R ho1); have HO3 := Aside0.mk (Wr.of_R ho3); have HB2 := Aside0.mk hb; clear ho1 ho3 hb))
    have F3 := heap_alloc_new w2 (.cells #[.int .i64 x.q, .slice B1 x.ls.length d1, .int .i64 x.k, .slice B3 x.cs.length d3] 38)
    have FL := below_alloc (Below.refl w2.heap.size w2) (.cells #[.int .i64 x.q, .slice B1 x.ls.length d1, .int .i64 x.k, .slice B3 x.cs.length d3] 38)
    have FR := blk_below (blk_below HG1.out HB2.out) FL
    have F0 := blk_below (blk_below HG0.out HB2.out) FL
    have hbo : w.heap.size + 1 ≠ w2.heap.size := Nat.ne_of_lt (blk_lt (blk_below HG1.out HB2.out))
    have hbg : w.heap.size ≤ w2.heap.size := by have := blk_lt (blk_below HG1.out HB2.out); omega
    have HBB := below_step (below_step (below_step HFB.out HB1.out) HB2.out) FL
    have hsz1 := (below_step HFB.out HB1.out).size
    have h1 := (HO1.out.below FL).lower hsz1
    have h3 := (HO3.out.below FL).lower hsz1
    generalize w2.alloc (.cells #[.int .i64 x.q, .slice B1 x.ls.length d1, .int .i64 x.k, .slice B3 x.cs.length d3] 38) = W3 at F3 FL FR F0 HBB h1 h3 ⊢
    generalize w2.heap.size = bo at F3 hbo hbg ⊢
    have o0 : W3.cell? ⟨bo, 0, none⟩ = some (.int .i64 x.q) := (blk_cell F3 0).trans rfl
    have oe0 : W3.frozen? ⟨bo, 0, none⟩ = false := blk_frozen F3 0
    have o1 : W3.cell? ⟨bo, 1, none⟩ = some (.slice B1 x.ls.length d1) := (blk_cell F3 1).trans rfl
    have oe1 : W3.frozen? ⟨bo, 1, none⟩ = false := blk_frozen F3 1
    have o2 : W3.cell? ⟨bo, 2, none⟩ = some (.int .i64 x.k) := (blk_cell F3 2).trans rfl
    have oe2 : W3.frozen? ⟨bo, 2, none⟩ = false := blk_frozen F3 2
    have o3 : W3.cell? ⟨bo, 3, none⟩ = some (.slice B3 x.cs.length d3) := (blk_cell F3 3).trans rfl
    have oe3 : W3.frozen? ⟨bo, 3, none⟩ = false := blk_frozen F3 3
    have k0 : W3.cell? ⟨w.heap.size, 0, none⟩ = some (.int .i64 x.q) := (blk_cell F0 0).trans rfl
    have k1 : W3.cell? ⟨w.heap.size, 1, none⟩ = some (.slice A1 x.ls.length c1) := (blk_cell F0 1).trans rfl
    have k2 : W3.cell? ⟨w.heap.size, 2, none⟩ = some (.int .i64 x.k) := (blk_cell F0 2).trans rfl
    have k3 : W3.cell? ⟨w.heap.size, 3, none⟩ = some (.slice A3 x.cs.length c3) := (blk_cell F0 3).trans rfl
    have z0 : W3.cell? ⟨w.heap.size + 1, 0, none⟩ = some (.int .i64 0) := (blk_cell FR 0).trans rfl
    have ze0 : W3.frozen? ⟨w.heap.size + 1, 0, none⟩ = false := blk_frozen FR 0
    have z1 : W3.cell? ⟨w.heap.size + 1, 1, none⟩ = some (.slice none 0 0) := (blk_cell FR 1).trans rfl
    have ze1 : W3.frozen? ⟨w.heap.size + 1, 1, none⟩ = false := blk_frozen FR 1
    have z2 : W3.cell? ⟨w.heap.size + 1, 2, none⟩ = some (.int .i64 0) := (blk_cell FR 2).trans rfl
    have ze2 : W3.frozen? ⟨w.heap.size + 1, 2, none⟩ = false := blk_frozen FR 2
    have z3 : W3.cell? ⟨w.heap.size + 1, 3, none⟩ = some (.slice none 0 0) := (blk_cell FR 3).trans rfl
    have ze3 : W3.frozen? ⟨w.heap.size + 1, 3, none⟩ = false := blk_frozen FR 3
    have KO3 := Aside0.mk F3
    have AR := Aside0.mk FR
    have AL := Aside0.mk F0
    have AB := Aside0.mk HBB
    have A1_ := Aside0.mk h1
    have A3_ := Aside0.mk h3
    have AO := Aside0.mk hbo
    have AG := Aside0.mk hbg
    clear F3 FR F0 FL HBB h1 h3 hbo hbg hsz1 HO1 HO3 HB1 HB2 HG0 HG1 HF0 HF1 HFB HMY HO p0 p1 p2 p3 q0 qe0 q1 qe1 q2 qe2 q3 qe3 r0 r1 r2 r3 s0 se0 s1 se1 s2 se2 s3 se3
    by_cases hl : x.ls.length = 0
    · have e1 : ((x.ls.length : Int) == 0) = true := by simp [hl]
      have hl0 : x.ls = [] := List.length_eq_zero_iff.1 hl
      have e3 : decide (0 < x.ls.length) = false := decide_eq_false (by omega)
      by_cases hq : x.q = 0
      · have HR := Aside0.mk (show turnR outdentF x = (zeroLn, 7) by unfold turnR outdentF; rw [if_pos HM.out, if_pos hl0]; dsimp only; rw [if_neg (by simp [hq])])
        have e2 : (x.q == 0) = true := beq_iff_eq.2 hq
        clear hl hl0 hq hp
        go_wp2
        refine bodyPost_ret (results_ct rfl _ _ (w.heap.size + 1) 38 #[.int .i64 0, .slice none 0 0, .int .i64 0, .slice none 0 0] (0, 0) _ rfl (put4_blk AR.out) Tryd.underlying38 rfl (by kernel_rfl)) rfl ?_
        exact ⟨_, by rw [HR.out]; rfl, by rw [HR.out]; exact WrL_zero _ _, put4_below AB.out (by omega)⟩
      · have HR := Aside0.mk (show turnR outdentF x = ({ x with q := x.q - 1 }, 0) by unfold turnR outdentF; rw [if_pos HM.out, if_pos hl0]; dsimp only; rw [if_pos (decide_eq_true (by omega))])
        have e2 : (x.q == 0) = false := beq_eq_false_iff_ne.2 hq
        have hw : IntKind.i64.wrap (x.q - 1) = x.q - 1 := by rw [i64_w]; unfold wrap64; omega
        clear hl hl0 hq hp
        go_upto_region 10 with (fail)
        clear e1 e2 e3 hw
        have q0 := blk_put KO3.out 0 (.int .i64 (x.q - 1)) rfl
        have q1 := blk_off_ (g := bo) (i := 0) (u := .int .i64 (x.q - 1)) AR.out AO.out
        have q4 := below_set (g := bo) (j := 0) (v := .int .i64 (x.q - 1)) AB.out AG.out
        have q2 := WrI_put_ A1_.out KO3.out (by decide) 0 (.int .i64 (x.q - 1))
        have q3 := WrC_put_ A3_.out KO3.out (by decide) 0 (.int .i64 (x.q - 1))
        generalize W3.setCell ⟨bo, 0, none⟩ (.int .i64 (x.q - 1)) = W4 at q0 q1 q2 q3 q4 ⊢
        have gg0 : W4.cell? ⟨bo, 0, none⟩ = some (.int .i64 (x.q - 1)) := (blk_cell q0 0).trans rfl
        have gg1 : W4.cell? ⟨bo, 1, none⟩ = some (.slice B1 x.ls.length d1) := (blk_cell q0 1).trans rfl
        have gg2 : W4.cell? ⟨bo, 2, none⟩ = some (.int .i64 x.k) := (blk_cell q0 2).trans rfl
        have gg3 : W4.cell? ⟨bo, 3, none⟩ = some (.slice B3 x.cs.length d3) := (blk_cell q0 3).trans rfl
        have h0 : W4.cell? ⟨w.heap.size + 1, 0, none⟩ = some (.int .i64 0) := (blk_cell q1 0).trans rfl
        have he0 : W4.frozen? ⟨w.heap.size + 1, 0, none⟩ = false := blk_frozen q1 0
        have h1 : W4.cell? ⟨w.heap.size + 1, 1, none⟩ = some (.slice none 0 0) := (blk_cell q1 1).trans rfl
        have he1 : W4.frozen? ⟨w.heap.size + 1, 1, none⟩ = false := blk_frozen q1 1
        have h2 : W4.cell? ⟨w.heap.size + 1, 2, none⟩ = some (.int .i64 0) := (blk_cell q1 2).trans rfl
        have he2 : W4.frozen? ⟨w.heap.size + 1, 2, none⟩ = false := blk_frozen q1 2
        have h3 : W4.cell? ⟨w.heap.size + 1, 3, none⟩ = some (.slice none 0 0) := (blk_cell q1 3).trans rfl
        have he3 : W4.frozen? ⟨w.heap.size + 1, 3, none⟩ = false := blk_frozen q1 3
        have HQ := Aside0.mk (show WrL W4 w.heap.size (.agg #[.int .i64 (x.q - 1), .slice B1 x.ls.length d1, .int .i64 x.k, .slice B3 x.cs.length d3]) { x with q := x.q - 1 } from ⟨_, _, rfl, q2, q3⟩)
        have S1 := Aside0.mk q1
        have S4 := Aside0.mk q4
        clear q0 q1 q2 q3 q4 KO3 AR AB A1_ A3_ AO AG AL o0 oe0 o1 oe1 o2 oe2 o3 oe3 k0 k1 k2 k3 z0 ze0 z1 ze1 z2 ze2 z3 ze3
        go_wp2_with (fail)
        refine bodyPost_ret (results_ct rfl _ _ (w.heap.size + 1) 38 #[.int .i64 (x.q - 1), .slice B1 x.ls.length d1, .int .i64 x.k, .slice B3 x.cs.length d3] (0, 0) _ rfl (put4_blk S1.out) Tryd.underlying38 rfl (by kernel_rfl)) rfl ?_
        exact ⟨_, by rw [HR.out]; rfl, by rw [HR.out]; exact put4_WrL HQ.out S1.out, put4_below S4.out (by omega)⟩
    · have e1 : ((x.ls.length : Int) == 0) = false := by simp [hl]
      have e3 : decide (0 < x.ls.length) = true := decide_eq_true (by omega)
      obtain ⟨m', hm'⟩ : ∃ m' : Nat, x.ls.length = m' + 1 := ⟨x.ls.length - 1, by omega⟩
      have hl0 : ¬ x.ls = [] := fun e => hl (by rw [e]; rfl)
      have HR := Aside0.mk (show turnR outdentF x = ({ x with ls := dropF x.ls }, 0) by unfold turnR outdentF; rw [if_pos HM.out, if_neg hl0]; rfl)
      have hw : IntKind.i64.wrap ((x.ls.length : Int) - 1) = (m' : Int) := by rw [i64_w]; unfold wrap64; omega
      have hmc : (m' : Int) ≤ (c1 : Int) := by have := HCc.out; omega
      have HTL := Aside0.mk (show (x.ls.take m').length = m' by rw [List.length_take]; omega)
      have HML := Aside0.mk (show m' ≤ 100000 by have := hz.1; omega)
      have HDR := Aside0.mk (show dropF x.ls = x.ls.take m' by unfold dropF; rw [hm']; rfl)
      have HPC := Aside0.mk (fun W (hW : Below w.heap.size w W) => (show Kd.C (Kd.int .i64) W A1 m' (x.ls.take m') from C_prefix_ (Kd.C_below HC.out hW) (by omega)))
      clear hl hl0 hp hm'
      go_upto_region 10 with (first | ((with_reducible refine gate_dst (N := 25) rfl ?_); refine Kd.R_lit (Kd.int .i64) _ 3 ?hg (N := 25) ?hd (xs := ([] : List Int)) (inner := []) (ok := fun _ => True) (okp := fun _ => True) ?hr ?hp (fun _ hk => hk) trivial (Below.refl _ _) (Nat.le_refl _) (by simp) ?_; (case hd => rfl); (case hg => rfl); (case hr => first | (go_simp; done) | (go_simp; rfl)); (case hp => exact (Reps.none _ _)); intro v4 w4 ho hb hg_ hnew_; clear hg_ hnew_; obtain ⟨L1, L2, rfl⟩ := Kd.R_slice ho; have HL := Aside0.mk (Kd.R_lower ho (below_size AB.out)); have fl := blk_below AL.out hb; have fo := blk_below KO3.out hb; have fr := blk_below AR.out hb; have t0 : w4.cell? ⟨w.heap.size, 0, none⟩ = some (.int .i64 x.q) := (blk_cell fl 0).trans rfl; have t1 : w4.cell? ⟨w.heap.size, 1, none⟩ = some (.slice A1 x.ls.length c1) := (blk_cell fl 1).trans rfl; have t2 : w4.cell? ⟨w.heap.size, 2, none⟩ = some (.int .i64 x.k) := (blk_cell fl 2).trans rfl; have t3 : w4.cell? ⟨w.heap.size, 3, none⟩ = some (.slice A3 x.cs.length c3) := (blk_cell fl 3).trans rfl; have BL := Aside0.mk fl; have BO := Aside0.mk fo; have BR := Aside0.mk fr; have BB := Aside0.mk (below_step AB.out hb); have B3_ := Aside0.mk (A3_.out.below hb); clear ho hb fl fo fr) | ((with_reducible refine gate_builtin (b := .append) (xs := #[.tmp 25, .tmp 30]) rfl ?_); at_builtin; refine Kd.R_append_rows (Kd.int .i64) (w0 := w) w.heap.size rfl (.tmp 25) (.tmp 30) 35 3 (.int .i64 0) 8 rfl Tryd.underlying35 info3 rfl (by decide) (by omega) (.slice L1 0 L2) [] (x.ls.take m') _ _ _ (fun _ => True) (fun _ => False) rfl rfl ?aO ?aR (fun _ _ h => h) (fun _ h => h.elim) ?aF ?aB ?aS ?aL ?_; (case aR => exact HPC.out w4 BB.out); (case aB => exact BB.out); (case aF => exact (fun _ _ => trivial)); (case aO => exact HL.out); (case aS => exact BB.out.size); (case aL => have := HML.out; simp only [List.length_nil]; omega); intro v5 w5 ho hb hg hat; rw [List.nil_append] at ho; have hs := Kd.R_slice ho; rw [HTL.out] at hs; obtain ⟨C1, g1, rfl⟩ := hs; have HC1 := Aside0.mk (Wr.of_R ho); have BB5 := Aside0.mk hb; have fo := grown_box_ HL.out hg BO.out; have fr := grown_box_ HL.out hg BR.out; have H35 := Aside0.mk (Wr_grown_ B3_.out HL.out hg); have y0 : w5.cell? ⟨bo, 0, none⟩ = some (.int .i64 x.q) := (blk_cell fo 0).trans rfl; have ye0 : w5.frozen? ⟨bo, 0, none⟩ = false := blk_frozen fo 0; have y1 : w5.cell? ⟨bo, 1, none⟩ = some (.slice B1 x.ls.length d1) := (blk_cell fo 1).trans rfl; have ye1 : w5.frozen? ⟨bo, 1, none⟩ = false := blk_frozen fo 1; have y2 : w5.cell? ⟨bo, 2, none⟩ = some (.int .i64 x.k) := (blk_cell fo 2).trans rfl; have ye2 : w5.frozen? ⟨bo, 2, none⟩ = false := blk_frozen fo 2; have y3 : w5.cell? ⟨bo, 3, none⟩ = some (.slice B3 x.cs.length d3) := (blk_cell fo 3).trans rfl; have ye3 : w5.frozen? ⟨bo, 3, none⟩ = false := blk_frozen fo 3; have CO := Aside0.mk fo; have CR := Aside0.mk fr; clear ho hb hg hat fo fr))
      clear e1 e3 hw hmc
      have q0 := blk_put CO.out 1 (.slice C1 m' g1) rfl
      have q1 := blk_off_ (g := bo) (i := 1) (u := .slice C1 m' g1) CR.out AO.out
      have q4 := below_set (g := bo) (j := 1) (v := .slice C1 m' g1) BB5.out AG.out
      have q2 := WrI_put_ HC1.out CO.out (by decide) 1 (.slice C1 m' g1)
      have q3 := WrC_put_ H35.out CO.out (by decide) 1 (.slice C1 m' g1)
      generalize w5.setCell ⟨bo, 1, none⟩ (.slice C1 m' g1) = W4 at q0 q1 q2 q3 q4 ⊢
      have gg0 : W4.cell? ⟨bo, 0, none⟩ = some (.int .i64 x.q) := (blk_cell q0 0).trans rfl
      have gg1 : W4.cell? ⟨bo, 1, none⟩ = some (.slice C1 m' g1) := (blk_cell q0 1).trans rfl
      have gg2 : W4.cell? ⟨bo, 2, none⟩ = some (.int .i64 x.k) := (blk_cell q0 2).trans rfl
      have gg3 : W4.cell? ⟨bo, 3, none⟩ = some (.slice B3 x.cs.length d3) := (blk_cell q0 3).trans rfl
      have h0 : W4.cell? ⟨w.heap.size + 1, 0, none⟩ = some (.int .i64 0) := (blk_cell q1 0).trans rfl
      have he0 : W4.frozen? ⟨w.heap.size + 1, 0, none⟩ = false := blk_frozen q1 0
      have h1 : W4.cell? ⟨w.heap.size + 1, 1, none⟩ = some (.slice none 0 0) := (blk_cell q1 1).trans rfl
      have he1 : W4.frozen? ⟨w.heap.size + 1, 1, none⟩ = false := blk_frozen q1 1
      have h2 : W4.cell? ⟨w.heap.size + 1, 2, none⟩ = some (.int .i64 0) := (blk_cell q1 2).trans rfl
      have he2 : W4.frozen? ⟨w.heap.size + 1, 2, none⟩ = false := blk_frozen q1 2
      have h3 : W4.cell? ⟨w.heap.size + 1, 3, none⟩ = some (.slice none 0 0) := (blk_cell q1 3).trans rfl
      have he3 : W4.frozen? ⟨w.heap.size + 1, 3, none⟩ = false := blk_frozen q1 3
      have HQ := Aside0.mk (show WrL W4 w.heap.size (.agg #[.int .i64 x.q, .slice C1 m' g1, .int .i64 x.k, .slice B3 x.cs.length d3]) { x with ls := dropF x.ls } from ⟨_, _, rfl, (by show Wr _ _ _ _ _ (dropF x.ls); rw [HDR.out]; exact q2), q3⟩)
      have S1 := Aside0.mk q1
      have S4 := Aside0.mk q4
      clear q0 q1 q2 q3 q4 CO CR BB5 HC1 H35 AO AG o0 oe0 o1 oe1 o2 oe2 o3 oe3 k0 k1 k2 k3 z0 ze0 z1 ze1 z2 ze2 z3 ze3 y0 ye0 y1 ye1 y2 ye2 y3 ye3 t0 t1 t2 t3 KO3 AR AB A1_ A3_ AL BL BO BR BB B3_ HL HPC HTL HML HC HCc
      go_wp2_with (fail)
      refine bodyPost_ret (results_ct rfl _ _ (w.heap.size + 1) 38 #[.int .i64 x.q, .slice C1 m' g1, .int .i64 x.k, .slice B3 x.cs.length d3] (0, 0) _ rfl (put4_blk S1.out) Tryd.underlying38 rfl (by kernel_rfl)) rfl ?_
      exact ⟨_, by rw [HR.out]; rfl, by rw [HR.out]; exact put4_WrL HQ.out S1.out, put4_below S4.out (by omega)⟩
end Go.Proofs.YtgdpknmffohhaaaDoor.Pl

/- ref06.Free, walked. -/
namespace Go.Proofs.YtgdpknmffohhaaaDoor.Pl
open Go.RowKit Go.Lib Go.Proofs.YtgdpknmffohhaaaDoorW.PrintWords Go.Proofs.YtgdpknmffohhaaaDoorW.PrintLast Go.Proofs.YtgdpknmffohhaaaDoorW.PrintMore
set_option linter.unusedVariables false
theorem free_out_ {x : Ln} (hm : mayL x = true) (h : ¬ (x.ls = [] ∧ 0 < x.k)) : turnR freeF x = turnR outdentF x := by
  unfold turnR freeF outdentF
  rw [if_pos hm, if_pos hm]
  by_cases hl : x.ls = []
  · rw [if_pos hl, if_pos hl, if_neg (fun hk => h ⟨hl, hk⟩)]
    dsimp only
    by_cases hq : 0 < x.q
    · rw [if_pos hq, decide_eq_true (show 1 ≤ x.q by omega)]
    · rw [if_neg hq, decide_eq_false (show ¬ 1 ≤ x.q by omega)]
      rfl
  · rw [if_neg hl, if_neg hl]
set_option maxRecDepth 100000 in
set_option maxHeartbeats 8000000 in
theorem reffree_calls_ (x : Ln) (v : Value) (w : World) (hx : RdL w v x) (hz : Sz x) :
    Calls Tryd.prog 51 #[v] w fun e w' => Back_ w (turnR freeF x) e w' := by
  have hu38 := Tryd.underlying38
  have HMY := Aside0.mk (fun W (hW : Below w.heap.size w W) => refmay_calls_ x v W (hx.below hW) hz)
  have HO := Aside0.mk (fun W (hW : Below w.heap.size w W) => refown_calls_ x v W (hx.below hW) hz)
  have HU := Aside0.mk (fun W (hW : Below w.heap.size w W) => refoutdent_calls_ x v W (hx.below hW) hz)
  obtain ⟨_, _, rfl, ⟨A1, c1, rfl, h1, hc1⟩, ⟨A3, c3, rfl, h3, hc3⟩⟩ := hx
  obtain ⟨F0, F1, FB⟩ := two_boxes_ w (.cells #[.int .i64 x.q, .slice A1 x.ls.length c1, .int .i64 x.k, .slice A3 x.cs.length c3] 38) (.cells #[.int .i64 0, .slice none 0 0, .int .i64 0, .slice none 0 0] 38)
  clear h1 h3 hc1 hc3
  go_enter Tryd.func51, Tryd.ntmps51
  go_upto_region 1 with (fail)
  generalize (w.alloc (.cells #[.int .i64 x.q, .slice A1 x.ls.length c1, .int .i64 x.k, .slice A3 x.cs.length c3] 38)).alloc (.cells #[.int .i64 0, .slice none 0 0, .int .i64 0, .slice none 0 0] 38) = W0 at F0 F1 FB ⊢
  have p0 : W0.cell? ⟨w.heap.size, 0, none⟩ = some (.int .i64 x.q) := (blk_cell F0 0).trans rfl
  have p1 : W0.cell? ⟨w.heap.size, 1, none⟩ = some (.slice A1 x.ls.length c1) := (blk_cell F0 1).trans rfl
  have p2 : W0.cell? ⟨w.heap.size, 2, none⟩ = some (.int .i64 x.k) := (blk_cell F0 2).trans rfl
  have p3 : W0.cell? ⟨w.heap.size, 3, none⟩ = some (.slice A3 x.cs.length c3) := (blk_cell F0 3).trans rfl
  have q0 : W0.cell? ⟨w.heap.size + 1, 0, none⟩ = some (.int .i64 0) := (blk_cell F1 0).trans rfl
  have qe0 : W0.frozen? ⟨w.heap.size + 1, 0, none⟩ = false := blk_frozen F1 0
  have q1 : W0.cell? ⟨w.heap.size + 1, 1, none⟩ = some (.slice none 0 0) := (blk_cell F1 1).trans rfl
  have qe1 : W0.frozen? ⟨w.heap.size + 1, 1, none⟩ = false := blk_frozen F1 1
  have q2 : W0.cell? ⟨w.heap.size + 1, 2, none⟩ = some (.int .i64 0) := (blk_cell F1 2).trans rfl
  have qe2 : W0.frozen? ⟨w.heap.size + 1, 2, none⟩ = false := blk_frozen F1 2
  have q3 : W0.cell? ⟨w.heap.size + 1, 3, none⟩ = some (.slice none 0 0) := (blk_cell F1 3).trans rfl
  have qe3 : W0.frozen? ⟨w.heap.size + 1, 3, none⟩ = false := blk_frozen F1 3
  have HF0 := Aside0.mk F0
  have HF1 := Aside0.mk F1
  have HFB := Aside0.mk FB
  clear F0 F1 FB
  cases hm : mayL x with
  | false =>
    rw [hm] at HMY
    have HR := Aside0.mk (show turnR freeF x = (zeroLn, 1) by unfold turnR; rw [if_neg (by rw [hm]; decide)])
    clear hm
    go_wp2_with (go_at_call 38; refine (HMY.out _ HFB.out).mono ?_; rintro e w1 ⟨rfl, hb⟩; have HB1 := Aside0.mk hb; have fb := blk_below HF0.out hb; have fz := blk_below HF1.out hb; have r0 : w1.cell? ⟨w.heap.size, 0, none⟩ = some (.int .i64 x.q) := (blk_cell fb 0).trans rfl; have r1 : w1.cell? ⟨w.heap.size, 1, none⟩ = some (.slice A1 x.ls.length c1) := (blk_cell fb 1).trans rfl; have r2 : w1.cell? ⟨w.heap.size, 2, none⟩ = some (.int .i64 x.k) := (blk_cell fb 2).trans rfl; have r3 : w1.cell? ⟨w.heap.size, 3, none⟩ = some (.slice A3 x.cs.length c3) := (blk_cell fb 3).trans rfl; have s0 : w1.cell? ⟨w.heap.size + 1, 0, none⟩ = some (.int .i64 0) := (blk_cell fz 0).trans rfl; have se0 : w1.frozen? ⟨w.heap.size + 1, 0, none⟩ = false := blk_frozen fz 0; have s1 : w1.cell? ⟨w.heap.size + 1, 1, none⟩ = some (.slice none 0 0) := (blk_cell fz 1).trans rfl; have se1 : w1.frozen? ⟨w.heap.size + 1, 1, none⟩ = false := blk_frozen fz 1; have s2 : w1.cell? ⟨w.heap.size + 1, 2, none⟩ = some (.int .i64 0) := (blk_cell fz 2).trans rfl; have se2 : w1.frozen? ⟨w.heap.size + 1, 2, none⟩ = false := blk_frozen fz 2; have s3 : w1.cell? ⟨w.heap.size + 1, 3, none⟩ = some (.slice none 0 0) := (blk_cell fz 3).trans rfl; have se3 : w1.frozen? ⟨w.heap.size + 1, 3, none⟩ = false := blk_frozen fz 3; have HG0 := Aside0.mk fb; have HG1 := Aside0.mk fz; clear hb fb fz)
    refine bodyPost_ret (results_ct rfl _ _ (w.heap.size + 1) 38 #[.int .i64 0, .slice none 0 0, .int .i64 0, .slice none 0 0] (0, 0) _ rfl (put4_blk HG1.out) Tryd.underlying38 rfl (by kernel_rfl)) rfl ?_
    exact ⟨_, by rw [HR.out]; rfl, by rw [HR.out]; exact WrL_zero _ _, put4_below (below_step HFB.out HB1.out) (by omega)⟩
  | true =>
    rw [hm] at HMY
    by_cases hl : x.ls.length = 0
    case' pos =>
      have e1 : ((x.ls.length : Int) == 0) = true := by simp [hl]
      have hl0 : x.ls = [] := List.length_eq_zero_iff.1 hl
      by_cases hk : 0 < x.k
      case' pos =>
        have e2 : decide (0 < x.k) = true := decide_eq_true hk
        have HR := Aside0.mk (show turnR freeF x = ({ x with k := 0 }, 0) by unfold turnR freeF; rw [if_pos hm, if_pos hl0, if_pos hk]; rfl)
        clear hm hl hl0 hk
        go_upto_region 5 with (first | (go_at_call 38; refine (HMY.out _ HFB.out).mono ?_; rintro e w1 ⟨rfl, hb⟩; have HB1 := Aside0.mk hb; have fb := blk_below HF0.out hb; have fz := blk_below HF1.out hb; have r0 : w1.cell? ⟨w.heap.size, 0, none⟩ = some (.int .i64 x.q) := (blk_cell fb 0).trans rfl; have r1 : w1.cell? ⟨w.heap.size, 1, none⟩ = some (.slice A1 x.ls.length c1) := (blk_cell fb 1).trans rfl; have r2 : w1.cell? ⟨w.heap.size, 2, none⟩ = some (.int .i64 x.k) := (blk_cell fb 2).trans rfl; have r3 : w1.cell? ⟨w.heap.size, 3, none⟩ = some (.slice A3 x.cs.length c3) := (blk_cell fb 3).trans rfl; have s0 : w1.cell? ⟨w.heap.size + 1, 0, none⟩ = some (.int .i64 0) := (blk_cell fz 0).trans rfl; have se0 : w1.frozen? ⟨w.heap.size + 1, 0, none⟩ = false := blk_frozen fz 0; have s1 : w1.cell? ⟨w.heap.size + 1, 1, none⟩ = some (.slice none 0 0) := (blk_cell fz 1).trans rfl; have se1 : w1.frozen? ⟨w.heap.size + 1, 1, none⟩ = false := blk_frozen fz 1; have s2 : w1.cell? ⟨w.heap.size + 1, 2, none⟩ = some (.int .i64 0) := (blk_cell fz 2).trans rfl; have se2 : w1.frozen? ⟨w.heap.size + 1, 2, none⟩ = false := blk_frozen fz 2; have s3 : w1.cell? ⟨w.heap.size + 1, 3, none⟩ = some (.slice none 0 0) := (blk_cell fz 3).trans rfl; have se3 : w1.frozen? ⟨w.heap.size + 1, 3, none⟩ = false := blk_frozen fz 3; have HG0 := Aside0.mk fb; have HG1 := Aside0.mk fz; clear hb fb fz) | (go_at_call 26; refine (HO.out _ (below_step HFB.out HB1.out)).mono ?_; rintro e w2 ⟨u1, u3, rfl, ho1, ho3, hb⟩; obtain ⟨B1, d1, rfl⟩ := Kd.R_slice ho1; obtain ⟨B3, d3, rfl⟩ := Kd.R_slice ho3; have HO1 := Aside0.mk (Wr.of_R ho1); have HO3 := Aside0.mk (Wr.of_R ho3); have HB2 := Aside0.mk hb; clear ho1 ho3 hb))
        have F3 := heap_alloc_new w2 (.cells #[.int .i64 x.q, .slice B1 x.ls.length d1, .int .i64 x.k, .slice B3 x.cs.length d3] 38)
        have FL := below_alloc (Below.refl w2.heap.size w2) (.cells #[.int .i64 x.q, .slice B1 x.ls.length d1, .int .i64 x.k, .slice B3 x.cs.length d3] 38)
        have FR := blk_below (blk_below HG1.out HB2.out) FL
        have hbo : w.heap.size + 1 ≠ w2.heap.size := Nat.ne_of_lt (blk_lt (blk_below HG1.out HB2.out))
        have hbg : w.heap.size ≤ w2.heap.size := by have := blk_lt (blk_below HG1.out HB2.out); omega
        have HBB := below_step (below_step (below_step HFB.out HB1.out) HB2.out) FL
        have hsz1 := (below_step HFB.out HB1.out).size
        have h1 := (HO1.out.below FL).lower hsz1
        have h3 := (HO3.out.below FL).lower hsz1
        generalize w2.alloc (.cells #[.int .i64 x.q, .slice B1 x.ls.length d1, .int .i64 x.k, .slice B3 x.cs.length d3] 38) = W3 at F3 FL FR HBB h1 h3 ⊢
        generalize w2.heap.size = bo at F3 hbo hbg ⊢
        have o0 : W3.cell? ⟨bo, 0, none⟩ = some (.int .i64 x.q) := (blk_cell F3 0).trans rfl
        have oe0 : W3.frozen? ⟨bo, 0, none⟩ = false := blk_frozen F3 0
        have o1 : W3.cell? ⟨bo, 1, none⟩ = some (.slice B1 x.ls.length d1) := (blk_cell F3 1).trans rfl
        have oe1 : W3.frozen? ⟨bo, 1, none⟩ = false := blk_frozen F3 1
        have o2 : W3.cell? ⟨bo, 2, none⟩ = some (.int .i64 x.k) := (blk_cell F3 2).trans rfl
        have oe2 : W3.frozen? ⟨bo, 2, none⟩ = false := blk_frozen F3 2
        have o3 : W3.cell? ⟨bo, 3, none⟩ = some (.slice B3 x.cs.length d3) := (blk_cell F3 3).trans rfl
        have oe3 : W3.frozen? ⟨bo, 3, none⟩ = false := blk_frozen F3 3
        have A3 := Aside0.mk F3
        have AR := Aside0.mk FR
        have AB := Aside0.mk HBB
        have A1_ := Aside0.mk h1
        have A3_ := Aside0.mk h3
        have AO := Aside0.mk hbo
        have AG := Aside0.mk hbg
        clear F3 FR FL HBB h1 h3 hbo hbg hsz1 HO1 HO3 HB1 HB2 HG0 HG1 HF0 HF1 HFB HMY HO e1 e2 HU p0 p1 p2 p3 q0 qe0 q1 qe1 q2 qe2 q3 qe3 r0 r1 r2 r3 s0 se0 s1 se1 s2 se2 s3 se3
        go_upto_region 6 with (fail)
        have q0 := blk_put A3.out 2 (.int .i64 0) rfl
        have q1 := blk_off_ (g := bo) (i := 2) (u := .int .i64 0) AR.out AO.out
        have q2 := WrI_put_ A1_.out A3.out (by decide) 2 (.int .i64 0)
        have q3 := WrC_put_ A3_.out A3.out (by decide) 2 (.int .i64 0)
        have q4 := below_set (g := bo) (j := 2) (v := .int .i64 0) AB.out AG.out
        generalize W3.setCell ⟨bo, 2, none⟩ (.int .i64 0) = W4 at q0 q1 q2 q3 q4 ⊢
        have g0 : W4.cell? ⟨bo, 0, none⟩ = some (.int .i64 x.q) := (blk_cell q0 0).trans rfl
        have g1 : W4.cell? ⟨bo, 1, none⟩ = some (.slice B1 x.ls.length d1) := (blk_cell q0 1).trans rfl
        have g2 : W4.cell? ⟨bo, 2, none⟩ = some (.int .i64 0) := (blk_cell q0 2).trans rfl
        have g3 : W4.cell? ⟨bo, 3, none⟩ = some (.slice B3 x.cs.length d3) := (blk_cell q0 3).trans rfl
        have h0 : W4.cell? ⟨w.heap.size + 1, 0, none⟩ = some (.int .i64 0) := (blk_cell q1 0).trans rfl
        have he0 : W4.frozen? ⟨w.heap.size + 1, 0, none⟩ = false := blk_frozen q1 0
        have h1 : W4.cell? ⟨w.heap.size + 1, 1, none⟩ = some (.slice none 0 0) := (blk_cell q1 1).trans rfl
        have he1 : W4.frozen? ⟨w.heap.size + 1, 1, none⟩ = false := blk_frozen q1 1
        have h2 : W4.cell? ⟨w.heap.size + 1, 2, none⟩ = some (.int .i64 0) := (blk_cell q1 2).trans rfl
        have he2 : W4.frozen? ⟨w.heap.size + 1, 2, none⟩ = false := blk_frozen q1 2
        have h3 : W4.cell? ⟨w.heap.size + 1, 3, none⟩ = some (.slice none 0 0) := (blk_cell q1 3).trans rfl
        have he3 : W4.frozen? ⟨w.heap.size + 1, 3, none⟩ = false := blk_frozen q1 3
        have HQ := Aside0.mk (show WrL W4 w.heap.size (.agg #[.int .i64 x.q, .slice B1 x.ls.length d1, .int .i64 0, .slice B3 x.cs.length d3]) { x with k := 0 } from ⟨_, _, rfl, q2, q3⟩)
        have S1 := Aside0.mk q1
        have S4 := Aside0.mk q4
        clear q0 q1 q2 q3 q4 A3 AR AB A1_ A3_ AO AG o0 oe0 o1 oe1 o2 oe2 o3 oe3
        go_wp2_with (fail)
        refine bodyPost_ret (results_ct rfl _ _ (w.heap.size + 1) 38 #[.int .i64 x.q, .slice B1 x.ls.length d1, .int .i64 0, .slice B3 x.cs.length d3] (0, 0) _ rfl (put4_blk S1.out) Tryd.underlying38 rfl (by kernel_rfl)) rfl ?_
        exact ⟨_, by rw [HR.out]; rfl, by rw [HR.out]; exact put4_WrL HQ.out S1.out, put4_below S4.out (by omega)⟩
      case' neg =>
        have e2 : decide (0 < x.k) = false := decide_eq_false hk
        have HR := Aside0.mk (free_out_ hm (fun h => hk h.2))
        clear hm hl hl0 hk
    case' neg =>
      have e1 : ((x.ls.length : Int) == 0) = false := by simp [hl]
      have e2 := e1
      have HR := Aside0.mk (free_out_ hm (fun h => hl (by rw [h.1]; rfl)))
      clear hm hl
    all_goals
      obtain ⟨r, hr⟩ : ∃ r, turnR outdentF x = r := ⟨_, rfl⟩
      rw [hr] at HR HU
      clear hr
      go_wp2_with (first | (go_at_call 38; refine (HMY.out _ HFB.out).mono ?_; rintro e w1 ⟨rfl, hb⟩; have HB1 := Aside0.mk hb; have fb := blk_below HF0.out hb; have fz := blk_below HF1.out hb; have r0 : w1.cell? ⟨w.heap.size, 0, none⟩ = some (.int .i64 x.q) := (blk_cell fb 0).trans rfl; have r1 : w1.cell? ⟨w.heap.size, 1, none⟩ = some (.slice A1 x.ls.length c1) := (blk_cell fb 1).trans rfl; have r2 : w1.cell? ⟨w.heap.size, 2, none⟩ = some (.int .i64 x.k) := (blk_cell fb 2).trans rfl; have r3 : w1.cell? ⟨w.heap.size, 3, none⟩ = some (.slice A3 x.cs.length c3) := (blk_cell fb 3).trans rfl; have s0 : w1.cell? ⟨w.heap.size + 1, 0, none⟩ = some (.int .i64 0) := (blk_cell fz 0).trans rfl; have se0 : w1.frozen? ⟨w.heap.size + 1, 0, none⟩ = false := blk_frozen fz 0; have s1 : w1.cell? ⟨w.heap.size + 1, 1, none⟩ = some (.slice none 0 0) := (blk_cell fz 1).trans rfl; have se1 : w1.frozen? ⟨w.heap.size + 1, 1, none⟩ = false := blk_frozen fz 1; have s2 : w1.cell? ⟨w.heap.size + 1, 2, none⟩ = some (.int .i64 0) := (blk_cell fz 2).trans rfl; have se2 : w1.frozen? ⟨w.heap.size + 1, 2, none⟩ = false := blk_frozen fz 2; have s3 : w1.cell? ⟨w.heap.size + 1, 3, none⟩ = some (.slice none 0 0) := (blk_cell fz 3).trans rfl; have se3 : w1.frozen? ⟨w.heap.size + 1, 3, none⟩ = false := blk_frozen fz 3; have HG0 := Aside0.mk fb; have HG1 := Aside0.mk fz; clear hb fb fz) | (go_at_call 45; refine (HU.out _ (below_step HFB.out HB1.out)).mono ?_; rintro e w2 hbk; obtain ⟨E1, f1, E3, f3, rfl, hw, hb⟩ := hbk.low (w := w); have HW := Aside0.mk (hw.lower (below_step HFB.out HB1.out).size); have HB2 := Aside0.mk hb; have fz := blk_below HG1.out hb; have y0 : w2.cell? ⟨w.heap.size + 1, 0, none⟩ = some (.int .i64 0) := (blk_cell fz 0).trans rfl; have ye0 : w2.frozen? ⟨w.heap.size + 1, 0, none⟩ = false := blk_frozen fz 0; have y1 : w2.cell? ⟨w.heap.size + 1, 1, none⟩ = some (.slice none 0 0) := (blk_cell fz 1).trans rfl; have ye1 : w2.frozen? ⟨w.heap.size + 1, 1, none⟩ = false := blk_frozen fz 1; have y2 : w2.cell? ⟨w.heap.size + 1, 2, none⟩ = some (.int .i64 0) := (blk_cell fz 2).trans rfl; have ye2 : w2.frozen? ⟨w.heap.size + 1, 2, none⟩ = false := blk_frozen fz 2; have y3 : w2.cell? ⟨w.heap.size + 1, 3, none⟩ = some (.slice none 0 0) := (blk_cell fz 3).trans rfl; have ye3 : w2.frozen? ⟨w.heap.size + 1, 3, none⟩ = false := blk_frozen fz 3; have HG2 := Aside0.mk fz; clear hw hb fz))
      refine bodyPost_ret (results_ct rfl _ _ (w.heap.size + 1) 38 #[.int .i64 r.1.q, .slice E1 r.1.ls.length f1, .int .i64 r.1.k, .slice E3 r.1.cs.length f3] (0, 0) _ rfl (put4_blk HG2.out) Tryd.underlying38 rfl (by kernel_rfl)) rfl ?_
      exact ⟨_, by rw [HR.out]; rfl, by rw [HR.out]; exact put4_WrL HW.out HG2.out, put4_below (below_step (below_step HFB.out HB1.out) HB2.out) (by omega)⟩
end Go.Proofs.YtgdpknmffohhaaaDoor.Pl

namespace Go.Proofs.YtgdpknmffohhaaaDoor.Pl
open Go.RowKit Go.Proofs.YtgdpknmffohhaaaDoorW.PrintWords Go.Proofs.YtgdpknmffohhaaaDoorW.PrintLast Go.Proofs.YtgdpknmffohhaaaDoorW.PrintMore
attribute [local go_sem] max2_int min2_int max_two min_two max_three min_three max_four min_four   -- for this text's walks alone
set_option linter.unusedVariables false
set_option linter.unusedSimpArgs false

/-! ### quillworkref06_Indent: function 44 -/
def quillworkref06_Indent.j0 : Nat → Int → Bool → Int → List Int → Int → List (S71) → Int → List Int → Int → List (S71) → Option (Int × List Int × Int × (List (S71)) × Int)
  | 0, _, _, _, _, _, _, _, _, _, _ => none
  | k + 1, x5, x25, x341000, x341001, x341002, x341003, x352000, x352001, x352002, x352003 => if x25 = true then (some (0, ([] : List Int), 0, ([] : List (S71)), 7)) else (if x5 > 0 then (if 0 ≤ (wrap64 (x5 - 1)) then (if (wrap64 (x5 - 1)) < (x341001.length : Int) then (if x352001.length < 17592186044416 then (some (x352000, (x352001 ++ [rd x341001 (wrap64 (x5 - 1))]), x352002, x352003, 0)) else (none)) else (none)) else (none)) else (some (wrap64 (x341000 + 1), x352001, x352002, x352003, 0)))
def quillworkref06_Indent.f (k : Nat) (a0_0 : Int) (l0_1 : List Int) (a0_2 : Int) (l0_3 : List (S71)) : Option (Int × List Int × Int × (List (S71)) × Int) := (quillworkref06_May.f k a0_0 l0_1 a0_2 l0_3).bind fun t342 => (if t342 = true then ((quillworkref06_Own.f a0_0 l0_1 a0_2 l0_3).bind fun bt343 => (if (l0_1.length : Int) = 6 then (quillworkref06_Indent.j0 k (l0_1.length : Int) true a0_0 l0_1 a0_2 l0_3 bt343.1 bt343.2.1 bt343.2.2.1 bt343.2.2.2) else (if (l0_1.length : Int) = 0 then (quillworkref06_Indent.j0 k (l0_1.length : Int) (a0_0 == 6) a0_0 l0_1 a0_2 l0_3 bt343.1 bt343.2.1 bt343.2.2.1 bt343.2.2.2) else (quillworkref06_Indent.j0 k (l0_1.length : Int) false a0_0 l0_1 a0_2 l0_3 bt343.1 bt343.2.1 bt343.2.2.1 bt343.2.2.2)))) else (some (0, ([] : List Int), 0, ([] : List (S71)), 1)))
def quillworkref06_Indent.T8 : Bool × List (List Nat × List Nat) := (true, [([], []), ([0], [0]), ([], []), ([2], [2]), ([], []), ([4], [4]), ([3, 5], [3, 5]), ([6], [6]), ([7], [7]), ([1, 8], [1, 8]), ([0, 1, 2, 3, 4, 5, 6, 7, 8, 9], []), ([10, 9, 9, 0, 1, 2, 3, 4, 5, 6, 7, 8, 9], [9, 10])])
def quillworkref06_Indent.B8 : List Nat := [0, 1, 0, 4, 0, 16, 60, 124, 252, 511, 1023, 2047]
theorem quillworkref06_Indent.tab8 : rtab .any (opsOf Tryd.f44 8) = quillworkref06_Indent.T8 := by kernel_rfl
theorem quillworkref06_Indent.bits8 : waitsOk quillworkref06_Indent.T8.2 quillworkref06_Indent.B8 = true := by kernel_rfl
set_option maxHeartbeats 8000000 in
set_option maxRecDepth 100000 in
theorem quillworkref06_Indent.calls (k : Nat) (a0_0 : Int) (A0_1 : Option Addr) (c0_1 : Nat) (l0_1 : List Int) (a0_2 : Int) (A0_3 : Option Addr) (c0_3 : Nat) (l0_3 : List (S71)) (r1 : Int) (r2 : List Int) (r3 : Int) (r4 : List (S71)) (r5 : Int) (w : World) (hr0_1 : Kd.C (Kd.int .i64) w A0_1 l0_1.length l0_1) (hc0_1 : l0_1.length ≤ c0_1) (hr0_3 : Kd.C k71 w A0_3 l0_3.length l0_3) (hc0_3 : l0_3.length ≤ c0_3) (h : quillworkref06_Indent.f k a0_0 l0_1 a0_2 l0_3 = some (r1, r2, r3, r4, r5)) :
    Calls Tryd.prog 44 #[.agg #[.int .i64 a0_0, .slice A0_1 l0_1.length c0_1, .int .i64 a0_2, .slice A0_3 l0_3.length c0_3]] w fun e w' => ∃ v1_ v3_ : Value, e = .returned (.tuple #[.agg #[.int .i64 r1, v1_, .int .i64 r3, v3_], .int .i64 r5]) ∧ Kd.R (Kd.int .i64) 3 w' w.heap.size (fun _ => True) v1_ r2 ∧ Kd.R k71 71 w' w.heap.size (fun _ => True) v3_ r4 ∧ Below w.heap.size w w' := by
  have hu38 := Tryd.underlying38
  have HR0_1 := Aside0.mk hr0_1
  have HC0_1 := Aside0.mk hc0_1
  clear hr0_1 hc0_1
  have HR0_3 := Aside0.mk hr0_3
  have HC0_3 := Aside0.mk hc0_3
  clear hr0_3 hc0_3
  have HB := Aside0.mk (Below.refl w.heap.size w)
  have H : ((quillworkref06_May.f k a0_0 l0_1 a0_2 l0_3).bind fun t342 => (if t342 = true then ((quillworkref06_Own.f a0_0 l0_1 a0_2 l0_3).bind fun bt343 => (if (l0_1.length : Int) = 6 then (quillworkref06_Indent.j0 k (l0_1.length : Int) true a0_0 l0_1 a0_2 l0_3 bt343.1 bt343.2.1 bt343.2.2.1 bt343.2.2.2) else (if (l0_1.length : Int) = 0 then (quillworkref06_Indent.j0 k (l0_1.length : Int) (a0_0 == 6) a0_0 l0_1 a0_2 l0_3 bt343.1 bt343.2.1 bt343.2.2.1 bt343.2.2.2) else (quillworkref06_Indent.j0 k (l0_1.length : Int) false a0_0 l0_1 a0_2 l0_3 bt343.1 bt343.2.1 bt343.2.2.1 bt343.2.2.2)))) else (some (0, ([] : List Int), 0, ([] : List (S71)), 1)))) = some (r1, r2, r3, r4, r5) := h
  clear h
  replace H := Option.bind_eq_some_iff.mp H
  obtain ⟨t342, A20, H⟩ := H
  replace H : (if t342 = true then ((quillworkref06_Own.f a0_0 l0_1 a0_2 l0_3).bind fun bt343 => (if (l0_1.length : Int) = 6 then (quillworkref06_Indent.j0 k (l0_1.length : Int) true a0_0 l0_1 a0_2 l0_3 bt343.1 bt343.2.1 bt343.2.2.1 bt343.2.2.2) else (if (l0_1.length : Int) = 0 then (quillworkref06_Indent.j0 k (l0_1.length : Int) (a0_0 == 6) a0_0 l0_1 a0_2 l0_3 bt343.1 bt343.2.1 bt343.2.2.1 bt343.2.2.2) else (quillworkref06_Indent.j0 k (l0_1.length : Int) false a0_0 l0_1 a0_2 l0_3 bt343.1 bt343.2.1 bt343.2.2.1 bt343.2.2.2)))) else (some (0, ([] : List Int), 0, ([] : List (S71)), 1))) = some (r1, r2, r3, r4, r5) := H
  have A2 := Aside0.mk A20
  clear A20
  by_cases c3 : t342 = true
  · subst c3
    have H1 : ((quillworkref06_Own.f a0_0 l0_1 a0_2 l0_3).bind fun bt343 => (if (l0_1.length : Int) = 6 then (quillworkref06_Indent.j0 k (l0_1.length : Int) true a0_0 l0_1 a0_2 l0_3 bt343.1 bt343.2.1 bt343.2.2.1 bt343.2.2.2) else (if (l0_1.length : Int) = 0 then (quillworkref06_Indent.j0 k (l0_1.length : Int) (a0_0 == 6) a0_0 l0_1 a0_2 l0_3 bt343.1 bt343.2.1 bt343.2.2.1 bt343.2.2.2) else (quillworkref06_Indent.j0 k (l0_1.length : Int) false a0_0 l0_1 a0_2 l0_3 bt343.1 bt343.2.1 bt343.2.2.1 bt343.2.2.2)))) = some (r1, r2, r3, r4, r5) := by rw [if_pos rfl] at H; exact H
    clear H
    have H := H1
    clear H1
    replace H := Option.bind_eq_some_iff.mp H
    obtain ⟨⟨t343, t344, t347, t348⟩, A40, H⟩ := H
    replace H : (if (l0_1.length : Int) = 6 then (quillworkref06_Indent.j0 k (l0_1.length : Int) true a0_0 l0_1 a0_2 l0_3 t343 t344 t347 t348) else (if (l0_1.length : Int) = 0 then (quillworkref06_Indent.j0 k (l0_1.length : Int) (a0_0 == 6) a0_0 l0_1 a0_2 l0_3 t343 t344 t347 t348) else (quillworkref06_Indent.j0 k (l0_1.length : Int) false a0_0 l0_1 a0_2 l0_3 t343 t344 t347 t348))) = some (r1, r2, r3, r4, r5) := H
    have A4 := Aside0.mk A40
    clear A40
    have HC5 := Aside0.mk H
    clear H
    go_enter Tryd.func44, Tryd.ntmps44
    go_upto_region 5 with (first | ((with_reducible refine gate_dst (N := 1) rfl ?_); refine box_event ?hg (N := 1) ?hd (cs := #[.int .i64 a0_0, .slice A0_1 l0_1.length c0_1, .int .i64 a0_2, .slice A0_3 l0_3.length c0_3]) (t := 38) ?hr ?_; (case hd => rfl); (case hg => rfl); (case hr => first | (go_simp; done) | (go_simp; rfl)); intro gb340 hg w6 hbox hb; have n0_ := Aside0.mk (below_step (by repeat (first | (with_reducible first | exact HB.out | apply below_alloc | apply pw_below_drewN | apply below_drew1) | exact HB.out)) hb); have n1_ := Aside0.mk (hbox); have n2_ := Aside0.mk ((by rw [hg]; exact (below_size (by repeat (first | (with_reducible first | exact HB.out | apply below_alloc | apply pw_below_drewN | apply below_drew1) | exact HB.out))) : w.heap.size ≤ gb340)); have n3_ := Aside0.mk ((by rw [hg]; exact (below_size (by repeat (first | (with_reducible first | exact HB.out | apply below_alloc | apply pw_below_drewN | apply below_drew1) | exact HB.out))) : w.heap.size ≤ gb340)); clear HB; have HB := n0_; have BK340 := n1_; have GW340 := n2_; have GE340 := n3_; clear n0_ n1_ n2_ n3_; clear hb hbox hg) | ((with_reducible refine gate_dst (N := 2) rfl ?_); refine box_event ?hg (N := 2) ?hd (cs := #[.int .i64 0, .slice none 0 0, .int .i64 0, .slice none 0 0]) (t := 38) ?hr ?_; (case hd => rfl); (case hg => rfl); (case hr => first | (go_simp; done) | (go_simp; rfl)); intro gb341 hg w7 hbox hb; have n0_ := Aside0.mk (blk_below (g := gb340) (o := .cells #[.int .i64 a0_0, .slice A0_1 l0_1.length c0_1, .int .i64 a0_2, .slice A0_3 l0_3.length c0_3] 38 (0, 0)) (by (with_reducible repeat (first | refine blk_drewN ?_ _ | refine blk_drew ?_ | refine blk_alloc ?_ _)); exact BK340.out) hb); have n1_ := Aside0.mk (below_step (by repeat (first | (with_reducible first | exact HB.out | apply below_alloc | apply pw_below_drewN | apply below_drew1 | refine below_set ?_ GE340.out) | exact HB.out)) hb); have n2_ := Aside0.mk (hbox); have n3_ := Aside0.mk ((by rw [hg]; exact (below_size (by repeat (first | (with_reducible first | exact HB.out | apply below_alloc | apply pw_below_drewN | apply below_drew1 | refine below_set ?_ GE340.out) | exact HB.out))) : w.heap.size ≤ gb341)); have n4_ := Aside0.mk ((by rw [hg]; exact (below_size (by repeat (first | (with_reducible first | exact HB.out | apply below_alloc | apply pw_below_drewN | apply below_drew1 | refine below_set ?_ GE340.out) | exact HB.out))) : w.heap.size ≤ gb341)); have n5_ := Aside0.mk ((by rw [hg]; exact Nat.ne_of_lt (blk_lt (g := gb340) (o := .cells #[.int .i64 a0_0, .slice A0_1 l0_1.length c0_1, .int .i64 a0_2, .slice A0_3 l0_3.length c0_3] 38 (0, 0)) (by (with_reducible repeat (first | refine blk_drewN ?_ _ | refine blk_drew ?_ | refine blk_alloc ?_ _)); exact BK340.out)) : gb340 ≠ gb341)); have n6_ := Aside0.mk ((by rw [hg]; exact Nat.ne_of_gt (blk_lt (g := gb340) (o := .cells #[.int .i64 a0_0, .slice A0_1 l0_1.length c0_1, .int .i64 a0_2, .slice A0_3 l0_3.length c0_3] 38 (0, 0)) (by (with_reducible repeat (first | refine blk_drewN ?_ _ | refine blk_drew ?_ | refine blk_alloc ?_ _)); exact BK340.out)) : gb341 ≠ gb340)); clear BK340; clear HB; have BK340 := n0_; have HB := n1_; have BK341 := n2_; have GW341 := n3_; have GE341 := n4_; have NB340_341 := n5_; have NB341_340 := n6_; clear n0_ n1_ n2_ n3_ n4_ n5_ n6_; clear hb hbox hg; have hnb8 := NB340_341.out; have hnc8 := NB341_340.out; have hcz9_0 : w7.cell? ⟨gb340, 0, none⟩ = some (.int .i64 a0_0) := (blk_cell BK340.out 0).trans rfl; have hcz9_1 : w7.cell? ⟨gb340, 1, none⟩ = some (.slice A0_1 l0_1.length c0_1) := (blk_cell BK340.out 1).trans rfl; have hcz9_2 : w7.cell? ⟨gb340, 2, none⟩ = some (.int .i64 a0_2) := (blk_cell BK340.out 2).trans rfl; have hcz9_3 : w7.cell? ⟨gb340, 3, none⟩ = some (.slice A0_3 l0_3.length c0_3) := (blk_cell BK340.out 3).trans rfl; have hfz9_0 := blk_frozen BK340.out 0; have hfz9_1 := blk_frozen BK340.out 1; have hfz9_2 := blk_frozen BK340.out 2; have hfz9_3 := blk_frozen BK340.out 3) | ((with_reducible refine gate_callee (f := 38) rfl ?_); refine goesL_ (some 7) rfl rfl Tryd.func38 (by kernel_rfl) rfl #[.agg #[.int .i64 a0_0, .slice A0_1 l0_1.length c0_1, .int .i64 a0_2, .slice A0_3 l0_3.length c0_3]] rfl (by (try simp only [List.map_toArray, List.map_cons, List.map_nil]); first | done | rfl | (simp only [List.length_drop, List.length_take]; rfl)) ?_; (with_reducible refine (quillworkref06_May.calls k a0_0 _ _ l0_1 a0_2 _ _ l0_3 true _ ?side1 ?side2 ?side3 ?side4 A2.out).mono ?_); (case side1 => repeat (first | exact (Kd.C_below HR0_1.out HB.out) | (with_reducible refine Kd.C_alloc ?_ _) | (with_reducible refine Kd.C_drewN ?_ _) | (with_reducible refine Kd.C_drew ?_))); (case side2 => exact HC0_1.out); (case side3 => repeat (first | exact (Kd.C_below HR0_3.out HB.out) | (with_reducible refine Kd.C_alloc ?_ _) | (with_reducible refine Kd.C_drewN ?_ _) | (with_reducible refine Kd.C_drew ?_))); (case side4 => exact HC0_3.out); rintro e w10 ⟨rfl, hb⟩; refine ⟨_, rfl, ?_⟩; have n0_ := Aside0.mk (blk_below (g := gb340) (o := .cells #[.int .i64 a0_0, .slice A0_1 l0_1.length c0_1, .int .i64 a0_2, .slice A0_3 l0_3.length c0_3] 38 (0, 0)) (by (with_reducible repeat (first | refine blk_drewN ?_ _ | refine blk_drew ?_ | refine blk_alloc ?_ _)); exact BK340.out) hb); have n1_ := Aside0.mk (blk_below (g := gb341) (o := .cells #[.int .i64 0, .slice none 0 0, .int .i64 0, .slice none 0 0] 38 (0, 0)) (by (with_reducible repeat (first | refine blk_drewN ?_ _ | refine blk_drew ?_ | refine blk_alloc ?_ _)); exact BK341.out) hb); have n2_ := Aside0.mk (below_step (by repeat (first | (with_reducible first | exact HB.out | apply below_alloc | apply pw_below_drewN | apply below_drew1 | refine below_set ?_ GE340.out | refine below_set ?_ GE341.out) | exact HB.out)) hb); clear BK340; clear BK341; clear HB; have BK340 := n0_; have BK341 := n1_; have HB := n2_; clear n0_ n1_ n2_; (try clear hb); (try clear hb2); (try clear hk); (try clear hi); have hcz11_0 : w10.cell? ⟨gb340, 0, none⟩ = some (.int .i64 a0_0) := (blk_cell BK340.out 0).trans rfl; have hcz11_1 : w10.cell? ⟨gb340, 1, none⟩ = some (.slice A0_1 l0_1.length c0_1) := (blk_cell BK340.out 1).trans rfl; have hcz11_2 : w10.cell? ⟨gb340, 2, none⟩ = some (.int .i64 a0_2) := (blk_cell BK340.out 2).trans rfl; have hcz11_3 : w10.cell? ⟨gb340, 3, none⟩ = some (.slice A0_3 l0_3.length c0_3) := (blk_cell BK340.out 3).trans rfl; have hfz11_0 := blk_frozen BK340.out 0; have hfz11_1 := blk_frozen BK340.out 1; have hfz11_2 := blk_frozen BK340.out 2; have hfz11_3 := blk_frozen BK340.out 3) | ((with_reducible refine gate_callee (f := 26) rfl ?_); refine goesL_ (some 11) rfl rfl Tryd.func26 (by kernel_rfl) rfl #[.agg #[.int .i64 a0_0, .slice A0_1 l0_1.length c0_1, .int .i64 a0_2, .slice A0_3 l0_3.length c0_3]] rfl (by (try simp only [List.map_toArray, List.map_cons, List.map_nil]); first | done | rfl | (simp only [List.length_drop, List.length_take]; rfl)) ?_; (with_reducible refine (quillworkref06_Own.calls a0_0 _ _ l0_1 a0_2 _ _ l0_3 t343 t344 t347 t348 _ ?side1 ?side2 ?side3 ?side4 A4.out).mono ?_); (case side1 => repeat (first | exact (Kd.C_below HR0_1.out HB.out) | (with_reducible refine Kd.C_alloc ?_ _) | (with_reducible refine Kd.C_drewN ?_ _) | (with_reducible refine Kd.C_drew ?_))); (case side2 => exact HC0_1.out); (case side3 => repeat (first | exact (Kd.C_below HR0_3.out HB.out) | (with_reducible refine Kd.C_alloc ?_ _) | (with_reducible refine Kd.C_drewN ?_ _) | (with_reducible refine Kd.C_drew ?_))); (case side4 => exact HC0_3.out); rintro e w12 ⟨v345, v349, rfl, ho0, ho1, hb⟩; refine ⟨_, rfl, ?_⟩; have n0_ := Aside0.mk (Kd.R_lower ho0 (below_size (by repeat (first | (with_reducible first | exact HB.out | apply below_alloc | apply pw_below_drewN | apply below_drew1 | refine below_set ?_ GE340.out | refine below_set ?_ GE341.out) | exact HB.out)))); have n1_ := Aside0.mk (Kd.R_lower ho1 (below_size (by repeat (first | (with_reducible first | exact HB.out | apply below_alloc | apply pw_below_drewN | apply below_drew1 | refine below_set ?_ GE340.out | refine below_set ?_ GE341.out) | exact HB.out)))); have n2_ := Aside0.mk (blk_below (g := gb340) (o := .cells #[.int .i64 a0_0, .slice A0_1 l0_1.length c0_1, .int .i64 a0_2, .slice A0_3 l0_3.length c0_3] 38 (0, 0)) (by (with_reducible repeat (first | refine blk_drewN ?_ _ | refine blk_drew ?_ | refine blk_alloc ?_ _)); exact BK340.out) hb); have n3_ := Aside0.mk (blk_below (g := gb341) (o := .cells #[.int .i64 0, .slice none 0 0, .int .i64 0, .slice none 0 0] 38 (0, 0)) (by (with_reducible repeat (first | refine blk_drewN ?_ _ | refine blk_drew ?_ | refine blk_alloc ?_ _)); exact BK341.out) hb); have n4_ := Aside0.mk (below_step (by repeat (first | (with_reducible first | exact HB.out | apply below_alloc | apply pw_below_drewN | apply below_drew1 | refine below_set ?_ GE340.out | refine below_set ?_ GE341.out) | exact HB.out)) hb); clear BK340; clear BK341; clear HB; have HO346 := n0_; have HO350 := n1_; have BK340 := n2_; have BK341 := n3_; have HB := n4_; clear n0_ n1_ n2_ n3_ n4_; (try clear hb); (try clear hb2); (try clear hk); (try clear hi); (try clear ho0); (try clear ho1)) | ((with_reducible refine gate_dst (N := 4) rfl ?_); refine box_event ?hg (N := 4) ?hd (cs := #[.int .i64 0, .slice none 0 0, .int .i64 0, .slice none 0 0]) (t := 38) ?hr ?_; (case hd => rfl); (case hg => rfl); (case hr => first | (go_simp; done) | (go_simp; rfl)); intro gb351 hg w13 hbox hb; have n0_ := Aside0.mk (Kd.R_below (by (with_reducible repeat (first | apply Kd.R_alloc | apply Kd.R_drewN | apply Kd.R_drew)); exact HO346.out) hb); have n1_ := Aside0.mk (Kd.R_below (by (with_reducible repeat (first | apply Kd.R_alloc | apply Kd.R_drewN | apply Kd.R_drew)); exact HO350.out) hb); have n2_ := Aside0.mk (blk_below (g := gb340) (o := .cells #[.int .i64 a0_0, .slice A0_1 l0_1.length c0_1, .int .i64 a0_2, .slice A0_3 l0_3.length c0_3] 38 (0, 0)) (by (with_reducible repeat (first | refine blk_drewN ?_ _ | refine blk_drew ?_ | refine blk_alloc ?_ _)); exact BK340.out) hb); have n3_ := Aside0.mk (blk_below (g := gb341) (o := .cells #[.int .i64 0, .slice none 0 0, .int .i64 0, .slice none 0 0] 38 (0, 0)) (by (with_reducible repeat (first | refine blk_drewN ?_ _ | refine blk_drew ?_ | refine blk_alloc ?_ _)); exact BK341.out) hb); have n4_ := Aside0.mk (below_step (by repeat (first | (with_reducible first | exact HB.out | apply below_alloc | apply pw_below_drewN | apply below_drew1 | refine below_set ?_ GE340.out | refine below_set ?_ GE341.out) | exact HB.out)) hb); have n5_ := Aside0.mk (hbox); have n6_ := Aside0.mk ((by rw [hg]; exact (below_size (by repeat (first | (with_reducible first | exact HB.out | apply below_alloc | apply pw_below_drewN | apply below_drew1 | refine below_set ?_ GE340.out | refine below_set ?_ GE341.out) | exact HB.out))) : w.heap.size ≤ gb351)); have n7_ := Aside0.mk ((by rw [hg]; exact (below_size (by repeat (first | (with_reducible first | exact HB.out | apply below_alloc | apply pw_below_drewN | apply below_drew1 | refine below_set ?_ GE340.out | refine below_set ?_ GE341.out) | exact HB.out))) : w.heap.size ≤ gb351)); have n8_ := Aside0.mk ((by rw [hg]; exact Nat.ne_of_lt (blk_lt (g := gb340) (o := .cells #[.int .i64 a0_0, .slice A0_1 l0_1.length c0_1, .int .i64 a0_2, .slice A0_3 l0_3.length c0_3] 38 (0, 0)) (by (with_reducible repeat (first | refine blk_drewN ?_ _ | refine blk_drew ?_ | refine blk_alloc ?_ _)); exact BK340.out)) : gb340 ≠ gb351)); have n9_ := Aside0.mk ((by rw [hg]; exact Nat.ne_of_gt (blk_lt (g := gb340) (o := .cells #[.int .i64 a0_0, .slice A0_1 l0_1.length c0_1, .int .i64 a0_2, .slice A0_3 l0_3.length c0_3] 38 (0, 0)) (by (with_reducible repeat (first | refine blk_drewN ?_ _ | refine blk_drew ?_ | refine blk_alloc ?_ _)); exact BK340.out)) : gb351 ≠ gb340)); have n10_ := Aside0.mk ((by rw [hg]; exact Nat.ne_of_lt (blk_lt (g := gb341) (o := .cells #[.int .i64 0, .slice none 0 0, .int .i64 0, .slice none 0 0] 38 (0, 0)) (by (with_reducible repeat (first | refine blk_drewN ?_ _ | refine blk_drew ?_ | refine blk_alloc ?_ _)); exact BK341.out)) : gb341 ≠ gb351)); have n11_ := Aside0.mk ((by rw [hg]; exact Nat.ne_of_gt (blk_lt (g := gb341) (o := .cells #[.int .i64 0, .slice none 0 0, .int .i64 0, .slice none 0 0] 38 (0, 0)) (by (with_reducible repeat (first | refine blk_drewN ?_ _ | refine blk_drew ?_ | refine blk_alloc ?_ _)); exact BK341.out)) : gb351 ≠ gb341)); clear HO346; clear HO350; clear BK340; clear BK341; clear HB; have HO346 := n0_; have HO350 := n1_; have BK340 := n2_; have BK341 := n3_; have HB := n4_; have BK351 := n5_; have GW351 := n6_; have GE351 := n7_; have NB340_351 := n8_; have NB351_340 := n9_; have NB341_351 := n10_; have NB351_341 := n11_; clear n0_ n1_ n2_ n3_ n4_ n5_ n6_ n7_ n8_ n9_ n10_ n11_; clear hb hbox hg; have hnb14 := NB351_340.out; have hnc14 := NB340_351.out; have hnb15 := NB351_341.out; have hnc15 := NB341_351.out; have hcz16_0 : w13.cell? ⟨gb351, 0, none⟩ = some (.int .i64 0) := (blk_cell BK351.out 0).trans rfl; have hcz16_1 : w13.cell? ⟨gb351, 1, none⟩ = some (.slice none 0 0) := (blk_cell BK351.out 1).trans rfl; have hcz16_2 : w13.cell? ⟨gb351, 2, none⟩ = some (.int .i64 0) := (blk_cell BK351.out 2).trans rfl; have hcz16_3 : w13.cell? ⟨gb351, 3, none⟩ = some (.slice none 0 0) := (blk_cell BK351.out 3).trans rfl; have hfz16_0 := blk_frozen BK351.out 0; have hfz16_1 := blk_frozen BK351.out 1; have hfz16_2 := blk_frozen BK351.out 2; have hfz16_3 := blk_frozen BK351.out 3; obtain ⟨Ao17, co17, eo17⟩ := Kd.R_slice HO346.out; subst eo17; obtain ⟨Ao18, co18, eo18⟩ := Kd.R_slice HO350.out; subst eo18; have hcz19_0 : w13.cell? ⟨gb340, 0, none⟩ = some (.int .i64 a0_0) := (blk_cell BK340.out 0).trans rfl; have hcz19_1 : w13.cell? ⟨gb340, 1, none⟩ = some (.slice A0_1 l0_1.length c0_1) := (blk_cell BK340.out 1).trans rfl; have hcz19_2 : w13.cell? ⟨gb340, 2, none⟩ = some (.int .i64 a0_2) := (blk_cell BK340.out 2).trans rfl; have hcz19_3 : w13.cell? ⟨gb340, 3, none⟩ = some (.slice A0_3 l0_3.length c0_3) := (blk_cell BK340.out 3).trans rfl; have hfz19_0 := blk_frozen BK340.out 0; have hfz19_1 := blk_frozen BK340.out 1; have hfz19_2 := blk_frozen BK340.out 2; have hfz19_3 := blk_frozen BK340.out 3))
    (try simp only [Act.put, List.setIfInBounds_toArray, List.set_cons_zero, List.set_cons_succ])
    go_cut [25] (fun v25 wc => ∃ (kq : Nat) (x25_4 : Bool), v25 = .bool x25_4 ∧ Aside0 (quillworkref06_Indent.j0 kq (l0_1.length : Int) x25_4 a0_0 l0_1 a0_2 l0_3 t343 t344 t347 t348 = some (r1, r2, r3, r4, r5)) ∧ Aside0 (kq ≤ k) ∧ Aside0 (Kd.R (Kd.int .i64) 3 wc w.heap.size (fun _ => True) (.slice Ao17 t344.length co17) t344) ∧ Aside0 (Kd.R k71 71 wc w.heap.size (fun _ => True) (.slice Ao18 t348.length co18) t348) ∧ Aside0 (wc.heap[gb340]? = some (.cells #[.int .i64 a0_0, (.slice A0_1 l0_1.length c0_1), .int .i64 a0_2, (.slice A0_3 l0_3.length c0_3)] 38 (0, 0))) ∧ Aside0 (wc.heap[gb341]? = some (.cells #[.int .i64 0, (.slice none 0 0), .int .i64 0, (.slice none 0 0)] 38 (0, 0))) ∧ Aside0 (wc.heap[gb351]? = some (.cells #[.int .i64 t343, (.slice Ao17 t344.length co17), .int .i64 t347, (.slice Ao18 t348.length co18)] 38 (0, 0))) ∧ Aside0 (Below w.heap.size w wc))
    case first =>
      have H := HC5.out
      clear HC5
      by_cases c20 : (l0_1.length : Int) = 6
      · rw [if_pos c20] at H
        have c20b0 : ((l0_1.length : Int) == 6) = true := beq_iff_eq.mpr c20
        have c20b1 : ((l0_1.length : Int) != 6) = false := bne_eq_false_iff_eq.mpr c20
        clear c20
        (first | rw [c20b0] | (simp only [i64_w, i32_w]; rw [c20b0]) | skip)
        have H' := Aside0.mk H
        clear H
        go_wp2
        go_meet
        case rel => exact ⟨_, (true), (by first | rfl | (simp; done) | (simp [*]; done)), H', ⟨by first | omega | exact Nat.le_refl _⟩, ⟨by (with_reducible repeat (first | apply Kd.R_alloc | apply Kd.R_drewN | apply Kd.R_drew)); exact Kd.R_mono (Kd.R_far (p := ⟨gb351, 3, none⟩) (Kd.R_far (p := ⟨gb351, 2, none⟩) (Kd.R_far (p := ⟨gb351, 1, none⟩) (Kd.R_far (p := ⟨gb351, 0, none⟩) (Kd.R_types HO346.out BK351.out (by decide)) (fun _ hk => hk.2) (.int .i64 t343)) (fun _ hk => hk.2) (.slice Ao17 t344.length co17)) (fun _ hk => hk.2) (.int .i64 t347)) (fun _ hk => hk.2) (.slice Ao18 t348.length co18)) (fun _ hk => trivial)⟩, ⟨by (with_reducible repeat (first | apply Kd.R_alloc | apply Kd.R_drewN | apply Kd.R_drew)); exact Kd.R_mono (Kd.R_far (p := ⟨gb351, 3, none⟩) (Kd.R_far (p := ⟨gb351, 2, none⟩) (Kd.R_far (p := ⟨gb351, 1, none⟩) (Kd.R_far (p := ⟨gb351, 0, none⟩) (Kd.R_types HO350.out BK351.out (by decide)) (fun _ hk => hk.2) (.int .i64 t343)) (fun _ hk => hk.2) (.slice Ao17 t344.length co17)) (fun _ hk => hk.2) (.int .i64 t347)) (fun _ hk => hk.2) (.slice Ao18 t348.length co18)) (fun _ hk => trivial)⟩, ⟨by (with_reducible repeat (first | refine blk_drewN ?_ _ | refine blk_drew ?_ | refine blk_alloc ?_ _)); refine blk_far ?_ NB340_351.out _; (with_reducible repeat (first | refine blk_drewN ?_ _ | refine blk_drew ?_ | refine blk_alloc ?_ _)); refine blk_far ?_ NB340_351.out _; (with_reducible repeat (first | refine blk_drewN ?_ _ | refine blk_drew ?_ | refine blk_alloc ?_ _)); refine blk_far ?_ NB340_351.out _; (with_reducible repeat (first | refine blk_drewN ?_ _ | refine blk_drew ?_ | refine blk_alloc ?_ _)); refine blk_far ?_ NB340_351.out _; (with_reducible repeat (first | refine blk_drewN ?_ _ | refine blk_drew ?_ | refine blk_alloc ?_ _)); exact BK340.out⟩, ⟨by (with_reducible repeat (first | refine blk_drewN ?_ _ | refine blk_drew ?_ | refine blk_alloc ?_ _)); refine blk_far ?_ NB341_351.out _; (with_reducible repeat (first | refine blk_drewN ?_ _ | refine blk_drew ?_ | refine blk_alloc ?_ _)); refine blk_far ?_ NB341_351.out _; (with_reducible repeat (first | refine blk_drewN ?_ _ | refine blk_drew ?_ | refine blk_alloc ?_ _)); refine blk_far ?_ NB341_351.out _; (with_reducible repeat (first | refine blk_drewN ?_ _ | refine blk_drew ?_ | refine blk_alloc ?_ _)); refine blk_far ?_ NB341_351.out _; (with_reducible repeat (first | refine blk_drewN ?_ _ | refine blk_drew ?_ | refine blk_alloc ?_ _)); exact BK341.out⟩, ⟨by (with_reducible repeat (first | refine blk_drewN ?_ _ | refine blk_drew ?_ | refine blk_alloc ?_ _)); refine blk_put (cs := #[.int .i64 t343, .slice Ao17 t344.length co17, .int .i64 t347, .slice none 0 0]) ?_ 3 _ rfl; (with_reducible repeat (first | refine blk_drewN ?_ _ | refine blk_drew ?_ | refine blk_alloc ?_ _)); refine blk_put (cs := #[.int .i64 t343, .slice Ao17 t344.length co17, .int .i64 0, .slice none 0 0]) ?_ 2 _ rfl; (with_reducible repeat (first | refine blk_drewN ?_ _ | refine blk_drew ?_ | refine blk_alloc ?_ _)); refine blk_put (cs := #[.int .i64 t343, .slice none 0 0, .int .i64 0, .slice none 0 0]) ?_ 1 _ rfl; (with_reducible repeat (first | refine blk_drewN ?_ _ | refine blk_drew ?_ | refine blk_alloc ?_ _)); refine blk_put (cs := #[.int .i64 0, .slice none 0 0, .int .i64 0, .slice none 0 0]) ?_ 0 _ rfl; (with_reducible repeat (first | refine blk_drewN ?_ _ | refine blk_drew ?_ | refine blk_alloc ?_ _)); exact BK351.out⟩, ⟨by repeat (first | (with_reducible first | exact HB.out | apply below_alloc | apply pw_below_drewN | apply below_drew1 | refine below_set ?_ GE340.out | refine below_set ?_ GE341.out | refine below_set ?_ GE351.out) | exact HB.out)⟩⟩
      · rw [if_neg c20] at H
        have c20b0 : ((l0_1.length : Int) == 6) = false := beq_eq_false_iff_ne.mpr c20
        have c20b1 : ((l0_1.length : Int) != 6) = true := bne_iff_ne.mpr c20
        (first | rw [c20b0] | (simp only [i64_w, i32_w]; rw [c20b0]) | skip)
        by_cases c21 : (l0_1.length : Int) = 0
        · rw [if_pos c21] at H
          have c21b0 : ((l0_1.length : Int) == 0) = true := beq_iff_eq.mpr c21
          have c21b1 : ((l0_1.length : Int) != 0) = false := bne_eq_false_iff_eq.mpr c21
          clear c21
          have H' := Aside0.mk H
          clear H
          have hnb22 := NB340_341.out
          have hnc22 := NB341_340.out
          have hnb23 := NB340_351.out
          have hnc23 := NB351_340.out
          have hcz24_0 : w13.cell? ⟨gb340, 0, none⟩ = some (.int .i64 a0_0) := (blk_cell BK340.out 0).trans rfl
          have hcz24_1 : w13.cell? ⟨gb340, 1, none⟩ = some (.slice A0_1 l0_1.length c0_1) := (blk_cell BK340.out 1).trans rfl
          have hcz24_2 : w13.cell? ⟨gb340, 2, none⟩ = some (.int .i64 a0_2) := (blk_cell BK340.out 2).trans rfl
          have hcz24_3 : w13.cell? ⟨gb340, 3, none⟩ = some (.slice A0_3 l0_3.length c0_3) := (blk_cell BK340.out 3).trans rfl
          have hfz24_0 := blk_frozen BK340.out 0
          have hfz24_1 := blk_frozen BK340.out 1
          have hfz24_2 := blk_frozen BK340.out 2
          have hfz24_3 := blk_frozen BK340.out 3
          go_wp2
          go_meet
          case rel => exact ⟨_, ((a0_0 == 6)), (by first | rfl | (simp; done) | (simp [*]; done)), H', ⟨by first | omega | exact Nat.le_refl _⟩, ⟨by (with_reducible repeat (first | apply Kd.R_alloc | apply Kd.R_drewN | apply Kd.R_drew)); exact Kd.R_mono (Kd.R_far (p := ⟨gb351, 3, none⟩) (Kd.R_far (p := ⟨gb351, 2, none⟩) (Kd.R_far (p := ⟨gb351, 1, none⟩) (Kd.R_far (p := ⟨gb351, 0, none⟩) (Kd.R_types HO346.out BK351.out (by decide)) (fun _ hk => hk.2) (.int .i64 t343)) (fun _ hk => hk.2) (.slice Ao17 t344.length co17)) (fun _ hk => hk.2) (.int .i64 t347)) (fun _ hk => hk.2) (.slice Ao18 t348.length co18)) (fun _ hk => trivial)⟩, ⟨by (with_reducible repeat (first | apply Kd.R_alloc | apply Kd.R_drewN | apply Kd.R_drew)); exact Kd.R_mono (Kd.R_far (p := ⟨gb351, 3, none⟩) (Kd.R_far (p := ⟨gb351, 2, none⟩) (Kd.R_far (p := ⟨gb351, 1, none⟩) (Kd.R_far (p := ⟨gb351, 0, none⟩) (Kd.R_types HO350.out BK351.out (by decide)) (fun _ hk => hk.2) (.int .i64 t343)) (fun _ hk => hk.2) (.slice Ao17 t344.length co17)) (fun _ hk => hk.2) (.int .i64 t347)) (fun _ hk => hk.2) (.slice Ao18 t348.length co18)) (fun _ hk => trivial)⟩, ⟨by (with_reducible repeat (first | refine blk_drewN ?_ _ | refine blk_drew ?_ | refine blk_alloc ?_ _)); refine blk_far ?_ NB340_351.out _; (with_reducible repeat (first | refine blk_drewN ?_ _ | refine blk_drew ?_ | refine blk_alloc ?_ _)); refine blk_far ?_ NB340_351.out _; (with_reducible repeat (first | refine blk_drewN ?_ _ | refine blk_drew ?_ | refine blk_alloc ?_ _)); refine blk_far ?_ NB340_351.out _; (with_reducible repeat (first | refine blk_drewN ?_ _ | refine blk_drew ?_ | refine blk_alloc ?_ _)); refine blk_far ?_ NB340_351.out _; (with_reducible repeat (first | refine blk_drewN ?_ _ | refine blk_drew ?_ | refine blk_alloc ?_ _)); exact BK340.out⟩, ⟨by (with_reducible repeat (first | refine blk_drewN ?_ _ | refine blk_drew ?_ | refine blk_alloc ?_ _)); refine blk_far ?_ NB341_351.out _; (with_reducible repeat (first | refine blk_drewN ?_ _ | refine blk_drew ?_ | refine blk_alloc ?_ _)); refine blk_far ?_ NB341_351.out _; (with_reducible repeat (first | refine blk_drewN ?_ _ | refine blk_drew ?_ | refine blk_alloc ?_ _)); refine blk_far ?_ NB341_351.out _; (with_reducible repeat (first | refine blk_drewN ?_ _ | refine blk_drew ?_ | refine blk_alloc ?_ _)); refine blk_far ?_ NB341_351.out _; (with_reducible repeat (first | refine blk_drewN ?_ _ | refine blk_drew ?_ | refine blk_alloc ?_ _)); exact BK341.out⟩, ⟨by (with_reducible repeat (first | refine blk_drewN ?_ _ | refine blk_drew ?_ | refine blk_alloc ?_ _)); refine blk_put (cs := #[.int .i64 t343, .slice Ao17 t344.length co17, .int .i64 t347, .slice none 0 0]) ?_ 3 _ rfl; (with_reducible repeat (first | refine blk_drewN ?_ _ | refine blk_drew ?_ | refine blk_alloc ?_ _)); refine blk_put (cs := #[.int .i64 t343, .slice Ao17 t344.length co17, .int .i64 0, .slice none 0 0]) ?_ 2 _ rfl; (with_reducible repeat (first | refine blk_drewN ?_ _ | refine blk_drew ?_ | refine blk_alloc ?_ _)); refine blk_put (cs := #[.int .i64 t343, .slice none 0 0, .int .i64 0, .slice none 0 0]) ?_ 1 _ rfl; (with_reducible repeat (first | refine blk_drewN ?_ _ | refine blk_drew ?_ | refine blk_alloc ?_ _)); refine blk_put (cs := #[.int .i64 0, .slice none 0 0, .int .i64 0, .slice none 0 0]) ?_ 0 _ rfl; (with_reducible repeat (first | refine blk_drewN ?_ _ | refine blk_drew ?_ | refine blk_alloc ?_ _)); exact BK351.out⟩, ⟨by repeat (first | (with_reducible first | exact HB.out | apply below_alloc | apply pw_below_drewN | apply below_drew1 | refine below_set ?_ GE340.out | refine below_set ?_ GE341.out | refine below_set ?_ GE351.out) | exact HB.out)⟩⟩
        · rw [if_neg c21] at H
          have c21b0 : ((l0_1.length : Int) == 0) = false := beq_eq_false_iff_ne.mpr c21
          have c21b1 : ((l0_1.length : Int) != 0) = true := bne_iff_ne.mpr c21
          have c21b2 : ¬ (l0_1 = []) := fun h_ => c21 (by rw [h_]; rfl)
          have H' := Aside0.mk H
          clear H
          go_wp2
          go_meet
          case rel => exact ⟨_, (false), (by first | rfl | (simp; done) | (simp [*]; done)), H', ⟨by first | omega | exact Nat.le_refl _⟩, ⟨by (with_reducible repeat (first | apply Kd.R_alloc | apply Kd.R_drewN | apply Kd.R_drew)); exact Kd.R_mono (Kd.R_far (p := ⟨gb351, 3, none⟩) (Kd.R_far (p := ⟨gb351, 2, none⟩) (Kd.R_far (p := ⟨gb351, 1, none⟩) (Kd.R_far (p := ⟨gb351, 0, none⟩) (Kd.R_types HO346.out BK351.out (by decide)) (fun _ hk => hk.2) (.int .i64 t343)) (fun _ hk => hk.2) (.slice Ao17 t344.length co17)) (fun _ hk => hk.2) (.int .i64 t347)) (fun _ hk => hk.2) (.slice Ao18 t348.length co18)) (fun _ hk => trivial)⟩, ⟨by (with_reducible repeat (first | apply Kd.R_alloc | apply Kd.R_drewN | apply Kd.R_drew)); exact Kd.R_mono (Kd.R_far (p := ⟨gb351, 3, none⟩) (Kd.R_far (p := ⟨gb351, 2, none⟩) (Kd.R_far (p := ⟨gb351, 1, none⟩) (Kd.R_far (p := ⟨gb351, 0, none⟩) (Kd.R_types HO350.out BK351.out (by decide)) (fun _ hk => hk.2) (.int .i64 t343)) (fun _ hk => hk.2) (.slice Ao17 t344.length co17)) (fun _ hk => hk.2) (.int .i64 t347)) (fun _ hk => hk.2) (.slice Ao18 t348.length co18)) (fun _ hk => trivial)⟩, ⟨by (with_reducible repeat (first | refine blk_drewN ?_ _ | refine blk_drew ?_ | refine blk_alloc ?_ _)); refine blk_far ?_ NB340_351.out _; (with_reducible repeat (first | refine blk_drewN ?_ _ | refine blk_drew ?_ | refine blk_alloc ?_ _)); refine blk_far ?_ NB340_351.out _; (with_reducible repeat (first | refine blk_drewN ?_ _ | refine blk_drew ?_ | refine blk_alloc ?_ _)); refine blk_far ?_ NB340_351.out _; (with_reducible repeat (first | refine blk_drewN ?_ _ | refine blk_drew ?_ | refine blk_alloc ?_ _)); refine blk_far ?_ NB340_351.out _; (with_reducible repeat (first | refine blk_drewN ?_ _ | refine blk_drew ?_ | refine blk_alloc ?_ _)); exact BK340.out⟩, ⟨by (with_reducible repeat (first | refine blk_drewN ?_ _ | refine blk_drew ?_ | refine blk_alloc ?_ _)); refine blk_far ?_ NB341_351.out _; (with_reducible repeat (first | refine blk_drewN ?_ _ | refine blk_drew ?_ | refine blk_alloc ?_ _)); refine blk_far ?_ NB341_351.out _; (with_reducible repeat (first | refine blk_drewN ?_ _ | refine blk_drew ?_ | refine blk_alloc ?_ _)); refine blk_far ?_ NB341_351.out _; (with_reducible repeat (first | refine blk_drewN ?_ _ | refine blk_drew ?_ | refine blk_alloc ?_ _)); refine blk_far ?_ NB341_351.out _; (with_reducible repeat (first | refine blk_drewN ?_ _ | refine blk_drew ?_ | refine blk_alloc ?_ _)); exact BK341.out⟩, ⟨by (with_reducible repeat (first | refine blk_drewN ?_ _ | refine blk_drew ?_ | refine blk_alloc ?_ _)); refine blk_put (cs := #[.int .i64 t343, .slice Ao17 t344.length co17, .int .i64 t347, .slice none 0 0]) ?_ 3 _ rfl; (with_reducible repeat (first | refine blk_drewN ?_ _ | refine blk_drew ?_ | refine blk_alloc ?_ _)); refine blk_put (cs := #[.int .i64 t343, .slice Ao17 t344.length co17, .int .i64 0, .slice none 0 0]) ?_ 2 _ rfl; (with_reducible repeat (first | refine blk_drewN ?_ _ | refine blk_drew ?_ | refine blk_alloc ?_ _)); refine blk_put (cs := #[.int .i64 t343, .slice none 0 0, .int .i64 0, .slice none 0 0]) ?_ 1 _ rfl; (with_reducible repeat (first | refine blk_drewN ?_ _ | refine blk_drew ?_ | refine blk_alloc ?_ _)); refine blk_put (cs := #[.int .i64 0, .slice none 0 0, .int .i64 0, .slice none 0 0]) ?_ 0 _ rfl; (with_reducible repeat (first | refine blk_drewN ?_ _ | refine blk_drew ?_ | refine blk_alloc ?_ _)); exact BK351.out⟩, ⟨by repeat (first | (with_reducible first | exact HB.out | apply below_alloc | apply pw_below_drewN | apply below_drew1 | refine below_set ?_ GE340.out | refine below_set ?_ GE341.out | refine below_set ?_ GE351.out) | exact HB.out)⟩⟩
    case rest =>
      clear HC5
      try clear c1
      try clear c2
      try clear p2
      try clear c3
      try clear c4
      try clear c8
      try clear c14
      try clear c15
      try clear c20
      try clear c20b0
      try clear c20b1
      try clear c21
      try clear c21b0
      try clear c21b1
      try clear c21b2
      try clear c22
      try clear c23
      try clear hcz11_0
      try clear hcz11_1
      try clear hcz11_2
      try clear hcz11_3
      try clear hcz16_0
      try clear hcz16_1
      try clear hcz16_2
      try clear hcz16_3
      try clear hcz19_0
      try clear hcz19_1
      try clear hcz19_2
      try clear hcz19_3
      try clear hcz24_0
      try clear hcz24_1
      try clear hcz24_2
      try clear hcz24_3
      try clear hcz9_0
      try clear hcz9_1
      try clear hcz9_2
      try clear hcz9_3
      try clear hfz11_0
      try clear hfz11_1
      try clear hfz11_2
      try clear hfz11_3
      try clear hfz16_0
      try clear hfz16_1
      try clear hfz16_2
      try clear hfz16_3
      try clear hfz19_0
      try clear hfz19_1
      try clear hfz19_2
      try clear hfz19_3
      try clear hfz24_0
      try clear hfz24_1
      try clear hfz24_2
      try clear hfz24_3
      try clear hfz9_0
      try clear hfz9_1
      try clear hfz9_2
      try clear hfz9_3
      obtain ⟨kq, x25_4, rfl, HA, HJ4, HO_352001, HO_352003, BK340, BK341, BK351, HB⟩ := hcut
      cases kq with
      | zero => exact absurd HA.out (by simp [quillworkref06_Indent.j0])
      | succ kj4 =>
        have H := HA.out
        clear HA
        simp only [quillworkref06_Indent.j0] at H
        by_cases c25 : x25_4 = true
        · subst c25
          have H1 : (some (0, ([] : List Int), 0, ([] : List (S71)), 7)) = some (r1, r2, r3, r4, r5) := by rw [if_pos rfl] at H; exact H
          clear H
          have H := H1
          clear H1
          simp only [Option.some.injEq, Prod.mk.injEq] at H
          obtain ⟨rfl, rfl, rfl, rfl, rfl⟩ := H
          have hnb26 := NB341_340.out
          have hnc26 := NB340_341.out
          have hnb27 := NB341_351.out
          have hnc27 := NB351_341.out
          have hcz28_0 : wc.cell? ⟨gb341, 0, none⟩ = some (.int .i64 0) := (blk_cell BK341.out 0).trans rfl
          have hcz28_1 : wc.cell? ⟨gb341, 1, none⟩ = some (.slice none 0 0) := (blk_cell BK341.out 1).trans rfl
          have hcz28_2 : wc.cell? ⟨gb341, 2, none⟩ = some (.int .i64 0) := (blk_cell BK341.out 2).trans rfl
          have hcz28_3 : wc.cell? ⟨gb341, 3, none⟩ = some (.slice none 0 0) := (blk_cell BK341.out 3).trans rfl
          have hfz28_0 := blk_frozen BK341.out 0
          have hfz28_1 := blk_frozen BK341.out 1
          have hfz28_2 := blk_frozen BK341.out 2
          have hfz28_3 := blk_frozen BK341.out 3
          go_wp2
          refine bodyPost_ret (results_ct rfl _ _ gb341 38 #[.int .i64 0, .slice none 0 0, .int .i64 0, .slice none 0 0] (0, 0) _ rfl (by (with_reducible repeat (first | refine blk_drewN ?_ _ | refine blk_drew ?_ | refine blk_alloc ?_ _)); refine blk_put (cs := #[.int .i64 0, .slice none 0 0, .int .i64 0, .slice none 0 0]) ?_ 3 _ rfl; (with_reducible repeat (first | refine blk_drewN ?_ _ | refine blk_drew ?_ | refine blk_alloc ?_ _)); refine blk_put (cs := #[.int .i64 0, .slice none 0 0, .int .i64 0, .slice none 0 0]) ?_ 2 _ rfl; (with_reducible repeat (first | refine blk_drewN ?_ _ | refine blk_drew ?_ | refine blk_alloc ?_ _)); refine blk_put (cs := #[.int .i64 0, .slice none 0 0, .int .i64 0, .slice none 0 0]) ?_ 1 _ rfl; (with_reducible repeat (first | refine blk_drewN ?_ _ | refine blk_drew ?_ | refine blk_alloc ?_ _)); refine blk_put (cs := #[.int .i64 0, .slice none 0 0, .int .i64 0, .slice none 0 0]) ?_ 0 _ rfl; (with_reducible repeat (first | refine blk_drewN ?_ _ | refine blk_drew ?_ | refine blk_alloc ?_ _)); exact BK341.out) Tryd.underlying38 rfl (by kernel_rfl)) rfl ?_
          exact ⟨_, _, by first | rfl | (simp [errW_none, errW_some] <;> rfl) | (simp [*, errW_none, errW_some] <;> rfl), by first | exact Kd.R_nil _ _ _ _ _ | exact Kd.N_nil _ _ _ _ _ | exact Kd.V_nil _ _ _ _ _ | exact Kd.Q_nil _ _ _ _ _ | exact Kd.S_nil _ _ _ _ _, by first | exact Kd.R_nil _ _ _ _ _ | exact Kd.N_nil _ _ _ _ _ | exact Kd.V_nil _ _ _ _ _ | exact Kd.Q_nil _ _ _ _ _ | exact Kd.S_nil _ _ _ _ _, by repeat (first | (with_reducible first | exact HB.out | apply below_alloc | apply pw_below_drewN | apply below_drew1 | refine below_set ?_ GE340.out | refine below_set ?_ GE341.out | refine below_set ?_ GE351.out) | exact HB.out)⟩
        · replace c25 := Bool.eq_false_iff.mpr c25
          subst c25
          have H1 : (if (l0_1.length : Int) > 0 then (if 0 ≤ (wrap64 ((l0_1.length : Int) - 1)) then (if (wrap64 ((l0_1.length : Int) - 1)) < (l0_1.length : Int) then (if t344.length < 17592186044416 then (some (t343, (t344 ++ [rd l0_1 (wrap64 ((l0_1.length : Int) - 1))]), t347, t348, 0)) else (none)) else (none)) else (none)) else (some (wrap64 (a0_0 + 1), t344, t347, t348, 0))) = some (r1, r2, r3, r4, r5) := by rw [if_neg (show ¬ (false = true) by decide)] at H; exact H
          clear H
          have H := H1
          clear H1
          by_cases c29 : (l0_1.length : Int) > 0
          · rw [if_pos c29] at H
            have c29b0 : decide (0 < (l0_1.length : Int)) = true := decide_eq_true c29
            have c29b1 : decide (0 < l0_1.length) = true := decide_eq_true (by omega)
            clear c29
            obtain ⟨ji30, hji30⟩ : ∃ j_ : Int, (wrap64 ((l0_1.length : Int) - 1)) = j_ := ⟨_, rfl⟩
            replace H : (if 0 ≤ (ji30) then (if (ji30) < (l0_1.length : Int) then (if t344.length < 17592186044416 then (some (t343, (t344 ++ [rd l0_1 (ji30)]), t347, t348, 0)) else (none)) else (none)) else (none)) = some (r1, r2, r3, r4, r5) := by first | (rw [hji30] at H; exact H) | (simp only [hji30] at H ⊢; exact H)
            have hji30w : (IntKind.i64.wrap ((l0_1.length : Int) - 1)) = ji30 := (i64_w _).trans hji30
            by_cases c31 : 0 ≤ (ji30)
            · rw [if_pos c31] at H
              have c31b0 : decide (0 ≤ (ji30)) = true := decide_eq_true c31
              clear c31
              by_cases c32 : (ji30) < (l0_1.length : Int)
              · rw [if_pos c32] at H
                have c32b0 : decide ((ji30) < (l0_1.length : Int)) = true := decide_eq_true c32
                clear c32
                by_cases c33 : t344.length < 17592186044416
                · rw [if_pos c33] at H
                  have LMc33 := Aside0.mk c33
                  clear c33
                  obtain ⟨y353, hy353⟩ : ∃ y_ : List Int, y_ = (t344 ++ [rd l0_1 (ji30)]) := ⟨_, rfl⟩
                  replace H : (some (t343, y353, t347, t348, 0)) = some (r1, r2, r3, r4, r5) := by first | (rw [hy353]; with_reducible exact H) | (have H2_ := (Option.bind_some _ _).symm.trans H; rw [hy353]; with_reducible exact H2_) | (have H2_ := (Option.bind_some _ _).symm.trans H; with_reducible exact H2_) | with_reducible exact H | (rw [hy353]; exact H) | exact H
                  have Ny353 := Aside0.mk hy353
                  clear hy353
                  simp only [Option.some.injEq, Prod.mk.injEq] at H
                  obtain ⟨rfl, rfl, rfl, rfl, rfl⟩ := H
                  try go_wp2
                  have n0_ := Aside0.mk (Kd.R_drew HO_352001.out)
                  have n1_ := Aside0.mk (Kd.R_drew HO_352003.out)
                  have n2_ := Aside0.mk (blk_drew BK340.out)
                  have n3_ := Aside0.mk (blk_drew BK341.out)
                  have n4_ := Aside0.mk (blk_drew BK351.out)
                  have n5_ := Aside0.mk (below_drew1 HB.out)
                  clear HO_352001
                  clear HO_352003
                  clear BK340
                  clear BK341
                  clear BK351
                  clear HB
                  have HO_352001 := n0_
                  have HO_352003 := n1_
                  have BK340 := n2_
                  have BK341 := n3_
                  have BK351 := n4_
                  have HB := n5_
                  clear n0_ n1_ n2_ n3_ n4_ n5_
                  have p352 : 0 ≤ ((ji30) : Int) := of_decide_eq_true (by first | (with_reducible assumption) | assumption)
                  have q352 : (ji30) < (l0_1.length : Int) := of_decide_eq_true (by first | (with_reducible assumption) | assumption)
                  obtain ⟨ad352, e352, hx352_0⟩ := Kd.at_int HR0_1.out (ji30) p352 q352
                  have hw352_0 := hx352_0
                  cases e352
                  replace hx352_0 := (HB.out.cell (World.block_lt_of_cell? w _ hx352_0)).trans hx352_0
                  replace p352 := eq_true p352
                  replace q352 := eq_true q352
                  refine start_ (n := 12) (S := fun w' => w'.cell? ⟨gb351, 0, none⟩ = some (.int .i64 t343) ∧ w'.cell? ⟨gb351, 1, none⟩ = some (.slice Ao17 t344.length co17) ∧ w'.cell? ⟨gb351, 2, none⟩ = some (.int .i64 t347) ∧ w'.cell? ⟨gb351, 3, none⟩ = some (.slice Ao18 t348.length co18) ∧ w'.cell? ⟨gb340, 0, none⟩ = some (.int .i64 a0_0) ∧ w'.cell? ⟨gb340, 1, none⟩ = some (.slice (some ad352) l0_1.length c0_1) ∧ w'.cell? ⟨gb340, 2, none⟩ = some (.int .i64 a0_2) ∧ w'.cell? ⟨gb340, 3, none⟩ = some (.slice A0_3 l0_3.length c0_3) ∧ w'.cell? (ad352.add ((ji30)).toNat) = some (.int .i64 (rd l0_1 (ji30)))) (ds := [11]) #[false, false, false, false, false, false, false, false, false, false, false, false] (by kernel_rfl) rfl rfl ⟨(blk_cell BK351.out 0).trans rfl, (blk_cell BK351.out 1).trans rfl, (blk_cell BK351.out 2).trans rfl, (blk_cell BK351.out 3).trans rfl, (blk_cell BK340.out 0).trans rfl, (blk_cell BK340.out 1).trans rfl, (blk_cell BK340.out 2).trans rfl, (blk_cell BK340.out 3).trans rfl, ((HB.out.cell (World.block_lt_of_cell? w _ hw352_0)).trans hw352_0)⟩ (fun hHeld => ?_); refine with_tabW quillworkref06_Indent.tab8 quillworkref06_Indent.bits8 (fun HT_ HW_ => ?_)
                  generalize wc.drew = w34 at HO_352001 HO_352003 BK340 BK341 BK351 HB hx352_0 hHeld ⊢
                  refine pure_ (i := 0) (N := some 29) (v := ?_) (a' := ?_) #[true, false, false, false, false, false, false, false, false, false, false, false] rfl rfl (any_of HT_.out (by kernel_rfl)) (fun _ _ _ h => h) (Or.inl ⟨by rfl, ?_⟩) ?_ ?_
                  rotate_left
                  · intro w'
                    go_simp
                    with_reducible rfl
                  rotate_left
                  · simp only [Act.put, List.setIfInBounds_toArray, List.set_cons_zero, List.set_cons_succ, i64_w, i32_w]
                    rfl
                  refine pure_ (i := 2) (N := some 31) (v := ?_) (a' := ?_) #[true, false, true, false, false, false, false, false, false, false, false, false] rfl rfl (any_of HT_.out (by kernel_rfl)) (fun _ _ _ h => h) (Or.inl ⟨by rfl, ?_⟩) ?_ ?_
                  rotate_left
                  · intro w'
                    go_simp
                    with_reducible rfl
                  rotate_left
                  · simp only [Act.put, List.setIfInBounds_toArray, List.set_cons_zero, List.set_cons_succ, i64_w, i32_w]
                    rfl
                  refine pure_ (i := 4) (N := some 33) (v := ?_) (a' := ?_) #[true, false, true, false, true, false, false, false, false, false, false, false] rfl rfl (any_of HT_.out (by kernel_rfl)) (fun _ _ _ h => h) (Or.inl ⟨by rfl, ?_⟩) ?_ ?_
                  rotate_left
                  · intro w'
                    go_simp
                    with_reducible rfl
                  rotate_left
                  · simp only [Act.put, List.setIfInBounds_toArray, List.set_cons_zero, List.set_cons_succ, i64_w, i32_w]
                    rfl
                  refine pure_ (i := 5) (N := some 34) (v := ?_) (a' := ?_) #[true, false, true, false, true, true, false, false, false, false, false, false] rfl rfl (any_of HT_.out (by kernel_rfl)) (fun _ _ _ h => h) (Or.inl ⟨by rfl, ?_⟩) ?_ ?_
                  rotate_left
                  · intro w'
                    go_simp
                    with_reducible rfl
                  rotate_left
                  · simp only [Act.put, List.setIfInBounds_toArray, List.set_cons_zero, List.set_cons_succ, i64_w, i32_w]
                    rfl
                  refine take_ (i := 1) (N := some 30) (v := ?_) (a' := ?_) #[true, true, true, false, true, true, false, false, false, false, false, false] rfl rfl (take_ofW HT_.out HW_.out (by kernel_rfl)) (fun _ _ _ h => h) (Or.inl ⟨by rfl, ?_⟩) hHeld ?_ ?_
                  rotate_left
                  · rintro w' ⟨s0, s1, s2, s3, s4, s5, s6, s7, s8⟩
                    go_simp
                    with_reducible rfl
                  rotate_left
                  · simp only [Act.put, List.setIfInBounds_toArray, List.set_cons_zero, List.set_cons_succ, i64_w, i32_w]
                    rfl
                  refine take_ (i := 3) (N := some 32) (v := ?_) (a' := ?_) #[true, true, true, true, true, true, false, false, false, false, false, false] rfl rfl (take_ofW HT_.out HW_.out (by kernel_rfl)) (fun _ _ _ h => h) (Or.inl ⟨by rfl, ?_⟩) hHeld ?_ ?_
                  rotate_left
                  · rintro w' ⟨s0, s1, s2, s3, s4, s5, s6, s7, s8⟩
                    go_simp
                    with_reducible rfl
                  rotate_left
                  · simp only [Act.put, List.setIfInBounds_toArray, List.set_cons_zero, List.set_cons_succ, i64_w, i32_w]
                    rfl
                  refine pure_ (i := 6) (N := some 35) (v := ?_) (a' := ?_) #[true, true, true, true, true, true, true, false, false, false, false, false] rfl rfl (any_of HT_.out (by kernel_rfl)) (fun _ _ _ h => h) (Or.inl ⟨by rfl, ?_⟩) ?_ ?_
                  rotate_left
                  · intro w'
                    go_simp
                    with_reducible rfl
                  rotate_left
                  · simp only [Act.put, List.setIfInBounds_toArray, List.set_cons_zero, List.set_cons_succ, i64_w, i32_w]
                    rfl
                  refine take_ (i := 7) (N := some 36) (v := ?_) (a' := ?_) #[true, true, true, true, true, true, true, true, false, false, false, false] rfl rfl (take_ofW HT_.out HW_.out (by kernel_rfl)) (fun _ _ _ h => h) (Or.inl ⟨by rfl, ?_⟩) hHeld ?_ ?_
                  rotate_left
                  · rintro w' ⟨s0, s1, s2, s3, s4, s5, s6, s7, s8⟩
                    go_simp
                    with_reducible rfl
                  rotate_left
                  · simp only [Act.put, List.setIfInBounds_toArray, List.set_cons_zero, List.set_cons_succ, i64_w, i32_w]
                    rfl
                  refine one_ (i := 8) (N := some 37) #[true, true, true, true, true, true, true, true, true, false, false, false] rfl rfl (one_of HT_.out (by kernel_rfl)) (by decide) (fun K hK => ?_)
                  refine value_ (w1 := ?_) (v := ?_) (by rfl) rfl ?_ ?_
                  rotate_left 2
                  · go_simp
                    constructor
                    · rfl
                    · rfl
                  refine hK.out _ _ ⟨(blk_cell (blk_alloc BK351.out _) 0).trans rfl, (blk_cell (blk_alloc BK351.out _) 1).trans rfl, (blk_cell (blk_alloc BK351.out _) 2).trans rfl, (blk_cell (blk_alloc BK351.out _) 3).trans rfl, (blk_cell (blk_alloc BK340.out _) 0).trans rfl, (blk_cell (blk_alloc BK340.out _) 1).trans rfl, (blk_cell (blk_alloc BK340.out _) 2).trans rfl, (blk_cell (blk_alloc BK340.out _) 3).trans rfl, (World.cell?_alloc_lt _ _ _ (World.block_lt_of_cell? _ _ (((HB.out.cell (World.block_lt_of_cell? w _ hw352_0)).trans hw352_0)))).trans (((HB.out.cell (World.block_lt_of_cell? w _ hw352_0)).trans hw352_0))⟩ (fun hHeld => ?_)
                  clear hK K
                  refine norm_ (a' := ?_) ?_ ?_
                  rotate_left
                  · show Act.put _ (some 37) _ = _
                    simp only [Act.put, List.setIfInBounds_toArray, List.set_cons_zero, List.set_cons_succ, i64_w, i32_w]
                    rfl
                  refine one_ (i := 9) (N := some 38) #[true, true, true, true, true, true, true, true, true, true, false, false] rfl rfl (one_of HT_.out (by kernel_rfl)) (by decide) (fun K hK => ?_)
                  refine Kd.R_append_step (Kd.int .i64) (w0 := w) w.heap.size (by rfl) (.tmp 30) (.tmp 37) 35 3 (.int .i64 0) 8 rfl Tryd.underlying35 info3 rfl (by decide) (by omega) (.slice Ao17 t344.length co17) t344 (rd l0_1 (ji30)) [.int .i64 (rd l0_1 (ji30))] (fun _ => True) (fun _ => False) rfl rfl ?aP (fun _ hk => hk.elim) ?aF ?aO ?aB ?aS ?aL ?_
                  (case aP => exact rfl)
                  (case aB => exact (by repeat (first | (with_reducible first | exact HB.out | apply below_alloc | apply pw_below_drewN | apply below_drew1 | refine below_set ?_ GE340.out | refine below_set ?_ GE341.out | refine below_set ?_ GE351.out) | exact HB.out)))
                  (case aF => exact (fun _ _ => trivial))
                  (case aO => exact (by (with_reducible repeat (first | apply Kd.R_alloc | apply Kd.R_drewN | apply Kd.R_drew)); exact HO_352001.out))
                  (case aS => exact (below_size (by repeat (first | (with_reducible first | exact HB.out | apply below_alloc | apply pw_below_drewN | apply below_drew1 | refine below_set ?_ GE340.out | refine below_set ?_ GE341.out | refine below_set ?_ GE351.out) | exact HB.out))))
                  (case aL => have := LMc33.out; omega)
                  intro v354 w35 ho hb hg hat
                  rw [← Ny353.out] at ho
                  have n0_ := Aside0.mk (Kd.R_over' (by (with_reducible repeat (first | apply Kd.R_alloc | apply Kd.R_drewN | apply Kd.R_drew)); exact HO_352003.out) (Kd.R_typed (by (with_reducible repeat (first | apply Kd.R_alloc | apply Kd.R_drewN | apply Kd.R_drew)); exact HO_352001.out)) (by decide) hg)
                  have n1_ := Aside0.mk (blk_grown (g := gb340) (o := .cells #[.int .i64 a0_0, .slice (some ad352) l0_1.length c0_1, .int .i64 a0_2, .slice A0_3 l0_3.length c0_3] 38 (0, 0)) (by (with_reducible repeat (first | refine blk_drewN ?_ _ | refine blk_drew ?_ | refine blk_alloc ?_ _)); exact BK340.out) hg (Kd.R_ne HO_352001.out BK340.out (by decide)))
                  have n2_ := Aside0.mk (blk_grown (g := gb341) (o := .cells #[.int .i64 0, .slice none 0 0, .int .i64 0, .slice none 0 0] 38 (0, 0)) (by (with_reducible repeat (first | refine blk_drewN ?_ _ | refine blk_drew ?_ | refine blk_alloc ?_ _)); exact BK341.out) hg (Kd.R_ne HO_352001.out BK341.out (by decide)))
                  have n3_ := Aside0.mk (blk_grown (g := gb351) (o := .cells #[.int .i64 t343, .slice Ao17 t344.length co17, .int .i64 t347, .slice Ao18 t348.length co18] 38 (0, 0)) (by (with_reducible repeat (first | refine blk_drewN ?_ _ | refine blk_drew ?_ | refine blk_alloc ?_ _)); exact BK351.out) hg (Kd.R_ne HO_352001.out BK351.out (by decide)))
                  have n4_ := Aside0.mk (hb)
                  have n5_ := Aside0.mk (ho)
                  clear HO_352003
                  clear BK340
                  clear BK341
                  clear BK351
                  clear HB
                  clear HO_352001
                  have HO_352003 := n0_
                  have BK340 := n1_
                  have BK341 := n2_
                  have BK351 := n3_
                  have HB := n4_
                  have HO355 := n5_
                  clear n0_ n1_ n2_ n3_ n4_ n5_
                  clear ho hb hg hat
                  obtain ⟨Ao36, co36, eo36⟩ := Kd.R_slice HO355.out
                  (first | subst eo36 | (injection eo36 with f1_ f2_ f3_; have f4_ := f1_.symm; have f5_ := f3_.symm; clear f1_ f2_ f3_; subst f4_; subst f5_))
                  refine hK.out _ _ ⟨(blk_cell BK351.out 0).trans rfl, (blk_cell BK351.out 1).trans rfl, (blk_cell BK351.out 2).trans rfl, (blk_cell BK351.out 3).trans rfl, (blk_cell BK340.out 0).trans rfl, (blk_cell BK340.out 1).trans rfl, (blk_cell BK340.out 2).trans rfl, (blk_cell BK340.out 3).trans rfl, ((HB.out.cell (World.block_lt_of_cell? w _ hw352_0)).trans hw352_0)⟩ (fun hHeld => ?_)
                  clear hK K
                  refine norm_ (a' := ?_) ?_ ?_
                  rotate_left
                  · show Act.put _ (some 38) _ = _
                    simp only [Act.put, List.setIfInBounds_toArray, List.set_cons_zero, List.set_cons_succ, i64_w, i32_w]
                    rfl
                  refine pure_ (i := 10) (N := some 39) (v := ?_) (a' := ?_) #[true, true, true, true, true, true, true, true, true, true, true, false] rfl rfl (any_of HT_.out (by kernel_rfl)) (fun _ _ _ h => h) (Or.inl ⟨by rfl, ?_⟩) ?_ ?_
                  rotate_left
                  · intro w'
                    go_simp
                    with_reducible rfl
                  rotate_left
                  · simp only [Act.put, List.setIfInBounds_toArray, List.set_cons_zero, List.set_cons_succ, i64_w, i32_w]
                    rfl
                  refine last_ (i := 11) (N := none) #[true, true, true, true, true, true, true, true, true, true, true, true] rfl rfl (one_of HT_.out (by kernel_rfl)) (by decide) (fun K hK => ?_)
                  have hs37 : w35.cell? ⟨gb351, 1, none⟩ = some (.slice Ao17 t344.length co17) := (blk_cell BK351.out 1).trans rfl
                  have hfs37 := blk_frozen BK351.out 1
                  have hns37_0 := NB340_351.out
                  have hns37_1 := NB341_351.out
                  have hms37_0 := NB351_340.out
                  have hms37_1 := NB351_341.out
                  refine skip_ (w1 := ?_) (by rfl) rfl ?_ ?_
                  rotate_left
                  · go_simp
                    rfl
                  refine hK.out _ _ ?_
                  clear hK K
                  refine done_ (done_of HT_.out (by kernel_rfl)) ?_
                  have hnb38 := NB351_340.out
                  have hnc38 := NB340_351.out
                  have hnb39 := NB351_341.out
                  have hnc39 := NB341_351.out
                  have hcz40_0 : w35.cell? ⟨gb351, 0, none⟩ = some (.int .i64 t343) := (blk_cell BK351.out 0).trans rfl
                  have hcz40_1 : w35.cell? ⟨gb351, 1, none⟩ = some (.slice Ao17 t344.length co17) := (blk_cell BK351.out 1).trans rfl
                  have hcz40_2 : w35.cell? ⟨gb351, 2, none⟩ = some (.int .i64 t347) := (blk_cell BK351.out 2).trans rfl
                  have hcz40_3 : w35.cell? ⟨gb351, 3, none⟩ = some (.slice Ao18 t348.length co18) := (blk_cell BK351.out 3).trans rfl
                  have hfz40_0 := blk_frozen BK351.out 0
                  have hfz40_1 := blk_frozen BK351.out 1
                  have hfz40_2 := blk_frozen BK351.out 2
                  have hfz40_3 := blk_frozen BK351.out 3
                  have hnb41 := NB341_340.out
                  have hnc41 := NB340_341.out
                  have hcz42_0 : w35.cell? ⟨gb341, 0, none⟩ = some (.int .i64 0) := (blk_cell BK341.out 0).trans rfl
                  have hcz42_1 : w35.cell? ⟨gb341, 1, none⟩ = some (.slice none 0 0) := (blk_cell BK341.out 1).trans rfl
                  have hcz42_2 : w35.cell? ⟨gb341, 2, none⟩ = some (.int .i64 0) := (blk_cell BK341.out 2).trans rfl
                  have hcz42_3 : w35.cell? ⟨gb341, 3, none⟩ = some (.slice none 0 0) := (blk_cell BK341.out 3).trans rfl
                  have hfz42_0 := blk_frozen BK341.out 0
                  have hfz42_1 := blk_frozen BK341.out 1
                  have hfz42_2 := blk_frozen BK341.out 2
                  have hfz42_3 := blk_frozen BK341.out 3
                  try go_wp2
                  refine bodyPost_ret (results_ct rfl _ _ gb341 38 #[.int .i64 t343, .slice Ao36 y353.length co36, .int .i64 t347, .slice Ao18 t348.length co18] (0, 0) _ rfl (by (with_reducible repeat (first | refine blk_drewN ?_ _ | refine blk_drew ?_ | refine blk_alloc ?_ _)); refine blk_put (cs := #[.int .i64 t343, .slice Ao36 y353.length co36, .int .i64 t347, .slice none 0 0]) ?_ 3 _ rfl; (with_reducible repeat (first | refine blk_drewN ?_ _ | refine blk_drew ?_ | refine blk_alloc ?_ _)); refine blk_put (cs := #[.int .i64 t343, .slice Ao36 y353.length co36, .int .i64 0, .slice none 0 0]) ?_ 2 _ rfl; (with_reducible repeat (first | refine blk_drewN ?_ _ | refine blk_drew ?_ | refine blk_alloc ?_ _)); refine blk_put (cs := #[.int .i64 t343, .slice none 0 0, .int .i64 0, .slice none 0 0]) ?_ 1 _ rfl; (with_reducible repeat (first | refine blk_drewN ?_ _ | refine blk_drew ?_ | refine blk_alloc ?_ _)); refine blk_put (cs := #[.int .i64 0, .slice none 0 0, .int .i64 0, .slice none 0 0]) ?_ 0 _ rfl; (with_reducible repeat (first | refine blk_drewN ?_ _ | refine blk_drew ?_ | refine blk_alloc ?_ _)); refine blk_far ?_ NB341_351.out _; (with_reducible repeat (first | refine blk_drewN ?_ _ | refine blk_drew ?_ | refine blk_alloc ?_ _)); exact BK341.out) Tryd.underlying38 rfl (by kernel_rfl)) rfl ?_
                  exact ⟨_, _, by first | rfl | (simp [errW_none, errW_some] <;> rfl) | (simp only [← hji30]; first | rfl | (simp [errW_none, errW_some] <;> rfl)) | (simp [*, errW_none, errW_some] <;> rfl), by (with_reducible repeat (first | apply Kd.R_alloc | apply Kd.R_drewN | apply Kd.R_drew)); exact Kd.R_mono (Kd.R_far (p := ⟨gb341, 3, none⟩) (Kd.R_far (p := ⟨gb341, 2, none⟩) (Kd.R_far (p := ⟨gb341, 1, none⟩) (Kd.R_far (p := ⟨gb341, 0, none⟩) (Kd.R_far (p := ⟨gb351, 1, none⟩) (Kd.R_types (Kd.R_types HO355.out BK351.out (by decide)) BK341.out (by decide)) (fun _ hk => hk.1.2) (.slice Ao36 y353.length co36)) (fun _ hk => hk.2) (.int .i64 t343)) (fun _ hk => hk.2) (.slice Ao36 y353.length co36)) (fun _ hk => hk.2) (.int .i64 t347)) (fun _ hk => hk.2) (.slice Ao18 t348.length co18)) (fun _ hk => trivial), by (with_reducible repeat (first | apply Kd.R_alloc | apply Kd.R_drewN | apply Kd.R_drew)); exact Kd.R_mono (Kd.R_far (p := ⟨gb341, 3, none⟩) (Kd.R_far (p := ⟨gb341, 2, none⟩) (Kd.R_far (p := ⟨gb341, 1, none⟩) (Kd.R_far (p := ⟨gb341, 0, none⟩) (Kd.R_far (p := ⟨gb351, 1, none⟩) (Kd.R_types (Kd.R_types HO_352003.out BK351.out (by decide)) BK341.out (by decide)) (fun _ hk => hk.1.2) (.slice Ao36 y353.length co36)) (fun _ hk => hk.2) (.int .i64 t343)) (fun _ hk => hk.2) (.slice Ao36 y353.length co36)) (fun _ hk => hk.2) (.int .i64 t347)) (fun _ hk => hk.2) (.slice Ao18 t348.length co18)) (fun _ hk => trivial), by repeat (first | (with_reducible first | exact HB.out | apply below_alloc | apply pw_below_drewN | apply below_drew1 | refine below_set ?_ GE340.out | refine below_set ?_ GE341.out | refine below_set ?_ GE351.out) | exact HB.out)⟩
                · rw [if_neg c33] at H
                  exact absurd H (by simp)
              · rw [if_neg c32] at H
                exact absurd H (by simp)
            · rw [if_neg c31] at H
              exact absurd H (by simp)
          · rw [if_neg c29] at H
            have c29b0 : decide (0 < (l0_1.length : Int)) = false := decide_eq_false c29
            have c29b1 : decide (0 < l0_1.length) = false := decide_eq_false (by omega)
            clear c29
            simp only [Option.some.injEq, Prod.mk.injEq] at H
            obtain ⟨rfl, rfl, rfl, rfl, rfl⟩ := H
            have hnb43 := NB340_341.out
            have hnc43 := NB341_340.out
            have hnb44 := NB340_351.out
            have hnc44 := NB351_340.out
            have hcz45_0 : wc.cell? ⟨gb340, 0, none⟩ = some (.int .i64 a0_0) := (blk_cell BK340.out 0).trans rfl
            have hcz45_1 : wc.cell? ⟨gb340, 1, none⟩ = some (.slice A0_1 l0_1.length c0_1) := (blk_cell BK340.out 1).trans rfl
            have hcz45_2 : wc.cell? ⟨gb340, 2, none⟩ = some (.int .i64 a0_2) := (blk_cell BK340.out 2).trans rfl
            have hcz45_3 : wc.cell? ⟨gb340, 3, none⟩ = some (.slice A0_3 l0_3.length c0_3) := (blk_cell BK340.out 3).trans rfl
            have hfz45_0 := blk_frozen BK340.out 0
            have hfz45_1 := blk_frozen BK340.out 1
            have hfz45_2 := blk_frozen BK340.out 2
            have hfz45_3 := blk_frozen BK340.out 3
            have hnb46 := NB351_341.out
            have hnc46 := NB341_351.out
            have hcz47_0 : wc.cell? ⟨gb351, 0, none⟩ = some (.int .i64 t343) := (blk_cell BK351.out 0).trans rfl
            have hcz47_1 : wc.cell? ⟨gb351, 1, none⟩ = some (.slice Ao17 t344.length co17) := (blk_cell BK351.out 1).trans rfl
            have hcz47_2 : wc.cell? ⟨gb351, 2, none⟩ = some (.int .i64 t347) := (blk_cell BK351.out 2).trans rfl
            have hcz47_3 : wc.cell? ⟨gb351, 3, none⟩ = some (.slice Ao18 t348.length co18) := (blk_cell BK351.out 3).trans rfl
            have hfz47_0 := blk_frozen BK351.out 0
            have hfz47_1 := blk_frozen BK351.out 1
            have hfz47_2 := blk_frozen BK351.out 2
            have hfz47_3 := blk_frozen BK351.out 3
            have hcz48_0 : wc.cell? ⟨gb341, 0, none⟩ = some (.int .i64 0) := (blk_cell BK341.out 0).trans rfl
            have hcz48_1 : wc.cell? ⟨gb341, 1, none⟩ = some (.slice none 0 0) := (blk_cell BK341.out 1).trans rfl
            have hcz48_2 : wc.cell? ⟨gb341, 2, none⟩ = some (.int .i64 0) := (blk_cell BK341.out 2).trans rfl
            have hcz48_3 : wc.cell? ⟨gb341, 3, none⟩ = some (.slice none 0 0) := (blk_cell BK341.out 3).trans rfl
            have hfz48_0 := blk_frozen BK341.out 0
            have hfz48_1 := blk_frozen BK341.out 1
            have hfz48_2 := blk_frozen BK341.out 2
            have hfz48_3 := blk_frozen BK341.out 3
            go_wp2
            refine bodyPost_ret (results_ct rfl _ _ gb341 38 #[.int .i64 (wrap64 (a0_0 + 1)), .slice Ao17 t344.length co17, .int .i64 t347, .slice Ao18 t348.length co18] (0, 0) _ rfl (by (with_reducible repeat (first | refine blk_drewN ?_ _ | refine blk_drew ?_ | refine blk_alloc ?_ _)); refine blk_put (cs := #[.int .i64 (wrap64 (a0_0 + 1)), .slice Ao17 t344.length co17, .int .i64 t347, .slice none 0 0]) ?_ 3 _ rfl; (with_reducible repeat (first | refine blk_drewN ?_ _ | refine blk_drew ?_ | refine blk_alloc ?_ _)); refine blk_put (cs := #[.int .i64 (wrap64 (a0_0 + 1)), .slice Ao17 t344.length co17, .int .i64 0, .slice none 0 0]) ?_ 2 _ rfl; (with_reducible repeat (first | refine blk_drewN ?_ _ | refine blk_drew ?_ | refine blk_alloc ?_ _)); refine blk_put (cs := #[.int .i64 (wrap64 (a0_0 + 1)), .slice none 0 0, .int .i64 0, .slice none 0 0]) ?_ 1 _ rfl; (with_reducible repeat (first | refine blk_drewN ?_ _ | refine blk_drew ?_ | refine blk_alloc ?_ _)); refine blk_put (cs := #[.int .i64 0, .slice none 0 0, .int .i64 0, .slice none 0 0]) ?_ 0 _ rfl; (with_reducible repeat (first | refine blk_drewN ?_ _ | refine blk_drew ?_ | refine blk_alloc ?_ _)); refine blk_far ?_ NB341_351.out _; (with_reducible repeat (first | refine blk_drewN ?_ _ | refine blk_drew ?_ | refine blk_alloc ?_ _)); exact BK341.out) Tryd.underlying38 rfl (by kernel_rfl)) rfl ?_
            exact ⟨_, _, by first | rfl | (simp [errW_none, errW_some] <;> rfl) | (simp [*, errW_none, errW_some] <;> rfl), by (with_reducible repeat (first | apply Kd.R_alloc | apply Kd.R_drewN | apply Kd.R_drew)); exact Kd.R_mono (Kd.R_far (p := ⟨gb341, 3, none⟩) (Kd.R_far (p := ⟨gb341, 2, none⟩) (Kd.R_far (p := ⟨gb341, 1, none⟩) (Kd.R_far (p := ⟨gb341, 0, none⟩) (Kd.R_far (p := ⟨gb351, 0, none⟩) (Kd.R_types (Kd.R_types HO_352001.out BK351.out (by decide)) BK341.out (by decide)) (fun _ hk => hk.1.2) (.int .i64 (wrap64 (a0_0 + 1)))) (fun _ hk => hk.2) (.int .i64 (wrap64 (a0_0 + 1)))) (fun _ hk => hk.2) (.slice Ao17 t344.length co17)) (fun _ hk => hk.2) (.int .i64 t347)) (fun _ hk => hk.2) (.slice Ao18 t348.length co18)) (fun _ hk => trivial), by (with_reducible repeat (first | apply Kd.R_alloc | apply Kd.R_drewN | apply Kd.R_drew)); exact Kd.R_mono (Kd.R_far (p := ⟨gb341, 3, none⟩) (Kd.R_far (p := ⟨gb341, 2, none⟩) (Kd.R_far (p := ⟨gb341, 1, none⟩) (Kd.R_far (p := ⟨gb341, 0, none⟩) (Kd.R_far (p := ⟨gb351, 0, none⟩) (Kd.R_types (Kd.R_types HO_352003.out BK351.out (by decide)) BK341.out (by decide)) (fun _ hk => hk.1.2) (.int .i64 (wrap64 (a0_0 + 1)))) (fun _ hk => hk.2) (.int .i64 (wrap64 (a0_0 + 1)))) (fun _ hk => hk.2) (.slice Ao17 t344.length co17)) (fun _ hk => hk.2) (.int .i64 t347)) (fun _ hk => hk.2) (.slice Ao18 t348.length co18)) (fun _ hk => trivial), by repeat (first | (with_reducible first | exact HB.out | apply below_alloc | apply pw_below_drewN | apply below_drew1 | refine below_set ?_ GE340.out | refine below_set ?_ GE341.out | refine below_set ?_ GE351.out) | exact HB.out)⟩
  · replace c3 := Bool.eq_false_iff.mpr c3
    subst c3
    have H1 : (some (0, ([] : List Int), 0, ([] : List (S71)), 1)) = some (r1, r2, r3, r4, r5) := by rw [if_neg (show ¬ (false = true) by decide)] at H; exact H
    clear H
    have H := H1
    clear H1
    simp only [Option.some.injEq, Prod.mk.injEq] at H
    obtain ⟨rfl, rfl, rfl, rfl, rfl⟩ := H
    go_enter Tryd.func44, Tryd.ntmps44
    go_wp2_with (first | ((with_reducible refine gate_dst (N := 1) rfl ?_); refine box_event ?hg (N := 1) ?hd (cs := #[.int .i64 a0_0, .slice A0_1 l0_1.length c0_1, .int .i64 a0_2, .slice A0_3 l0_3.length c0_3]) (t := 38) ?hr ?_; (case hd => rfl); (case hg => rfl); (case hr => first | (go_simp; done) | (go_simp; rfl)); intro gb340 hg w49 hbox hb; have n0_ := Aside0.mk (below_step (by repeat (first | (with_reducible first | exact HB.out | apply below_alloc | apply pw_below_drewN | apply below_drew1) | exact HB.out)) hb); have n1_ := Aside0.mk (hbox); have n2_ := Aside0.mk ((by rw [hg]; exact (below_size (by repeat (first | (with_reducible first | exact HB.out | apply below_alloc | apply pw_below_drewN | apply below_drew1) | exact HB.out))) : w.heap.size ≤ gb340)); have n3_ := Aside0.mk ((by rw [hg]; exact (below_size (by repeat (first | (with_reducible first | exact HB.out | apply below_alloc | apply pw_below_drewN | apply below_drew1) | exact HB.out))) : w.heap.size ≤ gb340)); clear HB; have HB := n0_; have BK340 := n1_; have GW340 := n2_; have GE340 := n3_; clear n0_ n1_ n2_ n3_; clear hb hbox hg) | ((with_reducible refine gate_dst (N := 2) rfl ?_); refine box_event ?hg (N := 2) ?hd (cs := #[.int .i64 0, .slice none 0 0, .int .i64 0, .slice none 0 0]) (t := 38) ?hr ?_; (case hd => rfl); (case hg => rfl); (case hr => first | (go_simp; done) | (go_simp; rfl)); intro gb341 hg w50 hbox hb; have n0_ := Aside0.mk (blk_below (g := gb340) (o := .cells #[.int .i64 a0_0, .slice A0_1 l0_1.length c0_1, .int .i64 a0_2, .slice A0_3 l0_3.length c0_3] 38 (0, 0)) (by (with_reducible repeat (first | refine blk_drewN ?_ _ | refine blk_drew ?_ | refine blk_alloc ?_ _)); exact BK340.out) hb); have n1_ := Aside0.mk (below_step (by repeat (first | (with_reducible first | exact HB.out | apply below_alloc | apply pw_below_drewN | apply below_drew1 | refine below_set ?_ GE340.out) | exact HB.out)) hb); have n2_ := Aside0.mk (hbox); have n3_ := Aside0.mk ((by rw [hg]; exact (below_size (by repeat (first | (with_reducible first | exact HB.out | apply below_alloc | apply pw_below_drewN | apply below_drew1 | refine below_set ?_ GE340.out) | exact HB.out))) : w.heap.size ≤ gb341)); have n4_ := Aside0.mk ((by rw [hg]; exact (below_size (by repeat (first | (with_reducible first | exact HB.out | apply below_alloc | apply pw_below_drewN | apply below_drew1 | refine below_set ?_ GE340.out) | exact HB.out))) : w.heap.size ≤ gb341)); have n5_ := Aside0.mk ((by rw [hg]; exact Nat.ne_of_lt (blk_lt (g := gb340) (o := .cells #[.int .i64 a0_0, .slice A0_1 l0_1.length c0_1, .int .i64 a0_2, .slice A0_3 l0_3.length c0_3] 38 (0, 0)) (by (with_reducible repeat (first | refine blk_drewN ?_ _ | refine blk_drew ?_ | refine blk_alloc ?_ _)); exact BK340.out)) : gb340 ≠ gb341)); have n6_ := Aside0.mk ((by rw [hg]; exact Nat.ne_of_gt (blk_lt (g := gb340) (o := .cells #[.int .i64 a0_0, .slice A0_1 l0_1.length c0_1, .int .i64 a0_2, .slice A0_3 l0_3.length c0_3] 38 (0, 0)) (by (with_reducible repeat (first | refine blk_drewN ?_ _ | refine blk_drew ?_ | refine blk_alloc ?_ _)); exact BK340.out)) : gb341 ≠ gb340)); clear BK340; clear HB; have BK340 := n0_; have HB := n1_; have BK341 := n2_; have GW341 := n3_; have GE341 := n4_; have NB340_341 := n5_; have NB341_340 := n6_; clear n0_ n1_ n2_ n3_ n4_ n5_ n6_; clear hb hbox hg; have hnb51 := NB340_341.out; have hnc51 := NB341_340.out; have hcz52_0 : w50.cell? ⟨gb340, 0, none⟩ = some (.int .i64 a0_0) := (blk_cell BK340.out 0).trans rfl; have hcz52_1 : w50.cell? ⟨gb340, 1, none⟩ = some (.slice A0_1 l0_1.length c0_1) := (blk_cell BK340.out 1).trans rfl; have hcz52_2 : w50.cell? ⟨gb340, 2, none⟩ = some (.int .i64 a0_2) := (blk_cell BK340.out 2).trans rfl; have hcz52_3 : w50.cell? ⟨gb340, 3, none⟩ = some (.slice A0_3 l0_3.length c0_3) := (blk_cell BK340.out 3).trans rfl; have hfz52_0 := blk_frozen BK340.out 0; have hfz52_1 := blk_frozen BK340.out 1; have hfz52_2 := blk_frozen BK340.out 2; have hfz52_3 := blk_frozen BK340.out 3) | ((with_reducible refine gate_callee (f := 38) rfl ?_); refine goesL_ (some 7) rfl rfl Tryd.func38 (by kernel_rfl) rfl #[.agg #[.int .i64 a0_0, .slice A0_1 l0_1.length c0_1, .int .i64 a0_2, .slice A0_3 l0_3.length c0_3]] rfl (by (try simp only [List.map_toArray, List.map_cons, List.map_nil]); first | done | rfl | (simp only [List.length_drop, List.length_take]; rfl)) ?_; (with_reducible refine (quillworkref06_May.calls k a0_0 _ _ l0_1 a0_2 _ _ l0_3 false _ ?side1 ?side2 ?side3 ?side4 A2.out).mono ?_); (case side1 => repeat (first | exact (Kd.C_below HR0_1.out HB.out) | (with_reducible refine Kd.C_alloc ?_ _) | (with_reducible refine Kd.C_drewN ?_ _) | (with_reducible refine Kd.C_drew ?_))); (case side2 => exact HC0_1.out); (case side3 => repeat (first | exact (Kd.C_below HR0_3.out HB.out) | (with_reducible refine Kd.C_alloc ?_ _) | (with_reducible refine Kd.C_drewN ?_ _) | (with_reducible refine Kd.C_drew ?_))); (case side4 => exact HC0_3.out); rintro e w53 ⟨rfl, hb⟩; refine ⟨_, rfl, ?_⟩; have n0_ := Aside0.mk (blk_below (g := gb340) (o := .cells #[.int .i64 a0_0, .slice A0_1 l0_1.length c0_1, .int .i64 a0_2, .slice A0_3 l0_3.length c0_3] 38 (0, 0)) (by (with_reducible repeat (first | refine blk_drewN ?_ _ | refine blk_drew ?_ | refine blk_alloc ?_ _)); exact BK340.out) hb); have n1_ := Aside0.mk (blk_below (g := gb341) (o := .cells #[.int .i64 0, .slice none 0 0, .int .i64 0, .slice none 0 0] 38 (0, 0)) (by (with_reducible repeat (first | refine blk_drewN ?_ _ | refine blk_drew ?_ | refine blk_alloc ?_ _)); exact BK341.out) hb); have n2_ := Aside0.mk (below_step (by repeat (first | (with_reducible first | exact HB.out | apply below_alloc | apply pw_below_drewN | apply below_drew1 | refine below_set ?_ GE340.out | refine below_set ?_ GE341.out) | exact HB.out)) hb); clear BK340; clear BK341; clear HB; have BK340 := n0_; have BK341 := n1_; have HB := n2_; clear n0_ n1_ n2_; (try clear hb); (try clear hb2); (try clear hk); (try clear hi); have hcz54_0 : w53.cell? ⟨gb341, 0, none⟩ = some (.int .i64 0) := (blk_cell BK341.out 0).trans rfl; have hcz54_1 : w53.cell? ⟨gb341, 1, none⟩ = some (.slice none 0 0) := (blk_cell BK341.out 1).trans rfl; have hcz54_2 : w53.cell? ⟨gb341, 2, none⟩ = some (.int .i64 0) := (blk_cell BK341.out 2).trans rfl; have hcz54_3 : w53.cell? ⟨gb341, 3, none⟩ = some (.slice none 0 0) := (blk_cell BK341.out 3).trans rfl; have hfz54_0 := blk_frozen BK341.out 0; have hfz54_1 := blk_frozen BK341.out 1; have hfz54_2 := blk_frozen BK341.out 2; have hfz54_3 := blk_frozen BK341.out 3))
    refine bodyPost_ret (results_ct rfl _ _ gb341 38 #[.int .i64 0, .slice none 0 0, .int .i64 0, .slice none 0 0] (0, 0) _ rfl (by (with_reducible repeat (first | refine blk_drewN ?_ _ | refine blk_drew ?_ | refine blk_alloc ?_ _)); refine blk_put (cs := #[.int .i64 0, .slice none 0 0, .int .i64 0, .slice none 0 0]) ?_ 3 _ rfl; (with_reducible repeat (first | refine blk_drewN ?_ _ | refine blk_drew ?_ | refine blk_alloc ?_ _)); refine blk_put (cs := #[.int .i64 0, .slice none 0 0, .int .i64 0, .slice none 0 0]) ?_ 2 _ rfl; (with_reducible repeat (first | refine blk_drewN ?_ _ | refine blk_drew ?_ | refine blk_alloc ?_ _)); refine blk_put (cs := #[.int .i64 0, .slice none 0 0, .int .i64 0, .slice none 0 0]) ?_ 1 _ rfl; (with_reducible repeat (first | refine blk_drewN ?_ _ | refine blk_drew ?_ | refine blk_alloc ?_ _)); refine blk_put (cs := #[.int .i64 0, .slice none 0 0, .int .i64 0, .slice none 0 0]) ?_ 0 _ rfl; (with_reducible repeat (first | refine blk_drewN ?_ _ | refine blk_drew ?_ | refine blk_alloc ?_ _)); exact BK341.out) Tryd.underlying38 rfl (by kernel_rfl)) rfl ?_
    exact ⟨_, _, by first | rfl | (simp [errW_none, errW_some] <;> rfl) | (simp [*, errW_none, errW_some] <;> rfl), by first | exact Kd.R_nil _ _ _ _ _ | exact Kd.N_nil _ _ _ _ _ | exact Kd.V_nil _ _ _ _ _ | exact Kd.Q_nil _ _ _ _ _ | exact Kd.S_nil _ _ _ _ _, by first | exact Kd.R_nil _ _ _ _ _ | exact Kd.N_nil _ _ _ _ _ | exact Kd.V_nil _ _ _ _ _ | exact Kd.Q_nil _ _ _ _ _ | exact Kd.S_nil _ _ _ _ _, by repeat (first | (with_reducible first | exact HB.out | apply below_alloc | apply pw_below_drewN | apply below_drew1 | refine below_set ?_ GE340.out | refine below_set ?_ GE341.out) | exact HB.out)⟩

end Go.Proofs.YtgdpknmffohhaaaDoor.Pl

/- ref06.Indent: the program's answer. -/
namespace Go.Proofs.YtgdpknmffohhaaaDoor.Pl
open Go.RowKit Go.Lib Go.Proofs.YtgdpknmffohhaaaDoorW.PrintWords Go.Proofs.YtgdpknmffohhaaaDoorW.PrintLast Go.Proofs.YtgdpknmffohhaaaDoorW.PrintMore
set_option linter.unusedVariables false
def tup_ (r : Ln × Int) : Int × List Int × Int × List S71 × Int := (r.1.q, r.1.ls, r.1.k, r.1.cs, r.2)
theorem own_is_ (x : Ln) (hz : Sz x) : quillworkref06_Own.f x.q x.ls x.k x.cs = some (x.q, x.ls, x.k, x.cs) := by
  unfold quillworkref06_Own.f quillworkref05_Own.f
  simp only [Option.bind_some, List.nil_append, List.length_nil]
  rw [if_pos (by have := hz.1; omega), if_pos (by have := hz.2.1; omega)]
  rfl
theorem refindent_ev_ (x : Ln) (hz : Sz x) : Ev (fun k => quillworkref06_Indent.f k x.q x.ls x.k x.cs) (tup_ (turnR indentF x)) := by
  unfold quillworkref06_Indent.f
  refine Ev.bind (ref_may_ x hz) ?_
  unfold turnR
  cases hm : mayL x with
  | false => exact Ev.congr (fun k => if_neg (by decide)) (Ev.now _)
  | true =>
    have hp := (mayL_parts hm).1
    rw [if_pos rfl]
    refine Ev.congr (fun k => if_pos rfl) ?_
    refine Ev.congr (fun k => by rw [own_is_ x hz, Option.bind_some]) ?_
    dsimp only
    unfold indentF
    by_cases h6 : (x.ls.length : Int) = 6
    · refine Ev.congr (fun k => if_pos h6) ?_
      have h0 : ¬ x.ls = [] := fun e => by rw [e] at h6; exact absurd h6 (by decide)
      rw [if_neg h0]
      dsimp only
      rw [decide_eq_false (by omega), if_neg (by decide)]
      refine Ev.step (f := fun _ => some _) (fun k => ?_) (Ev.now _)
      simp only [quillworkref06_Indent.j0]
      rfl
    · refine Ev.congr (fun k => if_neg h6) ?_
      by_cases h0 : x.ls = []
      · refine Ev.congr (fun k => if_pos (by rw [h0]; rfl)) ?_
        rw [if_pos h0]
        dsimp only
        refine Ev.step (f := fun _ => some _) (fun k => ?_) (Ev.now _)
        simp only [quillworkref06_Indent.j0]
        by_cases hq : x.q = 6
        · rw [if_pos (beq_iff_eq.2 hq), decide_eq_false (by omega), if_neg (by decide)]
          rfl
        · rw [if_neg (by rw [beq_iff_eq]; exact hq), decide_eq_true (by omega), if_pos rfl, if_neg (by rw [h0]; decide), w64s_ _ (by omega)]
          rfl
      · have hl : 0 < x.ls.length := List.length_pos_iff.2 h0
        refine Ev.congr (fun k => if_neg (by omega)) ?_
        rw [if_neg h0]
        dsimp only
        rw [decide_eq_true (by omega), if_pos rfl]
        refine Ev.step (f := fun _ => some _) (fun k => ?_) (Ev.now _)
        simp only [quillworkref06_Indent.j0]
        rw [if_neg (by decide), if_pos (by omega), w64s_ _ (by omega), if_pos (by omega), if_pos (by omega), if_pos (by have := hz.1; omega)]
        unfold tup_ lastF
        rw [if_neg (by omega)]
theorem refindent_calls_ (x : Ln) (v : Value) (w : World) (hx : RdL w v x) (hz : Sz x) :
    Calls Tryd.prog 44 #[v] w fun e w' => Back_ w (turnR indentF x) e w' := by
  obtain ⟨_, _, rfl, ⟨A1, c1, rfl, h1, hc1⟩, ⟨A3, c3, rfl, h3, hc3⟩⟩ := hx
  obtain ⟨k, hk⟩ := (refindent_ev_ x hz).rounds
  refine (quillworkref06_Indent.calls k _ _ _ _ _ _ _ _ _ _ _ _ _ w h1 hc1 h3 hc3 hk).mono ?_
  rintro e w' ⟨v1, v3, rfl, g1, g3, hb⟩
  exact ⟨_, rfl, ⟨_, _, rfl, Wr.of_R g1, Wr.of_R g3⟩, hb⟩
end Go.Proofs.YtgdpknmffohhaaaDoor.Pl

/- lines.Join: one line out of two. -/
namespace Go.Proofs.YtgdpknmffohhaaaDoor.Pl
open Go.RowKit Go.Lib Go.Proofs.YtgdpknmffohhaaaDoorW.PrintWords Go.Proofs.YtgdpknmffohhaaaDoorW.PrintLast Go.Proofs.YtgdpknmffohhaaaDoorW.PrintMore
set_option linter.unusedVariables false
end Go.Proofs.YtgdpknmffohhaaaDoor.Pl
