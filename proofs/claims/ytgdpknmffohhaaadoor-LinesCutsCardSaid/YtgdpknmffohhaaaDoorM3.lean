/- Printed texts, and given ones, of the seat's functions, in one file. -/
import Derived.Test.YtgdpknmffohhaaaDoorM2
import Derived.Test.YtgdpknmffohhaaaDoorM1
import Derived.Test.YtgdpknmffohhaaaDoorM0
/- ref06.Split: the program's answer. -/
namespace Go.Proofs.YtgdpknmffohhaaaDoor.Pl
open Go.RowKit Go.Lib Go.Proofs.YtgdpknmffohhaaaDoorW.PrintWords Go.Proofs.YtgdpknmffohhaaaDoorW.PrintLast Go.Proofs.YtgdpknmffohhaaaDoorW.PrintMore
set_option linter.unusedVariables false
/-- two lines and an error, handed back, to be read -/
def SplitR_ (w : World) (r : Ln × Ln × Int) (e : Ending) (w' : World) : Prop := ∃ A1 a1 A3 a3 B1 b1 B3 b3,
  e = .returned (.tuple #[.agg #[.int .i64 r.1.q, .slice A1 r.1.ls.length a1, .int .i64 r.1.k, .slice A3 r.1.cs.length a3], .agg #[.int .i64 r.2.1.q, .slice B1 r.2.1.ls.length b1, .int .i64 r.2.1.k, .slice B3 r.2.1.cs.length b3], .int .i64 r.2.2]) ∧
    WrL w' w.heap.size (.agg #[.int .i64 r.1.q, .slice A1 r.1.ls.length a1, .int .i64 r.1.k, .slice A3 r.1.cs.length a3]) r.1 ∧ WrL w' w.heap.size (.agg #[.int .i64 r.2.1.q, .slice B1 r.2.1.ls.length b1, .int .i64 r.2.1.k, .slice B3 r.2.1.cs.length b3]) r.2.1 ∧ Below w.heap.size w w'
theorem zeroR_back_ {w W : World} (h : Below w.heap.size w W) : SplitR_ w (zeroLn, zeroLn, 1) (.returned (.tuple #[.agg #[.int .i64 0, .slice none 0 0, .int .i64 0, .slice none 0 0], .agg #[.int .i64 0, .slice none 0 0, .int .i64 0, .slice none 0 0], .int .i64 1])) W :=
  ⟨none, 0, none, 0, none, 0, none, 0, rfl, WrL_zero _ _, WrL_zero _ _, h⟩
theorem splitR_end_ {w W : World} {x : Ln} {n d1 a3 e1 b3 : Nat} {B1 A3 D1 B3 : Option Addr} {kb : Int} (hn : n ≤ x.cs.length) (hkb : kb = if n = x.cs.length then 0 else x.k)
    (wa1 : Wr (Kd.int .i64) 3 W w.heap.size (.slice B1 x.ls.length d1) x.ls) (wa3 : Wr k71 71 W w.heap.size (.slice A3 n a3) (x.cs.take n)) (wb1 : Wr (Kd.int .i64) 3 W w.heap.size (.slice D1 x.ls.length e1) x.ls) (wb3 : Wr k71 71 W w.heap.size (.slice B3 (x.cs.length - n) b3) (x.cs.drop n)) (hB : Below w.heap.size w W) :
    SplitR_ w (splitA x n, splitB x n, 0) (.returned (.tuple #[.agg #[.int .i64 x.q, .slice B1 x.ls.length d1, .int .i64 x.k, .slice A3 n a3], .agg #[.int .i64 x.q, .slice D1 x.ls.length e1, .int .i64 kb, .slice B3 (x.cs.length - n) b3], .int .i64 0])) W := by
  have la : (splitA x n).cs.length = n := by show (x.cs.take n).length = n; rw [List.length_take]; omega
  have eb : splitB x n = ⟨x.q, x.ls, kb, x.cs.drop n⟩ := by
    unfold splitB
    rw [hkb]
    by_cases h : n = x.cs.length
    · rw [if_pos h, if_pos h, h, List.drop_length]
    · rw [if_neg h, if_neg h]
  have lb : (x.cs.drop n).length = x.cs.length - n := List.length_drop
  refine ⟨B1, d1, A3, a3, D1, e1, B3, b3, ?_, ⟨_, _, rfl, wa1, ?_⟩, ⟨_, _, rfl, ?_, ?_⟩, hB⟩
  · dsimp only
    rw [la, eb]
    dsimp only
    rw [lb]
    rfl
  · dsimp only
    rw [la]
    exact wa3
  · dsimp only
    rw [eb]
    exact wb1
  · dsimp only
    rw [eb]
    dsimp only
    rw [lb]
    exact wb3
set_option maxRecDepth 100000 in
set_option maxHeartbeats 20000000 in
theorem refsplit_calls_ (x : Ln) (at_ : Int) (v : Value) (w : World) (hx : RdL w v x) (hz : Sz x) :
    Calls Tryd.prog 28 #[v, .int .i64 at_] w fun e w' => SplitR_ w (splitR x at_) e w' := by
  have hu38 := Tryd.underlying38
  obtain ⟨_, _, rfl, ⟨A1, c1, rfl, h1, hc1⟩, ⟨A3, c3, rfl, h3, hc3⟩⟩ := hx
  have hX : RdL w (.agg #[.int .i64 x.q, .slice A1 x.ls.length c1, .int .i64 x.k, .slice A3 x.cs.length c3]) x := ⟨_, _, rfl, ⟨A1, c1, rfl, h1, hc1⟩, ⟨A3, c3, rfl, h3, hc3⟩⟩
  have HM := Aside0.mk (fun W (hW : Below w.heap.size w W) => refmay_calls_ x _ W (hX.below hW) hz)
  have HFR := Aside0.mk (fun W (hW : Below w.heap.size w W) => refframeW_calls_ x _ W (hX.below hW) hz)
  have HC3 := Aside0.mk (fun W (hW : Below w.heap.size w W) => Kd.C_below h3 hW)
  have HLC := Aside0.mk hc3
  have HZL := Aside0.mk hz.2.1
  obtain ⟨F1, F1', F2, F3⟩ := three_boxes_ w (.cells #[.int .i64 x.q, .slice A1 x.ls.length c1, .int .i64 x.k, .slice A3 x.cs.length c3] 38) (.cells #[.int .i64 0, .slice none 0 0, .int .i64 0, .slice none 0 0] 38) (.cells #[.int .i64 0, .slice none 0 0, .int .i64 0, .slice none 0 0] 38)
  clear h1 h3 hc1 hc3 hz hX
  go_enter Tryd.func28, Tryd.ntmps28
  go_upto_region 1 with (fail)
  generalize ((w.alloc (.cells #[.int .i64 x.q, .slice A1 x.ls.length c1, .int .i64 x.k, .slice A3 x.cs.length c3] 38)).alloc (.cells #[.int .i64 0, .slice none 0 0, .int .i64 0, .slice none 0 0] 38)).alloc (.cells #[.int .i64 0, .slice none 0 0, .int .i64 0, .slice none 0 0] 38) = W0 at F1 F1' F2 F3 ⊢
  have a0 : W0.cell? ⟨w.heap.size, 0, none⟩ = some (.int .i64 x.q) := (blk_cell F1 0).trans rfl
  have a1 : W0.cell? ⟨w.heap.size, 1, none⟩ = some (.slice A1 x.ls.length c1) := (blk_cell F1 1).trans rfl
  have a2 : W0.cell? ⟨w.heap.size, 2, none⟩ = some (.int .i64 x.k) := (blk_cell F1 2).trans rfl
  have a3 : W0.cell? ⟨w.heap.size, 3, none⟩ = some (.slice A3 x.cs.length c3) := (blk_cell F1 3).trans rfl
  have H0 := Aside0.mk F1
  have H1 := Aside0.mk F1'
  have H2 := Aside0.mk F2
  have H3 := Aside0.mk F3
  clear F1 F1' F2 F3
  cases hm : mayL x with
  | false =>
    rw [hm] at HM
    have HR := Aside0.mk (show splitR x at_ = (zeroLn, zeroLn, 1) by unfold splitR; rw [hm]; simp)
    go_wp2_with (go_at_call 38; refine (HM.out _ H3.out).mono ?_; rintro e w1 ⟨rfl, hb⟩; have HB1 := Aside0.mk hb; have fb := blk_below H1.out hb; have b0 : w1.cell? ⟨w.heap.size + 1, 0, none⟩ = some (.int .i64 0) := (blk_cell fb 0).trans rfl; have be0 : w1.frozen? ⟨w.heap.size + 1, 0, none⟩ = false := blk_frozen fb 0; have b1 : w1.cell? ⟨w.heap.size + 1, 1, none⟩ = some (.slice none 0 0) := (blk_cell fb 1).trans rfl; have be1 : w1.frozen? ⟨w.heap.size + 1, 1, none⟩ = false := blk_frozen fb 1; have b2 : w1.cell? ⟨w.heap.size + 1, 2, none⟩ = some (.int .i64 0) := (blk_cell fb 2).trans rfl; have be2 : w1.frozen? ⟨w.heap.size + 1, 2, none⟩ = false := blk_frozen fb 2; have b3 : w1.cell? ⟨w.heap.size + 1, 3, none⟩ = some (.slice none 0 0) := (blk_cell fb 3).trans rfl; have be3 : w1.frozen? ⟨w.heap.size + 1, 3, none⟩ = false := blk_frozen fb 3; have fc := blk_below H2.out hb; have m0 : w1.cell? ⟨w.heap.size + 2, 0, none⟩ = some (.int .i64 0) := (blk_cell fc 0).trans rfl; have me0 : w1.frozen? ⟨w.heap.size + 2, 0, none⟩ = false := blk_frozen fc 0; have m1 : w1.cell? ⟨w.heap.size + 2, 1, none⟩ = some (.slice none 0 0) := (blk_cell fc 1).trans rfl; have me1 : w1.frozen? ⟨w.heap.size + 2, 1, none⟩ = false := blk_frozen fc 1; have m2 : w1.cell? ⟨w.heap.size + 2, 2, none⟩ = some (.int .i64 0) := (blk_cell fc 2).trans rfl; have me2 : w1.frozen? ⟨w.heap.size + 2, 2, none⟩ = false := blk_frozen fc 2; have m3 : w1.cell? ⟨w.heap.size + 2, 3, none⟩ = some (.slice none 0 0) := (blk_cell fc 3).trans rfl; have me3 : w1.frozen? ⟨w.heap.size + 2, 3, none⟩ = false := blk_frozen fc 3; have g3 : w1.cell? ⟨w.heap.size, 3, none⟩ = some (.slice A3 x.cs.length c3) := (hb.cell (World.block_lt_of_cell? _ _ a3)).trans a3; have FB := Aside0.mk fb; have FC := Aside0.mk fc; clear hb fb fc)
    refine bodyPost_ret (results_list (rs := [.cell 4 38, .cell 5 38, .tmp 6]) rfl (by simp) (.cell (w.heap.size + 1) 38 #[.int .i64 0, .slice none 0 0, .int .i64 0, .slice none 0 0] (0, 0) _ rfl (put4_off (put4_blk FB.out) (by omega)) Tryd.underlying38 rfl (by kernel_rfl) (.cell (w.heap.size + 2) 38 #[.int .i64 0, .slice none 0 0, .int .i64 0, .slice none 0 0] (0, 0) _ rfl (put4_blk (put4_off FC.out (by omega))) Tryd.underlying38 rfl (by kernel_rfl) (.tmp .nil)))) rfl ?_
    rw [HR.out]
    exact zeroR_back_ (put4_below (put4_below (below_step H3.out HB1.out) (by omega)) (by omega))
  | true =>
    rw [hm] at HM
    by_cases k0_ : at_ < 0
    · have t0 : decide (at_ < 0) = true := decide_eq_true k0_
      have HR := Aside0.mk (show splitR x at_ = (zeroLn, zeroLn, 1) by unfold splitR; rw [if_neg (by omega)])
      clear k0_
      go_wp2_with (go_at_call 38; refine (HM.out _ H3.out).mono ?_; rintro e w1 ⟨rfl, hb⟩; have HB1 := Aside0.mk hb; have fb := blk_below H1.out hb; have b0 : w1.cell? ⟨w.heap.size + 1, 0, none⟩ = some (.int .i64 0) := (blk_cell fb 0).trans rfl; have be0 : w1.frozen? ⟨w.heap.size + 1, 0, none⟩ = false := blk_frozen fb 0; have b1 : w1.cell? ⟨w.heap.size + 1, 1, none⟩ = some (.slice none 0 0) := (blk_cell fb 1).trans rfl; have be1 : w1.frozen? ⟨w.heap.size + 1, 1, none⟩ = false := blk_frozen fb 1; have b2 : w1.cell? ⟨w.heap.size + 1, 2, none⟩ = some (.int .i64 0) := (blk_cell fb 2).trans rfl; have be2 : w1.frozen? ⟨w.heap.size + 1, 2, none⟩ = false := blk_frozen fb 2; have b3 : w1.cell? ⟨w.heap.size + 1, 3, none⟩ = some (.slice none 0 0) := (blk_cell fb 3).trans rfl; have be3 : w1.frozen? ⟨w.heap.size + 1, 3, none⟩ = false := blk_frozen fb 3; have fc := blk_below H2.out hb; have m0 : w1.cell? ⟨w.heap.size + 2, 0, none⟩ = some (.int .i64 0) := (blk_cell fc 0).trans rfl; have me0 : w1.frozen? ⟨w.heap.size + 2, 0, none⟩ = false := blk_frozen fc 0; have m1 : w1.cell? ⟨w.heap.size + 2, 1, none⟩ = some (.slice none 0 0) := (blk_cell fc 1).trans rfl; have me1 : w1.frozen? ⟨w.heap.size + 2, 1, none⟩ = false := blk_frozen fc 1; have m2 : w1.cell? ⟨w.heap.size + 2, 2, none⟩ = some (.int .i64 0) := (blk_cell fc 2).trans rfl; have me2 : w1.frozen? ⟨w.heap.size + 2, 2, none⟩ = false := blk_frozen fc 2; have m3 : w1.cell? ⟨w.heap.size + 2, 3, none⟩ = some (.slice none 0 0) := (blk_cell fc 3).trans rfl; have me3 : w1.frozen? ⟨w.heap.size + 2, 3, none⟩ = false := blk_frozen fc 3; have g3 : w1.cell? ⟨w.heap.size, 3, none⟩ = some (.slice A3 x.cs.length c3) := (hb.cell (World.block_lt_of_cell? _ _ a3)).trans a3; have FB := Aside0.mk fb; have FC := Aside0.mk fc; clear hb fb fc)
      refine bodyPost_ret (results_list (rs := [.cell 4 38, .cell 5 38, .tmp 6]) rfl (by simp) (.cell (w.heap.size + 1) 38 #[.int .i64 0, .slice none 0 0, .int .i64 0, .slice none 0 0] (0, 0) _ rfl (put4_off (put4_blk FB.out) (by omega)) Tryd.underlying38 rfl (by kernel_rfl) (.cell (w.heap.size + 2) 38 #[.int .i64 0, .slice none 0 0, .int .i64 0, .slice none 0 0] (0, 0) _ rfl (put4_blk (put4_off FC.out (by omega))) Tryd.underlying38 rfl (by kernel_rfl) (.tmp .nil)))) rfl ?_
      rw [HR.out]
      exact zeroR_back_ (put4_below (put4_below (below_step H3.out HB1.out) (by omega)) (by omega))
    have t0 : decide (at_ < 0) = false := decide_eq_false k0_
    by_cases k1_ : (x.cs.length : Int) < at_
    · have t1 : decide ((x.cs.length : Int) < at_) = true := decide_eq_true k1_
      have HR := Aside0.mk (show splitR x at_ = (zeroLn, zeroLn, 1) by unfold splitR; rw [if_neg (by omega)])
      clear k0_ k1_
      go_wp2_with (go_at_call 38; refine (HM.out _ H3.out).mono ?_; rintro e w1 ⟨rfl, hb⟩; have HB1 := Aside0.mk hb; have fb := blk_below H1.out hb; have b0 : w1.cell? ⟨w.heap.size + 1, 0, none⟩ = some (.int .i64 0) := (blk_cell fb 0).trans rfl; have be0 : w1.frozen? ⟨w.heap.size + 1, 0, none⟩ = false := blk_frozen fb 0; have b1 : w1.cell? ⟨w.heap.size + 1, 1, none⟩ = some (.slice none 0 0) := (blk_cell fb 1).trans rfl; have be1 : w1.frozen? ⟨w.heap.size + 1, 1, none⟩ = false := blk_frozen fb 1; have b2 : w1.cell? ⟨w.heap.size + 1, 2, none⟩ = some (.int .i64 0) := (blk_cell fb 2).trans rfl; have be2 : w1.frozen? ⟨w.heap.size + 1, 2, none⟩ = false := blk_frozen fb 2; have b3 : w1.cell? ⟨w.heap.size + 1, 3, none⟩ = some (.slice none 0 0) := (blk_cell fb 3).trans rfl; have be3 : w1.frozen? ⟨w.heap.size + 1, 3, none⟩ = false := blk_frozen fb 3; have fc := blk_below H2.out hb; have m0 : w1.cell? ⟨w.heap.size + 2, 0, none⟩ = some (.int .i64 0) := (blk_cell fc 0).trans rfl; have me0 : w1.frozen? ⟨w.heap.size + 2, 0, none⟩ = false := blk_frozen fc 0; have m1 : w1.cell? ⟨w.heap.size + 2, 1, none⟩ = some (.slice none 0 0) := (blk_cell fc 1).trans rfl; have me1 : w1.frozen? ⟨w.heap.size + 2, 1, none⟩ = false := blk_frozen fc 1; have m2 : w1.cell? ⟨w.heap.size + 2, 2, none⟩ = some (.int .i64 0) := (blk_cell fc 2).trans rfl; have me2 : w1.frozen? ⟨w.heap.size + 2, 2, none⟩ = false := blk_frozen fc 2; have m3 : w1.cell? ⟨w.heap.size + 2, 3, none⟩ = some (.slice none 0 0) := (blk_cell fc 3).trans rfl; have me3 : w1.frozen? ⟨w.heap.size + 2, 3, none⟩ = false := blk_frozen fc 3; have g3 : w1.cell? ⟨w.heap.size, 3, none⟩ = some (.slice A3 x.cs.length c3) := (hb.cell (World.block_lt_of_cell? _ _ a3)).trans a3; have FB := Aside0.mk fb; have FC := Aside0.mk fc; clear hb fb fc)
      refine bodyPost_ret (results_list (rs := [.cell 4 38, .cell 5 38, .tmp 6]) rfl (by simp) (.cell (w.heap.size + 1) 38 #[.int .i64 0, .slice none 0 0, .int .i64 0, .slice none 0 0] (0, 0) _ rfl (put4_off (put4_blk FB.out) (by omega)) Tryd.underlying38 rfl (by kernel_rfl) (.cell (w.heap.size + 2) 38 #[.int .i64 0, .slice none 0 0, .int .i64 0, .slice none 0 0] (0, 0) _ rfl (put4_blk (put4_off FC.out (by omega))) Tryd.underlying38 rfl (by kernel_rfl) (.tmp .nil)))) rfl ?_
      rw [HR.out]
      exact zeroR_back_ (put4_below (put4_below (below_step H3.out HB1.out) (by omega)) (by omega))
    have t1 : decide ((x.cs.length : Int) < at_) = false := decide_eq_false k1_
    obtain ⟨n, rfl⟩ := Int.eq_ofNat_of_zero_le (show 0 ≤ at_ by omega)
    have HR := Aside0.mk (show splitR x (n : Int) = (splitA x n, splitB x n, 0) by unfold splitR; rw [if_pos ⟨hm, by omega, by omega⟩, Int.toNat_natCast])
    have HNL := Aside0.mk (show n ≤ x.cs.length by omega)
    have t2 : decide (x.cs.length < n) = false := decide_eq_false (by omega)
    clear k0_ k1_ hm
    go_upto_region 3 with (go_at_call 38; refine (HM.out _ H3.out).mono ?_; rintro e w1 ⟨rfl, hb⟩; have HB1 := Aside0.mk hb; have fb := blk_below H1.out hb; have b0 : w1.cell? ⟨w.heap.size + 1, 0, none⟩ = some (.int .i64 0) := (blk_cell fb 0).trans rfl; have be0 : w1.frozen? ⟨w.heap.size + 1, 0, none⟩ = false := blk_frozen fb 0; have b1 : w1.cell? ⟨w.heap.size + 1, 1, none⟩ = some (.slice none 0 0) := (blk_cell fb 1).trans rfl; have be1 : w1.frozen? ⟨w.heap.size + 1, 1, none⟩ = false := blk_frozen fb 1; have b2 : w1.cell? ⟨w.heap.size + 1, 2, none⟩ = some (.int .i64 0) := (blk_cell fb 2).trans rfl; have be2 : w1.frozen? ⟨w.heap.size + 1, 2, none⟩ = false := blk_frozen fb 2; have b3 : w1.cell? ⟨w.heap.size + 1, 3, none⟩ = some (.slice none 0 0) := (blk_cell fb 3).trans rfl; have be3 : w1.frozen? ⟨w.heap.size + 1, 3, none⟩ = false := blk_frozen fb 3; have fc := blk_below H2.out hb; have m0 : w1.cell? ⟨w.heap.size + 2, 0, none⟩ = some (.int .i64 0) := (blk_cell fc 0).trans rfl; have me0 : w1.frozen? ⟨w.heap.size + 2, 0, none⟩ = false := blk_frozen fc 0; have m1 : w1.cell? ⟨w.heap.size + 2, 1, none⟩ = some (.slice none 0 0) := (blk_cell fc 1).trans rfl; have me1 : w1.frozen? ⟨w.heap.size + 2, 1, none⟩ = false := blk_frozen fc 1; have m2 : w1.cell? ⟨w.heap.size + 2, 2, none⟩ = some (.int .i64 0) := (blk_cell fc 2).trans rfl; have me2 : w1.frozen? ⟨w.heap.size + 2, 2, none⟩ = false := blk_frozen fc 2; have m3 : w1.cell? ⟨w.heap.size + 2, 3, none⟩ = some (.slice none 0 0) := (blk_cell fc 3).trans rfl; have me3 : w1.frozen? ⟨w.heap.size + 2, 3, none⟩ = false := blk_frozen fc 3; have g3 : w1.cell? ⟨w.heap.size, 3, none⟩ = some (.slice A3 x.cs.length c3) := (hb.cell (World.block_lt_of_cell? _ _ a3)).trans a3; have FB := Aside0.mk fb; have FC := Aside0.mk fc; clear hb fb fc)
    have K0 := Aside0.mk (show w1.drew.heap[w.heap.size]? = some (.cells #[.int .i64 x.q, .slice A1 x.ls.length c1, .int .i64 x.k, .slice A3 x.cs.length c3] 38 (0, 0)) from (blk_below H0.out HB1.out : w1.heap[w.heap.size]? = some (.cells #[.int .i64 x.q, .slice A1 x.ls.length c1, .int .i64 x.k, .slice A3 x.cs.length c3] 38 (0, 0))))
    have K1 := Aside0.mk (show w1.drew.heap[w.heap.size + 1]? = some (.cells #[.int .i64 0, .slice none 0 0, .int .i64 0, .slice none 0 0] 38 (0, 0)) from FB.out)
    have K2 := Aside0.mk (show w1.drew.heap[w.heap.size + 2]? = some (.cells #[.int .i64 0, .slice none 0 0, .int .i64 0, .slice none 0 0] 38 (0, 0)) from FC.out)
    have KB := Aside0.mk (below_drew1 (below_step H3.out HB1.out))
    clear H0 H1 H2 H3 HB1 FB FC HM t0 t1 t2 a0 a1 a2 a3 g3 b0 be0 b1 be1 b2 be2 b3 be3 m0 me0 m1 me1 m2 me2 m3 me3
    refine start_ (n := 8) (S := fun W' => (W'.cell? ⟨w.heap.size, 0, none⟩ = some (.int .i64 x.q) ∧ W'.cell? ⟨w.heap.size, 1, none⟩ = some (.slice A1 x.ls.length c1) ∧ W'.cell? ⟨w.heap.size, 2, none⟩ = some (.int .i64 x.k) ∧ W'.cell? ⟨w.heap.size, 3, none⟩ = some (.slice A3 x.cs.length c3))) (ds := [6, 7]) #[false, false, false, false, false, false, false, false] (by kernel_rfl) rfl rfl ⟨(blk_cell K0.out 0).trans rfl, (blk_cell K0.out 1).trans rfl, (blk_cell K0.out 2).trans rfl, (blk_cell K0.out 3).trans rfl⟩ (fun hHeld => ?_)
    generalize w1.drew = wd at K0 K1 K2 KB hHeld ⊢
    have HF := Aside0.mk (fun W' (hW : Below wd.heap.size wd W') => HFR.out W' (below_step KB.out hW))
    clear HFR
    refine take_ (i := 0) (N := some 25) (v := ?_) (a' := ?_) #[true, false, false, false, false, false, false, false] rfl rfl (by kernel_rfl) (fun _ _ _ h => h) (Or.inl ⟨by rfl, ?_⟩) hHeld ?_ ?_
    rotate_left
    · rintro w' ⟨s0_0, s0_1, s0_2, s0_3⟩
      go_simp
      with_reducible rfl
    rotate_left
    · simp only [Act.put, List.setIfInBounds_toArray, List.set_cons_zero, List.set_cons_succ]
      rfl
    refine take_ (i := 2) (N := some 27) (v := ?_) (a' := ?_) #[true, false, true, false, false, false, false, false] rfl rfl (by kernel_rfl) (fun _ _ _ h => h) (Or.inl ⟨by rfl, ?_⟩) hHeld ?_ ?_
    rotate_left
    · rintro w' ⟨s0_0, s0_1, s0_2, s0_3⟩
      go_simp
      with_reducible rfl
    rotate_left
    · simp only [Act.put, List.setIfInBounds_toArray, List.set_cons_zero, List.set_cons_succ]
      rfl
    refine join_ (σ := TwoS) 2 #[true, true, true, true, true, true, false, false] (fun s => [(26, .agg #[.int .i64 x.q, .slice s.B1 x.ls.length s.d1, .int .i64 x.k, .slice s.B3 0 s.d3]), (28, .agg #[.int .i64 x.q, .slice s.D1 x.ls.length s.e1, .int .i64 x.k, .slice s.D3 0 s.e3]), (7, .pointer (some ⟨s.p, 0, none⟩)), (8, .pointer (some ⟨s.q, 0, none⟩))]) (fun s W' => WrL W' wd.heap.size (.agg #[.int .i64 x.q, .slice s.B1 x.ls.length s.d1, .int .i64 x.k, .slice s.B3 0 s.d3]) ((⟨x.q, x.ls, x.k, []⟩ : Ln)) ∧ WrL W' wd.heap.size (.agg #[.int .i64 x.q, .slice s.D1 x.ls.length s.e1, .int .i64 x.k, .slice s.D3 0 s.e3]) ((⟨x.q, x.ls, x.k, []⟩ : Ln)) ∧ W'.heap[s.p]? = some (.cells #[.int .i64 0, .slice none 0 0, .int .i64 0, .slice none 0 0] 38 (0, 0)) ∧ W'.heap[s.q]? = some (.cells #[.int .i64 0, .slice none 0 0, .int .i64 0, .slice none 0 0] 38 (0, 0)) ∧ s.p ≠ s.q ∧ wd.heap.size ≤ s.p ∧ wd.heap.size ≤ s.q ∧ Below wd.heap.size wd W') ?_ (fun hcont => ?_)
    rotate_left
    · clear hHeld
      refine three_ (i := 1) (Ni := some 26) (j := 4) (Nj := some 7) (k := 5) (Nk := some 8) #[true, true, true, false, false, false, false, false] #[true, false, true, false, true, false, false, false] #[true, false, true, false, false, true, false, false] rfl rfl rfl rfl rfl rfl (by kernel_rfl) (by decide) (by decide) (by decide) (fun K hK => ?_) (fun K hK => ?_) (fun K hK => ?_)
      · refine goes_ Tryd.func41 (by kernel_rfl) rfl #[.agg #[.int .i64 x.q, .slice A1 x.ls.length c1, .int .i64 x.k, .slice A3 x.cs.length c3]] (by rfl) rfl rfl (by (try simp only [List.map_toArray, List.map_cons, List.map_nil]); first | done | rfl) ?_
        refine (HF.out _ (Below.refl _ wd)).mono ?_
        rintro e w11 ⟨B1, d1, B3, d3, rfl, hw, hb⟩
        have HWX := Aside0.mk hw
        clear hw
        have HB1 := Aside0.mk hb
        refine ⟨_, rfl, ?_⟩
        refine hK.out _ _ ⟨(blk_cell (blk_below K0.out HB1.out) 0).trans rfl, (blk_cell (blk_below K0.out HB1.out) 1).trans rfl, (blk_cell (blk_below K0.out HB1.out) 2).trans rfl, (blk_cell (blk_below K0.out HB1.out) 3).trans rfl⟩ (fun hHeld => ?_)
        clear hK K hb hHeld
        refine norm_ (a' := ?_) ?_ ?_
        rotate_left
        · show Act.put _ (some 26) _ = _
          simp only [Act.put, List.setIfInBounds_toArray, List.set_cons_zero, List.set_cons_succ]
          rfl
        refine three_ (i := 3) (Ni := some 28) (j := 4) (Nj := some 7) (k := 5) (Nk := some 8) #[true, true, true, true, false, false, false, false] #[true, true, true, false, true, false, false, false] #[true, true, true, false, false, true, false, false] rfl rfl rfl rfl rfl rfl (by kernel_rfl) (by decide) (by decide) (by decide) (fun K hK => ?_) (fun K hK => ?_) (fun K hK => ?_)
        · refine goes_ Tryd.func41 (by kernel_rfl) rfl #[.agg #[.int .i64 x.q, .slice A1 x.ls.length c1, .int .i64 x.k, .slice A3 x.cs.length c3]] (by rfl) rfl rfl (by (try simp only [List.map_toArray, List.map_cons, List.map_nil]); first | done | rfl) ?_
          refine (HF.out _ HB1.out).mono ?_
          rintro e w12 ⟨D1, e1, D3, e3, rfl, hw, hb⟩
          have HWY := Aside0.mk hw
          clear hw
          have HB2 := Aside0.mk hb
          refine ⟨_, rfl, ?_⟩
          refine hK.out _ _ ⟨(blk_cell (blk_below (blk_below K0.out HB1.out) HB2.out) 0).trans rfl, (blk_cell (blk_below (blk_below K0.out HB1.out) HB2.out) 1).trans rfl, (blk_cell (blk_below (blk_below K0.out HB1.out) HB2.out) 2).trans rfl, (blk_cell (blk_below (blk_below K0.out HB1.out) HB2.out) 3).trans rfl⟩ (fun hHeld => ?_)
          clear hK K hb hHeld
          refine norm_ (a' := ?_) ?_ ?_
          rotate_left
          · show Act.put _ (some 28) _ = _
            simp only [Act.put, List.setIfInBounds_toArray, List.set_cons_zero, List.set_cons_succ]
            rfl
          refine two_ (i := 4) (Ni := some 7) (j := 5) (Nj := some 8) #[true, true, true, true, true, false, false, false] #[true, true, true, true, false, true, false, false] rfl rfl rfl rfl (by kernel_rfl) (by decide) (by decide) (fun K hK => ?_) (fun K hK => ?_)
          · refine box_step ?hg (N := 7) ?hd (cs := #[.int .i64 0, .slice none 0 0, .int .i64 0, .slice none 0 0]) (t := 38) ?hr ?_; (case hd => rfl); (case hg => rfl); (case hr => first | (go_simp; done) | (go_simp; rfl))
            intro g4 hg4 w13 hbox hb
            have HX4 := Aside0.mk hbox
            clear hbox
            have HB3 := Aside0.mk hb
            refine hK.out _ _ ⟨(blk_cell (blk_below (blk_below (blk_below K0.out HB1.out) HB2.out) HB3.out) 0).trans rfl, (blk_cell (blk_below (blk_below (blk_below K0.out HB1.out) HB2.out) HB3.out) 1).trans rfl, (blk_cell (blk_below (blk_below (blk_below K0.out HB1.out) HB2.out) HB3.out) 2).trans rfl, (blk_cell (blk_below (blk_below (blk_below K0.out HB1.out) HB2.out) HB3.out) 3).trans rfl⟩ (fun hHeld => ?_)
            clear hK K hb hHeld
            refine norm_ (a' := ?_) ?_ ?_
            rotate_left
            · show Act.put _ (some 7) _ = _
              simp only [Act.put, List.setIfInBounds_toArray, List.set_cons_zero, List.set_cons_succ]
              rfl
            refine one_ (i := 5) (N := some 8) #[true, true, true, true, true, true, false, false] rfl rfl (by kernel_rfl) (by decide) (fun K hK => ?_)
            refine box_step ?hg (N := 8) ?hd (cs := #[.int .i64 0, .slice none 0 0, .int .i64 0, .slice none 0 0]) (t := 38) ?hr ?_; (case hd => rfl); (case hg => rfl); (case hr => first | (go_simp; done) | (go_simp; rfl))
            intro g5 hg5 w14 hbox hb
            have HX5 := Aside0.mk hbox
            clear hbox
            have HB4 := Aside0.mk hb
            refine hK.out _ _ ⟨(blk_cell (blk_below (blk_below (blk_below (blk_below K0.out HB1.out) HB2.out) HB3.out) HB4.out) 0).trans rfl, (blk_cell (blk_below (blk_below (blk_below (blk_below K0.out HB1.out) HB2.out) HB3.out) HB4.out) 1).trans rfl, (blk_cell (blk_below (blk_below (blk_below (blk_below K0.out HB1.out) HB2.out) HB3.out) HB4.out) 2).trans rfl, (blk_cell (blk_below (blk_below (blk_below (blk_below K0.out HB1.out) HB2.out) HB3.out) HB4.out) 3).trans rfl⟩ (fun hHeld => ?_)
            clear hK K hb hHeld
            refine norm_ (a' := ?_) ?_ ?_
            rotate_left
            · show Act.put _ (some 8) _ = _
              simp only [Act.put, List.setIfInBounds_toArray, List.set_cons_zero, List.set_cons_succ]
              rfl
            have z1 := HB1.out.size
            have z2 := HB2.out.size
            have z3 := HB3.out.size
            have z4 := HB4.out.size
            have y4 := blk_lt HX4.out
            have y5 := blk_lt HX5.out
            exact hcont ⟨B1, d1, B3, d3, D1, e1, D3, e3, g4, g5⟩ _ ⟨(((HWX.out.below HB2.out).below HB3.out).below HB4.out).lower (below_size (Below.refl _ wd)), ((HWY.out.below HB3.out).below HB4.out).lower (below_size HB1.out), (blk_below HX4.out HB4.out), HX5.out, (show g4 ≠ g5 by omega), (show wd.heap.size ≤ g4 by omega), (show wd.heap.size ≤ g5 by omega), (below_step (below_step (below_step HB1.out HB2.out) HB3.out) HB4.out)⟩
          · refine box_step ?hg (N := 8) ?hd (cs := #[.int .i64 0, .slice none 0 0, .int .i64 0, .slice none 0 0]) (t := 38) ?hr ?_; (case hd => rfl); (case hg => rfl); (case hr => first | (go_simp; done) | (go_simp; rfl))
            intro g5 hg5 w13 hbox hb
            have HX5 := Aside0.mk hbox
            clear hbox
            have HB3 := Aside0.mk hb
            refine hK.out _ _ ⟨(blk_cell (blk_below (blk_below (blk_below K0.out HB1.out) HB2.out) HB3.out) 0).trans rfl, (blk_cell (blk_below (blk_below (blk_below K0.out HB1.out) HB2.out) HB3.out) 1).trans rfl, (blk_cell (blk_below (blk_below (blk_below K0.out HB1.out) HB2.out) HB3.out) 2).trans rfl, (blk_cell (blk_below (blk_below (blk_below K0.out HB1.out) HB2.out) HB3.out) 3).trans rfl⟩ (fun hHeld => ?_)
            clear hK K hb hHeld
            refine norm_ (a' := ?_) ?_ ?_
            rotate_left
            · show Act.put _ (some 8) _ = _
              simp only [Act.put, List.setIfInBounds_toArray, List.set_cons_zero, List.set_cons_succ]
              rfl
            refine one_ (i := 4) (N := some 7) #[true, true, true, true, true, true, false, false] rfl rfl (by kernel_rfl) (by decide) (fun K hK => ?_)
            refine box_step ?hg (N := 7) ?hd (cs := #[.int .i64 0, .slice none 0 0, .int .i64 0, .slice none 0 0]) (t := 38) ?hr ?_; (case hd => rfl); (case hg => rfl); (case hr => first | (go_simp; done) | (go_simp; rfl))
            intro g4 hg4 w14 hbox hb
            have HX4 := Aside0.mk hbox
            clear hbox
            have HB4 := Aside0.mk hb
            refine hK.out _ _ ⟨(blk_cell (blk_below (blk_below (blk_below (blk_below K0.out HB1.out) HB2.out) HB3.out) HB4.out) 0).trans rfl, (blk_cell (blk_below (blk_below (blk_below (blk_below K0.out HB1.out) HB2.out) HB3.out) HB4.out) 1).trans rfl, (blk_cell (blk_below (blk_below (blk_below (blk_below K0.out HB1.out) HB2.out) HB3.out) HB4.out) 2).trans rfl, (blk_cell (blk_below (blk_below (blk_below (blk_below K0.out HB1.out) HB2.out) HB3.out) HB4.out) 3).trans rfl⟩ (fun hHeld => ?_)
            clear hK K hb hHeld
            refine norm_ (a' := ?_) ?_ ?_
            rotate_left
            · show Act.put _ (some 7) _ = _
              simp only [Act.put, List.setIfInBounds_toArray, List.set_cons_zero, List.set_cons_succ]
              rfl
            have z1 := HB1.out.size
            have z2 := HB2.out.size
            have z3 := HB3.out.size
            have z4 := HB4.out.size
            have y4 := blk_lt HX4.out
            have y5 := blk_lt HX5.out
            exact hcont ⟨B1, d1, B3, d3, D1, e1, D3, e3, g4, g5⟩ _ ⟨(((HWX.out.below HB2.out).below HB3.out).below HB4.out).lower (below_size (Below.refl _ wd)), ((HWY.out.below HB3.out).below HB4.out).lower (below_size HB1.out), HX4.out, (blk_below HX5.out HB4.out), (show g4 ≠ g5 by omega), (show wd.heap.size ≤ g4 by omega), (show wd.heap.size ≤ g5 by omega), (below_step (below_step (below_step HB1.out HB2.out) HB3.out) HB4.out)⟩
        · refine box_step ?hg (N := 7) ?hd (cs := #[.int .i64 0, .slice none 0 0, .int .i64 0, .slice none 0 0]) (t := 38) ?hr ?_; (case hd => rfl); (case hg => rfl); (case hr => first | (go_simp; done) | (go_simp; rfl))
          intro g4 hg4 w12 hbox hb
          have HX4 := Aside0.mk hbox
          clear hbox
          have HB2 := Aside0.mk hb
          refine hK.out _ _ ⟨(blk_cell (blk_below (blk_below K0.out HB1.out) HB2.out) 0).trans rfl, (blk_cell (blk_below (blk_below K0.out HB1.out) HB2.out) 1).trans rfl, (blk_cell (blk_below (blk_below K0.out HB1.out) HB2.out) 2).trans rfl, (blk_cell (blk_below (blk_below K0.out HB1.out) HB2.out) 3).trans rfl⟩ (fun hHeld => ?_)
          clear hK K hb hHeld
          refine norm_ (a' := ?_) ?_ ?_
          rotate_left
          · show Act.put _ (some 7) _ = _
            simp only [Act.put, List.setIfInBounds_toArray, List.set_cons_zero, List.set_cons_succ]
            rfl
          refine two_ (i := 3) (Ni := some 28) (j := 5) (Nj := some 8) #[true, true, true, true, true, false, false, false] #[true, true, true, false, true, true, false, false] rfl rfl rfl rfl (by kernel_rfl) (by decide) (by decide) (fun K hK => ?_) (fun K hK => ?_)
          · refine goes_ Tryd.func41 (by kernel_rfl) rfl #[.agg #[.int .i64 x.q, .slice A1 x.ls.length c1, .int .i64 x.k, .slice A3 x.cs.length c3]] (by rfl) rfl rfl (by (try simp only [List.map_toArray, List.map_cons, List.map_nil]); first | done | rfl) ?_
            refine (HF.out _ (below_step HB1.out HB2.out)).mono ?_
            rintro e w13 ⟨D1, e1, D3, e3, rfl, hw, hb⟩
            have HWY := Aside0.mk hw
            clear hw
            have HB3 := Aside0.mk hb
            refine ⟨_, rfl, ?_⟩
            refine hK.out _ _ ⟨(blk_cell (blk_below (blk_below (blk_below K0.out HB1.out) HB2.out) HB3.out) 0).trans rfl, (blk_cell (blk_below (blk_below (blk_below K0.out HB1.out) HB2.out) HB3.out) 1).trans rfl, (blk_cell (blk_below (blk_below (blk_below K0.out HB1.out) HB2.out) HB3.out) 2).trans rfl, (blk_cell (blk_below (blk_below (blk_below K0.out HB1.out) HB2.out) HB3.out) 3).trans rfl⟩ (fun hHeld => ?_)
            clear hK K hb hHeld
            refine norm_ (a' := ?_) ?_ ?_
            rotate_left
            · show Act.put _ (some 28) _ = _
              simp only [Act.put, List.setIfInBounds_toArray, List.set_cons_zero, List.set_cons_succ]
              rfl
            refine one_ (i := 5) (N := some 8) #[true, true, true, true, true, true, false, false] rfl rfl (by kernel_rfl) (by decide) (fun K hK => ?_)
            refine box_step ?hg (N := 8) ?hd (cs := #[.int .i64 0, .slice none 0 0, .int .i64 0, .slice none 0 0]) (t := 38) ?hr ?_; (case hd => rfl); (case hg => rfl); (case hr => first | (go_simp; done) | (go_simp; rfl))
            intro g5 hg5 w14 hbox hb
            have HX5 := Aside0.mk hbox
            clear hbox
            have HB4 := Aside0.mk hb
            refine hK.out _ _ ⟨(blk_cell (blk_below (blk_below (blk_below (blk_below K0.out HB1.out) HB2.out) HB3.out) HB4.out) 0).trans rfl, (blk_cell (blk_below (blk_below (blk_below (blk_below K0.out HB1.out) HB2.out) HB3.out) HB4.out) 1).trans rfl, (blk_cell (blk_below (blk_below (blk_below (blk_below K0.out HB1.out) HB2.out) HB3.out) HB4.out) 2).trans rfl, (blk_cell (blk_below (blk_below (blk_below (blk_below K0.out HB1.out) HB2.out) HB3.out) HB4.out) 3).trans rfl⟩ (fun hHeld => ?_)
            clear hK K hb hHeld
            refine norm_ (a' := ?_) ?_ ?_
            rotate_left
            · show Act.put _ (some 8) _ = _
              simp only [Act.put, List.setIfInBounds_toArray, List.set_cons_zero, List.set_cons_succ]
              rfl
            have z1 := HB1.out.size
            have z2 := HB2.out.size
            have z3 := HB3.out.size
            have z4 := HB4.out.size
            have y4 := blk_lt HX4.out
            have y5 := blk_lt HX5.out
            exact hcont ⟨B1, d1, B3, d3, D1, e1, D3, e3, g4, g5⟩ _ ⟨(((HWX.out.below HB2.out).below HB3.out).below HB4.out).lower (below_size (Below.refl _ wd)), (HWY.out.below HB4.out).lower (below_size (below_step HB1.out HB2.out)), (blk_below (blk_below HX4.out HB3.out) HB4.out), HX5.out, (show g4 ≠ g5 by omega), (show wd.heap.size ≤ g4 by omega), (show wd.heap.size ≤ g5 by omega), (below_step (below_step (below_step HB1.out HB2.out) HB3.out) HB4.out)⟩
          · refine box_step ?hg (N := 8) ?hd (cs := #[.int .i64 0, .slice none 0 0, .int .i64 0, .slice none 0 0]) (t := 38) ?hr ?_; (case hd => rfl); (case hg => rfl); (case hr => first | (go_simp; done) | (go_simp; rfl))
            intro g5 hg5 w13 hbox hb
            have HX5 := Aside0.mk hbox
            clear hbox
            have HB3 := Aside0.mk hb
            refine hK.out _ _ ⟨(blk_cell (blk_below (blk_below (blk_below K0.out HB1.out) HB2.out) HB3.out) 0).trans rfl, (blk_cell (blk_below (blk_below (blk_below K0.out HB1.out) HB2.out) HB3.out) 1).trans rfl, (blk_cell (blk_below (blk_below (blk_below K0.out HB1.out) HB2.out) HB3.out) 2).trans rfl, (blk_cell (blk_below (blk_below (blk_below K0.out HB1.out) HB2.out) HB3.out) 3).trans rfl⟩ (fun hHeld => ?_)
            clear hK K hb hHeld
            refine norm_ (a' := ?_) ?_ ?_
            rotate_left
            · show Act.put _ (some 8) _ = _
              simp only [Act.put, List.setIfInBounds_toArray, List.set_cons_zero, List.set_cons_succ]
              rfl
            refine one_ (i := 3) (N := some 28) #[true, true, true, true, true, true, false, false] rfl rfl (by kernel_rfl) (by decide) (fun K hK => ?_)
            refine goes_ Tryd.func41 (by kernel_rfl) rfl #[.agg #[.int .i64 x.q, .slice A1 x.ls.length c1, .int .i64 x.k, .slice A3 x.cs.length c3]] (by rfl) rfl rfl (by (try simp only [List.map_toArray, List.map_cons, List.map_nil]); first | done | rfl) ?_
            refine (HF.out _ (below_step (below_step HB1.out HB2.out) HB3.out)).mono ?_
            rintro e w14 ⟨D1, e1, D3, e3, rfl, hw, hb⟩
            have HWY := Aside0.mk hw
            clear hw
            have HB4 := Aside0.mk hb
            refine ⟨_, rfl, ?_⟩
            refine hK.out _ _ ⟨(blk_cell (blk_below (blk_below (blk_below (blk_below K0.out HB1.out) HB2.out) HB3.out) HB4.out) 0).trans rfl, (blk_cell (blk_below (blk_below (blk_below (blk_below K0.out HB1.out) HB2.out) HB3.out) HB4.out) 1).trans rfl, (blk_cell (blk_below (blk_below (blk_below (blk_below K0.out HB1.out) HB2.out) HB3.out) HB4.out) 2).trans rfl, (blk_cell (blk_below (blk_below (blk_below (blk_below K0.out HB1.out) HB2.out) HB3.out) HB4.out) 3).trans rfl⟩ (fun hHeld => ?_)
            clear hK K hb hHeld
            refine norm_ (a' := ?_) ?_ ?_
            rotate_left
            · show Act.put _ (some 28) _ = _
              simp only [Act.put, List.setIfInBounds_toArray, List.set_cons_zero, List.set_cons_succ]
              rfl
            have z1 := HB1.out.size
            have z2 := HB2.out.size
            have z3 := HB3.out.size
            have z4 := HB4.out.size
            have y4 := blk_lt HX4.out
            have y5 := blk_lt HX5.out
            exact hcont ⟨B1, d1, B3, d3, D1, e1, D3, e3, g4, g5⟩ _ ⟨(((HWX.out.below HB2.out).below HB3.out).below HB4.out).lower (below_size (Below.refl _ wd)), HWY.out.lower (below_size (below_step (below_step HB1.out HB2.out) HB3.out)), (blk_below (blk_below HX4.out HB3.out) HB4.out), (blk_below HX5.out HB4.out), (show g4 ≠ g5 by omega), (show wd.heap.size ≤ g4 by omega), (show wd.heap.size ≤ g5 by omega), (below_step (below_step (below_step HB1.out HB2.out) HB3.out) HB4.out)⟩
        · refine box_step ?hg (N := 8) ?hd (cs := #[.int .i64 0, .slice none 0 0, .int .i64 0, .slice none 0 0]) (t := 38) ?hr ?_; (case hd => rfl); (case hg => rfl); (case hr => first | (go_simp; done) | (go_simp; rfl))
          intro g5 hg5 w12 hbox hb
          have HX5 := Aside0.mk hbox
          clear hbox
          have HB2 := Aside0.mk hb
          refine hK.out _ _ ⟨(blk_cell (blk_below (blk_below K0.out HB1.out) HB2.out) 0).trans rfl, (blk_cell (blk_below (blk_below K0.out HB1.out) HB2.out) 1).trans rfl, (blk_cell (blk_below (blk_below K0.out HB1.out) HB2.out) 2).trans rfl, (blk_cell (blk_below (blk_below K0.out HB1.out) HB2.out) 3).trans rfl⟩ (fun hHeld => ?_)
          clear hK K hb hHeld
          refine norm_ (a' := ?_) ?_ ?_
          rotate_left
          · show Act.put _ (some 8) _ = _
            simp only [Act.put, List.setIfInBounds_toArray, List.set_cons_zero, List.set_cons_succ]
            rfl
          refine two_ (i := 3) (Ni := some 28) (j := 4) (Nj := some 7) #[true, true, true, true, false, true, false, false] #[true, true, true, false, true, true, false, false] rfl rfl rfl rfl (by kernel_rfl) (by decide) (by decide) (fun K hK => ?_) (fun K hK => ?_)
          · refine goes_ Tryd.func41 (by kernel_rfl) rfl #[.agg #[.int .i64 x.q, .slice A1 x.ls.length c1, .int .i64 x.k, .slice A3 x.cs.length c3]] (by rfl) rfl rfl (by (try simp only [List.map_toArray, List.map_cons, List.map_nil]); first | done | rfl) ?_
            refine (HF.out _ (below_step HB1.out HB2.out)).mono ?_
            rintro e w13 ⟨D1, e1, D3, e3, rfl, hw, hb⟩
            have HWY := Aside0.mk hw
            clear hw
            have HB3 := Aside0.mk hb
            refine ⟨_, rfl, ?_⟩
            refine hK.out _ _ ⟨(blk_cell (blk_below (blk_below (blk_below K0.out HB1.out) HB2.out) HB3.out) 0).trans rfl, (blk_cell (blk_below (blk_below (blk_below K0.out HB1.out) HB2.out) HB3.out) 1).trans rfl, (blk_cell (blk_below (blk_below (blk_below K0.out HB1.out) HB2.out) HB3.out) 2).trans rfl, (blk_cell (blk_below (blk_below (blk_below K0.out HB1.out) HB2.out) HB3.out) 3).trans rfl⟩ (fun hHeld => ?_)
            clear hK K hb hHeld
            refine norm_ (a' := ?_) ?_ ?_
            rotate_left
            · show Act.put _ (some 28) _ = _
              simp only [Act.put, List.setIfInBounds_toArray, List.set_cons_zero, List.set_cons_succ]
              rfl
            refine one_ (i := 4) (N := some 7) #[true, true, true, true, true, true, false, false] rfl rfl (by kernel_rfl) (by decide) (fun K hK => ?_)
            refine box_step ?hg (N := 7) ?hd (cs := #[.int .i64 0, .slice none 0 0, .int .i64 0, .slice none 0 0]) (t := 38) ?hr ?_; (case hd => rfl); (case hg => rfl); (case hr => first | (go_simp; done) | (go_simp; rfl))
            intro g4 hg4 w14 hbox hb
            have HX4 := Aside0.mk hbox
            clear hbox
            have HB4 := Aside0.mk hb
            refine hK.out _ _ ⟨(blk_cell (blk_below (blk_below (blk_below (blk_below K0.out HB1.out) HB2.out) HB3.out) HB4.out) 0).trans rfl, (blk_cell (blk_below (blk_below (blk_below (blk_below K0.out HB1.out) HB2.out) HB3.out) HB4.out) 1).trans rfl, (blk_cell (blk_below (blk_below (blk_below (blk_below K0.out HB1.out) HB2.out) HB3.out) HB4.out) 2).trans rfl, (blk_cell (blk_below (blk_below (blk_below (blk_below K0.out HB1.out) HB2.out) HB3.out) HB4.out) 3).trans rfl⟩ (fun hHeld => ?_)
            clear hK K hb hHeld
            refine norm_ (a' := ?_) ?_ ?_
            rotate_left
            · show Act.put _ (some 7) _ = _
              simp only [Act.put, List.setIfInBounds_toArray, List.set_cons_zero, List.set_cons_succ]
              rfl
            have z1 := HB1.out.size
            have z2 := HB2.out.size
            have z3 := HB3.out.size
            have z4 := HB4.out.size
            have y4 := blk_lt HX4.out
            have y5 := blk_lt HX5.out
            exact hcont ⟨B1, d1, B3, d3, D1, e1, D3, e3, g4, g5⟩ _ ⟨(((HWX.out.below HB2.out).below HB3.out).below HB4.out).lower (below_size (Below.refl _ wd)), (HWY.out.below HB4.out).lower (below_size (below_step HB1.out HB2.out)), HX4.out, (blk_below (blk_below HX5.out HB3.out) HB4.out), (show g4 ≠ g5 by omega), (show wd.heap.size ≤ g4 by omega), (show wd.heap.size ≤ g5 by omega), (below_step (below_step (below_step HB1.out HB2.out) HB3.out) HB4.out)⟩
          · refine box_step ?hg (N := 7) ?hd (cs := #[.int .i64 0, .slice none 0 0, .int .i64 0, .slice none 0 0]) (t := 38) ?hr ?_; (case hd => rfl); (case hg => rfl); (case hr => first | (go_simp; done) | (go_simp; rfl))
            intro g4 hg4 w13 hbox hb
            have HX4 := Aside0.mk hbox
            clear hbox
            have HB3 := Aside0.mk hb
            refine hK.out _ _ ⟨(blk_cell (blk_below (blk_below (blk_below K0.out HB1.out) HB2.out) HB3.out) 0).trans rfl, (blk_cell (blk_below (blk_below (blk_below K0.out HB1.out) HB2.out) HB3.out) 1).trans rfl, (blk_cell (blk_below (blk_below (blk_below K0.out HB1.out) HB2.out) HB3.out) 2).trans rfl, (blk_cell (blk_below (blk_below (blk_below K0.out HB1.out) HB2.out) HB3.out) 3).trans rfl⟩ (fun hHeld => ?_)
            clear hK K hb hHeld
            refine norm_ (a' := ?_) ?_ ?_
            rotate_left
            · show Act.put _ (some 7) _ = _
              simp only [Act.put, List.setIfInBounds_toArray, List.set_cons_zero, List.set_cons_succ]
              rfl
            refine one_ (i := 3) (N := some 28) #[true, true, true, true, true, true, false, false] rfl rfl (by kernel_rfl) (by decide) (fun K hK => ?_)
            refine goes_ Tryd.func41 (by kernel_rfl) rfl #[.agg #[.int .i64 x.q, .slice A1 x.ls.length c1, .int .i64 x.k, .slice A3 x.cs.length c3]] (by rfl) rfl rfl (by (try simp only [List.map_toArray, List.map_cons, List.map_nil]); first | done | rfl) ?_
            refine (HF.out _ (below_step (below_step HB1.out HB2.out) HB3.out)).mono ?_
            rintro e w14 ⟨D1, e1, D3, e3, rfl, hw, hb⟩
            have HWY := Aside0.mk hw
            clear hw
            have HB4 := Aside0.mk hb
            refine ⟨_, rfl, ?_⟩
            refine hK.out _ _ ⟨(blk_cell (blk_below (blk_below (blk_below (blk_below K0.out HB1.out) HB2.out) HB3.out) HB4.out) 0).trans rfl, (blk_cell (blk_below (blk_below (blk_below (blk_below K0.out HB1.out) HB2.out) HB3.out) HB4.out) 1).trans rfl, (blk_cell (blk_below (blk_below (blk_below (blk_below K0.out HB1.out) HB2.out) HB3.out) HB4.out) 2).trans rfl, (blk_cell (blk_below (blk_below (blk_below (blk_below K0.out HB1.out) HB2.out) HB3.out) HB4.out) 3).trans rfl⟩ (fun hHeld => ?_)
            clear hK K hb hHeld
            refine norm_ (a' := ?_) ?_ ?_
            rotate_left
            · show Act.put _ (some 28) _ = _
              simp only [Act.put, List.setIfInBounds_toArray, List.set_cons_zero, List.set_cons_succ]
              rfl
            have z1 := HB1.out.size
            have z2 := HB2.out.size
            have z3 := HB3.out.size
            have z4 := HB4.out.size
            have y4 := blk_lt HX4.out
            have y5 := blk_lt HX5.out
            exact hcont ⟨B1, d1, B3, d3, D1, e1, D3, e3, g4, g5⟩ _ ⟨(((HWX.out.below HB2.out).below HB3.out).below HB4.out).lower (below_size (Below.refl _ wd)), HWY.out.lower (below_size (below_step (below_step HB1.out HB2.out) HB3.out)), (blk_below HX4.out HB4.out), (blk_below (blk_below HX5.out HB3.out) HB4.out), (show g4 ≠ g5 by omega), (show wd.heap.size ≤ g4 by omega), (show wd.heap.size ≤ g5 by omega), (below_step (below_step (below_step HB1.out HB2.out) HB3.out) HB4.out)⟩
      · refine box_step ?hg (N := 7) ?hd (cs := #[.int .i64 0, .slice none 0 0, .int .i64 0, .slice none 0 0]) (t := 38) ?hr ?_; (case hd => rfl); (case hg => rfl); (case hr => first | (go_simp; done) | (go_simp; rfl))
        intro g4 hg4 w11 hbox hb
        have HX4 := Aside0.mk hbox
        clear hbox
        have HB1 := Aside0.mk hb
        refine hK.out _ _ ⟨(blk_cell (blk_below K0.out HB1.out) 0).trans rfl, (blk_cell (blk_below K0.out HB1.out) 1).trans rfl, (blk_cell (blk_below K0.out HB1.out) 2).trans rfl, (blk_cell (blk_below K0.out HB1.out) 3).trans rfl⟩ (fun hHeld => ?_)
        clear hK K hb hHeld
        refine norm_ (a' := ?_) ?_ ?_
        rotate_left
        · show Act.put _ (some 7) _ = _
          simp only [Act.put, List.setIfInBounds_toArray, List.set_cons_zero, List.set_cons_succ]
          rfl
        refine two_ (i := 1) (Ni := some 26) (j := 5) (Nj := some 8) #[true, true, true, false, true, false, false, false] #[true, false, true, false, true, true, false, false] rfl rfl rfl rfl (by kernel_rfl) (by decide) (by decide) (fun K hK => ?_) (fun K hK => ?_)
        · refine goes_ Tryd.func41 (by kernel_rfl) rfl #[.agg #[.int .i64 x.q, .slice A1 x.ls.length c1, .int .i64 x.k, .slice A3 x.cs.length c3]] (by rfl) rfl rfl (by (try simp only [List.map_toArray, List.map_cons, List.map_nil]); first | done | rfl) ?_
          refine (HF.out _ HB1.out).mono ?_
          rintro e w12 ⟨B1, d1, B3, d3, rfl, hw, hb⟩
          have HWX := Aside0.mk hw
          clear hw
          have HB2 := Aside0.mk hb
          refine ⟨_, rfl, ?_⟩
          refine hK.out _ _ ⟨(blk_cell (blk_below (blk_below K0.out HB1.out) HB2.out) 0).trans rfl, (blk_cell (blk_below (blk_below K0.out HB1.out) HB2.out) 1).trans rfl, (blk_cell (blk_below (blk_below K0.out HB1.out) HB2.out) 2).trans rfl, (blk_cell (blk_below (blk_below K0.out HB1.out) HB2.out) 3).trans rfl⟩ (fun hHeld => ?_)
          clear hK K hb hHeld
          refine norm_ (a' := ?_) ?_ ?_
          rotate_left
          · show Act.put _ (some 26) _ = _
            simp only [Act.put, List.setIfInBounds_toArray, List.set_cons_zero, List.set_cons_succ]
            rfl
          refine two_ (i := 3) (Ni := some 28) (j := 5) (Nj := some 8) #[true, true, true, true, true, false, false, false] #[true, true, true, false, true, true, false, false] rfl rfl rfl rfl (by kernel_rfl) (by decide) (by decide) (fun K hK => ?_) (fun K hK => ?_)
          · refine goes_ Tryd.func41 (by kernel_rfl) rfl #[.agg #[.int .i64 x.q, .slice A1 x.ls.length c1, .int .i64 x.k, .slice A3 x.cs.length c3]] (by rfl) rfl rfl (by (try simp only [List.map_toArray, List.map_cons, List.map_nil]); first | done | rfl) ?_
            refine (HF.out _ (below_step HB1.out HB2.out)).mono ?_
            rintro e w13 ⟨D1, e1, D3, e3, rfl, hw, hb⟩
            have HWY := Aside0.mk hw
            clear hw
            have HB3 := Aside0.mk hb
            refine ⟨_, rfl, ?_⟩
            refine hK.out _ _ ⟨(blk_cell (blk_below (blk_below (blk_below K0.out HB1.out) HB2.out) HB3.out) 0).trans rfl, (blk_cell (blk_below (blk_below (blk_below K0.out HB1.out) HB2.out) HB3.out) 1).trans rfl, (blk_cell (blk_below (blk_below (blk_below K0.out HB1.out) HB2.out) HB3.out) 2).trans rfl, (blk_cell (blk_below (blk_below (blk_below K0.out HB1.out) HB2.out) HB3.out) 3).trans rfl⟩ (fun hHeld => ?_)
            clear hK K hb hHeld
            refine norm_ (a' := ?_) ?_ ?_
            rotate_left
            · show Act.put _ (some 28) _ = _
              simp only [Act.put, List.setIfInBounds_toArray, List.set_cons_zero, List.set_cons_succ]
              rfl
            refine one_ (i := 5) (N := some 8) #[true, true, true, true, true, true, false, false] rfl rfl (by kernel_rfl) (by decide) (fun K hK => ?_)
            refine box_step ?hg (N := 8) ?hd (cs := #[.int .i64 0, .slice none 0 0, .int .i64 0, .slice none 0 0]) (t := 38) ?hr ?_; (case hd => rfl); (case hg => rfl); (case hr => first | (go_simp; done) | (go_simp; rfl))
            intro g5 hg5 w14 hbox hb
            have HX5 := Aside0.mk hbox
            clear hbox
            have HB4 := Aside0.mk hb
            refine hK.out _ _ ⟨(blk_cell (blk_below (blk_below (blk_below (blk_below K0.out HB1.out) HB2.out) HB3.out) HB4.out) 0).trans rfl, (blk_cell (blk_below (blk_below (blk_below (blk_below K0.out HB1.out) HB2.out) HB3.out) HB4.out) 1).trans rfl, (blk_cell (blk_below (blk_below (blk_below (blk_below K0.out HB1.out) HB2.out) HB3.out) HB4.out) 2).trans rfl, (blk_cell (blk_below (blk_below (blk_below (blk_below K0.out HB1.out) HB2.out) HB3.out) HB4.out) 3).trans rfl⟩ (fun hHeld => ?_)
            clear hK K hb hHeld
            refine norm_ (a' := ?_) ?_ ?_
            rotate_left
            · show Act.put _ (some 8) _ = _
              simp only [Act.put, List.setIfInBounds_toArray, List.set_cons_zero, List.set_cons_succ]
              rfl
            have z1 := HB1.out.size
            have z2 := HB2.out.size
            have z3 := HB3.out.size
            have z4 := HB4.out.size
            have y4 := blk_lt HX4.out
            have y5 := blk_lt HX5.out
            exact hcont ⟨B1, d1, B3, d3, D1, e1, D3, e3, g4, g5⟩ _ ⟨((HWX.out.below HB3.out).below HB4.out).lower (below_size HB1.out), (HWY.out.below HB4.out).lower (below_size (below_step HB1.out HB2.out)), (blk_below (blk_below (blk_below HX4.out HB2.out) HB3.out) HB4.out), HX5.out, (show g4 ≠ g5 by omega), (show wd.heap.size ≤ g4 by omega), (show wd.heap.size ≤ g5 by omega), (below_step (below_step (below_step HB1.out HB2.out) HB3.out) HB4.out)⟩
          · refine box_step ?hg (N := 8) ?hd (cs := #[.int .i64 0, .slice none 0 0, .int .i64 0, .slice none 0 0]) (t := 38) ?hr ?_; (case hd => rfl); (case hg => rfl); (case hr => first | (go_simp; done) | (go_simp; rfl))
            intro g5 hg5 w13 hbox hb
            have HX5 := Aside0.mk hbox
            clear hbox
            have HB3 := Aside0.mk hb
            refine hK.out _ _ ⟨(blk_cell (blk_below (blk_below (blk_below K0.out HB1.out) HB2.out) HB3.out) 0).trans rfl, (blk_cell (blk_below (blk_below (blk_below K0.out HB1.out) HB2.out) HB3.out) 1).trans rfl, (blk_cell (blk_below (blk_below (blk_below K0.out HB1.out) HB2.out) HB3.out) 2).trans rfl, (blk_cell (blk_below (blk_below (blk_below K0.out HB1.out) HB2.out) HB3.out) 3).trans rfl⟩ (fun hHeld => ?_)
            clear hK K hb hHeld
            refine norm_ (a' := ?_) ?_ ?_
            rotate_left
            · show Act.put _ (some 8) _ = _
              simp only [Act.put, List.setIfInBounds_toArray, List.set_cons_zero, List.set_cons_succ]
              rfl
            refine one_ (i := 3) (N := some 28) #[true, true, true, true, true, true, false, false] rfl rfl (by kernel_rfl) (by decide) (fun K hK => ?_)
            refine goes_ Tryd.func41 (by kernel_rfl) rfl #[.agg #[.int .i64 x.q, .slice A1 x.ls.length c1, .int .i64 x.k, .slice A3 x.cs.length c3]] (by rfl) rfl rfl (by (try simp only [List.map_toArray, List.map_cons, List.map_nil]); first | done | rfl) ?_
            refine (HF.out _ (below_step (below_step HB1.out HB2.out) HB3.out)).mono ?_
            rintro e w14 ⟨D1, e1, D3, e3, rfl, hw, hb⟩
            have HWY := Aside0.mk hw
            clear hw
            have HB4 := Aside0.mk hb
            refine ⟨_, rfl, ?_⟩
            refine hK.out _ _ ⟨(blk_cell (blk_below (blk_below (blk_below (blk_below K0.out HB1.out) HB2.out) HB3.out) HB4.out) 0).trans rfl, (blk_cell (blk_below (blk_below (blk_below (blk_below K0.out HB1.out) HB2.out) HB3.out) HB4.out) 1).trans rfl, (blk_cell (blk_below (blk_below (blk_below (blk_below K0.out HB1.out) HB2.out) HB3.out) HB4.out) 2).trans rfl, (blk_cell (blk_below (blk_below (blk_below (blk_below K0.out HB1.out) HB2.out) HB3.out) HB4.out) 3).trans rfl⟩ (fun hHeld => ?_)
            clear hK K hb hHeld
            refine norm_ (a' := ?_) ?_ ?_
            rotate_left
            · show Act.put _ (some 28) _ = _
              simp only [Act.put, List.setIfInBounds_toArray, List.set_cons_zero, List.set_cons_succ]
              rfl
            have z1 := HB1.out.size
            have z2 := HB2.out.size
            have z3 := HB3.out.size
            have z4 := HB4.out.size
            have y4 := blk_lt HX4.out
            have y5 := blk_lt HX5.out
            exact hcont ⟨B1, d1, B3, d3, D1, e1, D3, e3, g4, g5⟩ _ ⟨((HWX.out.below HB3.out).below HB4.out).lower (below_size HB1.out), HWY.out.lower (below_size (below_step (below_step HB1.out HB2.out) HB3.out)), (blk_below (blk_below (blk_below HX4.out HB2.out) HB3.out) HB4.out), (blk_below HX5.out HB4.out), (show g4 ≠ g5 by omega), (show wd.heap.size ≤ g4 by omega), (show wd.heap.size ≤ g5 by omega), (below_step (below_step (below_step HB1.out HB2.out) HB3.out) HB4.out)⟩
        · refine box_step ?hg (N := 8) ?hd (cs := #[.int .i64 0, .slice none 0 0, .int .i64 0, .slice none 0 0]) (t := 38) ?hr ?_; (case hd => rfl); (case hg => rfl); (case hr => first | (go_simp; done) | (go_simp; rfl))
          intro g5 hg5 w12 hbox hb
          have HX5 := Aside0.mk hbox
          clear hbox
          have HB2 := Aside0.mk hb
          refine hK.out _ _ ⟨(blk_cell (blk_below (blk_below K0.out HB1.out) HB2.out) 0).trans rfl, (blk_cell (blk_below (blk_below K0.out HB1.out) HB2.out) 1).trans rfl, (blk_cell (blk_below (blk_below K0.out HB1.out) HB2.out) 2).trans rfl, (blk_cell (blk_below (blk_below K0.out HB1.out) HB2.out) 3).trans rfl⟩ (fun hHeld => ?_)
          clear hK K hb hHeld
          refine norm_ (a' := ?_) ?_ ?_
          rotate_left
          · show Act.put _ (some 8) _ = _
            simp only [Act.put, List.setIfInBounds_toArray, List.set_cons_zero, List.set_cons_succ]
            rfl
          refine one_ (i := 1) (N := some 26) #[true, true, true, false, true, true, false, false] rfl rfl (by kernel_rfl) (by decide) (fun K hK => ?_)
          refine goes_ Tryd.func41 (by kernel_rfl) rfl #[.agg #[.int .i64 x.q, .slice A1 x.ls.length c1, .int .i64 x.k, .slice A3 x.cs.length c3]] (by rfl) rfl rfl (by (try simp only [List.map_toArray, List.map_cons, List.map_nil]); first | done | rfl) ?_
          refine (HF.out _ (below_step HB1.out HB2.out)).mono ?_
          rintro e w13 ⟨B1, d1, B3, d3, rfl, hw, hb⟩
          have HWX := Aside0.mk hw
          clear hw
          have HB3 := Aside0.mk hb
          refine ⟨_, rfl, ?_⟩
          refine hK.out _ _ ⟨(blk_cell (blk_below (blk_below (blk_below K0.out HB1.out) HB2.out) HB3.out) 0).trans rfl, (blk_cell (blk_below (blk_below (blk_below K0.out HB1.out) HB2.out) HB3.out) 1).trans rfl, (blk_cell (blk_below (blk_below (blk_below K0.out HB1.out) HB2.out) HB3.out) 2).trans rfl, (blk_cell (blk_below (blk_below (blk_below K0.out HB1.out) HB2.out) HB3.out) 3).trans rfl⟩ (fun hHeld => ?_)
          clear hK K hb hHeld
          refine norm_ (a' := ?_) ?_ ?_
          rotate_left
          · show Act.put _ (some 26) _ = _
            simp only [Act.put, List.setIfInBounds_toArray, List.set_cons_zero, List.set_cons_succ]
            rfl
          refine one_ (i := 3) (N := some 28) #[true, true, true, true, true, true, false, false] rfl rfl (by kernel_rfl) (by decide) (fun K hK => ?_)
          refine goes_ Tryd.func41 (by kernel_rfl) rfl #[.agg #[.int .i64 x.q, .slice A1 x.ls.length c1, .int .i64 x.k, .slice A3 x.cs.length c3]] (by rfl) rfl rfl (by (try simp only [List.map_toArray, List.map_cons, List.map_nil]); first | done | rfl) ?_
          refine (HF.out _ (below_step (below_step HB1.out HB2.out) HB3.out)).mono ?_
          rintro e w14 ⟨D1, e1, D3, e3, rfl, hw, hb⟩
          have HWY := Aside0.mk hw
          clear hw
          have HB4 := Aside0.mk hb
          refine ⟨_, rfl, ?_⟩
          refine hK.out _ _ ⟨(blk_cell (blk_below (blk_below (blk_below (blk_below K0.out HB1.out) HB2.out) HB3.out) HB4.out) 0).trans rfl, (blk_cell (blk_below (blk_below (blk_below (blk_below K0.out HB1.out) HB2.out) HB3.out) HB4.out) 1).trans rfl, (blk_cell (blk_below (blk_below (blk_below (blk_below K0.out HB1.out) HB2.out) HB3.out) HB4.out) 2).trans rfl, (blk_cell (blk_below (blk_below (blk_below (blk_below K0.out HB1.out) HB2.out) HB3.out) HB4.out) 3).trans rfl⟩ (fun hHeld => ?_)
          clear hK K hb hHeld
          refine norm_ (a' := ?_) ?_ ?_
          rotate_left
          · show Act.put _ (some 28) _ = _
            simp only [Act.put, List.setIfInBounds_toArray, List.set_cons_zero, List.set_cons_succ]
            rfl
          have z1 := HB1.out.size
          have z2 := HB2.out.size
          have z3 := HB3.out.size
          have z4 := HB4.out.size
          have y4 := blk_lt HX4.out
          have y5 := blk_lt HX5.out
          exact hcont ⟨B1, d1, B3, d3, D1, e1, D3, e3, g4, g5⟩ _ ⟨(HWX.out.below HB4.out).lower (below_size (below_step HB1.out HB2.out)), HWY.out.lower (below_size (below_step (below_step HB1.out HB2.out) HB3.out)), (blk_below (blk_below (blk_below HX4.out HB2.out) HB3.out) HB4.out), (blk_below (blk_below HX5.out HB3.out) HB4.out), (show g4 ≠ g5 by omega), (show wd.heap.size ≤ g4 by omega), (show wd.heap.size ≤ g5 by omega), (below_step (below_step (below_step HB1.out HB2.out) HB3.out) HB4.out)⟩
      · refine box_step ?hg (N := 8) ?hd (cs := #[.int .i64 0, .slice none 0 0, .int .i64 0, .slice none 0 0]) (t := 38) ?hr ?_; (case hd => rfl); (case hg => rfl); (case hr => first | (go_simp; done) | (go_simp; rfl))
        intro g5 hg5 w11 hbox hb
        have HX5 := Aside0.mk hbox
        clear hbox
        have HB1 := Aside0.mk hb
        refine hK.out _ _ ⟨(blk_cell (blk_below K0.out HB1.out) 0).trans rfl, (blk_cell (blk_below K0.out HB1.out) 1).trans rfl, (blk_cell (blk_below K0.out HB1.out) 2).trans rfl, (blk_cell (blk_below K0.out HB1.out) 3).trans rfl⟩ (fun hHeld => ?_)
        clear hK K hb hHeld
        refine norm_ (a' := ?_) ?_ ?_
        rotate_left
        · show Act.put _ (some 8) _ = _
          simp only [Act.put, List.setIfInBounds_toArray, List.set_cons_zero, List.set_cons_succ]
          rfl
        refine two_ (i := 1) (Ni := some 26) (j := 4) (Nj := some 7) #[true, true, true, false, false, true, false, false] #[true, false, true, false, true, true, false, false] rfl rfl rfl rfl (by kernel_rfl) (by decide) (by decide) (fun K hK => ?_) (fun K hK => ?_)
        · refine goes_ Tryd.func41 (by kernel_rfl) rfl #[.agg #[.int .i64 x.q, .slice A1 x.ls.length c1, .int .i64 x.k, .slice A3 x.cs.length c3]] (by rfl) rfl rfl (by (try simp only [List.map_toArray, List.map_cons, List.map_nil]); first | done | rfl) ?_
          refine (HF.out _ HB1.out).mono ?_
          rintro e w12 ⟨B1, d1, B3, d3, rfl, hw, hb⟩
          have HWX := Aside0.mk hw
          clear hw
          have HB2 := Aside0.mk hb
          refine ⟨_, rfl, ?_⟩
          refine hK.out _ _ ⟨(blk_cell (blk_below (blk_below K0.out HB1.out) HB2.out) 0).trans rfl, (blk_cell (blk_below (blk_below K0.out HB1.out) HB2.out) 1).trans rfl, (blk_cell (blk_below (blk_below K0.out HB1.out) HB2.out) 2).trans rfl, (blk_cell (blk_below (blk_below K0.out HB1.out) HB2.out) 3).trans rfl⟩ (fun hHeld => ?_)
          clear hK K hb hHeld
          refine norm_ (a' := ?_) ?_ ?_
          rotate_left
          · show Act.put _ (some 26) _ = _
            simp only [Act.put, List.setIfInBounds_toArray, List.set_cons_zero, List.set_cons_succ]
            rfl
          refine two_ (i := 3) (Ni := some 28) (j := 4) (Nj := some 7) #[true, true, true, true, false, true, false, false] #[true, true, true, false, true, true, false, false] rfl rfl rfl rfl (by kernel_rfl) (by decide) (by decide) (fun K hK => ?_) (fun K hK => ?_)
          · refine goes_ Tryd.func41 (by kernel_rfl) rfl #[.agg #[.int .i64 x.q, .slice A1 x.ls.length c1, .int .i64 x.k, .slice A3 x.cs.length c3]] (by rfl) rfl rfl (by (try simp only [List.map_toArray, List.map_cons, List.map_nil]); first | done | rfl) ?_
            refine (HF.out _ (below_step HB1.out HB2.out)).mono ?_
            rintro e w13 ⟨D1, e1, D3, e3, rfl, hw, hb⟩
            have HWY := Aside0.mk hw
            clear hw
            have HB3 := Aside0.mk hb
            refine ⟨_, rfl, ?_⟩
            refine hK.out _ _ ⟨(blk_cell (blk_below (blk_below (blk_below K0.out HB1.out) HB2.out) HB3.out) 0).trans rfl, (blk_cell (blk_below (blk_below (blk_below K0.out HB1.out) HB2.out) HB3.out) 1).trans rfl, (blk_cell (blk_below (blk_below (blk_below K0.out HB1.out) HB2.out) HB3.out) 2).trans rfl, (blk_cell (blk_below (blk_below (blk_below K0.out HB1.out) HB2.out) HB3.out) 3).trans rfl⟩ (fun hHeld => ?_)
            clear hK K hb hHeld
            refine norm_ (a' := ?_) ?_ ?_
            rotate_left
            · show Act.put _ (some 28) _ = _
              simp only [Act.put, List.setIfInBounds_toArray, List.set_cons_zero, List.set_cons_succ]
              rfl
            refine one_ (i := 4) (N := some 7) #[true, true, true, true, true, true, false, false] rfl rfl (by kernel_rfl) (by decide) (fun K hK => ?_)
            refine box_step ?hg (N := 7) ?hd (cs := #[.int .i64 0, .slice none 0 0, .int .i64 0, .slice none 0 0]) (t := 38) ?hr ?_; (case hd => rfl); (case hg => rfl); (case hr => first | (go_simp; done) | (go_simp; rfl))
            intro g4 hg4 w14 hbox hb
            have HX4 := Aside0.mk hbox
            clear hbox
            have HB4 := Aside0.mk hb
            refine hK.out _ _ ⟨(blk_cell (blk_below (blk_below (blk_below (blk_below K0.out HB1.out) HB2.out) HB3.out) HB4.out) 0).trans rfl, (blk_cell (blk_below (blk_below (blk_below (blk_below K0.out HB1.out) HB2.out) HB3.out) HB4.out) 1).trans rfl, (blk_cell (blk_below (blk_below (blk_below (blk_below K0.out HB1.out) HB2.out) HB3.out) HB4.out) 2).trans rfl, (blk_cell (blk_below (blk_below (blk_below (blk_below K0.out HB1.out) HB2.out) HB3.out) HB4.out) 3).trans rfl⟩ (fun hHeld => ?_)
            clear hK K hb hHeld
            refine norm_ (a' := ?_) ?_ ?_
            rotate_left
            · show Act.put _ (some 7) _ = _
              simp only [Act.put, List.setIfInBounds_toArray, List.set_cons_zero, List.set_cons_succ]
              rfl
            have z1 := HB1.out.size
            have z2 := HB2.out.size
            have z3 := HB3.out.size
            have z4 := HB4.out.size
            have y4 := blk_lt HX4.out
            have y5 := blk_lt HX5.out
            exact hcont ⟨B1, d1, B3, d3, D1, e1, D3, e3, g4, g5⟩ _ ⟨((HWX.out.below HB3.out).below HB4.out).lower (below_size HB1.out), (HWY.out.below HB4.out).lower (below_size (below_step HB1.out HB2.out)), HX4.out, (blk_below (blk_below (blk_below HX5.out HB2.out) HB3.out) HB4.out), (show g4 ≠ g5 by omega), (show wd.heap.size ≤ g4 by omega), (show wd.heap.size ≤ g5 by omega), (below_step (below_step (below_step HB1.out HB2.out) HB3.out) HB4.out)⟩
          · refine box_step ?hg (N := 7) ?hd (cs := #[.int .i64 0, .slice none 0 0, .int .i64 0, .slice none 0 0]) (t := 38) ?hr ?_; (case hd => rfl); (case hg => rfl); (case hr => first | (go_simp; done) | (go_simp; rfl))
            intro g4 hg4 w13 hbox hb
            have HX4 := Aside0.mk hbox
            clear hbox
            have HB3 := Aside0.mk hb
            refine hK.out _ _ ⟨(blk_cell (blk_below (blk_below (blk_below K0.out HB1.out) HB2.out) HB3.out) 0).trans rfl, (blk_cell (blk_below (blk_below (blk_below K0.out HB1.out) HB2.out) HB3.out) 1).trans rfl, (blk_cell (blk_below (blk_below (blk_below K0.out HB1.out) HB2.out) HB3.out) 2).trans rfl, (blk_cell (blk_below (blk_below (blk_below K0.out HB1.out) HB2.out) HB3.out) 3).trans rfl⟩ (fun hHeld => ?_)
            clear hK K hb hHeld
            refine norm_ (a' := ?_) ?_ ?_
            rotate_left
            · show Act.put _ (some 7) _ = _
              simp only [Act.put, List.setIfInBounds_toArray, List.set_cons_zero, List.set_cons_succ]
              rfl
            refine one_ (i := 3) (N := some 28) #[true, true, true, true, true, true, false, false] rfl rfl (by kernel_rfl) (by decide) (fun K hK => ?_)
            refine goes_ Tryd.func41 (by kernel_rfl) rfl #[.agg #[.int .i64 x.q, .slice A1 x.ls.length c1, .int .i64 x.k, .slice A3 x.cs.length c3]] (by rfl) rfl rfl (by (try simp only [List.map_toArray, List.map_cons, List.map_nil]); first | done | rfl) ?_
            refine (HF.out _ (below_step (below_step HB1.out HB2.out) HB3.out)).mono ?_
            rintro e w14 ⟨D1, e1, D3, e3, rfl, hw, hb⟩
            have HWY := Aside0.mk hw
            clear hw
            have HB4 := Aside0.mk hb
            refine ⟨_, rfl, ?_⟩
            refine hK.out _ _ ⟨(blk_cell (blk_below (blk_below (blk_below (blk_below K0.out HB1.out) HB2.out) HB3.out) HB4.out) 0).trans rfl, (blk_cell (blk_below (blk_below (blk_below (blk_below K0.out HB1.out) HB2.out) HB3.out) HB4.out) 1).trans rfl, (blk_cell (blk_below (blk_below (blk_below (blk_below K0.out HB1.out) HB2.out) HB3.out) HB4.out) 2).trans rfl, (blk_cell (blk_below (blk_below (blk_below (blk_below K0.out HB1.out) HB2.out) HB3.out) HB4.out) 3).trans rfl⟩ (fun hHeld => ?_)
            clear hK K hb hHeld
            refine norm_ (a' := ?_) ?_ ?_
            rotate_left
            · show Act.put _ (some 28) _ = _
              simp only [Act.put, List.setIfInBounds_toArray, List.set_cons_zero, List.set_cons_succ]
              rfl
            have z1 := HB1.out.size
            have z2 := HB2.out.size
            have z3 := HB3.out.size
            have z4 := HB4.out.size
            have y4 := blk_lt HX4.out
            have y5 := blk_lt HX5.out
            exact hcont ⟨B1, d1, B3, d3, D1, e1, D3, e3, g4, g5⟩ _ ⟨((HWX.out.below HB3.out).below HB4.out).lower (below_size HB1.out), HWY.out.lower (below_size (below_step (below_step HB1.out HB2.out) HB3.out)), (blk_below HX4.out HB4.out), (blk_below (blk_below (blk_below HX5.out HB2.out) HB3.out) HB4.out), (show g4 ≠ g5 by omega), (show wd.heap.size ≤ g4 by omega), (show wd.heap.size ≤ g5 by omega), (below_step (below_step (below_step HB1.out HB2.out) HB3.out) HB4.out)⟩
        · refine box_step ?hg (N := 7) ?hd (cs := #[.int .i64 0, .slice none 0 0, .int .i64 0, .slice none 0 0]) (t := 38) ?hr ?_; (case hd => rfl); (case hg => rfl); (case hr => first | (go_simp; done) | (go_simp; rfl))
          intro g4 hg4 w12 hbox hb
          have HX4 := Aside0.mk hbox
          clear hbox
          have HB2 := Aside0.mk hb
          refine hK.out _ _ ⟨(blk_cell (blk_below (blk_below K0.out HB1.out) HB2.out) 0).trans rfl, (blk_cell (blk_below (blk_below K0.out HB1.out) HB2.out) 1).trans rfl, (blk_cell (blk_below (blk_below K0.out HB1.out) HB2.out) 2).trans rfl, (blk_cell (blk_below (blk_below K0.out HB1.out) HB2.out) 3).trans rfl⟩ (fun hHeld => ?_)
          clear hK K hb hHeld
          refine norm_ (a' := ?_) ?_ ?_
          rotate_left
          · show Act.put _ (some 7) _ = _
            simp only [Act.put, List.setIfInBounds_toArray, List.set_cons_zero, List.set_cons_succ]
            rfl
          refine one_ (i := 1) (N := some 26) #[true, true, true, false, true, true, false, false] rfl rfl (by kernel_rfl) (by decide) (fun K hK => ?_)
          refine goes_ Tryd.func41 (by kernel_rfl) rfl #[.agg #[.int .i64 x.q, .slice A1 x.ls.length c1, .int .i64 x.k, .slice A3 x.cs.length c3]] (by rfl) rfl rfl (by (try simp only [List.map_toArray, List.map_cons, List.map_nil]); first | done | rfl) ?_
          refine (HF.out _ (below_step HB1.out HB2.out)).mono ?_
          rintro e w13 ⟨B1, d1, B3, d3, rfl, hw, hb⟩
          have HWX := Aside0.mk hw
          clear hw
          have HB3 := Aside0.mk hb
          refine ⟨_, rfl, ?_⟩
          refine hK.out _ _ ⟨(blk_cell (blk_below (blk_below (blk_below K0.out HB1.out) HB2.out) HB3.out) 0).trans rfl, (blk_cell (blk_below (blk_below (blk_below K0.out HB1.out) HB2.out) HB3.out) 1).trans rfl, (blk_cell (blk_below (blk_below (blk_below K0.out HB1.out) HB2.out) HB3.out) 2).trans rfl, (blk_cell (blk_below (blk_below (blk_below K0.out HB1.out) HB2.out) HB3.out) 3).trans rfl⟩ (fun hHeld => ?_)
          clear hK K hb hHeld
          refine norm_ (a' := ?_) ?_ ?_
          rotate_left
          · show Act.put _ (some 26) _ = _
            simp only [Act.put, List.setIfInBounds_toArray, List.set_cons_zero, List.set_cons_succ]
            rfl
          refine one_ (i := 3) (N := some 28) #[true, true, true, true, true, true, false, false] rfl rfl (by kernel_rfl) (by decide) (fun K hK => ?_)
          refine goes_ Tryd.func41 (by kernel_rfl) rfl #[.agg #[.int .i64 x.q, .slice A1 x.ls.length c1, .int .i64 x.k, .slice A3 x.cs.length c3]] (by rfl) rfl rfl (by (try simp only [List.map_toArray, List.map_cons, List.map_nil]); first | done | rfl) ?_
          refine (HF.out _ (below_step (below_step HB1.out HB2.out) HB3.out)).mono ?_
          rintro e w14 ⟨D1, e1, D3, e3, rfl, hw, hb⟩
          have HWY := Aside0.mk hw
          clear hw
          have HB4 := Aside0.mk hb
          refine ⟨_, rfl, ?_⟩
          refine hK.out _ _ ⟨(blk_cell (blk_below (blk_below (blk_below (blk_below K0.out HB1.out) HB2.out) HB3.out) HB4.out) 0).trans rfl, (blk_cell (blk_below (blk_below (blk_below (blk_below K0.out HB1.out) HB2.out) HB3.out) HB4.out) 1).trans rfl, (blk_cell (blk_below (blk_below (blk_below (blk_below K0.out HB1.out) HB2.out) HB3.out) HB4.out) 2).trans rfl, (blk_cell (blk_below (blk_below (blk_below (blk_below K0.out HB1.out) HB2.out) HB3.out) HB4.out) 3).trans rfl⟩ (fun hHeld => ?_)
          clear hK K hb hHeld
          refine norm_ (a' := ?_) ?_ ?_
          rotate_left
          · show Act.put _ (some 28) _ = _
            simp only [Act.put, List.setIfInBounds_toArray, List.set_cons_zero, List.set_cons_succ]
            rfl
          have z1 := HB1.out.size
          have z2 := HB2.out.size
          have z3 := HB3.out.size
          have z4 := HB4.out.size
          have y4 := blk_lt HX4.out
          have y5 := blk_lt HX5.out
          exact hcont ⟨B1, d1, B3, d3, D1, e1, D3, e3, g4, g5⟩ _ ⟨(HWX.out.below HB4.out).lower (below_size (below_step HB1.out HB2.out)), HWY.out.lower (below_size (below_step (below_step HB1.out HB2.out) HB3.out)), (blk_below (blk_below HX4.out HB3.out) HB4.out), (blk_below (blk_below (blk_below HX5.out HB2.out) HB3.out) HB4.out), (show g4 ≠ g5 by omega), (show wd.heap.size ≤ g4 by omega), (show wd.heap.size ≤ g5 by omega), (below_step (below_step (below_step HB1.out HB2.out) HB3.out) HB4.out)⟩
    intro s W' hF
    obtain ⟨hWX, hWY, hp, hq, hpq, hpz, hqz, hB⟩ := hF
    obtain ⟨B1, d1, B3, d3, D1, e1, D3, e3, p, q⟩ := s
    dsimp only at hWX hWY hp hq hpq hpz hqz
    refine norm_ (a' := ?_) ?_ ?_
    rotate_left
    · simp only [putAll, Act.put, List.setIfInBounds_toArray, List.set_cons_zero, List.set_cons_succ]
      rfl
    have pc0 : W'.cell? ⟨p, 0, none⟩ = some (.int .i64 0) := (blk_cell hp 0).trans rfl
    have pce0 : W'.frozen? ⟨p, 0, none⟩ = false := blk_frozen hp 0
    have pc1 : W'.cell? ⟨p, 1, none⟩ = some (.slice none 0 0) := (blk_cell hp 1).trans rfl
    have pce1 : W'.frozen? ⟨p, 1, none⟩ = false := blk_frozen hp 1
    have pc2 : W'.cell? ⟨p, 2, none⟩ = some (.int .i64 0) := (blk_cell hp 2).trans rfl
    have pce2 : W'.frozen? ⟨p, 2, none⟩ = false := blk_frozen hp 2
    have pc3 : W'.cell? ⟨p, 3, none⟩ = some (.slice none 0 0) := (blk_cell hp 3).trans rfl
    have pce3 : W'.frozen? ⟨p, 3, none⟩ = false := blk_frozen hp 3
    refine last_ (i := 6) (N := none) #[true, true, true, true, true, true, true, false] rfl rfl (by kernel_rfl) (by decide) (fun K hK => ?_)
    refine skip_ (w1 := put4_ W' p (.int .i64 x.q) (.slice B1 x.ls.length d1) (.int .i64 x.k) (.slice B3 0 d3)) (by rfl) rfl (by go_simp; rfl) ?_
    refine hK.out _ _ ?_
    clear hK K pc0 pce0 pc1 pce1 pc2 pce2 pc3 pce3
    have h1_ := put4_blk (a := .int .i64 x.q) (b := .slice B1 x.ls.length d1) (c := .int .i64 x.k) (d := .slice B3 0 d3) hp
    have h2_ := put4_off (g := p) (a := .int .i64 x.q) (b := .slice B1 x.ls.length d1) (c := .int .i64 x.k) (d := .slice B3 0 d3) hq (Ne.symm hpq)
    have h3_ := put4_WrL (a := .int .i64 x.q) (b := .slice B1 x.ls.length d1) (c := .int .i64 x.k) (d := .slice B3 0 d3) hWX hp
    have h4_ := put4_WrL (a := .int .i64 x.q) (b := .slice B1 x.ls.length d1) (c := .int .i64 x.k) (d := .slice B3 0 d3) hWY hp
    have h5_ := put4_below (a := .int .i64 x.q) (b := .slice B1 x.ls.length d1) (c := .int .i64 x.k) (d := .slice B3 0 d3) hB (show wd.heap.size ≤ p by omega)
    clear hp hq hWX hWY hB
    generalize put4_ W' p (.int .i64 x.q) (.slice B1 x.ls.length d1) (.int .i64 x.k) (.slice B3 0 d3) = W2' at h1_ h2_ h3_ h4_ h5_ ⊢
    have hp := h1_
    have hq := h2_
    have hWX := h3_
    have hWY := h4_
    have hB := h5_
    clear h1_ h2_ h3_ h4_ h5_
    have pc0 : W2'.cell? ⟨q, 0, none⟩ = some (.int .i64 0) := (blk_cell hq 0).trans rfl
    have pce0 : W2'.frozen? ⟨q, 0, none⟩ = false := blk_frozen hq 0
    have pc1 : W2'.cell? ⟨q, 1, none⟩ = some (.slice none 0 0) := (blk_cell hq 1).trans rfl
    have pce1 : W2'.frozen? ⟨q, 1, none⟩ = false := blk_frozen hq 1
    have pc2 : W2'.cell? ⟨q, 2, none⟩ = some (.int .i64 0) := (blk_cell hq 2).trans rfl
    have pce2 : W2'.frozen? ⟨q, 2, none⟩ = false := blk_frozen hq 2
    have pc3 : W2'.cell? ⟨q, 3, none⟩ = some (.slice none 0 0) := (blk_cell hq 3).trans rfl
    have pce3 : W2'.frozen? ⟨q, 3, none⟩ = false := blk_frozen hq 3
    refine last_ (i := 7) (N := none) #[true, true, true, true, true, true, true, true] rfl rfl (by kernel_rfl) (by decide) (fun K hK => ?_)
    refine skip_ (w1 := put4_ W2' q (.int .i64 x.q) (.slice D1 x.ls.length e1) (.int .i64 x.k) (.slice D3 0 e3)) (by rfl) rfl (by go_simp; rfl) ?_
    refine hK.out _ _ ?_
    clear hK K pc0 pce0 pc1 pce1 pc2 pce2 pc3 pce3
    have h1_ := put4_blk (a := .int .i64 x.q) (b := .slice D1 x.ls.length e1) (c := .int .i64 x.k) (d := .slice D3 0 e3) hq
    have h2_ := put4_off (g := q) (a := .int .i64 x.q) (b := .slice D1 x.ls.length e1) (c := .int .i64 x.k) (d := .slice D3 0 e3) hp (hpq)
    have h3_ := put4_WrL (a := .int .i64 x.q) (b := .slice D1 x.ls.length e1) (c := .int .i64 x.k) (d := .slice D3 0 e3) hWX hq
    have h4_ := put4_WrL (a := .int .i64 x.q) (b := .slice D1 x.ls.length e1) (c := .int .i64 x.k) (d := .slice D3 0 e3) hWY hq
    have h5_ := put4_below (a := .int .i64 x.q) (b := .slice D1 x.ls.length e1) (c := .int .i64 x.k) (d := .slice D3 0 e3) hB (show wd.heap.size ≤ q by omega)
    clear hp hq hWX hWY hB
    generalize put4_ W2' q (.int .i64 x.q) (.slice D1 x.ls.length e1) (.int .i64 x.k) (.slice D3 0 e3) = V at h1_ h2_ h3_ h4_ h5_ ⊢
    have hq := h1_
    have hp := h2_
    have hWX := h3_
    have hWY := h4_
    have hB := h5_
    clear h1_ h2_ h3_ h4_ h5_
    refine done_ (by kernel_rfl) ?_
    have HWD := Aside0.mk (show w.heap.size ≤ wd.heap.size from KB.out.size)
    have HNZ := Aside0.mk (show w.heap.size + 2 < wd.heap.size from blk_lt K2.out)
    have HPZ := Aside0.mk hpz
    have HQZ := Aside0.mk hqz
    have HPQ := Aside0.mk hpq
    have HL := Aside0.mk (blk_below K0.out hB)
    have HO1 := Aside0.mk (blk_below K1.out hB)
    have HO2 := Aside0.mk (blk_below K2.out hB)
    have HB := Aside0.mk (below_step KB.out hB)
    have HP := Aside0.mk hp
    have HQ := Aside0.mk hq
    have HXX := Aside0.mk (show Wr (Kd.int .i64) 3 V w.heap.size (.slice B1 x.ls.length d1) x.ls by
      obtain ⟨_, _, e, g, _⟩ := hWX
      injection e with e; injection e with e; injection e with _ e; injection e with e _
      rw [e]; exact g.lower HWD.out)
    have HYY := Aside0.mk (show Wr (Kd.int .i64) 3 V w.heap.size (.slice D1 x.ls.length e1) x.ls by
      obtain ⟨_, _, e, g, _⟩ := hWY
      injection e with e; injection e with e; injection e with _ e; injection e with e _
      rw [e]; exact g.lower HWD.out)
    clear hp hq hpq hpz hqz hWX hWY hB K0 K1 K2 KB HF
    have lb := HL.out
    have l0 : V.cell? ⟨w.heap.size, 0, none⟩ = some (.int .i64 x.q) := (blk_cell lb 0).trans rfl
    have l1 : V.cell? ⟨w.heap.size, 1, none⟩ = some (.slice A1 x.ls.length c1) := (blk_cell lb 1).trans rfl
    have l2 : V.cell? ⟨w.heap.size, 2, none⟩ = some (.int .i64 x.k) := (blk_cell lb 2).trans rfl
    have l3 : V.cell? ⟨w.heap.size, 3, none⟩ = some (.slice A3 x.cs.length c3) := (blk_cell lb 3).trans rfl
    clear lb
    have r2 := cut_to (P := Tryd.prog) 36 71 .i64 Tryd.underlying36 infoC_.choose_spec.1 A3 x.cs.length c3 (n : Int) (by omega) (by have := HNL.out; omega) HLC.out
    rw [Int.toNat_natCast] at r2
    have HT := Aside0.mk (ref05own_ A3 c3 n (x.cs.take n) V (by have h := Kd.C_take (HC3.out V HB.out) HNL.out; rwa [List.length_take, Nat.min_eq_left HNL.out] at h) (by rw [List.length_take]; have := HNL.out; omega) (Nat.le_trans HNL.out HLC.out) (Nat.le_trans HNL.out HZL.out))
    have HK0 := Aside0.mk (Keep_.refl V.heap.size V)
    have n_ := HNL.out
    have n0_ : decide ((n : Int) < 0) = false := decide_eq_false (by omega)
    go_upto_region 5 with (go_at_call 55; refine HT.out.mono ?_; rintro e v1 ⟨C3, f3, rfl, hw, hb⟩; have fp := blk_below HP.out hb; have p0 : v1.cell? ⟨p, 0, none⟩ = some (.int .i64 x.q) := (blk_cell fp 0).trans rfl; have pe0 : v1.frozen? ⟨p, 0, none⟩ = false := blk_frozen fp 0; have p1 : v1.cell? ⟨p, 1, none⟩ = some (.slice B1 x.ls.length d1) := (blk_cell fp 1).trans rfl; have pe1 : v1.frozen? ⟨p, 1, none⟩ = false := blk_frozen fp 1; have p2 : v1.cell? ⟨p, 2, none⟩ = some (.int .i64 x.k) := (blk_cell fp 2).trans rfl; have pe2 : v1.frozen? ⟨p, 2, none⟩ = false := blk_frozen fp 2; have p3 : v1.cell? ⟨p, 3, none⟩ = some (.slice B3 0 d3) := (blk_cell fp 3).trans rfl; have pe3 : v1.frozen? ⟨p, 3, none⟩ = false := blk_frozen fp 3; have FP := Aside0.mk fp; have HB1 := Aside0.mk hb; have HW1 := Aside0.mk hw; clear hw hb fp)
    have HVS := Aside0.mk (show w.heap.size ≤ V.heap.size from HB.out.size)
    have P1 := blk_put FP.out 3 (.slice C3 n f3) rfl
    have K1 := (Keep_.below HB1.out).trans (Keep_.set (N := V.heap.size) (j := 3) (u := .slice C3 n f3) FP.out)
    have P2 := blk_off_ (g := p) (i := 3) (u := .slice C3 n f3) (blk_below HQ.out HB1.out) (Ne.symm HPQ.out)
    have PL := blk_off_ (g := p) (i := 3) (u := .slice C3 n f3) (blk_below HL.out HB1.out) (by have := HNZ.out; have := HPZ.out; omega)
    have PO1 := blk_off_ (g := p) (i := 3) (u := .slice C3 n f3) (blk_below HO1.out HB1.out) (by have := HNZ.out; have := HPZ.out; omega)
    have PO2 := blk_off_ (g := p) (i := 3) (u := .slice C3 n f3) (blk_below HO2.out HB1.out) (by have := HNZ.out; have := HPZ.out; omega)
    have PB := below_set (g := p) (j := 3) (v := .slice C3 n f3) (below_step HB.out HB1.out) (by have := HNZ.out; have := HPZ.out; omega)
    have PC := WrC_put_ (HW1.out.lower HVS.out) FP.out (by decide) 3 (.slice C3 n f3)
    generalize v1.setCell ⟨p, 3, none⟩ (.slice C3 n f3) = V1 at P1 K1 P2 PL PO1 PO2 PB PC ⊢
    clear l0 l1 l2 l3 p0 pe0 p1 pe1 p2 pe2 p3 pe3 r2 HT HP HQ HL HO1 HO2 HK0 FP HB1 HW1 n0_
    have HP := Aside0.mk P1
    have HQ := Aside0.mk P2
    have HL := Aside0.mk PL
    have HO1 := Aside0.mk PO1
    have HO2 := Aside0.mk PO2
    have HBB := Aside0.mk PB
    have HCC := Aside0.mk PC
    have HX1 := Aside0.mk (HXX.out.keep K1 (by decide) (fun _ _ _ _ h => h))
    have HY1 := Aside0.mk (HYY.out.keep K1 (by decide) (fun _ _ _ _ h => h))
    have m0 : V1.cell? ⟨w.heap.size, 0, none⟩ = some (.int .i64 x.q) := (blk_cell PL 0).trans rfl
    have m1 : V1.cell? ⟨w.heap.size, 1, none⟩ = some (.slice A1 x.ls.length c1) := (blk_cell PL 1).trans rfl
    have m2 : V1.cell? ⟨w.heap.size, 2, none⟩ = some (.int .i64 x.k) := (blk_cell PL 2).trans rfl
    have m3 : V1.cell? ⟨w.heap.size, 3, none⟩ = some (.slice A3 x.cs.length c3) := (blk_cell PL 3).trans rfl
    clear P1 K1 P2 PL PO1 PO2 PB PC HXX HYY HB
    obtain ⟨X, cx, r1, hxl, hxc⟩ := dropC_ A3 x.cs c3 n n_ HLC.out
    rw [List.length_drop] at hxl hxc
    obtain ⟨m, hm⟩ : ∃ m, x.cs.length - n = m := ⟨_, rfl⟩
    rw [hm] at r1 hxl hxc
    have HT := Aside0.mk (ref05own_ X cx m (x.cs.drop n) V1 (hxc V1 (HC3.out V1 HBB.out)) (by rw [List.length_drop]; exact hm) hxl (by have := HZL.out; omega))
    have HM_ := Aside0.mk hm
    clear hxl hxc hm
    go_upto_region 6 with (go_at_call 55; refine HT.out.mono ?_; rintro e v2 ⟨E3, g3, rfl, hw, hb⟩; have fp := blk_below HQ.out hb; have q0 : v2.cell? ⟨q, 0, none⟩ = some (.int .i64 x.q) := (blk_cell fp 0).trans rfl; have qe0 : v2.frozen? ⟨q, 0, none⟩ = false := blk_frozen fp 0; have q1 : v2.cell? ⟨q, 1, none⟩ = some (.slice D1 x.ls.length e1) := (blk_cell fp 1).trans rfl; have qe1 : v2.frozen? ⟨q, 1, none⟩ = false := blk_frozen fp 1; have q2 : v2.cell? ⟨q, 2, none⟩ = some (.int .i64 x.k) := (blk_cell fp 2).trans rfl; have qe2 : v2.frozen? ⟨q, 2, none⟩ = false := blk_frozen fp 2; have q3 : v2.cell? ⟨q, 3, none⟩ = some (.slice D3 0 e3) := (blk_cell fp 3).trans rfl; have qe3 : v2.frozen? ⟨q, 3, none⟩ = false := blk_frozen fp 3; have FQ := Aside0.mk fp; have HB1 := Aside0.mk hb; have HW1 := Aside0.mk hw; clear hw hb fp)
    have HVS := Aside0.mk (show w.heap.size ≤ V1.heap.size from HBB.out.size)
    have P1 := blk_put FQ.out 3 (.slice E3 m g3) rfl
    have K1 := (Keep_.below HB1.out).trans (Keep_.set (N := V1.heap.size) (j := 3) (u := .slice E3 m g3) FQ.out)
    have P2 := blk_off_ (g := q) (i := 3) (u := .slice E3 m g3) (blk_below HP.out HB1.out) HPQ.out
    have PL := blk_off_ (g := q) (i := 3) (u := .slice E3 m g3) (blk_below HL.out HB1.out) (by have := HNZ.out; have := HQZ.out; omega)
    have PO1 := blk_off_ (g := q) (i := 3) (u := .slice E3 m g3) (blk_below HO1.out HB1.out) (by have := HNZ.out; have := HQZ.out; omega)
    have PO2 := blk_off_ (g := q) (i := 3) (u := .slice E3 m g3) (blk_below HO2.out HB1.out) (by have := HNZ.out; have := HQZ.out; omega)
    have PB := below_set (g := q) (j := 3) (v := .slice E3 m g3) (below_step HBB.out HB1.out) (by have := HNZ.out; have := HQZ.out; omega)
    have PC := WrC_put_ (HW1.out.lower HVS.out) FQ.out (by decide) 3 (.slice E3 m g3)
    generalize v2.setCell ⟨q, 3, none⟩ (.slice E3 m g3) = V2 at P1 K1 P2 PL PO1 PO2 PB PC ⊢
    clear m0 m1 m2 m3 q0 qe0 q1 qe1 q2 qe2 q3 qe3 r1 HT HP HQ HL HO1 HO2 FQ HB1 HW1 HBB
    have HP := Aside0.mk P2
    have HQ := Aside0.mk P1
    have HO1 := Aside0.mk PO1
    have HO2 := Aside0.mk PO2
    have HB := Aside0.mk PB
    have HE := Aside0.mk PC
    have HC := Aside0.mk (HCC.out.keep K1 (by decide) (fun _ _ _ _ h => h))
    have HX := Aside0.mk (HX1.out.keep K1 (by decide) (fun _ _ _ _ h => h))
    have HY := Aside0.mk (HY1.out.keep K1 (by decide) (fun _ _ _ _ h => h))
    have n0 : V2.cell? ⟨w.heap.size, 0, none⟩ = some (.int .i64 x.q) := (blk_cell PL 0).trans rfl
    have n1 : V2.cell? ⟨w.heap.size, 1, none⟩ = some (.slice A1 x.ls.length c1) := (blk_cell PL 1).trans rfl
    have n2 : V2.cell? ⟨w.heap.size, 2, none⟩ = some (.int .i64 x.k) := (blk_cell PL 2).trans rfl
    have n3 : V2.cell? ⟨w.heap.size, 3, none⟩ = some (.slice A3 x.cs.length c3) := (blk_cell PL 3).trans rfl
    have q2 : V2.cell? ⟨q, 2, none⟩ = some (.int .i64 x.k) := (blk_cell P1 2).trans rfl
    have qf2 := blk_frozen P1 2
    clear P1 K1 P2 PL PO1 PO2 PB PC HCC HX1 HY1
    by_cases hne : n = x.cs.length
    case' pos =>
      have e0 : ((n : Int) == (x.cs.length : Int)) = true := beq_iff_eq.2 (by omega)
      have e0' : (n == x.cs.length) = true := beq_iff_eq.2 hne
      have HKB := Aside0.mk (show (0 : Int) = if n = x.cs.length then 0 else x.k from (if_pos hne).symm)
      clear hne
      go_upto_region 8 with (fail)
      have P1 := blk_put HQ.out 2 (.int .i64 0) rfl
      have K1 := Keep_.set (N := V2.heap.size) (j := 2) (u := .int .i64 0) HQ.out
      have P2 := blk_off_ (g := q) (i := 2) (u := .int .i64 0) HP.out HPQ.out
      have PO1 := blk_off_ (g := q) (i := 2) (u := .int .i64 0) HO1.out (by have := HNZ.out; have := HQZ.out; omega)
      have PO2 := blk_off_ (g := q) (i := 2) (u := .int .i64 0) HO2.out (by have := HNZ.out; have := HQZ.out; omega)
      have PB := below_set (g := q) (j := 2) (v := .int .i64 0) HB.out (by have := HNZ.out; have := HQZ.out; omega)
      have PE := HE.out.keep K1 (by decide) (fun _ _ _ _ h => h)
      have PC := HC.out.keep K1 (by decide) (fun _ _ _ _ h => h)
      have PX := HX.out.keep K1 (by decide) (fun _ _ _ _ h => h)
      have PY := HY.out.keep K1 (by decide) (fun _ _ _ _ h => h)
      generalize V2.setCell ⟨q, 2, none⟩ (.int .i64 0) = V3 at P1 K1 P2 PO1 PO2 PB PE PC PX PY ⊢
      obtain ⟨kb, hkb⟩ : ∃ kb : Int, kb = 0 := ⟨0, rfl⟩
      have HKB := Aside0.mk (show kb = if n = x.cs.length then 0 else x.k from hkb.trans HKB.out)
      rw [← hkb] at P1
      clear hkb
    case' neg =>
      have e0 : ((n : Int) == (x.cs.length : Int)) = false := beq_eq_false_iff_ne.2 (by omega)
      have e0' : (n == x.cs.length) = false := beq_eq_false_iff_ne.2 hne
      have HKB := Aside0.mk (show x.k = if n = x.cs.length then 0 else x.k from (if_neg hne).symm)
      clear hne
      go_upto_region 8 with (fail)
      have P1 := HQ.out
      have P2 := HP.out
      have PO1 := HO1.out
      have PO2 := HO2.out
      have PB := HB.out
      have PE := HE.out
      have PC := HC.out
      have PX := HX.out
      have PY := HY.out
      generalize V2 = V3 at P1 P2 PO1 PO2 PB PE PC PX PY ⊢
      obtain ⟨kb, hkb⟩ : ∃ kb : Int, kb = x.k := ⟨x.k, rfl⟩
      have P1' : V3.heap[q]? = some (.cells #[.int .i64 x.q, .slice D1 x.ls.length e1, .int .i64 kb, .slice E3 m g3] 38 (0, 0)) := by rw [hkb]; exact P1
      have HKB := Aside0.mk (show kb = if n = x.cs.length then 0 else x.k from hkb.trans HKB.out)
      clear P1 hkb
      have P1 := P1'
      clear P1'
    all_goals
      try clear K1
      clear HP HQ HO1 HO2 HB HE HC HX HY n0 n1 n2 n3 e0 e0' q2 qf2
      have J1 := Aside0.mk (show V3.drew.heap[p]? = some (.cells #[.int .i64 x.q, .slice B1 x.ls.length d1, .int .i64 x.k, .slice C3 n f3] 38 (0, 0)) from P2)
      have J2 := Aside0.mk (show V3.drew.heap[q]? = some (.cells #[.int .i64 x.q, .slice D1 x.ls.length e1, .int .i64 kb, .slice E3 m g3] 38 (0, 0)) from P1)
      have J3 := Aside0.mk (show V3.drew.heap[w.heap.size + 1]? = some (.cells #[.int .i64 0, .slice none 0 0, .int .i64 0, .slice none 0 0] 38 (0, 0)) from PO1)
      have J4 := Aside0.mk (show V3.drew.heap[w.heap.size + 2]? = some (.cells #[.int .i64 0, .slice none 0 0, .int .i64 0, .slice none 0 0] 38 (0, 0)) from PO2)
      have KD := Keep_.below (below_drew1 (Below.refl V3.heap.size V3))
      have JE := Aside0.mk (PE.keep KD (by decide) (fun _ _ _ _ h => h))
      have JC := Aside0.mk (PC.keep KD (by decide) (fun _ _ _ _ h => h))
      have JX := Aside0.mk (PX.keep KD (by decide) (fun _ _ _ _ h => h))
      have JY := Aside0.mk (PY.keep KD (by decide) (fun _ _ _ _ h => h))
      have JB := Aside0.mk (below_drew1 PB)
      clear P1 P2 PO1 PO2 PB PE PC PX PY KD
      refine start_ (n := 5) (S := fun W' => (W'.cell? ⟨p, 0, none⟩ = some (.int .i64 x.q) ∧ W'.cell? ⟨p, 1, none⟩ = some (.slice B1 x.ls.length d1) ∧ W'.cell? ⟨p, 2, none⟩ = some (.int .i64 x.k) ∧ W'.cell? ⟨p, 3, none⟩ = some (.slice C3 n f3)) ∧ (W'.cell? ⟨q, 0, none⟩ = some (.int .i64 x.q) ∧ W'.cell? ⟨q, 1, none⟩ = some (.slice D1 x.ls.length e1) ∧ W'.cell? ⟨q, 2, none⟩ = some (.int .i64 kb) ∧ W'.cell? ⟨q, 3, none⟩ = some (.slice E3 m g3))) (ds := [3, 4]) #[false, false, false, false, false] (by kernel_rfl) rfl rfl ⟨⟨(blk_cell J1.out 0).trans rfl, (blk_cell J1.out 1).trans rfl, (blk_cell J1.out 2).trans rfl, (blk_cell J1.out 3).trans rfl⟩, ⟨(blk_cell J2.out 0).trans rfl, (blk_cell J2.out 1).trans rfl, (blk_cell J2.out 2).trans rfl, (blk_cell J2.out 3).trans rfl⟩⟩ (fun hHeld => ?_)
      generalize V3.drew = V4 at J1 J2 J3 J4 JE JC JX JY JB hHeld ⊢
      refine take_ (i := 0) (N := some 47) (v := ?_) (a' := ?_) #[true, false, false, false, false] rfl rfl (by kernel_rfl) (fun _ _ _ h => h) (Or.inl ⟨by rfl, ?_⟩) hHeld ?_ ?_
      rotate_left
      · rintro w' ⟨⟨s0_0, s0_1, s0_2, s0_3⟩, ⟨s1_0, s1_1, s1_2, s1_3⟩⟩
        go_simp
        with_reducible rfl
      rotate_left
      · simp only [Act.put, List.setIfInBounds_toArray, List.set_cons_zero, List.set_cons_succ]
        rfl
      refine take_ (i := 1) (N := some 48) (v := ?_) (a' := ?_) #[true, true, false, false, false] rfl rfl (by kernel_rfl) (fun _ _ _ h => h) (Or.inl ⟨by rfl, ?_⟩) hHeld ?_ ?_
      rotate_left
      · rintro w' ⟨⟨s0_0, s0_1, s0_2, s0_3⟩, ⟨s1_0, s1_1, s1_2, s1_3⟩⟩
        go_simp
        with_reducible rfl
      rotate_left
      · simp only [Act.put, List.setIfInBounds_toArray, List.set_cons_zero, List.set_cons_succ]
        rfl
      have j3 := J3.out
      have j4 := J4.out
      have j30 : V4.cell? ⟨w.heap.size + 1, 0, none⟩ = some (.int .i64 0) := (blk_cell j3 0).trans rfl
      have j3e0 : V4.frozen? ⟨w.heap.size + 1, 0, none⟩ = false := blk_frozen j3 0
      have j31 : V4.cell? ⟨w.heap.size + 1, 1, none⟩ = some (.slice none 0 0) := (blk_cell j3 1).trans rfl
      have j3e1 : V4.frozen? ⟨w.heap.size + 1, 1, none⟩ = false := blk_frozen j3 1
      have j32 : V4.cell? ⟨w.heap.size + 1, 2, none⟩ = some (.int .i64 0) := (blk_cell j3 2).trans rfl
      have j3e2 : V4.frozen? ⟨w.heap.size + 1, 2, none⟩ = false := blk_frozen j3 2
      have j33 : V4.cell? ⟨w.heap.size + 1, 3, none⟩ = some (.slice none 0 0) := (blk_cell j3 3).trans rfl
      have j3e3 : V4.frozen? ⟨w.heap.size + 1, 3, none⟩ = false := blk_frozen j3 3
      have j40 : V4.cell? ⟨w.heap.size + 2, 0, none⟩ = some (.int .i64 0) := (blk_cell j4 0).trans rfl
      have j4e0 : V4.frozen? ⟨w.heap.size + 2, 0, none⟩ = false := blk_frozen j4 0
      have j41 : V4.cell? ⟨w.heap.size + 2, 1, none⟩ = some (.slice none 0 0) := (blk_cell j4 1).trans rfl
      have j4e1 : V4.frozen? ⟨w.heap.size + 2, 1, none⟩ = false := blk_frozen j4 1
      have j42 : V4.cell? ⟨w.heap.size + 2, 2, none⟩ = some (.int .i64 0) := (blk_cell j4 2).trans rfl
      have j4e2 : V4.frozen? ⟨w.heap.size + 2, 2, none⟩ = false := blk_frozen j4 2
      have j43 : V4.cell? ⟨w.heap.size + 2, 3, none⟩ = some (.slice none 0 0) := (blk_cell j4 3).trans rfl
      have j4e3 : V4.frozen? ⟨w.heap.size + 2, 3, none⟩ = false := blk_frozen j4 3
      refine one_ (i := 2) (N := none) #[true, true, true, false, false] rfl rfl (by kernel_rfl) (by decide) (fun K hK => ?_)
      refine skip_ (w1 := put4_ V4 (w.heap.size + 1) (.int .i64 x.q) (.slice B1 x.ls.length d1) (.int .i64 x.k) (.slice C3 n f3)) (by rfl) rfl (by go_simp; rfl) ?_
      have L1 := put4_off (g := w.heap.size + 1) (a := .int .i64 x.q) (b := .slice B1 x.ls.length d1) (c := .int .i64 x.k) (d := .slice C3 n f3) J1.out (by have := HNZ.out; have := HPZ.out; omega)
      have L2 := put4_off (g := w.heap.size + 1) (a := .int .i64 x.q) (b := .slice B1 x.ls.length d1) (c := .int .i64 x.k) (d := .slice C3 n f3) J2.out (by have := HNZ.out; have := HQZ.out; omega)
      have L3 := put4_blk (a := .int .i64 x.q) (b := .slice B1 x.ls.length d1) (c := .int .i64 x.k) (d := .slice C3 n f3) j3
      have L4 := put4_off (g := w.heap.size + 1) (a := .int .i64 x.q) (b := .slice B1 x.ls.length d1) (c := .int .i64 x.k) (d := .slice C3 n f3) j4 (by omega)
      have LE := (JE.out.keep (Keep_.put4 (a := .int .i64 x.q) (b := .slice B1 x.ls.length d1) (c := .int .i64 x.k) (d := .slice C3 n f3) j3) (by decide) (fun _ _ _ _ h => h))
      have LC := (JC.out.keep (Keep_.put4 (a := .int .i64 x.q) (b := .slice B1 x.ls.length d1) (c := .int .i64 x.k) (d := .slice C3 n f3) j3) (by decide) (fun _ _ _ _ h => h))
      have LX := (JX.out.keep (Keep_.put4 (a := .int .i64 x.q) (b := .slice B1 x.ls.length d1) (c := .int .i64 x.k) (d := .slice C3 n f3) j3) (by decide) (fun _ _ _ _ h => h))
      have LY := (JY.out.keep (Keep_.put4 (a := .int .i64 x.q) (b := .slice B1 x.ls.length d1) (c := .int .i64 x.k) (d := .slice C3 n f3) j3) (by decide) (fun _ _ _ _ h => h))
      have LB := put4_below (a := .int .i64 x.q) (b := .slice B1 x.ls.length d1) (c := .int .i64 x.k) (d := .slice C3 n f3) JB.out (show w.heap.size ≤ w.heap.size + 1 by omega)
      refine hK.out _ _ ⟨⟨(blk_cell L1 0).trans rfl, (blk_cell L1 1).trans rfl, (blk_cell L1 2).trans rfl, (blk_cell L1 3).trans rfl⟩, ⟨(blk_cell L2 0).trans rfl, (blk_cell L2 1).trans rfl, (blk_cell L2 2).trans rfl, (blk_cell L2 3).trans rfl⟩⟩ (fun hHeld => ?_)
      clear hK K hHeld j30 j3e0 j31 j3e1 j32 j3e2 j33 j3e3 j40 j4e0 j41 j4e1 j42 j4e2 j43 j4e3 j3 j4
      generalize put4_ V4 (w.heap.size + 1) (.int .i64 x.q) (.slice B1 x.ls.length d1) (.int .i64 x.k) (.slice C3 n f3) = V5 at L1 L2 L3 L4 LE LC LX LY LB ⊢
      have j40 : V5.cell? ⟨w.heap.size + 2, 0, none⟩ = some (.int .i64 0) := (blk_cell L4 0).trans rfl
      have j4e0 : V5.frozen? ⟨w.heap.size + 2, 0, none⟩ = false := blk_frozen L4 0
      have j41 : V5.cell? ⟨w.heap.size + 2, 1, none⟩ = some (.slice none 0 0) := (blk_cell L4 1).trans rfl
      have j4e1 : V5.frozen? ⟨w.heap.size + 2, 1, none⟩ = false := blk_frozen L4 1
      have j42 : V5.cell? ⟨w.heap.size + 2, 2, none⟩ = some (.int .i64 0) := (blk_cell L4 2).trans rfl
      have j4e2 : V5.frozen? ⟨w.heap.size + 2, 2, none⟩ = false := blk_frozen L4 2
      have j43 : V5.cell? ⟨w.heap.size + 2, 3, none⟩ = some (.slice none 0 0) := (blk_cell L4 3).trans rfl
      have j4e3 : V5.frozen? ⟨w.heap.size + 2, 3, none⟩ = false := blk_frozen L4 3
      refine last_ (i := 3) (N := none) #[true, true, true, true, false] rfl rfl (by kernel_rfl) (by decide) (fun K hK => ?_)
      refine skip_ (w1 := put4_ V5 (w.heap.size + 2) (.int .i64 x.q) (.slice D1 x.ls.length e1) (.int .i64 kb) (.slice E3 m g3)) (by rfl) rfl (by go_simp; rfl) ?_
      refine hK.out _ _ ?_
      clear hK K
      refine pure_ (i := 4) (N := some 6) (v := ?_) (a' := ?_) #[true, true, true, true, true] rfl rfl (by kernel_rfl) (fun _ _ _ h => h) (Or.inl ⟨by rfl, ?_⟩) ?_ ?_
      rotate_left
      · intro w'
        go_simp
        with_reducible rfl
      rotate_left
      · simp only [Act.put, List.setIfInBounds_toArray, List.set_cons_zero, List.set_cons_succ]
        rfl
      refine done_ (by kernel_rfl) ?_
      go_wp2
      refine bodyPost_ret (results_list (rs := [.cell 4 38, .cell 5 38, .tmp 6]) rfl (by simp) (.cell (w.heap.size + 1) 38 #[.int .i64 x.q, .slice B1 x.ls.length d1, .int .i64 x.k, .slice C3 n f3] (0, 0) _ rfl (put4_off L3 (by omega)) Tryd.underlying38 rfl (by kernel_rfl) (.cell (w.heap.size + 2) 38 #[.int .i64 x.q, .slice D1 x.ls.length e1, .int .i64 kb, .slice E3 m g3] (0, 0) _ rfl (put4_blk L4) Tryd.underlying38 rfl (by kernel_rfl) (.tmp .nil)))) rfl ?_
      rw [HR.out]
      have E1 := LX.keep (Keep_.put4 (a := .int .i64 x.q) (b := .slice D1 x.ls.length e1) (c := .int .i64 kb) (d := .slice E3 m g3) L4) (by decide) (fun _ _ _ _ h => h)
      have E2 := LC.keep (Keep_.put4 (a := .int .i64 x.q) (b := .slice D1 x.ls.length e1) (c := .int .i64 kb) (d := .slice E3 m g3) L4) (by decide) (fun _ _ _ _ h => h)
      have E3_ := LY.keep (Keep_.put4 (a := .int .i64 x.q) (b := .slice D1 x.ls.length e1) (c := .int .i64 kb) (d := .slice E3 m g3) L4) (by decide) (fun _ _ _ _ h => h)
      have E4 := LE.keep (Keep_.put4 (a := .int .i64 x.q) (b := .slice D1 x.ls.length e1) (c := .int .i64 kb) (d := .slice E3 m g3) L4) (by decide) (fun _ _ _ _ h => h)
      have EB := put4_below (a := .int .i64 x.q) (b := .slice D1 x.ls.length e1) (c := .int .i64 kb) (d := .slice E3 m g3) LB (show w.heap.size ≤ w.heap.size + 2 by omega)
      generalize put4_ V5 (w.heap.size + 2) (.int .i64 x.q) (.slice D1 x.ls.length e1) (.int .i64 kb) (.slice E3 m g3) = V6 at E1 E2 E3_ E4 EB ⊢
      have hm := HM_.out
      have hkb := HKB.out
      clear L1 L2 L3 L4 LE LC LX LY LB HKB J1 J2 J3 J4 JE JC JX JY JB
      subst hm
      exact splitR_end_ n_ hkb E1 E2 E3_ E4 EB
end Go.Proofs.YtgdpknmffohhaaaDoor.Pl

/- What is written over of one line leaves another, apart from it, as it was. -/
namespace Go.Proofs.YtgdpknmffohhaaaDoor.Pl
open Go.RowKit Go.Lib Go.Proofs.YtgdpknmffohhaaaDoorW.PrintWords Go.Proofs.YtgdpknmffohhaaaDoorW.PrintLast Go.Proofs.YtgdpknmffohhaaaDoorW.PrintMore
set_option linter.unusedVariables false
section
variable {α β : Type} {d : Kd α} {d' : Kd β} {e e' : Nat} {W W' W0 : World} {base base' : Nat} {A B : Option Addr} {n m c c' : Nat} {xs : List α} {ys : List β}
theorem Wr.at_ (h : Wr d e W base (.slice A n c) xs) : n = xs.length ∧ d.C W A xs.length xs ∧ xs.length ≤ c ∧ (0 < xs.length → ∃ g off cells, A = some ⟨g, off, none⟩ ∧ base ≤ g ∧ W.heap[g]? = some (.cells cells e (0, 0))) := by
  obtain ⟨A', c', e1, h1, h2, h3⟩ := h
  injection e1 with e1 e2 e3
  subst e1
  subst e3
  exact ⟨e2, h1, h2, h3⟩
theorem pos_of_ {i : Nat} {k : Nat} (h : i < n * k) : 0 < n := by
  cases n with
  | zero => rw [Nat.zero_mul] at h; omega
  | succ n => omega
/-- rows of blocks of two types -/
theorem apart_types_ (hx : Wr d e W base (.slice A n c) xs) (hy : Wr d' e' W base' (.slice B m c') ys) (he : e ≠ e') (k k' : Nat) : Apart_ A (xs.length * k) B (ys.length * k') := fun a b i j ea eb hi hj h => by
  obtain ⟨g, off, cells, e1, _, h1⟩ := hx.at_.2.2.2 (pos_of_ hi)
  obtain ⟨g', off', cells', e2, _, h2⟩ := hy.at_.2.2.2 (pos_of_ hj)
  rw [ea] at e1
  rw [eb] at e2
  injection e1 with e1
  injection e2 with e2
  have h3 := congrArg Addr.block h
  rw [add_block, add_block, e1, e2] at h3
  replace h3 : g = g' := h3
  subst h3
  rw [h1] at h2
  injection h2 with h2
  injection h2 with _ h2
  exact he h2
/-- an elder row and one made behind it -/
theorem apart_elder_ (hx : Wr d e W0 base (.slice A n c) xs) (hy : Wr d' e' W base' (.slice B m c') ys) (hb : W0.heap.size ≤ base') (k k' : Nat) : Apart_ A (xs.length * k) B (ys.length * k') := fun a b i j ea eb hi hj h => by
  obtain ⟨g, off, cells, e1, _, h1⟩ := hx.at_.2.2.2 (pos_of_ hi)
  obtain ⟨g', off', cells', e2, h2, _⟩ := hy.at_.2.2.2 (pos_of_ hj)
  rw [ea] at e1
  rw [eb] at e2
  injection e1 with e1
  injection e2 with e2
  have h3 := congrArg Addr.block h
  rw [add_block, add_block, e1, e2] at h3
  replace h3 : g = g' := h3
  have := blk_lt h1
  omega
theorem Wr.spared {A1 A3 : Option Addr} {n1 n3 : Nat} (h : Wr d e W base (.slice A n c) xs) (hs : Sp_ A1 n1 A3 n3 W W') (h1 : Apart_ A1 n1 A (xs.length * d.sz)) (h3 : Apart_ A3 n3 A (xs.length * d.sz)) (hK : ∀ (W W1 : World) x cs, d.K W x cs → d.K W1 x cs) : Wr d e W' base (.slice A n c) xs := by
  obtain ⟨rfl, hC, hc, hp⟩ := h.at_
  refine ⟨A, c, rfl, ⟨hC.1, hC.2.1, fun hl => ?_⟩, hc, fun hl => ?_⟩
  · obtain ⟨ad, e2, h4⟩ := hC.2.2 hl
    refine ⟨ad, e2, fun j p hj => ?_⟩
    obtain ⟨cs, h7, h8, h9⟩ := h4 j p hj
    refine ⟨cs, h7, hK _ _ _ _ h8, fun i u hu => ?_⟩
    have h10 := h9 i u hu
    have hj' : j < xs.length := (List.getElem?_eq_some_iff.1 hj).1
    have hi' : i < d.sz := by rw [← h7]; exact (List.getElem?_eq_some_iff.1 hu).1
    have hlt : j * d.sz + i < xs.length * d.sz := by
      have : (j + 1) * d.sz ≤ xs.length * d.sz := Nat.mul_le_mul_right _ hj'
      rw [Nat.add_mul, Nat.one_mul] at this
      omega
    refine (hs.1 _ ?_ ?_ (World.block_lt_of_cell? _ _ h10)).trans h10
    · exact fun a k ea hk he => h1 a ad k _ ea e2 hk hlt he.symm
    · exact fun a k ea hk he => h3 a ad k _ ea e2 hk hlt he.symm
  · obtain ⟨g, off, cells, e2, h4, h5⟩ := hp hl
    obtain ⟨cells', h6⟩ := hs.2 _ _ _ h5
    exact ⟨g, off, cells', e2, h4, h6⟩
end
section
variable {W W' W0 : World} {base base' : Nat} {A1 A3 B1 B3 : Option Addr} {a1 a3 b1 b3 : Nat} {x y : Ln}
theorem WrL.at_ (h : WrL W base (.agg #[.int .i64 x.q, .slice A1 x.ls.length a1, .int .i64 x.k, .slice A3 x.cs.length a3]) x) : Wr (Kd.int .i64) 3 W base (.slice A1 x.ls.length a1) x.ls ∧ Wr k71 71 W base (.slice A3 x.cs.length a3) x.cs := by
  obtain ⟨_, _, e, g1, g3⟩ := h
  injection e with e
  injection e with e
  injection e with _ e
  injection e with e1 e
  injection e with _ e
  injection e with e3 _
  rw [e1, e3]
  exact ⟨g1, g3⟩
/-- of two lines whose rows are apart: one is written over, the other stays -/
theorem WrL.spared (hx : WrL W base (.agg #[.int .i64 x.q, .slice A1 x.ls.length a1, .int .i64 x.k, .slice A3 x.cs.length a3]) x) (hy : WrL W base' (.agg #[.int .i64 y.q, .slice B1 y.ls.length b1, .int .i64 y.k, .slice B3 y.cs.length b3]) y)
    (h1 : Apart_ A1 x.ls.length B1 y.ls.length) (h3 : Apart_ A3 (x.cs.length * 3) B3 (y.cs.length * 3)) (hs : Spared_ (.agg #[.int .i64 x.q, .slice A1 x.ls.length a1, .int .i64 x.k, .slice A3 x.cs.length a3]) x W W') :
    WrL W' base' (.agg #[.int .i64 y.q, .slice B1 y.ls.length b1, .int .i64 y.k, .slice B3 y.cs.length b3]) y := by
  have hs' := hs _ _ _ _ rfl
  obtain ⟨hx1, hx3⟩ := hx.at_
  obtain ⟨hy1, hy3⟩ := hy.at_
  have k1 : Apart_ A1 x.ls.length B1 (y.ls.length * (Kd.int .i64).sz) := by rw [show (Kd.int .i64).sz = 1 from rfl, Nat.mul_one]; exact h1
  have t1 := apart_types_ hx3 hy1 (by decide) 3 (Kd.int .i64).sz
  have t3 := apart_types_ hx1 hy3 (by decide) 1 k71.sz
  rw [Nat.mul_one] at t3
  exact ⟨_, _, rfl, hy1.spared hs' k1 t1 (fun _ _ _ _ h => h), hy3.spared hs' t3 h3 (fun _ _ _ _ h => h)⟩
theorem WrL.spared_elder (hx : WrL W0 base (.agg #[.int .i64 x.q, .slice A1 x.ls.length a1, .int .i64 x.k, .slice A3 x.cs.length a3]) x) (hb : W0.heap.size ≤ base') (hy : WrL W base' (.agg #[.int .i64 y.q, .slice B1 y.ls.length b1, .int .i64 y.k, .slice B3 y.cs.length b3]) y)
    (hs : Spared_ (.agg #[.int .i64 x.q, .slice A1 x.ls.length a1, .int .i64 x.k, .slice A3 x.cs.length a3]) x W W') :
    WrL W' base' (.agg #[.int .i64 y.q, .slice B1 y.ls.length b1, .int .i64 y.k, .slice B3 y.cs.length b3]) y := by
  have hs' := hs _ _ _ _ rfl
  obtain ⟨hx1, hx3⟩ := hx.at_
  obtain ⟨hy1, hy3⟩ := hy.at_
  have k1 := apart_elder_ hx1 hy1 hb 1 (Kd.int .i64).sz
  have k2 := apart_elder_ hx3 hy1 hb 3 (Kd.int .i64).sz
  have k3 := apart_elder_ hx1 hy3 hb 1 k71.sz
  have k4 := apart_elder_ hx3 hy3 hb 3 k71.sz
  rw [Nat.mul_one] at k1 k3
  exact ⟨_, _, rfl, hy1.spared hs' k1 k2 (fun _ _ _ _ h => h), hy3.spared hs' k3 k4 (fun _ _ _ _ h => h)⟩
end
end Go.Proofs.YtgdpknmffohhaaaDoor.Pl

/- ref06.Outdent, walked. -/
namespace Go.Proofs.YtgdpknmffohhaaaDoor.Pl
open Go.RowKit Go.Lib Go.Proofs.YtgdpknmffohhaaaDoorW.PrintWords Go.Proofs.YtgdpknmffohhaaaDoorW.PrintLast Go.Proofs.YtgdpknmffohhaaaDoorW.PrintMore
set_option linter.unusedVariables false
end Go.Proofs.YtgdpknmffohhaaaDoor.Pl

/- ref06.Free, walked. -/
namespace Go.Proofs.YtgdpknmffohhaaaDoor.Pl
open Go.RowKit Go.Lib Go.Proofs.YtgdpknmffohhaaaDoorW.PrintWords Go.Proofs.YtgdpknmffohhaaaDoorW.PrintLast Go.Proofs.YtgdpknmffohhaaaDoorW.PrintMore
set_option linter.unusedVariables false
end Go.Proofs.YtgdpknmffohhaaaDoor.Pl

namespace Go.Proofs.YtgdpknmffohhaaaDoor.Pl
open Go.RowKit Go.Proofs.YtgdpknmffohhaaaDoorW.PrintWords Go.Proofs.YtgdpknmffohhaaaDoorW.PrintLast Go.Proofs.YtgdpknmffohhaaaDoorW.PrintMore
attribute [local go_sem] max2_int min2_int max_two min_two max_three min_three max_four min_four   -- for this text's walks alone
set_option linter.unusedVariables false
set_option linter.unusedSimpArgs false

/-! ### quillworkref06_Indent: function 44 -/
end Go.Proofs.YtgdpknmffohhaaaDoor.Pl

/- ref06.Indent: the program's answer. -/
namespace Go.Proofs.YtgdpknmffohhaaaDoor.Pl
open Go.RowKit Go.Lib Go.Proofs.YtgdpknmffohhaaaDoorW.PrintWords Go.Proofs.YtgdpknmffohhaaaDoorW.PrintLast Go.Proofs.YtgdpknmffohhaaaDoorW.PrintMore
set_option linter.unusedVariables false
def tup_ (r : Ln × Int) : Int × List Int × Int × List S71 × Int := (r.1.q, r.1.ls, r.1.k, r.1.cs, r.2)
theorem own_is_ (x : Ln) (hz : Sz x) : quillworkref06_Own.f x.q x.ls x.k x.cs = some (x.q, x.ls, x.k, x.cs) := by
  unfold quillworkref06_Own.f quillworkref05_Own.f
  simp only [Option.bind_some, List.nil_append, List.length_nil]
  rw [if_pos (by have := hz.1; omega), if_pos (by have := hz.2.1; omega)]
  rfl
end Go.Proofs.YtgdpknmffohhaaaDoor.Pl

/- lines.Join: one line out of two. -/
namespace Go.Proofs.YtgdpknmffohhaaaDoor.Pl
open Go.RowKit Go.Lib Go.Proofs.YtgdpknmffohhaaaDoorW.PrintWords Go.Proofs.YtgdpknmffohhaaaDoorW.PrintLast Go.Proofs.YtgdpknmffohhaaaDoorW.PrintMore
set_option linter.unusedVariables false
def joinR (x y : Ln) : Ln × Int := if mayL x = true ∧ mayL y = true then ({ x with cs := x.cs ++ y.cs }, 0) else (zeroLn, 1)
theorem grownC_box_ {W w1 : World} {base : Nat} {v1 : Value} {cs : List S71} {o : Nat} {cells : Array Value} (hr : Kd.R k71 71 W base (fun _ => True) v1 cs) (hg : W.grownBy w1 v1.ownBlock) (h : W.heap[o]? = some (.cells cells 38 (0, 0))) : w1.heap[o]? = some (.cells cells 38 (0, 0)) :=
  blk_grown h hg (fun e => by
    obtain ⟨cs, hc⟩ := Kd.R_typed hr o e.symm
    rw [h] at hc
    injection hc with hc
    injection hc with _ hc
    exact absurd hc (by decide))
set_option maxRecDepth 100000 in
set_option maxHeartbeats 8000000 in
theorem join_calls_ (x y : Ln) (v u : Value) (w : World) (hx : RdL w v x) (hy : RdL w u y) (hz : Sz x) (hzy : Sz y) (hG : Gl_ w) :
    Calls Tryd.prog 30 #[v, u] w fun e w' => Back_ w (joinR x y) e w' := by
  have hu38 := Tryd.underlying38
  obtain ⟨_, _, rfl, ⟨A1, c1, rfl, h1, hc1⟩, ⟨A3, c3, rfl, h3, hc3⟩⟩ := hx
  obtain ⟨_, _, rfl, ⟨D1, e1, rfl, g1, gc1⟩, ⟨D3, e3, rfl, g3, gc3⟩⟩ := hy
  have hX : RdL w (.agg #[.int .i64 x.q, .slice A1 x.ls.length c1, .int .i64 x.k, .slice A3 x.cs.length c3]) x := ⟨_, _, rfl, ⟨A1, c1, rfl, h1, hc1⟩, ⟨A3, c3, rfl, h3, hc3⟩⟩
  have hY : RdL w (.agg #[.int .i64 y.q, .slice D1 y.ls.length e1, .int .i64 y.k, .slice D3 y.cs.length e3]) y := ⟨_, _, rfl, ⟨D1, e1, rfl, g1, gc1⟩, ⟨D3, e3, rfl, g3, gc3⟩⟩
  have HM1 := Aside0.mk (fun W (hW : Below w.heap.size w W) => may_calls_ x _ W (hX.below hW) hz (hG.below hW))
  have HM2 := Aside0.mk (fun W (hW : Below w.heap.size w W) => may_calls_ y _ W (hY.below hW) hzy (hG.below hW))
  have HO := Aside0.mk (fun W (hW : Below w.heap.size w W) => own_calls_ x _ W (hX.below hW) hz)
  have HYC := Aside0.mk (show Kd.C k71 w D3 y.cs.length y.cs from g3)
  have HLN := Aside0.mk (show x.cs.length ≤ 100000 ∧ y.cs.length ≤ 100000 from ⟨hz.2.1, hzy.2.1⟩)
  have HGC := Aside0.mk gc3
  obtain ⟨F0, F1, F2, FB⟩ := three_boxes_ w (.cells #[.int .i64 x.q, .slice A1 x.ls.length c1, .int .i64 x.k, .slice A3 x.cs.length c3] 38) (.cells #[.int .i64 y.q, .slice D1 y.ls.length e1, .int .i64 y.k, .slice D3 y.cs.length e3] 38) (.cells #[.int .i64 0, .slice none 0 0, .int .i64 0, .slice none 0 0] 38)
  clear h1 h3 hc1 hc3 g1 g3 gc1 hz hzy hG hX hY
  go_enter Tryd.func30, Tryd.ntmps30
  go_upto_region 1 with (fail)
  generalize ((w.alloc (.cells #[.int .i64 x.q, .slice A1 x.ls.length c1, .int .i64 x.k, .slice A3 x.cs.length c3] 38)).alloc (.cells #[.int .i64 y.q, .slice D1 y.ls.length e1, .int .i64 y.k, .slice D3 y.cs.length e3] 38)).alloc (.cells #[.int .i64 0, .slice none 0 0, .int .i64 0, .slice none 0 0] 38) = W0 at F0 F1 F2 FB ⊢
  have p0 : W0.cell? ⟨w.heap.size, 0, none⟩ = some (.int .i64 x.q) := (blk_cell F0 0).trans rfl
  have p1 : W0.cell? ⟨w.heap.size, 1, none⟩ = some (.slice A1 x.ls.length c1) := (blk_cell F0 1).trans rfl
  have p2 : W0.cell? ⟨w.heap.size, 2, none⟩ = some (.int .i64 x.k) := (blk_cell F0 2).trans rfl
  have p3 : W0.cell? ⟨w.heap.size, 3, none⟩ = some (.slice A3 x.cs.length c3) := (blk_cell F0 3).trans rfl
  have q0 : W0.cell? ⟨w.heap.size + 1, 0, none⟩ = some (.int .i64 y.q) := (blk_cell F1 0).trans rfl
  have q1 : W0.cell? ⟨w.heap.size + 1, 1, none⟩ = some (.slice D1 y.ls.length e1) := (blk_cell F1 1).trans rfl
  have q2 : W0.cell? ⟨w.heap.size + 1, 2, none⟩ = some (.int .i64 y.k) := (blk_cell F1 2).trans rfl
  have q3 : W0.cell? ⟨w.heap.size + 1, 3, none⟩ = some (.slice D3 y.cs.length e3) := (blk_cell F1 3).trans rfl
  have o0 : W0.cell? ⟨w.heap.size + 1 + 1, 0, none⟩ = some (.int .i64 0) := (blk_cell F2 0).trans rfl
  have oe0 : W0.frozen? ⟨w.heap.size + 1 + 1, 0, none⟩ = false := blk_frozen F2 0
  have o1 : W0.cell? ⟨w.heap.size + 1 + 1, 1, none⟩ = some (.slice none 0 0) := (blk_cell F2 1).trans rfl
  have oe1 : W0.frozen? ⟨w.heap.size + 1 + 1, 1, none⟩ = false := blk_frozen F2 1
  have o2 : W0.cell? ⟨w.heap.size + 1 + 1, 2, none⟩ = some (.int .i64 0) := (blk_cell F2 2).trans rfl
  have oe2 : W0.frozen? ⟨w.heap.size + 1 + 1, 2, none⟩ = false := blk_frozen F2 2
  have o3 : W0.cell? ⟨w.heap.size + 1 + 1, 3, none⟩ = some (.slice none 0 0) := (blk_cell F2 3).trans rfl
  have oe3 : W0.frozen? ⟨w.heap.size + 1 + 1, 3, none⟩ = false := blk_frozen F2 3
  have HF0 := Aside0.mk F0
  have HF1 := Aside0.mk F1
  have HF2 := Aside0.mk F2
  have HFB := Aside0.mk FB
  clear F0 F1 F2 FB
  cases hm : mayL x with
  | false =>
    rw [hm] at HM1
    have HR := Aside0.mk (show joinR x y = (zeroLn, 1) by unfold joinR; rw [if_neg (by rw [hm]; simp)])
    go_wp2_with (go_at_call 37; refine (HM1.out _ HFB.out).mono ?_; rintro e w1 ⟨rfl, hb⟩; have HB1 := Aside0.mk hb; have fb := blk_below HF0.out hb; have fy := blk_below HF1.out hb; have fz := blk_below HF2.out hb; have r0 : w1.cell? ⟨w.heap.size, 0, none⟩ = some (.int .i64 x.q) := (blk_cell fb 0).trans rfl; have r1 : w1.cell? ⟨w.heap.size, 1, none⟩ = some (.slice A1 x.ls.length c1) := (blk_cell fb 1).trans rfl; have r2 : w1.cell? ⟨w.heap.size, 2, none⟩ = some (.int .i64 x.k) := (blk_cell fb 2).trans rfl; have r3 : w1.cell? ⟨w.heap.size, 3, none⟩ = some (.slice A3 x.cs.length c3) := (blk_cell fb 3).trans rfl; have s0 : w1.cell? ⟨w.heap.size + 1, 0, none⟩ = some (.int .i64 y.q) := (blk_cell fy 0).trans rfl; have s1 : w1.cell? ⟨w.heap.size + 1, 1, none⟩ = some (.slice D1 y.ls.length e1) := (blk_cell fy 1).trans rfl; have s2 : w1.cell? ⟨w.heap.size + 1, 2, none⟩ = some (.int .i64 y.k) := (blk_cell fy 2).trans rfl; have s3 : w1.cell? ⟨w.heap.size + 1, 3, none⟩ = some (.slice D3 y.cs.length e3) := (blk_cell fy 3).trans rfl; have t0 : w1.cell? ⟨w.heap.size + 1 + 1, 0, none⟩ = some (.int .i64 0) := (blk_cell fz 0).trans rfl; have te0 : w1.frozen? ⟨w.heap.size + 1 + 1, 0, none⟩ = false := blk_frozen fz 0; have t1 : w1.cell? ⟨w.heap.size + 1 + 1, 1, none⟩ = some (.slice none 0 0) := (blk_cell fz 1).trans rfl; have te1 : w1.frozen? ⟨w.heap.size + 1 + 1, 1, none⟩ = false := blk_frozen fz 1; have t2 : w1.cell? ⟨w.heap.size + 1 + 1, 2, none⟩ = some (.int .i64 0) := (blk_cell fz 2).trans rfl; have te2 : w1.frozen? ⟨w.heap.size + 1 + 1, 2, none⟩ = false := blk_frozen fz 2; have t3 : w1.cell? ⟨w.heap.size + 1 + 1, 3, none⟩ = some (.slice none 0 0) := (blk_cell fz 3).trans rfl; have te3 : w1.frozen? ⟨w.heap.size + 1 + 1, 3, none⟩ = false := blk_frozen fz 3; have HG0 := Aside0.mk fb; have HG1 := Aside0.mk fy; have HG2 := Aside0.mk fz; clear hb fb fy fz)
    refine bodyPost_ret (results_ct rfl _ _ (w.heap.size + 1 + 1) 38 #[.int .i64 0, .slice none 0 0, .int .i64 0, .slice none 0 0] (0, 0) _ rfl (put4_blk HG2.out) Tryd.underlying38 rfl (by kernel_rfl)) rfl ?_
    exact ⟨_, by rw [HR.out]; rfl, by rw [HR.out]; exact WrL_zero _ _, put4_below (below_step HFB.out HB1.out) (by omega)⟩
  | true =>
    rw [hm] at HM1
    cases hn : mayL y with
    | false =>
      rw [hn] at HM2
      have HR := Aside0.mk (show joinR x y = (zeroLn, 1) by unfold joinR; rw [if_neg (by rw [hn]; simp)])
      go_wp2_with (first | (have h_ := HB1; clear h_; (go_at_call 37; refine (HM2.out _ (below_step HFB.out HB1.out)).mono ?_; rintro e w2 ⟨rfl, hb⟩; have HB2 := Aside0.mk hb; have fb := blk_below HG0.out hb; have fy := blk_below HG1.out hb; have fz := blk_below HG2.out hb; have k0 : w2.cell? ⟨w.heap.size, 0, none⟩ = some (.int .i64 x.q) := (blk_cell fb 0).trans rfl; have k1 : w2.cell? ⟨w.heap.size, 1, none⟩ = some (.slice A1 x.ls.length c1) := (blk_cell fb 1).trans rfl; have k2 : w2.cell? ⟨w.heap.size, 2, none⟩ = some (.int .i64 x.k) := (blk_cell fb 2).trans rfl; have k3 : w2.cell? ⟨w.heap.size, 3, none⟩ = some (.slice A3 x.cs.length c3) := (blk_cell fb 3).trans rfl; have l0 : w2.cell? ⟨w.heap.size + 1, 0, none⟩ = some (.int .i64 y.q) := (blk_cell fy 0).trans rfl; have l1 : w2.cell? ⟨w.heap.size + 1, 1, none⟩ = some (.slice D1 y.ls.length e1) := (blk_cell fy 1).trans rfl; have l2 : w2.cell? ⟨w.heap.size + 1, 2, none⟩ = some (.int .i64 y.k) := (blk_cell fy 2).trans rfl; have l3 : w2.cell? ⟨w.heap.size + 1, 3, none⟩ = some (.slice D3 y.cs.length e3) := (blk_cell fy 3).trans rfl; have m0 : w2.cell? ⟨w.heap.size + 1 + 1, 0, none⟩ = some (.int .i64 0) := (blk_cell fz 0).trans rfl; have me0 : w2.frozen? ⟨w.heap.size + 1 + 1, 0, none⟩ = false := blk_frozen fz 0; have m1 : w2.cell? ⟨w.heap.size + 1 + 1, 1, none⟩ = some (.slice none 0 0) := (blk_cell fz 1).trans rfl; have me1 : w2.frozen? ⟨w.heap.size + 1 + 1, 1, none⟩ = false := blk_frozen fz 1; have m2 : w2.cell? ⟨w.heap.size + 1 + 1, 2, none⟩ = some (.int .i64 0) := (blk_cell fz 2).trans rfl; have me2 : w2.frozen? ⟨w.heap.size + 1 + 1, 2, none⟩ = false := blk_frozen fz 2; have m3 : w2.cell? ⟨w.heap.size + 1 + 1, 3, none⟩ = some (.slice none 0 0) := (blk_cell fz 3).trans rfl; have me3 : w2.frozen? ⟨w.heap.size + 1 + 1, 3, none⟩ = false := blk_frozen fz 3; have HK0 := Aside0.mk fb; have HK1 := Aside0.mk fy; have HK2 := Aside0.mk fz; clear hb fb fy fz)) | (go_at_call 37; refine (HM1.out _ HFB.out).mono ?_; rintro e w1 ⟨rfl, hb⟩; have HB1 := Aside0.mk hb; have fb := blk_below HF0.out hb; have fy := blk_below HF1.out hb; have fz := blk_below HF2.out hb; have r0 : w1.cell? ⟨w.heap.size, 0, none⟩ = some (.int .i64 x.q) := (blk_cell fb 0).trans rfl; have r1 : w1.cell? ⟨w.heap.size, 1, none⟩ = some (.slice A1 x.ls.length c1) := (blk_cell fb 1).trans rfl; have r2 : w1.cell? ⟨w.heap.size, 2, none⟩ = some (.int .i64 x.k) := (blk_cell fb 2).trans rfl; have r3 : w1.cell? ⟨w.heap.size, 3, none⟩ = some (.slice A3 x.cs.length c3) := (blk_cell fb 3).trans rfl; have s0 : w1.cell? ⟨w.heap.size + 1, 0, none⟩ = some (.int .i64 y.q) := (blk_cell fy 0).trans rfl; have s1 : w1.cell? ⟨w.heap.size + 1, 1, none⟩ = some (.slice D1 y.ls.length e1) := (blk_cell fy 1).trans rfl; have s2 : w1.cell? ⟨w.heap.size + 1, 2, none⟩ = some (.int .i64 y.k) := (blk_cell fy 2).trans rfl; have s3 : w1.cell? ⟨w.heap.size + 1, 3, none⟩ = some (.slice D3 y.cs.length e3) := (blk_cell fy 3).trans rfl; have t0 : w1.cell? ⟨w.heap.size + 1 + 1, 0, none⟩ = some (.int .i64 0) := (blk_cell fz 0).trans rfl; have te0 : w1.frozen? ⟨w.heap.size + 1 + 1, 0, none⟩ = false := blk_frozen fz 0; have t1 : w1.cell? ⟨w.heap.size + 1 + 1, 1, none⟩ = some (.slice none 0 0) := (blk_cell fz 1).trans rfl; have te1 : w1.frozen? ⟨w.heap.size + 1 + 1, 1, none⟩ = false := blk_frozen fz 1; have t2 : w1.cell? ⟨w.heap.size + 1 + 1, 2, none⟩ = some (.int .i64 0) := (blk_cell fz 2).trans rfl; have te2 : w1.frozen? ⟨w.heap.size + 1 + 1, 2, none⟩ = false := blk_frozen fz 2; have t3 : w1.cell? ⟨w.heap.size + 1 + 1, 3, none⟩ = some (.slice none 0 0) := (blk_cell fz 3).trans rfl; have te3 : w1.frozen? ⟨w.heap.size + 1 + 1, 3, none⟩ = false := blk_frozen fz 3; have HG0 := Aside0.mk fb; have HG1 := Aside0.mk fy; have HG2 := Aside0.mk fz; clear hb fb fy fz))
      refine bodyPost_ret (results_ct rfl _ _ (w.heap.size + 1 + 1) 38 #[.int .i64 0, .slice none 0 0, .int .i64 0, .slice none 0 0] (0, 0) _ rfl (put4_blk HK2.out) Tryd.underlying38 rfl (by kernel_rfl)) rfl ?_
      exact ⟨_, by rw [HR.out]; rfl, by rw [HR.out]; exact WrL_zero _ _, put4_below (below_step (below_step HFB.out HB1.out) HB2.out) (by omega)⟩
    | true =>
      rw [hn] at HM2
      have HR := Aside0.mk (show joinR x y = ({ x with cs := x.cs ++ y.cs }, 0) by unfold joinR; rw [if_pos ⟨hm, hn⟩])
      go_upto_region 4 with (first | (have h_ := HB2; clear h_; (go_at_call 39; refine (HO.out _ (below_step (below_step HFB.out HB1.out) HB2.out)).mono ?_; rintro e w3 ⟨u1, u3, rfl, ho1, ho3, hb⟩; obtain ⟨B1, d1, rfl⟩ := Kd.R_slice ho1; obtain ⟨B3, d3, rfl⟩ := Kd.R_slice ho3; have HO1 := Aside0.mk ho1; have HO3 := Aside0.mk ho3; have HB3 := Aside0.mk hb; have fb := blk_below HK0.out hb; have n0 : w3.cell? ⟨w.heap.size, 0, none⟩ = some (.int .i64 x.q) := (blk_cell fb 0).trans rfl; have ne0 : w3.frozen? ⟨w.heap.size, 0, none⟩ = false := blk_frozen fb 0; have n1 : w3.cell? ⟨w.heap.size, 1, none⟩ = some (.slice A1 x.ls.length c1) := (blk_cell fb 1).trans rfl; have ne1 : w3.frozen? ⟨w.heap.size, 1, none⟩ = false := blk_frozen fb 1; have n2 : w3.cell? ⟨w.heap.size, 2, none⟩ = some (.int .i64 x.k) := (blk_cell fb 2).trans rfl; have ne2 : w3.frozen? ⟨w.heap.size, 2, none⟩ = false := blk_frozen fb 2; have n3 : w3.cell? ⟨w.heap.size, 3, none⟩ = some (.slice A3 x.cs.length c3) := (blk_cell fb 3).trans rfl; have ne3 : w3.frozen? ⟨w.heap.size, 3, none⟩ = false := blk_frozen fb 3; have HL0 := Aside0.mk fb; clear ho1 ho3 hb fb)) | (have h_ := HB1; clear h_; (go_at_call 37; refine (HM2.out _ (below_step HFB.out HB1.out)).mono ?_; rintro e w2 ⟨rfl, hb⟩; have HB2 := Aside0.mk hb; have fb := blk_below HG0.out hb; have fy := blk_below HG1.out hb; have fz := blk_below HG2.out hb; have k0 : w2.cell? ⟨w.heap.size, 0, none⟩ = some (.int .i64 x.q) := (blk_cell fb 0).trans rfl; have k1 : w2.cell? ⟨w.heap.size, 1, none⟩ = some (.slice A1 x.ls.length c1) := (blk_cell fb 1).trans rfl; have k2 : w2.cell? ⟨w.heap.size, 2, none⟩ = some (.int .i64 x.k) := (blk_cell fb 2).trans rfl; have k3 : w2.cell? ⟨w.heap.size, 3, none⟩ = some (.slice A3 x.cs.length c3) := (blk_cell fb 3).trans rfl; have l0 : w2.cell? ⟨w.heap.size + 1, 0, none⟩ = some (.int .i64 y.q) := (blk_cell fy 0).trans rfl; have l1 : w2.cell? ⟨w.heap.size + 1, 1, none⟩ = some (.slice D1 y.ls.length e1) := (blk_cell fy 1).trans rfl; have l2 : w2.cell? ⟨w.heap.size + 1, 2, none⟩ = some (.int .i64 y.k) := (blk_cell fy 2).trans rfl; have l3 : w2.cell? ⟨w.heap.size + 1, 3, none⟩ = some (.slice D3 y.cs.length e3) := (blk_cell fy 3).trans rfl; have m0 : w2.cell? ⟨w.heap.size + 1 + 1, 0, none⟩ = some (.int .i64 0) := (blk_cell fz 0).trans rfl; have me0 : w2.frozen? ⟨w.heap.size + 1 + 1, 0, none⟩ = false := blk_frozen fz 0; have m1 : w2.cell? ⟨w.heap.size + 1 + 1, 1, none⟩ = some (.slice none 0 0) := (blk_cell fz 1).trans rfl; have me1 : w2.frozen? ⟨w.heap.size + 1 + 1, 1, none⟩ = false := blk_frozen fz 1; have m2 : w2.cell? ⟨w.heap.size + 1 + 1, 2, none⟩ = some (.int .i64 0) := (blk_cell fz 2).trans rfl; have me2 : w2.frozen? ⟨w.heap.size + 1 + 1, 2, none⟩ = false := blk_frozen fz 2; have m3 : w2.cell? ⟨w.heap.size + 1 + 1, 3, none⟩ = some (.slice none 0 0) := (blk_cell fz 3).trans rfl; have me3 : w2.frozen? ⟨w.heap.size + 1 + 1, 3, none⟩ = false := blk_frozen fz 3; have HK0 := Aside0.mk fb; have HK1 := Aside0.mk fy; have HK2 := Aside0.mk fz; clear hb fb fy fz)) | (go_at_call 37; refine (HM1.out _ HFB.out).mono ?_; rintro e w1 ⟨rfl, hb⟩; have HB1 := Aside0.mk hb; have fb := blk_below HF0.out hb; have fy := blk_below HF1.out hb; have fz := blk_below HF2.out hb; have r0 : w1.cell? ⟨w.heap.size, 0, none⟩ = some (.int .i64 x.q) := (blk_cell fb 0).trans rfl; have r1 : w1.cell? ⟨w.heap.size, 1, none⟩ = some (.slice A1 x.ls.length c1) := (blk_cell fb 1).trans rfl; have r2 : w1.cell? ⟨w.heap.size, 2, none⟩ = some (.int .i64 x.k) := (blk_cell fb 2).trans rfl; have r3 : w1.cell? ⟨w.heap.size, 3, none⟩ = some (.slice A3 x.cs.length c3) := (blk_cell fb 3).trans rfl; have s0 : w1.cell? ⟨w.heap.size + 1, 0, none⟩ = some (.int .i64 y.q) := (blk_cell fy 0).trans rfl; have s1 : w1.cell? ⟨w.heap.size + 1, 1, none⟩ = some (.slice D1 y.ls.length e1) := (blk_cell fy 1).trans rfl; have s2 : w1.cell? ⟨w.heap.size + 1, 2, none⟩ = some (.int .i64 y.k) := (blk_cell fy 2).trans rfl; have s3 : w1.cell? ⟨w.heap.size + 1, 3, none⟩ = some (.slice D3 y.cs.length e3) := (blk_cell fy 3).trans rfl; have t0 : w1.cell? ⟨w.heap.size + 1 + 1, 0, none⟩ = some (.int .i64 0) := (blk_cell fz 0).trans rfl; have te0 : w1.frozen? ⟨w.heap.size + 1 + 1, 0, none⟩ = false := blk_frozen fz 0; have t1 : w1.cell? ⟨w.heap.size + 1 + 1, 1, none⟩ = some (.slice none 0 0) := (blk_cell fz 1).trans rfl; have te1 : w1.frozen? ⟨w.heap.size + 1 + 1, 1, none⟩ = false := blk_frozen fz 1; have t2 : w1.cell? ⟨w.heap.size + 1 + 1, 2, none⟩ = some (.int .i64 0) := (blk_cell fz 2).trans rfl; have te2 : w1.frozen? ⟨w.heap.size + 1 + 1, 2, none⟩ = false := blk_frozen fz 2; have t3 : w1.cell? ⟨w.heap.size + 1 + 1, 3, none⟩ = some (.slice none 0 0) := (blk_cell fz 3).trans rfl; have te3 : w1.frozen? ⟨w.heap.size + 1 + 1, 3, none⟩ = false := blk_frozen fz 3; have HG0 := Aside0.mk fb; have HG1 := Aside0.mk fy; have HG2 := Aside0.mk fz; clear hb fb fy fz))
      have P0 := put4_blk (a := .int .i64 x.q) (b := .slice B1 x.ls.length d1) (c := .int .i64 x.k) (d := .slice B3 x.cs.length d3) HL0.out
      have P1_ := put4_off (g := w.heap.size) (a := .int .i64 x.q) (b := .slice B1 x.ls.length d1) (c := .int .i64 x.k) (d := .slice B3 x.cs.length d3) (blk_below HK1.out HB3.out) (by omega)
      have P2_ := put4_off (g := w.heap.size) (a := .int .i64 x.q) (b := .slice B1 x.ls.length d1) (c := .int .i64 x.k) (d := .slice B3 x.cs.length d3) (blk_below HK2.out HB3.out) (by omega)
      have PO1 := put4_R (a := .int .i64 x.q) (b := .slice B1 x.ls.length d1) (c := .int .i64 x.k) (d := .slice B3 x.cs.length d3) (Kd.R_lower HO1.out (below_size (below_step (below_step HFB.out HB1.out) HB2.out))) HL0.out (by decide)
      have PO3 := put4_R (a := .int .i64 x.q) (b := .slice B1 x.ls.length d1) (c := .int .i64 x.k) (d := .slice B3 x.cs.length d3) (Kd.R_lower HO3.out (below_size (below_step (below_step HFB.out HB1.out) HB2.out))) HL0.out (by decide)
      have PBB := put4_below (a := .int .i64 x.q) (b := .slice B1 x.ls.length d1) (c := .int .i64 x.k) (d := .slice B3 x.cs.length d3) (below_step (below_step (below_step HFB.out HB1.out) HB2.out) HB3.out) (Nat.le_refl _)
      unfold put4_ at P0 P1_ P2_ PO1 PO3 PBB
      generalize (((w3.setCell ⟨w.heap.size, 0, none⟩ (.int .i64 x.q)).setCell ⟨w.heap.size, 1, none⟩ (.slice B1 x.ls.length d1)).setCell ⟨w.heap.size, 2, none⟩ (.int .i64 x.k)).setCell ⟨w.heap.size, 3, none⟩ (.slice B3 x.cs.length d3) = W3 at P0 P1_ P2_ PO1 PO3 PBB ⊢
      have a0 : W3.cell? ⟨w.heap.size, 0, none⟩ = some (.int .i64 x.q) := (blk_cell P0 0).trans rfl
      have ae0 : W3.frozen? ⟨w.heap.size, 0, none⟩ = false := blk_frozen P0 0
      have a1 : W3.cell? ⟨w.heap.size, 1, none⟩ = some (.slice B1 x.ls.length d1) := (blk_cell P0 1).trans rfl
      have ae1 : W3.frozen? ⟨w.heap.size, 1, none⟩ = false := blk_frozen P0 1
      have a2 : W3.cell? ⟨w.heap.size, 2, none⟩ = some (.int .i64 x.k) := (blk_cell P0 2).trans rfl
      have ae2 : W3.frozen? ⟨w.heap.size, 2, none⟩ = false := blk_frozen P0 2
      have a3 : W3.cell? ⟨w.heap.size, 3, none⟩ = some (.slice B3 x.cs.length d3) := (blk_cell P0 3).trans rfl
      have ae3 : W3.frozen? ⟨w.heap.size, 3, none⟩ = false := blk_frozen P0 3
      have b0 : W3.cell? ⟨w.heap.size + 1, 0, none⟩ = some (.int .i64 y.q) := (blk_cell P1_ 0).trans rfl
      have b1 : W3.cell? ⟨w.heap.size + 1, 1, none⟩ = some (.slice D1 y.ls.length e1) := (blk_cell P1_ 1).trans rfl
      have b2 : W3.cell? ⟨w.heap.size + 1, 2, none⟩ = some (.int .i64 y.k) := (blk_cell P1_ 2).trans rfl
      have b3 : W3.cell? ⟨w.heap.size + 1, 3, none⟩ = some (.slice D3 y.cs.length e3) := (blk_cell P1_ 3).trans rfl
      have Q0 := Aside0.mk P0
      have Q1 := Aside0.mk P1_
      have Q2 := Aside0.mk P2_
      have P1 := Aside0.mk PO1
      have P3 := Aside0.mk PO3
      have PB := Aside0.mk PBB
      have PR := Aside0.mk (Kd.C_below HYC.out PBB)
      clear P0 P1_ P2_ PO1 PO3 PBB p0 p1 p2 p3 q0 q1 q2 q3 o0 oe0 o1 oe1 o2 oe2 o3 oe3 r0 r1 r2 r3 s0 s1 s2 s3 t0 te0 t1 te1 t2 te2 t3 te3 k0 k1 k2 k3 l0 l1 l2 l3 m0 me0 m1 me1 m2 me2 m3 me3 n0 ne0 n1 ne1 n2 ne2 n3 ne3 HB1 HB2 HB3 HO1 HO3 HL0 HK0 HK1 HK2 HG0 HG1 HG2 HF0 HF1 HF2 HFB HM1 HM2 HO
      go_upto_region 5 with ((with_reducible refine gate_builtin (b := .append) (xs := #[.tmp 18, .tmp 20]) rfl ?_); at_builtin; refine Kd.R_append_rows k71 (w0 := w) w.heap.size rfl (.tmp 18) (.tmp 20) 36 71 (.agg #[(.int .i32 0), (.int .i64 0), (.string ⟨#[]⟩)]) 32 rfl Tryd.underlying36 info71 rfl (by decide) (by omega) (.slice B3 x.cs.length d3) x.cs y.cs _ _ _ (fun _ => True) (fun _ => False) rfl rfl ?aO ?aR (fun _ _ h => h) (fun _ h => h.elim) ?aF ?aB ?aS ?aL ?_; (case aR => exact PR.out); (case aB => exact PB.out); (case aF => exact (fun _ _ => trivial)); (case aO => exact P3.out); (case aS => exact PB.out.size); (case aL => have := HLN.out; omega); intro v5 w5 ho hb hg hat; obtain ⟨C3, g3, rfl⟩ := Kd.R_slice ho; rw [List.length_append] at ho; have HC3 := Aside0.mk ho; have HB5 := Aside0.mk hb; have HC1 := Aside0.mk (Kd.R_over' P1.out (Kd.R_typed P3.out) (by decide) hg); have fb := grownC_box_ P3.out hg Q0.out; have f2 := grownC_box_ P3.out hg Q2.out; have z0 : w5.cell? ⟨w.heap.size, 0, none⟩ = some (.int .i64 x.q) := (blk_cell fb 0).trans rfl; have ze0 : w5.frozen? ⟨w.heap.size, 0, none⟩ = false := blk_frozen fb 0; have z1 : w5.cell? ⟨w.heap.size, 1, none⟩ = some (.slice B1 x.ls.length d1) := (blk_cell fb 1).trans rfl; have ze1 : w5.frozen? ⟨w.heap.size, 1, none⟩ = false := blk_frozen fb 1; have z2 : w5.cell? ⟨w.heap.size, 2, none⟩ = some (.int .i64 x.k) := (blk_cell fb 2).trans rfl; have ze2 : w5.frozen? ⟨w.heap.size, 2, none⟩ = false := blk_frozen fb 2; have z3 : w5.cell? ⟨w.heap.size, 3, none⟩ = some (.slice B3 x.cs.length d3) := (blk_cell fb 3).trans rfl; have ze3 : w5.frozen? ⟨w.heap.size, 3, none⟩ = false := blk_frozen fb 3; have R0 := Aside0.mk fb; have R2 := Aside0.mk f2; clear ho hb hg hat fb f2)
      have q0 := blk_put R0.out 3 (.slice C3 (x.cs.length + y.cs.length) g3) rfl
      have q2 := blk_off_ (g := w.heap.size) (i := 3) (u := .slice C3 (x.cs.length + y.cs.length) g3) R2.out (by omega)
      have qO1 := R_put_ HC1.out R0.out (by decide) 3 (.slice C3 (x.cs.length + y.cs.length) g3)
      have qO3 := R_put_ HC3.out R0.out (by decide) 3 (.slice C3 (x.cs.length + y.cs.length) g3)
      have qB := below_set (g := w.heap.size) (j := 3) (v := .slice C3 (x.cs.length + y.cs.length) g3) HB5.out (Nat.le_refl _)
      generalize w5.setCell ⟨w.heap.size, 3, none⟩ (.slice C3 (x.cs.length + y.cs.length) g3) = W5 at q0 q2 qO1 qO3 qB ⊢
      have gg0 : W5.cell? ⟨w.heap.size, 0, none⟩ = some (.int .i64 x.q) := (blk_cell q0 0).trans rfl
      have gg1 : W5.cell? ⟨w.heap.size, 1, none⟩ = some (.slice B1 x.ls.length d1) := (blk_cell q0 1).trans rfl
      have gg2 : W5.cell? ⟨w.heap.size, 2, none⟩ = some (.int .i64 x.k) := (blk_cell q0 2).trans rfl
      have gg3 : W5.cell? ⟨w.heap.size, 3, none⟩ = some (.slice C3 (x.cs.length + y.cs.length) g3) := (blk_cell q0 3).trans rfl
      have h0 : W5.cell? ⟨w.heap.size + 1 + 1, 0, none⟩ = some (.int .i64 0) := (blk_cell q2 0).trans rfl
      have he0 : W5.frozen? ⟨w.heap.size + 1 + 1, 0, none⟩ = false := blk_frozen q2 0
      have h1 : W5.cell? ⟨w.heap.size + 1 + 1, 1, none⟩ = some (.slice none 0 0) := (blk_cell q2 1).trans rfl
      have he1 : W5.frozen? ⟨w.heap.size + 1 + 1, 1, none⟩ = false := blk_frozen q2 1
      have h2 : W5.cell? ⟨w.heap.size + 1 + 1, 2, none⟩ = some (.int .i64 0) := (blk_cell q2 2).trans rfl
      have he2 : W5.frozen? ⟨w.heap.size + 1 + 1, 2, none⟩ = false := blk_frozen q2 2
      have h3 : W5.cell? ⟨w.heap.size + 1 + 1, 3, none⟩ = some (.slice none 0 0) := (blk_cell q2 3).trans rfl
      have he3 : W5.frozen? ⟨w.heap.size + 1 + 1, 3, none⟩ = false := blk_frozen q2 3
      have HQ := Aside0.mk (show WrL W5 w.heap.size (.agg #[.int .i64 x.q, .slice B1 x.ls.length d1, .int .i64 x.k, .slice C3 (x.cs.length + y.cs.length) g3]) { x with cs := x.cs ++ y.cs } from ⟨_, _, rfl, Wr.of_R qO1, Wr.of_R qO3⟩)
      have S2 := Aside0.mk q2
      have SB := Aside0.mk qB
      clear q0 q2 qO1 qO3 qB HC1 HC3 HB5 R0 R2 P1 P3 PB PR Q0 Q1 Q2 HYC HLN HGC a0 ae0 a1 ae1 a2 ae2 a3 ae3 b0 b1 b2 b3 z0 ze0 z1 ze1 z2 ze2 z3 ze3
      go_wp2_with (fail)
      refine bodyPost_ret (results_ct rfl _ _ (w.heap.size + 1 + 1) 38 #[.int .i64 x.q, .slice B1 x.ls.length d1, .int .i64 x.k, .slice C3 (x.cs.length + y.cs.length) g3] (0, 0) _ rfl (put4_blk S2.out) Tryd.underlying38 rfl (by kernel_rfl)) rfl ?_
      exact ⟨_, by rw [HR.out]; rfl, by rw [HR.out]; exact put4_WrL HQ.out S2.out, put4_below SB.out (by omega)⟩
end Go.Proofs.YtgdpknmffohhaaaDoor.Pl
