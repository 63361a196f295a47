/- lines.Frame, lines.Join. -/
import Derived.Test.YtgdpknmffohhaaaDoorLineOps
namespace Go.Proofs.YtgdpknmffohhaaaDoor.Pl
open Go.RowKit Go.Lib Go.Proofs.YtgdpknmffohhaaaDoorW.PrintWords Go.Proofs.YtgdpknmffohhaaaDoorW.PrintLast Go.Proofs.YtgdpknmffohhaaaDoorW.PrintMore
set_option linter.unusedVariables false
set_option maxRecDepth 100000 in
set_option maxHeartbeats 4000000 in
theorem frame_calls_ (x : Ln) (v : Value) (w : World) (hx : RdL w v x) (hz : Sz x) :
    Calls Tryd.prog 40 #[v] w fun e w' => ∃ B1 d1, e = .returned (.agg #[.int .i64 x.q, .slice B1 x.ls.length d1, .int .i64 x.k, .slice none 0 0]) ∧ Kd.R (Kd.int .i64) 3 w' w.heap.size (fun _ => True) (.slice B1 x.ls.length d1) x.ls ∧ Below w.heap.size w w' := by
  have hu38 := Tryd.underlying38
  obtain ⟨_, _, rfl, ⟨A1, c1, rfl, h1, hc1⟩, ⟨A3, c3, rfl, h3, hc3⟩⟩ := hx
  have hX : RdL w (.agg #[.int .i64 x.q, .slice A1 x.ls.length c1, .int .i64 x.k, .slice A3 x.cs.length c3]) x := ⟨_, _, rfl, ⟨A1, c1, rfl, h1, hc1⟩, ⟨A3, c3, rfl, h3, hc3⟩⟩
  have HO := Aside0.mk (fun W (hW : Below w.heap.size w W) => own_calls_ x _ W (hX.below hW) hz)
  obtain ⟨F1, F2, F3⟩ := two_boxes_ w (.cells #[.int .i64 x.q, .slice A1 x.ls.length c1, .int .i64 x.k, .slice A3 x.cs.length c3] 38) (.cells #[.int .i64 0, .slice none 0 0, .int .i64 0, .slice none 0 0] 38)
  clear h1 h3 hc1 hc3 hz hX
  go_enter Tryd.func40, Tryd.ntmps40
  go_upto_region 1 with (fail)
  generalize (w.alloc (.cells #[.int .i64 x.q, .slice A1 x.ls.length c1, .int .i64 x.k, .slice A3 x.cs.length c3] 38)).alloc (.cells #[.int .i64 0, .slice none 0 0, .int .i64 0, .slice none 0 0] 38) = W0 at F1 F2 F3 ⊢
  have a0 : W0.cell? ⟨w.heap.size, 0, none⟩ = some (.int .i64 x.q) := (blk_cell F1 0).trans rfl
  have a1 : W0.cell? ⟨w.heap.size, 1, none⟩ = some (.slice A1 x.ls.length c1) := (blk_cell F1 1).trans rfl
  have a2 : W0.cell? ⟨w.heap.size, 2, none⟩ = some (.int .i64 x.k) := (blk_cell F1 2).trans rfl
  have a3 : W0.cell? ⟨w.heap.size, 3, none⟩ = some (.slice A3 x.cs.length c3) := (blk_cell F1 3).trans rfl
  have H1 := Aside0.mk F1
  have H2 := Aside0.mk F2
  have H3 := Aside0.mk F3
  clear F1 F2 F3
  go_upto_region 2 with (go_at_call 39; refine (HO.out _ H3.out).mono ?_; rintro e w2 ⟨u1, u3, rfl, ho1, ho3, hb⟩; obtain ⟨B1, d1, rfl⟩ := Kd.R_slice ho1; obtain ⟨B3, d3, rfl⟩ := Kd.R_slice ho3; have HO1 := Aside0.mk ho1; have fb := blk_below H1.out hb; have e0 := blk_frozen fb 0; have e1 := blk_frozen fb 1; have e2 := blk_frozen fb 2; have e3 := blk_frozen fb 3; have b0 : w2.cell? ⟨w.heap.size, 0, none⟩ = some (.int .i64 x.q) := (blk_cell fb 0).trans rfl; have b1 : w2.cell? ⟨w.heap.size, 1, none⟩ = some (.slice A1 x.ls.length c1) := (blk_cell fb 1).trans rfl; have b2 : w2.cell? ⟨w.heap.size, 2, none⟩ = some (.int .i64 x.k) := (blk_cell fb 2).trans rfl; have b3 : w2.cell? ⟨w.heap.size, 3, none⟩ = some (.slice A3 x.cs.length c3) := (blk_cell fb 3).trans rfl; have FB := Aside0.mk fb; have HB2 := Aside0.mk hb; clear ho1 ho3 hb fb)
  have P1 := put4_blk (a := .int .i64 x.q) (b := .slice B1 x.ls.length d1) (c := .int .i64 x.k) (d := .slice B3 x.cs.length d3) FB.out
  have P2 := put4_off (g := w.heap.size) (a := .int .i64 x.q) (b := .slice B1 x.ls.length d1) (c := .int .i64 x.k) (d := .slice B3 x.cs.length d3) (blk_below H2.out HB2.out) (by omega)
  have PO1 := put4_R (a := .int .i64 x.q) (b := .slice B1 x.ls.length d1) (c := .int .i64 x.k) (d := .slice B3 x.cs.length d3) (Kd.R_lower HO1.out (below_size H3.out)) FB.out (by decide)
  have PB := put4_below (a := .int .i64 x.q) (b := .slice B1 x.ls.length d1) (c := .int .i64 x.k) (d := .slice B3 x.cs.length d3) (below_step H3.out HB2.out) (Nat.le_refl _)
  unfold put4_ at P1 P2 PO1 PB
  generalize (((w2.setCell ⟨w.heap.size, 0, none⟩ (.int .i64 x.q)).setCell ⟨w.heap.size, 1, none⟩ (.slice B1 x.ls.length d1)).setCell ⟨w.heap.size, 2, none⟩ (.int .i64 x.k)).setCell ⟨w.heap.size, 3, none⟩ (.slice B3 x.cs.length d3) = W3 at P1 P2 PO1 PB ⊢
  clear e0 e1 e2 e3 b0 b1 b2 b3 a0 a1 a2 a3 HO1 FB HB2 H1 H2 H3 HO
  have e3 := blk_frozen P1 3
  have b3 : W3.cell? ⟨w.heap.size, 3, none⟩ = some (.slice B3 x.cs.length d3) := (blk_cell P1 3).trans rfl
  have q1 : (W3.setCell ⟨w.heap.size, 3, none⟩ (.slice none 0 0)).heap[w.heap.size]? = some (.cells #[.int .i64 x.q, .slice B1 x.ls.length d1, .int .i64 x.k, .slice none 0 0] 38 (0, 0)) := blk_put P1 3 _ rfl
  have q2 := blk_off_ (i := 3) (u := .slice none 0 0) (g := w.heap.size) P2 (by omega)
  have qO := R_put_ PO1 P1 (by decide) 3 (.slice none 0 0)
  have qB := below_set (g := w.heap.size) (j := 3) (v := .slice none 0 0) PB (Nat.le_refl _)
  go_upto_region 3 with (fail)
  generalize W3.setCell ⟨w.heap.size, 3, none⟩ (.slice none 0 0) = W4 at q1 q2 qO qB ⊢
  clear e3 b3 P1 P2 PO1 PB
  have a0 : W4.cell? ⟨w.heap.size, 0, none⟩ = some (.int .i64 x.q) := (blk_cell q1 0).trans rfl
  have a1 : W4.cell? ⟨w.heap.size, 1, none⟩ = some (.slice B1 x.ls.length d1) := (blk_cell q1 1).trans rfl
  have a2 : W4.cell? ⟨w.heap.size, 2, none⟩ = some (.int .i64 x.k) := (blk_cell q1 2).trans rfl
  have a3 : W4.cell? ⟨w.heap.size, 3, none⟩ = some (.slice none 0 0) := (blk_cell q1 3).trans rfl
  have e0 := blk_frozen q2 0
  have e1 := blk_frozen q2 1
  have e2 := blk_frozen q2 2
  have e3 := blk_frozen q2 3
  have b0 : W4.cell? ⟨w.heap.size + 1, 0, none⟩ = some (.int .i64 0) := (blk_cell q2 0).trans rfl
  have b1 : W4.cell? ⟨w.heap.size + 1, 1, none⟩ = some (.slice none 0 0) := (blk_cell q2 1).trans rfl
  have b2 : W4.cell? ⟨w.heap.size + 1, 2, none⟩ = some (.int .i64 0) := (blk_cell q2 2).trans rfl
  have b3 : W4.cell? ⟨w.heap.size + 1, 3, none⟩ = some (.slice none 0 0) := (blk_cell q2 3).trans rfl
  have Q2 := Aside0.mk q2
  have QO := Aside0.mk qO
  have QB := Aside0.mk qB
  clear q1 q2 qO qB
  go_wp2
  refine bodyPost_ret (results_cell_row rfl _ _ (w.heap.size + 1) 38 #[.int .i64 x.q, .slice B1 x.ls.length d1, .int .i64 x.k, .slice none 0 0] (0, 0) _ rfl (put4_blk Q2.out) Tryd.underlying38 rfl (by kernel_rfl)) rfl ?_
  exact ⟨_, _, rfl, put4_R QO.out Q2.out (by decide), put4_below QB.out (Nat.le_succ _)⟩
end Go.Proofs.YtgdpknmffohhaaaDoor.Pl
