/- lines.Own: a line in memory of its own. -/
import Derived.Test.YtgdpknmffohhaaaDoorLineBase
namespace Go.Proofs.YtgdpknmffohhaaaDoor.Pl
open Go.RowKit Go.Lib Go.Proofs.YtgdpknmffohhaaaDoorW.PrintWords Go.Proofs.YtgdpknmffohhaaaDoorW.PrintLast Go.Proofs.YtgdpknmffohhaaaDoorW.PrintMore
set_option linter.unusedVariables false
set_option maxRecDepth 100000 in
set_option maxHeartbeats 4000000 in
theorem own_calls_ (x : Ln) (v : Value) (w : World) (hx : RdL w v x) (hz : Sz x) :
    Calls Tryd.prog 39 #[v] w fun e w' => ∃ v1 v3, e = .returned (.agg #[.int .i64 x.q, v1, .int .i64 x.k, v3]) ∧ Kd.R (Kd.int .i64) 3 w' w.heap.size (fun _ => True) v1 x.ls ∧ Kd.R k71 71 w' w.heap.size (fun _ => True) v3 x.cs ∧ Below w.heap.size w w' := by
  have hu38 := Tryd.underlying38
  obtain ⟨_, _, rfl, ⟨A1, c1, rfl, h1, hc1⟩, ⟨A3, c3, rfl, h3, hc3⟩⟩ := hx
  have HF1 := Aside0.mk (show slices_Clone_int.f x.ls = some x.ls by unfold slices_Clone_int.f; rw [if_pos (by have := hz.1; omega)])
  have HF3 := Aside0.mk (show slices_Clone_Cell.f x.cs = some x.cs by unfold slices_Clone_Cell.f; rw [if_pos (by have := hz.2.1; omega)])
  have HC1 := Aside0.mk hc1
  have HC3 := Aside0.mk hc3
  have HK1 := Aside0.mk h1
  have HK3 := Aside0.mk h3
  clear h1 h3 hc1 hc3 hz
  go_enter Tryd.func39, Tryd.ntmps39
  go_wp2
  obtain ⟨F1, F2, F3⟩ := two_boxes_ w (.cells #[.int .i64 x.q, .slice A1 x.ls.length c1, .int .i64 x.k, .slice A3 x.cs.length c3] 38) (.cells #[.int .i64 0, .slice none 0 0, .int .i64 0, .slice none 0 0] 38)
  generalize (w.alloc (.cells #[.int .i64 x.q, .slice A1 x.ls.length c1, .int .i64 x.k, .slice A3 x.cs.length c3] 38)).alloc (.cells #[.int .i64 0, .slice none 0 0, .int .i64 0, .slice none 0 0] 38) = W0 at F1 F2 F3 ⊢
  obtain ⟨b, hb⟩ : ∃ b, w.heap.size = b := ⟨_, rfl⟩
  have g1 : W0.cell? ⟨w.heap.size, 1, none⟩ = some (.slice A1 x.ls.length c1) := (blk_cell F1 1).trans rfl
  have g3 : W0.cell? ⟨w.heap.size, 3, none⟩ = some (.slice A3 x.cs.length c3) := (blk_cell F1 3).trans rfl
  have H1 := Aside0.mk F1
  have H2 := Aside0.mk F2
  have H3 := Aside0.mk F3
  clear F1 F2 F3 hb
  go_region_with (first
    | (go_at_call 86; go_loud (refine (slices_Clone_int.calls _ _ _ _ _ (Kd.C_below HK1.out (below_drew1 H3.out)) HC1.out HF1.out).mono ?_; rintro e w1 ⟨u1, rfl, ho, hb⟩; obtain ⟨B1, d1, rfl⟩ := Kd.R_slice ho; have HO1 := Aside0.mk ho; have HB1 := Aside0.mk (below_step (below_drew1 (Below.refl _ W0)) hb); have g3' : w1.cell? ⟨w.heap.size, 3, none⟩ = some (.slice A3 x.cs.length c3) := (hb.cell (World.block_lt_of_cell? W0.drew _ g3)).trans g3; clear ho hb))
    | (go_at_call 87; refine (slices_Clone_Cell.calls _ _ _ _ _ (Kd.C_below HK3.out (below_step H3.out HB1.out)) HC3.out HF3.out).mono ?_; rintro e w2 ⟨u3, rfl, ho, hb⟩; obtain ⟨B3, d3, rfl⟩ := Kd.R_slice ho; have HO3 := Aside0.mk ho; have HB2 := Aside0.mk hb; have fb := blk_below (blk_below H1.out HB1.out) hb; have f1 := blk_frozen fb 1; have f3 := blk_frozen fb 3; have k1 : w2.cell? ⟨w.heap.size, 1, none⟩ = some (.slice A1 x.ls.length c1) := (blk_cell fb 1).trans rfl; have k3 : w2.cell? ⟨w.heap.size, 3, none⟩ = some (.slice A3 x.cs.length c3) := (blk_cell fb 3).trans rfl; have FB := Aside0.mk fb; clear ho hb fb))
  all_goals
    have P1 : ((w2.setCell ⟨w.heap.size, 1, none⟩ (.slice B1 x.ls.length d1)).setCell ⟨w.heap.size, 3, none⟩ (.slice B3 x.cs.length d3)).heap[w.heap.size]? = some (.cells #[.int .i64 x.q, .slice B1 x.ls.length d1, .int .i64 x.k, .slice B3 x.cs.length d3] 38 (0, 0)) := blk_put (blk_put FB.out 1 _ rfl) 3 _ rfl
    have P2 : ((w2.setCell ⟨w.heap.size, 1, none⟩ (.slice B1 x.ls.length d1)).setCell ⟨w.heap.size, 3, none⟩ (.slice B3 x.cs.length d3)).heap[w.heap.size + 1]? = some (.cells #[.int .i64 0, .slice none 0 0, .int .i64 0, .slice none 0 0] 38 (0, 0)) := blk_off_ (blk_off_ (blk_below (blk_below H2.out HB1.out) HB2.out) (by omega)) (by omega)
    have PO1 := R_put_ (R_put_ (Kd.R_lower (Kd.R_below HO1.out HB2.out) (below_size (below_drew1 H3.out))) FB.out (by decide) 1 (.slice B1 x.ls.length d1)) (blk_put FB.out 1 _ rfl) (by decide) 3 (.slice B3 x.cs.length d3)
    have PO3 := R_put_ (R_put_ (Kd.R_lower HO3.out (below_size (below_step H3.out HB1.out))) FB.out (by decide) 1 (.slice B1 x.ls.length d1)) (blk_put FB.out 1 _ rfl) (by decide) 3 (.slice B3 x.cs.length d3)
    have PB := below_set (j := 3) (v := .slice B3 x.cs.length d3) (below_set (j := 1) (v := .slice B1 x.ls.length d1) (below_step (below_step H3.out HB1.out) HB2.out) (Nat.le_refl _)) (Nat.le_refl _)
    generalize (w2.setCell ⟨w.heap.size, 1, none⟩ (.slice B1 x.ls.length d1)).setCell ⟨w.heap.size, 3, none⟩ (.slice B3 x.cs.length d3) = W3 at P1 P2 PO1 PO3 PB ⊢
    have a0 : W3.cell? ⟨w.heap.size, 0, none⟩ = some (.int .i64 x.q) := (blk_cell P1 0).trans rfl
    have a1 : W3.cell? ⟨w.heap.size, 1, none⟩ = some (.slice B1 x.ls.length d1) := (blk_cell P1 1).trans rfl
    have a2 : W3.cell? ⟨w.heap.size, 2, none⟩ = some (.int .i64 x.k) := (blk_cell P1 2).trans rfl
    have a3 : W3.cell? ⟨w.heap.size, 3, none⟩ = some (.slice B3 x.cs.length d3) := (blk_cell P1 3).trans rfl
    have b0 : W3.cell? ⟨w.heap.size + 1, 0, none⟩ = some (.int .i64 0) := (blk_cell P2 0).trans rfl
    have b1 : W3.cell? ⟨w.heap.size + 1, 1, none⟩ = some (.slice none 0 0) := (blk_cell P2 1).trans rfl
    have b2 : W3.cell? ⟨w.heap.size + 1, 2, none⟩ = some (.int .i64 0) := (blk_cell P2 2).trans rfl
    have b3 : W3.cell? ⟨w.heap.size + 1, 3, none⟩ = some (.slice none 0 0) := (blk_cell P2 3).trans rfl
    have e0 := blk_frozen P2 0
    have e1 := blk_frozen P2 1
    have e2 := blk_frozen P2 2
    have e3 := blk_frozen P2 3
    have Q2 := Aside0.mk P2
    have QO1 := Aside0.mk PO1
    have QO3 := Aside0.mk PO3
    have QB := Aside0.mk PB
    clear P1 P2 PO1 PO3 PB f1 f3 k1 k3 g1 g3 HO1 HO3 FB HB1 HB2
    go_wp2
    refine bodyPost_ret (results_cell_row rfl _ _ (w.heap.size + 1) 38 #[.int .i64 x.q, .slice B1 x.ls.length d1, .int .i64 x.k, .slice B3 x.cs.length d3] (0, 0) _ rfl (put4_blk Q2.out) Tryd.underlying38 rfl (by kernel_rfl)) rfl ?_
    exact ⟨_, _, rfl, put4_R QO1.out Q2.out (by decide), put4_R QO3.out Q2.out (by decide), put4_below QB.out (Nat.le_succ _)⟩
end Go.Proofs.YtgdpknmffohhaaaDoor.Pl
